/- Part 13 of what mgTop rests on. -/
import Derived.Deep.RegionHeld
import Derived.Deep.RegionWith
import Derived.Deep.Cut
import Derived.IntWalk
import Derived.Shelf.Abstract
import Derived.Test.YtialngdffhmobaaGreatDoorShelf
import Derived.Lib.IndexLaws
import Derived.Test.YtialngdffhmobaaGreatDoorU10
import Derived.Test.YtialngdffhmobaaGreatDoorU03
import Derived.Test.YtialngdffhmobaaGreatDoorU01
import Derived.Test.YtialngdffhmobaaGreatDoorU07
import Derived.Test.YtialngdffhmobaaGreatDoorU11
import Derived.Test.YtialngdffhmobaaGreatDoorU00
set_option linter.unusedVariables false
set_option linter.unusedSimpArgs false
set_option maxHeartbeats 16000000
set_option maxRecDepth 1000000
namespace Go.Proofs.YtialngdffhmobaaGreatDoor
section
open Go.RowKit
theorem copied_upto(N:Nat):∀(S:Nat→Prop) (w:World) (KA:Option Addr) (c k:Nat) (n:Int) (t:ByteArray) (ks:Fo),ks.cnt<N→FoIn S w KA ks→ks.len≤c→c≤9223372036854775807→(foB ks).length≤549755813888→(∀b,w.heap.size≤b→S b)→
  Calls Tryz.prog 273 #[.agg #[.int .u8 k,.string t,.int .i64 n,.slice KA ks.len c]] w (Copied S k t n ks w):=by
 induction N with
 | zero=>intro S w KA c k n t ks h;omega
 | succ N ih =>
  intro S w KA c k n t ks hN h hc hc2 hb hS;exact copied_of (fun S' w' KA' c' k' n' t' ks' hlt h' hc' hc2' hb' hS'=>ih S' w' KA' c' k' n' t' ks' (by omega) h' hc' hc2' hb' hS') h hc hc2 hb hS
theorem copied_any{S:Nat→Prop}{w:World}{KA:Option Addr}{c k:Nat}{n:Int}{t:ByteArray}{ks:Fo}(h:FoIn S w KA ks)(hc:ks.len≤c)(hc2:c≤9223372036854775807)(hb:(foB ks).length≤549755813888)(hS :∀b,w.heap.size≤b→S b):
  Calls Tryz.prog 273 #[.agg #[.int .u8 k,.string t,.int .i64 n,.slice KA ks.len c]] w (Copied S k t n ks w):=copied_upto (ks.cnt+1) S w KA c k n t ks (by omega) h hc hc2 hb hS
theorem find_nil(b:Nat)(w:World):Calls Tryz.prog 272 #[.pointer (some ⟨b,0,none⟩),.slice none 0 0] w fun e w'=>e = .returned (.pointer (some ⟨b,0,none⟩))∧w'=w:=by
 go_enter Tryz.func272,Tryz.ntmps272
 go_wp2_with fail
 go_loopw [9,0] (fun i p wr=>i = .int .i64 0∧p = .pointer (some ⟨b,0,none⟩)∧wr=w) (fun _ _ _=>0)
 case atStart=>exact⟨rfl,rfl,rfl⟩
 case round =>
  obtain⟨rfl,rfl,rfl⟩:=hrel
  go_wp2_with fail
  go_ret;exact⟨rfl,rfl⟩
theorem getNode_any{S:Nat→Prop}{w:World}{KA:Option Addr}{c k:Nat}{n:Int}{t:ByteArray}{ks:Fo}(h:FoIn S w KA ks)(hc:ks.len≤c)(hc2:c≤9223372036854775807)(hb:(foB ks).length≤549755813888)(hS :∀b,w.heap.size≤b→S b):
  Calls Tryz.prog 250 #[.agg #[.int .u8 k,.string t,.int .i64 n,.slice KA ks.len c],.slice none 0 0] w fun e w'=>(∃KA c,e = .returned (.tuple #[.agg #[.int .u8 k,.string t,.int .i64 n,.slice KA ks.len c],.bool true])∧FoIn S w' KA ks∧ks.len≤c∧c≤9223372036854775807)∧Below w.heap.size w w':=by
 have H:=hide (h.mono (S':=fun b=>S b∧b≠w.heap.size+1) (fun b hb h=>⟨h,by omega⟩));have HS:=hide hS;clear h hS;go_enter Tryz.func250,Tryz.ntmps250
 go_wp2_with(first
  | (go_at_call 272;(with_reducible refine(find_nil _ _).mono ?_);rintro e1 w1 ⟨rfl,rfl⟩)
  | (go_at_call 273;(with_reducible refine(copied_any (S:=fun b=>S b∧b≠w.heap.size+1) (H.out.below (below2 _ _)) hc hc2 hb (by intro b hb;simp at hb;exact⟨HS.out b (by omega),by omega⟩)).mono ?_);rintro e2 w2 ⟨KA2,c2,rfl,hin,hca,hcb,hB⟩;obtain⟨hy2,hg2,hu2⟩:=bbox (N:=w.heap.size+1) hB (by simp);have Hin:=hide hin;have HB2:Hid (Below w.heap.size w w2):=hide (blw_up2 hB);clear hin hB))
 have cx0:=(hy2 0).trans (World.cell?_alloc2_new _ _ _ _);have cx1:=(hy2 1).trans (World.cell?_alloc2_new _ _ _ _);have cx2:=(hy2 2).trans (World.cell?_alloc2_new _ _ _ _);have cx3:=(hy2 3).trans (World.cell?_alloc2_new _ _ _ _);simp only[List.getElem?_toArray,List.getElem?_cons_zero,List.getElem?_cons_succ]at cx0 cx1 cx2 cx3;obtain⟨s0,s1,s2,s3⟩:=same4 (x:= .int .u8 k) (y:= .string t) (z:= .int .i64 n) (u:= .slice KA2 ks.len c2) cx0 cx1 cx2 cx3;refine bodyPost_ret (v:= .tuple #[.agg #[.int .u8 k,.string t,.int .i64 n,.slice KA2 ks.len c2],.bool true]) ?_ rfl ?_
 ·simp only[results,Tryz.results250];go_simp
 ·exact⟨⟨_,_,rfl,(Hin.out.keep fun b hb=>heap4 _ _ _ _ _ _ _ _ _ _ hb.2).mono (fun b _ h=>h.1),hca,hcb⟩,(((HB2.out.setCell (by simp) _).setCell (by simp) _).setCell (by simp) _).setCell (by simp) _⟩
theorem own_foS{S:Nat→Prop}{n:Nat}{w:World}{v:Value}{vs:List Value}{f:Fo}(h:w.ownsRow 0 152 4 v n vs)(hB :∀g,v.ownBlock=some g→S g)(hf:FoCells (fun b=>S b∧v.ownBlock≠some b) w vs f)(hn:n=f.len):
  ∃A c,v = .slice A f.len c∧FoIn S w A f∧f.len≤c∧c≤9223372036854775807:=by
 subst hn;rcases h.2 with⟨rfl,h0⟩|⟨g,cap,cur,rfl,hb,hgg,hn,hc,_⟩
 ·have:f = .nil:=by cases f with
   | nil=>rfl
   | cons=>simp[Fo.len]at h0
  subst this;exact⟨none,0,rfl,trivial,Nat.le_refl _,by omega⟩
 ·refine⟨_,_,rfl,hf.at_ (fun b hS=>hS.1) (hB g rfl) (fun j u hu=>?_),hn,by unfold maxLen at hc;omega⟩;have:=h.cells (g:=g) rfl j u hu
  rwa [Addr.add_lit]at this
theorem cell_four_new2(w:World)(ob:Obj)(a b c d:Value)(t:TypeId):∀j u,[a,b,c,d][j]?=some u→((w.alloc ob).alloc (.cells #[a,b,c,d] t)).cell? ((⟨w.heap.size+1,0,none⟩:Addr).add j)=some u:=by
 intro j u hu;rw[Addr.add_lit,Nat.zero_add,World.cell?_alloc2_new]
 simpa using hu
theorem own_below{e:TypeId}{size n:Nat}{w w':World}{v:Value}{xs:List Value}(h:w.ownsRow 0 e size v n xs)(hl :∀g,v.ownBlock=some g→g<w.heap.size)(hB:Below w.heap.size w w'):w'.ownsRow 0 e size v n xs:=by
 refine⟨h.1,?_⟩;rcases h.2 with⟨rfl,h0⟩|⟨g,cap,cur,rfl,hb,hg,hr⟩
 ·exact .inl ⟨rfl,h0⟩
 ·exact .inr ⟨g,cap,cur,rfl,hb,(hB.block g (hl g rfl)).trans hg,hr⟩
theorem Fo.take_next :∀{f:Fo} {i k:Nat} {t:ByteArray} {n:Int} {ks r:Fo},f.drop i = .cons k t n ks r→f.take (i+1)=(f.take i).app (.cons k t n ks .nil):=by
 intro f
 induction f with
 | nil=>intro i k t n ks r h;cases i<;>cases h
 | cons k' t' n' ks' r' _ ih =>
  intro i k t n ks r h;cases i with
  | zero=>cases h;cases r'<;>rfl
  | succ i=>simp only[Fo.take,Fo.app];rw[←ih (i:=i) h]
theorem Fo.take_whole :∀f:Fo,f.take f.len=f:=by
 intro f
 induction f with
 | nil=>rfl
 | cons k t n ks r _ ih=>simp only[Fo.len,Fo.take,ih]
theorem drop_foB :∀{f:Fo} {i k:Nat} {t:ByteArray} {n:Int} {ks r:Fo},f.drop i = .cons k t n ks r→(foB ks).length≤(foB f).length:=by
 intro f
 induction f with
 | nil=>intro i k t n ks r h;cases i<;>cases h
 | cons k' t' n' ks' r' _ ih =>
  intro i k t n ks r h;cases i with
  | zero=>cases h;simp[foB];omega
  | succ i=>have:=ih (i:=i) h;simp[foB];omega
theorem rowCopied{S:Nat→Prop}{w:World}{A:Option Addr}{c:Nat}{f:Fo}(h:FoIn S w A f)(hc:f.len≤c)(hc2:c≤9223372036854775807)(hb:(foB f).length≤549755813888)(hS :∀b,w.heap.size≤b→S b):
  Calls Tryz.prog 220 #[.slice A f.len c] w fun e w'=>(∃A c,e = .returned (.slice A f.len c)∧FoIn S w' A f∧f.len≤c∧c≤9223372036854775807)∧Below w.heap.size w w':=by
 have hlen:f.len≤549755813888:=by have:=foB_len f;omega
 have H:=hide (h.mono (S':=fun b=>S b∧b<w.heap.size) fun b hb h=>⟨h,hb⟩);have HS:=hide hS;clear hS;obtain⟨i0,hi,hz0,hz1,hz2⟩:=info_parts InfoNode;clear h;go_enter Tryz.func220,Tryz.ntmps220
 go_wp2_with fail
 go_loopw [10,3] (fun i v wr=>∃(j:Nat) (vs:List Value),i = .int .i64 j∧j≤f.len∧Hid (wr.ownsRow 0 152 4 v j vs)∧Hid (∀g,v.ownBlock=some g→w.heap.size≤g∧g<wr.heap.size)∧
  Hid (FoCells (fun b=>S b∧v.ownBlock≠some b) wr vs (f.take j))∧Hid (Below w.heap.size w wr)) (fun i _ _=>f.len-(intOf i).toNat)
 case atStart=>exact⟨0,[],rfl,Nat.zero_le _,hide (World.ownsRow_nil _ _ _ _),hide (by simp[Value.ownBlock]),hide (by cases f<;>rfl),hide (Below.refl _ _)⟩
 case round =>
  obtain⟨j,vs,rfl,hj,Ho,Hg,Hc,HB⟩:=hrel;by_cases hlt:j<f.len
  ·obtain⟨b,o,KA,kc,k,t,n,ks,r,rfl,hd,d0,d1,d2,d3,g1,g2,g3,g4,g5,g6,_⟩:=(H.out.below HB.out).at_ hlt;have hkb:=Nat.le_trans (drop_foB hd) hb;have HG:=hide (g6.mono (S':=fun b=>S b∧u3.ownBlock≠some b) (fun b hb hS=>⟨hS.1,fun e=>by have:=(Hg.out b e).1;have:=hS.2;omega⟩));have Hd:=hide hd;clear g6 hd
   go_wp2_with(first
    | (go_at_call 250;(with_reducible refine(getNode_any (S:=fun b=>S b∧u3.ownBlock≠some b) (HG.out.below (below_alloc _ _)) g4 g5 hkb (fun b hb=>⟨HS.out b (by have:=HB.out.size;simp at hb;omega),fun e=>by have:=(Hg.out b e).2;simp at hb;omega⟩)).mono ?_);rintro e3 w3 ⟨⟨KA3,c3,rfl,hin,hca,hcb⟩,hB⟩;have hsz3:=hB.size;simp at hsz3;have Hin:=hide hin;have HB3:Hid (Below w.heap.size w w3):=hide (HB.out.trans (((below_alloc _ _).mono HB.out.size).trans (hB.mono (Nat.le_trans HB.out.size (by simp)))));have HR3:Hid (Below wr.heap.size wr w3):=hide (blw_up (below_alloc _ _) hB);clear hin hB)
    | (at_builtin;refine wpList_append_own2 _ rfl _ _ 28 rfl 152 i0 (.agg #[.int .u8 0,.string ByteArray.empty,.int .i64 0,.slice none 0 0]) 4 56 Tryz.underlying28 hi hz0 hz1 hz2 rfl (by decide) _ j vs rfl ((own_below Ho.out (fun g hg=>(Hg.out g hg).2) (HR3.out.trans ((below2 _ _).mono HR3.out.size)))) ⟨w3.heap.size+1,0,none⟩ 1 1 [.int .u8 k,.string t,.int .i64 n,.slice KA3 ks.len c3] rfl rfl (cell_four_new2 _ _ _ _ _ _ _) (by intro u hu;simp at hu;rcases hu with rfl|rfl|rfl|rfl<;>rfl) (by unfold maxLen;omega) (by omega) ?_;intro v' w4 hown hgrow hnil hwhere))
   have hT:Hid (Below w.heap.size w ((w3.alloc (.cells #[.int .u8 k,.string t,.int .i64 n,.slice KA3 ks.len c3] 152)).alloc (.cells #[.int .u8 k,.string t,.int .i64 n,.slice KA3 ks.len c3] 152))):=hide (HB3.out.trans ((below2 _ _).mono HB3.out.size));have hR:Below wr.heap.size wr ((w3.alloc (.cells #[.int .u8 k,.string t,.int .i64 n,.slice KA3 ks.len c3] 152)).alloc (.cells #[.int .u8 k,.string t,.int .i64 n,.slice KA3 ks.len c3] 152)):=HR3.out.trans ((below2 _ _).mono HR3.out.size);refine⟨⟨j+1,_,by simp,by omega,hide hown,hide ?_,hide ?_,hide ?_⟩,by simp[intOf];omega⟩
   ·intro g hg;refine⟨?_,(hown.lt g hg).2⟩;rcases hwhere with e|e
    ·exact(Hg.out g (e▸hg)).1
    ·rw[hg]at e;injection e with e;have:=hT.out.size;omega
   ·rw[Fo.take_next Hd.out];refine FoCells.snoc g1 g2 g3 hca hcb ?_ ?_
    ·have hi2:FoIn (fun b=>(S b∧u3.ownBlock≠some b)∧b<w3.heap.size) w3 KA3 ks:=Hin.out.mono fun b hb hS=>⟨hS,hb⟩;refine(hi2.keep (w':=w4) fun b hb=>?_).mono fun b _ hb=>⟨hb.1.1,fun e=>?_⟩
     ·rw[hgrow.block b (by have:=hb.2;simp;omega) (fun e=>hb.1.2 e.symm)];exact(below2 _ _).block b hb.2
     ·rcases hwhere with e2|e2
      ·exact hb.1.2 (e2▸e)
      ·rw[e]at e2;injection e2 with e2;have:=hb.2;simp at e2;omega
    ·refine FoCells.keep (fun b hb hS=>?_) (fun b hb hS=>⟨hS.1,fun e=>?_⟩) Hc.out
     ·rw[hgrow.block b (by simp;omega) (fun e=>hS.2 e.symm)];exact hR.block b hb
     ·rcases hwhere with e2|e2
      ·exact hS.2 (e2▸e)
      ·rw[e]at e2;injection e2 with e2;simp at e2;omega
   ·exact Below.grown hT.out hgrow hT.out.size (fun k hk=>(Hg.out k hk).1)
  ·have hje:j=f.len:=by omega
   go_wp2_with fail
   go_ret;have hfe:f.take j=f:=by rw[hje];exact Fo.take_whole f
   obtain⟨A1,c1,rfl,q1,q2,q3⟩:=own_foS Ho.out (fun g hg=>HS.out g (Hg.out g hg).1) (by rw[←hfe];exact Hc.out) hje;exact⟨⟨_,_,rfl,q1,q2,q3⟩,HB.out⟩
def smallI(n:Int):Prop:=-1099511627776≤n∧n≤1099511627776
def wideI(n:Int):Prop:=-4611686018427387904≤n∧n≤4611686018427387904
theorem smallI.wide{n:Int}(h:smallI n):wideI n:=⟨by have:=h.1;omega,by have:=h.2;omega⟩
theorem smallI.i64{n:Int}(h:smallI n):isInt64 n:=⟨by have:=h.1;omega,by have:=h.2;omega⟩
structure FnOk(f:FuncId)(cs:Array Value)(w:World)(g:Int→Int):Prop where
 en:Enters Tryz.prog f
 ca :∀(W:World) (k:Int),Below w.heap.size w W→smallI k→Calls Tryz.prog f (#[.int .i64 k]++cs) W fun e w'=>e = .returned (.int .i64 (g k))∧Below W.heap.size W w'
theorem FnOk.up{f:FuncId}{cs:Array Value}{w w':World}{g:Int→Int}(h:FnOk f cs w g)(hB:Below w.heap.size w w'):FnOk f cs w' g:=⟨h.en,fun W k hW hk=>h.ca W k (hB.trans (hW.mono hB.size)) hk⟩
theorem ints_take{A:Option Addr}{a:List Int}{w:World}(ha:IntsIn Any w A a)(n:Nat):IntsIn Any w A (a.take n):=by
 refine⟨?_,fun x hx=>ha.2.1 x (List.mem_of_mem_take hx),by have:=ha.2.2;simp;omega⟩;rcases ha.1 with h|⟨q,o,rfl,hS,hc⟩
 ·have:a=[]:=by simpa using h
  subst this;exact .inl (by simp)
 ·refine .inr ⟨q,o,rfl,hS,fun j u hu=>hc j u ?_⟩;rw[List.map_take,List.getElem?_take]at hu;split at hu
  ·exact hu
  ·cases hu
theorem under_any{A A':Option Addr}{a b:List Int}{c c':Nat}{w:World}(ha:IntsIn Any w A a)(hb:IntsIn Any w A' b)(hca:a.length≤c):
  Calls Tryz.prog 236 #[.slice A a.length c,.slice A' b.length c'] w fun e w'=>RetB (underP a b) e∧Below w.heap.size w w':=by
 by_cases hle:b.length≤a.length
 ·have h1:decide ((b.length:Int)≤(a.length:Int))=true:=by simp;omega
  have hbc:b.length≤c:=by omega
  have Ht:Hid (IntsIn Any w A (a.take b.length)):=hide (ints_take ha _);have hl:(a.take b.length).length=b.length:=by simp;omega
  have Hb:=hide hb;have HE:Hid (Calls Tryz.prog 112 #[.slice A b.length c,.slice A' b.length c'] w fun e w'=>RetB (a.take b.length=b) e∧∃n,w'=w.drewN n):=hide (by have:=equalInts_any (c:=c) (c':=c') Ht.out Hb.out;rw[hl]at this;exact this);have hiff:(a.take b.length=b)↔underP a b:=by unfold underP;rw[List.prefix_iff_eq_take];exact eq_comm
  have Hiff:=hide hiff;clear ha hb hiff;go_enter Tryz.func236,Tryz.ntmps236
  go_wp2_with(go_at_call 112;(with_reducible refine HE.out.mono ?_);rintro e1 w1 ⟨⟨q,rfl,hq⟩,n1,rfl⟩)
  go_ret;exact⟨⟨q,rfl,hq.trans Hiff.out⟩,below_drewN (Below.refl _ _) _⟩
 ·have h1:decide ((b.length:Int)≤(a.length:Int))=false:=by simp;omega
  have hn :¬underP a b:=fun h=>hle h.length_le;clear ha hb;go_enter Tryz.func236,Tryz.ntmps236
  go_wp2_with fail
  go_ret;exact⟨RetB.no hn,Below.refl _ _⟩
theorem i64_wrap{n:Int}(h:isInt64 n):IntKind.i64.wrap n=n:=by rw[IntKind.wrap_i64];obtain⟨h1,h2⟩:=h;omega
theorem upFn_any{W:World}{b:Nat}{at_ k:Int}(hc:W.cell? ⟨b,0,none⟩=some (.int .i64 at_))(hk:wideI k):Calls Tryz.prog 279 #[.int .i64 k,.pointer (some ⟨b,0,none⟩)] W fun e w'=>e = .returned (.int .i64 (upOf at_ k))∧w'=W:=by
 have hw:=i64_wrap (n:=k+1) ⟨by have:=hk.1;omega,by have:=hk.2;omega⟩;clear hk;unfold upOf;by_cases h:at_≤k
 ·have hd:decide (at_≤k)=true:=by simpa using h
  rw[if_pos h];go_enter Tryz.func279,Tryz.ntmps279
  go_wp2_with fail
  go_ret;exact⟨rfl,rfl⟩
 ·have hd:decide (at_≤k)=false:=by simpa using h
  rw[if_neg h];go_enter Tryz.func279,Tryz.ntmps279
  go_wp2_with fail
  go_ret;exact⟨rfl,rfl⟩
theorem downFn_any{W:World}{b:Nat}{at_ k:Int}(hc:W.cell? ⟨b,0,none⟩=some (.int .i64 at_))(hk:wideI k):Calls Tryz.prog 280 #[.int .i64 k,.pointer (some ⟨b,0,none⟩)] W fun e w'=>e = .returned (.int .i64 (downOf at_ k))∧w'=W:=by
 have hw:=i64_wrap (n:=k-1) ⟨by have:=hk.1;omega,by have:=hk.2;omega⟩;clear hk;unfold downOf;by_cases h:at_<k
 ·have hd:decide (at_<k)=true:=by simpa using h
  rw[if_pos h];go_enter Tryz.func280,Tryz.ntmps280
  go_wp2_with fail
  go_ret;exact⟨rfl,rfl⟩
 ·have hd:decide (at_<k)=false:=by simpa using h
  rw[if_neg h];go_enter Tryz.func280,Tryz.ntmps280
  go_wp2_with fail
  go_ret;exact⟨rfl,rfl⟩
theorem hmf :∀(fn:Fn) (first cap:Array Value) (w:World),(Instr.makeFunc fn first cap).run Tryz.prog w = .ok (.func fn first cap) w:=fun _ _ _ _=>rfl
theorem up_any{w:World}{at_:Int}:Calls Tryz.prog 262 #[.int .i64 at_] w fun e w'=>e = .returned (.func (.func 279) #[] #[.pointer (some ⟨w.heap.size,0,none⟩)])∧w'=w.alloc (.cells #[.int .i64 at_] 3):=by
 have hmf:=hmf;go_enter Tryz.func262,Tryz.ntmps262
 go_wp2_with fail
 go_ret;exact⟨rfl,rfl⟩
theorem down_any{w:World}{at_:Int}:Calls Tryz.prog 263 #[.int .i64 at_] w fun e w'=>e = .returned (.func (.func 280) #[] #[.pointer (some ⟨w.heap.size,0,none⟩)])∧w'=w.alloc (.cells #[.int .i64 at_] 3):=by
 have hmf:=hmf;go_enter Tryz.func263,Tryz.ntmps263
 go_wp2_with fail
 go_ret;exact⟨rfl,rfl⟩
theorem upOk(w:World)(at_:Int):FnOk 279 #[.pointer (some ⟨w.heap.size,0,none⟩)] (w.alloc (.cells #[.int .i64 at_] 3)) (upOf at_):=
 ⟨enters_of Tryz.func279 (by kernel_rfl) rfl,fun W k hW hk=>(upFn_any (b:=w.heap.size) (at_:=at_) (by rw[hW.cell (p:=⟨w.heap.size,0,none⟩) (by simp)];simp) hk.wide).mono (by rintro e w' ⟨rfl,rfl⟩;exact⟨rfl,Below.refl _ _⟩)⟩
theorem downOk(w:World)(at_:Int):FnOk 280 #[.pointer (some ⟨w.heap.size,0,none⟩)] (w.alloc (.cells #[.int .i64 at_] 3)) (downOf at_):=
 ⟨enters_of Tryz.func280 (by kernel_rfl) rfl,fun W k hW hk=>(downFn_any (b:=w.heap.size) (at_:=at_) (by rw[hW.cell (p:=⟨w.heap.size,0,none⟩) (by simp)];simp) hk.wide).mono (by rintro e w' ⟨rfl,rfl⟩;exact⟨rfl,Below.refl _ _⟩)⟩
def IntsO(w w':World)(A:Option Addr)(c:Nat)(l:List Int):Prop:=∃L,RowO 3 w' A c l.length (l.map (.int .i64)) L∧New w w' L
theorem modify_at{xs:List Int}{j:Nat}{g:Int→Int}{x:Int}(h:xs[j]?=some x):(xs.modify j g).map (Value.int .i64)=(xs.map (Value.int .i64)).set j (.int .i64 (g x)):=by
 apply List.ext_getElem?;intro i;rw[List.getElem?_map,List.getElem?_modify,List.getElem?_set,List.length_map,List.getElem?_map];by_cases e:j=i
 ·subst e;rw[h,if_pos rfl,if_pos (List.getElem?_eq_some_iff.1 h).1];simp
 ·simp[e]
theorem modify_none{xs:List Int}{j:Nat}{g:Int→Int}(h:xs.length≤j):xs.modify j g=xs:=by
 apply List.ext_getElem?;intro i;rw[List.getElem?_modify];by_cases e:j=i
 ·subst e;rw[List.getElem?_eq_none h];rfl
 ·simp[e]
theorem step_any{A:Option Addr}{xs:List Int}{c j:Nat}{f:FuncId}{cs:Array Value}{g:Int→Int}{w:World}(h:IntsIn Any w A xs)(hlen:xs.length≤549755813888)(hsm :∀n∈xs,smallI n)(hj:j≤549755813888)(hf:FnOk f cs w g):
  Calls Tryz.prog 278 #[.slice A xs.length c,.int .i64 j,.func (.func f) #[] cs] w fun e w'=>(∃A' c',e = .returned (.slice A' xs.length c')∧IntsO w w' A' c' (xs.modify j g))∧Below w.heap.size w w':=by
 have hone :∀u∈xs.map (Value.int .i64),u.oneCell'=true:=by intro u hu;obtain⟨x,_,rfl⟩:=List.mem_map.1 hu;rfl
 have HC:Hid (Calls Tryz.prog 219 #[.slice A xs.length c] w fun e w'=>∃v,e = .returned v∧w'.ownsRow 0 3 1 v xs.length (xs.map (.int .i64))∧(∀g,v.ownBlock=some g→w.heap.size≤g)∧Below w.heap.size w w'):=hide (cloneInts_any h.1 (by simp) hone hlen);have Hf:=hide hf;have Hsm:=hide hsm;clear h hone hf hsm;by_cases hlt:j<xs.length
 ·have hx:xs[j]?=some xs[j]:=List.getElem?_eq_getElem hlt;have hxm:smallI xs[j]:=Hsm.out _ (List.getElem_mem hlt);generalize xs[j]=x at hx hxm;have hd:decide ((j:Int)<(xs.length:Int))=true:=by simp;omega
  have Hx:=hide hx;have Hxm:=hide hxm;have hen:=Hf.out.en;clear hx hxm;go_enter Tryz.func278,Tryz.ntmps278
  go_upto_region 3 with(go_at_call 219;(with_reducible refine HC.out.mono ?_);rintro e1 w1 ⟨v,rfl,hown,hg,hB⟩;obtain⟨A1,c1,rfl⟩:=own_shape hown;have Hown:=hide hown;have Hg:=hide hg;have HB1:=hide hB;clear hown hg hB)
  rcases Hown.out.2 with⟨_,h0⟩|⟨gb,cap,cur,hv,hb,hgb,hnc,hcm,hcz⟩
  ·omega
  ·injection hv with hv1 hv2 hv3;clear hv2;subst hv1 hv3;have hgl:w.heap.size≤gb:=Hg.out gb rfl;have hgs:gb<w1.heap.size:=(Array.getElem?_eq_some_iff.1 hgb).1;have hce:w1.cell? ⟨gb,j,none⟩=some (.int .i64 x):=by rw[Hown.out.cellAt j (by omega),List.getElem?_map,Hx.out];rfl
   have hcl:Hid (Calls Tryz.prog f (#[.int .i64 x]++cs) w1 fun e w'=>e = .returned (.int .i64 (g x))∧Below w1.heap.size w1 w'):=hide (Hf.out.ca w1 x HB1.out Hxm.out);clear hgb hcm hnc hcz;have hen :∀(args:Array Value) (W:World),(callFunc f args).run Tryz.prog W = .ok (.enter f args) W:=Hf.out.en;refine wp_region_lit ?_;refine sk ?_;refine sk ?_;refine sk ?_;refine sk ?_;refine sk ?_;refine sk ?_;refine sk ?_;refine gc hcl.out ?_;rintro e2 w2 ⟨rfl,hB⟩;refine⟨_,rfl,?_⟩;have hce2:w2.cell? ⟨gb,j,none⟩=some (.int .i64 x):=(hB.cell (p:=⟨gb,j,none⟩) hgs).trans hce;have hfz2:w2.frozen? ⟨gb,j,none⟩=false:=(hB.frozen (p:=⟨gb,j,none⟩) hgs).trans (Hown.out.frozenAt j);have HB2:=hide hB;clear hB hen;refine sk ?_;refine ss ?_;refine wpList_nil ?_;rename_i hK;refine hK _ _ ?_;clear hK
   go_wp2_with fail
   go_ret;have ho2:w2.ownsRow 0 3 1 (.slice (some ⟨gb,0,none⟩) xs.length c1) xs.length (xs.map (.int .i64)):=own_below Hown.out (fun g hg=>(Hown.out.lt g hg).2) HB2.out;obtain⟨ho3,hgr⟩:=ho2.stored j (.int .i64 (g x));refine⟨⟨_,_,rfl,ob (.slice (some ⟨gb,0,none⟩) xs.length c1),⟨?_,by simp⟩,⟨ob_nodup _,fun b hb=>Hg.out b (mem_ob.1 hb),fun b hb=>?_⟩⟩,?_⟩
   ·rw[modify_at Hx.out,List.length_modify];exact ho3
   ·have:=(ho3.lt b (mem_ob.1 hb)).2;exact this
   ·exact(HB1.out.trans (HB2.out.mono HB1.out.size)).setCell (p:=⟨gb,j,none⟩) hgl _
 ·have hd:decide ((j:Int)<(xs.length:Int))=false:=by simp;omega
  have hmod:xs.modify j g=xs:=modify_none (by omega);go_enter Tryz.func278,Tryz.ntmps278
  go_wp2_with(go_at_call 219;(with_reducible refine HC.out.mono ?_);rintro e1 w1 ⟨v,rfl,hown,hg,hB⟩;obtain⟨A1,c1,rfl⟩:=own_shape hown;have Hown:=hide hown;have Hg:=hide hg;have HB1:=hide hB;clear hown hg hB)
  go_ret;refine⟨⟨_,_,rfl,ob (.slice A1 xs.length c1),⟨?_,by rw[hmod]⟩,⟨ob_nodup _,fun b hb=>Hg.out b (mem_ob.1 hb),fun b hb=>(Hown.out.lt b (mem_ob.1 hb)).2⟩⟩,HB1.out⟩;rw[hmod];exact Hown.out
theorem past_any{A:Option Addr}{xs:List Int}{c j:Nat}{f:FuncId}{cs:Array Value}{g:Int→Int}{w:World}(h:IntsIn Any w A xs)(hlen:xs.length≤549755813888)(hsm :∀n∈xs,smallI n)(hj:j≤549755813888)(hf:FnOk f cs w g):
  Calls Tryz.prog 261 #[.agg #[.slice A xs.length c,.int .i64 j],.func (.func f) #[] cs] w fun e w'=>(∃A' c',e = .returned (.slice A' xs.length c')∧IntsO w w' A' c' (xs.modify j g))∧Below w.heap.size w w':=by
 have HB0:Below w.heap.size w (w.alloc (.cells #[.slice A xs.length c,.int .i64 j] 300)):=below_alloc _ _;have HS:=hide (step_any (c:=c) (h.below HB0) hlen hsm hj (hf.up HB0));clear h hsm hf HB0;go_enter Tryz.func261,Tryz.ntmps261
 go_wp2_with(go_at_call 278;(with_reducible refine HS.out.mono ?_);rintro e1 w1 ⟨⟨A1,c1,rfl,L,hr,hn⟩,hB⟩;have HR:=hide hr;have HN:=hide hn;have HB:=hide hB;clear hr hn hB)
 go_ret;exact⟨⟨_,_,rfl,L,HR.out,HN.out.from (by simp)⟩,blw_up (below_alloc _ _) HB.out⟩
theorem through_any{A A':Option Addr}{a b:List Int}{c c':Nat}{w:World}(ha:IntsIn Any w A a)(hb:IntsIn Any w A' b)(hca:a.length≤c):
  Calls Tryz.prog 260 #[.slice A a.length c,.slice A' b.length c'] w fun e w'=>(∃j:Nat,j=(if underP a b then b.length else a.length)∧e = .returned (.agg #[.slice A a.length c,.int .i64 j]))∧Below w.heap.size w w':=by
 have HB0:Below w.heap.size w (w.alloc (.cells #[.slice none 0 0,.int .i64 0] 300)):=below_alloc _ _;have HU:=hide (under_any (c':=c') (ha.below HB0) (hb.below HB0) hca);clear ha hb HB0;have hbox :∀w1,Below (w.alloc (.cells #[.slice none 0 0,.int .i64 0] 300)).heap.size (w.alloc (.cells #[.slice none 0 0,.int .i64 0] 300)) w1→w1.cell? ⟨w.heap.size,0,none⟩=some (.slice none 0 0)∧w1.cell? ⟨w.heap.size,1,none⟩=some (.int .i64 0)∧∀o,w1.frozen? ⟨w.heap.size,o,none⟩=false:=fun w1 hB =>
  ⟨by rw[hB.cell (p:=⟨w.heap.size,0,none⟩) (by simp)];simp,by rw[hB.cell (p:=⟨w.heap.size,1,none⟩) (by simp)];simp,fun o=>by rw[hB.frozen (p:=⟨w.heap.size,o,none⟩) (by simp)];simp⟩
 have Hbox:=hide hbox;clear hbox;by_cases hu:underP a b
 ·rw[if_pos hu];go_enter Tryz.func260,Tryz.ntmps260
  go_wp2_with(go_at_call 236;(with_reducible refine HU.out.mono ?_);rintro e1 w1 ⟨⟨q,rfl,hq⟩,hB⟩;obtain⟨b0,b1,bf⟩:=Hbox.out w1 hB;have HB:=hide hB;have hq2:q=true:=hq.mpr hu;subst hq2;clear hB hq)
  refine bodyPost_ret (v:= .agg #[.slice A a.length c,.int .i64 b.length]) ?_ rfl ?_
  ·simp only[results,Tryz.results260];go_simp
  ·exact⟨⟨_,rfl,rfl⟩,((blw_up (below_alloc _ _) HB.out).setCell (p:=⟨w.heap.size,0,none⟩) (Nat.le_refl _) _).setCell (p:=⟨w.heap.size,1,none⟩) (Nat.le_refl _) _⟩
 ·rw[if_neg hu];go_enter Tryz.func260,Tryz.ntmps260
  go_wp2_with(go_at_call 236;(with_reducible refine HU.out.mono ?_);rintro e1 w1 ⟨⟨q,rfl,hq⟩,hB⟩;obtain⟨b0,b1,bf⟩:=Hbox.out w1 hB;have HB:=hide hB;have hq2:q=false:=(Bool.eq_false_iff.2 fun e=>hu (hq.mp e));subst hq2;clear hB hq)
  refine bodyPost_ret (v:= .agg #[.slice A a.length c,.int .i64 a.length]) ?_ rfl ?_
  ·simp only[results,Tryz.results260];go_simp
  ·exact⟨⟨_,rfl,rfl⟩,((blw_up (below_alloc _ _) HB.out).setCell (p:=⟨w.heap.size,0,none⟩) (Nat.le_refl _) _).setCell (p:=⟨w.heap.size,1,none⟩) (Nat.le_refl _) _⟩
theorem thru_eq(a b:List Int)(g:Int→Int):a.modify (if underP a b then b.length else a.length) g=thru a b g:=by
 unfold thru;by_cases h:underP a b
 ·rw[if_pos h,if_pos h]
 ·rw[if_neg h,if_neg h,modify_none (Nat.le_refl _)]
theorem IntsO.up{w w0 w':World}{A:Option Addr}{c:Nat}{l:List Int}(h:IntsO w w' A c l)(hs:w0.heap.size≤w.heap.size):IntsO w0 w' A c l:=by
 obtain⟨L,h1,h2⟩:=h;exact⟨L,h1,h2.from hs⟩
theorem IntsO.below{w w' w2:World}{A:Option Addr}{c:Nat}{l:List Int}(h:IntsO w w' A c l)(hB:Below w'.heap.size w' w2):IntsO w w2 A c l:=by
 obtain⟨L,h1,h2⟩:=h;exact⟨L,h1.below hB,h2.up hB.size⟩
structure TwoP(w:World)(A A':Option Addr)(c:Nat)(a b:List Int):Prop where
 pa:IntsIn Any w A a
 pb:IntsIn Any w A' b
 ca:a.length≤c
 la:a.length≤549755813888
 lb:b.length≤549755813888
 sm :∀n∈a,smallI n
theorem TwoP.below{w w':World}{A A':Option Addr}{c:Nat}{a b:List Int}(h:TwoP w A A' c a b)(hB:Below w.heap.size w w'):TwoP w' A A' c a b:=⟨h.pa.below hB,h.pb.below hB,h.ca,h.la,h.lb,h.sm⟩
theorem TwoP.past{w:World}{A A':Option Addr}{c:Nat}{a b:List Int}{f:FuncId}{cs:Array Value}{g:Int→Int}{j:Nat}(h:TwoP w A A' c a b)(hf:FnOk f cs w g)(hj:j=if underP a b then b.length else a.length):
  Calls Tryz.prog 261 #[.agg #[.slice A a.length c,.int .i64 j],.func (.func f) #[] cs] w fun e w'=>(∃A' c',e = .returned (.slice A' a.length c')∧IntsO w w' A' c' (thru a b g))∧Below w.heap.size w w':=by
 subst hj;rw[←thru_eq];exact past_any h.pa h.la h.sm (by split;exact h.lb;exact h.la) hf
theorem inserted_any{w:World}{A A':Option Addr}{c c':Nat}{a b:List Int}{at_:Int}(h:TwoP w A A' c a b):
  Calls Tryz.prog 232 #[.slice A a.length c,.slice A' b.length c',.int .i64 at_] w fun e w'=>(∃A1 c1,e = .returned (.slice A1 a.length c1)∧IntsO w w' A1 c1 (insertedP a b at_))∧Below w.heap.size w w':=by
 have H:=hide h;clear h;go_enter Tryz.func232,Tryz.ntmps232
 go_upto_region 1 with fail
 refine wp_region_lit ?_;refine sk ?_;refine sk ?_;refine gc (through_any H.out.pa H.out.pb H.out.ca) ?_;rintro e1 w1 ⟨⟨j,hj,rfl⟩,hB⟩;refine⟨_,rfl,?_⟩;have HB1:=hide hB;clear hB;refine sk ?_;refine gc up_any ?_;rintro e2 w2 ⟨rfl,rfl⟩;refine⟨_,rfl,?_⟩;have HB2:Hid (Below w.heap.size w (w1.alloc (.cells #[.int .i64 at_] 3))):=hide (blw_up HB1.out (below_alloc _ _));refine gc ((H.out.below HB2.out).past (upOk w1 at_) hj) ?_;rintro e3 w3 ⟨⟨A3,c3,rfl,hi⟩,hB⟩;refine⟨_,rfl,?_⟩;have HI:=hide hi;have HB3:=hide hB;clear hi hB;refine sk ?_;refine wpList_nil ?_;rename_i hK;refine hK _ _ ?_;clear hK
 go_wp2_with fail
 go_ret;exact⟨⟨_,_,rfl,HI.out.up HB2.out.size⟩,blw_up HB2.out HB3.out⟩
theorem deleted_any{w:World}{A A':Option Addr}{c c':Nat}{a b:List Int}{at_:Int}(h:TwoP w A A' c a b):
  Calls Tryz.prog 234 #[.slice A a.length c,.slice A' b.length c',.int .i64 at_] w fun e w'=>((deletedP a b at_=none∧e = .returned (.tuple #[.slice none 0 0,.bool false]))∨∃A1 c1 l,deletedP a b at_=some l∧l.length=a.length∧e = .returned (.tuple #[.slice A1 a.length c1,.bool true])∧IntsO w w' A1 c1 l)∧Below w.heap.size w w':=by
 have H:=hide h;have hca:=h.ca;have hlb:=h.lb;clear h;have hlen:(thru a b (downOf at_)).length=a.length:=by unfold thru;split<;>simp
 have Hlen:=hide hlen;clear hlen;by_cases hu:underP a b
 ·by_cases hgt:b.length<a.length
  ·have hx:a[b.length]?=some a[b.length]:=List.getElem?_eq_getElem hgt;generalize a[b.length]=x at hx;have hcell :∃q o,A=some ⟨q,o,none⟩∧w.cell? ⟨q,o+b.length,none⟩=some (.int .i64 x):=by
    rcases H.out.pa.1 with h0|⟨q,o,rfl,_,hc⟩
    ·have:a=[]:=by simpa using h0
     subst this;simp at hgt
    ·exact⟨q,o,rfl,hc _ _ (by rw[List.getElem?_map,hx];rfl)⟩
   obtain⟨q,o,rfl,hcell⟩:=hcell;have hbig:decide ((b.length:Int)<(a.length:Int))=true:=by simp;omega
   have hbc:b.length<c:=by omega
   by_cases hat:x=at_
   ·subst hat;have hP:deletedP a b x=none:=by unfold deletedP;rw[if_pos ⟨hu,hx⟩]
    have HP:=hide hP;have hx':=hide hx;clear hP hx;go_enter Tryz.func234,Tryz.ntmps234
    go_wp2_with(go_at_call 236;(with_reducible refine(under_any H.out.pa H.out.pb H.out.ca).mono ?_);rintro e1 w1 ⟨⟨v,rfl,hv⟩,hB⟩;have hv2:v=true:=hv.mpr hu;subst hv2;have hce1:=(hB.cell (p:=⟨q,o+b.length,none⟩) (block_lt_of_cell hcell)).trans hcell;have HB1:=hide hB;clear hB hv)
    go_ret2
    exact⟨.inl ⟨HP.out,rfl⟩,HB1.out⟩
   ·have hP:deletedP a b at_=some (thru a b (downOf at_)):=by unfold deletedP;rw[if_neg (fun h=>hat (by have:=h.2;rw[hx]at this;injection this))]
    have HP:=hide hP;have hx':=hide hx;have hne:(x == at_)=false:=by simpa using hat
    clear hP hx;go_enter Tryz.func234,Tryz.ntmps234
    go_upto_region 3 with(go_at_call 236;(with_reducible refine(under_any H.out.pa H.out.pb H.out.ca).mono ?_);rintro e1 w1 ⟨⟨v,rfl,hv⟩,hB⟩;have hv2:v=true:=hv.mpr hu;subst hv2;have hce1:=(hB.cell (p:=⟨q,o+b.length,none⟩) (block_lt_of_cell hcell)).trans hcell;have HB1:=hide hB;clear hB hv)
    refine wp_region_lit ?_;refine sk ?_;refine sk ?_;refine gc (through_any (H.out.pa.below HB1.out) (H.out.pb.below HB1.out) H.out.ca) ?_;rintro e2 w2 ⟨⟨j,hj,rfl⟩,hB⟩;refine⟨_,rfl,?_⟩;have HB2:=hide (blw_up HB1.out hB);clear hB;refine sk ?_;refine gc down_any ?_;rintro e3 w3 ⟨rfl,rfl⟩;refine⟨_,rfl,?_⟩;have HB3:Hid (Below w.heap.size w (w2.alloc (.cells #[.int .i64 at_] 3))):=hide (blw_up HB2.out (below_alloc _ _));refine gc ((H.out.below HB3.out).past (downOk w2 at_) hj) ?_;rintro e4 w4 ⟨⟨A4,c4,rfl,hi⟩,hB⟩;refine⟨_,rfl,?_⟩;have HI:=hide hi;have HB4:=hide hB;clear hi hB;refine sk ?_;refine sk ?_;refine wpList_nil ?_;rename_i hK;refine hK _ _ ?_;clear hK
    go_wp2_with fail
    go_ret2
    exact⟨.inr ⟨_,_,_,HP.out,Hlen.out,rfl,HI.out.up HB3.out.size⟩,blw_up HB3.out HB4.out⟩
  ·have hbig:decide ((b.length:Int)<(a.length:Int))=false:=by simp;omega
   have hP:deletedP a b at_=some (thru a b (downOf at_)):=by unfold deletedP;rw[if_neg (fun h=>by have:=h.2;rw[List.getElem?_eq_none (by omega)]at this;cases this)]
   have HP:=hide hP;clear hP;go_enter Tryz.func234,Tryz.ntmps234;have HB1:Hid (Below w.heap.size w w):=hide (Below.refl _ _)
   go_upto_region 3 with fail
   refine wp_region_lit ?_;refine sk ?_;refine sk ?_;refine gc (through_any (H.out.pa.below HB1.out) (H.out.pb.below HB1.out) H.out.ca) ?_;rintro e2 w2 ⟨⟨j,hj,rfl⟩,hB⟩;refine⟨_,rfl,?_⟩;have HB2:=hide (blw_up HB1.out hB);clear hB;refine sk ?_;refine gc down_any ?_;rintro e3 w3 ⟨rfl,rfl⟩;refine⟨_,rfl,?_⟩;have HB3:Hid (Below w.heap.size w (w2.alloc (.cells #[.int .i64 at_] 3))):=hide (blw_up HB2.out (below_alloc _ _));refine gc ((H.out.below HB3.out).past (downOk w2 at_) hj) ?_;rintro e4 w4 ⟨⟨A4,c4,rfl,hi⟩,hB⟩;refine⟨_,rfl,?_⟩;have HI:=hide hi;have HB4:=hide hB;clear hi hB;refine sk ?_;refine sk ?_;refine wpList_nil ?_;rename_i hK;refine hK _ _ ?_;clear hK
   go_wp2_with fail
   go_ret2
   exact⟨.inr ⟨_,_,_,HP.out,Hlen.out,rfl,HI.out.up HB3.out.size⟩,blw_up HB3.out HB4.out⟩
 ·have hP:deletedP a b at_=some (thru a b (downOf at_)):=by unfold deletedP;rw[if_neg (fun h=>hu h.1)]
  have HP:=hide hP;clear hP;by_cases hgt:b.length<a.length
  ·have hbig:decide ((b.length:Int)<(a.length:Int))=true:=by simp;omega
   go_enter Tryz.func234,Tryz.ntmps234
   go_upto_region 3 with(go_at_call 236;(with_reducible refine(under_any H.out.pa H.out.pb H.out.ca).mono ?_);rintro e1 w1 ⟨⟨v,rfl,hv⟩,hB⟩;have hv2:v=false:=Bool.eq_false_iff.2 fun e=>hu (hv.mp e);subst hv2;have HB1:=hide hB;clear hB hv)
   refine wp_region_lit ?_;refine sk ?_;refine sk ?_;refine gc (through_any (H.out.pa.below HB1.out) (H.out.pb.below HB1.out) H.out.ca) ?_;rintro e2 w2 ⟨⟨j,hj,rfl⟩,hB⟩;refine⟨_,rfl,?_⟩;have HB2:=hide (blw_up HB1.out hB);clear hB;refine sk ?_;refine gc down_any ?_;rintro e3 w3 ⟨rfl,rfl⟩;refine⟨_,rfl,?_⟩;have HB3:Hid (Below w.heap.size w (w2.alloc (.cells #[.int .i64 at_] 3))):=hide (blw_up HB2.out (below_alloc _ _));refine gc ((H.out.below HB3.out).past (downOk w2 at_) hj) ?_;rintro e4 w4 ⟨⟨A4,c4,rfl,hi⟩,hB⟩;refine⟨_,rfl,?_⟩;have HI:=hide hi;have HB4:=hide hB;clear hi hB;refine sk ?_;refine sk ?_;refine wpList_nil ?_;rename_i hK;refine hK _ _ ?_;clear hK
   go_wp2_with fail
   go_ret2
   exact⟨.inr ⟨_,_,_,HP.out,Hlen.out,rfl,HI.out.up HB3.out.size⟩,blw_up HB3.out HB4.out⟩
  ·have hbig:decide ((b.length:Int)<(a.length:Int))=false:=by simp;omega
   go_enter Tryz.func234,Tryz.ntmps234;have HB1:Hid (Below w.heap.size w w):=hide (Below.refl _ _)
   go_upto_region 3 with fail
   refine wp_region_lit ?_;refine sk ?_;refine sk ?_;refine gc (through_any (H.out.pa.below HB1.out) (H.out.pb.below HB1.out) H.out.ca) ?_;rintro e2 w2 ⟨⟨j,hj,rfl⟩,hB⟩;refine⟨_,rfl,?_⟩;have HB2:=hide (blw_up HB1.out hB);clear hB;refine sk ?_;refine gc down_any ?_;rintro e3 w3 ⟨rfl,rfl⟩;refine⟨_,rfl,?_⟩;have HB3:Hid (Below w.heap.size w (w2.alloc (.cells #[.int .i64 at_] 3))):=hide (blw_up HB2.out (below_alloc _ _));refine gc ((H.out.below HB3.out).past (downOk w2 at_) hj) ?_;rintro e4 w4 ⟨⟨A4,c4,rfl,hi⟩,hB⟩;refine⟨_,rfl,?_⟩;have HI:=hide hi;have HB4:=hide hB;clear hi hB;refine sk ?_;refine sk ?_;refine wpList_nil ?_;rename_i hK;refine hK _ _ ?_;clear hK
   go_wp2_with fail
   go_ret2
   exact⟨.inr ⟨_,_,_,HP.out,Hlen.out,rfl,HI.out.up HB3.out.size⟩,blw_up HB3.out HB4.out⟩
theorem lineIn_iff(last:Bool)(s:List UInt8){p:Int}(hp:Lib.indexByte s 10=p):LineIn last s↔s≠[]∧¬(0≤p∧p<s.length-1)∧(p<0→last=true):=by
 have hge:=Lib.indexByte_ge s 10;rw[hp]at hge;unfold LineIn;by_cases h0:p<0
 ·have e:p = -1:=by omega
  subst e;have hn:=Lib.indexByte_none hp;constructor
  ·rintro⟨h1,h2,h3⟩;refine⟨h1,by omega,fun _=>?_⟩;rcases h3 with h3|h3
   ·exact h3
   ·rw[List.getLast?_eq_getElem?]at h3;exact absurd h3 (hn _)
  ·rintro⟨h1,_,h3⟩;exact⟨h1,fun i _=>hn i,.inl (h3 (by omega))⟩
 ·obtain⟨o,rfl⟩:=Int.eq_ofNat_of_zero_le (a:=p) (by omega);obtain⟨hs,hlt⟩:=Lib.indexByte_some hp;have hol:o<s.length:=(List.getElem?_eq_some_iff.1 hs).1;constructor
  ·rintro⟨h1,h2,h3⟩;refine⟨h1,fun h=>h2 o (by omega) hs,by omega⟩
  ·rintro⟨h1,h2,_⟩;have e:o=s.length-1:=by omega
   refine⟨h1,fun i hi=>hlt i (by omega),.inr ?_⟩;rw[List.getLast?_eq_getElem?,←e];exact hs
theorem linesOk_drop{l:List ByteArray}{k:Nat}(hk:k<l.length){s:ByteArray}(hs:l[k]?=some s):LinesOk (l.drop k)↔LineIn (decide (k+1=l.length)) s.data.toList∧LinesOk (l.drop (k+1)):=by
 have e:l[k]=s:=by
  have:=List.getElem?_eq_getElem hk;rw[this]at hs;injection hs
 rw[List.drop_eq_getElem_cons hk,LinesOk,e];have:(l.drop (k+1)).isEmpty=decide (k+1=l.length):=by
  rw[Bool.eq_iff_iff];simp;omega
 rw[this]
theorem lines_step{l:List ByteArray}{k:Nat}(h:LinesOk l↔LinesOk (l.drop k))(hk:k<l.length){s:ByteArray}(hs:l[k]?=some s){p:Int}(hp:Lib.indexByte s.data.toList 10=p)
  (hok :¬s.toList=[]∧¬(0≤p∧p<(s.size:Int)-1)∧(p<0→k+1=l.length)):LinesOk l↔LinesOk (l.drop (k+1)):=by
 rw[ByteArray.toList_eq]at hok;have hl:s.data.toList.length=s.size:=by simp
 rw[←hl]at hok;rw[h,linesOk_drop hk hs,lineIn_iff _ _ hp];simp only[decide_eq_true_eq];exact⟨fun h=>h.2,fun h=>⟨hok,h⟩⟩
theorem lines_no{l:List ByteArray}{k:Nat}(h:LinesOk l↔LinesOk (l.drop k))(hk:k<l.length){s:ByteArray}(hs:l[k]?=some s){p:Int}(hp:Lib.indexByte s.data.toList 10=p)
  (hok :¬(¬s.toList=[]∧¬(0≤p∧p<(s.size:Int)-1)∧(p<0→k+1=l.length))):¬LinesOk l:=by
 rw[ByteArray.toList_eq]at hok;have hl:s.data.toList.length=s.size:=by simp
 rw[←hl]at hok;rw[h,linesOk_drop hk hs,lineIn_iff _ _ hp];simp only[decide_eq_true_eq];exact fun h=>hok h.1
theorem lines_end{l:List ByteArray}{k:Nat}(h:LinesOk l↔LinesOk (l.drop k))(hk :¬k<l.length):LinesOk l:=by
 rw[h,List.drop_eq_nil_of_le (by omega)];trivial
theorem lines_any{S:Nat→Prop}{A:Option Addr}{c:Nat}{l:List ByteArray}{w:World}(hl:StrsIn S w A l):
    Calls Tryz.prog 103 #[.slice A l.length c] w fun e w'=>RetB (LinesOk l) e∧w=w':=by
  have hl3:=hl.2.2;have Hl:=hide hl;clear hl;go_enter Tryz.func103,Tryz.ntmps103
  go_wp2_with fail
  go_loop [8,3,4,5,15,29] (fun i _ _ _ _ _=>∃k:Nat,k≤l.length∧i = .int .i64 k∧Hid (LinesOk l↔LinesOk (l.drop k))) (fun i _ _ _ _ _=>l.length-(intOf i).toNat)
  case atStart=>exact⟨0,Nat.zero_le _,rfl,hide Iff.rfl⟩
  case round =>
    obtain⟨k,hk,rfl,hall⟩:=hrel;by_cases hlt:k<l.length
    · obtain⟨b,o,rfl,h1⟩:=Hl.out.1.at_ (j:=k) (by simpa using hlt)
      simp only[List.getElem_map]at h1;have hsz:=Hl.out.2.1 _ (List.getElem_mem hlt);have E:=hide (show l[k]?=some l[k]by simp[hlt]);generalize l[k]=s at h1 hsz E;have hge:=Lib.indexByte_ge s.data.toList 10;obtain⟨p,hp⟩:∃p,Lib.indexByte s.data.toList 10=p:=⟨_,rfl⟩;rw[hp]at hge;have hup:p<s.size+1:=by
        rcases Int.lt_or_le p 0 with h|h
        · omega
        · obtain⟨q,rfl⟩:=Int.eq_ofNat_of_zero_le h
          have:=(List.getElem?_eq_some_iff.1 (Lib.indexByte_some hp).1).1;simp at this;omega
      have Hp:=hide hp;clear hp
      go_wp2_with(go_at_call 174;refine(Tryz.strings_IndexByte s 10 _).mono ?_;rintro e w' ⟨rfl,rfl⟩;simp only[show((10:Int).toNat.toUInt8)=10 from rfl,Hp.out])
      all_goals first
        | (go_ret
           exact⟨RetB.no (lines_no hall.out hlt E.out Hp.out (by go_tidy;clear hall Hp E Hl;grind)),rfl⟩)
        | (go_round
           case rel=>exact⟨k+1,by omega,by go_num,hide (lines_step hall.out hlt E.out Hp.out (by go_tidy;clear hall Hp E Hl;grind))⟩
           case measure=>simp[intOf];omega)
    · go_wp2_with fail
      go_ret;exact⟨RetB.yes (lines_end hall.out hlt),rfl⟩
theorem hunkRight_any{S:Nat→Prop}{x:Hh}{a:Hk}{w:World}(ha:HkIn S w x a):
  Calls Tryz.prog 35 #[.agg #[.int .i64 a.at_,.slice x.oA a.old.length x.oc,.slice x.nA a.new.length x.nc]] w
   fun e w'=>RetB (HkOk a) e∧Below w.heap.size w w':=by
 have h1:=ha.at_;unfold isInt64 at h1;have Ha:=hide ha;have Hok:Hid (HkOk a↔0≤a.at_∧a.at_≤1099511627776∧LinesOk a.old∧LinesOk a.new∧a.old≠a.new):=hide Iff.rfl;clear ha;go_enter Tryz.func35,Tryz.ntmps35
 go_wp2_with(first
  | (go_at_call 103;(with_reducible refine(lines_any (Ha.out.old.below (below_alloc _ _))).mono ?_);rintro e w1 ⟨⟨b1,rfl,hb⟩,rfl⟩;have Hb1:=hide hb;clear hb)
  | (go_at_call 103;(with_reducible refine(lines_any (Ha.out.new.below (below_alloc _ _))).mono ?_);rintro e w1 ⟨⟨b2,rfl,hb⟩,rfl⟩;have Hb2:=hide hb;clear hb)
  | (go_at_call 104;(with_reducible refine(equalTexts_any (Ha.out.old.below (below_alloc _ _)) (Ha.out.new.below (below_alloc _ _))).mono ?_);rintro e w1 ⟨⟨b3,rfl,hb⟩,q,rfl⟩;have Hb3:=hide hb;clear hb))
 all_goals
  go_ret;go_tidy;refine⟨RetB.mk ?_,?_⟩
  ·rw[Hok.out]
   first
    | (have h1:=Hb1.out;have h2:=Hb2.out;have h3:=Hb3.out;clear Hb1 Hb2 Hb3 Ha Hok;grind)
    | (have h1:=Hb1.out;have h2:=Hb2.out;clear Hb1 Hb2 Ha Hok;grind)
    | (have h1:=Hb1.out;clear Hb1 Ha Hok;grind)
    | grind
  ·first
    | exact below_alloc _ _
    | exact blw_drewN (below_alloc _ _) _
end
end Go.Proofs.YtialngdffhmobaaGreatDoor
