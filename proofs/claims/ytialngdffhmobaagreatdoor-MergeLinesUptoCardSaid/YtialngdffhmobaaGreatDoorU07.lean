/- Part 8 of what mgTop rests on. -/
import Derived.StillTailTactics
import Derived.Test.YtialngdffhmobaaGreatDoorU01
import Derived.Test.YtialngdffhmobaaGreatDoorU04
import Derived.Test.YtialngdffhmobaaGreatDoorU00
set_option linter.unusedVariables false
set_option linter.unusedSimpArgs false
set_option maxHeartbeats 16000000
set_option maxRecDepth 1000000
namespace Go.Proofs.YtialngdffhmobaaGreatDoor
section
open Go.RowKit
theorem sameNode_of{k k':Nat}{t t':ByteArray}{n n':Int}{A A':Option Addr}{c c':Nat}{ks ks':Fo}{w:World}
  (hk :∀W,Below w.heap.size w W→Calls Tryz.prog 78 #[.slice A ks.len c,.slice A' ks'.len c'] W fun e w'=>RetB (ks=ks') e∧Below W.heap.size W w'):
  Calls Tryz.prog 135 #[.agg #[.int .u8 k,.string t,.int .i64 n,.slice A ks.len c],.agg #[.int .u8 k',.string t',.int .i64 n',.slice A' ks'.len c']] w
   fun e w'=>RetB (k=k'∧t=t'∧n=n'∧ks=ks') e∧Below w.heap.size w w':=by
 have Hk:=hide hk;clear hk;have htt:=hide (tl_eq (s:=t) (t:=t'));go_enter Tryz.func135,Tryz.ntmps135
 go_wp2_with(go_at_call 78;refine(Hk.out _ (below2 _ _)).mono ?_;rintro e w' ⟨⟨b,rfl,hb⟩,hw⟩;have Hb:=hide hb;have Hw:=hide hw;clear hb hw)
 all_goals
  go_ret;go_tidy;have htt:=htt.out;refine⟨RetB.mk (by first|(rw[Hb.out];grind)|grind),?_⟩
  first
   | exact blw_up2 Hw.out
   | exact below2 _ _
theorem treeSame_of{k k':Nat}{t t':ByteArray}{n n':Int}{A A':Option Addr}{c c':Nat}{ks ks':Fo}{w:World}
  (hk :∀W,Below w.heap.size w W→Calls Tryz.prog 113 #[.slice A ks.len c,.slice A' ks'.len c',.func (.func 110) #[] #[]] W fun e w'=>RetB (ks=ks') e∧Below W.heap.size W w'):
  Calls Tryz.prog 110 #[.agg #[.int .u8 k,.string t,.int .i64 n,.slice A ks.len c],.agg #[.int .u8 k',.string t',.int .i64 n',.slice A' ks'.len c']] w
   fun e w'=>RetB (k=k'∧t=t'∧n=n'∧ks=ks') e∧Below w.heap.size w w':=by
 have Hk:=hide hk;clear hk;have htt:=hide (tl_eq (s:=t) (t:=t'));go_enter Tryz.func110,Tryz.ntmps110
 go_wp2_with(go_at_call 113;refine(Hk.out _ (below2 _ _)).mono ?_;rintro e w' ⟨⟨b,rfl,hb⟩,hw⟩;have Hb:=hide hb;have Hw:=hide hw;clear hb hw)
 all_goals
  go_ret;go_tidy;have htt:=htt.out;refine⟨RetB.mk (by first|(rw[Hb.out];grind)|grind),?_⟩
  first
   | exact blw_up2 Hw.out
   | exact below2 _ _
theorem fo_step{f g:Fo}{i k k':Nat}{t t':ByteArray}{n n':Int}{ks ks' r r':Fo}(h:f=g↔f.drop i=g.drop i)(hf:f.drop i = .cons k t n ks r)(hg:g.drop i = .cons k' t' n' ks' r')
  (he:k=k'∧t=t'∧n=n'∧ks=ks'):f=g↔f.drop (i+1)=g.drop (i+1):=by
 obtain⟨rfl,rfl,rfl,rfl⟩:=he;rw[h,hf,hg,Fo.drop_succ hf,Fo.drop_succ hg];simp
theorem fo_no{f g:Fo}{i k k':Nat}{t t':ByteArray}{n n':Int}{ks ks' r r':Fo}(hf:f.drop i = .cons k t n ks r)(hg:g.drop i = .cons k' t' n' ks' r')
  (he :¬(k=k'∧t=t'∧n=n'∧ks=ks')):¬f=g:=by
 rintro rfl;rw[hf]at hg;injection hg with h1 h2 h3 h4;exact he ⟨h1,h2,h3,h4⟩
theorem fo_end{f g:Fo}{i:Nat}(h:f=g↔f.drop i=g.drop i)(hl:f.len=g.len)(hi :¬i<f.len):f=g:=by
 rw[h,Fo.drop_len f i (by omega),Fo.drop_len g i (by omega)]
theorem sameNodes_upto(N:Nat):∀(S S':Nat→Prop) (A A':Option Addr) (c c':Nat) (f g:Fo) (w:World),f.cnt<N→FoIn S w A f→FoIn S' w A' g→f.len≤9223372036854775807→g.len≤9223372036854775807→
  Calls Tryz.prog 78 #[.slice A f.len c,.slice A' g.len c'] w fun e w'=>RetB (f=g) e∧Below w.heap.size w w':=by
 induction N with
 | zero=>intro _ _ _ _ _ _ _ _ _ h;omega
 | succ N ih =>
  intro S S' A A' c c' f g w hN hf hg hlf hlg;have Hih:=hide ih;have HN:=hide hN;have Hf:=hide hf;have Hg:=hide hg;clear ih hN hf hg;by_cases hn:f.len=g.len
  ·have hd:((f.len:Int) != (g.len:Int))=false:=by simp[hn]
   have Hn:=hide hn;clear hn;go_enter Tryz.func78,Tryz.ntmps78
   go_wp2_with fail
   go_loopw [5] (fun i wr=>∃k:Nat,k≤f.len∧i = .int .i64 k∧Below w.heap.size w wr∧Hid (f=g↔f.drop k=g.drop k)) (fun i _=>f.len-(intOf i).toNat)
   case atStart=>exact⟨0,Nat.zero_le _,rfl,Below.refl _ _,hide Iff.rfl⟩
   case round =>
    obtain⟨i,hi,rfl,hB,hall⟩:=hrel;by_cases hlt:i<f.len
    ·obtain⟨b,o,KA,kc,k,t,n,ks,r,rfl,hdf,c0,c1,c2,c3,e1,e2,e3,e4,e5,hks,hcnt⟩:=(Hf.out.below hB).at_ hlt;have hlt2:i<g.len:=by have:=Hn.out;omega
     obtain⟨b',o',KA',kc',k',t',n',ks',r',rfl,hdg,d0,d1,d2,d3,f1,f2,f3,f4,f5,hks',hcnt'⟩:=(Hg.out.below hB).at_ hlt2;have HB:=hide hB;have Hks:=hide hks;have Hks':=hide hks';have Hdf:=hide hdf;have Hdg:=hide hdg;have Hc:=hide hcnt;clear hB hks hks' hdf hdg hcnt hcnt';have Hsub:Hid (∀W,Below wr.heap.size wr W→Calls Tryz.prog 78 #[.slice KA ks.len kc,.slice KA' ks'.len kc'] W fun e w'=>RetB (ks=ks') e∧Below W.heap.size W w'):=
      hide fun W hW=>Hih.out S S' KA KA' kc kc' ks ks' W (by have:=Hc.out;have:=HN.out;omega) (Hks.out.below hW) (Hks'.out.below hW) (by omega) (by omega)
     go_wp2_with fail
     go_still_tail 8,(by kernel_rfl)
     change wpList _ _ _ _ _ wr.drew
     go_wp2_with fail
     refine(sameNode_of (w:=wr.drew) fun W hW=>Hsub.out W (blw_undrew hW)).mono ?_;rintro e w1 ⟨⟨_|_,rfl,hb⟩,hw⟩
     all_goals
      have Hb:=hide hb;have Hw:=hide hw;clear hb hw
      go_wp2_with fail
     ·go_ret;exact⟨RetB.no (fo_no Hdf.out Hdg.out (by simpa using Hb.out)),blw_up HB.out (blw_undrew Hw.out)⟩
     ·go_roundw
      case rel=>exact⟨i+1,by omega,by go_num,blw_up HB.out (blw_undrew Hw.out),hide (fo_step hall.out Hdf.out Hdg.out (by simpa using Hb.out))⟩
      case measure=>simp[intOf];omega
    ·have HB:=hide hB;clear hB
     go_wp2_with fail
     go_ret;exact⟨RetB.yes (fo_end hall.out Hn.out hlt),HB.out⟩
  ·have hd:((f.len:Int) != (g.len:Int))=true:=by simp;omega
   have Hn:=hide hn;clear hn;go_enter Tryz.func78,Tryz.ntmps78
   go_wp2_with fail
   go_ret;exact⟨RetB.no (fun h=>Hn.out (by rw[h])),Below.refl _ _⟩
theorem equalFunc_upto(N:Nat):∀(S S':Nat→Prop) (A A':Option Addr) (c c':Nat) (f g:Fo) (w:World),f.cnt<N→FoIn S w A f→FoIn S' w A' g→f.len≤9223372036854775807→g.len≤9223372036854775807→
  Calls Tryz.prog 113 #[.slice A f.len c,.slice A' g.len c',.func (.func 110) #[] #[]] w fun e w'=>RetB (f=g) e∧Below w.heap.size w w':=by
 induction N with
 | zero=>intro _ _ _ _ _ _ _ _ _ h;omega
 | succ N ih =>
  intro S S' A A' c c' f g w hN hf hg hlf hlg;have Hih:=hide ih;have HN:=hide hN;have Hf:=hide hf;have Hg:=hide hg;clear ih hN hf hg;by_cases hn:f.len=g.len
  ·have hd:((f.len:Int) != (g.len:Int))=false:=by simp[hn]
   have Hn:=hide hn;clear hn;go_enter Tryz.func113,Tryz.ntmps113
   go_wp2_with fail
   go_loopw [17,7,8,9] (fun i _ _ _ wr=>∃k:Nat,k≤f.len∧i = .int .i64 k∧Below w.heap.size w wr∧Hid (f=g↔f.drop k=g.drop k)) (fun i _ _ _ _=>f.len-(intOf i).toNat)
   case atStart=>exact⟨0,Nat.zero_le _,rfl,Below.refl _ _,hide Iff.rfl⟩
   case round =>
    obtain⟨i,hi,rfl,hB,hall⟩:=hrel;by_cases hlt:i<f.len
    ·obtain⟨b,o,KA,kc,k,t,n,ks,r,rfl,hdf,c0,c1,c2,c3,e1,e2,e3,e4,e5,hks,hcnt⟩:=(Hf.out.below hB).at_ hlt;have hlt2:i<g.len:=by have:=Hn.out;omega
     obtain⟨b',o',KA',kc',k',t',n',ks',r',rfl,hdg,d0,d1,d2,d3,f1,f2,f3,f4,f5,hks',hcnt'⟩:=(Hg.out.below hB).at_ hlt2;have HB:=hide hB;have Hks:=hide hks;have Hks':=hide hks';have Hdf:=hide hdf;have Hdg:=hide hdg;have Hc:=hide hcnt;clear hB hks hks' hdf hdg hcnt hcnt';have Hsub:Hid (∀W,Below wr.heap.size wr W→Calls Tryz.prog 113 #[.slice KA ks.len kc,.slice KA' ks'.len kc',.func (.func 110) #[] #[]] W fun e w'=>RetB (ks=ks') e∧Below W.heap.size W w'):=
      hide fun W hW=>Hih.out S S' KA KA' kc kc' ks ks' W (by have:=Hc.out;have:=HN.out;omega) (Hks.out.below hW) (Hks'.out.below hW) (by omega) (by omega)
     have hb2:b'<wr.heap.size:=block_lt_of_cell d0
     go_wp2_with fail
     refine(treeSame_of fun W hW=>Hsub.out W (blw_up2 hW)).mono ?_;rintro e w1 ⟨⟨_|_,rfl,hb⟩,hw⟩
     all_goals
      have Hb:=hide hb;have Hw:=hide hw;clear hb hw
      go_wp2_with fail
     ·go_ret;exact⟨RetB.no (fo_no Hdf.out Hdg.out (by simpa using Hb.out)),blw_up HB.out (blw_up2 Hw.out)⟩
     ·go_roundw
      case rel=>exact⟨i+1,by omega,by go_num,blw_up HB.out (blw_up2 Hw.out),hide (fo_step hall.out Hdf.out Hdg.out (by simpa using Hb.out))⟩
      case measure=>simp[intOf];omega
    ·have HB:=hide hB;clear hB
     go_wp2_with fail
     go_ret;exact⟨RetB.yes (fo_end hall.out Hn.out hlt),HB.out⟩
  ·have hd:((f.len:Int) != (g.len:Int))=true:=by simp;omega
   have Hn:=hide hn;clear hn;go_enter Tryz.func113,Tryz.ntmps113
   go_wp2_with fail
   go_ret;exact⟨RetB.no (fun h=>Hn.out (by rw[h])),Below.refl _ _⟩
theorem sameNodes_any{S S':Nat→Prop}{A A':Option Addr}{c c':Nat}{f g:Fo}{w:World}(hf:FoIn S w A f)(hg:FoIn S' w A' g)(hlf:f.len≤9223372036854775807)(hlg:g.len≤9223372036854775807):
  Calls Tryz.prog 78 #[.slice A f.len c,.slice A' g.len c'] w fun e w'=>RetB (f=g) e∧Below w.heap.size w w' :=
 sameNodes_upto (f.cnt+1) S S' A A' c c' f g w (by omega) hf hg hlf hlg
theorem sameNode_any{S S':Nat→Prop}{k k':Nat}{t t':ByteArray}{n n':Int}{A A':Option Addr}{c c':Nat}{f g:Fo}{w:World}(hf:FoIn S w A f)(hg:FoIn S' w A' g)(hlf:f.len≤9223372036854775807)(hlg:g.len≤9223372036854775807):
  Calls Tryz.prog 135 #[.agg #[.int .u8 k,.string t,.int .i64 n,.slice A f.len c],.agg #[.int .u8 k',.string t',.int .i64 n',.slice A' g.len c']] w
   fun e w'=>RetB (k=k'∧t=t'∧n=n'∧f=g) e∧Below w.heap.size w w' :=
 sameNode_of fun _ hW=>sameNodes_any (hf.below hW) (hg.below hW) hlf hlg
theorem equalNodes_any{S S':Nat→Prop}{A A':Option Addr}{c c':Nat}{f g:Fo}{w:World}(hf:FoIn S w A f)(hg:FoIn S' w A' g)(hlf:f.len≤9223372036854775807)(hlg:g.len≤9223372036854775807):
  Calls Tryz.prog 113 #[.slice A f.len c,.slice A' g.len c',.func (.func 110) #[] #[]] w fun e w'=>RetB (f=g) e∧Below w.heap.size w w' :=
 equalFunc_upto (f.cnt+1) S S' A A' c c' f g w (by omega) hf hg hlf hlg
theorem treeSame_any{S S':Nat→Prop}{k k':Nat}{t t':ByteArray}{n n':Int}{A A':Option Addr}{c c':Nat}{f g:Fo}{w:World}(hf:FoIn S w A f)(hg:FoIn S' w A' g)(hlf:f.len≤9223372036854775807)(hlg:g.len≤9223372036854775807):
  Calls Tryz.prog 110 #[.agg #[.int .u8 k,.string t,.int .i64 n,.slice A f.len c],.agg #[.int .u8 k',.string t',.int .i64 n',.slice A' g.len c']] w
   fun e w'=>RetB (k=k'∧t=t'∧n=n'∧f=g) e∧Below w.heap.size w w' :=
 treeSame_of fun _ hW=>equalNodes_any (hf.below hW) (hg.below hW) hlf hlg
def Has(w:World)(N n:Nat):Prop:=∀j,j<n→∃v,w.cell? ⟨N,j,none⟩=some v
theorem Has.set{w:World}{N n:Nat}(h:Has w N n)(a:Addr)(u:Value):Has (w.setCell a u) N n:=by
 intro j hj;obtain⟨v,hv⟩:=h j hj;by_cases e:a=⟨N,j,none⟩
 ·subst e;exact⟨u,World.cell?_setCell_same _ _ _ hv⟩
 ·exact⟨v,(World.cell?_setCell_other _ _ _ _ e).trans hv⟩
theorem Has.of_eq{w w':World}{N n:Nat}(h:Has w N n)(he :∀o,w'.cell? ⟨N,o,none⟩=w.cell? ⟨N,o,none⟩):Has w' N n:=fun j hj=>by
 obtain⟨v,hv⟩:=h j hj;exact⟨v,(he j).trans hv⟩
theorem Has.new(w:World)(cs:Array Value)(t:TypeId)(n:Nat)(hn:n≤cs.size):Has (w.alloc (.cells cs t)) w.heap.size n:=fun j hj =>
 ⟨cs[j],by rw[World.cell?_alloc_new,Array.getElem?_eq_getElem (by omega)]⟩
theorem cell_set_at{w:World}{N n j:Nat}{v:Value}(h:Has w N n)(hj:j<n):(w.setCell ⟨N,j,none⟩ v).cell? ⟨N,j,none⟩=some v:=by
 obtain⟨u,hu⟩:=h j hj;exact World.cell?_setCell_same _ _ _ hu
theorem Has.new2(w:World)(a:Obj)(cs:Array Value)(t:TypeId)(n:Nat)(hn:n≤cs.size):Has ((w.alloc a).alloc (.cells cs t)).drew (w.heap.size+1) n:=by
 have h:=Has.new (w.alloc a) cs t n hn;rw[show(w.alloc a).heap.size=w.heap.size+1 by simp]at h;exact h
end
section
open Go.RowKit
abbrev Any:Nat→Prop:=fun _=>True
theorem blw(w w':World):Below w.heap.size w w'→w.heap.size≤w'.heap.size:=fun h=>h.size
def RowS(e:TypeId)(w:World)(A:Option Addr)(c n:Nat)(xs:List Value)(L:List Nat)(A0:Option Addr)(c0 n0:Nat):Prop:=RowO e w A c n xs L∨(n=0∧n0=0∧A=A0∧c=c0∧L=[]∧xs=[])
def NodesS(w:World)(A:Option Addr)(c:Nat)(f:Fo)(L:List Nat)(A0:Option Addr)(c0 n0:Nat):Prop:=NodesO w A c f L∨(f = .nil∧n0=0∧A=A0∧c=c0∧L=[])
structure New(w w':World)(L:List Nat):Prop where
 nd:L.Nodup
 ge :∀b∈L,w.heap.size≤b
 lt :∀b∈L,b<w'.heap.size
section
variable {w w' w'' : World} {A A0 A1 : Option Addr} {c c0 c1 n0 : Nat} {f : Fo} {L L1 L2 : List Nat} {e : TypeId} {n : Nat} {xs : List Value}
theorem New.nil:New w w' []:=⟨List.nodup_nil,by simp,by simp⟩
theorem New.up(h:New w w' L)(hs:w'.heap.size≤w''.heap.size):New w w'' L:=⟨h.nd,h.ge,fun b hb=>Nat.lt_of_lt_of_le (h.lt b hb) hs⟩
theorem New.app(h:New w w' L1)(h2:New w' w'' L2)(hs:w.heap.size≤w'.heap.size)(hs2:w'.heap.size≤w''.heap.size):New w w'' (L1++L2):=
 ⟨nodup_ranges h.nd h2.nd h.lt h2.ge,fun b hb=>by
  rcases List.mem_append.1 hb with hb|hb
  ·exact h.ge b hb
  ·exact Nat.le_trans hs (h2.ge b hb),fun b hb=>by
  rcases List.mem_append.1 hb with hb|hb
  ·exact Nat.lt_of_lt_of_le (h.lt b hb) hs2
  ·exact h2.lt b hb⟩
theorem New.swap(h:New w w' (L1++L2)):New w w' (L2++L1):=⟨by have h1:=h.nd;rw[List.nodup_append]at h1⊢;exact⟨h1.2.1,h1.1,fun a ha b hb e=>h1.2.2 b hb a ha e.symm⟩,fun b hb=>h.ge b (by simp at hb⊢;exact hb.symm),fun b hb=>h.lt b (by simp at hb⊢;exact hb.symm)⟩
theorem New.from(h:New w' w'' L)(hs:w.heap.size≤w'.heap.size):New w w'' L:=⟨h.nd,fun b hb=>Nat.le_trans hs (h.ge b hb),h.lt⟩
theorem RowO.new(h:RowO e w' A c n xs L)(hg :∀g,(Value.slice A n c).ownBlock=some g→w.heap.size≤g):New w w' L:=⟨h.nodup,fun b hb=>by obtain⟨_,rfl⟩:=h;exact hg b (mem_ob.1 hb),h.lt⟩
theorem RowS.keep(h:RowS e w A c n xs L A0 c0 n0)(hk :∀b∈L,w'.heap[b]?=w.heap[b]?):RowS e w' A c n xs L A0 c0 n0:=h.imp (fun h=>h.keep hk) id
theorem NodesS.keep(h:NodesS w A c f L A0 c0 n0)(hk :∀b∈L,w'.heap[b]?=w.heap[b]?):NodesS w' A c f L A0 c0 n0:=h.imp (fun h=>h.keep hk) id
theorem RowS.lt(h:RowS e w A c n xs L A0 c0 n0):∀b∈L,b<w.heap.size:=by
 rcases h with h|⟨_,_,_,_,rfl,_⟩
 ·exact h.lt
 ·simp
theorem NodesS.lt(h:NodesS w A c f L A0 c0 n0):∀b∈L,b<w.heap.size:=by
 rcases h with h|⟨_,_,_,_,rfl⟩
 ·exact h.lt
 ·simp
theorem RowO.below(h:RowO e w A c n xs L)(hB:Below w.heap.size w w'):RowO e w' A c n xs L:=h.keep fun b hb=>hB.block b (h.lt b hb)
theorem NodesO.below(h:NodesO w A c f L)(hB:Below w.heap.size w w'):NodesO w' A c f L:=h.keep fun b hb=>hB.block b (h.lt b hb)
theorem RowS.below(h:RowS e w A c n xs L A0 c0 n0)(hB:Below w.heap.size w w'):RowS e w' A c n xs L A0 c0 n0:=h.keep fun b hb=>hB.block b (h.lt b hb)
theorem NodesS.below(h:NodesS w A c f L A0 c0 n0)(hB:Below w.heap.size w w'):NodesS w' A c f L A0 c0 n0:=h.keep fun b hb=>hB.block b (h.lt b hb)
theorem RowS.own(h:RowO e w A c n xs L):RowS e w A c n xs L A0 c0 n0:= .inl h
theorem NodesS.own(h:NodesO w A c f L):NodesS w A c f L A0 c0 n0:= .inl h
theorem RowS.same{x:List Value}(h:x=[]):RowS e w A c x.length x [] A c x.length:=by subst h;exact .inr ⟨rfl,rfl,rfl,rfl,rfl,rfl⟩
theorem RowO.none(h:RowO e w A c 0 xs L):xs=[]:=List.length_eq_zero_iff.1 (by have:=h.1.1;omega)
theorem NodesO.none(h:NodesO w A c f L)(hn:f.len=0):f = .nil:=by cases f with
 | nil=>rfl
 | cons=>simp[Fo.len]at hn
theorem RowS.trans{n1:Nat}{ys:List Value}(h:RowS e w A c n1 ys L1 A0 c0 n0)(h2:RowS e w' A1 c1 n xs L2 A c n1)(hB:Below w.heap.size w w'):∃L,RowS e w' A1 c1 n xs L A0 c0 n0∧(L=L2∨L=L1):=by
 rcases h2 with h2|⟨rfl,rfl,rfl,rfl,rfl,rfl⟩
 ·exact⟨L2,.inl h2,.inl rfl⟩
 ·refine⟨L1,?_,.inr rfl⟩;rcases h with h|⟨_,h1,h2,h3,h4,h5⟩
  ·have:=h.none;subst this;exact .inl (h.below hB)
  ·exact .inr ⟨rfl,h1,h2,h3,h4,rfl⟩
theorem NodesS.trans{g:Fo}(h:NodesS w A c g L1 A0 c0 n0)(h2:NodesS w' A1 c1 f L2 A c g.len)(hB:Below w.heap.size w w'):∃L,NodesS w' A1 c1 f L A0 c0 n0∧(L=L2∨L=L1):=by
 rcases h2 with h2|⟨rfl,hg,rfl,rfl,rfl⟩
 ·exact⟨L2,.inl h2,.inl rfl⟩
 ·refine⟨L1,?_,.inr rfl⟩;rcases h with h|⟨_,h1,h2,h3,h4⟩
  ·have:=h.none hg;subst this;exact .inl (h.below hB)
  ·exact .inr ⟨rfl,h1,h2,h3,h4⟩
theorem RowS.rd(h:RowS e w A c n xs L A0 c0 n0):Rd Any w A xs:=by
 rcases h with h|⟨_,_,_,_,_,rfl⟩
 ·exact own_rows h.1 (fun _ _=>trivial)
 ·exact .inl rfl
theorem RowS.room(h:RowS e w A c n xs L A0 c0 n0)(h0:0≤c0∧c0≤9223372036854775807):n≤c∧c≤9223372036854775807:=by
 rcases h with h|⟨rfl,rfl,rfl,rfl,_,_⟩
 ·exact own_room h.1 rfl
 ·exact h0
theorem NodesS.fo(h:NodesS w A c f L A0 c0 n0):FoIn Any w A f:=by
 rcases h with h|⟨rfl,_⟩
 ·exact h.fo (fun _ _=>trivial)
 ·exact trivial
theorem NodesO.room(h:NodesO w A c f L):f.len≤c∧c≤9223372036854775807:=by
 obtain⟨vs,R,h1,_⟩:=h;exact own_room h1 rfl
theorem NodesS.room(h:NodesS w A c f L A0 c0 n0)(h0:0≤c0∧c0≤9223372036854775807):f.len≤c∧c≤9223372036854775807:=by
 rcases h with h|⟨rfl,rfl,rfl,rfl,_⟩
 ·exact h.room
 ·exact h0
end
structure HkB(h:Hk):Prop where
 at_:isInt64 h.at_
 old:(∀s∈h.old,s.size≤9223372036854775807)∧h.old.length≤549755813888
 new:(∀s∈h.new,s.size≤9223372036854775807)∧h.new.length≤549755813888
structure EdB(e:Ed):Prop where
 kind:e.kind<256
 path:(∀n∈e.path,isInt64 n)∧e.path.length≤549755813888
 at_:isInt64 e.at_
 far:isInt64 e.far
 frm:e.frm.size≤9223372036854775807
 «to»:e.to.size≤9223372036854775807
 sum:e.frm.size+e.to.size≤9223372036854775807
 old:(foB e.old).length≤549755813888
 new:(foB e.new).length≤549755813888
structure PtB(p:Pt):Prop where
 kind:p.kind<256
 file:p.file.size≤9223372036854775807
 text:p.text.size≤9223372036854775807
 hunk:HkB p.hunk
 edit:EdB p.edit
theorem HkB.zero:HkB Hk.zero:=⟨⟨by decide,by decide⟩,⟨by simp[Hk.zero],by simp[Hk.zero]⟩,⟨by simp[Hk.zero],by simp[Hk.zero]⟩⟩
theorem EdB.zero:EdB Ed.zero:=⟨by decide,⟨by simp[Ed.zero],by simp[Ed.zero]⟩,⟨by decide,by decide⟩,⟨by decide,by decide⟩,by decide,by decide,by decide,by simp[Ed.zero,foB],by simp[Ed.zero,foB]⟩
theorem PtB.zero:PtB Pt.zero:=⟨by decide,by decide,by decide,HkB.zero,EdB.zero⟩
def HkS(w:World)(x:Hh)(h:Hk)(L:List Nat)(x0:Hh)(h0:Hk):Prop:=∃L1 L2,RowS 9 w x.oA x.oc h.old.length (h.old.map .string) L1 x0.oA x0.oc h0.old.length∧RowS 9 w x.nA x.nc h.new.length (h.new.map .string) L2 x0.nA x0.nc h0.new.length∧L=L1++L2
def EdS(w:World)(x:Eh)(e:Ed)(L:List Nat)(x0:Eh)(e0:Ed):Prop:=∃L1 L2 L3,RowS 3 w x.pA x.pc e.path.length (e.path.map (.int .i64)) L1 x0.pA x0.pc e0.path.length∧NodesS w x.oA x.oc e.old L2 x0.oA x0.oc e0.old.len∧NodesS w x.nA x.nc e.new L3 x0.nA x0.nc e0.new.len∧L=L1++(L2++L3)
def PtS(w:World)(x:Ph)(p:Pt)(L:List Nat)(x0:Ph)(p0:Pt):Prop:=∃L1 L2,HkS w x.h p.hunk L1 x0.h p0.hunk∧EdS w x.e p.edit L2 x0.e p0.edit∧L=L1++L2
def HhR(x:Hh):Prop:=x.oc≤9223372036854775807∧x.nc≤9223372036854775807
def EhR(x:Eh):Prop:=x.pc≤9223372036854775807∧x.oc≤9223372036854775807∧x.nc≤9223372036854775807
def PhR(x:Ph):Prop:=HhR x.h∧EhR x.e
section
variable {S : Nat → Prop} {w w' : World} {L : List Nat}
theorem HkIn.r{x:Hh}{h:Hk}(a:HkIn S w x h):HhR x:=⟨a.oc.2,a.nc.2⟩
theorem EdIn.r{x:Eh}{e:Ed}(a:EdIn S w x e):EhR x:=⟨a.pc.2,a.oc.2,a.nc.2⟩
theorem PtIn.r{x:Ph}{p:Pt}(a:PtIn S w x p):PhR x:=⟨a.hunk.r,a.edit.r⟩
theorem HkS.in_{x x0:Hh}{h h0:Hk}(a:HkS w x h L x0 h0)(hb:HkB h)(hr:HhR x0):HkIn Any w x h:=by
 obtain⟨L1,L2,h1,h2,rfl⟩:=a;exact⟨hb.at_,⟨h1.rd,hb.old.1,by have:=hb.old.2;omega⟩,⟨h2.rd,hb.new.1,by have:=hb.new.2;omega⟩,h1.room ⟨Nat.zero_le _,hr.1⟩,h2.room ⟨Nat.zero_le _,hr.2⟩⟩
theorem EdS.in_{x x0:Eh}{e e0:Ed}(a:EdS w x e L x0 e0)(hb:EdB e)(hr:EhR x0):EdIn Any w x e:=by
 obtain⟨L1,L2,L3,h1,h2,h3,rfl⟩:=a;exact⟨hb.kind,⟨h1.rd,hb.path.1,by have:=hb.path.2;omega⟩,hb.at_,hb.far,hb.frm,hb.to,h2.fo,h3.fo,h1.room ⟨Nat.zero_le _,hr.1⟩,h2.room ⟨Nat.zero_le _,hr.2.1⟩,h3.room ⟨Nat.zero_le _,hr.2.2⟩⟩
theorem PtS.in_{x x0:Ph}{p p0:Pt}(a:PtS w x p L x0 p0)(hb:PtB p)(hr:PhR x0):PtIn Any w x p:=by
 obtain⟨L1,L2,h1,h2,rfl⟩:=a;exact⟨hb.kind,hb.file,hb.text,h1.in_ hb.hunk hr.1,h2.in_ hb.edit hr.2⟩
theorem HkS.keep{x x0:Hh}{h h0:Hk}(a:HkS w x h L x0 h0)(hk :∀b∈L,w'.heap[b]?=w.heap[b]?):HkS w' x h L x0 h0:=by
 obtain⟨L1,L2,h1,h2,rfl⟩:=a;exact⟨L1,L2,h1.keep fun b hb=>hk b (by simp[hb]),h2.keep fun b hb=>hk b (by simp[hb]),rfl⟩
theorem EdS.keep{x x0:Eh}{e e0:Ed}(a:EdS w x e L x0 e0)(hk :∀b∈L,w'.heap[b]?=w.heap[b]?):EdS w' x e L x0 e0:=by
 obtain⟨L1,L2,L3,h1,h2,h3,rfl⟩:=a;exact⟨L1,L2,L3,h1.keep fun b hb=>hk b (by simp[hb]),h2.keep fun b hb=>hk b (by simp[hb]),h3.keep fun b hb=>hk b (by simp[hb]),rfl⟩
theorem PtS.keep{x x0:Ph}{p p0:Pt}(a:PtS w x p L x0 p0)(hk :∀b∈L,w'.heap[b]?=w.heap[b]?):PtS w' x p L x0 p0:=by
 obtain⟨L1,L2,h1,h2,rfl⟩:=a;exact⟨L1,L2,h1.keep fun b hb=>hk b (by simp[hb]),h2.keep fun b hb=>hk b (by simp[hb]),rfl⟩
theorem HkS.lt{x x0:Hh}{h h0:Hk}(a:HkS w x h L x0 h0):∀b∈L,b<w.heap.size:=by
 obtain⟨L1,L2,h1,h2,rfl⟩:=a;intro b hb;rcases List.mem_append.1 hb with hb|hb
 ·exact h1.lt b hb
 ·exact h2.lt b hb
theorem EdS.lt{x x0:Eh}{e e0:Ed}(a:EdS w x e L x0 e0):∀b∈L,b<w.heap.size:=by
 obtain⟨L1,L2,L3,h1,h2,h3,rfl⟩:=a;intro b hb;simp only[List.mem_append]at hb;rcases hb with hb|hb|hb
 ·exact h1.lt b hb
 ·exact h2.lt b hb
 ·exact h3.lt b hb
theorem PtS.lt{x x0:Ph}{p p0:Pt}(a:PtS w x p L x0 p0):∀b∈L,b<w.heap.size:=by
 obtain⟨L1,L2,h1,h2,rfl⟩:=a;intro b hb;rcases List.mem_append.1 hb with hb|hb
 ·exact h1.lt b hb
 ·exact h2.lt b hb
theorem HkS.below{x x0:Hh}{h h0:Hk}(a:HkS w x h L x0 h0)(hB:Below w.heap.size w w'):HkS w' x h L x0 h0:=a.keep fun b hb=>hB.block b (a.lt b hb)
theorem EdS.below{x x0:Eh}{e e0:Ed}(a:EdS w x e L x0 e0)(hB:Below w.heap.size w w'):EdS w' x e L x0 e0:=a.keep fun b hb=>hB.block b (a.lt b hb)
theorem PtS.below{x x0:Ph}{p p0:Pt}(a:PtS w x p L x0 p0)(hB:Below w.heap.size w w'):PtS w' x p L x0 p0:=a.keep fun b hb=>hB.block b (a.lt b hb)
theorem HkS.same{x:Hh}:HkS w x Hk.zero [] x Hk.zero:=⟨[],[],.inr ⟨rfl,rfl,rfl,rfl,rfl,rfl⟩,.inr ⟨rfl,rfl,rfl,rfl,rfl,rfl⟩,rfl⟩
theorem EdS.same{x:Eh}:EdS w x Ed.zero [] x Ed.zero:=⟨[],[],[],.inr ⟨rfl,rfl,rfl,rfl,rfl,rfl⟩,.inr ⟨rfl,rfl,rfl,rfl,rfl⟩,.inr ⟨rfl,rfl,rfl,rfl,rfl⟩,rfl⟩
theorem HkO.s{x x0:Hh}{h h0:Hk}(a:HkO w x h L):HkS w x h L x0 h0:=by
 obtain⟨L1,L2,h1,h2,rfl⟩:=a;exact⟨L1,L2,.inl h1,.inl h2,rfl⟩
theorem EdO.s{x x0:Eh}{e e0:Ed}(a:EdO w x e L):EdS w x e L x0 e0:=by
 obtain⟨L1,L2,L3,h1,h2,h3,rfl⟩:=a;exact⟨L1,L2,L3,.inl h1,.inl h2,.inl h3,rfl⟩
theorem pick5{M:Nat}{a1 a2 a3 a4 a5 b1 b2 b3 b4 b5 c1 c2 c3 c4 c5:List Nat}(ha:(a1++a2++(a3++(a4++a5))).Nodup)(hb:(b1++b2++(b3++(b4++b5))).Nodup)
  (la :∀b∈a1++a2++(a3++(a4++a5)),b<M) (lb :∀b∈b1++b2++(b3++(b4++b5)),M≤b)
  (h1:c1=b1∨c1=a1) (h2:c2=b2∨c2=a2) (h3:c3=b3∨c3=a3) (h4:c4=b4∨c4=a4) (h5:c5=b5∨c5=a5):(c1++c2++(c3++(c4++c5))).Nodup:=by
 rw[List.nodup_iff_count]at ha hb⊢;intro x;have ha:=ha x;have hb:=hb x;simp only[List.count_append]at ha hb⊢;have z :∀{l:List Nat},x∉l→l.count x=0:=fun h=>List.count_eq_zero.2 h;by_cases hx:x<M
 ·have n:x∉b1++b2++(b3++(b4++b5)):=fun h=>by have:=lb x h;omega
  simp only[List.mem_append,not_or]at n;have e1:=z n.1.1;have e2:=z n.1.2;have e3:=z n.2.1;have e4:=z n.2.2.1;have e5:=z n.2.2.2;rcases h1 with rfl|rfl<;>rcases h2 with rfl|rfl<;>rcases h3 with rfl|rfl<;>rcases h4 with rfl|rfl<;>rcases h5 with rfl|rfl<;>omega
 ·have n:x∉a1++a2++(a3++(a4++a5)):=fun h=>by have:=la x h;omega
  simp only[List.mem_append,not_or]at n;have e1:=z n.1.1;have e2:=z n.1.2;have e3:=z n.2.1;have e4:=z n.2.2.1;have e5:=z n.2.2.2;rcases h1 with rfl|rfl<;>rcases h2 with rfl|rfl<;>rcases h3 with rfl|rfl<;>rcases h4 with rfl|rfl<;>rcases h5 with rfl|rfl<;>omega
theorem PtS.trans{w0:World}{x0 x1 x2:Ph}{p0 p1 p2:Pt}{L1 L2:List Nat}(h:PtS w x1 p1 L1 x0 p0)(h2:PtS w' x2 p2 L2 x1 p1)(n1:New w0 w L1)(n2:New w w' L2)(hB:Below w.heap.size w w')(hs:w0.heap.size≤w.heap.size):∃L,PtS w' x2 p2 L x0 p0∧New w0 w' L:=by
 obtain⟨_,_,⟨a1,a2,r1,r2,rfl⟩,⟨a3,a4,a5,r3,r4,r5,rfl⟩,rfl⟩:=h;obtain⟨_,_,⟨b1,b2,q1,q2,rfl⟩,⟨b3,b4,b5,q3,q4,q5,rfl⟩,rfl⟩:=h2;obtain⟨c1,s1,e1⟩:=r1.trans q1 hB;obtain⟨c2,s2,e2⟩:=r2.trans q2 hB;obtain⟨c3,s3,e3⟩:=r3.trans q3 hB;obtain⟨c4,s4,e4⟩:=r4.trans q4 hB;obtain⟨c5,s5,e5⟩:=r5.trans q5 hB;refine⟨_,⟨_,_,⟨c1,c2,s1,s2,rfl⟩,⟨c3,c4,c5,s3,s4,s5,rfl⟩,rfl⟩,pick5 n1.nd n2.nd n1.lt n2.ge e1 e2 e3 e4 e5,?_,?_⟩
 ·intro b hb;have g1:=n1.ge b;have g2:=n2.ge b;simp only[List.mem_append]at hb g1 g2;rcases e1 with rfl|rfl<;>rcases e2 with rfl|rfl<;>rcases e3 with rfl|rfl<;>rcases e4 with rfl|rfl<;>rcases e5 with rfl|rfl<;>grind
 ·intro b hb;have g1:=n1.lt b;have g2:=n2.lt b;have hs2:=hB.size;simp only[List.mem_append]at hb g1 g2;rcases e1 with rfl|rfl<;>rcases e2 with rfl|rfl<;>rcases e3 with rfl|rfl<;>rcases e4 with rfl|rfl<;>rcases e5 with rfl|rfl<;>grind
end
end
section
open Go.RowKit
section
variable {E : TypeId} {mk : Nat → Nat → Value} {B K : Nat} {vs : Nat → Value} {ns m m' : Nat → Nat} {T : Nat → Option Nat} {w w' : World}
def marksV(mk:Nat→Nat→Value)(j m:Nat):List Value:=(List.range m).map (mk j)
theorem marksV_len(mk:Nat→Nat→Value)(j m:Nat):(marksV mk j m).length=m:=by simp[marksV]
theorem marksV_next(mk:Nat→Nat→Value)(j m:Nat):marksV mk j (m+1)=marksV mk j m++[mk j m]:=by simp[marksV,List.range_succ]
theorem marksV_at(mk:Nat→Nat→Value){j m i:Nat}(h:i<m):(marksV mk j m)[i]?=some (mk j i):=by simp[marksV,h]
theorem marksV_take(mk:Nat→Nat→Value){j m n:Nat}(h:m≤n):(marksV mk j n).take m=marksV mk j m:=by
 simp only[marksV,←List.map_take,List.take_range,Nat.min_eq_left h]
def Only(T:Nat→Option Nat)(k:Nat)(w w':World):Prop:=w.heap.size≤w'.heap.size∧∀b,b<w.heap.size→T b≠some k→w'.heap[b]?=w.heap[b]?
theorem Only.trans{k:Nat}{w'':World}(h:Only T k w w')(h':Only T k w' w''):Only T k w w'' :=
 ⟨Nat.le_trans h.1 h'.1,fun b hb ht=>(h'.2 b (Nat.lt_of_lt_of_le hb h.1) ht).trans (h.2 b hb ht)⟩
theorem Only.alloc{k:Nat}(w:World)(o:Obj):Only T k w (w.alloc o):=⟨by simp,fun b hb _=>heap_alloc_old w o hb⟩
theorem Only.drew{k:Nat}(w:World):Only T k w w.drew:=⟨Nat.le_refl _,fun _ _ _=>rfl⟩
theorem Only.grown{k:Nat}{row:Option Nat}(h:w.grownBy w' row)(hr :∀g,row=some g→T g=some k):Only T k w w':=⟨h.size,fun b hb ht=>h.block b hb (fun e=>ht (hr b e.symm))⟩
theorem Only.below{k:Nat}(h:Below w.heap.size w w'):Only T k w w':=⟨h.size,fun b hb _=>h.block b hb⟩
structure RowsW(mk:Nat→Nat→Value)(E:TypeId)(B K:Nat)(vs:Nat→Value)(ns m:Nat→Nat)(T:Nat→Option Nat)(w:World):Prop where
 row :∀j,j<K→∃xs,w.ownsRow B E 1 (vs j) (ns j) (marksV mk j (m j)++xs)
 tag :∀j,j<K→∀g,(vs j).ownBlock=some g→T g=some j
 lt :∀g,T g≠none→B≤g∧g<w.heap.size
theorem own_same{base size n:Nat}{e:TypeId}{v:Value}{xs:List Value}(h:w.ownsRow base e size v n xs)(hb :∀g,v.ownBlock=some g→w'.heap[g]?=w.heap[g]?):w'.ownsRow base e size v n xs:=by
 refine⟨h.1,?_⟩;rcases h.2 with hn|⟨g,cap,cur,rfl,hbg,hg,hr⟩
 ·exact .inl hn
 ·exact .inr ⟨g,cap,cur,rfl,hbg,(hb g rfl).trans hg,hr⟩
theorem RowsW.turn(h:RowsW mk E B K vs ns m T w){k:Nat}(ho:Only T k w w')(hrow:k<K→∃xs,w'.ownsRow B E 1 (vs k) (ns k) (marksV mk k (m' k)++xs))(hm :∀j,j≠k→m' j=m j):RowsW mk E B K vs ns m' T w':=by
 refine⟨fun j hj=>?_,h.tag,fun g hg=>⟨(h.lt g hg).1,Nat.lt_of_lt_of_le (h.lt g hg).2 ho.1⟩⟩;by_cases e:j=k
 ·subst e;exact hrow hj
 ·obtain⟨xs,hx⟩:=h.row j hj;rw[hm j e];refine⟨xs,own_same hx fun g hg=>ho.2 g (hx.lt g hg).2 ?_⟩;rw[h.tag j hj g hg];intro e2;injection e2 with e2;exact e e2
theorem RowsW.still(h:RowsW mk E B K vs ns m T w)(hb:w.heap.size≤w'.heap.size∧∀b,b<w.heap.size→T b≠none→w'.heap[b]?=w.heap[b]?):RowsW mk E B K vs ns m T w':=by
 refine⟨fun j hj=>?_,h.tag,fun g hg=>⟨(h.lt g hg).1,Nat.lt_of_lt_of_le (h.lt g hg).2 hb.1⟩⟩;obtain⟨xs,hx⟩:=h.row j hj;exact⟨xs,own_same hx fun g hg=>hb.2 g (hx.lt g hg).2 (by rw[h.tag j hj g hg];exact fun e=>by cases e)⟩
theorem RowsW.below(h:RowsW mk E B K vs ns m T w)(hB:Below w.heap.size w w'):RowsW mk E B K vs ns m T w':=h.still ⟨hB.size,fun b hb _=>hB.block b hb⟩
theorem RowsW.mono(h:RowsW mk E B K vs ns m T w)(hm :∀j,j<K→m' j=m j):RowsW mk E B K vs ns m' T w:=⟨fun j hj=>by rw[hm j hj];exact h.row j hj,h.tag,h.lt⟩
theorem RowsW.shape(h:RowsW mk E B K vs ns m T w){j:Nat}(hj:j<K):∃A c,vs j = .slice A (ns j) c:=by
 obtain⟨xs,hx⟩:=h.row j hj;exact own_shape hx
theorem RowsW.at_(h:RowsW mk E B K vs ns m T w){j i:Nat}(hj:j<K)(hi:i<ns j):∃g c,vs j = .slice (some ⟨g,0,none⟩) (ns j) c∧T g=some j∧B≤g∧g<w.heap.size∧(∃u,w.cell? ⟨g,i,none⟩=some u)∧w.frozen? ⟨g,i,none⟩=false∧(i<m j→w.cell? ⟨g,i,none⟩=some (mk j i)):=by
 obtain⟨xs,hx⟩:=h.row j hj;rcases hx.2 with⟨_,h0⟩|⟨g,cap,cur,e,hb,hg,_⟩
 ·omega
 ·have ht:=h.tag j hj g (by rw[e];rfl);rw[e]at hx;have hc:=hx.cellAt i (by omega);have hl:=hx.1;have hi2:i<(marksV mk j (m j)++xs).length:=by omega
  refine⟨g,cap,e,ht,hb,(Array.getElem?_eq_some_iff.1 hg).1,⟨_,by rw[hc];exact List.getElem?_eq_getElem hi2⟩,hx.frozenAt i,fun hm=>?_⟩;rw[hc,List.getElem?_append_left (by rw[marksV_len];exact hm),marksV_at mk hm]
theorem RowsW.full(h:RowsW mk E B K vs ns m T w){j:Nat}(hj:j<K)(hm:m j=ns j):w.ownsRow B E 1 (vs j) (ns j) (marksV mk j (ns j)):=by
 obtain⟨xs,hx⟩:=h.row j hj;have hl:=hx.1;rw[hm,List.length_append,marksV_len]at hl;have:xs=[]:=List.length_eq_zero_iff.1 (by omega);subst this;rw[hm,List.append_nil]at hx;exact hx
theorem RowsW.mark(h:RowsW mk E B K vs ns m T w){k i g c:Nat}(hk:k<K)(hi:i<ns k)(hm:m k=i)(hv:vs k = .slice (some ⟨g,0,none⟩) (ns k) c)(hT:T g=some k):
  RowsW mk E B K vs ns (fun j=>if j=k then i+1 else m j) T (w.setCell ⟨g,i,none⟩ (mk k i)):=by
 refine h.turn (k:=k) ?_ (fun _=>?_) (fun j hj=>if_neg hj)
 ·obtain⟨xs,hx⟩:=h.row k hk;rw[hv]at hx;exact Only.grown (hx.stored i (mk k i)).2 (fun g' hg'=>by injection hg' with hg';rw[←hg'];exact hT)
 ·obtain⟨xs,hx⟩:=h.row k hk;rw[hv]at hx⊢;have hs:=(hx.stored i (mk k i)).1;have hl:=hx.1;rw[hm,List.length_append,marksV_len]at hl;rw[hm]at hs;rcases xs with _|⟨x,xs⟩
  ·simp at hl;omega
  ·refine⟨xs,?_⟩;rw[if_pos rfl,marksV_next,List.append_assoc];have e:(marksV mk k i++x::xs).set i (mk k i)=marksV mk k i++([mk k i]++xs):=by
    rw[List.set_append_right _ _ (by rw[marksV_len];exact Nat.le_refl _)];simp[marksV_len]
   rwa [e]at hs
def GsAt(mk:Nat→Nat→Value)(T:Nat→Option Nat)(w:World)(v:Value)(n p j:Nat):Prop :=
 ∃g c,v = .slice (some ⟨g,0,none⟩) n c∧n≤c∧c≤9223372036854775807∧T g=some j∧g<w.heap.size∧∀i,i<p→w.cell? ⟨g,i,none⟩=some (mk j i)
theorem GsAt.keep{v:Value}{n p j:Nat}(h:GsAt mk T w v n p j)(hs:w.heap.size≤w'.heap.size)(hb :∀g,g<w.heap.size→T g=some j→w'.heap[g]?=w.heap[g]?):GsAt mk T w' v n p j:=by
 obtain⟨g,c,h1,h2,h3,h4,h5,h6⟩:=h;exact⟨g,c,h1,h2,h3,h4,Nat.lt_of_lt_of_le h5 hs,fun i hi=>(World.cell?_of_block (a:=⟨g,i,none⟩) (hb g h5 h4)).trans (h6 i hi)⟩
theorem GsAt.less{v:Value}{n p q j:Nat}(h:GsAt mk T w v n p j)(hq:q≤p):GsAt mk T w v n q j:=by
 obtain⟨g,c,h1,h2,h3,h4,h5,h6⟩:=h;exact⟨g,c,h1,h2,h3,h4,h5,fun i hi=>h6 i (Nat.lt_of_lt_of_le hi hq)⟩
theorem GsAt.retag{T':Nat→Option Nat}{v:Value}{n p j:Nat}(h:GsAt mk T w v n p j)(hT :∀g,T g=some j→T' g=some j):GsAt mk T' w v n p j:=by
 obtain⟨g,c,h1,h2,h3,h4,h5,h6⟩:=h;exact⟨g,c,h1,h2,h3,hT g h4,h5,h6⟩
theorem GsAt.of_own{v:Value}{n p j:Nat}{xs:List Value}(h:w.ownsRow B E 1 v n (marksV mk j p++xs))(hn:0<n)(hT :∀g,v.ownBlock=some g→T g=some j):GsAt mk T w v n p j:=by
 rcases h.2 with⟨_,h0⟩|⟨g,cap,cur,rfl,hb,hg,hnc,hcm,_⟩
 ·omega
 ·refine⟨g,cap,rfl,hnc,by unfold maxLen at hcm;omega,hT g rfl,(Array.getElem?_eq_some_iff.1 hg).1,fun i hi=>?_⟩;have hl:=h.1;rw[List.length_append,marksV_len]at hl;rw[h.cellAt i (by omega),List.getElem?_append_left (by rw[marksV_len];exact hi),marksV_at mk hi]
def retag(T:Nat→Option Nat)(w:World)(v':Value)(k:Nat):Nat→Option Nat:=fun g=>if v'.ownBlock=some g∧g=w.heap.size then some k else T g
theorem retag_old{k g:Nat}{v':Value}(hg:g<w.heap.size):retag T w v' k g=T g:=by
 unfold retag;rw[if_neg (fun h=>by omega)]
theorem retag_some{j k g:Nat}{v':Value}(hlt :∀g,T g≠none→B≤g∧g<w.heap.size)(h:T g=some j):retag T w v' k g=some j:=by
 rw[retag_old (hlt g (by rw[h];exact fun e=>by cases e)).2,h]
theorem RowsW.append(h:RowsW mk E B K vs ns m T w){k n a:Nat}{v v':Value}{xs news:List Value}(hB:B≤w.heap.size)(hown:w.ownsRow B E 1 v n xs)(hv :∀g,v.ownBlock=some g→T g=some k)
  (hown':w'.ownsRow B E 1 v' (n+a) (xs++news)) (hgr:w.grownBy w' v.ownBlock) (hw:Went w w' v v' n a)
  (hmk:k<K→m k≤ns k∧∃ys,marksV mk k (m k)++ys=xs.take (ns k)∨∀g,(vs k).ownBlock=some g→v.ownBlock≠some g) (hn:k<K→ns k≤n) (ha:xs.length=n):
  RowsW mk E B K vs ns m (retag T w v' k) w'∧(∀g,v'.ownBlock=some g→retag T w v' k g=some k)∧Only T k w w'∧Below B w w':=by
 have hO:Only T k w w':=Only.grown hgr hv;have hBl:Below B w w':=(Below.refl _ _).grown hgr hB (fun g hg=>(hown.lt g hg).1);have htag :∀g,v'.ownBlock=some g→retag T w v' k g=some k:=by
  intro g hg;rcases hw with⟨A,c,rfl,rfl⟩|⟨hf,_⟩
  ·have e:(Value.slice A n c).ownBlock=some g:=by cases A<;>exact hg
   have:=hv g e;rw[retag_old (hown.lt g e).2];exact this
  ·rw[hf]at hg;injection hg with hg;unfold retag;rw[if_pos ⟨by rw[hf,hg],hg.symm⟩]
 refine⟨⟨fun j hj=>?_,fun j hj g hg=>?_,fun g hg=>?_⟩,htag,hO,hBl⟩
 ·obtain⟨zs,hz⟩:=h.row j hj;by_cases hjk:j=k
  ·subst hjk;rcases hw with⟨A,c,rfl,rfl⟩|⟨hf,hold⟩
   ·rcases hz.2 with⟨e0,h0⟩|⟨g,cap,cur,e,hb,hg,hnc,hcm,hcs,htk⟩
    ·refine⟨zs,hz.1,.inl ⟨e0,h0⟩⟩
    ·by_cases hgb:(Value.slice A n c).ownBlock=some g
     ·obtain⟨hmn,ys,hys⟩:=hmk hj;rcases hys with hys|hys
      ·
       rcases A with _|⟨g',o',p'⟩
       ·cases hgb
       ·have e1:g'=g:=by injection hgb
        subst e1;rcases hown.2 with⟨e2,_⟩|⟨g2,cap2,cur2,e2,_,hg2,hnc2,hcm2,hcs2,htk2⟩
        ·cases e2
        ·injection e2 with e2 _ e3;injection e2 with e2;injection e2 with e2 e4 e5;subst e2 e3 e4 e5;rw[hg]at hg2;injection hg2 with hg2;injection hg2 with hg2;subst hg2;rcases hown'.2 with⟨e6,_⟩|⟨g3,cap3,cur3,e6,hb3,hg3,hnc3,hcm3,hcs3,htk3⟩
         ·cases e6
         ·injection e6 with e6 _ e7;injection e6 with e6;injection e6 with e6;subst e6 e7;have hcc:cap=c:=by omega
          subst hcc;refine⟨ys,?_,.inr ⟨g',cap,cur3,e,hb3,hg3,hnc,hcm3,hcs3,?_⟩⟩
          ·rw[hys,List.length_take,ha];have:=hn hj;omega
          ·have h1:=congrArg (List.take (ns j)) htk3;have hnn:=hn hj;rw[List.take_take,Nat.min_eq_left (by omega),List.take_append_of_le_length (by omega)]at h1;rw[hys,←h1];simp
      ·exact absurd hgb (hys g (by rw[e];rfl))
     ·refine⟨zs,own_same hz fun g1 hg1=>?_⟩;have:g1=g:=by
       rw[e]at hg1;injection hg1 with hg1;exact hg1.symm
      subst this;exact hgr.block g1 (hz.lt g1 hg1).2 (fun e2=>hgb e2.symm)
   ·exact⟨zs,own_same hz fun g hg=>hold g (hz.lt g hg).2⟩
  ·exact⟨zs,own_same hz fun g hg=>hO.2 g (hz.lt g hg).2 (by rw[h.tag j hj g hg];exact fun e=>hjk (by injection e))⟩
 ·exact retag_some h.lt (h.tag j hj g hg)
 ·by_cases e:v'.ownBlock=some g∧g=w.heap.size
  ·exact⟨by omega,(hown'.lt g e.1).2⟩
  ·unfold retag at hg;rw[if_neg e]at hg;exact⟨(h.lt g hg).1,Nat.lt_of_lt_of_le (h.lt g hg).2 hO.1⟩
end
end
section
open Go.RowKit
theorem FoIn.fit{S:Nat→Prop}{w:World}:∀{f:Fo} {A:Option Addr},FoIn S w A f→f.fit:=by
 intro f
 induction f with
 | nil=>intro A _;exact trivial
 | cons k t n ks r ihk ihr =>
  rintro A ⟨b,o,KA,c,rfl,hS,c0,c1,c2,c3,e1,e2,e3,e4,e5,hks,hr⟩;exact⟨e1,e2,e3,Nat.le_trans e4 e5,ihk hks,ihr hr⟩
theorem EdIn.fit{S:Nat→Prop}{w:World}{x:Eh}{e:Ed}(h:EdIn S w x e):EdFit e :=
 ⟨h.kind,⟨h.path.2.1,h.path.2.2⟩,h.at_,h.far,h.frm,h.to,⟨h.old.fit,Nat.le_trans h.oc.1 h.oc.2⟩,⟨h.new.fit,Nat.le_trans h.nc.1 h.nc.2⟩⟩
theorem PtIn.fit{S:Nat→Prop}{w:World}{x:Ph}{p:Pt}(h:PtIn S w x p):PtFit p :=
 ⟨h.kind,h.file,h.text,⟨h.hunk.at_,⟨h.hunk.old.2.1,h.hunk.old.2.2⟩,⟨h.hunk.new.2.1,h.hunk.new.2.2⟩⟩,h.edit.fit⟩
theorem edOk_sum{e:Ed}(h:EdOk e):e.frm.size+e.to.size≤48:=by
 have h0:noTxt.size=0:=rfl;obtain⟨_,h|h|h|h|h⟩:=h
 ·obtain⟨_,_,_,_,_,_,h1,h2,_⟩:=h;have:=h1.1;have:=h2.1;omega
 ·obtain⟨_,_,h1,h2,_⟩:=h;rw[h1,h2];omega
 ·obtain⟨_,_,h1,h2,_⟩:=h;rw[h1,h2];omega
 ·obtain⟨_,_,_,h1,h2,_⟩:=h;rw[h1,h2];omega
 ·obtain⟨_,h1,h2,_⟩:=h;rw[h1,h2];omega
theorem ptOk_sum{p:Pt}(h:PtOk p):p.edit.frm.size+p.edit.to.size≤9223372036854775807:=by
 have h0:Ed.zero.frm.size+Ed.zero.to.size=0:=rfl;obtain⟨_,⟨_,_,h1⟩|⟨_,_,h1,_⟩|⟨_,_,_,h1⟩⟩:=h
 ·rw[h1,h0];omega
 ·rw[h1,h0];omega
 ·have:=edOk_sum h1;omega
theorem ptB_pos(p:Pt):0<(ptB p).length:=by simp[ptB]
end
end Go.Proofs.YtialngdffhmobaaGreatDoor
