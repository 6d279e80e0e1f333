/- Part 6 of what mgTop rests on. -/
import Derived.OwnWalk
import Derived.Lib.SliceRun
import Derived.Test.YtialngdffhmobaaGreatDoorShelf
import Derived.Test.YtialngdffhmobaaGreatDoorU01
import Derived.Test.YtialngdffhmobaaGreatDoorU04
import Derived.Test.YtialngdffhmobaaGreatDoorU03
import Derived.Test.YtialngdffhmobaaGreatDoorU02
import Derived.Test.YtialngdffhmobaaGreatDoorU00
set_option linter.unusedVariables false
set_option linter.unusedSimpArgs false
set_option maxHeartbeats 16000000
set_option maxRecDepth 1000000
namespace Go.Proofs.YtialngdffhmobaaGreatDoor
section
open Go.RowKit
theorem rd_addr{S:Nat→Prop}{w:World}{A:Option Addr}{xs:List Value}(h:Rd S w A xs):∀ad,A=some ad→∀j u,xs[j]?=some u→w.cell? (ad.add j)=some u:=by
 rintro ad rfl j u hu;rcases h with rfl|⟨b,o,e,_,hc⟩
 ·simp at hu
 ·injection e with e;subst e;rw[Addr.add_lit];exact hc j u hu
theorem cloneInts_any{S:Nat→Prop}{A:Option Addr}{n c:Nat}{xs:List Value}{w:World}(h:Rd S w A xs)(hn:xs.length=n*1)(h1 :∀u∈xs,u.oneCell'=true)(hb:n≤549755813888):
  Calls Tryz.prog 219 #[.slice A n c] w fun e w'=>∃v,e = .returned v∧w'.ownsRow 0 3 1 v n xs∧(∀g,v.ownBlock=some g→w.heap.size≤g)∧Below w.heap.size w w':=by
 obtain⟨i0,hi,hz0,hz1,hz2⟩:=info_parts InfosomeInt;have qn :∀(w:World) (a:Option Addr) (n c n' c':Nat),(binOp .eql 27 (.slice a n c) (.slice none n' c')).run Tryz.prog w = .ok (.bool a.isNone) w:=fun w a n c n' c'=>Lib.run_eql_slice_nil w _ _ a n c n' c' Tryz.underlying27;rcases A with _|a
 ·have hx:xs=[]:=by
   rcases h with h|⟨b,o,h,_⟩
   ·exact h
   ·cases h
  subst hx;have h0:n=0:=by simp at hn;omega
  subst h0;clear h;go_enter Tryz.func219,Tryz.ntmps219
  go_wp2_with fail
  go_ret;exact⟨_,rfl,World.ownsRow_nil _ _ _ _,by simp[Value.ownBlock],Below.refl _ _⟩
 ·have Hc:=hide (rd_addr (h.below (below_alloc w (.cells #[] 3))) a rfl);clear h;go_enter Tryz.func219,Tryz.ntmps219
  go_wp2_with(at_builtin;refine wpList_append_own2 _ rfl _ _ 27 rfl 3 i0 (.int .i64 0) 1 8 Tryz.underlying27 hi hz0 hz1 hz2 rfl (by decide) _ 0 [] rfl (World.ownsRow_lit w #[] 0 (Nat.zero_le _) (Nat.zero_le _) rfl) a n c xs rfl hn Hc.out h1 (by unfold maxLen;omega) (by omega) ?_;intro v' w1 hown hgrow hnil hwhere)
  go_ret;refine⟨_,rfl,by simpa using hown,fun g hg=>?_,(below_alloc w _).grown hgrow (by simp) (by intro k hk;cases hk;exact Nat.le_refl _)⟩;change v'.ownBlock=some g at hg;rcases hwhere with e|e
  ·rw[hg]at e;cases e;exact Nat.le_refl _
  ·rw[hg]at e;injection e with e;simp at e;omega
theorem cloneStrs_any{S:Nat→Prop}{A:Option Addr}{n c:Nat}{xs:List Value}{w:World}(h:Rd S w A xs)(hn:xs.length=n*1)(h1 :∀u∈xs,u.oneCell'=true)(hb:n≤549755813888):
  Calls Tryz.prog 122 #[.slice A n c] w fun e w'=>∃v,e = .returned v∧w'.ownsRow 0 9 1 v n xs∧(∀g,v.ownBlock=some g→w.heap.size≤g)∧Below w.heap.size w w':=by
 obtain⟨i0,hi,hz0,hz1,hz2⟩:=info_parts InfosomeStr;have qn :∀(w:World) (a:Option Addr) (n c n' c':Nat),(binOp .eql 23 (.slice a n c) (.slice none n' c')).run Tryz.prog w = .ok (.bool a.isNone) w:=fun w a n c n' c'=>Lib.run_eql_slice_nil w _ _ a n c n' c' Tryz.underlying23;rcases A with _|a
 ·have hx:xs=[]:=by
   rcases h with h|⟨b,o,h,_⟩
   ·exact h
   ·cases h
  subst hx;have h0:n=0:=by simp at hn;omega
  subst h0;clear h;go_enter Tryz.func122,Tryz.ntmps122
  go_wp2_with fail
  go_ret;exact⟨_,rfl,World.ownsRow_nil _ _ _ _,by simp[Value.ownBlock],Below.refl _ _⟩
 ·have Hc:=hide (rd_addr (h.below (below_alloc w (.cells #[] 9))) a rfl);clear h;go_enter Tryz.func122,Tryz.ntmps122
  go_wp2_with(at_builtin;refine wpList_append_own2 _ rfl _ _ 23 rfl 9 i0 (.string ByteArray.empty) 1 16 Tryz.underlying23 hi hz0 hz1 hz2 rfl (by decide) _ 0 [] rfl (World.ownsRow_lit w #[] 0 (Nat.zero_le _) (Nat.zero_le _) rfl) a n c xs rfl hn Hc.out h1 (by unfold maxLen;omega) (by omega) ?_;intro v' w1 hown hgrow hnil hwhere)
  go_ret;refine⟨_,rfl,by simpa using hown,fun g hg=>?_,(below_alloc w _).grown hgrow (by simp) (by intro k hk;cases hk;exact Nat.le_refl _)⟩;change v'.ownBlock=some g at hg;rcases hwhere with e|e
  ·rw[hg]at e;cases e;exact Nat.le_refl _
  ·rw[hg]at e;injection e with e;simp at e;omega
theorem cloneNodes_any{S:Nat→Prop}{A:Option Addr}{n c:Nat}{xs:List Value}{w:World}(h:Rd S w A xs)(hn:xs.length=n*4)(h1 :∀u∈xs,u.oneCell'=true)(hb:n≤549755813888):
  Calls Tryz.prog 285 #[.slice A n c] w fun e w'=>∃v,e = .returned v∧w'.ownsRow 0 152 4 v n xs∧(∀g,v.ownBlock=some g→w.heap.size≤g)∧Below w.heap.size w w':=by
 obtain⟨i0,hi,hz0,hz1,hz2⟩:=info_parts InfoNode;have qn :∀(w:World) (a:Option Addr) (n c n' c':Nat),(binOp .eql 28 (.slice a n c) (.slice none n' c')).run Tryz.prog w = .ok (.bool a.isNone) w:=fun w a n c n' c'=>Lib.run_eql_slice_nil w _ _ a n c n' c' Tryz.underlying28;rcases A with _|a
 ·have hx:xs=[]:=by
   rcases h with h|⟨b,o,h,_⟩
   ·exact h
   ·cases h
  subst hx;have h0:n=0:=by simp at hn;omega
  subst h0;clear h;go_enter Tryz.func285,Tryz.ntmps285
  go_wp2_with fail
  go_ret;exact⟨_,rfl,World.ownsRow_nil _ _ _ _,by simp[Value.ownBlock],Below.refl _ _⟩
 ·have Hc:=hide (rd_addr (h.below (below_alloc w (.cells #[] 152))) a rfl);clear h;go_enter Tryz.func285,Tryz.ntmps285
  go_wp2_with(at_builtin;refine wpList_append_own2 _ rfl _ _ 28 rfl 152 i0 (.agg #[.int .u8 0,.string ByteArray.empty,.int .i64 0,.slice none 0 0]) 4 56 Tryz.underlying28 hi hz0 hz1 hz2 rfl (by decide) _ 0 [] rfl (World.ownsRow_lit w #[] 0 (Nat.zero_le _) (Nat.zero_le _) rfl) a n c xs rfl hn Hc.out h1 (by unfold maxLen;omega) (by omega) ?_;intro v' w1 hown hgrow hnil hwhere)
  go_ret;refine⟨_,rfl,by simpa using hown,fun g hg=>?_,(below_alloc w _).grown hgrow (by simp) (by intro k hk;cases hk;exact Nat.le_refl _)⟩;change v'.ownBlock=some g at hg;rcases hwhere with e|e
  ·rw[hg]at e;cases e;exact Nat.le_refl _
  ·rw[hg]at e;injection e with e;simp at e;omega
theorem cloneInts_in{S:Nat→Prop}{A:Option Addr}{n c:Nat}{l:List Int}{w:World}(h:IntsIn S w A l)(hn:l.length=n)(hb:n≤549755813888):
  Calls Tryz.prog 219 #[.slice A n c] w fun e w'=>(∃A' c',e = .returned (.slice A' n c')∧IntsIn (fun b=>w.heap.size≤b) w' A' l∧n≤c'∧c'≤9223372036854775807)∧Below w.heap.size w w':=by
 refine(cloneInts_any h.1 (by simp[hn]) (by intro u hu;obtain⟨x,_,rfl⟩:=List.mem_map.1 hu;rfl) hb).mono ?_;rintro e w' ⟨v,rfl,hown,hg,hB⟩;obtain⟨A',c',rfl,h1,h2,h3⟩:=own_rd hown hg;exact⟨⟨A',c',rfl,⟨h1,h.2⟩,h2,h3⟩,hB⟩
theorem cloneStrs_in{S:Nat→Prop}{A:Option Addr}{n c:Nat}{l:List ByteArray}{w:World}(h:StrsIn S w A l)(hn:l.length=n)(hb:n≤549755813888):
  Calls Tryz.prog 122 #[.slice A n c] w fun e w'=>(∃A' c',e = .returned (.slice A' n c')∧StrsIn (fun b=>w.heap.size≤b) w' A' l∧n≤c'∧c'≤9223372036854775807)∧Below w.heap.size w w':=by
 refine(cloneStrs_any h.1 (by simp[hn]) (by intro u hu;obtain⟨x,_,rfl⟩:=List.mem_map.1 hu;rfl) hb).mono ?_;rintro e w' ⟨v,rfl,hown,hg,hB⟩;obtain⟨A',c',rfl,h1,h2,h3⟩:=own_rd hown hg;exact⟨⟨A',c',rfl,⟨h1,h.2⟩,h2,h3⟩,hB⟩
def TopIn(S:Nat→Prop)(w:World)(R:Nat):Nat→Fo→Prop
 | _,.nil=>True
 | o,.cons k t n ks r=>∃KA c,w.cell? ⟨R,o,none⟩=some (.int .u8 k)∧w.cell? ⟨R,o+1,none⟩=some (.string t)∧
   w.cell? ⟨R,o+2,none⟩=some (.int .i64 n)∧w.cell? ⟨R,o+3,none⟩=some (.slice KA ks.len c)∧
   k<256∧t.size≤9223372036854775807∧isInt64 n∧ks.len≤c∧c≤9223372036854775807∧FoIn S w KA ks∧TopIn S w R (o+4) r
section
variable {S S' : Nat → Prop} {w w' : World} {R : Nat}
theorem FoIn.row :∀{f:Fo} {A:Option Addr},FoIn S w A f→∃vs,FoCells S w vs f∧Rd S w A vs∧vs.length=f.len*4∧∀u∈vs,u.oneCell'=true:=by
 intro f
 induction f with
 | nil=>intro A _;exact⟨[],rfl,.inl rfl,rfl,by simp⟩
 | cons k t n ks r _ ih =>
  rintro A ⟨b,o,KA,c,rfl,hS,c0,c1,c2,c3,e1,e2,e3,e4,e5,hks,hr⟩;obtain⟨vs,h1,h2,h3,h4⟩:=ih hr;refine⟨.int .u8 k :: .string t :: .int .i64 n :: .slice KA ks.len c::vs,⟨KA,c,vs,rfl,e1,e2,e3,e4,e5,hks,h1⟩,.inr ⟨b,o,rfl,hS,?_⟩,by simp[Fo.len,h3];omega,?_⟩
  ·intro j u hu
   match j,hu with
   | 0,hu=>simp at hu;subst hu;exact c0
   | 1,hu=>simp at hu;subst hu;exact c1
   | 2,hu=>simp at hu;subst hu;exact c2
   | 3,hu=>simp at hu;subst hu;exact c3
   | j+4,hu =>
    have hu':vs[j]?=some u:=by simpa using hu
    rcases h2 with rfl|⟨b',o',e,_,hc⟩
    ·simp at hu'
    ·injection e with e;injection e with e1 e2;subst e1 e2;have:=hc j u hu'
     rwa [show o+4+j=o+(j+4)by omega]at this
  ·intro u hu;simp only[List.mem_cons]at hu;rcases hu with rfl|rfl|rfl|rfl|hu
   ·rfl
   ·rfl
   ·rfl
   ·rfl
   ·exact h4 u hu
theorem FoCells.top :∀{f:Fo} {vs:List Value} {o:Nat},FoCells S w vs f→(∀j u,vs[j]?=some u→w.cell? ⟨R,o+j,none⟩=some u)→TopIn S w R o f:=by
 intro f
 induction f with
 | nil=>intro vs o _ _;exact trivial
 | cons k t n ks r _ ih =>
  rintro vs o ⟨KA,c,vs',rfl,g1,g2,g3,g4,g5,g6,g7⟩ hc;exact⟨KA,c,hc 0 _ rfl,hc 1 _ rfl,hc 2 _ rfl,hc 3 _ rfl,g1,g2,g3,g4,g5,g6,ih g7 (fun j u hu=>by
   have:=hc (j+4) u hu
   rwa [show o+(j+4)=o+4+j by omega]at this)⟩
theorem TopIn.fo(hR:S' R)(hm :∀b,S b→S' b):∀{f:Fo} {o:Nat},TopIn S w R o f→FoIn S' w (some ⟨R,o,none⟩) f:=by
 intro f
 induction f with
 | nil=>intro o _;exact trivial
 | cons k t n ks r _ ih =>
  rintro o ⟨KA,c,c0,c1,c2,c3,g1,g2,g3,g4,g5,g6,g7⟩;exact⟨R,o,KA,c,rfl,hR,c0,c1,c2,c3,g1,g2,g3,g4,g5,g6.mono fun b _ h=>hm b h,ih g7⟩
theorem TopIn.at_ :∀{f:Fo} {o i:Nat},TopIn S w R o f→i<f.len→∃KA c k t n ks r,f.drop i = .cons k t n ks r∧
  w.cell? ⟨R,o+i*4,none⟩=some (.int .u8 k)∧w.cell? ⟨R,o+i*4+1,none⟩=some (.string t)∧w.cell? ⟨R,o+i*4+2,none⟩=some (.int .i64 n)∧w.cell? ⟨R,o+i*4+3,none⟩=some (.slice KA ks.len c)∧
  k<256∧t.size≤9223372036854775807∧isInt64 n∧ks.len≤c∧c≤9223372036854775807∧FoIn S w KA ks∧ks.cnt<f.cnt∧(foB ks).length≤(foB f).length:=by
 intro f
 induction f with
 | nil=>intro o i _ h;simp[Fo.len]at h
 | cons k t n ks r _ ih =>
  rintro o i ⟨KA,c,c0,c1,c2,c3,g1,g2,g3,g4,g5,g6,g7⟩ hi;cases i with
  | zero=>exact⟨KA,c,k,t,n,ks,r,rfl,by simpa using c0,by simpa using c1,by simpa using c2,by simpa using c3,g1,g2,g3,g4,g5,g6,by simp[Fo.cnt];omega,by simp[foB];omega⟩
  | succ i =>
   obtain⟨KA',c',k',t',n',ks',r',hd,d0,d1,d2,d3,f1,f2,f3,f4,f5,f6,f7,f8⟩:=ih g7 (by simpa[Fo.len]using hi);have ho:o+4+i*4=o+(i+1)*4:=by omega
   rw[ho]at d0 d1 d2 d3;exact⟨KA',c',k',t',n',ks',r',hd,d0,d1,d2,d3,f1,f2,f3,f4,f5,f6,by simp[Fo.cnt];omega,by simp[foB];omega⟩
theorem TopIn.keep(hk :∀b,S b→b<w.heap.size→w'.heap[b]?=w.heap[b]?)(hR :∀q,w'.cell? ⟨R,q,none⟩=w.cell? ⟨R,q,none⟩):∀{f:Fo} {o:Nat},TopIn S w R o f→TopIn S w' R o f:=by
 intro f
 induction f with
 | nil=>intro o _;exact trivial
 | cons k t n ks r _ ih =>
  rintro o ⟨KA,c,c0,c1,c2,c3,g1,g2,g3,g4,g5,g6,g7⟩;exact⟨KA,c,(hR _).trans c0,(hR _).trans c1,(hR _).trans c2,(hR _).trans c3,g1,g2,g3,g4,g5,((g6.mono (S':=fun b=>S b∧b<w.heap.size) fun b hb h=>⟨h,hb⟩).keep fun b h=>hk b h.1 h.2).mono fun b _ h=>h.1,ih g7⟩
theorem TopIn.set(hk :∀b,S b→b<w.heap.size→w'.heap[b]?=w.heap[b]?){k:Nat}{t:ByteArray}{n:Int}{ks r:Fo}{KA:Option Addr}{c:Nat}(h4:ks.len≤c)(h5:c≤9223372036854775807)(h6:FoIn S w' KA ks):
  ∀{f:Fo} {o i:Nat},TopIn S w R o f→f.drop i = .cons k t n ks r→(∀q,(q<o+i*4∨o+i*4+4≤q)→w'.cell? ⟨R,q,none⟩=w.cell? ⟨R,q,none⟩)→
   w'.cell? ⟨R,o+i*4,none⟩=some (.int .u8 k)→w'.cell? ⟨R,o+i*4+1,none⟩=some (.string t)→w'.cell? ⟨R,o+i*4+2,none⟩=some (.int .i64 n)→w'.cell? ⟨R,o+i*4+3,none⟩=some (.slice KA ks.len c)→TopIn S w' R o f:=by
 intro f
 induction f with
 | nil=>intro o i _ h;cases i<;>cases h
 | cons k' t' n' ks' r' _ ih =>
  rintro o i ⟨KA',c',c0,c1,c2,c3,g1,g2,g3,g4,g5,g6,g7⟩ hd hq d0 d1 d2 d3;have hk6 :∀{K:Option Addr} {x:Fo},FoIn S w K x→FoIn S w' K x:=fun h=>((h.mono (S':=fun b=>S b∧b<w.heap.size) fun b hb h=>⟨h,hb⟩).keep fun b h=>hk b h.1 h.2).mono fun b _ h=>h.1;cases i with
  | zero =>
   cases hd;simp only[Nat.zero_mul,Nat.add_zero]at d0 d1 d2 d3 hq;refine⟨KA,c,d0,d1,d2,d3,g1,g2,g3,h4,h5,h6,?_⟩;have hr :∀{x:Fo} {p:Nat},o+4≤p→TopIn S w R p x→TopIn S w' R p x:=by
    intro x
    induction x with
    | nil=>intro p _ _;exact trivial
    | cons k2 t2 n2 ks2 r2 _ ih2 =>
     rintro p hp ⟨KB,cB,b0,b1,b2,b3,x1,x2,x3,x4,x5,x6,x7⟩;exact⟨KB,cB,(hq _ (by omega)).trans b0,(hq _ (by omega)).trans b1,(hq _ (by omega)).trans b2,(hq _ (by omega)).trans b3,x1,x2,x3,x4,x5,hk6 x6,ih2 (by omega) x7⟩
   exact hr (Nat.le_refl _) g7
  | succ i =>
   have ho:o+4+i*4=o+(i+1)*4:=by omega
   refine⟨KA',c',(hq _ (by omega)).trans c0,(hq _ (by omega)).trans c1,(hq _ (by omega)).trans c2,(hq _ (by omega)).trans c3,g1,g2,g3,g4,g5,hk6 g6,ih g7 hd (fun q hq'=>hq q (by omega)) ?_ ?_ ?_ ?_⟩
   ·rw[ho];exact d0
   ·rw[ho];exact d1
   ·rw[ho];exact d2
   ·rw[ho];exact d3
end
end
section
open Go.RowKit
def TabOk (w : World) : Prop := 0 < w.heap.size ∧ Lib.TabIs Tryz.prog w "strings.asciiSpace" .u8 Lib.asciiSpaceTab
theorem TabOk.below{w w':World}(h:TabOk w)(hb:Below w.heap.size w w'):TabOk w' :=
 ⟨Nat.lt_of_lt_of_le h.1 hb.size,var?_below hb (by kernel_rfl) h.1 h.2⟩
def txt(l:List UInt8):ByteArray:=⟨l.toArray⟩
def txts(l:List (List UInt8)):List ByteArray:=l.map txt
theorem mem_txts{l:List (List UInt8)}{s:ByteArray}:s∈txts l↔s.data.toList∈l:=by
 unfold txts;rw[List.mem_map];constructor
 ·rintro⟨x,hx,rfl⟩
  simpa[txt]using hx
 ·intro h;exact⟨_,h,by simp[txt]⟩
def SplitPost(ws:List (List UInt8))(w:World)(e:Ending)(w':World):Prop :=
 ∃A c,e = .returned (.slice A (txts ws).length c)∧Rd (fun _=>True) w' A ((txts ws).map .string)∧Below w.heap.size w w'
theorem fields_any(s:List UInt8)(ws:List (List UInt8))(w:World)(ht:TabOk w)(hf:Lib.fields s=ws)(hs:s.length<4294967281)(ha :∀b∈s,b.toNat<128):
  Calls Tryz.prog 214 #[.string ⟨s.toArray⟩] w (SplitPost ws w):=by
 refine(Tryz.strings_Fields ⟨s.toArray⟩ w (by simpa[ByteArray.size]using hs) (fun j b hb=>ha b (List.mem_of_getElem? hb)) ht.2).mono ?_;rintro e w' ⟨rfl,rfl⟩;have e1:(Lib.fields (List.toArray s).toList)=ws:=by simpa using hf
 simp only[e1];refine⟨some ⟨w.heap.size,0,none⟩,ws.length,by simp[txts],?_,below_alloc _ _⟩;have:=rd_new (S:=fun _=>True) (w:=w) (cs:=(txts ws).map .string) (t:=9) trivial
 simpa[txts,txt,Function.comp_def]using this
theorem words_any(w:World)(ht:TabOk w):Calls Tryz.prog 178 #[] w (SplitPost words w):=by
 have H:Hid (TabOk w):=ht;clear ht;go_enter Tryz.func178,Tryz.ntmps178
 go_wp2_with(go_at_call 214;refine(fields_any _ words _ H.out (by decide +kernel) (by decide) (by decide)).mono ?_;rintro e w' ⟨A,c,rfl,hr,hb⟩;have Hr:=hide hr;have Hb:=hide hb;clear hr hb)
 go_ret;exact⟨A,c,rfl,Hr.out,Hb.out⟩
theorem lexName_iff{s:ByteArray}(h:0<s.size):LexName s↔s.size≤24∧Letter (s[0])∧s∉txts words∧∀c∈s.data.toList,Letter c∨Digit c:=by
 unfold LexName;rw[mem_txts];obtain⟨⟨l⟩⟩:=s;cases l with
 | nil=>simp[ByteArray.size]at h
 | cons c l =>
  have:(⟨(c::l).toArray⟩:ByteArray)[0]=c:=rfl;rw[this];simp
theorem lexName_no{s:ByteArray}(h :¬0<s.size):¬LexName s:=by
 rintro⟨_,⟨c,l,hc,_⟩,_⟩;apply h;have:s.data.toList.length=s.size:=by simp
 rw[hc]at this;simp at this;omega
theorem lexName_any(s:ByteArray)(w:World)(hs:s.size≤9223372036854775807)(ht:TabOk w):Calls Tryz.prog 108 #[.string s] w fun e w'=>RetB (LexName s) e∧Below w.heap.size w w':=by
 have Ht:Hid (TabOk w):=ht;clear ht;have hz:=hide (size_nil s);by_cases h0:0<s.size
 ·have hne :¬s.toList=[]:=by rw[size_nil];omega
  have hne2:s.toList.isEmpty=false:=by simpa using hne
  by_cases h1:s.size≤24
  ·have Hiff:=hide (lexName_iff h0);go_enter Tryz.func108,Tryz.ntmps108
   go_wp2_with(first
    | (go_at_call 176;refine(letter_any s[0] _).mono ?_;rintro e w1 ⟨⟨_|_,rfl,hb⟩,rfl⟩<;>(have Hb:=hide hb;clear hb))
    | (go_at_call 178;refine(words_any _ Ht.out).mono ?_;rintro e w1 ⟨A,c,rfl,hr,hb⟩;have Hr:=hide hr;have HB:=hide hb;clear hr hb)
    | (go_at_call 177;refine(containsText_any (l:=txts words) (x:=s) Hr.out (by decide)).mono ?_;rintro e w2 ⟨⟨_|_,rfl,hb⟩,rfl⟩<;>(have Hc:=hide hb;clear hb)))
   ·go_ret;exact⟨RetB.no fun h=>(by simpa using Hb.out :¬Letter s[0]) (Hiff.out.1 h).2.1,Below.refl _ _⟩
   ·go_loop [24,3] (fun i _=>∃k:Nat,k≤s.size∧i = .int .i64 k∧Hid (∀j,(h:j<k)→(h':j<s.size)→Letter (s[j])∨Digit (s[j]))) (fun i _=>s.size-(intOf i).toNat)
    case atStart=>exact⟨0,Nat.zero_le _,rfl,hide (fun j h=>absurd h (by omega))⟩
    case round =>
     obtain⟨k,hk,rfl,hall⟩:=hrel;by_cases hlt:k<s.size
     ·go_wp2_with(go_at_call 179;refine(wordy_any s[k] _).mono ?_;rintro e w' ⟨⟨_|_,rfl,hb⟩,rfl⟩<;>(have Hd:=hide hb;clear hb))
      ·go_ret;exact⟨RetB.no fun h=>(by simpa using Hd.out :¬(Letter s[k]∨Digit s[k])) ((Hiff.out.1 h).2.2.2 _ (mem_idx s k hlt)),HB.out⟩
      ·go_round
       case rel=>exact⟨k+1,by omega,by go_num,hide (all_step (P:=fun c=>Letter c∨Digit c) hall.out hlt (by simpa using Hd.out))⟩
       case measure=>simp[intOf];omega
     ·have H:=hide (all_done (P:=fun c=>Letter c∨Digit c) hall.out hlt);clear hall
      go_wp2_with fail
      go_ret;exact⟨RetB.yes (Hiff.out.2 ⟨h1,by simpa using Hb.out,by simpa using Hc.out,H.out⟩),HB.out⟩
   ·go_ret;exact⟨RetB.no fun h=>(Hiff.out.1 h).2.2.1 (by simpa using Hc.out),HB.out⟩
  ·go_enter Tryz.func108,Tryz.ntmps108
   go_wp2_with fail
   go_ret;exact⟨RetB.no fun h=>h1 h.1,Below.refl _ _⟩
 ·have he:s.toList=[]:=by rw[size_nil];omega
  go_enter Tryz.func108,Tryz.ntmps108
  go_wp2_with fail
  go_ret;exact⟨RetB.no (lexName_no h0),Below.refl _ _⟩
def IsK(k o:Nat):Prop:=(o=200∧Expr k)∨(o=201∧Stmt k)∨(o=202∧(k=22∨k=26))∨(o<200∧k=o)∨(202<o∧k=o)
theorem is_any(k o:Nat)(w:World):Calls Tryz.prog 249 #[.int .u8 k,.int .u8 o] w fun e w'=>RetB (IsK k o) e∧w=w':=by
 go_enter Tryz.func249,Tryz.ntmps249
 go_wp2
 all_goals(go_ret;go_tidy;exact⟨RetB.mk (by unfold IsK Expr Stmt;grind),rfl⟩)
theorem rd_lit{S:Nat→Prop}{w:World}{cs:List Value}{t:TypeId}(hS:S w.heap.size):Rd S (w.alloc (.cells cs.toArray t)) (some ⟨w.heap.size,0,none⟩) cs:=rd_new hS
theorem named_any(k:Nat)(w:World):Calls Tryz.prog 248 #[.int .u8 k] w fun e w'=>RetB (Named k) e∧Below w.heap.size w w':=by
 go_enter Tryz.func248,Tryz.ntmps248
 go_wp2_with(go_at_call 271;refine(containsKind_any (S:=fun _=>True) (l:=[2,4,6,22,25]) (x:=(k:Int)) (rd_lit trivial) (by simp)).mono ?_;rintro e w' ⟨⟨b,rfl,hb⟩,rfl⟩;have Hb:=hide hb;clear hb)
 go_ret;exact⟨RetB.mk (by rw[Hb.out];unfold Named;simp;omega),below_alloc _ _⟩
theorem kindRow_mem{p:Nat}{k':Int}{ks:List Int}{all:Bool}(h:kindRow p=some (k',ks,all)):(k',ks,all)∈kindRows∧k'=p:=by
 unfold kindRow at h;have h1:=List.mem_of_find?_eq_some h;have h2:=List.find?_some h;simp at h2;exact⟨h1,h2.symm⟩
theorem kindRow_none{p:Nat}(h:kindRow p=none):∀r∈kindRows,r.1≠p:=by
 unfold kindRow at h;rw[List.find?_eq_none]at h;intro r hr e;exact h r hr (by simp[e])
theorem known_iff(p:Nat):Known p↔(kindRow p).isSome=true:=by
 cases h:kindRow p with
 | none =>
  have:=kindRow_none h;simp[kindRows]at this;unfold Known Expr;simp;omega
 | some x =>
  obtain⟨k',ks,all⟩:=x;obtain⟨h1,rfl⟩:=kindRow_mem h;simp[kindRows]at h1;unfold Known Expr;simp;omega
theorem fits_none{p:Nat}(h:kindRow p=none)(k i:Nat):¬FitsIn p k i:=by
 have:=kindRow_none h;simp[kindRows]at this;unfold FitsIn many;intro hf;have:=hf.1 0;rw[if_neg (by omega),if_neg (by omega),if_neg (by omega),if_neg (by omega)]at this;exact absurd (this rfl) (by omega)
theorem fits_some{p:Nat}{k':Int}{ks:List Int}{all:Bool}(h:kindRow p=some (k',ks,all))(k i:Nat):
  FitsIn p k i↔if all then∃o:Nat,ks[0]?=some (o:Int)∧IsK k o else∃o:Nat,ks[i]?=some (o:Int)∧IsK k o:=by
 obtain⟨h1,rfl⟩:=kindRow_mem h;clear h;simp[kindRows]at h1;rcases h1 with⟨hp,rfl,rfl⟩|⟨hp,rfl,rfl⟩|⟨hp,rfl,rfl⟩|⟨hp,rfl,rfl⟩|⟨hp,rfl,rfl⟩|⟨hp,rfl,rfl⟩|⟨hp,rfl,rfl⟩|⟨hp,rfl,rfl⟩|⟨hp,rfl,rfl⟩|⟨hp,rfl,rfl⟩|⟨hp,rfl,rfl⟩|⟨hp,rfl,rfl⟩|⟨hp,rfl,rfl⟩|⟨hp,rfl,rfl⟩|⟨hp,rfl,rfl⟩|⟨hp,rfl,rfl⟩|⟨hp,rfl,rfl⟩|⟨hp,rfl,rfl⟩|⟨hp,rfl,rfl⟩|⟨hp,rfl,rfl⟩|⟨hp,rfl,rfl⟩|⟨hp,rfl,rfl⟩
 ·obtain rfl:p=1:=by omega
  rcases i with _|_|_|i<;>simp[FitsIn,many,IsK,Stmt,Expr]<;>grind
 ·obtain rfl:p=2:=by omega
  rcases i with _|_|_|i<;>simp[FitsIn,many,IsK,Stmt,Expr]<;>grind
 ·obtain rfl:p=3:=by omega
  rcases i with _|_|_|i<;>simp[FitsIn,many,IsK,Stmt,Expr]<;>grind
 ·obtain rfl:p=4:=by omega
  rcases i with _|_|_|i<;>simp[FitsIn,many,IsK,Stmt,Expr]<;>grind
 ·obtain rfl:p=5:=by omega
  rcases i with _|_|_|i<;>simp[FitsIn,many,IsK,Stmt,Expr]<;>grind
 ·obtain rfl:p=6:=by omega
  rcases i with _|_|_|i<;>simp[FitsIn,many,IsK,Stmt,Expr]<;>grind
 ·obtain rfl:p=7:=by omega
  rcases i with _|_|_|i<;>simp[FitsIn,many,IsK,Stmt,Expr]<;>grind
 ·obtain rfl:p=8:=by omega
  rcases i with _|_|_|i<;>simp[FitsIn,many,IsK,Stmt,Expr]<;>grind
 ·obtain rfl:p=9:=by omega
  rcases i with _|_|_|i<;>simp[FitsIn,many,IsK,Stmt,Expr]<;>grind
 ·obtain rfl:p=10:=by omega
  rcases i with _|_|_|i<;>simp[FitsIn,many,IsK,Stmt,Expr]<;>grind
 ·obtain rfl:p=11:=by omega
  rcases i with _|_|_|i<;>simp[FitsIn,many,IsK,Stmt,Expr]<;>grind
 ·obtain rfl:p=12:=by omega
  rcases i with _|_|_|i<;>simp[FitsIn,many,IsK,Stmt,Expr]<;>grind
 ·obtain rfl:p=20:=by omega
  rcases i with _|_|_|i<;>simp[FitsIn,many,IsK,Stmt,Expr]<;>grind
 ·obtain rfl:p=21:=by omega
  rcases i with _|_|_|i<;>simp[FitsIn,many,IsK,Stmt,Expr]<;>grind
 ·obtain rfl:p=22:=by omega
  rcases i with _|_|_|i<;>simp[FitsIn,many,IsK,Stmt,Expr]<;>grind
 ·obtain rfl:p=23:=by omega
  rcases i with _|_|_|i<;>simp[FitsIn,many,IsK,Stmt,Expr]<;>grind
 ·obtain rfl:p=24:=by omega
  rcases i with _|_|_|i<;>simp[FitsIn,many,IsK,Stmt,Expr]<;>grind
 ·obtain rfl:p=25:=by omega
  rcases i with _|_|_|i<;>simp[FitsIn,many,IsK,Stmt,Expr]<;>grind
 ·obtain rfl:p=26:=by omega
  rcases i with _|_|_|i<;>simp[FitsIn,many,IsK,Stmt,Expr]<;>grind
 ·obtain rfl:p=27:=by omega
  rcases i with _|_|_|i<;>simp[FitsIn,many,IsK,Stmt,Expr]<;>grind
 ·obtain rfl:p=28:=by omega
  rcases i with _|_|_|i<;>simp[FitsIn,many,IsK,Stmt,Expr]<;>grind
 ·obtain rfl:p=29:=by omega
  rcases i with _|_|_|i<;>simp[FitsIn,many,IsK,Stmt,Expr]<;>grind
end
end Go.Proofs.YtialngdffhmobaaGreatDoor
