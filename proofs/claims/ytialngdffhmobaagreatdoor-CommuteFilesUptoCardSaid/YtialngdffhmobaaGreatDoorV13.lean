/- Part 14 of what commuteFiles_cardUpto rests on. -/
import Derived.Deep.RegionHeld
import Derived.Deep.RegionWith
import Derived.Deep.Cut
import Derived.IntWalk
import Derived.Shelf.Abstract
import Derived.Test.YtialngdffhmobaaGreatDoorV02
import Derived.Test.YtialngdffhmobaaGreatDoorV12
import Derived.Test.YtialngdffhmobaaGreatDoorV09
import Derived.Test.YtialngdffhmobaaGreatDoorV04
import Derived.Test.YtialngdffhmobaaGreatDoorV11
import Derived.Test.YtialngdffhmobaaGreatDoorV00
set_option linter.unusedVariables false
set_option linter.unusedSimpArgs false
set_option maxHeartbeats 16000000
set_option maxRecDepth 1000000
namespace Go.Proofs.YtialngdffhmobaaGreatDoor
section
open Go.RowKit
def bI(n:Int):Prop:=-1099511627776≤n∧n≤1099511627776
def oV(n:Int):Prop:=-4611686018427387904≤n∧n≤4611686018427387904
theorem bI.wide{n:Int}(h:bI n):oV n:=⟨by have:=h.1;omega,by have:=h.2;omega⟩
theorem bI.i64{n:Int}(h:bI n):aU n:=⟨by have:=h.1;omega,by have:=h.2;omega⟩
structure mg(f:FuncId)(cs:Array Value)(w:World)(g:Int→Int):Prop where
 en:Enters Tryz.prog f
 ca :∀(W:World) (k:Int),Below w.heap.size w W→bI k→Calls Tryz.prog f (#[.int .i64 k]++cs) W fun e w'=>e = .returned (.int .i64 (g k))∧Below W.heap.size W w'
theorem mg.up{f:FuncId}{cs:Array Value}{w w':World}{g:Int→Int}(h:mg f cs w g)(hB:Below w.heap.size w w'):mg f cs w' g:=⟨h.en,fun W k hW hk=>h.ca W k (hB.trans (hW.mono hB.size)) hk⟩
theorem qo{A:Option Addr}{a:List Int}{w:World}(ha:IntsIn Any w A a)(n:Nat):IntsIn Any w A (a.take n):=by
 refine⟨?_,fun x hx=>ha.2.1 x (List.mem_of_mem_take hx),by have:=ha.2.2;simp;omega⟩;rcases ha.1 with h|⟨q,o,rfl,hS,hc⟩
 ·have:a=[]:=by simpa using h
  subst this;exact .inl (by simp)
 ·refine .inr ⟨q,o,rfl,hS,fun j u hu=>hc j u ?_⟩;rw[List.map_take,List.getElem?_take]at hu;split at hu
  ·exact hu
  ·cases hu
theorem zO{A A':Option Addr}{a b:List Int}{c c':Nat}{w:World}(ha:IntsIn Any w A a)(hb:IntsIn Any w A' b)(hca:a.length≤c):
  Calls Tryz.prog 236 #[.slice A a.length c,.slice A' b.length c'] w fun e w'=>ay (cZ a b) e∧Below w.heap.size w w':=by
 by_cases hle:b.length≤a.length
 ·have h1:decide ((b.length:Int)≤(a.length:Int))=true:=by simp;omega
  have hbc:b.length≤c:=by omega
  have Ht:Hid (IntsIn Any w A (a.take b.length)):=hide (qo ha _);have hl:(a.take b.length).length=b.length:=by simp;omega
  have Hb:=hide hb;have HE:Hid (Calls Tryz.prog 112 #[.slice A b.length c,.slice A' b.length c'] w fun e w'=>ay (a.take b.length=b) e∧∃n,w'=w.drewN n):=hide (by have:=CY (c:=c) (c':=c') Ht.out Hb.out;rw[hl]at this;exact this);have hiff:(a.take b.length=b)↔cZ a b:=by unfold cZ;rw[List.prefix_iff_eq_take];exact eq_comm
  have qh:=hide hiff;clear ha hb hiff;go_enter Tryz.func236,Tryz.ntmps236
  go_wp2_with(go_at_call 112;(with_reducible refine HE.out.mono ?_);rintro e1 w1 ⟨⟨q,rfl,hq⟩,n1,rfl⟩)
  go_ret;exact⟨⟨q,rfl,hq.trans qh.out⟩,qX (Below.refl _ _) _⟩
 ·have h1:decide ((b.length:Int)≤(a.length:Int))=false:=by simp;omega
  have hn :¬cZ a b:=fun h=>hle h.length_le;clear ha hb;go_enter Tryz.func236,Tryz.ntmps236
  go_wp2_with fail
  go_ret;exact⟨ay.no hn,Below.refl _ _⟩
theorem qR{n:Int}(h:aU n):IntKind.i64.wrap n=n:=by rw[IntKind.wrap_i64];obtain⟨h1,h2⟩:=h;omega
theorem IK{W:World}{b:Nat}{at_ k:Int}(hc:W.cell? ⟨b,0,none⟩=some (.int .i64 at_))(hk:oV k):Calls Tryz.prog 279 #[.int .i64 k,.pointer (some ⟨b,0,none⟩)] W fun e w'=>e = .returned (.int .i64 (l9 at_ k))∧w'=W:=by
 have hw:=qR (n:=k+1) ⟨by have:=hk.1;omega,by have:=hk.2;omega⟩;clear hk;unfold l9;by_cases h:at_≤k
 ·have hd:decide (at_≤k)=true:=by simpa using h
  rw[if_pos h];go_enter Tryz.func279,Tryz.ntmps279
  go_wp2_with fail
  go_ret;exact⟨rfl,rfl⟩
 ·have hd:decide (at_≤k)=false:=by simpa using h
  rw[if_neg h];go_enter Tryz.func279,Tryz.ntmps279
  go_wp2_with fail
  go_ret;exact⟨rfl,rfl⟩
theorem IL{W:World}{b:Nat}{at_ k:Int}(hc:W.cell? ⟨b,0,none⟩=some (.int .i64 at_))(hk:oV k):Calls Tryz.prog 280 #[.int .i64 k,.pointer (some ⟨b,0,none⟩)] W fun e w'=>e = .returned (.int .i64 (dS at_ k))∧w'=W:=by
 have hw:=qR (n:=k-1) ⟨by have:=hk.1;omega,by have:=hk.2;omega⟩;clear hk;unfold dS;by_cases h:at_<k
 ·have hd:decide (at_<k)=true:=by simpa using h
  rw[if_pos h];go_enter Tryz.func280,Tryz.ntmps280
  go_wp2_with fail
  go_ret;exact⟨rfl,rfl⟩
 ·have hd:decide (at_<k)=false:=by simpa using h
  rw[if_neg h];go_enter Tryz.func280,Tryz.ntmps280
  go_wp2_with fail
  go_ret;exact⟨rfl,rfl⟩
theorem hmf :∀(fn:Fn) (first cap:Array Value) (w:World),(Instr.makeFunc fn first cap).run Tryz.prog w = .ok (.func fn first cap) w:=fun _ _ _ _=>rfl
theorem rW{w:World}{at_:Int}:Calls Tryz.prog 262 #[.int .i64 at_] w fun e w'=>e = .returned (.func (.func 279) #[] #[.pointer (some ⟨w.heap.size,0,none⟩)])∧w'=w.alloc (.cells #[.int .i64 at_] 3):=by
 have hmf:=hmf;go_enter Tryz.func262,Tryz.ntmps262
 go_wp2_with fail
 go_ret;exact⟨rfl,rfl⟩
theorem AV{w:World}{at_:Int}:Calls Tryz.prog 263 #[.int .i64 at_] w fun e w'=>e = .returned (.func (.func 280) #[] #[.pointer (some ⟨w.heap.size,0,none⟩)])∧w'=w.alloc (.cells #[.int .i64 at_] 3):=by
 have hmf:=hmf;go_enter Tryz.func263,Tryz.ntmps263
 go_wp2_with fail
 go_ret;exact⟨rfl,rfl⟩
theorem EF(w:World)(at_:Int):mg 279 #[.pointer (some ⟨w.heap.size,0,none⟩)] (w.alloc (.cells #[.int .i64 at_] 3)) (l9 at_):=
 ⟨enters_of Tryz.func279 (by kernel_rfl) rfl,fun W k hW hk=>(IK (b:=w.heap.size) (at_:=at_) (by rw[hW.cell (p:=⟨w.heap.size,0,none⟩) (by simp)];simp) hk.wide).mono (by rintro e w' ⟨rfl,rfl⟩;exact⟨rfl,Below.refl _ _⟩)⟩
theorem Dk(w:World)(at_:Int):mg 280 #[.pointer (some ⟨w.heap.size,0,none⟩)] (w.alloc (.cells #[.int .i64 at_] 3)) (dS at_):=
 ⟨enters_of Tryz.func280 (by kernel_rfl) rfl,fun W k hW hk=>(IL (b:=w.heap.size) (at_:=at_) (by rw[hW.cell (p:=⟨w.heap.size,0,none⟩) (by simp)];simp) hk.wide).mono (by rintro e w' ⟨rfl,rfl⟩;exact⟨rfl,Below.refl _ _⟩)⟩
def fO(w w':World)(A:Option Addr)(c:Nat)(l:List Int):Prop:=∃L,eF 3 w' A c l.length (l.map (.int .i64)) L∧New w w' L
theorem qp{xs:List Int}{j:Nat}{g:Int→Int}{x:Int}(h:xs[j]?=some x):(xs.modify j g).map (Value.int .i64)=(xs.map (Value.int .i64)).set j (.int .i64 (g x)):=by
 apply List.ext_getElem?;intro i;rw[List.getElem?_map,List.getElem?_modify,List.getElem?_set,List.length_map,List.getElem?_map];by_cases e:j=i
 ·subst e;rw[h,if_pos rfl,if_pos (List.getElem?_eq_some_iff.1 h).1];simp
 ·simp[e]
theorem IM{xs:List Int}{j:Nat}{g:Int→Int}(h:xs.length≤j):xs.modify j g=xs:=by
 apply List.ext_getElem?;intro i;rw[List.getElem?_modify];by_cases e:j=i
 ·subst e;rw[List.getElem?_eq_none h];rfl
 ·simp[e]
theorem rX{A:Option Addr}{xs:List Int}{c j:Nat}{f:FuncId}{cs:Array Value}{g:Int→Int}{w:World}(h:IntsIn Any w A xs)(hlen:xs.length≤549755813888)(hsm :∀n∈xs,bI n)(hj:j≤549755813888)(hf:mg f cs w g):
  Calls Tryz.prog 278 #[.slice A xs.length c,.int .i64 j,.func (.func f) #[] cs] w fun e w'=>(∃A' c',e = .returned (.slice A' xs.length c')∧fO w w' A' c' (xs.modify j g))∧Below w.heap.size w w':=by
 have hone :∀u∈xs.map (Value.int .i64),u.oneCell'=true:=by intro u hu;obtain⟨x,_,rfl⟩:=List.mem_map.1 hu;rfl
 have HC:Hid (Calls Tryz.prog 219 #[.slice A xs.length c] w fun e w'=>∃v,e = .returned v∧w'.ownsRow 0 3 1 v xs.length (xs.map (.int .i64))∧(∀g,v.ownBlock=some g→w.heap.size≤g)∧Below w.heap.size w w'):=hide (ve h.1 (by simp) hone hlen);have Hf:=hide hf;have Hsm:=hide hsm;clear h hone hf hsm;by_cases hlt:j<xs.length
 ·have hx:xs[j]?=some xs[j]:=List.getElem?_eq_getElem hlt;have hxm:bI xs[j]:=Hsm.out _ (List.getElem_mem hlt);generalize xs[j]=x at hx hxm;have hd:decide ((j:Int)<(xs.length:Int))=true:=by simp;omega
  have Hx:=hide hx;have LC:=hide hxm;have hen:=Hf.out.en;clear hx hxm;go_enter Tryz.func278,Tryz.ntmps278
  go_upto_region 3 with(go_at_call 219;(with_reducible refine HC.out.mono ?_);rintro e1 w1 ⟨v,rfl,hown,hg,hB⟩;obtain⟨A1,c1,rfl⟩:=lG hown;have jT:=hide hown;have Hg:=hide hg;have HB1:=hide hB;clear hown hg hB)
  rcases jT.out.2 with⟨_,h0⟩|⟨gb,cap,cur,hv,hb,hgb,hnc,hcm,hcz⟩
  ·omega
  ·injection hv with hv1 hv2 hv3;clear hv2;subst hv1 hv3;have hgl:w.heap.size≤gb:=Hg.out gb rfl;have hgs:gb<w1.heap.size:=(Array.getElem?_eq_some_iff.1 hgb).1;have hce:w1.cell? ⟨gb,j,none⟩=some (.int .i64 x):=by rw[jT.out.cellAt j (by omega),List.getElem?_map,Hx.out];rfl
   have hcl:Hid (Calls Tryz.prog f (#[.int .i64 x]++cs) w1 fun e w'=>e = .returned (.int .i64 (g x))∧Below w1.heap.size w1 w'):=hide (Hf.out.ca w1 x HB1.out LC.out);clear hgb hcm hnc hcz;have hen :∀(args:Array Value) (W:World),(callFunc f args).run Tryz.prog W = .ok (.enter f args) W:=Hf.out.en;refine wp_region_lit ?_;refine sk ?_;refine sk ?_;refine sk ?_;refine sk ?_;refine sk ?_;refine sk ?_;refine sk ?_;refine gc hcl.out ?_;rintro e2 w2 ⟨rfl,hB⟩;refine⟨_,rfl,?_⟩;have LD:w2.cell? ⟨gb,j,none⟩=some (.int .i64 x):=(hB.cell (p:=⟨gb,j,none⟩) hgs).trans hce;have LG:w2.frozen? ⟨gb,j,none⟩=false:=(hB.frozen (p:=⟨gb,j,none⟩) hgs).trans (jT.out.frozenAt j);have HB2:=hide hB;clear hB hen;refine sk ?_;refine ss ?_;refine wpList_nil ?_;rename_i hK;refine hK _ _ ?_;clear hK
   go_wp2_with fail
   go_ret;have ho2:w2.ownsRow 0 3 1 (.slice (some ⟨gb,0,none⟩) xs.length c1) xs.length (xs.map (.int .i64)):=zN jT.out (fun g hg=>(jT.out.lt g hg).2) HB2.out;obtain⟨ho3,hgr⟩:=ho2.stored j (.int .i64 (g x));refine⟨⟨_,_,rfl,ob (.slice (some ⟨gb,0,none⟩) xs.length c1),⟨?_,by simp⟩,⟨uH _,fun b hb=>Hg.out b (gy.1 hb),fun b hb=>?_⟩⟩,?_⟩
   ·rw[qp Hx.out,List.length_modify];exact ho3
   ·have:=(ho3.lt b (gy.1 hb)).2;exact this
   ·exact(HB1.out.trans (HB2.out.mono HB1.out.size)).setCell (p:=⟨gb,j,none⟩) hgl _
 ·have hd:decide ((j:Int)<(xs.length:Int))=false:=by simp;omega
  have hmod:xs.modify j g=xs:=IM (by omega);go_enter Tryz.func278,Tryz.ntmps278
  go_wp2_with(go_at_call 219;(with_reducible refine HC.out.mono ?_);rintro e1 w1 ⟨v,rfl,hown,hg,hB⟩;obtain⟨A1,c1,rfl⟩:=lG hown;have jT:=hide hown;have Hg:=hide hg;have HB1:=hide hB;clear hown hg hB)
  go_ret;refine⟨⟨_,_,rfl,ob (.slice A1 xs.length c1),⟨?_,by rw[hmod]⟩,⟨uH _,fun b hb=>Hg.out b (gy.1 hb),fun b hb=>(jT.out.lt b (gy.1 hb)).2⟩⟩,HB1.out⟩;rw[hmod];exact jT.out
theorem rY{A:Option Addr}{xs:List Int}{c j:Nat}{f:FuncId}{cs:Array Value}{g:Int→Int}{w:World}(h:IntsIn Any w A xs)(hlen:xs.length≤549755813888)(hsm :∀n∈xs,bI n)(hj:j≤549755813888)(hf:mg f cs w g):
  Calls Tryz.prog 261 #[.agg #[.slice A xs.length c,.int .i64 j],.func (.func f) #[] cs] w fun e w'=>(∃A' c',e = .returned (.slice A' xs.length c')∧fO w w' A' c' (xs.modify j g))∧Below w.heap.size w w':=by
 have HB0:Below w.heap.size w (w.alloc (.cells #[.slice A xs.length c,.int .i64 j] 300)):=bg _ _;have HS:=hide (rX (c:=c) (h.below HB0) hlen hsm hj (hf.up HB0));clear h hsm hf HB0;go_enter Tryz.func261,Tryz.ntmps261
 go_wp2_with(go_at_call 278;(with_reducible refine HS.out.mono ?_);rintro e1 w1 ⟨⟨A1,c1,rfl,L,hr,hn⟩,hB⟩;have HR:=hide hr;have HN:=hide hn;have HB:=hide hB;clear hr hn hB)
 go_ret;exact⟨⟨_,_,rfl,L,HR.out,HN.out.from (by simp)⟩,aQ (bg _ _) HB.out⟩
theorem zQ{A A':Option Addr}{a b:List Int}{c c':Nat}{w:World}(ha:IntsIn Any w A a)(hb:IntsIn Any w A' b)(hca:a.length≤c):
  Calls Tryz.prog 260 #[.slice A a.length c,.slice A' b.length c'] w fun e w'=>(∃j:Nat,j=(if cZ a b then b.length else a.length)∧e = .returned (.agg #[.slice A a.length c,.int .i64 j]))∧Below w.heap.size w w':=by
 have HB0:Below w.heap.size w (w.alloc (.cells #[.slice none 0 0,.int .i64 0] 300)):=bg _ _;have HU:=hide (zO (c':=c') (ha.below HB0) (hb.below HB0) hca);clear ha hb HB0;have hbox :∀w1,Below (w.alloc (.cells #[.slice none 0 0,.int .i64 0] 300)).heap.size (w.alloc (.cells #[.slice none 0 0,.int .i64 0] 300)) w1→w1.cell? ⟨w.heap.size,0,none⟩=some (.slice none 0 0)∧w1.cell? ⟨w.heap.size,1,none⟩=some (.int .i64 0)∧∀o,w1.frozen? ⟨w.heap.size,o,none⟩=false:=fun w1 hB =>
  ⟨by rw[hB.cell (p:=⟨w.heap.size,0,none⟩) (by simp)];simp,by rw[hB.cell (p:=⟨w.heap.size,1,none⟩) (by simp)];simp,fun o=>by rw[hB.frozen (p:=⟨w.heap.size,o,none⟩) (by simp)];simp⟩
 have AX:=hide hbox;clear hbox;by_cases hu:cZ a b
 ·rw[if_pos hu];go_enter Tryz.func260,Tryz.ntmps260
  go_wp2_with(go_at_call 236;(with_reducible refine HU.out.mono ?_);rintro e1 w1 ⟨⟨q,rfl,hq⟩,hB⟩;obtain⟨b0,b1,bf⟩:=AX.out w1 hB;have HB:=hide hB;have hq2:q=true:=hq.mpr hu;subst hq2;clear hB hq)
  refine bodyPost_ret (v:= .agg #[.slice A a.length c,.int .i64 b.length]) ?_ rfl ?_
  ·simp only[results,Tryz.results260];go_simp
  ·exact⟨⟨_,rfl,rfl⟩,((aQ (bg _ _) HB.out).setCell (p:=⟨w.heap.size,0,none⟩) (aC _) _).setCell (p:=⟨w.heap.size,1,none⟩) (aC _) _⟩
 ·rw[if_neg hu];go_enter Tryz.func260,Tryz.ntmps260
  go_wp2_with(go_at_call 236;(with_reducible refine HU.out.mono ?_);rintro e1 w1 ⟨⟨q,rfl,hq⟩,hB⟩;obtain⟨b0,b1,bf⟩:=AX.out w1 hB;have HB:=hide hB;have hq2:q=false:=(Bool.eq_false_iff.2 fun e=>hu (hq.mp e));subst hq2;clear hB hq)
  refine bodyPost_ret (v:= .agg #[.slice A a.length c,.int .i64 a.length]) ?_ rfl ?_
  ·simp only[results,Tryz.results260];go_simp
  ·exact⟨⟨_,rfl,rfl⟩,((aQ (bg _ _) HB.out).setCell (p:=⟨w.heap.size,0,none⟩) (aC _) _).setCell (p:=⟨w.heap.size,1,none⟩) (aC _) _⟩
theorem vF(a b:List Int)(g:Int→Int):a.modify (if cZ a b then b.length else a.length) g=iG a b g:=by
 unfold iG;by_cases h:cZ a b
 ·rw[if_pos h,if_pos h]
 ·rw[if_neg h,if_neg h,IM (aC _)]
theorem fO.up{w w0 w':World}{A:Option Addr}{c:Nat}{l:List Int}(h:fO w w' A c l)(hs:w0.heap.size≤w.heap.size):fO w0 w' A c l:=by
 obtain⟨L,h1,h2⟩:=h;exact⟨L,h1,h2.from hs⟩
theorem fO.below{w w' w2:World}{A:Option Addr}{c:Nat}{l:List Int}(h:fO w w' A c l)(hB:Below w'.heap.size w' w2):fO w w2 A c l:=by
 obtain⟨L,h1,h2⟩:=h;exact⟨L,h1.below hB,h2.up hB.size⟩
structure lJ(w:World)(A A':Option Addr)(c:Nat)(a b:List Int):Prop where
 pa:IntsIn Any w A a
 pb:IntsIn Any w A' b
 ca:a.length≤c
 la:a.length≤549755813888
 lb:b.length≤549755813888
 sm :∀n∈a,bI n
theorem lJ.below{w w':World}{A A':Option Addr}{c:Nat}{a b:List Int}(h:lJ w A A' c a b)(hB:Below w.heap.size w w'):lJ w' A A' c a b:=⟨h.pa.below hB,h.pb.below hB,h.ca,h.la,h.lb,h.sm⟩
theorem lJ.past{w:World}{A A':Option Addr}{c:Nat}{a b:List Int}{f:FuncId}{cs:Array Value}{g:Int→Int}{j:Nat}(h:lJ w A A' c a b)(hf:mg f cs w g)(hj:j=if cZ a b then b.length else a.length):
  Calls Tryz.prog 261 #[.agg #[.slice A a.length c,.int .i64 j],.func (.func f) #[] cs] w fun e w'=>(∃A' c',e = .returned (.slice A' a.length c')∧fO w w' A' c' (iG a b g))∧Below w.heap.size w w':=by
 subst hj;rw[←vF];exact rY h.pa h.la h.sm (by split;exact h.lb;exact h.la) hf
theorem LH{w:World}{A A':Option Addr}{c c':Nat}{a b:List Int}{at_:Int}(h:lJ w A A' c a b):
  Calls Tryz.prog 232 #[.slice A a.length c,.slice A' b.length c',.int .i64 at_] w fun e w'=>(∃A1 c1,e = .returned (.slice A1 a.length c1)∧fO w w' A1 c1 (iU a b at_))∧Below w.heap.size w w':=by
 have H:=hide h;clear h;go_enter Tryz.func232,Tryz.ntmps232
 go_upto_region 1 with fail
 refine wp_region_lit ?_;refine sk ?_;refine sk ?_;refine gc (zQ H.out.pa H.out.pb H.out.ca) ?_;rintro e1 w1 ⟨⟨j,hj,rfl⟩,hB⟩;refine⟨_,rfl,?_⟩;have HB1:=hide hB;clear hB;refine sk ?_;refine gc rW ?_;rintro e2 w2 ⟨rfl,rfl⟩;refine⟨_,rfl,?_⟩;have HB2:Hid (Below w.heap.size w (w1.alloc (.cells #[.int .i64 at_] 3))):=hide (aQ HB1.out (bg _ _));refine gc ((H.out.below HB2.out).past (EF w1 at_) hj) ?_;rintro e3 w3 ⟨⟨A3,c3,rfl,hi⟩,hB⟩;refine⟨_,rfl,?_⟩;have HI:=hide hi;have HB3:=hide hB;clear hi hB;refine sk ?_;refine wpList_nil ?_;rename_i hK;refine hK _ _ ?_;clear hK
 go_wp2_with fail
 go_ret;exact⟨⟨_,_,rfl,HI.out.up HB2.out.size⟩,aQ HB2.out HB3.out⟩
theorem LJ{w:World}{A A':Option Addr}{c c':Nat}{a b:List Int}{at_:Int}(h:lJ w A A' c a b):
  Calls Tryz.prog 234 #[.slice A a.length c,.slice A' b.length c',.int .i64 at_] w fun e w'=>((dh a b at_=none∧e = .returned (.tuple #[.slice none 0 0,.bool false]))∨∃A1 c1 l,dh a b at_=some l∧l.length=a.length∧e = .returned (.tuple #[.slice A1 a.length c1,.bool true])∧fO w w' A1 c1 l)∧Below w.heap.size w w':=by
 have H:=hide h;have hca:=h.ca;have hlb:=h.lb;clear h;have hlen:(iG a b (dS at_)).length=a.length:=by unfold iG;split<;>simp
 have Hlen:=hide hlen;clear hlen;by_cases hu:cZ a b
 ·by_cases hgt:b.length<a.length
  ·have hx:a[b.length]?=some a[b.length]:=List.getElem?_eq_getElem hgt;generalize a[b.length]=x at hx;have hcell :∃q o,A=some ⟨q,o,none⟩∧w.cell? ⟨q,o+b.length,none⟩=some (.int .i64 x):=by
    rcases H.out.pa.1 with h0|⟨q,o,rfl,_,hc⟩
    ·have:a=[]:=by simpa using h0
     subst this;simp at hgt
    ·exact⟨q,o,rfl,hc _ _ (by rw[List.getElem?_map,hx];rfl)⟩
   obtain⟨q,o,rfl,hcell⟩:=hcell;have hbig:decide ((b.length:Int)<(a.length:Int))=true:=by simp;omega
   have hbc:b.length<c:=by omega
   by_cases hat:x=at_
   ·subst hat;have hP:dh a b x=none:=by unfold dh;rw[if_pos ⟨hu,hx⟩]
    have HP:=hide hP;have hx':=hide hx;clear hP hx;go_enter Tryz.func234,Tryz.ntmps234
    go_wp2_with(go_at_call 236;(with_reducible refine(zO H.out.pa H.out.pb H.out.ca).mono ?_);rintro e1 w1 ⟨⟨v,rfl,hv⟩,hB⟩;have hv2:v=true:=hv.mpr hu;subst hv2;have EG:=(hB.cell (p:=⟨q,o+b.length,none⟩) (block_lt_of_cell hcell)).trans hcell;have HB1:=hide hB;clear hB hv)
    go_ret2
    exact⟨.inl ⟨HP.out,rfl⟩,HB1.out⟩
   ·have hP:dh a b at_=some (iG a b (dS at_)):=by unfold dh;rw[if_neg (fun h=>hat (by have:=h.2;rw[hx]at this;injection this))]
    have HP:=hide hP;have hx':=hide hx;have hne:(x == at_)=false:=by simpa using hat
    clear hP hx;go_enter Tryz.func234,Tryz.ntmps234
    go_upto_region 3 with(go_at_call 236;(with_reducible refine(zO H.out.pa H.out.pb H.out.ca).mono ?_);rintro e1 w1 ⟨⟨v,rfl,hv⟩,hB⟩;have hv2:v=true:=hv.mpr hu;subst hv2;have EG:=(hB.cell (p:=⟨q,o+b.length,none⟩) (block_lt_of_cell hcell)).trans hcell;have HB1:=hide hB;clear hB hv)
    refine wp_region_lit ?_;refine sk ?_;refine sk ?_;refine gc (zQ (H.out.pa.below HB1.out) (H.out.pb.below HB1.out) H.out.ca) ?_;rintro e2 w2 ⟨⟨j,hj,rfl⟩,hB⟩;refine⟨_,rfl,?_⟩;have HB2:=hide (aQ HB1.out hB);clear hB;refine sk ?_;refine gc AV ?_;rintro e3 w3 ⟨rfl,rfl⟩;refine⟨_,rfl,?_⟩;have HB3:Hid (Below w.heap.size w (w2.alloc (.cells #[.int .i64 at_] 3))):=hide (aQ HB2.out (bg _ _));refine gc ((H.out.below HB3.out).past (Dk w2 at_) hj) ?_;rintro e4 w4 ⟨⟨A4,c4,rfl,hi⟩,hB⟩;refine⟨_,rfl,?_⟩;have HI:=hide hi;have HB4:=hide hB;clear hi hB;refine sk ?_;refine sk ?_;refine wpList_nil ?_;rename_i hK;refine hK _ _ ?_;clear hK
    go_wp2_with fail
    go_ret2
    exact⟨.inr ⟨_,_,_,HP.out,Hlen.out,rfl,HI.out.up HB3.out.size⟩,aQ HB3.out HB4.out⟩
  ·have hbig:decide ((b.length:Int)<(a.length:Int))=false:=by simp;omega
   have hP:dh a b at_=some (iG a b (dS at_)):=by unfold dh;rw[if_neg (fun h=>by have:=h.2;rw[List.getElem?_eq_none (by omega)]at this;cases this)]
   have HP:=hide hP;clear hP;go_enter Tryz.func234,Tryz.ntmps234;have HB1:Hid (Below w.heap.size w w):=hide (Below.refl _ _)
   go_upto_region 3 with fail
   refine wp_region_lit ?_;refine sk ?_;refine sk ?_;refine gc (zQ (H.out.pa.below HB1.out) (H.out.pb.below HB1.out) H.out.ca) ?_;rintro e2 w2 ⟨⟨j,hj,rfl⟩,hB⟩;refine⟨_,rfl,?_⟩;have HB2:=hide (aQ HB1.out hB);clear hB;refine sk ?_;refine gc AV ?_;rintro e3 w3 ⟨rfl,rfl⟩;refine⟨_,rfl,?_⟩;have HB3:Hid (Below w.heap.size w (w2.alloc (.cells #[.int .i64 at_] 3))):=hide (aQ HB2.out (bg _ _));refine gc ((H.out.below HB3.out).past (Dk w2 at_) hj) ?_;rintro e4 w4 ⟨⟨A4,c4,rfl,hi⟩,hB⟩;refine⟨_,rfl,?_⟩;have HI:=hide hi;have HB4:=hide hB;clear hi hB;refine sk ?_;refine sk ?_;refine wpList_nil ?_;rename_i hK;refine hK _ _ ?_;clear hK
   go_wp2_with fail
   go_ret2
   exact⟨.inr ⟨_,_,_,HP.out,Hlen.out,rfl,HI.out.up HB3.out.size⟩,aQ HB3.out HB4.out⟩
 ·have hP:dh a b at_=some (iG a b (dS at_)):=by unfold dh;rw[if_neg (fun h=>hu h.1)]
  have HP:=hide hP;clear hP;by_cases hgt:b.length<a.length
  ·have hbig:decide ((b.length:Int)<(a.length:Int))=true:=by simp;omega
   go_enter Tryz.func234,Tryz.ntmps234
   go_upto_region 3 with(go_at_call 236;(with_reducible refine(zO H.out.pa H.out.pb H.out.ca).mono ?_);rintro e1 w1 ⟨⟨v,rfl,hv⟩,hB⟩;have hv2:v=false:=Bool.eq_false_iff.2 fun e=>hu (hv.mp e);subst hv2;have HB1:=hide hB;clear hB hv)
   refine wp_region_lit ?_;refine sk ?_;refine sk ?_;refine gc (zQ (H.out.pa.below HB1.out) (H.out.pb.below HB1.out) H.out.ca) ?_;rintro e2 w2 ⟨⟨j,hj,rfl⟩,hB⟩;refine⟨_,rfl,?_⟩;have HB2:=hide (aQ HB1.out hB);clear hB;refine sk ?_;refine gc AV ?_;rintro e3 w3 ⟨rfl,rfl⟩;refine⟨_,rfl,?_⟩;have HB3:Hid (Below w.heap.size w (w2.alloc (.cells #[.int .i64 at_] 3))):=hide (aQ HB2.out (bg _ _));refine gc ((H.out.below HB3.out).past (Dk w2 at_) hj) ?_;rintro e4 w4 ⟨⟨A4,c4,rfl,hi⟩,hB⟩;refine⟨_,rfl,?_⟩;have HI:=hide hi;have HB4:=hide hB;clear hi hB;refine sk ?_;refine sk ?_;refine wpList_nil ?_;rename_i hK;refine hK _ _ ?_;clear hK
   go_wp2_with fail
   go_ret2
   exact⟨.inr ⟨_,_,_,HP.out,Hlen.out,rfl,HI.out.up HB3.out.size⟩,aQ HB3.out HB4.out⟩
  ·have hbig:decide ((b.length:Int)<(a.length:Int))=false:=by simp;omega
   go_enter Tryz.func234,Tryz.ntmps234;have HB1:Hid (Below w.heap.size w w):=hide (Below.refl _ _)
   go_upto_region 3 with fail
   refine wp_region_lit ?_;refine sk ?_;refine sk ?_;refine gc (zQ (H.out.pa.below HB1.out) (H.out.pb.below HB1.out) H.out.ca) ?_;rintro e2 w2 ⟨⟨j,hj,rfl⟩,hB⟩;refine⟨_,rfl,?_⟩;have HB2:=hide (aQ HB1.out hB);clear hB;refine sk ?_;refine gc AV ?_;rintro e3 w3 ⟨rfl,rfl⟩;refine⟨_,rfl,?_⟩;have HB3:Hid (Below w.heap.size w (w2.alloc (.cells #[.int .i64 at_] 3))):=hide (aQ HB2.out (bg _ _));refine gc ((H.out.below HB3.out).past (Dk w2 at_) hj) ?_;rintro e4 w4 ⟨⟨A4,c4,rfl,hi⟩,hB⟩;refine⟨_,rfl,?_⟩;have HI:=hide hi;have HB4:=hide hB;clear hi hB;refine sk ?_;refine sk ?_;refine wpList_nil ?_;rename_i hK;refine hK _ _ ?_;clear hK
   go_wp2_with fail
   go_ret2
   exact⟨.inr ⟨_,_,_,HP.out,Hlen.out,rfl,HI.out.up HB3.out.size⟩,aQ HB3.out HB4.out⟩
theorem LK{S:Nat→Prop}{x:Eh}{e:Ed}{w:World}(he:gq S w x e)(htab:aW w)(hsum:e.frm.size+e.to.size≤9223372036854775807)(hfe:e.frm=aV)(hte:e.to=aV)(hnot :¬(dD e.old∧dD e.new∧e.at_=0∧e.far=0)):
  Calls Tryz.prog 36 #[.agg #[.int .u8 4,.slice x.pA e.path.length x.pc,.int .i64 e.at_,.int .i64 e.far,.string {data:=#[]},.string {data:=#[]},.slice x.oA e.old.len x.oc,.slice x.nA e.new.len x.nc]] w fun e1 w'=>ay (bQ {e with kind:=4}) e1∧Below w.heap.size w w':=by
 have aS:Hid (aW w):=htab;have dm:=hide he.path;have jO:=hide he.at_;have fH:=hide he.far;have jA:=he.frm;have hto:=he.to;have dn:=hide he.old;have fJ:=hide he.new;have hold:=he.oc;have hnew:=he.nc;have fQ:=hide (@EC e);have ny:=hide hfe;have Hte:=hide hte;clear hfe hte jA hto hsum;have hE:(!(({data:=#[]}:ByteArray)++({data:=#[]}:ByteArray)).toList.isEmpty)=false:=uJ;have mY:=hide hnot;clear hnot;clear he htab;go_enter Tryz.func36,Tryz.ntmps36
 go_wp2_with(first
  | (go_at_call 105;(with_reducible refine(oQ (l:=e.path) (dm.out.below (dM (bg _ _) _))).mono ?_);rintro e1 w1 ⟨⟨_|_,rfl,hb⟩,rfl⟩<;>(have Hp:=hide hb;clear hb))
  | (go_at_call 107;(with_reducible refine(jy e.at_ _ jO.out).mono ?_);rintro e1 w1 ⟨⟨_|_,rfl,hb⟩,rfl⟩<;>(have Ha:=hide hb;clear hb))
  | (go_at_call 107;(with_reducible refine(jy e.far _ fH.out).mono ?_);rintro e1 w1 ⟨⟨_|_,rfl,hb⟩,rfl⟩<;>(have Hf:=hide hb;clear hb))
  | (go_at_call 108;(with_reducible refine(jw {data:=#[]} _ (by decide) (aS.out.below (dM (bg _ _) _))).mono ?_);rintro e1 w1 ⟨⟨_|_,rfl,hb⟩,hB⟩<;>first|(exact absurd (hb.mp (by first|rfl|trivial)) zap)|(have Hn:=hide hb;have HB:=hide (aQ (dM (bg _ _) _) hB);obtain⟨hc1,hf1,hz1⟩:=aY (N:=w.heap.size) hB (by simp);clear hb hB))
  | (go_at_call 108;(with_reducible refine(jw {data:=#[]} _ (by decide) (aS.out.below HB.out)).mono ?_);rintro e1 w2 ⟨⟨_|_,rfl,hb⟩,hB⟩<;>first|(exact absurd (hb.mp (by first|rfl|trivial)) zap)|(have Hm:=hide hb;have HB2:=hide (aQ HB.out hB);obtain⟨hc2,hf2,hz2⟩:=aY (N:=w.heap.size) hB hz1;clear hb hB))
  | (go_at_call 109;(with_reducible refine(iE (f:=e.old) (dn.out.below HB2.out) hold.1 hold.2 (aS.out.below HB2.out)).mono ?_);rintro e1 w3 ⟨⟨_|_,rfl,hb⟩,hB⟩<;>(have gZ:=hide hb;have HB3:=hide (aQ HB2.out hB);obtain⟨hc3,hf3,hz3⟩:=aY (N:=w.heap.size) hB hz2;clear hb hB))
  | (go_at_call 109;(with_reducible refine(iE (f:=e.old) (dn.out.below HB.out) hold.1 hold.2 (aS.out.below HB.out)).mono ?_);rintro e1 w3 ⟨⟨_|_,rfl,hb⟩,hB⟩<;>(have gZ:=hide hb;have HB3:=hide (aQ HB.out hB);obtain⟨hc3,hf3,hz3⟩:=aY (N:=w.heap.size) hB hz1;clear hb hB))
  | (go_at_call 109;(with_reducible refine(iE (f:=e.new) (fJ.out.below HB3.out) hnew.1 hnew.2 (aS.out.below HB3.out)).mono ?_);rintro e1 w4 ⟨⟨_|_,rfl,hb⟩,hB⟩<;>first|(exact absurd (And.intro (gZ.out.mp (by first|rfl|trivial)) (And.intro (hb.mp (by first|rfl|trivial)) (And.intro (by omega) (by omega)))) mY.out)|(have kz:=hide hb;have HB4:=hide (aQ HB3.out hB);obtain⟨hc4,hf4,lI⟩:=aY (N:=w.heap.size) hB hz3;clear hb hB)))
 go_quiet (fail)
 go_upto_region 20 with(first
  | (go_at_call 105;(with_reducible refine(oQ (l:=e.path) (dm.out.below (dM (bg _ _) _))).mono ?_);rintro e1 w1 ⟨⟨_|_,rfl,hb⟩,rfl⟩<;>(have Hp:=hide hb;clear hb))
  | (go_at_call 107;(with_reducible refine(jy e.at_ _ jO.out).mono ?_);rintro e1 w1 ⟨⟨_|_,rfl,hb⟩,rfl⟩<;>(have Ha:=hide hb;clear hb))
  | (go_at_call 107;(with_reducible refine(jy e.far _ fH.out).mono ?_);rintro e1 w1 ⟨⟨_|_,rfl,hb⟩,rfl⟩<;>(have Hf:=hide hb;clear hb))
  | (go_at_call 108;(with_reducible refine(jw {data:=#[]} _ (by decide) (aS.out.below (dM (bg _ _) _))).mono ?_);rintro e1 w1 ⟨⟨_|_,rfl,hb⟩,hB⟩<;>first|(exact absurd (hb.mp (by first|rfl|trivial)) zap)|(have Hn:=hide hb;have HB:=hide (aQ (dM (bg _ _) _) hB);obtain⟨hc1,hf1,hz1⟩:=aY (N:=w.heap.size) hB (by simp);clear hb hB))
  | (go_at_call 108;(with_reducible refine(jw {data:=#[]} _ (by decide) (aS.out.below HB.out)).mono ?_);rintro e1 w2 ⟨⟨_|_,rfl,hb⟩,hB⟩<;>first|(exact absurd (hb.mp (by first|rfl|trivial)) zap)|(have Hm:=hide hb;have HB2:=hide (aQ HB.out hB);obtain⟨hc2,hf2,hz2⟩:=aY (N:=w.heap.size) hB hz1;clear hb hB))
  | (go_at_call 109;(with_reducible refine(iE (f:=e.old) (dn.out.below HB2.out) hold.1 hold.2 (aS.out.below HB2.out)).mono ?_);rintro e1 w3 ⟨⟨_|_,rfl,hb⟩,hB⟩<;>(have gZ:=hide hb;have HB3:=hide (aQ HB2.out hB);obtain⟨hc3,hf3,hz3⟩:=aY (N:=w.heap.size) hB hz2;clear hb hB))
  | (go_at_call 109;(with_reducible refine(iE (f:=e.old) (dn.out.below HB.out) hold.1 hold.2 (aS.out.below HB.out)).mono ?_);rintro e1 w3 ⟨⟨_|_,rfl,hb⟩,hB⟩<;>(have gZ:=hide hb;have HB3:=hide (aQ HB.out hB);obtain⟨hc3,hf3,hz3⟩:=aY (N:=w.heap.size) hB hz1;clear hb hB))
  | (go_at_call 109;(with_reducible refine(iE (f:=e.new) (fJ.out.below HB3.out) hnew.1 hnew.2 (aS.out.below HB3.out)).mono ?_);rintro e1 w4 ⟨⟨_|_,rfl,hb⟩,hB⟩<;>first|(exact absurd (And.intro (gZ.out.mp (by first|rfl|trivial)) (And.intro (hb.mp (by first|rfl|trivial)) (And.intro (by omega) (by omega)))) mY.out)|(have kz:=hide hb;have HB4:=hide (aQ HB3.out hB);obtain⟨hc4,hf4,lI⟩:=aY (N:=w.heap.size) hB hz3;clear hb hB)))
 all_goals(first|go_ret|(go_quiet (fail);go_wp2;go_ret))
 all_goals go_tidy
 all_goals(try have hp:=Hp.out)
 all_goals(try have ha:=Ha.out)
 all_goals(try have hf:=Hf.out)
 all_goals(try have hn:=Hn.out)
 all_goals(try have hm:=Hm.out)
 all_goals(try have hpo:=gZ.out)
 all_goals(try have hpn:=kz.out)
 all_goals refine⟨ay.mk ?_,(by first|exact qX HB4.out _|exact HB4.out|exact HB3.out|exact HB2.out|exact HB.out|exact dM (bg _ _) _)⟩
 all_goals clear aS dm jO fH dn fJ
 all_goals(try clear Hp)
 all_goals(try clear Ha)
 all_goals(try clear Hf)
 all_goals(try clear kz hc4 hf4 HB4 lI)
 all_goals(try clear gZ hc3 hf3 HB3 hz3)
 all_goals(try clear Hm hc2 hf2 HB2 hz2)
 all_goals(try clear Hn hc1 hf1 hz1 HB)
 all_goals rw[fQ.out]
 all_goals clear fQ
 all_goals(try have pp:=@qQ e.old)
 all_goals(try have pq:=@qQ e.new)
 all_goals have n0:=yh
 all_goals(try have hfe:=ny.out)
 all_goals(try have hte:=Hte.out)
 all_goals(try have hnot:=mY.out)
 all_goals(try(exfalso;simp only[uJ,Bool.false_eq_true,reduceCtorEq]at *;done))
 all_goals(try(exfalso;simp only[wX ny.out,Bool.true_eq_false,reduceCtorEq]at *;done))
 all_goals grind
end
end Go.Proofs.YtialngdffhmobaaGreatDoor
