/- Part 36 of what commuteFiles_cardUpto rests on. -/
import Derived.LoopTactic
import Derived.Test.YtialngdffhmobaaGreatDoorV27
import Derived.Test.YtialngdffhmobaaGreatDoorV30
import Derived.Test.YtialngdffhmobaaGreatDoorV31
import Derived.Test.YtialngdffhmobaaGreatDoorV04
import Derived.Test.YtialngdffhmobaaGreatDoorV34
import Derived.Test.YtialngdffhmobaaGreatDoorV20
import Derived.Test.YtialngdffhmobaaGreatDoorV05
import Derived.Test.YtialngdffhmobaaGreatDoorV33
import Derived.Test.YtialngdffhmobaaGreatDoorV00
set_option linter.unusedVariables false
set_option linter.unusedSimpArgs false
set_option maxHeartbeats 16000000
set_option maxRecDepth 1000000
namespace Go.Proofs.YtialngdffhmobaaGreatDoor
section
open Go.RowKit
theorem lU:Tryz.prog.underlying 26=some (.int .u8):=Tryz.underlying26
abbrev xy(f:FuncId)(b d:Nat):Value:= .func (.func f) #[] #[.pointer (some ⟨b,0,none⟩),.pointer (some ⟨d,0,none⟩)]
abbrev kL(N:Nat):List (Int×Value):=[(2,xy 231 (N+1) N),(3,xy 233 (N+1) N),(4,xy 235 (N+1) N),(5,xy 237 N (N+1))]
def vV(e:Ed)(x:List Int)(A:Option Addr)(c:Nat)(y:Eh)(N:Nat):Prop :=
 (∃k' f cs,(kL N).find? (fun p=>(e.kind:Int) == p.1)=some (k',.func (.func f) #[] cs)∧Enters Tryz.prog f∧∀W,jk W (N+1) N A c x y e→Calls Tryz.prog f cs W fun r w'=>dH e x W r w')∨
 ((kL N).find? (fun p=>(e.kind:Int) == p.1)=none∧cO e x=some x)
theorem tX(e:Ed)(x:List Int)(A:Option Addr)(c:Nat)(y:Eh)(N:Nat):vV e x A c y N:=by
 by_cases h2:e.kind=2
 ·exact .inl ⟨2,_,_,by simp[h2],enters_of Tryz.func231 (by kernel_rfl) rfl,fun W hW=>Bl hW h2⟩
 ·by_cases h3:e.kind=3
  ·exact .inl ⟨3,_,_,by simp[h3],enters_of Tryz.func233 (by kernel_rfl) rfl,fun W hW=>Bo hW h3⟩
  ·by_cases h4:e.kind=4
   ·exact .inl ⟨4,_,_,by simp[h4],enters_of Tryz.func235 (by kernel_rfl) rfl,fun W hW=>Bq hW h4⟩
   ·by_cases h5:e.kind=5
    ·exact .inl ⟨5,_,_,by simp[h5],enters_of Tryz.func237 (by kernel_rfl) rfl,fun W hW=>Bz hW h5⟩
    ·refine .inr ⟨?_,by unfold cO;rw[if_neg h2,if_neg h3,if_neg h4,if_neg h5]⟩;have q2:((e.kind:Int) == 2)=false:=by simp;omega
     have q3:((e.kind:Int) == 3)=false:=by simp;omega
     have q4:((e.kind:Int) == 4)=false:=by simp;omega
     have q5:((e.kind:Int) == 5)=false:=by simp;omega
     simp only[kL,List.find?,q2,q3,q4,q5]
theorem Ju{w:World}{A:Option Addr}{c:Nat}{x:List Int}{y:Eh}{e:Ed}(h:iL w A c x y e):
  Calls Tryz.prog 193 #[.agg (ae e y).toArray,.slice A x.length c] w fun r w'=>dH e x w r w':=by
 have hsel:=hide (tX e x A c y w.heap.size);obtain⟨W0,hW0⟩:∃W0,W0=(w.alloc (.cells (ae e y).toArray 30)).alloc (.cells #[.slice A x.length c] 27):=⟨_,rfl⟩;obtain⟨hN0,hR0⟩:=mM w (ae e y) [.slice A x.length c] 30 27;have hB0:Below w.heap.size w W0:=by rw[hW0];exact dW _ _
 have hs0:W0.heap.size=w.heap.size+2:=by rw[hW0];simp
 have hN0':Bx W0 w.heap.size (ae e y):=by rw[hW0];exact hN0
 have BL:Bx W0 (w.heap.size+1) [.slice A x.length c]:=by rw[hW0];exact hR0
 have HW0:=hide hW0;have eu:=hide hN0';have HR0:=hide BL;have HB0:=hide hB0;have gI:=hide hs0;have HH:=hide h;clear hW0 hN0 hR0 hN0' BL hB0 hs0 h;have hmf:=hmf;have hmm:=fun W:World=>run_makeMap (P:=Tryz.prog) 282 W;go_enter Tryz.func193,Tryz.ntmps193
 go_upto_region 1 with fail
 change Code.wp _ _ _ _ ((w.alloc (.cells (ae e y).toArray 30)).alloc (.cells #[.slice A x.length c] 27));rw[←HW0.out];clear HW0
 go_upto_region 2 with fail
 refine wp_region_lit ?_;refine gw (w':=W0.alloc (.map #[] 0)) (v:= .map (some W0.heap.size)) ?_;have T0:Tab uU .u8 (W0.alloc (.map #[] 0)) W0.heap.size []:=Tab.new W0;have dQ:=hide (eu.out.alloc (.map #[] 0));have HR1:=hide (HR0.out.alloc (.map #[] 0));have HB1:=hide (HB0.out.alloc HB0.out.size (.map #[] 0));clear eu HR0 HB0;have hne:=gI.out;clear gI;generalize W0.alloc (.map #[] 0)=V0 at T0 dQ HR1 HB1⊢;generalize W0.heap.size=r at T0 hne⊢;have jP:=hide hne;clear hne;refine sk ?_;refine gi (k:=2) (v:=xy 231 (w.heap.size+1) w.heap.size) T0 ?_ Tryz.underlying282 lU;intro V1 T1 g1;refine sk ?_;refine gi (k:=3) (v:=xy 233 (w.heap.size+1) w.heap.size) T1 ?_ Tryz.underlying282 lU;intro V2 T2 g2;refine sk ?_;refine gi (k:=4) (v:=xy 235 (w.heap.size+1) w.heap.size) T2 ?_ Tryz.underlying282 lU;intro V3 T3 g3;refine sk ?_;refine gi (k:=5) (v:=xy 237 w.heap.size (w.heap.size+1)) T3 ?_ Tryz.underlying282 lU;intro V4 T4 g4;have eQ:=hide ((((dQ.out.grown g1 (by have:=jP.out;omega)).grown g2 (by have:=jP.out;omega)).grown g3 (by have:=jP.out;omega)).grown g4 (by have:=jP.out;omega));have HR4:=hide ((((HR1.out.grown g1 (by have:=jP.out;omega)).grown g2 (by have:=jP.out;omega)).grown g3 (by have:=jP.out;omega)).grown g4 (by have:=jP.out;omega));have HB4:Hid (Below w.heap.size w V4):=hide ((((HB1.out.grown g1 HB1.out.size (by intro k hk;cases hk;have:=jP.out;omega)).grown g2 (HB1.out.grown g1 HB1.out.size (by intro k hk;cases hk;have:=jP.out;omega)).size (by intro k hk;cases hk;have:=jP.out;omega)).grown g3 (aI (HB1.out.grown g1 HB1.out.size (by intro k hk;cases hk;have:=jP.out;omega)).size g2.size) (by intro k hk;cases hk;have:=jP.out;omega)).grown g4 (aI (aI (HB1.out.grown g1 HB1.out.size (by intro k hk;cases hk;have:=jP.out;omega)).size g2.size) g3.size) (by intro k hk;cases hk;have:=jP.out;omega));clear T0 T1 T2 T3 g1 g2 g3 g4 dQ HR1 HB1;have k0:=eQ.out.cell 0;refine sk ?_;refine sk ?_;refine sk ?_;have hz:(zeroValue 280).run Tryz.prog V4 = .ok .nilFunc V4:=by go_simp
 have lK:Hid (jk V4 (w.heap.size+1) w.heap.size A c x y e):=hide ⟨HR4.out,eQ.out,HH.out.below HB4.out⟩;have T5:Tab uU .u8 V4 r (kL w.heap.size):=T4;clear T4 eQ HR4 k0;rcases hsel.out with⟨k',f,cs,hf,vW,hcall⟩|⟨hf,hpo⟩
 ·refine sk (v:= .tuple #[.func (.func f) #[] cs,.bool true]) ?_ (hy:=GV T5 Tryz.underlying282 lU hz hf rfl rfl rfl);refine sk ?_;refine sk (v:= .func (.func f) #[] cs) ?_;refine sk (v:= .bool true) ?_;refine sk ?_;refine sk ?_;refine wpList_nil ?_;rename_i hK;refine hK _ _ ?_;clear hK hf hz T5;have hen :∀(args:Array Value) (W:World),(callFunc f args).run Tryz.prog W = .ok (.enter f args) W:=vW
  go_upto_region 5 with fail
  refine wp_region_lit ?_;refine sk ?_;refine gc (hcall V4 lK.out) ?_;intro r1 w1 hpost;obtain⟨⟨A1,n1,c1,ok,rfl,hi⟩,hB⟩:=hpost.up HB4.out;refine⟨_,rfl,?_⟩;have HI:=hide hi;have HB:=hide hB;clear hi hB hpost hen;refine sk (v:= .slice A1 n1 c1) ?_;refine sk (v:= .bool ok) ?_;refine sk ?_;refine sk ?_;refine wpList_nil ?_;rename_i hK;refine hK _ _ ?_;clear hK
  go_wp2_with fail
  go_ret2
  exact⟨⟨_,_,_,_,rfl,HI.out⟩,HB.out⟩
 ·refine sk (v:= .tuple #[.nilFunc,.bool false]) ?_ (hy:=GX T5 Tryz.underlying282 lU hz hf rfl rfl rfl);refine sk ?_;refine sk (v:= .nilFunc) ?_;refine sk (v:= .bool false) ?_;refine sk ?_;refine sk ?_;refine wpList_nil ?_;rename_i hK;refine hK _ _ ?_;clear hK hf hz T5
  go_upto_region 5 with fail
  refine wp_region_lit ?_;refine sk ?_;refine gc (Bj lK.out hpo) ?_;intro r1 w1 hpost;obtain⟨⟨A1,n1,c1,ok,rfl,hi⟩,hB⟩:=dH.up hpost HB4.out;refine⟨_,rfl,?_⟩;have HI:=hide hi;have HB:=hide hB;clear hi hB hpost;refine sk (v:= .slice A1 n1 c1) ?_;refine sk (v:= .bool ok) ?_;refine sk ?_;refine sk ?_;refine wpList_nil ?_;rename_i hK;refine hK _ _ ?_;clear hK
  go_wp2_with fail
  go_ret2
  exact⟨⟨_,_,_,_,rfl,HI.out⟩,HB.out⟩
theorem Jv{S:Nat→Prop}{x:Ph}{p:Pt}{w:World}(hp:gu S w x p)(htab:aW w)(hsum:p.edit.frm.size+p.edit.to.size≤9223372036854775807):
  Calls Tryz.prog 15 #[.agg #[.int .u8 p.kind,.string p.file,.string p.text,.int .i64 p.hunk.at_,.slice x.h.oA p.hunk.old.length x.h.oc,.slice x.h.nA p.hunk.new.length x.h.nc,.int .u8 p.edit.kind,.slice x.e.pA p.edit.path.length x.e.pc,.int .i64 p.edit.at_,.int .i64 p.edit.far,.string p.edit.frm,.string p.edit.to,.slice x.e.oA p.edit.old.len x.e.oc,.slice x.e.nA p.edit.new.len x.e.nc]] w
   fun e w'=>ay (bF p) e∧Below w.heap.size w w':=by
 obtain⟨kd,file,text,hunk,edit⟩:=p;by_cases h1:kd=1
 ·subst h1;exact Nr hp
 by_cases h2:kd=2
 ·subst h2;exact Ns hp
 by_cases h3:kd=3
 ·subst h3;exact Nv hp
 by_cases h4:kd=4
 ·subst h4;exact Nw hp htab hsum
 exact Nu hp (by simp only;omega) (by simp only;omega) (by simp only;omega) (by simp only;omega)
theorem qE{S:Nat→Prop}{x:Ph}{p:Pt}{w:World}(hp:gu S w x p)(htab:aW w)(hsum:p.edit.frm.size+p.edit.to.size≤9223372036854775807)(hok:bF p):
  Calls Tryz.prog 15 #[.agg #[.int .u8 p.kind,.string p.file,.string p.text,.int .i64 p.hunk.at_,.slice x.h.oA p.hunk.old.length x.h.oc,.slice x.h.nA p.hunk.new.length x.h.nc,.int .u8 p.edit.kind,.slice x.e.pA p.edit.path.length x.e.pc,.int .i64 p.edit.at_,.int .i64 p.edit.far,.string p.edit.frm,.string p.edit.to,.slice x.e.oA p.edit.old.len x.e.oc,.slice x.e.nA p.edit.new.len x.e.nc]] w fun e w'=>e = .returned (.bool true)∧Below w.heap.size w w':=by
 refine(Jv hp htab hsum).mono ?_;rintro e w' ⟨⟨b,rfl,hb⟩,hB⟩;exact⟨by rw[hb.mpr hok],hB⟩
def bJ(w:World)(v:Value)(l0:List ByteArray):Prop:=∃A c l,v = .slice A l.length c∧bU Any w A l∧l.length≤c∧(∀s,s∈l↔s∈l0)
theorem bJ.below{w w':World}{v:Value}{l0:List ByteArray}(h:bJ w v l0)(hB:Below w.heap.size w w'):bJ w' v l0:=by
 obtain⟨A,c,l,e,h1,h2,h3⟩:=h;exact⟨A,c,l,e,⟨h1.1.below hB,h1.2⟩,h2,h3⟩
theorem bJ.mono{w:World}{v:Value}{l0 l1:List ByteArray}(h:bJ w v l0)(he :∀s,s∈l0↔s∈l1):bJ w v l1:=by
 obtain⟨A,c,l,e,h1,h2,h3⟩:=h;exact⟨A,c,l,e,h1,h2,fun s=>(h3 s).trans (he s)⟩
def jG(N:Nat)(v:Value):Prop:=∀A n c b o,v = .slice A n c→n≠0→A=some ⟨b,o,none⟩→N≤b
def kZ(k:Nat)(v:Value):Prop:=∀A n c b o,v = .slice A n c→n≠0→A=some ⟨b,o,none⟩→b≠k
theorem jG.ne{N k:Nat}{v:Value}(h:jG N v)(hk:k<N):kZ k v:=fun A n c b o h1 h2 h3 e=>by have:=h A n c b o h1 h2 h3;omega
theorem BM{S:Nat→Prop}{w:World}{A:Option Addr}{xs:List Value}{n c N:Nat}(h:Rd S w A xs)(hS :∀b,S b→N≤b)(hn:n=xs.length):jG N (.slice A n c):=by
 intro A1 n1 c1 b o h1 h2 h3;cases h1;rcases h with h|⟨b1,o1,h4,h5,_⟩
 ·subst h;exact absurd hn h2
 ·rw[h3]at h4;cases h4;exact hS b h5
theorem bJ.ne{w:World}{v:Value}{l0:List ByteArray}{k:Nat}(h:bJ w v l0)(hk:w.heap.size≤k):kZ k v:=by
 intro A1 n1 c1 b o h1 h2 h3 e;obtain⟨A,c,l,rfl,⟨hr,_⟩,_⟩:=h;cases h1;rcases hr with hr|⟨b1,o1,h4,_,h6⟩
 ·rw[List.map_eq_nil_iff]at hr;subst hr;exact h2 rfl
 ·rw[h3]at h4;cases h4;cases l with
  | nil=>exact h2 rfl
  | cons a l =>
   have h7:=h6 0 (.string a) rfl;have:=block_lt_of_cell h7;simp only at this;omega
theorem bJ.off{w:World}{v:Value}{l0:List ByteArray}{k:Nat}(h:bJ w v l0)(hk:kZ k v)(o:Nat)(vs:List Value):bJ (w.setCells k o vs) v l0:=by
 obtain⟨A,c,l,e,⟨hr,h2⟩,h3⟩:=h;refine⟨A,c,l,e,⟨?_,h2⟩,h3⟩;rcases hr with hr|⟨b1,o1,h4,h5,h6⟩
 ·exact .inl hr
 ·refine .inr ⟨b1,o1,h4,h5,fun j u hj=>?_⟩;have hb:b1≠k:=hk A l.length c b1 o1 e (fun h0=>by rw[List.length_eq_zero_iff]at h0;subst h0;cases hj) h4;exact(World.cell?_of_block (iI k hb vs o w)).trans (h6 j u hj)
theorem bJ.one{w:World}{v:Value}{l0:List ByteArray}(h:bJ w v l0):v.oneCell'=true:=by
 obtain⟨A,c,l,rfl,_⟩:=h;rfl
def iO(e:Ed):Prop:=(fC e.old).length≤137438953472∧(fC e.new).length≤137438953472
structure ik(w:World)(e:Ed)(y:Eh)(nm bd:Value)(pr cl:Bool):Prop where
 x:kH w y e
 names:bJ w nm e.names
 binds:bJ w bd e.binds
 params:e.kind≠1→(pr=true↔e.parts.params)
 calls:e.kind≠1→(cl=true↔e.parts.calls)
theorem ik.below{w w':World}{e:Ed}{y:Eh}{nm bd:Value}{pr cl:Bool}(h:ik w e y nm bd pr cl)(hB:Below w.heap.size w w'):ik w' e y nm bd pr cl :=
 ⟨h.x.below hB,h.names.below hB,h.binds.below hB,h.params,h.calls⟩
theorem ik.off{w:World}{e:Ed}{y:Eh}{nm bd:Value}{pr cl:Bool}{k o:Nat}{vs:List Value}(h:ik w e y nm bd pr cl)(hx:kH (w.setCells k o vs) y e)(h1:kZ k nm)(h2:kZ k bd):ik (w.setCells k o vs) e y nm bd pr cl :=
 ⟨hx,h.names.off h1 _ _,h.binds.off h2 _ _,h.params,h.calls⟩
def tY(e:Ed)(y:Eh)(w:World)(r:Ending)(w':World):Prop:=(∃nm bd pr cl,r = .returned (.agg (ag e y nm bd pr cl).toArray)∧ik w' e y nm bd pr cl∧jG w.heap.size nm∧jG w.heap.size bd)∧Below w.heap.size w w'
abbrev FI:List Value:=[.slice none 0 0,.slice none 0 0,.bool false,.bool false]
abbrev az:List Value:=ah++FI
theorem jV(e:Ed)(y:Eh){nm bd:Value}{pr cl:Bool}(h1:nm.oneCell'=true)(h2:bd.oneCell'=true):(ag e y nm bd pr cl).toArray.all (·.oneCell')=true:=all_oneCell_toArray (by
 intro v hv;simp only[List.mem_cons,List.not_mem_nil,or_false]at hv;rcases hv with rfl|rfl|rfl|rfl|rfl|rfl|rfl|rfl|rfl|rfl|rfl|rfl<;>first|rfl|assumption)
def xA(e:Ed)(y:Eh)(nm:Value)(pr:Bool)(w W0:World)(b0:Nat)(m:Nat)(st:List ByteArray×Bool)(D:List Nat)(W:World):Prop:=tV e y nm pr w b0 m st D W∧Touch [b0] D W0 W
theorem tZ{e:Ed}{y:Eh}{nm:Value}{pr:Bool}{w W0:World}{b0:Nat}:iK 227 #[.pointer (some ⟨b0,0,none⟩)] (·≠b0) W0 (xA e y nm pr w W0 b0) bn where
 en:=enters_of Tryz.func227 (by kernel_rfl) rfl
 lt:=by
  rintro m st D W ⟨⟨v,hr,hb⟩,_⟩ b hbD;rw[hr.d]at hbD;rcases List.mem_cons.1 hbD with rfl|h
  ·exact hb.lt
  ·exact(hr.own.lt b (gy.1 h)).2
 below:=by rintro m st D W ⟨_,hT⟩ b hb hl;exact hT.block b hl (by simpa using hb)
 keep:=by rintro m st D W W' ⟨⟨v,hr,hb⟩,hT⟩ hB;exact⟨⟨v,hr.keep hB,hb.call hB⟩,hT.trans (Touch.below hB)⟩
 ca:=fun k t n A l c hJ hk ht=>(yO hJ.1 hk ht).mono (by
  rintro e1 W' ⟨rfl,D',h1,h2⟩;exact⟨rfl,D',⟨h1,hJ.2.trans h2⟩,h2⟩)
theorem Jw{w:World}{g:Nat}{a b:ByteArray}(h0:w.cell? ⟨g,0,none⟩=some (.string a))(h1:w.cell? ⟨g,1,none⟩=some (.string b))(ha:a.size≤9223372036854775807)(hb:b.size≤9223372036854775807):bJ w (.slice (some ⟨g,0,none⟩) 2 2) [a,b]:=
 ⟨_,_,[a,b],rfl,⟨.inr ⟨g,0,rfl,trivial,fun j u hj=>by
  match j,hj with
  | 0,hj=>injection hj with hj;subst hj;exact h0
  | 1,hj=>injection hj with hj;subst hj;exact h1⟩,fun s hs=>by
   simp only[List.mem_cons,List.not_mem_nil,or_false]at hs;rcases hs with rfl|rfl
   ·exact ha
   ·exact hb,by simp⟩,by simp,fun s=>Iff.rfl⟩
theorem nC{y:Eh}{e:Ed}{w:World}(H:kH w y e)(hsm:iO e):Calls Tryz.prog 189 #[.agg (ae e y).toArray] w fun r w'=>tY e y w r w':=by
 have h0:=Bx.new w (ae e y) 30;have h1:=(h0.alloc (.cells az.toArray 246));have h2:=(h1.alloc (.cells az.toArray 246)).off (M:=w.heap.size+2) (by omega) 0 (ag e y (.slice none 0 0) (.slice none 0 0) false false);have k1:=Bx.new (w.alloc (.cells (ae e y).toArray 30)) az 246;have k2:=(k1.alloc (.cells az.toArray 246)).off (M:=w.heap.size+2) (by simp) 0 (ag e y (.slice none 0 0) (.slice none 0 0) false false);have l0:=Bx.new ((w.alloc (.cells (ae e y).toArray 30)).alloc (.cells az.toArray 246)) az 246;simp only[World.size_alloc]at k1 k2 l0;replace l0:Bx (((w.alloc (.cells (ae e y).toArray 30)).alloc (.cells az.toArray 246)).alloc (.cells az.toArray 246)) (w.heap.size+2) az:=l0;have l1:=l0.puts 0 (ag e y (.slice none 0 0) (.slice none 0 0) false false) (ag e y (.slice none 0 0) (.slice none 0 0) false false) (by simp);have hb:Below w.heap.size w ((((w.alloc (.cells (ae e y).toArray 30)).alloc (.cells az.toArray 246)).alloc (.cells az.toArray 246)).setCells (w.heap.size+2) 0 (ag e y (.slice none 0 0) (.slice none 0 0) false false)):=
  dK (by omega) _ _ (((bg _ _).alloc (by simp) _).alloc (by simp[World.size_alloc];omega) _)
 have H0:=hide h1;have L0:=hide l0;have H2:=hide h2;have K2:=hide k2;have L1:=hide l1;have HB:=hide hb;clear h0 h1 h2 k1 k2 l0 l1 hb;have HH:=hide H;clear H;go_enter Tryz.func189,Tryz.ntmps189
 go_upto_region 1 with fail
 change Code.wp _ _ _ _ ((w.alloc (.cells (ae e y).toArray 30)).alloc (.cells az.toArray 246));refine wp_region_lit ?_;refine gl ?_ H0.out.c Tryz.underlying30 bC;refine sk (v:= .agg (ag e y (.slice none 0 0) (.slice none 0 0) false false).toArray) ?_;refine gw (w':=((w.alloc (.cells (ae e y).toArray 30)).alloc (.cells az.toArray 246)).alloc (.cells az.toArray 246)) (v:= .pointer (some ⟨w.heap.size+2,0,none⟩)) ?_ (hy:=by go_simp;rfl);refine gs (cells:=(ag e y (.slice none 0 0) (.slice none 0 0) false false).toArray) ?_ (L0.out.th (o:=0) (by simp)) iM (jV _ _ rfl rfl);refine wpList_nil ?_;rename_i hK;refine hK _ _ ?_;clear hK L0 H0;change Code.wp _ _ _ _ ((((w.alloc (.cells (ae e y).toArray 30)).alloc (.cells az.toArray 246)).alloc (.cells az.toArray 246)).setCells (w.heap.size+2) 0 (ag e y (.slice none 0 0) (.slice none 0 0) false false));generalize ((((w.alloc (.cells (ae e y).toArray 30)).alloc (.cells az.toArray 246)).alloc (.cells az.toArray 246)).setCells (w.heap.size+2) 0 (ag e y (.slice none 0 0) (.slice none 0 0) false false))=W1 at H2 K2 L1 HB⊢;have q0:=H2.out.cell 0;by_cases hk:e.kind=1
 ·have e1:((e.kind:Int) == 1)=true:=by simp;omega
  have q4:=H2.out.cell 4;have q5:=H2.out.cell 5
  go_upto_region 3 with fail
  refine wp_region_lit ?_;refine sk ?_;refine sk ?_;refine sk ?_;refine sk ?_;refine gw (w':=W1.alloc (.cells #[.string e.frm,.string e.to] 9)) (v:= .slice (some ⟨W1.heap.size,0,none⟩) 2 2) ?_;have hs:=HB.out.size;have l2:=hide (L1.out.alloc (.cells #[.string e.frm,.string e.to] 9));have k3:=hide (K2.out.alloc (.cells #[.string e.frm,.string e.to] 9));have hb2:=hide (bg W1 (.cells #[.string e.frm,.string e.to] 9));have hR:=hide (Bx.new W1 [.string e.frm,.string e.to] 9);have HB2:=hide (aQ HB.out hb2.out);have zW:Hid (w.heap.size+2<W1.heap.size):=hide L1.out.lt;clear hb2 hs;generalize W1.heap.size=R at hR zW⊢;change wpList _ _ _ _ _ (W1.alloc (.cells #[.string e.frm,.string e.to] 9));change Hid (Bx (W1.alloc (.cells #[.string e.frm,.string e.to] 9)) _ _)at hR;generalize W1.alloc (.cells #[.string e.frm,.string e.to] 9)=W2 at hR HB2 l2 k3⊢;have s8:=l2.out.cell 8;have sf:=l2.out.f;have NV:=l2.out.lt;refine sk ?_;refine ss (w':=W2.setCells (w.heap.size+2) 8 [.slice (some ⟨R,0,none⟩) 2 2]) ?_ (by simp only[World.setCells];go_simp);refine wpList_nil ?_;rename_i hK;refine hK _ _ ?_;clear hK s8 sf;have HR3:=hide (hR.out.off (M:=w.heap.size+2) (by have:=zW.out;omega) 8 [.slice (some ⟨R,0,none⟩) 2 2]);have K3:=hide (k3.out.off (M:=w.heap.size+2) (by omega) 8 [.slice (some ⟨R,0,none⟩) 2 2]);have L3:=hide (l2.out.puts 8 [.slice (some ⟨R,0,none⟩) 2 2] (ag e y (.slice (some ⟨R,0,none⟩) 2 2) (.slice none 0 0) false false) (by simp));have HB3:=hide (dK (b:=w.heap.size+2) (by omega) [.slice (some ⟨R,0,none⟩) 2 2] 8 HB2.out);clear hR k3 l2 HB2 NV;generalize W2.setCells (w.heap.size+2) 8 [.slice (some ⟨R,0,none⟩) 2 2]=W3 at HR3 K3 L3 HB3⊢;have s8:=L3.out.cell 8;have s9:=L3.out.cell 9;have sf:=L3.out.f
  go_upto_region 4 with fail
  refine wp_region_lit ?_;refine sk ?_;refine sk ?_;refine sk ?_;refine ss (w':=W3.setCells (w.heap.size+2) 9 [.slice (some ⟨R,0,none⟩) 2 2]) ?_ (by simp only[World.setCells];go_simp);refine wpList_nil ?_;rename_i hK;refine hK _ _ ?_;clear hK s8 s9 sf;have HR4:=hide (HR3.out.off (M:=w.heap.size+2) (by have:=zW.out;omega) 9 [.slice (some ⟨R,0,none⟩) 2 2]);have K4:=hide (K3.out.off (M:=w.heap.size+2) (by omega) 9 [.slice (some ⟨R,0,none⟩) 2 2]);have L4:=hide (L3.out.puts 9 [.slice (some ⟨R,0,none⟩) 2 2] (ag e y (.slice (some ⟨R,0,none⟩) 2 2) (.slice (some ⟨R,0,none⟩) 2 2) false false) (by simp));have HB4:=hide (dK (b:=w.heap.size+2) (by omega) [.slice (some ⟨R,0,none⟩) 2 2] 9 HB3.out);clear HR3 K3 L3 HB3;generalize W3.setCells (w.heap.size+2) 9 [.slice (some ⟨R,0,none⟩) 2 2]=W4 at HR4 K4 L4 HB4⊢
  go_upto_region 5 with fail
  refine wp_region_lit ?_;refine gl ?_ L4.out.c Tryz.underlying246 iM;refine gs (cells:=(ag e y (.slice (some ⟨R,0,none⟩) 2 2) (.slice (some ⟨R,0,none⟩) 2 2) false false).toArray) ?_ (K4.out.th (o:=0) (by simp)) iM (jV _ _ rfl rfl);refine wpList_nil ?_;rename_i hK;refine hK _ _ ?_;clear hK;have ku:=hide (HR4.out.off (M:=w.heap.size+1) (by have:=zW.out;omega) 0 (ag e y (.slice (some ⟨R,0,none⟩) 2 2) (.slice (some ⟨R,0,none⟩) 2 2) false false));have K5:=hide (K4.out.puts 0 (ag e y (.slice (some ⟨R,0,none⟩) 2 2) (.slice (some ⟨R,0,none⟩) 2 2) false false) (ag e y (.slice (some ⟨R,0,none⟩) 2 2) (.slice (some ⟨R,0,none⟩) 2 2) false false) (by simp));have iV:=hide (dK (b:=w.heap.size+1) (by omega) (ag e y (.slice (some ⟨R,0,none⟩) 2 2) (.slice (some ⟨R,0,none⟩) 2 2) false false) 0 HB4.out);clear HR4 K4 L4 HB4
  go_wp2_with fail
  try simp only[Exit.then,Exit.inBlock]
  have hT:=Jw (ku.out.cell 0) (ku.out.cell 1) HH.out.b.frm HH.out.b.to;refine bodyPost_ret (v:= .agg (ag e y (.slice (some ⟨R,0,none⟩) 2 2) (.slice (some ⟨R,0,none⟩) 2 2) false false).toArray) (nJ Tryz.results189 K5.out.c Tryz.underlying246 iM) rfl ?_;have hge:jG w.heap.size (.slice (some ⟨R,0,none⟩) 2 2):=fun A n c b o h1 h2 h3=>by cases h1;cases h3;have:=zW.out;omega
  refine⟨⟨_,_,_,_,rfl,⟨HH.out.below iV.out,hT.mono fun s=>?_,hT.mono fun s=>?_,fun h=>absurd hk h,fun h=>absurd hk h⟩,hge,hge⟩,iV.out⟩
  ·simp[Ed.names,hk]
  ·simp[Ed.binds,hk]
 ·have e1:((e.kind:Int) == 1)=false:=by simp;omega
  have q6:=H2.out.cell 6;have q7:=H2.out.cell 7
  go_upto_region 6 with fail
  refine wp_region_lit ?_;refine sk ?_;refine sk ?_;refine sk ?_;refine sk ?_;refine gw (w':=W1.alloc (.cells #[.slice y.oA e.old.len y.oc,.slice y.nA e.new.len y.nc] 28)) (v:= .slice (some ⟨W1.heap.size,0,none⟩) 2 2) ?_;have hS0:=L1.out.lt;have hR:=Bx.new W1 [.slice y.oA e.old.len y.oc,.slice y.nA e.new.len y.nc] 28;have hB2:=aQ HB.out (bg W1 (.cells #[.slice y.oA e.old.len y.oc,.slice y.nA e.new.len y.nc] 28));have Jy:Hid (sJ (·≠w.heap.size+2) (W1.alloc (.cells #[.slice y.oA e.old.len y.oc,.slice y.nA e.new.len y.nc] 28)) W1.heap.size y.oA y.nA y.oc y.nc e.old e.new):=
   hide ⟨hR.cell 0,hR.cell 1,(HH.out.r.old.mono (fun b hb _=>by show b≠_;omega)).below hB2,(HH.out.r.new.mono (fun b hb _=>by show b≠_;omega)).below hB2,hsm.1,hsm.2⟩
  refine gc (MO (c:=2) Jy.out (fun b hb=>by rw[World.size_alloc]at hb;show b≠_;omega)) ?_;rintro e2 W2 ⟨⟨A',c',rfl,hf,hc1,hc2⟩,hBc⟩;refine⟨_,rfl,?_⟩;have hBd:=(bg W1 (.cells #[.slice y.oA e.old.len y.oc,.slice y.nA e.new.len y.nc] 28)).trans (hBc.mono (by simp));have L2:=hide (L1.out.call hBd);have K3:=hide (K2.out.call hBd);have HB2:=hide (aQ HB.out hBd);have HF:=hide hf;have hfb:(fC (e.old.app e.new)).length≤274877906944:=by rw[uT,aJ];have:=hsm.1;have:=hsm.2;omega
  have FK:=hide hfb;clear hf hBd hBc Jy hR hB2 hS0 hfb L1 K2 HB H2;refine sk (v:= .slice A' (e.old.app e.new).len c') ?_;refine wpList_nil ?_;rename_i hK;refine hK _ _ ?_;clear hK
  go_upto_region 7 with fail
  refine wp_region_lit ?_;refine sk ?_;refine gc (NF (HF.out.mono fun _ _ _=>trivial) hc1 hc2 FK.out) ?_;rintro e3 W3 ⟨⟨A3,c3,l3,rfl,hl3,hl4,hl5⟩,hBn⟩;refine⟨_,rfl,?_⟩;have hs2:=L2.out.lt;have L3:=hide (L2.out.call hBn);have K4:=hide (K3.out.call hBn);have HB3:=hide (aQ HB2.out hBn);have HF3:=hide (HF.out.below hBn);have fU:Hid (bU (fun b=>b≠w.heap.size+2∧b≠w.heap.size+1) W3 A3 l3):=hide ⟨hl3.1.mono (fun b _ hb=>by have:W2.heap.size≤b:=hb;constructor<;>omega),hl3.2⟩;have NW:=hide hl5;have NY:Hid (jG w.heap.size (.slice A3 l3.length c3)):=hide (BM hl3.1 (fun b hb=>by have:W2.heap.size≤b:=hb;omega) (by simp));clear L2 K3 HB2 HF hBn hl3 hl5 hs2;have sf:=L3.out.f;have s8:=L3.out.cell 8;refine sk ?_;refine ss (w':=W3.setCells (w.heap.size+2) 8 [.slice A3 l3.length c3]) ?_ (by simp only[World.setCells];go_simp);have L4:=hide (L3.out.puts 8 [.slice A3 l3.length c3] (ag e y (.slice A3 l3.length c3) (.slice none 0 0) false false) (by simp));have K5:=hide (K4.out.off (M:=w.heap.size+2) (by omega) 8 [.slice A3 l3.length c3]);have HB4:=hide (dK (b:=w.heap.size+2) (by omega) [.slice A3 l3.length c3] 8 HB3.out);have DD:=hide (HF3.out.keep (w':=W3.setCells (w.heap.size+2) 8 [.slice A3 l3.length c3]) (fun b hb=>iI _ hb _ _ _));have eQ:Hid (bU (fun b=>b≠w.heap.size+2∧b≠w.heap.size+1) (W3.setCells (w.heap.size+2) 8 [.slice A3 l3.length c3]) A3 l3):=hide ⟨fU.out.1.keep (fun b hb=>iI _ hb.1 _ _ _),fU.out.2⟩;clear L3 K4 HB3 HF3 fU sf s8;refine wpList_nil ?_;rename_i hK;refine hK _ _ ?_;clear hK;generalize W3.setCells (w.heap.size+2) 8 [.slice A3 l3.length c3]=W4 at L4 K5 HB4 DD eQ⊢
  go_upto_region 8 with fail
  refine wp_region_lit ?_;refine sk ?_;refine gc (NU (c:=c') (DD.out.mono fun _ _ _=>trivial) (aI hc1 hc2)) ?_;rintro e4 W5 ⟨⟨q,rfl,hq⟩,zZ⟩;refine⟨_,rfl,?_⟩;have L5:=hide (L4.out.call zZ);have K6:=hide (K5.out.call zZ);have iV:=hide (aQ HB4.out zZ);have Jz:=hide (DD.out.below zZ);have jd:Hid (bU (fun b=>b≠w.heap.size+2∧b≠w.heap.size+1) W5 A3 l3):=hide ⟨eQ.out.1.below zZ,eQ.out.2⟩;have Hq:=hide hq;clear hq zZ L4 K5 HB4 DD eQ;have sf:=L5.out.f;have s8:=L5.out.cell 10;refine sk ?_;refine ss (w':=W5.setCells (w.heap.size+2) 10 [.bool q]) ?_ (by simp only[World.setCells];go_simp);have L6:=hide (L5.out.puts 10 [.bool q] (ag e y (.slice A3 l3.length c3) (.slice none 0 0) q false) (by simp));have K7:=hide (K6.out.off (M:=w.heap.size+2) (by omega) 10 [.bool q]);have sS:=hide (dK (b:=w.heap.size+2) (by omega) [.bool q] 10 iV.out);have HF6:=hide (Jz.out.keep (w':=W5.setCells (w.heap.size+2) 10 [.bool q]) (fun b hb=>iI _ hb _ _ _));have uM:Hid (bU (fun b=>b≠w.heap.size+2∧b≠w.heap.size+1) (W5.setCells (w.heap.size+2) 10 [.bool q]) A3 l3):=hide ⟨jd.out.1.keep (fun b hb=>iI _ hb.1 _ _ _),jd.out.2⟩;clear L5 K6 iV Jz jd sf s8;refine wpList_nil ?_;rename_i hK;refine hK _ _ ?_;clear hK;generalize W5.setCells (w.heap.size+2) 10 [.bool q]=W6 at L6 K7 sS HF6 uM⊢;have hcnt:=DC (e.old.app e.new);have hJ0:xA e y (.slice A3 l3.length c3) q w W6 (w.heap.size+2) ((e.old.app e.new).cnt+0) ([],false) [w.heap.size+2] W6 :=
   ⟨⟨.slice none 0 0,⟨rfl,World.ownsRow_nil _ _ _ _,by simp[ob,Value.ownBlock],fun b hb=>by rw[List.mem_singleton]at hb;omega,sS.out,by have:=FK.out;simp;omega,by simp⟩,L6.out⟩,Touch.refl _ _⟩
  have HE:=hide (ML tZ HF6.out hc1 hc2 (by have:=FK.out;omega) hJ0);clear hJ0 hcnt
  go_upto_region 9 with fail
  refine wp_region_lit ?_;refine sk (v:= .func (.func 227) #[] #[.pointer (some ⟨w.heap.size+2,0,none⟩)]) ?_;refine sk ?_;refine gc HE.out ?_;rintro e5 W7 ⟨rfl,D,⟨⟨v,hr,hbx⟩,hT⟩,hT0⟩;refine⟨_,rfl,?_⟩;have hD1 :∀b∈ob v,b≠w.heap.size+1:=fun b hb e=>by
   have h1:b∈D:=by rw[hr.d];simp[hb]
   rcases hT.own b h1 with h2|h2
   ·rw[List.mem_singleton]at h2;omega
   ·have:=K7.out.lt;omega
  have hown:=hr.own;have hgb :∀b∈ob v,w.heap.size≤b:=fun b hb=>by
   have h1:b∈D:=by rw[hr.d];simp[hb]
   rcases hT.own b h1 with h2|h2
   ·rw[List.mem_singleton]at h2;omega
   ·have:=K7.out.lt;omega
  have K8:=hide (K7.out.keep (hT.block _ K7.out.lt (by simp)) hT.size);have JA:Hid (bU (fun b=>b≠w.heap.size+2∧b≠w.heap.size+1) W7 A3 l3):=hide ⟨(uM.out.1.mono (S':=fun b=>b<W6.heap.size∧b≠w.heap.size+2∧b≠w.heap.size+1) (fun b h1 h2=>⟨h1,h2⟩)).keep (fun b hb=>hT.block b hb.1 (by simpa using hb.2.1))|>.mono (fun b _ hb=>hb.2),uM.out.2⟩;have NZ:=hide hr.below;have L7:=hide hbx;have vK:=hide hr.sz;have N7:=hide hr.len;clear hr hbx hT hT0 HE L6 K7 uM sS HF6;obtain⟨VA,vc,rfl⟩:=lG hown;have HO:=hide hown;have HD1:=hide hD1;have Dv:=hide hgb;clear hown hD1 hgb;refine wpList_nil ?_;rename_i hK;refine hK _ _ ?_;clear hK
  go_upto_region 10 with fail
  refine wp_region_lit ?_;refine gl ?_ L7.out.c Tryz.underlying246 iM;refine gs (cells:=(ag e y (.slice A3 l3.length c3) (.slice VA (((e.old.app e.new).fold bn ([],false)).1.length) vc) q ((e.old.app e.new).fold bn ([],false)).2).toArray) ?_ (K8.out.th (o:=0) (by simp)) iM (jV _ _ rfl rfl);refine wpList_nil ?_;rename_i hK;refine hK _ _ ?_;clear hK;have K9:=hide (K8.out.puts 0 (ag e y (.slice A3 l3.length c3) (.slice VA (((e.old.app e.new).fold bn ([],false)).1.length) vc) q ((e.old.app e.new).fold bn ([],false)).2) (ag e y (.slice A3 l3.length c3) (.slice VA (((e.old.app e.new).fold bn ([],false)).1.length) vc) q ((e.old.app e.new).fold bn ([],false)).2) (by simp));have JB:=hide (dK (b:=w.heap.size+1) (by omega) (ag e y (.slice A3 l3.length c3) (.slice VA (((e.old.app e.new).fold bn ([],false)).1.length) vc) q ((e.old.app e.new).fold bn ([],false)).2) 0 NZ.out)
  go_wp2_with fail
  try simp only[Exit.then,Exit.inBlock]
  refine bodyPost_ret (v:= .agg (ag e y (.slice A3 l3.length c3) (.slice VA (((e.old.app e.new).fold bn ([],false)).1.length) vc) q ((e.old.app e.new).fold bn ([],false)).2).toArray) (nJ Tryz.results189 K9.out.c Tryz.underlying246 iM) rfl ?_;refine⟨⟨_,_,_,_,rfl,⟨HH.out.below JB.out,?_,?_,fun _=>Hq.out,fun _=>?_⟩,NY.out,?_⟩,JB.out⟩
  ·refine⟨A3,c3,l3,rfl,⟨(JA.out.1.keep (fun b hb=>iI _ hb.2 _ _ _)).mono (fun _ _ _=>trivial),JA.out.2⟩,hl4,fun s=>(NW.out s).trans ?_⟩;simp[Ed.names,hk,Ed.parts]
  ·have ho:=wO (w':=W7.setCells (w.heap.size+1) 0 (ag e y (.slice A3 l3.length c3) (.slice VA (((e.old.app e.new).fold bn ([],false)).1.length) vc) q ((e.old.app e.new).fold bn ([],false)).2)) HO.out (fun b hb=>iI _ (HD1.out b hb) _ _ _);have hro:=Az ho rfl;refine⟨VA,vc,_,rfl,⟨GN ho (fun _ _=>trivial),fun s hs=>by have:=vK.out s hs;omega,by have:=N7.out;omega⟩,hro.1,fun s=>?_⟩;rw[FC];simp[Ed.binds,hk,Ed.parts]
  ·rw[FD];simp[Ed.parts]
  ·intro A1 n1 c1 b o h1 h2 h3;cases h1;subst h3;exact Dv.out b (gy.2 rfl)
theorem vX{A:Option Addr}{c B:Nat}{l:List ByteArray}{s:ByteArray}{w:World}(hb:w.cell? ⟨B,0,none⟩=some (.slice A l.length c))(hl:bU Any w A l):Calls Tryz.prog 259 #[.string s,.pointer (some ⟨B,0,none⟩)] w fun e w'=>ay (s∈l) e∧w=w':=by
 have HL:=hide hl;clear hl;go_enter Tryz.func259,Tryz.ntmps259
 go_wp2_with(go_at_call 177;refine(Em HL.out.1 HL.out.2.2).mono ?_;rintro e w' ⟨⟨q,rfl,hq⟩,rfl⟩;have Hq:=hide hq;clear hq)
 go_ret;exact⟨⟨_,rfl,Hq.out⟩,rfl⟩
def yQ(l l2:List ByteArray)(k:Nat):Prop:=∀j s,j<k→l2[j]?=some s→s∉l
theorem N8{A A2:Option Addr}{c c2 B:Nat}{l l2:List ByteArray}{w:World}(hb:w.cell? ⟨B,0,none⟩=some (.slice A l.length c))(hl:bU Any w A l)(hl2:bU Any w A2 l2):
  Calls Tryz.prog 277 #[.slice A2 l2.length c2,.func (.func 259) #[] #[.pointer (some ⟨B,0,none⟩)]] w fun e w'=>gY (meets l l2) e∧w=w':=by
 have HL:=hide hl;have HL2:=hide hl2;have N9:=hl2.2.2;have HB:=hide hb;clear hl hl2 hb;go_enter Tryz.func277,Tryz.ntmps277
 go_wp2_with fail
 go_loopw [8] (fun i wr=>∃k:Nat,k≤l2.length∧i = .int .i64 k∧w=wr∧Hid (yQ l l2 k)) (fun i _=>l2.length-(intOf i).toNat)
 case atStart=>exact⟨0,Nat.zero_le _,rfl,rfl,hide (fun j s h=>absurd h (by omega))⟩
 case round =>
  obtain⟨k,hk,rfl,rfl,hall⟩:=hrel;by_cases hlt:k<l2.length
  ·obtain⟨b,o,rfl,h1⟩:=HL2.out.1.at_ (j:=k) (by simpa using hlt);simp only[List.getElem_map]at h1;have E:=hide (show l2[k]?=some l2[k]by simp[hlt]);generalize l2[k]=s at h1 E
   go_wp2_with(go_at_call 259;refine(vX HB.out HL.out).mono ?_;rintro e w' ⟨⟨q,rfl,hq⟩,rfl⟩;have Hq:=hide hq;clear hq)
   case _ =>
    rename_i hq;subst hq;go_ret;exact⟨gY.yes (by omega) ⟨s,Hq.out.mp rfl,List.mem_of_getElem? E.out⟩,rfl⟩
   case _ =>
    rename_i hq;subst hq;exact⟨⟨k+1,by omega,by go_num,trivial,hide (fun j s' hj hs=>by
     by_cases h2:j<k
     ·exact hall.out j s' h2 hs
     ·obtain rfl:j=k:=by omega
      rw[E.out]at hs;injection hs with hs;subst hs;exact fun hm=>absurd (Hq.out.mpr hm) (by decide))⟩,by simp[intOf];omega⟩
  ·have hke:k=l2.length:=by omega
   subst hke
   go_wp2_with fail
   go_ret;exact⟨gY.no (fun⟨s,h1,h2⟩=>by
    obtain⟨j,hj,rfl⟩:=List.getElem_of_mem h2;exact hall.out j _ hj (by simp) h1),rfl⟩
theorem Oa{A A2:Option Addr}{c c2 B:Nat}{l l2:List ByteArray}{w:World}(hb:w.cell? ⟨B,0,none⟩=some (.slice A l.length c))(hl:bU Any w A l)(hl2:bU Any w A2 l2):
  Calls Tryz.prog 258 #[.slice A2 l2.length c2,.func (.func 259) #[] #[.pointer (some ⟨B,0,none⟩)]] w fun e w'=>ay (meets l l2) e∧w=w':=by
 have HL:=hide hl;have HL2:=hide hl2;have HB:=hide hb;clear hl hl2 hb;go_enter Tryz.func258,Tryz.ntmps258
 go_wp2_with(go_at_call 277;refine(N8 HB.out HL.out HL2.out).mono ?_;rintro e w' ⟨⟨i,rfl,hlo,hi⟩,rfl⟩;have Hi:=hide hi;clear hi)
 go_ret;exact⟨ay.mk (by rw[←Hi.out];simp),rfl⟩
theorem yR{va vb:Value}{a b:List ByteArray}{w:World}(ha:bJ w va a)(hb:bJ w vb b):Calls Tryz.prog 228 #[va,vb] w fun e w'=>ay (meets a b) e∧Below w.heap.size w w':=by
 obtain⟨A,c,l,rfl,hl,_,hm⟩:=ha;obtain⟨A2,c2,l2,rfl,hl2,_,hm2⟩:=hb;have hB:=bg w (.cells #[.slice A l.length c] 23);have HB:=hide hB;have HL:=hide (hl.below hB);have HL2:=hide (hl2.below hB);have HM:Hid (meets l l2↔meets a b):=hide ⟨fun⟨s,h1,h2⟩=>⟨s,(hm s).1 h1,(hm2 s).1 h2⟩,fun⟨s,h1,h2⟩=>⟨s,(hm s).2 h1,(hm2 s).2 h2⟩⟩;clear hl hl2 hm hm2 hB;go_enter Tryz.func228,Tryz.ntmps228
 go_wp2_with(go_at_call 258;refine(Oa ((Bx.new w [.slice A l.length c] 23).cell 0) HL.out HL2.out).mono ?_;rintro e w' ⟨⟨q,rfl,hq⟩,rfl⟩;have Hq:=hide hq;clear hq)
 go_ret;exact⟨⟨_,rfl,Hq.out.trans HM.out⟩,HB.out⟩
end
section
open Go.RowKit Go.ChangeShapes Go.WideShapes
section
variable {H : Type} {enc : TypeId × Value → H} {w : World} {spare : Nat → Bool} {held : Bool}
theorem n8 :∀n:Int,(iq n).length=8:=fun n=>rfl
theorem FM(t:ByteArray):(jS t).length=8+t.size:=by
 have hs:t.data.toList.length=t.size:=rfl;simp only[jS,aJ,n8,hs]
theorem BN{m:Nat}{cs:List Value}{x:DataW H×List MemPlace}(h:DataW.trod enc Tryz.prog w 0 spare held m 25 cs=some x):
  ∃(xx:Hh) (p:Hk),cs=[.int .i64 p.at_,.slice xx.oA p.old.length xx.oc,.slice xx.nA p.new.length xx.nc]∧jv (fun _=>True) w xx p∧8+(jr p.old).length+(jr p.new).length≤40*Rows.uptoBulk x.1:=by
 obtain⟨xs,n,rfl,rfl,hl,hlen,hf⟩:=DataW.trod_struct Tryz.underlying25 h;rw[tC]at hl;obtain⟨c0,c1,c2,rfl⟩:=xq hl;obtain⟨y0,y1,y2,rfl⟩:=xq hlen;have f0:DataW.trod enc Tryz.prog w 0 spare held n 3 (List.take (Tryz.prog.cellsOf 3) (List.drop 0 [c0,c1,c2]))=some y0:=hf 0 _ rfl;rw[o9]at f0;have f0:DataW.trod enc Tryz.prog w 0 spare held n 3 [c0]=some y0:=f0;have f1:DataW.trod enc Tryz.prog w 0 spare held n 23 (List.take (Tryz.prog.cellsOf 23) (List.drop 1 [c0,c1,c2]))=some y1:=hf 1 _ rfl;rw[tu]at f1;have f1:DataW.trod enc Tryz.prog w 0 spare held n 23 [c1]=some y1:=f1;have f2:DataW.trod enc Tryz.prog w 0 spare held n 23 (List.take (Tryz.prog.cellsOf 23) (List.drop 2 [c0,c1,c2]))=some y2:=hf 2 _ rfl;rw[tu]at f2;have f2:DataW.trod enc Tryz.prog w 0 spare held n 23 [c2]=some y2:=f2;obtain⟨k,e0,hx0,w0⟩:=DataW.trod_int pg f0;obtain⟨A1,l1,k1,e1,g1,g2,g3,g4⟩:=oI tJ kY kX f1;obtain⟨A2,l2,k2,e2,i1,i2,i3,i4⟩:=oI tJ kY kX f2;injection e0 with e0;injection e1 with e1;injection e2 with e2;subst e0 e1 e2 hx0;refine⟨⟨A1,k1,A2,k2⟩,⟨k,l1,l2⟩,rfl,⟨AB w0,g1,i1,⟨g2,g3⟩,⟨i2,i3⟩⟩,?_⟩;simp only[List.map_cons,List.map_nil,Rows.uptoBulk,Rows.uptoBulkAll]at g4 i4⊢;omega
theorem BO{m:Nat}{cs:List Value}{x:DataW H×List MemPlace}(h:DataW.trod enc Tryz.prog w 0 spare held m 30 cs=some x):
  ∃(xx:Eh) (p:Ed),cs=[.int .u8 p.kind,.slice xx.pA p.path.length xx.pc,.int .i64 p.at_,.int .i64 p.far,.string p.frm,.string p.to,.slice xx.oA p.old.len xx.oc,.slice xx.nA p.new.len xx.nc]∧gq (fun _=>True) w xx p∧
   (CQ p).length≤40*Rows.uptoBulk x.1∧p.frm.size+p.to.size≤Rows.uptoBulk x.1:=by
 obtain⟨xs,n,rfl,rfl,hl,hlen,hf⟩:=DataW.trod_struct Tryz.underlying30 h;rw[tH]at hl;obtain⟨c0,c1,c2,c3,c4,c5,c6,c7,rfl⟩:=xu hl;obtain⟨y0,y1,y2,y3,y4,y5,y6,y7,rfl⟩:=xu hlen;have f0:DataW.trod enc Tryz.prog w 0 spare held n 26 (List.take (Tryz.prog.cellsOf 26) (List.drop 0 [c0,c1,c2,c3,c4,c5,c6,c7]))=some y0:=hf 0 _ rfl;rw[Fg]at f0;have f0:DataW.trod enc Tryz.prog w 0 spare held n 26 [c0]=some y0:=f0;have f1:DataW.trod enc Tryz.prog w 0 spare held n 27 (List.take (Tryz.prog.cellsOf 27) (List.drop 1 [c0,c1,c2,c3,c4,c5,c6,c7]))=some y1:=hf 1 _ rfl;rw[yM]at f1;have f1:DataW.trod enc Tryz.prog w 0 spare held n 27 [c1]=some y1:=f1;have f2:DataW.trod enc Tryz.prog w 0 spare held n 3 (List.take (Tryz.prog.cellsOf 3) (List.drop 2 [c0,c1,c2,c3,c4,c5,c6,c7]))=some y2:=hf 2 _ rfl;rw[o9]at f2;have f2:DataW.trod enc Tryz.prog w 0 spare held n 3 [c2]=some y2:=f2;have f3:DataW.trod enc Tryz.prog w 0 spare held n 3 (List.take (Tryz.prog.cellsOf 3) (List.drop 3 [c0,c1,c2,c3,c4,c5,c6,c7]))=some y3:=hf 3 _ rfl;rw[o9]at f3;have f3:DataW.trod enc Tryz.prog w 0 spare held n 3 [c3]=some y3:=f3;have f4:DataW.trod enc Tryz.prog w 0 spare held n 9 (List.take (Tryz.prog.cellsOf 9) (List.drop 4 [c0,c1,c2,c3,c4,c5,c6,c7]))=some y4:=hf 4 _ rfl;rw[kX]at f4;have f4:DataW.trod enc Tryz.prog w 0 spare held n 9 [c4]=some y4:=f4;have f5:DataW.trod enc Tryz.prog w 0 spare held n 9 (List.take (Tryz.prog.cellsOf 9) (List.drop 5 [c0,c1,c2,c3,c4,c5,c6,c7]))=some y5:=hf 5 _ rfl;rw[kX]at f5;have f5:DataW.trod enc Tryz.prog w 0 spare held n 9 [c5]=some y5:=f5;have f6:DataW.trod enc Tryz.prog w 0 spare held n 28 (List.take (Tryz.prog.cellsOf 28) (List.drop 6 [c0,c1,c2,c3,c4,c5,c6,c7]))=some y6:=hf 6 _ rfl;rw[Ff]at f6;have f6:DataW.trod enc Tryz.prog w 0 spare held n 28 [c6]=some y6:=f6;have f7:DataW.trod enc Tryz.prog w 0 spare held n 28 (List.take (Tryz.prog.cellsOf 28) (List.drop 7 [c0,c1,c2,c3,c4,c5,c6,c7]))=some y7:=hf 7 _ rfl;rw[Ff]at f7;have f7:DataW.trod enc Tryz.prog w 0 spare held n 28 [c7]=some y7:=f7;obtain⟨k,e0,hx0,w0⟩:=DataW.trod_int Fq f0;obtain⟨A1,l1,k1,e1,g1,g2,g3,g4⟩:=uY yN pg o9 f1;obtain⟨at1,e2,hx2,w2⟩:=DataW.trod_int pg f2;obtain⟨far,e3,hx3,w3⟩:=DataW.trod_int pg f3;obtain⟨frm,e4,hx4,w4⟩:=DataW.trod_string kY f4;obtain⟨aX,e5,hx5,w5⟩:=DataW.trod_string kY f5;obtain⟨A6,o6,k6,e6,i1,i2,i3,i4⟩:=xw _ f6;obtain⟨A7,o7,k7,e7,j1,j2,j3,j4⟩:=xw _ f7;obtain⟨k',rfl,hk⟩:=wf_u8 w0;injection e0 with e0;injection e1 with e1;injection e2 with e2;injection e3 with e3;injection e4 with e4;injection e5 with e5;injection e6 with e6;injection e7 with e7;subst e0 e1 e2 e3 e4 e5 e6 e7 hx0 hx2 hx3 hx4 hx5;have h1:=wR (H:=H) (.lit (.int .u8 (k':Int)));have h2:=wR (H:=H) (.lit (.int .i64 at1));have h3:=wR (H:=H) (.lit (.int .i64 far));refine⟨⟨A1,k1,A6,k6,A7,k7⟩,⟨k',l1,at1,far,frm,aX,o6,o7⟩,rfl,⟨hk,g1,AB w2,AB w3,mQ w4,mQ w5,i1,j1,⟨g2,g3⟩,⟨i2,i3⟩,⟨j2,j3⟩⟩,?_,?_⟩
 ·simp only[CQ,List.length_cons,aJ,n8,FM];simp only[List.map_cons,List.map_nil,Rows.uptoBulk,Rows.uptoBulkAll,Fa]at g4 i4 j4 h1 h2 h3⊢;omega
 ·simp only[List.map_cons,List.map_nil,Rows.uptoBulk,Rows.uptoBulkAll,Fa];omega
end
end
end Go.Proofs.YtialngdffhmobaaGreatDoor
