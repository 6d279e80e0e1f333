/- Part 29 of what mgTop rests on. -/
import Derived.Lib.AppendZerosOnto
import Derived.LoopTactic
import Derived.Test.YtialngdffhmobaaGreatDoorU27
import Derived.Test.YtialngdffhmobaaGreatDoorU16
import Derived.Test.YtialngdffhmobaaGreatDoorU23
import Derived.Test.YtialngdffhmobaaGreatDoorU00
set_option linter.unusedVariables false
set_option linter.unusedSimpArgs false
set_option maxHeartbeats 16000000
set_option maxRecDepth 1000000
namespace Go.Proofs.YtialngdffhmobaaGreatDoor
section
open Go.RowKit
theorem keyKd:Tryz.prog.underlying 26=some (.int .u8):=Tryz.underlying26
abbrev fn2(f:FuncId)(b d:Nat):Value:= .func (.func f) #[] #[.pointer (some ⟨b,0,none⟩),.pointer (some ⟨d,0,none⟩)]
abbrev pastTab(N:Nat):List (Int×Value):=[(2,fn2 231 (N+1) N),(3,fn2 233 (N+1) N),(4,fn2 235 (N+1) N),(5,fn2 237 N (N+1))]
def PastSel(e:Ed)(x:List Int)(A:Option Addr)(c:Nat)(y:Eh)(N:Nat):Prop :=
 (∃k' f cs,(pastTab N).find? (fun p=>(e.kind:Int) == p.1)=some (k',.func (.func f) #[] cs)∧Enters Tryz.prog f∧∀W,PastBx W (N+1) N A c x y e→Calls Tryz.prog f cs W fun r w'=>PastPost e x W r w')∨
 ((pastTab N).find? (fun p=>(e.kind:Int) == p.1)=none∧pastOf e x=some x)
theorem past_sel(e:Ed)(x:List Int)(A:Option Addr)(c:Nat)(y:Eh)(N:Nat):PastSel e x A c y N:=by
 by_cases h2:e.kind=2
 ·exact .inl ⟨2,_,_,by simp[h2],enters_of Tryz.func231 (by kernel_rfl) rfl,fun W hW=>past2 hW h2⟩
 ·by_cases h3:e.kind=3
  ·exact .inl ⟨3,_,_,by simp[h3],enters_of Tryz.func233 (by kernel_rfl) rfl,fun W hW=>past3 hW h3⟩
  ·by_cases h4:e.kind=4
   ·exact .inl ⟨4,_,_,by simp[h4],enters_of Tryz.func235 (by kernel_rfl) rfl,fun W hW=>past4 hW h4⟩
   ·by_cases h5:e.kind=5
    ·exact .inl ⟨5,_,_,by simp[h5],enters_of Tryz.func237 (by kernel_rfl) rfl,fun W hW=>past5 hW h5⟩
    ·refine .inr ⟨?_,by unfold pastOf;rw[if_neg h2,if_neg h3,if_neg h4,if_neg h5]⟩;have q2:((e.kind:Int) == 2)=false:=by simp;omega
     have q3:((e.kind:Int) == 3)=false:=by simp;omega
     have q4:((e.kind:Int) == 4)=false:=by simp;omega
     have q5:((e.kind:Int) == 5)=false:=by simp;omega
     simp only[pastTab,List.find?,q2,q3,q4,q5]
theorem swapPast_any{w:World}{A:Option Addr}{c:Nat}{x:List Int}{y:Eh}{e:Ed}(h:PastIn w A c x y e):
  Calls Tryz.prog 193 #[.agg (edVs e y).toArray,.slice A x.length c] w fun r w'=>PastPost e x w r w':=by
 have hsel:=hide (past_sel e x A c y w.heap.size);obtain⟨W0,hW0⟩:∃W0,W0=(w.alloc (.cells (edVs e y).toArray 30)).alloc (.cells #[.slice A x.length c] 27):=⟨_,rfl⟩;obtain⟨hN0,hR0⟩:=bx_two w (edVs e y) [.slice A x.length c] 30 27;have hB0:Below w.heap.size w W0:=by rw[hW0];exact below2 _ _
 have hs0:W0.heap.size=w.heap.size+2:=by rw[hW0];simp
 have hN0':Bx W0 w.heap.size (edVs e y):=by rw[hW0];exact hN0
 have hR0':Bx W0 (w.heap.size+1) [.slice A x.length c]:=by rw[hW0];exact hR0
 have HW0:=hide hW0;have HN0:=hide hN0';have HR0:=hide hR0';have HB0:=hide hB0;have Hs0:=hide hs0;have HH:=hide h;clear hW0 hN0 hR0 hN0' hR0' hB0 hs0 h;have hmf:=hmf;have hmm:=fun W:World=>run_makeMap (P:=Tryz.prog) 282 W;go_enter Tryz.func193,Tryz.ntmps193
 go_upto_region 1 with fail
 change Code.wp _ _ _ _ ((w.alloc (.cells (edVs e y).toArray 30)).alloc (.cells #[.slice A x.length c] 27));rw[←HW0.out];clear HW0
 go_upto_region 2 with fail
 refine wp_region_lit ?_;refine gw (w':=W0.alloc (.map #[] 0)) (v:= .map (some W0.heap.size)) ?_;have T0:Tab ItV .u8 (W0.alloc (.map #[] 0)) W0.heap.size []:=Tab.new W0;have HN1:=hide (HN0.out.alloc (.map #[] 0));have HR1:=hide (HR0.out.alloc (.map #[] 0));have HB1:=hide (HB0.out.alloc HB0.out.size (.map #[] 0));clear HN0 HR0 HB0;have hne:=Hs0.out;clear Hs0;generalize W0.alloc (.map #[] 0)=V0 at T0 HN1 HR1 HB1⊢;generalize W0.heap.size=r at T0 hne⊢;have Hne:=hide hne;clear hne;refine sk ?_;refine gi (k:=2) (v:=fn2 231 (w.heap.size+1) w.heap.size) T0 ?_ Tryz.underlying282 keyKd;intro V1 T1 g1;refine sk ?_;refine gi (k:=3) (v:=fn2 233 (w.heap.size+1) w.heap.size) T1 ?_ Tryz.underlying282 keyKd;intro V2 T2 g2;refine sk ?_;refine gi (k:=4) (v:=fn2 235 (w.heap.size+1) w.heap.size) T2 ?_ Tryz.underlying282 keyKd;intro V3 T3 g3;refine sk ?_;refine gi (k:=5) (v:=fn2 237 w.heap.size (w.heap.size+1)) T3 ?_ Tryz.underlying282 keyKd;intro V4 T4 g4;have HN4:=hide ((((HN1.out.grown g1 (by have:=Hne.out;omega)).grown g2 (by have:=Hne.out;omega)).grown g3 (by have:=Hne.out;omega)).grown g4 (by have:=Hne.out;omega));have HR4:=hide ((((HR1.out.grown g1 (by have:=Hne.out;omega)).grown g2 (by have:=Hne.out;omega)).grown g3 (by have:=Hne.out;omega)).grown g4 (by have:=Hne.out;omega));have HB4:Hid (Below w.heap.size w V4):=hide ((((HB1.out.grown g1 HB1.out.size (by intro k hk;cases hk;have:=Hne.out;omega)).grown g2 (HB1.out.grown g1 HB1.out.size (by intro k hk;cases hk;have:=Hne.out;omega)).size (by intro k hk;cases hk;have:=Hne.out;omega)).grown g3 (Nat.le_trans (HB1.out.grown g1 HB1.out.size (by intro k hk;cases hk;have:=Hne.out;omega)).size g2.size) (by intro k hk;cases hk;have:=Hne.out;omega)).grown g4 (Nat.le_trans (Nat.le_trans (HB1.out.grown g1 HB1.out.size (by intro k hk;cases hk;have:=Hne.out;omega)).size g2.size) g3.size) (by intro k hk;cases hk;have:=Hne.out;omega));clear T0 T1 T2 T3 g1 g2 g3 g4 HN1 HR1 HB1;have k0:=HN4.out.cell 0;refine sk ?_;refine sk ?_;refine sk ?_;have hz:(zeroValue 280).run Tryz.prog V4 = .ok .nilFunc V4:=by go_simp
 have HP4:Hid (PastBx V4 (w.heap.size+1) w.heap.size A c x y e):=hide ⟨HR4.out,HN4.out,HH.out.below HB4.out⟩;have T5:Tab ItV .u8 V4 r (pastTab w.heap.size):=T4;clear T4 HN4 HR4 k0;rcases hsel.out with⟨k',f,cs,hf,hen0,hcall⟩|⟨hf,hpo⟩
 ·refine sk (v:= .tuple #[.func (.func f) #[] cs,.bool true]) ?_ (hy:=exec_hit T5 Tryz.underlying282 keyKd hz hf rfl rfl rfl);refine sk ?_;refine sk (v:= .func (.func f) #[] cs) ?_;refine sk (v:= .bool true) ?_;refine sk ?_;refine sk ?_;refine wpList_nil ?_;rename_i hK;refine hK _ _ ?_;clear hK hf hz T5;have hen :∀(args:Array Value) (W:World),(callFunc f args).run Tryz.prog W = .ok (.enter f args) W:=hen0
  go_upto_region 5 with fail
  refine wp_region_lit ?_;refine sk ?_;refine gc (hcall V4 HP4.out) ?_;intro r1 w1 hpost;obtain⟨⟨A1,n1,c1,ok,rfl,hi⟩,hB⟩:=hpost.up HB4.out;refine⟨_,rfl,?_⟩;have HI:=hide hi;have HB:=hide hB;clear hi hB hpost hen;refine sk (v:= .slice A1 n1 c1) ?_;refine sk (v:= .bool ok) ?_;refine sk ?_;refine sk ?_;refine wpList_nil ?_;rename_i hK;refine hK _ _ ?_;clear hK
  go_wp2_with fail
  go_ret2
  exact⟨⟨_,_,_,_,rfl,HI.out⟩,HB.out⟩
 ·refine sk (v:= .tuple #[.nilFunc,.bool false]) ?_ (hy:=exec_miss T5 Tryz.underlying282 keyKd hz hf rfl rfl rfl);refine sk ?_;refine sk (v:= .nilFunc) ?_;refine sk (v:= .bool false) ?_;refine sk ?_;refine sk ?_;refine wpList_nil ?_;rename_i hK;refine hK _ _ ?_;clear hK hf hz T5
  go_upto_region 5 with fail
  refine wp_region_lit ?_;refine sk ?_;refine gc (past1 HP4.out hpo) ?_;intro r1 w1 hpost;obtain⟨⟨A1,n1,c1,ok,rfl,hi⟩,hB⟩:=PastPost.up hpost HB4.out;refine⟨_,rfl,?_⟩;have HI:=hide hi;have HB:=hide hB;clear hi hB hpost;refine sk (v:= .slice A1 n1 c1) ?_;refine sk (v:= .bool ok) ?_;refine sk ?_;refine sk ?_;refine wpList_nil ?_;rename_i hK;refine hK _ _ ?_;clear hK
  go_wp2_with fail
  go_ret2
  exact⟨⟨_,_,_,_,rfl,HI.out⟩,HB.out⟩
theorem growNodes{n:Nat}{w:World}(hn:n≤549755813888):
  Calls Tryz.prog 251 #[.slice none 0 0,.int .i64 n] w fun e w'=>(∃v,e = .returned v∧w'.ownsRow 0 152 4 v 0 []∧(∀g,v.ownBlock=some g→w.heap.size≤g))∧Below w.heap.size w w':=by
 obtain⟨i0,hi,hz0,hz1,hz2⟩:=info_parts InfoNode;have hneg:decide ((n:Int)<0)=false:=by simp
 by_cases h0:n=0
 ·subst h0;go_enter Tryz.func251,Tryz.ntmps251
  go_wp2_with fail
  go_ret;exact⟨⟨_,rfl,World.ownsRow_nil _ _ _ _,by simp[Value.ownBlock]⟩,Below.refl _ _⟩
 ·have hpos:decide ((0:Int)<(n:Int))=true:=by simp;omega
  have hw:=i64_wrap (n:=(n:Int)) ⟨by omega,by omega⟩;have hwr:wrap64 (n:Int)=n:=by unfold wrap64;omega
  have hold:(Builtin.firstCells i0.size 0 (.slice none 0 0)).run Tryz.prog w.drew = .ok ([]:List Value).toArray w.drew:=run_firstCells_none w.drew i0.size 0 0 0;have hrun:=Lib.run_append_grow_zeros (P:=Tryz.prog) w 28 3 28 152 i0 (.agg #[.int .u8 0,.string ByteArray.empty,.int .i64 0,.slice none 0 0]) .i64 .i64 Tryz.underlying28 Tryz.underlying3 hi hz0 none 0 0 [] hold n (by omega) (by omega) (by omega) (by omega) (by rw[hz2];omega) (by rw[Nat.zero_add];exact growslice_fits (by omega) (by rw[hz2];omega));rw[Nat.zero_add]at hrun;have hge:=grownCap_ge w n 0 152;have hle:=grownCap_le_maxLen w n 0 152 (by unfold maxLen;omega);have hG:Hid (n≤grownCap w n 0 152∧grownCap w n 0 152≤maxLen):=hide ⟨hge,hle⟩;have hGi:(grownCap w n 0 152:Int)≤9223372036854775807:=by have:=hle;unfold maxLen at this;omega
  clear hge hle;generalize hGG:grownCap w n 0 152=G at hrun hG hGi;clear hGG hold;have Hrun:=hide hrun;have Hi:=hide hi;clear hrun hi;go_enter Tryz.func251,Tryz.ntmps251
  go_upto_region 5 with fail
  refine wp_region_lit ?_;refine sk ?_;refine sk ?_;refine sk ?_;refine sk ?_;refine sk ?_;refine gw (v:= .slice (some ⟨w.heap.size,0,none⟩) n G) ?_ (hy:=by
   have hr:=Hrun.out;simp[execOp,resolve,invoke,builtin,Result.andThen,Act.eval,hr];rfl)
  refine sk ?_;refine sk ?_;refine sk (v:= .slice (some ⟨w.heap.size,0,none⟩) 0 G) ?_;refine sk ?_;refine wpList_nil ?_
  go_wp2_with fail
  go_ret;refine⟨⟨_,rfl,⟨rfl,.inr ⟨w.heap.size,G,_,rfl,Nat.zero_le _,heap_alloc_new w.drew _,Nat.zero_le _,hG.out.2,?_,by simp⟩⟩,fun g hg=>by injection hg with hg;exact Nat.le_of_eq hg⟩,(Below.refl _ _).drew.alloc (by simp) _⟩;have h1:=hG.out.1;simp only[Array.size_append,List.size_toArray,size_zeroCells,List.length_nil,Nat.zero_add];show n*4+(G-n)*4=G*4;omega
structure TwoF(S:Nat→Prop)(w:World)(g:Nat)(A B:Option Addr)(a b:Nat)(f1 f2:Fo):Prop where
 c0:w.cell? ⟨g,0,none⟩=some (.slice A f1.len a)
 c1:w.cell? ⟨g,1,none⟩=some (.slice B f2.len b)
 fa:FoIn S w A f1
 fb:FoIn S w B f2
 la:(foB f1).length≤137438953472
 lb:(foB f2).length≤137438953472
theorem TwoF.below{S:Nat→Prop}{w w':World}{g:Nat}{A B:Option Addr}{a b:Nat}{f1 f2:Fo}(h:TwoF S w g A B a b f1 f2)(hB:Below w.heap.size w w'):TwoF S w' g A B a b f1 f2 :=
 ⟨(hB.cell (p:=⟨g,0,none⟩) (block_lt_of_cell h.c0)).trans h.c0,(hB.cell (p:=⟨g,1,none⟩) (block_lt_of_cell h.c1)).trans h.c1,h.fa.below hB,h.fb.below hB,h.la,h.lb⟩
theorem append_nothing{w:World}{v:Value}{n c:Nat}{xs:List Value}(hown:w.ownsRow 0 152 4 v n xs):(Builtin.append_ #[28,28] 28 #[v,.slice none 0 c]).run Tryz.prog w = .ok v w:=by
 obtain⟨i0,hi,hz0,hz1,hz2⟩:=info_parts InfoNode;have ht:=Tryz.underlying28;rcases hown.2 with⟨rfl,rfl⟩|⟨g,cap,cur,rfl,hbg,hg,hnc,hcm,hcs,htake⟩
 ·simp[Builtin.append_,run_underlying ht,sizeOf,typeInfo,hi,Builtin.lenOf,Builtin.firstCells]
 ·simp[Builtin.append_,run_underlying ht,sizeOf,typeInfo,hi,Builtin.lenOf,Builtin.firstCells,hnc,storeCells]
theorem pushNodes{w:World}{v:Value}{n k:Nat}{xs ys:List Value}{A:Option Addr}{c:Nat}(hown:w.ownsRow 0 152 4 v n xs)(hr:Rd Any w A ys)(hl:ys.length=k*4)(h1 :∀u∈ys,u.oneCell'=true)(hn:n+k≤549755813888):
  ∃v' w',(Builtin.append_ #[28,28] 28 #[v,.slice A k c]).run Tryz.prog w = .ok v' w'∧w'.ownsRow 0 152 4 v' (n+k) (xs++ys)∧w.grownBy w' v.ownBlock∧(v'.ownBlock=v.ownBlock∨v'.ownBlock=some w.heap.size):=by
 obtain⟨i0,hi,hz0,hz1,hz2⟩:=info_parts InfoNode;rcases hr with rfl|⟨b,o,rfl,_,hc⟩
 ·have hk:k=0:=by simp at hl;omega
  subst hk;cases A with
  | some ad =>
   obtain⟨v',w',hr,h2,h3,h4⟩:=run_append_own (P:=Tryz.prog) w 0 28 28 152 i0 (.agg #[.int .u8 0,.string ByteArray.empty,.int .i64 0,.slice none 0 0]) 4 56 Tryz.underlying28 hi hz0 hz1 hz2 rfl (by decide) v n xs hown ad 0 c [] rfl (by simp) h1 (by unfold maxLen;omega) (by omega) (Nat.zero_le _);have h5:=append_where w 28 28 152 i0 (.agg #[.int .u8 0,.string ByteArray.empty,.int .i64 0,.slice none 0 0]) 4 56 Tryz.underlying28 hi hz0 hz1 hz2 v n xs hown ad 0 c [] rfl (by simp) h1 (by unfold maxLen;omega) (by omega) v' w' hr;exact⟨v',w',hr,h2,h3,h5⟩
  | none=>exact⟨v,w,append_nothing hown,by simpa using hown,World.grownBy.refl _ _,.inl rfl⟩
 ·obtain⟨v',w',hr,h2,h3,h4⟩:=run_append_own (P:=Tryz.prog) w 0 28 28 152 i0 (.agg #[.int .u8 0,.string ByteArray.empty,.int .i64 0,.slice none 0 0]) 4 56 Tryz.underlying28 hi hz0 hz1 hz2 rfl (by decide) v n xs hown ⟨b,o,none⟩ k c ys hl (fun j u hu=>by rw[Addr.add_lit];exact hc j u hu) h1 (by unfold maxLen;omega) (by omega) (Nat.zero_le _);have h5:=append_where w 28 28 152 i0 (.agg #[.int .u8 0,.string ByteArray.empty,.int .i64 0,.slice none 0 0]) 4 56 Tryz.underlying28 hi hz0 hz1 hz2 v n xs hown ⟨b,o,none⟩ k c ys hl (fun j u hu=>by rw[Addr.add_lit];exact hc j u hu) h1 (by unfold maxLen;omega) (by omega) v' w' hr;exact⟨v',w',hr,h2,h3,h5⟩
theorem FoCells.app{S:Nat→Prop}{w:World}:∀{f g:Fo} {vs us:List Value},FoCells S w vs f→FoCells S w us g→FoCells S w (vs++us) (f.app g)
 | .nil,g,vs,us,h,h2=>by
  have:vs=[]:=h;subst this;exact h2
 | .cons k t n ks r,g,vs,us,⟨KA,c,vs',e,g1,g2,g3,g4,g5,g6,g7⟩,h2=>by
  subst e;exact⟨KA,c,vs'++us,rfl,g1,g2,g3,g4,g5,g6,FoCells.app g7 h2⟩
theorem Fo.len_app2 :∀(f g:Fo),(f.app g).len=f.len+g.len
 | .nil,g=>by simp[Fo.app,Fo.len]
 | .cons k t n ks r,g=>by simp only[Fo.app,Fo.len,Fo.len_app2 r g];omega
def sumAt(f1 f2:Fo)(j:Nat):Nat:=if j=0 then 0 else if j=1 then f1.len else f1.len+f2.len
def cellsAt(vs us:List Value)(j:Nat):List Value:=if j=0 then[]else if j=1 then vs else vs++us
structure CatJ(w:World)(vs us:List Value)(f1 f2:Fo)(j:Nat)(s:Value)(wr:World):Prop where
 own:wr.ownsRow 0 152 4 s (sumAt f1 f2 j) (cellsAt vs us j)
 ge :∀g,s.ownBlock=some g→w.heap.size≤g
 below:Below w.heap.size w wr
theorem CatJ.zero{w W:World}{v:Value}{vs us:List Value}{f1 f2:Fo}(hB:Below w.heap.size w W)(h:W.ownsRow 0 152 4 v 0 [])(hge :∀g,v.ownBlock=some g→w.heap.size≤g):CatJ w vs us f1 f2 0 v W:=⟨h,hge,hB⟩
theorem CatJ.push{w wr wq:World}{s v:Value}{vs us:List Value}{f1 f2:Fo}{j:Nat}(h:CatJ w vs us f1 f2 j s wr)(h2:wq.ownsRow 0 152 4 v (sumAt f1 f2 (j+1)) (cellsAt vs us (j+1)))(hg:wr.grownBy wq s.ownBlock)(hv:v.ownBlock=s.ownBlock∨v.ownBlock=some wr.heap.size):CatJ w vs us f1 f2 (j+1) v wq:=by
 refine⟨h2,fun g e=>?_,⟨hg.os.trans h.below.os,hg.tape.trans h.below.tape,hg.output.trans h.below.output,Nat.le_trans h.below.size hg.size,fun b hb=>?_⟩⟩
 ·rcases hv with hv|hv
  ·exact h.ge g (hv▸e)
  ·rw[hv]at e;injection e with e;have:=h.below.size;omega
 ·exact(hg.block b (Nat.lt_of_lt_of_le hb h.below.size) (fun e=>by have:=h.ge b e.symm;omega)).trans (h.below.block b hb)
theorem concatNodes{S:Nat→Prop}{w:World}{g a b c:Nat}{A B:Option Addr}{f1 f2:Fo}(h:TwoF S w g A B a b f1 f2)(hS :∀b,w.heap.size≤b→S b):
  Calls Tryz.prog 222 #[.slice (some ⟨g,0,none⟩) 2 c] w fun e w'=>(∃A' c',e = .returned (.slice A' (f1.app f2).len c')∧FoIn S w' A' (f1.app f2)∧(f1.app f2).len≤c'∧c'≤9223372036854775807)∧Below w.heap.size w w':=by
 obtain⟨vs,v1,v2,v3,v4⟩:=h.fa.row;obtain⟨us,u1,u2,u3,u4⟩:=h.fb.row;have l1:f1.len≤137438953472:=by have:=foB_len f1;have:=h.la;omega
 have l2:f2.len≤137438953472:=by have:=foB_len f2;have:=h.lb;omega
 have hsum :∀j,j≤2→sumAt f1 f2 j≤274877906944:=fun j _=>by unfold sumAt;split;omega;split;omega;omega
 have Hsum:=hide hsum;have HT:=hide h;have HV:=hide (And.intro v1 (And.intro v2 (And.intro v3 v4)));have HU:=hide (And.intro u1 (And.intro u2 (And.intro u3 u4)));clear h v1 v2 v3 v4 u1 u2 u3 u4 hsum;go_enter Tryz.func222,Tryz.ntmps222
 go_wp2_with fail
 go_loopw [11,3] (fun i s wr=>∃j:Nat,i = .int .i64 j∧j≤2∧s = .int .i64 (sumAt f1 f2 j:Nat)∧w=wr) (fun i _ _=>2-(intOf i).toNat)
 case atStart=>exact⟨0,rfl,by omega,rfl,rfl⟩
 case round =>
  obtain⟨j,rfl,hj,rfl,rfl⟩:=hrel;by_cases h0:j=0
  ·subst h0;have c0:=HT.out.c0;have hw:=i64_wrap (n:=(0:Int)+(f1.len:Int)) ⟨by omega,by omega⟩;rw[Int.zero_add]at hw;have hng:decide ((f1.len:Int)<0)=false:=by simp
   simp only[sumAt,if_pos]
   go_wp2_with fail
   exact⟨⟨1,rfl,by omega,by simp[sumAt]⟩,by simp[intOf]⟩
  ·by_cases h1:j=1
   ·subst h1;have c1:=HT.out.c1;have hw:=i64_wrap (n:=(f1.len:Int)+(f2.len:Int)) ⟨by omega,by omega⟩;have hng:decide ((f1.len:Int)+(f2.len:Int)<0)=false:=by simp;omega
    simp only[sumAt,Nat.one_ne_zero,if_pos,if_false]
    go_wp2_with fail
    exact⟨⟨2,rfl,by omega,by simp[sumAt]⟩,by simp[intOf]⟩
   ·have h2:j=2:=by omega
    subst h2;simp only[sumAt,show(2:Nat)≠0 by omega,show(2:Nat)≠1 by omega,if_false];obtain⟨sz,hsz⟩:∃sz:Nat,sz=f1.len+f2.len:=⟨_,rfl⟩;rw[←hsz];have Hsz:=hide hsz;have hszl:sz≤274877906944:=by omega
    clear hsz Hsum
    go_upto_region 9 with fail
    refine wp_region_lit ?_;refine sk ?_;refine gc (growNodes (n:=sz) (by omega)) ?_;rintro e1 W1 ⟨⟨v,rfl,hown,hge⟩,hB⟩;refine⟨_,rfl,?_⟩;refine sk (v:=v) ?_;refine wpList_nil ?_;rename_i hK;refine hK _ _ ?_;clear hK;have HJ:=hide (CatJ.zero hB hown hge (vs:=vs) (us:=us) (f1:=f1) (f2:=f2));clear hown hge hB
    go_upto_region 10 with fail
    go_wp2_with fail
    go_loopw [27,6] (fun i s wr=>∃j:Nat,i = .int .i64 j∧j≤2∧Hid (CatJ w vs us f1 f2 j s wr)) (fun i _ _=>2-(intOf i).toNat)
    case atStart=>exact⟨0,rfl,by omega,HJ⟩
    case round =>
     obtain⟨j,rfl,hj,H1⟩:=hrel;by_cases h0:j=0
     ·subst h0;have HT2:=hide (HT.out.below H1.out.below);have c0:=HT2.out.c0;have cc:=HV.out;obtain⟨v',W2,hrun,hp,hq,hr⟩:=pushNodes (c:=a) H1.out.own ((cc.2.1.below H1.out.below).mono fun _ _ _=>trivial) cc.2.2.1 cc.2.2.2 (by simp[sumAt];omega);have HN:=hide (H1.out.push (j:=0) (v:=v') (by simpa[sumAt,cellsAt]using hp) hq hr);clear hp hq hr cc
      go_upto_region 13 with fail
      refine wp_region_lit ?_;refine sk ?_;refine sk ?_;refine gw (hy:=exec_append hrun rfl rfl rfl) ?_;refine sk (v:=v') ?_;refine wpList_nil ?_
      go_wp2_with fail
      exact⟨⟨1,rfl,by omega,HN⟩,by simp[intOf]⟩
     ·by_cases h1:j=1
      ·subst h1;have HT2:=hide (HT.out.below H1.out.below);have c0:=HT2.out.c1;have cc:=HU.out;obtain⟨v',W2,hrun,hp,hq,hr⟩:=pushNodes (c:=b) H1.out.own ((cc.2.1.below H1.out.below).mono fun _ _ _=>trivial) cc.2.2.1 cc.2.2.2 (by simp[sumAt];omega);have HN:=hide (H1.out.push (j:=1) (v:=v') (by simpa[sumAt,cellsAt]using hp) hq hr);clear hp hq hr cc
       go_upto_region 13 with fail
       refine wp_region_lit ?_;refine sk ?_;refine sk ?_;refine gw (hy:=exec_append hrun rfl rfl rfl) ?_;refine sk (v:=v') ?_;refine wpList_nil ?_
       go_wp2_with fail
       exact⟨⟨2,rfl,by omega,HN⟩,by simp[intOf]⟩
      ·have h2:j=2:=by omega
       subst h2;obtain⟨A',c',rfl⟩:=own_shape H1.out.own
       go_wp2_with fail
       go_ret;have hown:=H1.out.own;have hr:=own_room hown rfl;have hge:=H1.out.ge;simp only[sumAt,cellsAt,show(2:Nat)≠0 by omega,show(2:Nat)≠1 by omega,if_false,←Fo.len_app2]at hown hr hge⊢;have hcc:FoCells S wr (vs++us) (f1.app f2):=(FoCells.app HV.out.1 HU.out.1).keep (fun b hb _=>H1.out.below.block b hb) (fun _ _ h=>h);exact⟨⟨A',c',rfl,own_fo2 hown (fun g hg=>hS g (hge g (mem_ob.1 hg))) hcc,hr.1,hr.2⟩,H1.out.below⟩
end
end Go.Proofs.YtialngdffhmobaaGreatDoor
