/- Part 21 of what commuteFiles_cardUpto rests on. -/
import Derived.Laws.IdiomCopy
import Derived.Deep.RegionHeld
import Derived.Lib.AppendZerosOnto
import Derived.LoopTactic
import Derived.Test.YtialngdffhmobaaGreatDoorV04
import Derived.Test.YtialngdffhmobaaGreatDoorV12
import Derived.Test.YtialngdffhmobaaGreatDoorV05
import Derived.Test.YtialngdffhmobaaGreatDoorV17
import Derived.Test.YtialngdffhmobaaGreatDoorV19
import Derived.Test.YtialngdffhmobaaGreatDoorV00
set_option linter.unusedVariables false
set_option linter.unusedSimpArgs false
set_option maxHeartbeats 16000000
set_option maxRecDepth 1000000
namespace Go.Proofs.YtialngdffhmobaaGreatDoor
section
open Go.RowKit
section
variable {S : Nat → Prop} {N : Nat} {w w' w'' : World} {A : Option Addr}
end
end
section
open Go.RowKit
theorem qy{n:Nat}{w:World}(hn:n≤549755813888):
  Calls Tryz.prog 251 #[.slice none 0 0,.int .i64 n] w fun e w'=>(∃v,e = .returned v∧w'.ownsRow 0 152 4 v 0 []∧(∀g,v.ownBlock=some g→w.heap.size≤g))∧Below w.heap.size w w':=by
 obtain⟨i0,hi,hz0,hz1,hz2⟩:=info_parts Aq;have hneg:decide ((n:Int)<0)=false:=by simp
 by_cases h0:n=0
 ·subst h0;go_enter Tryz.func251,Tryz.ntmps251
  go_wp2_with fail
  go_ret;exact⟨⟨_,rfl,World.ownsRow_nil _ _ _ _,by simp[Value.ownBlock]⟩,Below.refl _ _⟩
 ·have hpos:decide ((0:Int)<(n:Int))=true:=by simp;omega
  have hw:=qR (n:=(n:Int)) ⟨by omega,by omega⟩;have hwr:wrap64 (n:Int)=n:=by unfold wrap64;omega
  have hold:(Builtin.firstCells i0.size 0 (.slice none 0 0)).run Tryz.prog w.drew = .ok ([]:List Value).toArray w.drew:=run_firstCells_none w.drew i0.size 0 0 0;have hrun:=Lib.run_append_grow_zeros (P:=Tryz.prog) w 28 3 28 152 i0 (.agg #[.int .u8 0,.string ByteArray.empty,.int .i64 0,.slice none 0 0]) .i64 .i64 Tryz.underlying28 Tryz.underlying3 hi hz0 none 0 0 [] hold n (by omega) (by omega) (by omega) (by omega) (by rw[hz2];omega) (by rw[Nat.zero_add];exact growslice_fits (by omega) (by rw[hz2];omega));rw[Nat.zero_add]at hrun;have hge:=grownCap_ge w n 0 152;have hle:=grownCap_le_maxLen w n 0 152 (by unfold maxLen;omega);have hG:Hid (n≤grownCap w n 0 152∧grownCap w n 0 152≤maxLen):=hide ⟨hge,hle⟩;have hGi:(grownCap w n 0 152:Int)≤9223372036854775807:=by have:=hle;unfold maxLen at this;omega
  clear hge hle;generalize MM:grownCap w n 0 152=G at hrun hG hGi;clear MM hold;have ER:=hide hrun;have Hi:=hide hi;clear hrun hi;go_enter Tryz.func251,Tryz.ntmps251
  go_upto_region 5 with fail
  refine wp_region_lit ?_;refine sk ?_;refine sk ?_;refine sk ?_;refine sk ?_;refine sk ?_;refine gw (v:= .slice (some ⟨w.heap.size,0,none⟩) n G) ?_ (hy:=by
   have hr:=ER.out;simp[execOp,resolve,invoke,builtin,Result.andThen,Act.eval,hr];rfl)
  refine sk ?_;refine sk ?_;refine sk (v:= .slice (some ⟨w.heap.size,0,none⟩) 0 G) ?_;refine sk ?_;refine wpList_nil ?_
  go_wp2_with fail
  go_ret;refine⟨⟨_,rfl,⟨rfl,.inr ⟨w.heap.size,G,_,rfl,Nat.zero_le _,heap_alloc_new w.drew _,Nat.zero_le _,hG.out.2,?_,by simp⟩⟩,fun g hg=>by injection hg with hg;exact Nat.le_of_eq hg⟩,(Below.refl _ _).drew.alloc (by simp) _⟩;have h1:=hG.out.1;simp only[Array.size_append,List.size_toArray,size_zeroCells,List.length_nil,Nat.zero_add];show n*4+(G-n)*4=G*4;omega
structure sJ(S:Nat→Prop)(w:World)(g:Nat)(A B:Option Addr)(a b:Nat)(f1 f2:Fo):Prop where
 c0:w.cell? ⟨g,0,none⟩=some (.slice A f1.len a)
 c1:w.cell? ⟨g,1,none⟩=some (.slice B f2.len b)
 fa:bu S w A f1
 fb:bu S w B f2
 la:(fC f1).length≤137438953472
 lb:(fC f2).length≤137438953472
theorem sJ.below{S:Nat→Prop}{w w':World}{g:Nat}{A B:Option Addr}{a b:Nat}{f1 f2:Fo}(h:sJ S w g A B a b f1 f2)(hB:Below w.heap.size w w'):sJ S w' g A B a b f1 f2 :=
 ⟨(hB.cell (p:=⟨g,0,none⟩) (block_lt_of_cell h.c0)).trans h.c0,(hB.cell (p:=⟨g,1,none⟩) (block_lt_of_cell h.c1)).trans h.c1,h.fa.below hB,h.fb.below hB,h.la,h.lb⟩
theorem MN{w:World}{v:Value}{n c:Nat}{xs:List Value}(hown:w.ownsRow 0 152 4 v n xs):(Builtin.append_ #[28,28] 28 #[v,.slice none 0 c]).run Tryz.prog w = .ok v w:=by
 obtain⟨i0,hi,hz0,hz1,hz2⟩:=info_parts Aq;have ht:=Tryz.underlying28;rcases hown.2 with⟨rfl,rfl⟩|⟨g,cap,cur,rfl,hbg,hg,hnc,hcm,hcs,htake⟩
 ·simp[Builtin.append_,run_underlying ht,sizeOf,typeInfo,hi,Builtin.lenOf,Builtin.firstCells]
 ·simp[Builtin.append_,run_underlying ht,sizeOf,typeInfo,hi,Builtin.lenOf,Builtin.firstCells,hnc,storeCells]
theorem Ja{w:World}{v:Value}{n k:Nat}{xs ys:List Value}{A:Option Addr}{c:Nat}(hown:w.ownsRow 0 152 4 v n xs)(hr:Rd Any w A ys)(hl:ys.length=k*4)(h1 :∀u∈ys,u.oneCell'=true)(hn:n+k≤549755813888):
  ∃v' w',(Builtin.append_ #[28,28] 28 #[v,.slice A k c]).run Tryz.prog w = .ok v' w'∧w'.ownsRow 0 152 4 v' (n+k) (xs++ys)∧w.grownBy w' v.ownBlock∧(v'.ownBlock=v.ownBlock∨v'.ownBlock=some w.heap.size):=by
 obtain⟨i0,hi,hz0,hz1,hz2⟩:=info_parts Aq;rcases hr with rfl|⟨b,o,rfl,_,hc⟩
 ·have hk:k=0:=by simp at hl;omega
  subst hk;cases A with
  | some ad =>
   obtain⟨v',w',hr,h2,h3,h4⟩:=run_append_own (P:=Tryz.prog) w 0 28 28 152 i0 (.agg #[.int .u8 0,.string ByteArray.empty,.int .i64 0,.slice none 0 0]) 4 56 Tryz.underlying28 hi hz0 hz1 hz2 rfl (by decide) v n xs hown ad 0 c [] rfl (by simp) h1 (by unfold maxLen;omega) (by omega) (Nat.zero_le _);have h5:=Ap w 28 28 152 i0 (.agg #[.int .u8 0,.string ByteArray.empty,.int .i64 0,.slice none 0 0]) 4 56 Tryz.underlying28 hi hz0 hz1 hz2 v n xs hown ad 0 c [] rfl (by simp) h1 (by unfold maxLen;omega) (by omega) v' w' hr;exact⟨v',w',hr,h2,h3,h5⟩
  | none=>exact⟨v,w,MN hown,by simpa using hown,World.grownBy.refl _ _,.inl rfl⟩
 ·obtain⟨v',w',hr,h2,h3,h4⟩:=run_append_own (P:=Tryz.prog) w 0 28 28 152 i0 (.agg #[.int .u8 0,.string ByteArray.empty,.int .i64 0,.slice none 0 0]) 4 56 Tryz.underlying28 hi hz0 hz1 hz2 rfl (by decide) v n xs hown ⟨b,o,none⟩ k c ys hl (fun j u hu=>by rw[Addr.add_lit];exact hc j u hu) h1 (by unfold maxLen;omega) (by omega) (Nat.zero_le _);have h5:=Ap w 28 28 152 i0 (.agg #[.int .u8 0,.string ByteArray.empty,.int .i64 0,.slice none 0 0]) 4 56 Tryz.underlying28 hi hz0 hz1 hz2 v n xs hown ⟨b,o,none⟩ k c ys hl (fun j u hu=>by rw[Addr.add_lit];exact hc j u hu) h1 (by unfold maxLen;omega) (by omega) v' w' hr;exact⟨v',w',hr,h2,h3,h5⟩
theorem bV.app{S:Nat→Prop}{w:World}:∀{f g:Fo} {vs us:List Value},bV S w vs f→bV S w us g→bV S w (vs++us) (f.app g)
 | .nil,g,vs,us,h,h2=>by
  have:vs=[]:=h;subst this;exact h2
 | .cons k t n ks r,g,vs,us,⟨KA,c,vs',e,g1,g2,g3,g4,g5,g6,g7⟩,h2=>by
  subst e;exact⟨KA,c,vs'++us,rfl,g1,g2,g3,g4,g5,g6,bV.app g7 h2⟩
theorem Fo.len_app2 :∀(f g:Fo),(f.app g).len=f.len+g.len
 | .nil,g=>by simp[Fo.app,Fo.len]
 | .cons k t n ks r,g=>by simp only[Fo.app,Fo.len,Fo.len_app2 r g];omega
def gz(f1 f2:Fo)(j:Nat):Nat:=if j=0 then 0 else if j=1 then f1.len else f1.len+f2.len
def jC(vs us:List Value)(j:Nat):List Value:=if j=0 then[]else if j=1 then vs else vs++us
structure nR(w:World)(vs us:List Value)(f1 f2:Fo)(j:Nat)(s:Value)(wr:World):Prop where
 own:wr.ownsRow 0 152 4 s (gz f1 f2 j) (jC vs us j)
 ge :∀g,s.ownBlock=some g→w.heap.size≤g
 below:Below w.heap.size w wr
theorem nR.zero{w W:World}{v:Value}{vs us:List Value}{f1 f2:Fo}(hB:Below w.heap.size w W)(h:W.ownsRow 0 152 4 v 0 [])(hge :∀g,v.ownBlock=some g→w.heap.size≤g):nR w vs us f1 f2 0 v W:=⟨h,hge,hB⟩
theorem nR.push{w wr wq:World}{s v:Value}{vs us:List Value}{f1 f2:Fo}{j:Nat}(h:nR w vs us f1 f2 j s wr)(h2:wq.ownsRow 0 152 4 v (gz f1 f2 (j+1)) (jC vs us (j+1)))(hg:wr.grownBy wq s.ownBlock)(hv:v.ownBlock=s.ownBlock∨v.ownBlock=some wr.heap.size):nR w vs us f1 f2 (j+1) v wq:=by
 refine⟨h2,fun g e=>?_,⟨hg.os.trans h.below.os,hg.tape.trans h.below.tape,hg.output.trans h.below.output,aI h.below.size hg.size,fun b hb=>?_⟩⟩
 ·rcases hv with hv|hv
  ·exact h.ge g (hv▸e)
  ·rw[hv]at e;injection e with e;have:=h.below.size;omega
 ·exact(hg.block b (aH hb h.below.size) (fun e=>by have:=h.ge b e.symm;omega)).trans (h.below.block b hb)
theorem MO{S:Nat→Prop}{w:World}{g a b c:Nat}{A B:Option Addr}{f1 f2:Fo}(h:sJ S w g A B a b f1 f2)(hS :∀b,w.heap.size≤b→S b):
  Calls Tryz.prog 222 #[.slice (some ⟨g,0,none⟩) 2 c] w fun e w'=>(∃A' c',e = .returned (.slice A' (f1.app f2).len c')∧bu S w' A' (f1.app f2)∧(f1.app f2).len≤c'∧c'≤9223372036854775807)∧Below w.heap.size w w':=by
 obtain⟨vs,v1,v2,v3,v4⟩:=h.fa.row;obtain⟨us,u1,u2,u3,u4⟩:=h.fb.row;have l1:f1.len≤137438953472:=by have:=CZ f1;have:=h.la;omega
 have l2:f2.len≤137438953472:=by have:=CZ f2;have:=h.lb;omega
 have hsum :∀j,j≤2→gz f1 f2 j≤274877906944:=fun j _=>by unfold gz;split;omega;split;omega;omega
 have ES:=hide hsum;have HT:=hide h;have HV:=hide (And.intro v1 (And.intro v2 (And.intro v3 v4)));have HU:=hide (And.intro u1 (And.intro u2 (And.intro u3 u4)));clear h v1 v2 v3 v4 u1 u2 u3 u4 hsum;go_enter Tryz.func222,Tryz.ntmps222
 go_wp2_with fail
 go_loopw [11,3] (fun i s wr=>∃j:Nat,i = .int .i64 j∧j≤2∧s = .int .i64 (gz f1 f2 j:Nat)∧w=wr) (fun i _ _=>2-(intOf i).toNat)
 case atStart=>exact⟨0,rfl,by omega,rfl,rfl⟩
 case round =>
  obtain⟨j,rfl,hj,rfl,rfl⟩:=hrel;by_cases h0:j=0
  ·subst h0;have c0:=HT.out.c0;have hw:=qR (n:=(0:Int)+(f1.len:Int)) ⟨by omega,by omega⟩;rw[Int.zero_add]at hw;have MP:decide ((f1.len:Int)<0)=false:=by simp
   simp only[gz,if_pos]
   go_wp2_with fail
   exact⟨⟨1,rfl,by omega,by simp[gz]⟩,by simp[intOf]⟩
  ·by_cases h1:j=1
   ·subst h1;have c1:=HT.out.c1;have hw:=qR (n:=(f1.len:Int)+(f2.len:Int)) ⟨by omega,by omega⟩;have MP:decide ((f1.len:Int)+(f2.len:Int)<0)=false:=by simp;omega
    simp only[gz,Nat.one_ne_zero,if_pos,if_false]
    go_wp2_with fail
    exact⟨⟨2,rfl,by omega,by simp[gz]⟩,by simp[intOf]⟩
   ·have h2:j=2:=by omega
    subst h2;simp only[gz,show(2:Nat)≠0 by omega,show(2:Nat)≠1 by omega,if_false];obtain⟨sz,hsz⟩:∃sz:Nat,sz=f1.len+f2.len:=⟨_,rfl⟩;rw[←hsz];have vK:=hide hsz;have MQ:sz≤274877906944:=by omega
    clear hsz ES
    go_upto_region 9 with fail
    refine wp_region_lit ?_;refine sk ?_;refine gc (qy (n:=sz) (by omega)) ?_;rintro e1 W1 ⟨⟨v,rfl,hown,hge⟩,hB⟩;refine⟨_,rfl,?_⟩;refine sk (v:=v) ?_;refine wpList_nil ?_;rename_i hK;refine hK _ _ ?_;clear hK;have HJ:=hide (nR.zero hB hown hge (vs:=vs) (us:=us) (f1:=f1) (f2:=f2));clear hown hge hB
    go_upto_region 10 with fail
    go_wp2_with fail
    go_loopw [27,6] (fun i s wr=>∃j:Nat,i = .int .i64 j∧j≤2∧Hid (nR w vs us f1 f2 j s wr)) (fun i _ _=>2-(intOf i).toNat)
    case atStart=>exact⟨0,rfl,by omega,HJ⟩
    case round =>
     obtain⟨j,rfl,hj,H1⟩:=hrel;by_cases h0:j=0
     ·subst h0;have HT2:=hide (HT.out.below H1.out.below);have c0:=HT2.out.c0;have cc:=HV.out;obtain⟨v',W2,hrun,hp,hq,hr⟩:=Ja (c:=a) H1.out.own ((cc.2.1.below H1.out.below).mono fun _ _ _=>trivial) cc.2.2.1 cc.2.2.2 (by simp[gz];omega);have HN:=hide (H1.out.push (j:=0) (v:=v') (by simpa[gz,jC]using hp) hq hr);clear hp hq hr cc
      go_upto_region 13 with fail
      refine wp_region_lit ?_;refine sk ?_;refine sk ?_;refine gw (hy:=wY hrun rfl rfl rfl) ?_;refine sk (v:=v') ?_;refine wpList_nil ?_
      go_wp2_with fail
      exact⟨⟨1,rfl,by omega,HN⟩,by simp[intOf]⟩
     ·by_cases h1:j=1
      ·subst h1;have HT2:=hide (HT.out.below H1.out.below);have c0:=HT2.out.c1;have cc:=HU.out;obtain⟨v',W2,hrun,hp,hq,hr⟩:=Ja (c:=b) H1.out.own ((cc.2.1.below H1.out.below).mono fun _ _ _=>trivial) cc.2.2.1 cc.2.2.2 (by simp[gz];omega);have HN:=hide (H1.out.push (j:=1) (v:=v') (by simpa[gz,jC]using hp) hq hr);clear hp hq hr cc
       go_upto_region 13 with fail
       refine wp_region_lit ?_;refine sk ?_;refine sk ?_;refine gw (hy:=wY hrun rfl rfl rfl) ?_;refine sk (v:=v') ?_;refine wpList_nil ?_
       go_wp2_with fail
       exact⟨⟨2,rfl,by omega,HN⟩,by simp[intOf]⟩
      ·have h2:j=2:=by omega
       subst h2;obtain⟨A',c',rfl⟩:=lG H1.out.own
       go_wp2_with fail
       go_ret;have hown:=H1.out.own;have hr:=Az hown rfl;have hge:=H1.out.ge;simp only[gz,jC,show(2:Nat)≠0 by omega,show(2:Nat)≠1 by omega,if_false,←Fo.len_app2]at hown hr hge⊢;have hcc:bV S wr (vs++us) (f1.app f2):=(bV.app HV.out.1 HU.out.1).keep (fun b hb _=>H1.out.below.block b hb) (fun _ _ h=>h);exact⟨⟨A',c',rfl,Ei hown (fun g hg=>hS g (hge g (gy.1 hg))) hcc,hr.1,hr.2⟩,H1.out.below⟩
end
end Go.Proofs.YtialngdffhmobaaGreatDoor
