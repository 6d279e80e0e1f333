/- Part 42 of what commuteFiles_cardUpto rests on. -/
import Derived.Test.YtialngdffhmobaaGreatDoorV35
import Derived.Test.YtialngdffhmobaaGreatDoorV04
import Derived.Test.YtialngdffhmobaaGreatDoorV02
import Derived.Test.YtialngdffhmobaaGreatDoorV00
set_option linter.unusedVariables false
set_option linter.unusedSimpArgs false
set_option maxHeartbeats 16000000
set_option maxRecDepth 1000000
namespace Go.Proofs.YtialngdffhmobaaGreatDoor
section
open Go.RowKit
theorem ay.slot{P:Prop}{T:Array Value}{n:Nat}(b:Bool)(hb:b=true↔P)(h:T[n]?=some (.bool b):=by rfl):ay P (.returned (T.getD n undef)):=by
 rw[show T.getD n undef = .bool b by rw[Array.getD_eq_getD_getElem?,h];rfl];exact ay.mk hb
theorem wz{w:World}{g:Nat}{a:ByteArray}(h0:w.cell? ⟨g,0,none⟩=some (.string a))(ha:a.size≤9223372036854775807):bJ w (.slice (some ⟨g,0,none⟩) 1 1) [a]:=
 ⟨_,_,[a],rfl,⟨.inr ⟨g,0,rfl,trivial,fun j u hj=>by
  match j,hj with
  | 0,hj=>injection hj with hj;subst hj;exact h0⟩,fun s hs=>by rw[List.mem_singleton]at hs;subst hs;exact ha,by simp⟩,by simp,fun s=>Iff.rfl⟩
theorem JS{a b:List ByteArray}:meets a b↔meets b a:=⟨fun⟨s,h1,h2⟩=>⟨s,h2,h1⟩,fun⟨s,h1,h2⟩=>⟨s,h2,h1⟩⟩
theorem zg{p q:Ed}(h1:p.kind=1)(h2:q.kind=1):iH p q↔p.path=q.path∨meets [q.frm,q.to] [p.to]∨q.to=p.frm:=by
 unfold iH;rw[if_pos ⟨h1,h2⟩];have:meets [q.frm,q.to] [p.to]↔(p.to=q.frm∨p.to=q.to):=by
  unfold meets;constructor
  ·rintro⟨s,hs1,hs2⟩;rw[List.mem_singleton]at hs2;subst hs2
   simpa using hs1
  ·intro h;exact⟨p.to,by simpa using h,by simp⟩
 rw[this]
theorem oh{p q:Ed}(h :¬(p.kind=1∧q.kind=1)):iH p q↔meets q.names p.binds∨meets p.names q.binds∨(p.kind≠1∧q.kind≠1∧((p.parts.params∧q.parts.calls)∨(q.parts.params∧p.parts.calls))):=by
 unfold iH;rw[if_neg h,JS,JS (a:=q.binds)]
theorem wB{g1 c1 c2 c3 c4 X:Bool}{A B C:Prop}(h1:c1=true↔A)(hg:g1 = !c1)(h2:g1=true→(c2=true↔B))(h3:c3=(c1 || c2))(h4:c4=(c3 || X))(h5:X=true↔C):c4=true↔A∨B∨C:=by
 subst h4 h3 hg;rcases Bool.eq_false_or_eq_true c1 with rfl|rfl
 ·simp[h1.mp rfl]
 ·have np :¬A:=fun e=>by have:=h1.mpr e;cases this
  have:=h2 rfl;simp[np,this,h5]
theorem qJ{p q:Ed}{x y:Eh}{n1 d1 n2 d2:Value}{r1 l1 r2 l2:Bool}{w:World}(hp:ik w p x n1 d1 r1 l1)(hq:ik w q y n2 d2 r2 l2):
  Calls Tryz.prog 190 #[.agg (ag p x n1 d1 r1 l1).toArray,.agg (ag q y n2 d2 r2 l2).toArray] w fun e w'=>ay (iH p q) e∧Below w.heap.size w w':=by
 obtain⟨W0,hW0⟩:∃W0,W0=(w.alloc (.cells (ag p x n1 d1 r1 l1).toArray 246)).alloc (.cells (ag q y n2 d2 r2 l2).toArray 246):=⟨_,rfl⟩;have hA:Bx W0 w.heap.size (ag p x n1 d1 r1 l1):=by rw[hW0];exact(Bx.new w _ _).alloc _
 have hB:Bx W0 (w.heap.size+1) (ag q y n2 d2 r2 l2):=by
  have:=Bx.new (w.alloc (.cells (ag p x n1 d1 r1 l1).toArray 246)) (ag q y n2 d2 r2 l2) 246;rw[hW0];simpa using this
 have hb:Below w.heap.size w W0:=by rw[hW0];exact(bg _ _).alloc (by simp) _
 have HA:=hide hA;have HB:=hide hB;have HL:=hide hb;have HP:=hide (hp.below hb);have HQ:=hide (hq.below hb);have HW:=hide hW0;clear hA hB hb hp hq hW0;go_enter Tryz.func190,Tryz.ntmps190
 go_upto_region 1 with fail
 change Code.wp _ _ _ _ ((w.alloc (.cells (ag p x n1 d1 r1 l1).toArray 246)).alloc (.cells (ag q y n2 d2 r2 l2).toArray 246));rw[←HW.out];clear HW;have hS:(fun V:World=>V.cell? ⟨w.heap.size,0,none⟩=some (.int .u8 p.kind)∧V.cell? ⟨w.heap.size+1,0,none⟩=some (.int .u8 q.kind)) W0.drew:=⟨HA.out.cell 0,HB.out.cell 0⟩;refine wp_region_held_drew (S:=fun V:World=>V.cell? ⟨w.heap.size,0,none⟩=some (.int .u8 p.kind)∧V.cell? ⟨w.heap.size+1,0,none⟩=some (.int .u8 q.kind)) (by kernel_rfl) hS (fun hS0=>?_);have hd:Below W0.heap.size W0 W0.drew:=(Below.refl _ _).drew;have HA1:=hide (HA.out.call hd);have HB1:=hide (HB.out.call hd);have wC:=hide (aQ HL.out hd);have lg:=hide (HP.out.below hd);have qK:=hide (HQ.out.below hd);clear hS hd HA HB HL HP HQ;generalize W0.drew=V at hS0 HA1 HB1 wC lg qK⊢;refine dI 0 hS0 ?_;refine dI 1 hS0 ?_;refine dI 2 hS0 ?_;refine dI 3 hS0 ?_;refine dI 4 hS0 ?_;refine dI 5 hS0 ?_;refine dI 6 hS0 ?_;refine dI 7 hS0 ?_;refine dI 8 hS0 ?_;refine dI 9 hS0 ?_;refine wpAnyH_done (by kernel_rfl) ?_ _;rename_i hK;refine hK _ _ ?_;clear hK hS0;by_cases h1:p.kind=1
 ·by_cases h2:q.kind=1
  ·have e1:((p.kind:Int) == 1)=true:=by simp;omega
   have e2:((q.kind:Int) == 1)=true:=by simp;omega
   simp only[e1,e2]
   go_upto_region 2 with fail
   refine wp_region_lit ?_;refine sk ?_;refine sk ?_;refine sk ?_;refine sk ?_;refine sk ?_;refine wpList_nil ?_
   first
    | (rename_i hK;refine hK _ _ ?_;clear hK)
    | (rename_i hK zK;refine hK _ _ ?_;clear hK)
   have HM:=hide (zg h1 h2);clear h1 h2 e1 e2;have a1:=HA1.out.cell 1;have b1:=HB1.out.cell 1
   go_upto_region 3 with fail
   refine wp_region_lit ?_;refine sk ?_;refine sk ?_;refine sk ?_;refine sk ?_;refine sk ?_;refine sk ?_;refine gc (CY (c:=x.pc) (c':=y.pc) lg.out.x.r.path qK.out.x.r.path) ?_;rintro ee V1 ⟨⟨c1,rfl,hc1⟩,k1,rfl⟩;refine⟨_,rfl,?_⟩;have hd:Below V.heap.size V (V.drewN k1):=qX (Below.refl _ _) k1;have lh:=hide hc1;clear hc1 a1 b1;have HA2:=hide (HA1.out.call hd);have HB2:=hide (HB1.out.call hd);have HL2:=hide (aQ wC.out hd);have HP2:=hide (lg.out.below hd);have ou:=hide (qK.out.below hd);clear HA1 HB1 wC lg qK;clear hd;generalize V.drewN k1=V2 at HA2 HB2 HL2 HP2 ou⊢;simp only[aA,aB];refine sk ?_;obtain⟨g1,hg1⟩:∃g,g = !c1:=⟨_,rfl⟩;have oz:=hide hg1;clear hg1;have b4:=HB2.out.cell 4;have b5:=HB2.out.cell 5;refine sg (b:=g1) ?_ (hw:=(by have:=oz.out;subst this;cases c1<;>rfl));refine sg (b:=g1) ?_ (hw:=(by have:=oz.out;subst this;cases c1<;>rfl));refine sg (b:=g1) ?_ (hw:=(by have:=oz.out;subst this;cases c1<;>rfl));refine sg (b:=g1) ?_ (hw:=(by have:=oz.out;subst this;cases c1<;>rfl));refine sg (b:=g1) ?_ (hw:=(by have:=oz.out;subst this;cases c1<;>rfl));refine sg (b:=g1) ?_ (hw:=(by have:=oz.out;subst this;cases c1<;>rfl));clear b4 b5;refine G5 g1 (w1:=V2.alloc (.cells #[.string q.frm,.string q.to] 9)) (v:= .slice (some ⟨V2.heap.size,0,none⟩) 2 2) ?_ (by have:=oz.out;subst this;cases c1<;>rfl);intro V3 hy3 hn3;have hd:Below V2.heap.size V2 V3:=GZ hy3 hn3 (bg _ _);have hR:g1=true→Bx V3 V2.heap.size [.string q.frm,.string q.to]:=fun h=>by rw[hy3 h];exact Bx.new _ _ _
   have wE:=hide (HA2.out.call hd);have HB3:=hide (HB2.out.call hd);have uu:=hide (aQ HL2.out hd);have jQ:=hide (HP2.out.below hd);have xH:=hide (ou.out.below hd);clear HA2 HB2 HL2 HP2 ou;have HR3:=hide hR;clear hd hR hy3 hn3;generalize V2.heap.size=R at HR3⊢;have a5:=wE.out.cell 5;refine sg (b:=g1) ?_ (hw:=(by have:=oz.out;subst this;cases c1<;>rfl));refine sg (b:=g1) ?_ (hw:=(by have:=oz.out;subst this;cases c1<;>rfl));refine sg (b:=g1) ?_ (hw:=(by have:=oz.out;subst this;cases c1<;>rfl));clear a5;refine G5 g1 (w1:=V3.alloc (.cells #[.string p.to] 9)) (v:= .slice (some ⟨V3.heap.size,0,none⟩) 1 1) ?_ (by have:=oz.out;subst this;cases c1<;>rfl);intro V4 hy4 hn4;have hd:Below V3.heap.size V3 V4:=GZ hy4 hn4 (bg _ _);have hT:g1=true→Bx V4 V3.heap.size [.string p.to]:=fun h=>by rw[hy4 h];exact Bx.new _ _ _
   have JU:=hide (wE.out.call hd);have HB4:=hide (HB3.out.call hd);have JV:=hide (aQ uu.out hd);have lK:=hide (jQ.out.below hd);have DN:=hide (xH.out.below hd);clear wE HB3 uu jQ xH;have HR4:Hid (g1=true→Bx V4 R [.string q.frm,.string q.to]):=hide fun h=>(HR3.out h).call hd;have HT4:=hide hT;clear hd hT hy4 hn4 HR3;generalize V3.heap.size=R2 at HT4⊢;refine wQ g1 (X:=meets [q.frm,q.to] [p.to]) (fun h=>yR (Jw ((HR4.out h).cell 0) ((HR4.out h).cell 1) DN.out.x.b.frm DN.out.x.b.to) (wz ((HT4.out h).cell 0) lK.out.x.b.to)) ?_ (by have:=oz.out;subst this;cases c1<;>rfl);intro c2 V5 hc2 hd;have lX:=hide hc2;clear hc2 HR4 HT4;have Om:=hide (JU.out.call hd);have iV:=hide (HB4.out.call hd);have Oo:=hide (aQ JV.out hd);have O3:=hide (lK.out.below hd);have O4:=hide (DN.out.below hd);clear JU HB4 JV lK DN;clear hd;simp only[aA,aB];refine so oz.out ?_;intro c3 g2 hc3 hg2;have Cc:=hide hc3;have nD:=hide hg2;clear hc3 hg2;simp only[aA,aB];refine sk ?_;have b5:=iV.out.cell 5;have a4:=Om.out.cell 4;refine sg (b:=g2) ?_ (hw:=(by have:=nD.out;subst this;cases c3<;>rfl));refine sg (b:=g2) ?_ (hw:=(by have:=nD.out;subst this;cases c3<;>rfl));refine sg (b:=g2) ?_ (hw:=(by have:=nD.out;subst this;cases c3<;>rfl));refine sg (b:=g2) ?_ (hw:=(by have:=nD.out;subst this;cases c3<;>rfl));refine sg (b:=g2) ?_ (hw:=(by have:=nD.out;subst this;cases c3<;>rfl));refine sg (b:=g2) ?_ (hw:=(by have:=nD.out;subst this;cases c3<;>rfl));refine sg (b:=g2) ?_ (hw:=(by have:=nD.out;subst this;cases c3<;>rfl));refine so nD.out ?_;intro c4 g4 hc4 hg4;clear hg4;have Af:=hide hc4;clear hc4;simp only[aA,aB];refine sk ?_;refine wpList_nil ?_
   first
    | (rename_i hK;refine hK _ _ ?_;clear hK)
    | (rename_i hK zK;refine hK _ _ ?_;clear hK)
   have Fin:=hide ((wB lh.out oz.out lX.out Cc.out Af.out (X:=q.to.toList == p.frm.toList) (by rw[zH])).trans HM.out.symm);clear lh oz lX Cc Af nD HM
   go_wp2_with fail
   all_goals
    go_ret;exact⟨ay.slot c4 Fin.out,Oo.out⟩
  ·have e1:((p.kind:Int) == 1)=true:=by simp;omega
   have e2:((q.kind:Int) == 1)=false:=by simp;omega
   simp only[e1,e2];have HM:=hide (oh (p:=p) (q:=q) (by omega));have Hk1:Hid (p.kind=1):=hide h1;have wF:Hid (q.kind≠1):=hide h2;clear h1 h2 e1 e2;have b8:=HB1.out.cell 8;have a9:=HA1.out.cell 9
   go_upto_region 4 with fail
   refine wp_region_lit ?_;refine sk ?_;refine sk ?_;refine sk ?_;refine sk ?_;refine gc (yR qK.out.names lg.out.binds) ?_;rintro ee V2 ⟨⟨c1,rfl,hc1⟩,hd⟩;refine⟨_,rfl,?_⟩;have lh:=hide hc1;clear hc1 b8 a9;have HA2:=hide (HA1.out.call hd);have HB2:=hide (HB1.out.call hd);have HL2:=hide (aQ wC.out hd);have HP2:=hide (lg.out.below hd);have ou:=hide (qK.out.below hd);clear HA1 HB1 wC lg qK;clear hd;simp only[aA,aB];refine sk ?_;refine wpList_nil ?_
   first
    | (rename_i hK;refine hK _ _ ?_;clear hK)
    | (rename_i hK zK;refine hK _ _ ?_;clear hK)
   rcases Bool.eq_false_or_eq_true c1 with rfl|rfl
   ·have Hm:=hide (HM.out.mpr (.inl (lh.out.mp rfl)));clear HM lh
    go_wp2_with fail
    go_ret;exact⟨ay.slot true (by simp only[true_iff];exact Hm.out),HL2.out⟩
   have Ag:Hid (¬meets q.names p.binds):=hide fun h=>by have:=lh.out.mpr h;cases this
   clear lh;have a8:=HA2.out.cell 8;have b9:=HB2.out.cell 9
   go_upto_region 5 with fail
   refine wp_region_lit ?_;refine sk ?_;refine sk ?_;refine sk ?_;refine sk ?_;refine gc (yR HP2.out.names ou.out.binds) ?_;rintro ee V3 ⟨⟨c2,rfl,hc2⟩,hd⟩;refine⟨_,rfl,?_⟩;have lX:=hide hc2;clear hc2 a8 b9;have wE:=hide (HA2.out.call hd);have HB3:=hide (HB2.out.call hd);have uu:=hide (aQ HL2.out hd);have jQ:=hide (HP2.out.below hd);have xH:=hide (ou.out.below hd);clear HA2 HB2 HL2 HP2 ou;clear hd;simp only[aA,aB];refine sk ?_;refine wpList_nil ?_
   first
    | (rename_i hK;refine hK _ _ ?_;clear hK)
    | (rename_i hK zK;refine hK _ _ ?_;clear hK)
   rcases Bool.eq_false_or_eq_true c2 with rfl|rfl
   ·have Hm:=hide (HM.out.mpr (.inr (.inl (lX.out.mp rfl))));clear HM lX
    go_wp2_with fail
    go_ret;exact⟨ay.slot true (by simp only[true_iff];exact Hm.out),uu.out⟩
   have xm:Hid (¬meets p.names q.binds):=hide fun h=>by have:=lX.out.mpr h;cases this
   clear lX
   go_wp2_with fail
   go_ret;exact⟨ay.slot false (by simp only[Bool.false_eq_true,false_iff];rw[HM.out];rintro(h|h|h);exact Ag.out h;exact xm.out h;exact h.1 Hk1.out),uu.out⟩
 ·by_cases h2:q.kind=1
  ·have e1:((p.kind:Int) == 1)=false:=by simp;omega
   have e2:((q.kind:Int) == 1)=true:=by simp;omega
   simp only[e1,e2];have HM:=hide (oh (p:=p) (q:=q) (by omega));have Hk1:Hid (p.kind≠1):=hide h1;have wF:Hid (q.kind=1):=hide h2;clear h1 h2 e1 e2;have b8:=HB1.out.cell 8;have a9:=HA1.out.cell 9
   go_upto_region 4 with fail
   refine wp_region_lit ?_;refine sk ?_;refine sk ?_;refine sk ?_;refine sk ?_;refine gc (yR qK.out.names lg.out.binds) ?_;rintro ee V2 ⟨⟨c1,rfl,hc1⟩,hd⟩;refine⟨_,rfl,?_⟩;have lh:=hide hc1;clear hc1 b8 a9;have HA2:=hide (HA1.out.call hd);have HB2:=hide (HB1.out.call hd);have HL2:=hide (aQ wC.out hd);have HP2:=hide (lg.out.below hd);have ou:=hide (qK.out.below hd);clear HA1 HB1 wC lg qK;clear hd;simp only[aA,aB];refine sk ?_;refine wpList_nil ?_
   first
    | (rename_i hK;refine hK _ _ ?_;clear hK)
    | (rename_i hK zK;refine hK _ _ ?_;clear hK)
   rcases Bool.eq_false_or_eq_true c1 with rfl|rfl
   ·have Hm:=hide (HM.out.mpr (.inl (lh.out.mp rfl)));clear HM lh
    go_wp2_with fail
    go_ret;exact⟨ay.slot true (by simp only[true_iff];exact Hm.out),HL2.out⟩
   have Ag:Hid (¬meets q.names p.binds):=hide fun h=>by have:=lh.out.mpr h;cases this
   clear lh;have a8:=HA2.out.cell 8;have b9:=HB2.out.cell 9
   go_upto_region 5 with fail
   refine wp_region_lit ?_;refine sk ?_;refine sk ?_;refine sk ?_;refine sk ?_;refine gc (yR HP2.out.names ou.out.binds) ?_;rintro ee V3 ⟨⟨c2,rfl,hc2⟩,hd⟩;refine⟨_,rfl,?_⟩;have lX:=hide hc2;clear hc2 a8 b9;have wE:=hide (HA2.out.call hd);have HB3:=hide (HB2.out.call hd);have uu:=hide (aQ HL2.out hd);have jQ:=hide (HP2.out.below hd);have xH:=hide (ou.out.below hd);clear HA2 HB2 HL2 HP2 ou;clear hd;simp only[aA,aB];refine sk ?_;refine wpList_nil ?_
   first
    | (rename_i hK;refine hK _ _ ?_;clear hK)
    | (rename_i hK zK;refine hK _ _ ?_;clear hK)
   rcases Bool.eq_false_or_eq_true c2 with rfl|rfl
   ·have Hm:=hide (HM.out.mpr (.inr (.inl (lX.out.mp rfl))));clear HM lX
    go_wp2_with fail
    go_ret;exact⟨ay.slot true (by simp only[true_iff];exact Hm.out),uu.out⟩
   have xm:Hid (¬meets p.names q.binds):=hide fun h=>by have:=lX.out.mpr h;cases this
   clear lX
   go_wp2_with fail
   go_ret;exact⟨ay.slot false (by simp only[Bool.false_eq_true,false_iff];rw[HM.out];rintro(h|h|h);exact Ag.out h;exact xm.out h;exact h.2.1 wF.out),uu.out⟩
  ·have e1:((p.kind:Int) == 1)=false:=by simp;omega
   have e2:((q.kind:Int) == 1)=false:=by simp;omega
   simp only[e1,e2];have HM:=hide (oh (p:=p) (q:=q) (by omega));have Hk1:Hid (p.kind≠1):=hide h1;have wF:Hid (q.kind≠1):=hide h2;clear h1 h2 e1 e2;have b8:=HB1.out.cell 8;have a9:=HA1.out.cell 9
   go_upto_region 4 with fail
   refine wp_region_lit ?_;refine sk ?_;refine sk ?_;refine sk ?_;refine sk ?_;refine gc (yR qK.out.names lg.out.binds) ?_;rintro ee V2 ⟨⟨c1,rfl,hc1⟩,hd⟩;refine⟨_,rfl,?_⟩;have lh:=hide hc1;clear hc1 b8 a9;have HA2:=hide (HA1.out.call hd);have HB2:=hide (HB1.out.call hd);have HL2:=hide (aQ wC.out hd);have HP2:=hide (lg.out.below hd);have ou:=hide (qK.out.below hd);clear HA1 HB1 wC lg qK;clear hd;simp only[aA,aB];refine sk ?_;refine wpList_nil ?_
   first
    | (rename_i hK;refine hK _ _ ?_;clear hK)
    | (rename_i hK zK;refine hK _ _ ?_;clear hK)
   rcases Bool.eq_false_or_eq_true c1 with rfl|rfl
   ·have Hm:=hide (HM.out.mpr (.inl (lh.out.mp rfl)));clear HM lh
    go_wp2_with fail
    go_ret;exact⟨ay.slot true (by simp only[true_iff];exact Hm.out),HL2.out⟩
   have Ag:Hid (¬meets q.names p.binds):=hide fun h=>by have:=lh.out.mpr h;cases this
   clear lh;have a8:=HA2.out.cell 8;have b9:=HB2.out.cell 9
   go_upto_region 5 with fail
   refine wp_region_lit ?_;refine sk ?_;refine sk ?_;refine sk ?_;refine sk ?_;refine gc (yR HP2.out.names ou.out.binds) ?_;rintro ee V3 ⟨⟨c2,rfl,hc2⟩,hd⟩;refine⟨_,rfl,?_⟩;have lX:=hide hc2;clear hc2 a8 b9;have wE:=hide (HA2.out.call hd);have HB3:=hide (HB2.out.call hd);have uu:=hide (aQ HL2.out hd);have jQ:=hide (HP2.out.below hd);have xH:=hide (ou.out.below hd);clear HA2 HB2 HL2 HP2 ou;clear hd;simp only[aA,aB];refine sk ?_;refine wpList_nil ?_
   first
    | (rename_i hK;refine hK _ _ ?_;clear hK)
    | (rename_i hK zK;refine hK _ _ ?_;clear hK)
   rcases Bool.eq_false_or_eq_true c2 with rfl|rfl
   ·have Hm:=hide (HM.out.mpr (.inr (.inl (lX.out.mp rfl))));clear HM lX
    go_wp2_with fail
    go_ret;exact⟨ay.slot true (by simp only[true_iff];exact Hm.out),uu.out⟩
   have xm:Hid (¬meets p.names q.binds):=hide fun h=>by have:=lX.out.mpr h;cases this
   clear lX;have p1:=hide (jQ.out.params Hk1.out);have p2:=hide (xH.out.params wF.out);have q1:=hide (jQ.out.calls Hk1.out);have q2:=hide (xH.out.calls wF.out);have ar:=wE.out.cell 10;have al:=wE.out.cell 11;have br:=HB3.out.cell 10;have bl:=HB3.out.cell 11;clear wE HB3 jQ xH;have fin :∀b:Bool,b=(r1 && l2 || r2 && l1)→(b=true↔iH p q):=fun b hb=>by
    rw[HM.out,hb];simp only[Ag.out,xm.out,false_or,ne_eq,Hk1.out,wF.out,not_false_eq_true,true_and,Bool.or_eq_true,Bool.and_eq_true,p1.out,p2.out,q1.out,q2.out]
   have Fin:=hide fin;clear fin p1 p2 q1 q2 HM Ag xm;cases r1<;>cases l2<;>cases r2<;>cases l1
   all_goals
    go_wp2_with fail
    go_ret;exact⟨ay.slot _ (Fin.out _ rfl),uu.out⟩
end
end Go.Proofs.YtialngdffhmobaaGreatDoor
