/- Part 38 of what mgTop rests on. -/
import Derived.Test.YtialngdffhmobaaGreatDoorU33
import Derived.Test.YtialngdffhmobaaGreatDoorU25
import Derived.Test.YtialngdffhmobaaGreatDoorU01
import Derived.Test.YtialngdffhmobaaGreatDoorU00
set_option linter.unusedVariables false
set_option linter.unusedSimpArgs false
set_option maxHeartbeats 16000000
set_option maxRecDepth 1000000
namespace Go.Proofs.YtialngdffhmobaaGreatDoor
section
open Go.RowKit
theorem RetB.slot{P:Prop}{T:Array Value}{n:Nat}(b:Bool)(hb:b=true↔P)(h:T[n]?=some (.bool b):=by rfl):RetB P (.returned (T.getD n undef)):=by
 rw[show T.getD n undef = .bool b by rw[Array.getD_eq_getD_getElem?,h];rfl];exact RetB.mk hb
theorem one_str{w:World}{g:Nat}{a:ByteArray}(h0:w.cell? ⟨g,0,none⟩=some (.string a))(ha:a.size≤9223372036854775807):StrsLike w (.slice (some ⟨g,0,none⟩) 1 1) [a]:=
 ⟨_,_,[a],rfl,⟨.inr ⟨g,0,rfl,trivial,fun j u hj=>by
  match j,hj with
  | 0,hj=>injection hj with hj;subst hj;exact h0⟩,fun s hs=>by rw[List.mem_singleton]at hs;subst hs;exact ha,by simp⟩,by simp,fun s=>Iff.rfl⟩
theorem meets_comm{a b:List ByteArray}:meets a b↔meets b a:=⟨fun⟨s,h1,h2⟩=>⟨s,h2,h1⟩,fun⟨s,h1,h2⟩=>⟨s,h2,h1⟩⟩
theorem mix_11{p q:Ed}(h1:p.kind=1)(h2:q.kind=1):edMix p q↔p.path=q.path∨meets [q.frm,q.to] [p.to]∨q.to=p.frm:=by
 unfold edMix;rw[if_pos ⟨h1,h2⟩];have:meets [q.frm,q.to] [p.to]↔(p.to=q.frm∨p.to=q.to):=by
  unfold meets;constructor
  ·rintro⟨s,hs1,hs2⟩;rw[List.mem_singleton]at hs2;subst hs2
   simpa using hs1
  ·intro h;exact⟨p.to,by simpa using h,by simp⟩
 rw[this]
theorem mix_no{p q:Ed}(h :¬(p.kind=1∧q.kind=1)):edMix p q↔meets q.names p.binds∨meets p.names q.binds∨(p.kind≠1∧q.kind≠1∧((p.parts.params∧q.parts.calls)∨(q.parts.params∧p.parts.calls))):=by
 unfold edMix;rw[if_neg h,meets_comm,meets_comm (a:=q.binds)]
theorem mix_fin{g1 c1 c2 c3 c4 X:Bool}{A B C:Prop}(h1:c1=true↔A)(hg:g1 = !c1)(h2:g1=true→(c2=true↔B))(h3:c3=(c1 || c2))(h4:c4=(c3 || X))(h5:X=true↔C):c4=true↔A∨B∨C:=by
 subst h4 h3 hg;rcases Bool.eq_false_or_eq_true c1 with rfl|rfl
 ·simp[h1.mp rfl]
 ·have np :¬A:=fun e=>by have:=h1.mpr e;cases this
  have:=h2 rfl;simp[np,this,h5]
theorem mixes_any{p q:Ed}{x y:Eh}{n1 d1 n2 d2:Value}{r1 l1 r2 l2:Bool}{w:World}(hp:SideX w p x n1 d1 r1 l1)(hq:SideX w q y n2 d2 r2 l2):
  Calls Tryz.prog 190 #[.agg (sideVs p x n1 d1 r1 l1).toArray,.agg (sideVs q y n2 d2 r2 l2).toArray] w fun e w'=>RetB (edMix p q) e∧Below w.heap.size w w':=by
 obtain⟨W0,hW0⟩:∃W0,W0=(w.alloc (.cells (sideVs p x n1 d1 r1 l1).toArray 246)).alloc (.cells (sideVs q y n2 d2 r2 l2).toArray 246):=⟨_,rfl⟩;have hA:Bx W0 w.heap.size (sideVs p x n1 d1 r1 l1):=by rw[hW0];exact(Bx.new w _ _).alloc _
 have hB:Bx W0 (w.heap.size+1) (sideVs q y n2 d2 r2 l2):=by
  have:=Bx.new (w.alloc (.cells (sideVs p x n1 d1 r1 l1).toArray 246)) (sideVs q y n2 d2 r2 l2) 246;rw[hW0];simpa using this
 have hb:Below w.heap.size w W0:=by rw[hW0];exact(below_alloc _ _).alloc (by simp) _
 have HA:=hide hA;have HB:=hide hB;have HL:=hide hb;have HP:=hide (hp.below hb);have HQ:=hide (hq.below hb);have HW:=hide hW0;clear hA hB hb hp hq hW0;go_enter Tryz.func190,Tryz.ntmps190
 go_upto_region 1 with fail
 change Code.wp _ _ _ _ ((w.alloc (.cells (sideVs p x n1 d1 r1 l1).toArray 246)).alloc (.cells (sideVs q y n2 d2 r2 l2).toArray 246));rw[←HW.out];clear HW;have hS:(fun V:World=>V.cell? ⟨w.heap.size,0,none⟩=some (.int .u8 p.kind)∧V.cell? ⟨w.heap.size+1,0,none⟩=some (.int .u8 q.kind)) W0.drew:=⟨HA.out.cell 0,HB.out.cell 0⟩;refine wp_region_held_drew (S:=fun V:World=>V.cell? ⟨w.heap.size,0,none⟩=some (.int .u8 p.kind)∧V.cell? ⟨w.heap.size+1,0,none⟩=some (.int .u8 q.kind)) (by kernel_rfl) hS (fun hS0=>?_);have hd:Below W0.heap.size W0 W0.drew:=(Below.refl _ _).drew;have HA1:=hide (HA.out.call hd);have HB1:=hide (HB.out.call hd);have HL1:=hide (blw_up HL.out hd);have HP1:=hide (HP.out.below hd);have HQ1:=hide (HQ.out.below hd);clear hS hd HA HB HL HP HQ;generalize W0.drew=V at hS0 HA1 HB1 HL1 HP1 HQ1⊢;refine tka 0 hS0 ?_;refine tka 1 hS0 ?_;refine tka 2 hS0 ?_;refine tka 3 hS0 ?_;refine tka 4 hS0 ?_;refine tka 5 hS0 ?_;refine tka 6 hS0 ?_;refine tka 7 hS0 ?_;refine tka 8 hS0 ?_;refine tka 9 hS0 ?_;refine wpAnyH_done (by kernel_rfl) ?_ _;rename_i hK;refine hK _ _ ?_;clear hK hS0;by_cases h1:p.kind=1
 ·by_cases h2:q.kind=1
  ·have e1:((p.kind:Int) == 1)=true:=by simp;omega
   have e2:((q.kind:Int) == 1)=true:=by simp;omega
   simp only[e1,e2]
   go_upto_region 2 with fail
   refine wp_region_lit ?_;refine sk ?_;refine sk ?_;refine sk ?_;refine sk ?_;refine sk ?_;refine wpList_nil ?_
   first
    | (rename_i hK;refine hK _ _ ?_;clear hK)
    | (rename_i hK zK;refine hK _ _ ?_;clear hK)
   have HM:=hide (mix_11 h1 h2);clear h1 h2 e1 e2;have a1:=HA1.out.cell 1;have b1:=HB1.out.cell 1
   go_upto_region 3 with fail
   refine wp_region_lit ?_;refine sk ?_;refine sk ?_;refine sk ?_;refine sk ?_;refine sk ?_;refine sk ?_;refine gc (equalInts_any (c:=x.pc) (c':=y.pc) HP1.out.x.r.path HQ1.out.x.r.path) ?_;rintro ee V1 ⟨⟨c1,rfl,hc1⟩,k1,rfl⟩;refine⟨_,rfl,?_⟩;have hd:Below V.heap.size V (V.drewN k1):=below_drewN (Below.refl _ _) k1;have Hc1:=hide hc1;clear hc1 a1 b1;have HA2:=hide (HA1.out.call hd);have HB2:=hide (HB1.out.call hd);have HL2:=hide (blw_up HL1.out hd);have HP2:=hide (HP1.out.below hd);have HQ2:=hide (HQ1.out.below hd);clear HA1 HB1 HL1 HP1 HQ1;clear hd;generalize V.drewN k1=V2 at HA2 HB2 HL2 HP2 HQ2⊢;simp only[List.set_cons_zero,List.set_cons_succ];refine sk ?_;obtain⟨g1,hg1⟩:∃g,g = !c1:=⟨_,rfl⟩;have Hg1:=hide hg1;clear hg1;have b4:=HB2.out.cell 4;have b5:=HB2.out.cell 5;refine sg (b:=g1) ?_ (hw:=(by have:=Hg1.out;subst this;cases c1<;>rfl));refine sg (b:=g1) ?_ (hw:=(by have:=Hg1.out;subst this;cases c1<;>rfl));refine sg (b:=g1) ?_ (hw:=(by have:=Hg1.out;subst this;cases c1<;>rfl));refine sg (b:=g1) ?_ (hw:=(by have:=Hg1.out;subst this;cases c1<;>rfl));refine sg (b:=g1) ?_ (hw:=(by have:=Hg1.out;subst this;cases c1<;>rfl));refine sg (b:=g1) ?_ (hw:=(by have:=Hg1.out;subst this;cases c1<;>rfl));clear b4 b5;refine gwg g1 (w1:=V2.alloc (.cells #[.string q.frm,.string q.to] 9)) (v:= .slice (some ⟨V2.heap.size,0,none⟩) 2 2) ?_ (by have:=Hg1.out;subst this;cases c1<;>rfl);intro V3 hy3 hn3;have hd:Below V2.heap.size V2 V3:=gwg_below hy3 hn3 (below_alloc _ _);have hR:g1=true→Bx V3 V2.heap.size [.string q.frm,.string q.to]:=fun h=>by rw[hy3 h];exact Bx.new _ _ _
   have HA3:=hide (HA2.out.call hd);have HB3:=hide (HB2.out.call hd);have HL3:=hide (blw_up HL2.out hd);have HP3:=hide (HP2.out.below hd);have HQ3:=hide (HQ2.out.below hd);clear HA2 HB2 HL2 HP2 HQ2;have HR3:=hide hR;clear hd hR hy3 hn3;generalize V2.heap.size=R at HR3⊢;have a5:=HA3.out.cell 5;refine sg (b:=g1) ?_ (hw:=(by have:=Hg1.out;subst this;cases c1<;>rfl));refine sg (b:=g1) ?_ (hw:=(by have:=Hg1.out;subst this;cases c1<;>rfl));refine sg (b:=g1) ?_ (hw:=(by have:=Hg1.out;subst this;cases c1<;>rfl));clear a5;refine gwg g1 (w1:=V3.alloc (.cells #[.string p.to] 9)) (v:= .slice (some ⟨V3.heap.size,0,none⟩) 1 1) ?_ (by have:=Hg1.out;subst this;cases c1<;>rfl);intro V4 hy4 hn4;have hd:Below V3.heap.size V3 V4:=gwg_below hy4 hn4 (below_alloc _ _);have hT:g1=true→Bx V4 V3.heap.size [.string p.to]:=fun h=>by rw[hy4 h];exact Bx.new _ _ _
   have HA4:=hide (HA3.out.call hd);have HB4:=hide (HB3.out.call hd);have HL4:=hide (blw_up HL3.out hd);have HP4:=hide (HP3.out.below hd);have HQ4:=hide (HQ3.out.below hd);clear HA3 HB3 HL3 HP3 HQ3;have HR4:Hid (g1=true→Bx V4 R [.string q.frm,.string q.to]):=hide fun h=>(HR3.out h).call hd;have HT4:=hide hT;clear hd hT hy4 hn4 HR3;generalize V3.heap.size=R2 at HT4⊢;refine gcb g1 (X:=meets [q.frm,q.to] [p.to]) (fun h=>meets_any (two_strs ((HR4.out h).cell 0) ((HR4.out h).cell 1) HQ4.out.x.b.frm HQ4.out.x.b.to) (one_str ((HT4.out h).cell 0) HP4.out.x.b.to)) ?_ (by have:=Hg1.out;subst this;cases c1<;>rfl);intro c2 V5 hc2 hd;have Hc2:=hide hc2;clear hc2 HR4 HT4;have HA5:=hide (HA4.out.call hd);have HB5:=hide (HB4.out.call hd);have HL5:=hide (blw_up HL4.out hd);have HP5:=hide (HP4.out.below hd);have HQ5:=hide (HQ4.out.below hd);clear HA4 HB4 HL4 HP4 HQ4;clear hd;simp only[List.set_cons_zero,List.set_cons_succ];refine so Hg1.out ?_;intro c3 g2 hc3 hg2;have Hc3:=hide hc3;have Hg2:=hide hg2;clear hc3 hg2;simp only[List.set_cons_zero,List.set_cons_succ];refine sk ?_;have b5:=HB5.out.cell 5;have a4:=HA5.out.cell 4;refine sg (b:=g2) ?_ (hw:=(by have:=Hg2.out;subst this;cases c3<;>rfl));refine sg (b:=g2) ?_ (hw:=(by have:=Hg2.out;subst this;cases c3<;>rfl));refine sg (b:=g2) ?_ (hw:=(by have:=Hg2.out;subst this;cases c3<;>rfl));refine sg (b:=g2) ?_ (hw:=(by have:=Hg2.out;subst this;cases c3<;>rfl));refine sg (b:=g2) ?_ (hw:=(by have:=Hg2.out;subst this;cases c3<;>rfl));refine sg (b:=g2) ?_ (hw:=(by have:=Hg2.out;subst this;cases c3<;>rfl));refine sg (b:=g2) ?_ (hw:=(by have:=Hg2.out;subst this;cases c3<;>rfl));refine so Hg2.out ?_;intro c4 g4 hc4 hg4;clear hg4;have Hc4:=hide hc4;clear hc4;simp only[List.set_cons_zero,List.set_cons_succ];refine sk ?_;refine wpList_nil ?_
   first
    | (rename_i hK;refine hK _ _ ?_;clear hK)
    | (rename_i hK zK;refine hK _ _ ?_;clear hK)
   have Fin:=hide ((mix_fin Hc1.out Hg1.out Hc2.out Hc3.out Hc4.out (X:=q.to.toList == p.frm.toList) (by rw[txt_eq])).trans HM.out.symm);clear Hc1 Hg1 Hc2 Hc3 Hc4 Hg2 HM
   go_wp2_with fail
   all_goals
    go_ret;exact⟨RetB.slot c4 Fin.out,HL5.out⟩
  ·have e1:((p.kind:Int) == 1)=true:=by simp;omega
   have e2:((q.kind:Int) == 1)=false:=by simp;omega
   simp only[e1,e2];have HM:=hide (mix_no (p:=p) (q:=q) (by omega));have Hk1:Hid (p.kind=1):=hide h1;have Hk2:Hid (q.kind≠1):=hide h2;clear h1 h2 e1 e2;have b8:=HB1.out.cell 8;have a9:=HA1.out.cell 9
   go_upto_region 4 with fail
   refine wp_region_lit ?_;refine sk ?_;refine sk ?_;refine sk ?_;refine sk ?_;refine gc (meets_any HQ1.out.names HP1.out.binds) ?_;rintro ee V2 ⟨⟨c1,rfl,hc1⟩,hd⟩;refine⟨_,rfl,?_⟩;have Hc1:=hide hc1;clear hc1 b8 a9;have HA2:=hide (HA1.out.call hd);have HB2:=hide (HB1.out.call hd);have HL2:=hide (blw_up HL1.out hd);have HP2:=hide (HP1.out.below hd);have HQ2:=hide (HQ1.out.below hd);clear HA1 HB1 HL1 HP1 HQ1;clear hd;simp only[List.set_cons_zero,List.set_cons_succ];refine sk ?_;refine wpList_nil ?_
   first
    | (rename_i hK;refine hK _ _ ?_;clear hK)
    | (rename_i hK zK;refine hK _ _ ?_;clear hK)
   rcases Bool.eq_false_or_eq_true c1 with rfl|rfl
   ·have Hm:=hide (HM.out.mpr (.inl (Hc1.out.mp rfl)));clear HM Hc1
    go_wp2_with fail
    go_ret;exact⟨RetB.slot true (by simp only[true_iff];exact Hm.out),HL2.out⟩
   have Hm1:Hid (¬meets q.names p.binds):=hide fun h=>by have:=Hc1.out.mpr h;cases this
   clear Hc1;have a8:=HA2.out.cell 8;have b9:=HB2.out.cell 9
   go_upto_region 5 with fail
   refine wp_region_lit ?_;refine sk ?_;refine sk ?_;refine sk ?_;refine sk ?_;refine gc (meets_any HP2.out.names HQ2.out.binds) ?_;rintro ee V3 ⟨⟨c2,rfl,hc2⟩,hd⟩;refine⟨_,rfl,?_⟩;have Hc2:=hide hc2;clear hc2 a8 b9;have HA3:=hide (HA2.out.call hd);have HB3:=hide (HB2.out.call hd);have HL3:=hide (blw_up HL2.out hd);have HP3:=hide (HP2.out.below hd);have HQ3:=hide (HQ2.out.below hd);clear HA2 HB2 HL2 HP2 HQ2;clear hd;simp only[List.set_cons_zero,List.set_cons_succ];refine sk ?_;refine wpList_nil ?_
   first
    | (rename_i hK;refine hK _ _ ?_;clear hK)
    | (rename_i hK zK;refine hK _ _ ?_;clear hK)
   rcases Bool.eq_false_or_eq_true c2 with rfl|rfl
   ·have Hm:=hide (HM.out.mpr (.inr (.inl (Hc2.out.mp rfl))));clear HM Hc2
    go_wp2_with fail
    go_ret;exact⟨RetB.slot true (by simp only[true_iff];exact Hm.out),HL3.out⟩
   have Hm2:Hid (¬meets p.names q.binds):=hide fun h=>by have:=Hc2.out.mpr h;cases this
   clear Hc2
   go_wp2_with fail
   go_ret;exact⟨RetB.slot false (by simp only[Bool.false_eq_true,false_iff];rw[HM.out];rintro(h|h|h);exact Hm1.out h;exact Hm2.out h;exact h.1 Hk1.out),HL3.out⟩
 ·by_cases h2:q.kind=1
  ·have e1:((p.kind:Int) == 1)=false:=by simp;omega
   have e2:((q.kind:Int) == 1)=true:=by simp;omega
   simp only[e1,e2];have HM:=hide (mix_no (p:=p) (q:=q) (by omega));have Hk1:Hid (p.kind≠1):=hide h1;have Hk2:Hid (q.kind=1):=hide h2;clear h1 h2 e1 e2;have b8:=HB1.out.cell 8;have a9:=HA1.out.cell 9
   go_upto_region 4 with fail
   refine wp_region_lit ?_;refine sk ?_;refine sk ?_;refine sk ?_;refine sk ?_;refine gc (meets_any HQ1.out.names HP1.out.binds) ?_;rintro ee V2 ⟨⟨c1,rfl,hc1⟩,hd⟩;refine⟨_,rfl,?_⟩;have Hc1:=hide hc1;clear hc1 b8 a9;have HA2:=hide (HA1.out.call hd);have HB2:=hide (HB1.out.call hd);have HL2:=hide (blw_up HL1.out hd);have HP2:=hide (HP1.out.below hd);have HQ2:=hide (HQ1.out.below hd);clear HA1 HB1 HL1 HP1 HQ1;clear hd;simp only[List.set_cons_zero,List.set_cons_succ];refine sk ?_;refine wpList_nil ?_
   first
    | (rename_i hK;refine hK _ _ ?_;clear hK)
    | (rename_i hK zK;refine hK _ _ ?_;clear hK)
   rcases Bool.eq_false_or_eq_true c1 with rfl|rfl
   ·have Hm:=hide (HM.out.mpr (.inl (Hc1.out.mp rfl)));clear HM Hc1
    go_wp2_with fail
    go_ret;exact⟨RetB.slot true (by simp only[true_iff];exact Hm.out),HL2.out⟩
   have Hm1:Hid (¬meets q.names p.binds):=hide fun h=>by have:=Hc1.out.mpr h;cases this
   clear Hc1;have a8:=HA2.out.cell 8;have b9:=HB2.out.cell 9
   go_upto_region 5 with fail
   refine wp_region_lit ?_;refine sk ?_;refine sk ?_;refine sk ?_;refine sk ?_;refine gc (meets_any HP2.out.names HQ2.out.binds) ?_;rintro ee V3 ⟨⟨c2,rfl,hc2⟩,hd⟩;refine⟨_,rfl,?_⟩;have Hc2:=hide hc2;clear hc2 a8 b9;have HA3:=hide (HA2.out.call hd);have HB3:=hide (HB2.out.call hd);have HL3:=hide (blw_up HL2.out hd);have HP3:=hide (HP2.out.below hd);have HQ3:=hide (HQ2.out.below hd);clear HA2 HB2 HL2 HP2 HQ2;clear hd;simp only[List.set_cons_zero,List.set_cons_succ];refine sk ?_;refine wpList_nil ?_
   first
    | (rename_i hK;refine hK _ _ ?_;clear hK)
    | (rename_i hK zK;refine hK _ _ ?_;clear hK)
   rcases Bool.eq_false_or_eq_true c2 with rfl|rfl
   ·have Hm:=hide (HM.out.mpr (.inr (.inl (Hc2.out.mp rfl))));clear HM Hc2
    go_wp2_with fail
    go_ret;exact⟨RetB.slot true (by simp only[true_iff];exact Hm.out),HL3.out⟩
   have Hm2:Hid (¬meets p.names q.binds):=hide fun h=>by have:=Hc2.out.mpr h;cases this
   clear Hc2
   go_wp2_with fail
   go_ret;exact⟨RetB.slot false (by simp only[Bool.false_eq_true,false_iff];rw[HM.out];rintro(h|h|h);exact Hm1.out h;exact Hm2.out h;exact h.2.1 Hk2.out),HL3.out⟩
  ·have e1:((p.kind:Int) == 1)=false:=by simp;omega
   have e2:((q.kind:Int) == 1)=false:=by simp;omega
   simp only[e1,e2];have HM:=hide (mix_no (p:=p) (q:=q) (by omega));have Hk1:Hid (p.kind≠1):=hide h1;have Hk2:Hid (q.kind≠1):=hide h2;clear h1 h2 e1 e2;have b8:=HB1.out.cell 8;have a9:=HA1.out.cell 9
   go_upto_region 4 with fail
   refine wp_region_lit ?_;refine sk ?_;refine sk ?_;refine sk ?_;refine sk ?_;refine gc (meets_any HQ1.out.names HP1.out.binds) ?_;rintro ee V2 ⟨⟨c1,rfl,hc1⟩,hd⟩;refine⟨_,rfl,?_⟩;have Hc1:=hide hc1;clear hc1 b8 a9;have HA2:=hide (HA1.out.call hd);have HB2:=hide (HB1.out.call hd);have HL2:=hide (blw_up HL1.out hd);have HP2:=hide (HP1.out.below hd);have HQ2:=hide (HQ1.out.below hd);clear HA1 HB1 HL1 HP1 HQ1;clear hd;simp only[List.set_cons_zero,List.set_cons_succ];refine sk ?_;refine wpList_nil ?_
   first
    | (rename_i hK;refine hK _ _ ?_;clear hK)
    | (rename_i hK zK;refine hK _ _ ?_;clear hK)
   rcases Bool.eq_false_or_eq_true c1 with rfl|rfl
   ·have Hm:=hide (HM.out.mpr (.inl (Hc1.out.mp rfl)));clear HM Hc1
    go_wp2_with fail
    go_ret;exact⟨RetB.slot true (by simp only[true_iff];exact Hm.out),HL2.out⟩
   have Hm1:Hid (¬meets q.names p.binds):=hide fun h=>by have:=Hc1.out.mpr h;cases this
   clear Hc1;have a8:=HA2.out.cell 8;have b9:=HB2.out.cell 9
   go_upto_region 5 with fail
   refine wp_region_lit ?_;refine sk ?_;refine sk ?_;refine sk ?_;refine sk ?_;refine gc (meets_any HP2.out.names HQ2.out.binds) ?_;rintro ee V3 ⟨⟨c2,rfl,hc2⟩,hd⟩;refine⟨_,rfl,?_⟩;have Hc2:=hide hc2;clear hc2 a8 b9;have HA3:=hide (HA2.out.call hd);have HB3:=hide (HB2.out.call hd);have HL3:=hide (blw_up HL2.out hd);have HP3:=hide (HP2.out.below hd);have HQ3:=hide (HQ2.out.below hd);clear HA2 HB2 HL2 HP2 HQ2;clear hd;simp only[List.set_cons_zero,List.set_cons_succ];refine sk ?_;refine wpList_nil ?_
   first
    | (rename_i hK;refine hK _ _ ?_;clear hK)
    | (rename_i hK zK;refine hK _ _ ?_;clear hK)
   rcases Bool.eq_false_or_eq_true c2 with rfl|rfl
   ·have Hm:=hide (HM.out.mpr (.inr (.inl (Hc2.out.mp rfl))));clear HM Hc2
    go_wp2_with fail
    go_ret;exact⟨RetB.slot true (by simp only[true_iff];exact Hm.out),HL3.out⟩
   have Hm2:Hid (¬meets p.names q.binds):=hide fun h=>by have:=Hc2.out.mpr h;cases this
   clear Hc2;have p1:=hide (HP3.out.params Hk1.out);have p2:=hide (HQ3.out.params Hk2.out);have q1:=hide (HP3.out.calls Hk1.out);have q2:=hide (HQ3.out.calls Hk2.out);have ar:=HA3.out.cell 10;have al:=HA3.out.cell 11;have br:=HB3.out.cell 10;have bl:=HB3.out.cell 11;clear HA3 HB3 HP3 HQ3;have fin :∀b:Bool,b=(r1 && l2 || r2 && l1)→(b=true↔edMix p q):=fun b hb=>by
    rw[HM.out,hb];simp only[Hm1.out,Hm2.out,false_or,ne_eq,Hk1.out,Hk2.out,not_false_eq_true,true_and,Bool.or_eq_true,Bool.and_eq_true,p1.out,p2.out,q1.out,q2.out]
   have Fin:=hide fin;clear fin p1 p2 q1 q2 HM Hm1 Hm2;cases r1<;>cases l2<;>cases r2<;>cases l1
   all_goals
    go_wp2_with fail
    go_ret;exact⟨RetB.slot _ (Fin.out _ rfl),HL3.out⟩
end
end Go.Proofs.YtialngdffhmobaaGreatDoor
