/- Part 26 of what commuteFiles_cardUpto rests on. -/
import Derived.Test.YtialngdffhmobaaGreatDoorV21
import Derived.Test.YtialngdffhmobaaGreatDoorV22
import Derived.Test.YtialngdffhmobaaGreatDoorV13
import Derived.Test.YtialngdffhmobaaGreatDoorV23
import Derived.Test.YtialngdffhmobaaGreatDoorV24
import Derived.Test.YtialngdffhmobaaGreatDoorV20
import Derived.Test.YtialngdffhmobaaGreatDoorV19
import Derived.Test.YtialngdffhmobaaGreatDoorV02
import Derived.Test.YtialngdffhmobaaGreatDoorV17
import Derived.Test.YtialngdffhmobaaGreatDoorV00
set_option linter.unusedVariables false
set_option linter.unusedSimpArgs false
set_option maxHeartbeats 16000000
set_option maxRecDepth 1000000
namespace Go.Proofs.YtialngdffhmobaaGreatDoor
section
open Go.RowKit
theorem Jj{f:Fo}(h:dD f):∃k t n ks,f = .cons k t n ks .nil∧gm 40 k t n ks:=by
 match f,h with
 | .cons k t n ks .nil,h=>exact⟨k,t,n,ks,rfl,h⟩
theorem zV{S:Nat→Prop}{x:Eh}{e:Ed}{w:World}(he:gq S w x e)(htab:aW w)(hsum:e.frm.size+e.to.size≤9223372036854775807):
  Calls Tryz.prog 36 #[.agg #[.int .u8 e.kind,.slice x.pA e.path.length x.pc,.int .i64 e.at_,.int .i64 e.far,.string e.frm,.string e.to,.slice x.oA e.old.len x.oc,.slice x.nA e.new.len x.nc]] w fun e1 w'=>ay (bQ e) e1∧Below w.heap.size w w':=by
 have hkk:=he.kind;obtain⟨kd,path,at_,far,frm,aX,old,new⟩:=e;simp only at hsum hkk;by_cases h1:kd=1
 ·subst h1;exact qA he htab hsum
 by_cases h2:kd=2
 ·subst h2;by_cases hq:frm=aV∧aX=aV
  ·obtain⟨rfl,rfl⟩:=hq;exact ET (.inl ⟨rfl,rfl⟩) he htab hsum rfl rfl
  ·exact Dx (.inl ⟨rfl,rfl⟩) he htab hsum hq
 by_cases h3:kd=3
 ·subst h3;by_cases hq:frm=aV∧aX=aV
  ·obtain⟨rfl,rfl⟩:=hq;exact ET (.inr (.inl ⟨rfl,rfl⟩)) he htab hsum rfl rfl
  ·exact Dx (.inr (.inl ⟨rfl,rfl⟩)) he htab hsum hq
 by_cases h5:kd=5
 ·subst h5;by_cases hq:frm=aV∧aX=aV
  ·obtain⟨rfl,rfl⟩:=hq;exact ET (.inr (.inr ⟨rfl,rfl⟩)) he htab hsum rfl rfl
  ·exact Dx (.inr (.inr (.inl ⟨rfl,rfl⟩))) he htab hsum hq
 by_cases h4:kd=4
 ·subst h4;by_cases hq:frm=aV∧aX=aV
  ·obtain⟨rfl,rfl⟩:=hq;by_cases hp:dD old∧dD new∧at_=0∧far=0
   ·obtain⟨hp1,hp2,rfl,rfl⟩:=hp;obtain⟨k,t,n,ks,rfl,g1⟩:=Jj hp1;obtain⟨k2,t2,n2,wU,rfl,g2⟩:=Jj hp2;exact MR he.path he.oc he.nc he.old he.new g1 g2 htab
   ·exact LK he htab hsum rfl rfl hp
  ·exact Dx (.inr (.inr (.inr ⟨rfl,rfl⟩))) he htab hsum hq
 by_cases hq:frm=aV∧aX=aV
 ·obtain⟨rfl,rfl⟩:=hq;exact MS he htab hsum rfl rfl (by simp only;omega) (by simp only;omega) (by simp only;omega) (by simp only;omega) (by simp only;omega)
 ·exact MV he htab hsum hq (by simp only;omega) (by simp only;omega) (by simp only;omega) (by simp only;omega) (by simp only;omega)
theorem Bg{S:Nat→Prop}{x:Eh}{e:Ed}{w:World}(he:gq S w x e)(htab:aW w)(hsum:e.frm.size+e.to.size≤9223372036854775807)(hok:bQ e):
  Calls Tryz.prog 36 #[.agg #[.int .u8 e.kind,.slice x.pA e.path.length x.pc,.int .i64 e.at_,.int .i64 e.far,.string e.frm,.string e.to,.slice x.oA e.old.len x.oc,.slice x.nA e.new.len x.nc]] w fun e1 w'=>e1 = .returned (.bool true)∧Below w.heap.size w w':=by
 refine(zV he htab hsum).mono ?_;rintro e1 w' ⟨⟨b,rfl,hb⟩,hB⟩;exact⟨by rw[hb.mpr hok],hB⟩
theorem bC:(Tryz.prog.info? 30).map (·.size)=some 8:=by kernel_rfl
abbrev ae(e:Ed)(x:Eh):List Value:=[.int .u8 e.kind,.slice x.pA e.path.length x.pc,.int .i64 e.at_,.int .i64 e.far,.string e.frm,.string e.to,.slice x.oA e.old.len x.oc,.slice x.nA e.new.len x.nc]
abbrev ah:List Value:=[.int .u8 0,.slice none 0 0,.int .i64 0,.int .i64 0,.string ByteArray.empty,.string ByteArray.empty,.slice none 0 0,.slice none 0 0]
theorem dB(e:Ed)(x:Eh):(ae e x).toArray.all (·.oneCell')=true:=all_oneCell_toArray (by
 intro v hv;simp only[List.mem_cons,List.not_mem_nil,or_false]at hv;rcases hv with rfl|rfl|rfl|rfl|rfl|rfl|rfl|rfl<;>rfl)
structure kH(w:World)(x:Eh)(e:Ed):Prop where
 r:gq Any w x e
 b:ja e
theorem kH.below{w w':World}{x:Eh}{e:Ed}(a:kH w x e)(hB:Below w.heap.size w w'):kH w' x e:=⟨a.r.below hB,a.b⟩
theorem gK.x{w:World}{x x0:Eh}{e e0:Ed}{L:List Nat}(a:gK w x e L x0 e0)(hb:ja e)(hr:zL x0):kH w x e:=⟨a.in_ hb hr,hb⟩
theorem xk(l:List Int):∀u∈l.map (Value.int .i64),u.oneCell'=true:=by intro u hu;obtain⟨x,_,rfl⟩:=List.mem_map.1 hu;rfl
theorem MW{x:Eh}{path:List Int}{at_ far:Int}{frm aX:ByteArray}{old new:Fo}{w:World}(H:kH w x ⟨5,path,at_,far,frm,aX,old,new⟩)(htab:aW w)(hok:bQ ⟨5,path,at_,far,frm,aX,old,new⟩):
  Calls Tryz.prog 182 #[.agg (ae ⟨5,path,at_,far,frm,aX,old,new⟩ x).toArray] w fun e w'=>(∃y L,e = .returned (.agg (ae ⟨5,path,far,at_,aX,frm,old,new⟩ y).toArray)∧gK w' y ⟨5,path,far,at_,aX,frm,old,new⟩ L x ⟨5,path,at_,far,frm,aX,old,new⟩∧New w w' L)∧Below w.heap.size w w':=by
 have hnil:new = .nil:=by
  obtain⟨_,h|h|h|h|h⟩:=hok
  ·exact absurd h.1 (by show¬(5:Nat)=_;decide)
  ·exact absurd h.1 (by show¬(5:Nat)=_;decide)
  ·exact absurd h.1 (by show¬(5:Nat)=_;decide)
  ·exact absurd h.1 (by show¬(5:Nat)=_;decide)
  ·exact h.2.2.2.1
 obtain⟨W0,hW0⟩:∃W0,W0=(w.alloc (.cells (ae ⟨5,path,at_,far,frm,aX,old,new⟩ x).toArray 30)).alloc (.cells ah.toArray 30):=⟨_,rfl⟩;obtain⟨hN0,hR0⟩:=mM w (ae ⟨5,path,at_,far,frm,aX,old,new⟩ x) ah 30 30;rw[←hW0]at hN0 hR0;have hB0:Below w.heap.size w W0:=by rw[hW0];exact dW _ _
 have HW0:=hide hW0;have eu:=hide hN0;have HR0:=hide hR0;have HB0:=hide hB0;have HH:=hide H;have aS:=hide htab;have hs0:W0.heap.size=w.heap.size+2:=by rw[hW0];simp
 have gI:=hide hs0;have fQ:=hide hok;have HR:Hid (Calls Tryz.prog 36 #[.agg (ae ⟨5,path,at_,far,frm,aX,old,new⟩ x).toArray] W0 fun e1 w'=>e1 = .returned (.bool true)∧Below W0.heap.size W0 w'):=hide (Bg (x:=x) (e:=⟨5,path,at_,far,frm,aX,old,new⟩) (H.r.below hB0) (htab.below hB0) H.b.sum hok);have Bh:=hide hnil;clear hW0 hN0 hR0 hB0 H htab hs0 hok hnil;go_enter Tryz.func182,Tryz.ntmps182
 go_upto_region 1 with fail
 change Code.wp _ _ _ _ ((w.alloc (.cells (ae ⟨5,path,at_,far,frm,aX,old,new⟩ x).toArray 30)).alloc (.cells ah.toArray 30));rw[←HW0.out];clear HW0;refine wp_region_lit ?_;refine gl ?_ eu.out.c Tryz.underlying30 bC;refine gc HR.out ?_;rintro e1 w1 ⟨rfl,hB⟩;refine⟨_,rfl,?_⟩;refine sk (v:= .bool false) ?_;refine wpList_nil ?_;rename_i hK;refine hK _ _ ?_;clear hK;have dQ:=hide (eu.out.call hB);have HR1:=hide (HR0.out.call hB);have HB1:=hide (aQ HB0.out hB);have jc:Hid (w.heap.size+2≤w1.heap.size):=hide (by have:=hB.size;have:=gI.out;omega);clear hB HR eu HR0 HB0 gI
 go_upto_region 3 with fail
 have k1:=dQ.out.cell 1;refine wp_region_lit ?_;refine sk ?_;refine sk ?_;refine gc (ve (HH.out.r.path.1.below HB1.out) (by simp) (xk path) HH.out.b.path.2) ?_;rintro e2 w2 ⟨v,rfl,hown,hg,hB⟩;obtain⟨A1,c1,rfl⟩:=lG hown;refine⟨_,rfl,?_⟩;have fV:=hide (dQ.out.call hB);have HR2:=hide (HR1.out.call hB);have HB2:=hide (aQ HB1.out hB);have HP2:Hid (eF 3 w2 A1 c1 path.length (path.map (.int .i64)) (ob (.slice A1 path.length c1))):=hide ⟨hown,rfl⟩;have oZ:Hid (New w w2 (ob (.slice A1 path.length c1))):=hide ((HP2.out.new hg).from HB1.out.size);have kJ:Hid (∀b∈ob (.slice A1 path.length c1),w.heap.size+2≤b):=hide (fun b hb=>aI jc.out (hg b (gy.1 hb)));have lF:Hid (w.heap.size+2≤w2.heap.size):=hide (aI jc.out hB.size);clear hB hown hg k1 dQ HR1 HB1 jc;have k2:=fV.out.cell 1;have f2:=fV.out.f;refine sk ?_;refine ss ?_;refine wpList_nil ?_;rename_i hK;refine hK _ _ ?_;clear hK;change Code.wp _ _ _ _ (w2.setCells w.heap.size 1 [.slice A1 path.length c1]);have fU:=hide (fV.out.puts 1 [.slice A1 path.length c1] (ae ⟨5,path,at_,far,frm,aX,old,new⟩ ⟨A1,c1,x.oA,x.oc,x.nA,x.nc⟩) (by simp));have HR3:=hide (HR2.out.off (M:=w.heap.size) (by omega) 1 [.slice A1 path.length c1]);have HB3:=hide (dK (aC w.heap.size) [.slice A1 path.length c1] 1 HB2.out);have jQ:=hide (HP2.out.keep (jU (o:=1) (vs:=[.slice A1 path.length c1]) (N:=w.heap.size) fun b hb e=>by have:=kJ.out b hb;omega));have kU:Hid (w.heap.size+2≤(w2.setCells w.heap.size 1 [.slice A1 path.length c1]).heap.size):=hide (by rw[dU];exact lF.out);have iy:Hid (New w (w2.setCells w.heap.size 1 [.slice A1 path.length c1]) (ob (.slice A1 path.length c1))):=hide (oZ.out.up (by rw[dU];exact aC _));clear k2 f2 fV HR2 HB2 HP2 lF oZ;generalize w2.setCells w.heap.size 1 [.slice A1 path.length c1]=W3 at fU HR3 HB3 jQ kU iy⊢
 go_upto_region 4 with fail
 have k4:=fU.out.cell 4;have k5:=fU.out.cell 5;have f3:=fU.out.f;refine wp_region_lit ?_;refine sk ?_;refine sk ?_;refine sk ?_;refine sk ?_;refine sk ?_;refine ss ?_;refine sk ?_;refine ss ?_;refine wpList_nil ?_;rename_i hK;refine hK _ _ ?_;clear hK;change Code.wp _ _ _ _ (W3.setCells w.heap.size 4 [.string aX,.string frm]);have eQ:=hide (fU.out.puts 4 [.string aX,.string frm] (ae ⟨5,path,at_,far,aX,frm,old,new⟩ ⟨A1,c1,x.oA,x.oc,x.nA,x.nc⟩) (by simp));have HR4:=hide (HR3.out.off (M:=w.heap.size) (by omega) 4 [.string aX,.string frm]);have HB4:=hide (dK (aC w.heap.size) [.string aX,.string frm] 4 HB3.out);have lK:=hide (jQ.out.keep (jU (o:=4) (vs:=[.string aX,.string frm]) (N:=w.heap.size) fun b hb e=>by have:=kJ.out b hb;omega));have mO:Hid (w.heap.size+2≤(W3.setCells w.heap.size 4 [.string aX,.string frm]).heap.size):=hide (by rw[dU];exact kU.out);have jD:Hid (New w (W3.setCells w.heap.size 4 [.string aX,.string frm]) (ob (.slice A1 path.length c1))):=hide (iy.out.up (by rw[dU];exact aC _));clear k4 k5 f3 fU HR3 HB3 jQ kU iy;generalize W3.setCells w.heap.size 4 [.string aX,.string frm]=W4 at eQ HR4 HB4 lK mO jD⊢;have k0:=eQ.out.cell 0
 go_upto_region 6 with fail
 have j2:=eQ.out.cell 2;have j3:=eQ.out.cell 3;have j6:=eQ.out.cell 6;have f4:=eQ.out.f;have z4:=eQ.out.lt;have hbD:=HB4.out.drew;have hnD:=eQ.out.drew;have kC:=hide hbD;have mJ:=hide hnD;clear hbD hnD
 go_region_with (go_at_call 220;(with_reducible refine(vH (f:=old) (HH.out.r.old.below (by first|exact kC.out|exact HB4.out)) HH.out.r.oc.1 HH.out.r.oc.2 HH.out.b.old).mono ?_);rintro ea wa ⟨⟨Aa,ca,La,rfl,hno,hnw⟩,hB⟩;have ig:Hid (Bx wa w.heap.size (ae ⟨5,path,at_,far,aX,frm,old,new⟩ ⟨A1,c1,x.oA,x.oc,x.nA,x.nc⟩)):=hide (by first|exact mJ.out.call hB|exact eQ.out.call hB);have kG:Hid (Below w.heap.size w wa):=hide (by first|exact aQ kC.out hB|exact aQ HB4.out hB);have ca2:=ig.out.cell 2;have ca3:=ig.out.cell 3;have vO:=ig.out.cell 6;have fa:=ig.out.f;have hza:=ig.out.lt;have kT:=hide hB;have sG:=hide hno;have jE:=hide hnw;clear hB hno hnw)
 all_goals
  clear mJ kC
  go_upto_region 7 with fail
  have dY:Hid (Below W4.heap.size W4 wa):=hide (by first|exact uF kT.out|exact kT.out);have jF:Hid (New W4 wa La):=hide (by first|exact jE.out|exact⟨jE.out.nd,jE.out.ge,jE.out.lt⟩);have MX:=hide (HR4.out.call dY.out);have Bi:=hide (lK.out.below dY.out);clear kT jE ca2 ca3 vO fa hza j2 j3 j6 f4 z4 k0 HR4 eQ;change Code.wp _ _ _ _ ((wa.setCells w.heap.size 2 [.int .i64 far,.int .i64 at_]).setCells w.heap.size 6 [.slice Aa old.len ca]);have jd:=hide (((ig.out.puts 2 [.int .i64 far,.int .i64 at_] (ae ⟨5,path,far,at_,aX,frm,old,new⟩ ⟨A1,c1,x.oA,x.oc,x.nA,x.nc⟩) (by simp)).puts 6 [.slice Aa old.len ca] (ae ⟨5,path,far,at_,aX,frm,old,new⟩ ⟨A1,c1,Aa,ca,x.nA,x.nc⟩) (by simp)));have ku:=hide ((MX.out.off (M:=w.heap.size) (by omega) 2 [.int .i64 far,.int .i64 at_]).off (M:=w.heap.size) (by omega) 6 [.slice Aa old.len ca]);have iV:=hide (dK (aC w.heap.size) [.slice Aa old.len ca] 6 (dK (aC w.heap.size) [.int .i64 far,.int .i64 at_] 2 kG.out));have lT:Hid (∀b∈ob (.slice A1 path.length c1)++(La++[]),w.heap.size+2≤b):=hide fun b hb=>by
   rw[List.append_nil]at hb;rcases List.mem_append.1 hb with hb|hb
   ·exact kJ.out b hb
   ·have:=jF.out.ge b hb;have:=mO.out;omega
  have hk5 :∀b,w.heap.size+2≤b→((wa.setCells w.heap.size 2 [.int .i64 far,.int .i64 at_]).setCells w.heap.size 6 [.slice Aa old.len ca]).heap[b]?=wa.heap[b]?:=fun b hb=>(iI _ (by omega) _ _ _).trans (iI _ (by omega) _ _ _);have kK:Hid (New w ((wa.setCells w.heap.size 2 [.int .i64 far,.int .i64 at_]).setCells w.heap.size 6 [.slice Aa old.len ca]) (ob (.slice A1 path.length c1)++(La++[]))):=hide (by rw[List.append_nil];exact(jD.out.app jF.out HB4.out.size dY.out.size).up (by rw[dU,dU];exact aC _));have nz:Hid (gK ((wa.setCells w.heap.size 2 [.int .i64 far,.int .i64 at_]).setCells w.heap.size 6 [.slice Aa old.len ca]) ⟨A1,c1,Aa,ca,x.nA,x.nc⟩ ⟨5,path,far,at_,aX,frm,old,new⟩ (ob (.slice A1 path.length c1)++(La++[])) x ⟨5,path,at_,far,frm,aX,old,new⟩):=hide ⟨_,_,_,.inl (Bi.out.keep fun b hb=>hk5 b (kJ.out b hb)),.inl (sG.out.keep fun b hb=>hk5 b (lT.out b (by simp[hb]))),.inr ⟨Bh.out,by show new.len=0;rw[Bh.out];rfl,rfl,rfl,rfl⟩,rfl⟩;generalize (wa.setCells w.heap.size 2 [.int .i64 far,.int .i64 at_]).setCells w.heap.size 6 [.slice Aa old.len ca]=W5 at jd ku iV kK nz⊢;clear hk5;refine wp_region_lit ?_;refine gl ?_ jd.out.c Tryz.underlying30 bC;refine gs (cells:=(ae ⟨5,path,far,at_,aX,frm,old,new⟩ ⟨A1,c1,Aa,ca,x.nA,x.nc⟩).toArray) ?_ (ku.out.th (o:=0) (by simp)) bC (dB _ _);refine wpList_nil ?_;rename_i hK;refine hK _ _ ?_;clear hK;refine wp_ret ?_;simp only[Exit.then];have mr:=ku.out.puts 0 (ae ⟨5,path,far,at_,aX,frm,old,new⟩ ⟨A1,c1,Aa,ca,x.nA,x.nc⟩) (ae ⟨5,path,far,at_,aX,frm,old,new⟩ ⟨A1,c1,Aa,ca,x.nA,x.nc⟩) (by simp);exact bodyPost_ret (v:= .agg (ae ⟨5,path,far,at_,aX,frm,old,new⟩ ⟨A1,c1,Aa,ca,x.nA,x.nc⟩).toArray) (nJ Tryz.results182 mr.c Tryz.underlying30 bC) rfl ⟨⟨_,_,rfl,nz.out.keep (jU fun b hb e=>by have:=lT.out b hb;omega),kK.out.up (by rw[dU];exact aC _)⟩,dK (by omega) _ _ iV.out⟩
end
end Go.Proofs.YtialngdffhmobaaGreatDoor
