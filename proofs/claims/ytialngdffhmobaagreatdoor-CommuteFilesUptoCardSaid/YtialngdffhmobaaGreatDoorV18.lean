/- Part 19 of what commuteFiles_cardUpto rests on. -/
import Derived.Deep.RegionHeld
import Derived.Deep.RegionWith
import Derived.Deep.Cut
import Derived.Test.YtialngdffhmobaaGreatDoorV03
import Derived.Test.YtialngdffhmobaaGreatDoorV09
import Derived.Test.YtialngdffhmobaaGreatDoorV12
import Derived.Test.YtialngdffhmobaaGreatDoorV17
import Derived.Test.YtialngdffhmobaaGreatDoorV04
import Derived.Test.YtialngdffhmobaaGreatDoorV13
import Derived.Test.YtialngdffhmobaaGreatDoorV00
set_option linter.unusedVariables false
set_option linter.unusedSimpArgs false
set_option maxHeartbeats 16000000
set_option maxRecDepth 1000000
namespace Go.Proofs.YtialngdffhmobaaGreatDoor
section
open Go.RowKit
abbrev au(h:Hk)(x:Hh):List Value:=[.int .i64 h.at_,.slice x.oA h.old.length x.oc,.slice x.nA h.new.length x.nc]
structure lS(w:World)(x:Hh)(h:Hk):Prop where
 r:jv Any w x h
 b:jm h
theorem lS.below{w w':World}{x:Hh}{h:Hk}(a:lS w x h)(hB:Below w.heap.size w w'):lS w' x h:=⟨a.r.below hB,a.b⟩
theorem jM.x{w:World}{x:Hh}{h:Hk}{L:List Nat}(a:jM w x h L)(hb:jm h):lS w x h:=⟨(jM.s (x0:=⟨none,0,none,0⟩) (h0:=Hk.zero) a).in_ hb ⟨by decide,by decide⟩,hb⟩
theorem IZ{x:Hh}{h:Hk}{w:World}(ho:h.old.length≤549755813888)(hn:h.new.length≤549755813888):
  Calls Tryz.prog 48 #[.agg (au h x).toArray] w fun e w'=>e = .returned (.int .i64 h.more)∧Below w.heap.size w w':=by
 have hw:=qR (n:=(h.new.length:Int)-(h.old.length:Int)) ⟨by omega,by omega⟩;clear ho hn;go_enter Tryz.func48,Tryz.ntmps48
 go_wp2_with fail
 go_ret;exact⟨rfl,bg _ _⟩
theorem I4{x y:Hh}{p q:Hk}{A:Option Addr}{n c:Nat}{w:World}:
  Calls Tryz.prog 45 #[.agg (au p x).toArray,.slice A n c,.agg (au q y).toArray] w fun e w'=>e = .returned (.bool (decide (p.at_<wrap64 (q.at_-n))))∧Below w.heap.size w w':=by
 go_enter Tryz.func45,Tryz.ntmps45
 go_wp2_with fail
 go_ret;exact⟨rfl,dW _ _⟩
theorem iJ:(Tryz.prog.info? 94).map (·.size)=some 3:=by kernel_rfl
theorem jB(h:Hk)(x:Hh):(au h x).toArray.all (·.oneCell')=true:=all_oneCell_toArray (by
 intro v hv;simp only[List.mem_cons,List.not_mem_nil,or_false]at hv;rcases hv with rfl|rfl|rfl<;>rfl)
theorem jU{w:World}{N o:Nat}{vs:List Value}{L:List Nat}(h :∀b∈L,b≠N):∀b∈L,(w.setCells N o vs).heap[b]?=w.heap[b]?:=fun b hb=>iI N (h b hb) vs o w
theorem jM.two{w W w1 w2:World}{A1 A2:Option Addr}{c1 c2:Nat}{h:Hk}(o1:w1.ownsRow 0 9 1 (.slice A1 h.old.length c1) h.old.length (h.old.map .string))(g1 :∀g,(Value.slice A1 h.old.length c1).ownBlock=some g→W.heap.size≤g)
  (o2:w2.ownsRow 0 9 1 (.slice A2 h.new.length c2) h.new.length (h.new.map .string)) (g2 :∀g,(Value.slice A2 h.new.length c2).ownBlock=some g→w1.heap.size≤g) (hW:w.heap.size≤W.heap.size) (hB:Below w1.heap.size w1 w2) (hW1:W.heap.size≤w1.heap.size):
  jM w2 ⟨A1,c1,A2,c2⟩ h (ob (.slice A1 h.old.length c1)++ob (.slice A2 h.new.length c2))∧New w w2 (ob (.slice A1 h.old.length c1)++ob (.slice A2 h.new.length c2)):=
 ⟨⟨_,_,⟨zN o1 (fun g hg=>(o1.lt g hg).2) hB,rfl⟩,⟨o2,rfl⟩,rfl⟩,New.app (w':=w1) ⟨uH _,fun b hb=>aI hW (g1 b (gy.1 hb)),fun b hb=>(o1.lt b (gy.1 hb)).2⟩ ⟨uH _,fun b hb=>g2 b (gy.1 hb),fun b hb=>(o2.lt b (gy.1 hb)).2⟩ (aI hW hW1) hB.size⟩
theorem Du{x:Hh}{h:Hk}{pX:Int}{w:World}(H:lS w x h):
  Calls Tryz.prog 47 #[.agg (au h x).toArray,.int .i64 pX] w fun e w'=>(∃y L,e = .returned (.agg (au ⟨IntKind.i64.wrap (h.at_+pX),h.old,h.new⟩ y).toArray)∧jM w' y ⟨IntKind.i64.wrap (h.at_+pX),h.old,h.new⟩ L∧New w w' L)∧Below w.heap.size w w':=by
 have ho1 :∀l:List ByteArray,∀u∈l.map Value.string,u.oneCell'=true:=by intro l u hu;obtain⟨x,_,rfl⟩:=List.mem_map.1 hu;rfl
 have MB:Hid (∀W:World,Below w.heap.size w W→Calls Tryz.prog 122 #[.slice x.oA h.old.length x.oc] W fun e w'=>∃v,e = .returned v∧w'.ownsRow 0 9 1 v h.old.length (h.old.map .string)∧(∀g,v.ownBlock=some g→W.heap.size≤g)∧Below W.heap.size W w'):=hide fun W hW=>Df (H.r.old.1.below hW) (by simp) (ho1 _) H.b.old.2;have MC:Hid (∀W:World,Below w.heap.size w W→Calls Tryz.prog 122 #[.slice x.nA h.new.length x.nc] W fun e w'=>∃v,e = .returned v∧w'.ownsRow 0 9 1 v h.new.length (h.new.map .string)∧(∀g,v.ownBlock=some g→W.heap.size≤g)∧Below W.heap.size W w'):=hide fun W hW=>Df (H.r.new.1.below hW) (by simp) (ho1 _) H.b.new.2;clear ho1 H;obtain⟨W0,hW0⟩:∃W0,W0=(w.alloc (.cells (au h x).toArray 94)).alloc (.cells #[.int .i64 0,.slice none 0 0,.slice none 0 0] 94):=⟨_,rfl⟩;have hN0:Bx W0 w.heap.size (au h x):=by rw[hW0];exact(Bx.new w _ _).alloc _
 have hR0:Bx W0 (w.heap.size+1) [.int .i64 0,.slice none 0 0,.slice none 0 0]:=by rw[hW0];have:=Bx.new (w.alloc (.cells (au h x).toArray 94)) [.int .i64 0,.slice none 0 0,.slice none 0 0] 94;simpa using this
 have hB0:Below w.heap.size w W0:=by rw[hW0];exact dW _ _
 have HW0:=hide hW0;have eu:=hide hN0;have HR0:=hide hR0;have HB0:=hide hB0;clear hW0 hN0 hR0 hB0;go_enter Tryz.func47,Tryz.ntmps47
 go_upto_region 1 with fail
 change Code.wp _ _ _ _ ((w.alloc (.cells (au h x).toArray 94)).alloc (.cells #[.int .i64 0,.slice none 0 0,.slice none 0 0] 94));rw[←HW0.out];clear HW0;have k0:=eu.out.cell 0;have f0:=eu.out.f;refine wp_region_lit ?_;refine sk ?_;refine sk ?_;refine sk ?_;refine sk ?_;refine sk ?_;refine sk ?_;refine sk ?_;refine ss ?_;refine wpList_nil ?_;rename_i hK;refine hK _ _ ?_;clear hK;generalize hat:IntKind.i64.wrap (h.at_+pX)=at2;have dQ:=hide (eu.out.puts 0 [.int .i64 at2] [.int .i64 at2,.slice x.oA h.old.length x.oc,.slice x.nA h.new.length x.nc] (by simp));have HR1:=hide (HR0.out.off (M:=w.heap.size) (by omega) 0 [.int .i64 at2]);have HB1:=hide (dK (aC w.heap.size) [.int .i64 at2] 0 HB0.out);simp only[World.setCells]at dQ HR1 HB1;clear k0 f0 eu HR0 HB0;generalize W0.setCell ⟨w.heap.size,0,none⟩ (.int .i64 at2)=W1 at dQ HR1 HB1⊢
 go_upto_region 2 with fail
 have c1:=dQ.out.cell 1;have c2:=dQ.out.cell 2;have f1:=dQ.out.f;have hz:=dQ.out.lt;have hbD:=HB1.out.drew;have hnD:=dQ.out.drew;have EO:Hid (w.heap.size+1<W1.heap.size):=hide HR1.out.lt;have kC:=hide hbD;have mJ:=hide hnD;clear hbD hnD
 go_region_with (first
  | (go_at_call 122;(with_reducible refine(MB.out _ (by first|exact jo.out|exact kC.out|exact HB1.out)).mono ?_);rintro ea wa ⟨va,rfl,hown,hg,hB⟩;obtain⟨Aa,ca,rfl⟩:=lG hown;have ig:Hid (Bx wa w.heap.size [.int .i64 at2,.slice x.oA h.old.length x.oc,.slice x.nA h.new.length x.nc]):=hide (by first|exact jq.out.call hB|exact mJ.out.call hB|exact dQ.out.call hB);have kG:Hid (Below w.heap.size w wa):=hide (by first|exact aQ jo.out hB|exact aQ kC.out hB|exact aQ HB1.out hB);have ca1:=ig.out.cell 1;have ca2:=ig.out.cell 2;have fa:=ig.out.f;have hza:=ig.out.lt;have kT:=hide hB;have sG:=hide hown;have I5:=hide hg;clear hB hown hg)
  | (go_at_call 122;(with_reducible refine(MC.out _ (by first|exact kG.out|exact kC.out|exact HB1.out)).mono ?_);rintro eb wb ⟨vb,rfl,hown,hg,hB⟩;obtain⟨Ab,cb,rfl⟩:=lG hown;have jq:Hid (Bx wb w.heap.size [.int .i64 at2,.slice x.oA h.old.length x.oc,.slice x.nA h.new.length x.nc]):=hide (by first|exact ig.out.call hB|exact mJ.out.call hB|exact dQ.out.call hB);have jo:Hid (Below w.heap.size w wb):=hide (by first|exact aQ kG.out hB|exact aQ kC.out hB|exact aQ HB1.out hB);have cb1:=jq.out.cell 1;have cb2:=jq.out.cell 2;have fb:=jq.out.f;have hzb:=jq.out.lt;have jZ:=hide hB;have vI:=hide hown;have Dv:=hide hg;clear hB hown hg))
 all_goals
  clear mJ kC
  go_upto_region 3 with fail
  have dY:Hid (Below W1.heap.size W1 wa):=hide (by first|exact uF kT.out|exact kT.out);have A8:Hid (∀g,(Value.slice Aa h.old.length ca).ownBlock=some g→W1.heap.size≤g):=I5;have vJ:=hide ((HR1.out.call dY.out).call jZ.out);clear kT I5 HR1 ig dQ ca1 ca2 fa hza cb1 cb2 fb hzb c1 c2 f1 hz;change Code.wp _ _ _ _ (wb.setCells w.heap.size 1 [.slice Aa h.old.length ca,.slice Ab h.new.length cb]);have fV:=hide (jq.out.puts 1 [.slice Aa h.old.length ca,.slice Ab h.new.length cb] (au ⟨at2,h.old,h.new⟩ ⟨Aa,ca,Ab,cb⟩) (by simp));have HR2:=hide (vJ.out.off (M:=w.heap.size) (by omega) 1 [.slice Aa h.old.length ca,.slice Ab h.new.length cb]);have HB2:=hide (dK (aC w.heap.size) [.slice Aa h.old.length ca,.slice Ab h.new.length cb] 1 jo.out);have hz1:w.heap.size+1<W1.heap.size:=EO.out;have hO:=hide (jM.two (h:=⟨at2,h.old,h.new⟩) sG.out A8.out vI.out Dv.out HB1.out.size jZ.out dY.out.size);have hne :∀N,N<w.heap.size+2→∀b∈ob (.slice Aa h.old.length ca)++ob (.slice Ab h.new.length cb),b≠N:=fun N hN b hb e=>by
   rcases List.mem_append.1 hb with hb|hb
   ·have:=A8.out b (gy.1 hb);omega
   ·have:=Dv.out b (gy.1 hb);have:=dY.out.size;omega
  have jP:=hide hne;clear hne;generalize hW2:wb.setCells w.heap.size 1 [.slice Aa h.old.length ca,.slice Ab h.new.length cb]=W2 at fV HR2 HB2⊢;refine wp_region_lit ?_;refine gl ?_ fV.out.c Tryz.underlying94 iJ;refine gs (cells:=(au ⟨at2,h.old,h.new⟩ ⟨Aa,ca,Ab,cb⟩).toArray) ?_ (HR2.out.th (o:=0) (by simp)) iJ (jB _ _);refine wpList_nil ?_;rename_i hK;refine hK _ _ ?_;clear hK;refine wp_ret ?_;have MF:=HR2.out.puts 0 (au ⟨at2,h.old,h.new⟩ ⟨Aa,ca,Ab,cb⟩) (au ⟨at2,h.old,h.new⟩ ⟨Aa,ca,Ab,cb⟩) (by simp);subst hat;refine bodyPost_ret (v:= .agg (au ⟨IntKind.i64.wrap (h.at_+pX),h.old,h.new⟩ ⟨Aa,ca,Ab,cb⟩).toArray) (nJ Tryz.results47 MF.c Tryz.underlying94 iJ) rfl ⟨⟨_,_,rfl,(hO.out.1.keep (w':=W2) ?_).keep (jU (jP.out _ (by omega))),hO.out.2.up ?_⟩,dK (by omega) _ _ HB2.out⟩
  ·rw[←hW2];exact jU (jP.out _ (by omega))
  ·rw[dU,←hW2,dU];exact aC _
end
end Go.Proofs.YtialngdffhmobaaGreatDoor
