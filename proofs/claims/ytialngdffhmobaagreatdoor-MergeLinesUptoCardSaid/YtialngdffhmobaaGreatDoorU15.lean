/- Part 16 of what mgTop rests on. -/
import Derived.Deep.RegionHeld
import Derived.Deep.RegionWith
import Derived.Deep.Cut
import Derived.Test.YtialngdffhmobaaGreatDoorU04
import Derived.Test.YtialngdffhmobaaGreatDoorU07
import Derived.Test.YtialngdffhmobaaGreatDoorU12
import Derived.Test.YtialngdffhmobaaGreatDoorU03
import Derived.Test.YtialngdffhmobaaGreatDoorU00
set_option linter.unusedVariables false
set_option linter.unusedSimpArgs false
set_option maxHeartbeats 16000000
set_option maxRecDepth 1000000
namespace Go.Proofs.YtialngdffhmobaaGreatDoor
section
open Go.RowKit
abbrev hkVs(h:Hk)(x:Hh):List Value:=[.int .i64 h.at_,.slice x.oA h.old.length x.oc,.slice x.nA h.new.length x.nc]
structure HkX(w:World)(x:Hh)(h:Hk):Prop where
 r:HkIn Any w x h
 b:HkB h
theorem HkX.below{w w':World}{x:Hh}{h:Hk}(a:HkX w x h)(hB:Below w.heap.size w w'):HkX w' x h:=⟨a.r.below hB,a.b⟩
theorem HkO.x{w:World}{x:Hh}{h:Hk}{L:List Nat}(a:HkO w x h L)(hb:HkB h):HkX w x h:=⟨(HkO.s (x0:=⟨none,0,none,0⟩) (h0:=Hk.zero) a).in_ hb ⟨by decide,by decide⟩,hb⟩
theorem more_any{x:Hh}{h:Hk}{w:World}(ho:h.old.length≤549755813888)(hn:h.new.length≤549755813888):
  Calls Tryz.prog 48 #[.agg (hkVs h x).toArray] w fun e w'=>e = .returned (.int .i64 h.more)∧Below w.heap.size w w':=by
 have hw:=i64_wrap (n:=(h.new.length:Int)-(h.old.length:Int)) ⟨by omega,by omega⟩;clear ho hn;go_enter Tryz.func48,Tryz.ntmps48
 go_wp2_with fail
 go_ret;exact⟨rfl,below_alloc _ _⟩
theorem ahead_any{x y:Hh}{p q:Hk}{A:Option Addr}{n c:Nat}{w:World}:
  Calls Tryz.prog 45 #[.agg (hkVs p x).toArray,.slice A n c,.agg (hkVs q y).toArray] w fun e w'=>e = .returned (.bool (decide (p.at_<wrap64 (q.at_-n))))∧Below w.heap.size w w':=by
 go_enter Tryz.func45,Tryz.ntmps45
 go_wp2_with fail
 go_ret;exact⟨rfl,below2 _ _⟩
theorem infoPart:(Tryz.prog.info? 94).map (·.size)=some 3:=by kernel_rfl
theorem hkVs_one(h:Hk)(x:Hh):(hkVs h x).toArray.all (·.oneCell')=true:=all_oneCell_toArray (by
 intro v hv;simp only[List.mem_cons,List.not_mem_nil,or_false]at hv;rcases hv with rfl|rfl|rfl<;>rfl)
theorem ob_not{w:World}{e:TypeId}{size n N:Nat}{v:Value}{xs:List Value}{W:World}(h:w.ownsRow 0 e size v n xs)(hg :∀g,v.ownBlock=some g→W.heap.size≤g)(hN:N<W.heap.size):∀b∈ob v,b≠N:=fun b hb e=>by have:=hg b (mem_ob.1 hb);omega
theorem bx_keep{w:World}{N o:Nat}{vs:List Value}{L:List Nat}(h :∀b∈L,b≠N):∀b∈L,(w.setCells N o vs).heap[b]?=w.heap[b]?:=fun b hb=>bx_heap N (h b hb) vs o w
theorem HkO.two{w W w1 w2:World}{A1 A2:Option Addr}{c1 c2:Nat}{h:Hk}(o1:w1.ownsRow 0 9 1 (.slice A1 h.old.length c1) h.old.length (h.old.map .string))(g1 :∀g,(Value.slice A1 h.old.length c1).ownBlock=some g→W.heap.size≤g)
  (o2:w2.ownsRow 0 9 1 (.slice A2 h.new.length c2) h.new.length (h.new.map .string)) (g2 :∀g,(Value.slice A2 h.new.length c2).ownBlock=some g→w1.heap.size≤g) (hW:w.heap.size≤W.heap.size) (hB:Below w1.heap.size w1 w2) (hW1:W.heap.size≤w1.heap.size):
  HkO w2 ⟨A1,c1,A2,c2⟩ h (ob (.slice A1 h.old.length c1)++ob (.slice A2 h.new.length c2))∧New w w2 (ob (.slice A1 h.old.length c1)++ob (.slice A2 h.new.length c2)):=
 ⟨⟨_,_,⟨own_below o1 (fun g hg=>(o1.lt g hg).2) hB,rfl⟩,⟨o2,rfl⟩,rfl⟩,New.app (w':=w1) ⟨ob_nodup _,fun b hb=>Nat.le_trans hW (g1 b (mem_ob.1 hb)),fun b hb=>(o1.lt b (mem_ob.1 hb)).2⟩ ⟨ob_nodup _,fun b hb=>g2 b (mem_ob.1 hb),fun b hb=>(o2.lt b (mem_ob.1 hb)).2⟩ (Nat.le_trans hW hW1) hB.size⟩
theorem part_moved{x:Hh}{h:Hk}{by_:Int}{w:World}(H:HkX w x h):
  Calls Tryz.prog 47 #[.agg (hkVs h x).toArray,.int .i64 by_] w fun e w'=>(∃y L,e = .returned (.agg (hkVs ⟨IntKind.i64.wrap (h.at_+by_),h.old,h.new⟩ y).toArray)∧HkO w' y ⟨IntKind.i64.wrap (h.at_+by_),h.old,h.new⟩ L∧New w w' L)∧Below w.heap.size w w':=by
 have ho1 :∀l:List ByteArray,∀u∈l.map Value.string,u.oneCell'=true:=by intro l u hu;obtain⟨x,_,rfl⟩:=List.mem_map.1 hu;rfl
 have HCo:Hid (∀W:World,Below w.heap.size w W→Calls Tryz.prog 122 #[.slice x.oA h.old.length x.oc] W fun e w'=>∃v,e = .returned v∧w'.ownsRow 0 9 1 v h.old.length (h.old.map .string)∧(∀g,v.ownBlock=some g→W.heap.size≤g)∧Below W.heap.size W w'):=hide fun W hW=>cloneStrs_any (H.r.old.1.below hW) (by simp) (ho1 _) H.b.old.2;have HCn:Hid (∀W:World,Below w.heap.size w W→Calls Tryz.prog 122 #[.slice x.nA h.new.length x.nc] W fun e w'=>∃v,e = .returned v∧w'.ownsRow 0 9 1 v h.new.length (h.new.map .string)∧(∀g,v.ownBlock=some g→W.heap.size≤g)∧Below W.heap.size W w'):=hide fun W hW=>cloneStrs_any (H.r.new.1.below hW) (by simp) (ho1 _) H.b.new.2;clear ho1 H;obtain⟨W0,hW0⟩:∃W0,W0=(w.alloc (.cells (hkVs h x).toArray 94)).alloc (.cells #[.int .i64 0,.slice none 0 0,.slice none 0 0] 94):=⟨_,rfl⟩;have hN0:Bx W0 w.heap.size (hkVs h x):=by rw[hW0];exact(Bx.new w _ _).alloc _
 have hR0:Bx W0 (w.heap.size+1) [.int .i64 0,.slice none 0 0,.slice none 0 0]:=by rw[hW0];have:=Bx.new (w.alloc (.cells (hkVs h x).toArray 94)) [.int .i64 0,.slice none 0 0,.slice none 0 0] 94;simpa using this
 have hB0:Below w.heap.size w W0:=by rw[hW0];exact below2 _ _
 have HW0:=hide hW0;have HN0:=hide hN0;have HR0:=hide hR0;have HB0:=hide hB0;clear hW0 hN0 hR0 hB0;go_enter Tryz.func47,Tryz.ntmps47
 go_upto_region 1 with fail
 change Code.wp _ _ _ _ ((w.alloc (.cells (hkVs h x).toArray 94)).alloc (.cells #[.int .i64 0,.slice none 0 0,.slice none 0 0] 94));rw[←HW0.out];clear HW0;have k0:=HN0.out.cell 0;have f0:=HN0.out.f;refine wp_region_lit ?_;refine sk ?_;refine sk ?_;refine sk ?_;refine sk ?_;refine sk ?_;refine sk ?_;refine sk ?_;refine ss ?_;refine wpList_nil ?_;rename_i hK;refine hK _ _ ?_;clear hK;generalize hat:IntKind.i64.wrap (h.at_+by_)=at2;have HN1:=hide (HN0.out.puts 0 [.int .i64 at2] [.int .i64 at2,.slice x.oA h.old.length x.oc,.slice x.nA h.new.length x.nc] (by simp));have HR1:=hide (HR0.out.off (M:=w.heap.size) (by omega) 0 [.int .i64 at2]);have HB1:=hide (bx_below (Nat.le_refl w.heap.size) [.int .i64 at2] 0 HB0.out);simp only[World.setCells]at HN1 HR1 HB1;clear k0 f0 HN0 HR0 HB0;generalize W0.setCell ⟨w.heap.size,0,none⟩ (.int .i64 at2)=W1 at HN1 HR1 HB1⊢
 go_upto_region 2 with fail
 have c1:=HN1.out.cell 1;have c2:=HN1.out.cell 2;have f1:=HN1.out.f;have hz:=HN1.out.lt;have hbD:=HB1.out.drew;have hnD:=HN1.out.drew;have HR1z:Hid (w.heap.size+1<W1.heap.size):=hide HR1.out.lt;have HBD:=hide hbD;have HND:=hide hnD;clear hbD hnD
 go_region_with (first
  | (go_at_call 122;(with_reducible refine(HCo.out _ (by first|exact HBb.out|exact HBD.out|exact HB1.out)).mono ?_);rintro ea wa ⟨va,rfl,hown,hg,hB⟩;obtain⟨Aa,ca,rfl⟩:=own_shape hown;have HNa:Hid (Bx wa w.heap.size [.int .i64 at2,.slice x.oA h.old.length x.oc,.slice x.nA h.new.length x.nc]):=hide (by first|exact HNb.out.call hB|exact HND.out.call hB|exact HN1.out.call hB);have HBa:Hid (Below w.heap.size w wa):=hide (by first|exact blw_up HBb.out hB|exact blw_up HBD.out hB|exact blw_up HB1.out hB);have ca1:=HNa.out.cell 1;have ca2:=HNa.out.cell 2;have fa:=HNa.out.f;have hza:=HNa.out.lt;have HVa:=hide hB;have HOa:=hide hown;have HGa:=hide hg;clear hB hown hg)
  | (go_at_call 122;(with_reducible refine(HCn.out _ (by first|exact HBa.out|exact HBD.out|exact HB1.out)).mono ?_);rintro eb wb ⟨vb,rfl,hown,hg,hB⟩;obtain⟨Ab,cb,rfl⟩:=own_shape hown;have HNb:Hid (Bx wb w.heap.size [.int .i64 at2,.slice x.oA h.old.length x.oc,.slice x.nA h.new.length x.nc]):=hide (by first|exact HNa.out.call hB|exact HND.out.call hB|exact HN1.out.call hB);have HBb:Hid (Below w.heap.size w wb):=hide (by first|exact blw_up HBa.out hB|exact blw_up HBD.out hB|exact blw_up HB1.out hB);have cb1:=HNb.out.cell 1;have cb2:=HNb.out.cell 2;have fb:=HNb.out.f;have hzb:=HNb.out.lt;have HVb:=hide hB;have HOb:=hide hown;have HGb:=hide hg;clear hB hown hg))
 all_goals
  clear HND HBD
  go_upto_region 3 with fail
  have HVa2:Hid (Below W1.heap.size W1 wa):=hide (by first|exact blw_undrew HVa.out|exact HVa.out);have HGa2:Hid (∀g,(Value.slice Aa h.old.length ca).ownBlock=some g→W1.heap.size≤g):=HGa;have HRb:=hide ((HR1.out.call HVa2.out).call HVb.out);clear HVa HGa HR1 HNa HN1 ca1 ca2 fa hza cb1 cb2 fb hzb c1 c2 f1 hz;change Code.wp _ _ _ _ (wb.setCells w.heap.size 1 [.slice Aa h.old.length ca,.slice Ab h.new.length cb]);have HN2:=hide (HNb.out.puts 1 [.slice Aa h.old.length ca,.slice Ab h.new.length cb] (hkVs ⟨at2,h.old,h.new⟩ ⟨Aa,ca,Ab,cb⟩) (by simp));have HR2:=hide (HRb.out.off (M:=w.heap.size) (by omega) 1 [.slice Aa h.old.length ca,.slice Ab h.new.length cb]);have HB2:=hide (bx_below (Nat.le_refl w.heap.size) [.slice Aa h.old.length ca,.slice Ab h.new.length cb] 1 HBb.out);have hz1:w.heap.size+1<W1.heap.size:=HR1z.out;have hO:=hide (HkO.two (h:=⟨at2,h.old,h.new⟩) HOa.out HGa2.out HOb.out HGb.out HB1.out.size HVb.out HVa2.out.size);have hne :∀N,N<w.heap.size+2→∀b∈ob (.slice Aa h.old.length ca)++ob (.slice Ab h.new.length cb),b≠N:=fun N hN b hb e=>by
   rcases List.mem_append.1 hb with hb|hb
   ·have:=HGa2.out b (mem_ob.1 hb);omega
   ·have:=HGb.out b (mem_ob.1 hb);have:=HVa2.out.size;omega
  have Hne:=hide hne;clear hne;generalize hW2:wb.setCells w.heap.size 1 [.slice Aa h.old.length ca,.slice Ab h.new.length cb]=W2 at HN2 HR2 HB2⊢;refine wp_region_lit ?_;refine gl ?_ HN2.out.c Tryz.underlying94 infoPart;refine gs (cells:=(hkVs ⟨at2,h.old,h.new⟩ ⟨Aa,ca,Ab,cb⟩).toArray) ?_ (HR2.out.th (o:=0) (by simp)) infoPart (hkVs_one _ _);refine wpList_nil ?_;rename_i hK;refine hK _ _ ?_;clear hK;refine wp_ret ?_;have hR3:=HR2.out.puts 0 (hkVs ⟨at2,h.old,h.new⟩ ⟨Aa,ca,Ab,cb⟩) (hkVs ⟨at2,h.old,h.new⟩ ⟨Aa,ca,Ab,cb⟩) (by simp);subst hat;refine bodyPost_ret (v:= .agg (hkVs ⟨IntKind.i64.wrap (h.at_+by_),h.old,h.new⟩ ⟨Aa,ca,Ab,cb⟩).toArray) (box_result Tryz.results47 hR3.c Tryz.underlying94 infoPart) rfl ⟨⟨_,_,rfl,(hO.out.1.keep (w':=W2) ?_).keep (bx_keep (Hne.out _ (by omega))),hO.out.2.up ?_⟩,bx_below (by omega) _ _ HB2.out⟩
  ·rw[←hW2];exact bx_keep (Hne.out _ (by omega))
  ·rw[bx_size,←hW2,bx_size];exact Nat.le_refl _
end
end Go.Proofs.YtialngdffhmobaaGreatDoor
