/- Part 23 of what mgTop rests on. -/
import Derived.Test.YtialngdffhmobaaGreatDoorU18
import Derived.Test.YtialngdffhmobaaGreatDoorU19
import Derived.Test.YtialngdffhmobaaGreatDoorU17
import Derived.Test.YtialngdffhmobaaGreatDoorU20
import Derived.Test.YtialngdffhmobaaGreatDoorU21
import Derived.Test.YtialngdffhmobaaGreatDoorU16
import Derived.Test.YtialngdffhmobaaGreatDoorU03
import Derived.Test.YtialngdffhmobaaGreatDoorU00
set_option linter.unusedVariables false
set_option linter.unusedSimpArgs false
set_option maxHeartbeats 16000000
set_option maxRecDepth 1000000
namespace Go.Proofs.YtialngdffhmobaaGreatDoor
section
open Go.RowKit
theorem part_cons{f:Fo}(h:PartOk f):∃k t n ks,f = .cons k t n ks .nil∧NodeOk 40 k t n ks:=by
 match f,h with
 | .cons k t n ks .nil,h=>exact⟨k,t,n,ks,rfl,h⟩
theorem edRight_any{S:Nat→Prop}{x:Eh}{e:Ed}{w:World}(he:EdIn S w x e)(htab:TabOk w)(hsum:e.frm.size+e.to.size≤9223372036854775807):
  Calls Tryz.prog 36 #[.agg #[.int .u8 e.kind,.slice x.pA e.path.length x.pc,.int .i64 e.at_,.int .i64 e.far,.string e.frm,.string e.to,.slice x.oA e.old.len x.oc,.slice x.nA e.new.len x.nc]] w fun e1 w'=>RetB (EdOk e) e1∧Below w.heap.size w w':=by
 have hkk:=he.kind;obtain⟨kd,path,at_,far,frm,tto,old,new⟩:=e;simp only at hsum hkk;by_cases h1:kd=1
 ·subst h1;exact edRight_1 he htab hsum
 by_cases h2:kd=2
 ·subst h2;by_cases hq:frm=noTxt∧tto=noTxt
  ·obtain⟨rfl,rfl⟩:=hq;exact edRight_ma (.inl ⟨rfl,rfl⟩) he htab hsum rfl rfl
  ·exact edRight_mb (.inl ⟨rfl,rfl⟩) he htab hsum hq
 by_cases h3:kd=3
 ·subst h3;by_cases hq:frm=noTxt∧tto=noTxt
  ·obtain⟨rfl,rfl⟩:=hq;exact edRight_ma (.inr (.inl ⟨rfl,rfl⟩)) he htab hsum rfl rfl
  ·exact edRight_mb (.inr (.inl ⟨rfl,rfl⟩)) he htab hsum hq
 by_cases h5:kd=5
 ·subst h5;by_cases hq:frm=noTxt∧tto=noTxt
  ·obtain⟨rfl,rfl⟩:=hq;exact edRight_ma (.inr (.inr ⟨rfl,rfl⟩)) he htab hsum rfl rfl
  ·exact edRight_mb (.inr (.inr (.inl ⟨rfl,rfl⟩))) he htab hsum hq
 by_cases h4:kd=4
 ·subst h4;by_cases hq:frm=noTxt∧tto=noTxt
  ·obtain⟨rfl,rfl⟩:=hq;by_cases hp:PartOk old∧PartOk new∧at_=0∧far=0
   ·obtain⟨hp1,hp2,rfl,rfl⟩:=hp;obtain⟨k,t,n,ks,rfl,g1⟩:=part_cons hp1;obtain⟨k2,t2,n2,ks2,rfl,g2⟩:=part_cons hp2;exact edRight_4c he.path he.oc he.nc he.old he.new g1 g2 htab
   ·exact edRight_4a2 he htab hsum rfl rfl hp
  ·exact edRight_mb (.inr (.inr (.inr ⟨rfl,rfl⟩))) he htab hsum hq
 by_cases hq:frm=noTxt∧tto=noTxt
 ·obtain⟨rfl,rfl⟩:=hq;exact edRight_0a he htab hsum rfl rfl (by simp only;omega) (by simp only;omega) (by simp only;omega) (by simp only;omega) (by simp only;omega)
 ·exact edRight_0b he htab hsum hq (by simp only;omega) (by simp only;omega) (by simp only;omega) (by simp only;omega) (by simp only;omega)
theorem Apart.drewn{N:Nat}{w w':World}(h:Apart N w w'):Apart N w w'.drew:=Keep.drew h
theorem edRight_yes{S:Nat→Prop}{x:Eh}{e:Ed}{w:World}(he:EdIn S w x e)(htab:TabOk w)(hsum:e.frm.size+e.to.size≤9223372036854775807)(hok:EdOk e):
  Calls Tryz.prog 36 #[.agg #[.int .u8 e.kind,.slice x.pA e.path.length x.pc,.int .i64 e.at_,.int .i64 e.far,.string e.frm,.string e.to,.slice x.oA e.old.len x.oc,.slice x.nA e.new.len x.nc]] w fun e1 w'=>e1 = .returned (.bool true)∧Below w.heap.size w w':=by
 refine(edRight_any he htab hsum).mono ?_;rintro e1 w' ⟨⟨b,rfl,hb⟩,hB⟩;exact⟨by rw[hb.mpr hok],hB⟩
theorem infoEd:(Tryz.prog.info? 30).map (·.size)=some 8:=by kernel_rfl
abbrev edVs(e:Ed)(x:Eh):List Value:=[.int .u8 e.kind,.slice x.pA e.path.length x.pc,.int .i64 e.at_,.int .i64 e.far,.string e.frm,.string e.to,.slice x.oA e.old.len x.oc,.slice x.nA e.new.len x.nc]
abbrev zeroEd:List Value:=[.int .u8 0,.slice none 0 0,.int .i64 0,.int .i64 0,.string ByteArray.empty,.string ByteArray.empty,.slice none 0 0,.slice none 0 0]
theorem edVs_one(e:Ed)(x:Eh):(edVs e x).toArray.all (·.oneCell')=true:=all_oneCell_toArray (by
 intro v hv;simp only[List.mem_cons,List.not_mem_nil,or_false]at hv;rcases hv with rfl|rfl|rfl|rfl|rfl|rfl|rfl|rfl<;>rfl)
structure EdX(w:World)(x:Eh)(e:Ed):Prop where
 r:EdIn Any w x e
 b:EdB e
theorem EdX.below{w w':World}{x:Eh}{e:Ed}(a:EdX w x e)(hB:Below w.heap.size w w'):EdX w' x e:=⟨a.r.below hB,a.b⟩
theorem EdS.x{w:World}{x x0:Eh}{e e0:Ed}{L:List Nat}(a:EdS w x e L x0 e0)(hb:EdB e)(hr:EhR x0):EdX w x e:=⟨a.in_ hb hr,hb⟩
theorem ints_one(l:List Int):∀u∈l.map (Value.int .i64),u.oneCell'=true:=by intro u hu;obtain⟨x,_,rfl⟩:=List.mem_map.1 hu;rfl
theorem editInvO_5{x:Eh}{path:List Int}{at_ far:Int}{frm tto:ByteArray}{old new:Fo}{w:World}(H:EdX w x ⟨5,path,at_,far,frm,tto,old,new⟩)(htab:TabOk w)(hok:EdOk ⟨5,path,at_,far,frm,tto,old,new⟩):
  Calls Tryz.prog 182 #[.agg (edVs ⟨5,path,at_,far,frm,tto,old,new⟩ x).toArray] w fun e w'=>(∃y L,e = .returned (.agg (edVs ⟨5,path,far,at_,tto,frm,old,new⟩ y).toArray)∧EdS w' y ⟨5,path,far,at_,tto,frm,old,new⟩ L x ⟨5,path,at_,far,frm,tto,old,new⟩∧New w w' L)∧Below w.heap.size w w':=by
 have hnil:new = .nil:=by
  obtain⟨_,h|h|h|h|h⟩:=hok
  ·exact absurd h.1 (by show¬(5:Nat)=_;decide)
  ·exact absurd h.1 (by show¬(5:Nat)=_;decide)
  ·exact absurd h.1 (by show¬(5:Nat)=_;decide)
  ·exact absurd h.1 (by show¬(5:Nat)=_;decide)
  ·exact h.2.2.2.1
 obtain⟨W0,hW0⟩:∃W0,W0=(w.alloc (.cells (edVs ⟨5,path,at_,far,frm,tto,old,new⟩ x).toArray 30)).alloc (.cells zeroEd.toArray 30):=⟨_,rfl⟩;obtain⟨hN0,hR0⟩:=bx_two w (edVs ⟨5,path,at_,far,frm,tto,old,new⟩ x) zeroEd 30 30;rw[←hW0]at hN0 hR0;have hB0:Below w.heap.size w W0:=by rw[hW0];exact below2 _ _
 have HW0:=hide hW0;have HN0:=hide hN0;have HR0:=hide hR0;have HB0:=hide hB0;have HH:=hide H;have Htab:=hide htab;have hs0:W0.heap.size=w.heap.size+2:=by rw[hW0];simp
 have Hs0:=hide hs0;have Hok:=hide hok;have HR:Hid (Calls Tryz.prog 36 #[.agg (edVs ⟨5,path,at_,far,frm,tto,old,new⟩ x).toArray] W0 fun e1 w'=>e1 = .returned (.bool true)∧Below W0.heap.size W0 w'):=hide (edRight_yes (x:=x) (e:=⟨5,path,at_,far,frm,tto,old,new⟩) (H.r.below hB0) (htab.below hB0) H.b.sum hok);have Hnil:=hide hnil;clear hW0 hN0 hR0 hB0 H htab hs0 hok hnil;go_enter Tryz.func182,Tryz.ntmps182
 go_upto_region 1 with fail
 change Code.wp _ _ _ _ ((w.alloc (.cells (edVs ⟨5,path,at_,far,frm,tto,old,new⟩ x).toArray 30)).alloc (.cells zeroEd.toArray 30));rw[←HW0.out];clear HW0;refine wp_region_lit ?_;refine gl ?_ HN0.out.c Tryz.underlying30 infoEd;refine gc HR.out ?_;rintro e1 w1 ⟨rfl,hB⟩;refine⟨_,rfl,?_⟩;refine sk (v:= .bool false) ?_;refine wpList_nil ?_;rename_i hK;refine hK _ _ ?_;clear hK;have HN1:=hide (HN0.out.call hB);have HR1:=hide (HR0.out.call hB);have HB1:=hide (blw_up HB0.out hB);have Hs1:Hid (w.heap.size+2≤w1.heap.size):=hide (by have:=hB.size;have:=Hs0.out;omega);clear hB HR HN0 HR0 HB0 Hs0
 go_upto_region 3 with fail
 have k1:=HN1.out.cell 1;refine wp_region_lit ?_;refine sk ?_;refine sk ?_;refine gc (cloneInts_any (HH.out.r.path.1.below HB1.out) (by simp) (ints_one path) HH.out.b.path.2) ?_;rintro e2 w2 ⟨v,rfl,hown,hg,hB⟩;obtain⟨A1,c1,rfl⟩:=own_shape hown;refine⟨_,rfl,?_⟩;have HN2:=hide (HN1.out.call hB);have HR2:=hide (HR1.out.call hB);have HB2:=hide (blw_up HB1.out hB);have HP2:Hid (RowO 3 w2 A1 c1 path.length (path.map (.int .i64)) (ob (.slice A1 path.length c1))):=hide ⟨hown,rfl⟩;have HPn:Hid (New w w2 (ob (.slice A1 path.length c1))):=hide ((HP2.out.new hg).from HB1.out.size);have HPg:Hid (∀b∈ob (.slice A1 path.length c1),w.heap.size+2≤b):=hide (fun b hb=>Nat.le_trans Hs1.out (hg b (mem_ob.1 hb)));have Hs2:Hid (w.heap.size+2≤w2.heap.size):=hide (Nat.le_trans Hs1.out hB.size);clear hB hown hg k1 HN1 HR1 HB1 Hs1;have k2:=HN2.out.cell 1;have f2:=HN2.out.f;refine sk ?_;refine ss ?_;refine wpList_nil ?_;rename_i hK;refine hK _ _ ?_;clear hK;change Code.wp _ _ _ _ (w2.setCells w.heap.size 1 [.slice A1 path.length c1]);have HN3:=hide (HN2.out.puts 1 [.slice A1 path.length c1] (edVs ⟨5,path,at_,far,frm,tto,old,new⟩ ⟨A1,c1,x.oA,x.oc,x.nA,x.nc⟩) (by simp));have HR3:=hide (HR2.out.off (M:=w.heap.size) (by omega) 1 [.slice A1 path.length c1]);have HB3:=hide (bx_below (Nat.le_refl w.heap.size) [.slice A1 path.length c1] 1 HB2.out);have HP3:=hide (HP2.out.keep (bx_keep (o:=1) (vs:=[.slice A1 path.length c1]) (N:=w.heap.size) fun b hb e=>by have:=HPg.out b hb;omega));have Hs3:Hid (w.heap.size+2≤(w2.setCells w.heap.size 1 [.slice A1 path.length c1]).heap.size):=hide (by rw[bx_size];exact Hs2.out);have HPn3:Hid (New w (w2.setCells w.heap.size 1 [.slice A1 path.length c1]) (ob (.slice A1 path.length c1))):=hide (HPn.out.up (by rw[bx_size];exact Nat.le_refl _));clear k2 f2 HN2 HR2 HB2 HP2 Hs2 HPn;generalize w2.setCells w.heap.size 1 [.slice A1 path.length c1]=W3 at HN3 HR3 HB3 HP3 Hs3 HPn3⊢
 go_upto_region 4 with fail
 have k4:=HN3.out.cell 4;have k5:=HN3.out.cell 5;have f3:=HN3.out.f;refine wp_region_lit ?_;refine sk ?_;refine sk ?_;refine sk ?_;refine sk ?_;refine sk ?_;refine ss ?_;refine sk ?_;refine ss ?_;refine wpList_nil ?_;rename_i hK;refine hK _ _ ?_;clear hK;change Code.wp _ _ _ _ (W3.setCells w.heap.size 4 [.string tto,.string frm]);have HN4:=hide (HN3.out.puts 4 [.string tto,.string frm] (edVs ⟨5,path,at_,far,tto,frm,old,new⟩ ⟨A1,c1,x.oA,x.oc,x.nA,x.nc⟩) (by simp));have HR4:=hide (HR3.out.off (M:=w.heap.size) (by omega) 4 [.string tto,.string frm]);have HB4:=hide (bx_below (Nat.le_refl w.heap.size) [.string tto,.string frm] 4 HB3.out);have HP4:=hide (HP3.out.keep (bx_keep (o:=4) (vs:=[.string tto,.string frm]) (N:=w.heap.size) fun b hb e=>by have:=HPg.out b hb;omega));have Hs4:Hid (w.heap.size+2≤(W3.setCells w.heap.size 4 [.string tto,.string frm]).heap.size):=hide (by rw[bx_size];exact Hs3.out);have HPn4:Hid (New w (W3.setCells w.heap.size 4 [.string tto,.string frm]) (ob (.slice A1 path.length c1))):=hide (HPn3.out.up (by rw[bx_size];exact Nat.le_refl _));clear k4 k5 f3 HN3 HR3 HB3 HP3 Hs3 HPn3;generalize W3.setCells w.heap.size 4 [.string tto,.string frm]=W4 at HN4 HR4 HB4 HP4 Hs4 HPn4⊢;have k0:=HN4.out.cell 0
 go_upto_region 6 with fail
 have j2:=HN4.out.cell 2;have j3:=HN4.out.cell 3;have j6:=HN4.out.cell 6;have f4:=HN4.out.f;have z4:=HN4.out.lt;have hbD:=HB4.out.drew;have hnD:=HN4.out.drew;have HBD:=hide hbD;have HND:=hide hnD;clear hbD hnD
 go_region_with (go_at_call 220;(with_reducible refine(rowCopiedO (f:=old) (HH.out.r.old.below (by first|exact HBD.out|exact HB4.out)) HH.out.r.oc.1 HH.out.r.oc.2 HH.out.b.old).mono ?_);rintro ea wa ⟨⟨Aa,ca,La,rfl,hno,hnw⟩,hB⟩;have HNa:Hid (Bx wa w.heap.size (edVs ⟨5,path,at_,far,tto,frm,old,new⟩ ⟨A1,c1,x.oA,x.oc,x.nA,x.nc⟩)):=hide (by first|exact HND.out.call hB|exact HN4.out.call hB);have HBa:Hid (Below w.heap.size w wa):=hide (by first|exact blw_up HBD.out hB|exact blw_up HB4.out hB);have ca2:=HNa.out.cell 2;have ca3:=HNa.out.cell 3;have ca6:=HNa.out.cell 6;have fa:=HNa.out.f;have hza:=HNa.out.lt;have HVa:=hide hB;have HOa:=hide hno;have HWa:=hide hnw;clear hB hno hnw)
 all_goals
  clear HND HBD
  go_upto_region 7 with fail
  have HVa2:Hid (Below W4.heap.size W4 wa):=hide (by first|exact blw_undrew HVa.out|exact HVa.out);have HWa2:Hid (New W4 wa La):=hide (by first|exact HWa.out|exact⟨HWa.out.nd,HWa.out.ge,HWa.out.lt⟩);have HRa:=hide (HR4.out.call HVa2.out);have HPa:=hide (HP4.out.below HVa2.out);clear HVa HWa ca2 ca3 ca6 fa hza j2 j3 j6 f4 z4 k0 HR4 HN4;change Code.wp _ _ _ _ ((wa.setCells w.heap.size 2 [.int .i64 far,.int .i64 at_]).setCells w.heap.size 6 [.slice Aa old.len ca]);have HN5:=hide (((HNa.out.puts 2 [.int .i64 far,.int .i64 at_] (edVs ⟨5,path,far,at_,tto,frm,old,new⟩ ⟨A1,c1,x.oA,x.oc,x.nA,x.nc⟩) (by simp)).puts 6 [.slice Aa old.len ca] (edVs ⟨5,path,far,at_,tto,frm,old,new⟩ ⟨A1,c1,Aa,ca,x.nA,x.nc⟩) (by simp)));have HR5:=hide ((HRa.out.off (M:=w.heap.size) (by omega) 2 [.int .i64 far,.int .i64 at_]).off (M:=w.heap.size) (by omega) 6 [.slice Aa old.len ca]);have HB5:=hide (bx_below (Nat.le_refl w.heap.size) [.slice Aa old.len ca] 6 (bx_below (Nat.le_refl w.heap.size) [.int .i64 far,.int .i64 at_] 2 HBa.out));have HLg:Hid (∀b∈ob (.slice A1 path.length c1)++(La++[]),w.heap.size+2≤b):=hide fun b hb=>by
   rw[List.append_nil]at hb;rcases List.mem_append.1 hb with hb|hb
   ·exact HPg.out b hb
   ·have:=HWa2.out.ge b hb;have:=Hs4.out;omega
  have hk5 :∀b,w.heap.size+2≤b→((wa.setCells w.heap.size 2 [.int .i64 far,.int .i64 at_]).setCells w.heap.size 6 [.slice Aa old.len ca]).heap[b]?=wa.heap[b]?:=fun b hb=>(bx_heap _ (by omega) _ _ _).trans (bx_heap _ (by omega) _ _ _);have HNw:Hid (New w ((wa.setCells w.heap.size 2 [.int .i64 far,.int .i64 at_]).setCells w.heap.size 6 [.slice Aa old.len ca]) (ob (.slice A1 path.length c1)++(La++[]))):=hide (by rw[List.append_nil];exact(HPn4.out.app HWa2.out HB4.out.size HVa2.out.size).up (by rw[bx_size,bx_size];exact Nat.le_refl _));have HS5:Hid (EdS ((wa.setCells w.heap.size 2 [.int .i64 far,.int .i64 at_]).setCells w.heap.size 6 [.slice Aa old.len ca]) ⟨A1,c1,Aa,ca,x.nA,x.nc⟩ ⟨5,path,far,at_,tto,frm,old,new⟩ (ob (.slice A1 path.length c1)++(La++[])) x ⟨5,path,at_,far,frm,tto,old,new⟩):=hide ⟨_,_,_,.inl (HPa.out.keep fun b hb=>hk5 b (HPg.out b hb)),.inl (HOa.out.keep fun b hb=>hk5 b (HLg.out b (by simp[hb]))),.inr ⟨Hnil.out,by show new.len=0;rw[Hnil.out];rfl,rfl,rfl,rfl⟩,rfl⟩;generalize (wa.setCells w.heap.size 2 [.int .i64 far,.int .i64 at_]).setCells w.heap.size 6 [.slice Aa old.len ca]=W5 at HN5 HR5 HB5 HNw HS5⊢;clear hk5;refine wp_region_lit ?_;refine gl ?_ HN5.out.c Tryz.underlying30 infoEd;refine gs (cells:=(edVs ⟨5,path,far,at_,tto,frm,old,new⟩ ⟨A1,c1,Aa,ca,x.nA,x.nc⟩).toArray) ?_ (HR5.out.th (o:=0) (by simp)) infoEd (edVs_one _ _);refine wpList_nil ?_;rename_i hK;refine hK _ _ ?_;clear hK;refine wp_ret ?_;simp only[Exit.then];have hR9:=HR5.out.puts 0 (edVs ⟨5,path,far,at_,tto,frm,old,new⟩ ⟨A1,c1,Aa,ca,x.nA,x.nc⟩) (edVs ⟨5,path,far,at_,tto,frm,old,new⟩ ⟨A1,c1,Aa,ca,x.nA,x.nc⟩) (by simp);exact bodyPost_ret (v:= .agg (edVs ⟨5,path,far,at_,tto,frm,old,new⟩ ⟨A1,c1,Aa,ca,x.nA,x.nc⟩).toArray) (box_result Tryz.results182 hR9.c Tryz.underlying30 infoEd) rfl ⟨⟨_,_,rfl,HS5.out.keep (bx_keep fun b hb e=>by have:=HLg.out b hb;omega),HNw.out.up (by rw[bx_size];exact Nat.le_refl _)⟩,bx_below (by omega) _ _ HB5.out⟩
end
end Go.Proofs.YtialngdffhmobaaGreatDoor
