/- Part 15 of what mgTop rests on. -/
import Derived.Test.YtialngdffhmobaaGreatDoorU12
import Derived.Test.YtialngdffhmobaaGreatDoorU07
import Derived.Test.YtialngdffhmobaaGreatDoorU08
import Derived.Test.YtialngdffhmobaaGreatDoorU00
set_option linter.unusedVariables false
set_option linter.unusedSimpArgs false
set_option maxHeartbeats 16000000
set_option maxRecDepth 1000000
namespace Go.Proofs.YtialngdffhmobaaGreatDoor
section
open Go.RowKit
def CopiedO(k:Nat)(t:ByteArray)(n:Int)(ks:Fo)(w:World)(e:Ending)(w':World):Prop :=
 ∃KA c L,e = .returned (.agg #[.int .u8 k,.string t,.int .i64 n,.slice KA ks.len c])∧NodesO w' KA c ks L∧New w w' L∧Below w.heap.size w w'
def HalfO(w0:World)(R cap:Nat)(ks:Fo)(j:Nat)(wr:World):Prop :=
 ∃vs R1,wr.ownsRow 0 152 4 (.slice (some ⟨R,0,none⟩) ks.len cap) ks.len vs∧FoR wr (vs.take (j*4)) (ks.take j) R1∧New w0 wr (obs R1)
theorem ob_one{b R n c:Nat}(h:b∈ob (.slice (some ⟨R,0,none⟩) n c)):b=R:=by have:=mem_ob.1 h;injection this with this;exact this.symm
theorem FoR.below{w w':World}{f:Fo}{vs:List Value}{R:List (Value×Nat)}(h:FoR w vs f R)(hB:Below w.heap.size w w'):FoR w' vs f R:=h.keep fun b hb=>hB.block b (h.lt b hb)
theorem HalfO.start{w wr:World}{R cap:Nat}{ks:Fo}{vs:List Value}(h:wr.ownsRow 0 152 4 (.slice (some ⟨R,0,none⟩) ks.len cap) ks.len vs):HalfO w R cap ks 0 wr:=by
 refine⟨vs,[],h,?_,New.nil⟩;cases ks<;>exact⟨by simp,rfl⟩
theorem HalfO.step{w0 wr w2:World}{R cap j k:Nat}{t:ByteArray}{n:Int}{ks kk r:Fo}{KA:Option Addr}{c p:Nat}{L:List Nat}(h:HalfO w0 R cap ks j wr)(hd:ks.drop j = .cons k t n kk r)(hj:j<ks.len)(hR:R<w0.heap.size)
  (h1:k<256∧t.size≤9223372036854775807∧isInt64 n) (hB:Below wr.heap.size wr w2) (hO:NodesO w2 KA c kk L) (hN:New wr w2 L) (hp:p=j*4) (hw0:w0.heap.size≤wr.heap.size):
  HalfO w0 R cap ks (j+1) ((((w2.setCell ⟨R,p,none⟩ (.int .u8 k)).setCell ⟨R,p+1,none⟩ (.string t)).setCell ⟨R,p+2,none⟩ (.int .i64 n)).setCell ⟨R,p+3,none⟩ (.slice KA kk.len c)):=by
 subst hp;obtain⟨vs,R1,hv,hf,hn⟩:=h;have hv2:w2.ownsRow 0 152 4 (.slice (some ⟨R,0,none⟩) ks.len cap) ks.len vs:=own_below hv (fun g hg=>(hv.lt g hg).2) hB;have hvl:=hv.1;obtain⟨q1,q2⟩:=own_puts (s:=4) (B:=0) [.int .u8 k,.string t,.int .i64 n,.slice KA kk.len c] (j*4) w2 vs hv2 (by simp only[List.length_cons,List.length_nil];omega);have hR1 :∀b∈obs R1,b≠R:=fun b hb e=>by have:=hn.ge b hb;omega
 have hRL :∀b∈L,b≠R:=fun b hb e=>by have:=hN.ge b hb;omega
 have hkeep :∀b,b<w2.heap.size→b≠R→(w2.setCells R (j*4) [.int .u8 k,.string t,.int .i64 n,.slice KA kk.len c]).heap[b]?=w2.heap[b]?:=fun b hb hbR=>q2.block b hb (fun e=>hbR (by injection e));have hs2:w2.heap.size≤(w2.setCells R (j*4) [.int .u8 k,.string t,.int .i64 n,.slice KA kk.len c]).heap.size:=q2.size;have hO2:=hO.keep (w':=w2.setCells R (j*4) [.int .u8 k,.string t,.int .i64 n,.slice KA kk.len c]) fun b hb=>hkeep b (hO.lt b hb) (hRL b hb);obtain⟨ys,R2,o1,o2,rfl,o4⟩:=hO2;have hf2:=(hf.below hB).keep (w':=w2.setCells R (j*4) [.int .u8 k,.string t,.int .i64 n,.slice KA kk.len c]) fun b hb=>hkeep b (Nat.lt_of_lt_of_le (hn.lt b hb) hB.size) (hR1 b hb);refine⟨_,R1++(.slice KA kk.len c,kk.len)::R2,q1,?_,?_⟩
 ·have e1:(vs.take (j*4)++([Value.int .u8 k,.string t,.int .i64 n,.slice KA kk.len c]++vs.drop (j*4+4))).take ((j+1)*4)=vs.take (j*4)++[Value.int .u8 k,.string t,.int .i64 n,.slice KA kk.len c]:=by
   rw[←List.append_assoc,List.take_append_of_le_length (by simp;omega),List.take_of_length_le (by simp;omega)]
  show FoR _ ((vs.take (j*4)++([Value.int .u8 k,.string t,.int .i64 n,.slice KA kk.len c]++vs.drop (j*4+4))).take ((j+1)*4)) _ _;rw[e1,Fo.take_next hd];exact FoR.snoc h1 o1 o2 hf2
 ·rw[obs_app,obs_cons];exact(hn.app hN hw0 hB.size).up hs2
theorem copiedO_of{k:Nat}{t:ByteArray}{n:Int}{ks:Fo}{KA:Option Addr}{c:Nat}{w:World}
  (ih :∀(w':World) (KA':Option Addr) (c' k':Nat) (n':Int) (t':ByteArray) (ks':Fo),ks'.cnt<ks.cnt→FoIn Any w' KA' ks'→ks'.len≤c'→c'≤9223372036854775807→(foB ks').length≤549755813888→
   Calls Tryz.prog 273 #[.agg #[.int .u8 k',.string t',.int .i64 n',.slice KA' ks'.len c']] w' (CopiedO k' t' n' ks' w'))
  (h:FoIn Any w KA ks) (hc:ks.len≤c) (hc2:c≤9223372036854775807) (hb:(foB ks).length≤549755813888):
  Calls Tryz.prog 273 #[.agg #[.int .u8 k,.string t,.int .i64 n,.slice KA ks.len c]] w (CopiedO k t n ks w):=by
 have hlen:ks.len≤549755813888:=by have:=foB_len ks;omega
 obtain⟨vs,hv1,hv2,hv3,hv4⟩:=h.row;have Hih:=hide ih;have Hv1:=hide hv1;have Hv2:=hide hv2;have Hv3:=hide hv3;have Hv4:=hide hv4;clear ih h hv1 hv2 hv3 hv4;by_cases h0:ks.len=0
 ·have hlt:decide ((0:Int)<(ks.len:Int))=false:=by simp;omega
  have hlt2 :¬0<ks.len:=by omega
  have H0:=hide h0;clear h0;go_enter Tryz.func273,Tryz.ntmps273
  go_wp2_with(go_at_call 285;(with_reducible refine(cloneNodes_any (xs:=vs) (Hv2.out.below (below2 _ _)) Hv3.out Hv4.out hlen).mono ?_);rintro e1 w1 ⟨v,rfl,hown,hg,hB⟩;obtain⟨A1,c1,rfl⟩:=own_shape hown;have Hown:=hide hown;have Hg:=hide hg;have HB1:Hid (Below w.heap.size w w1):=hide (blw_up2 hB);obtain⟨hx1,hf1,hz1⟩:=bbox (N:=w.heap.size) hB (by simp<;>omega);obtain⟨hy1,hg1,hu1⟩:=bbox (N:=w.heap.size+1) hB (by simp);clear hB hown hg)
  have HWB:Hid (Below w.heap.size w (w1.setCell ⟨w.heap.size,3,none⟩ (.slice A1 ks.len c1))):=hide (HB1.out.setCell (by simp) _);have hoth :∀b o,¬(b=w.heap.size∧o=3)→(w1.setCell ⟨w.heap.size,3,none⟩ (.slice A1 ks.len c1)).cell? ⟨b,o,none⟩=w1.cell? ⟨b,o,none⟩:=fun b o h=>World.cell?_setCell_other _ _ _ _ (fun e=>h (by injection e with e1 e2;exact⟨e1.symm,e2.symm⟩));have hb0:=(hoth w.heap.size 0 (by omega)).trans ((hx1 0).trans (World.cell?_alloc2_first _ _ _ _));have hb1:=(hoth w.heap.size 1 (by omega)).trans ((hx1 1).trans (World.cell?_alloc2_first _ _ _ _));have hb2:=(hoth w.heap.size 2 (by omega)).trans ((hx1 2).trans (World.cell?_alloc2_first _ _ _ _));have hbx:(w1.setCell ⟨w.heap.size,3,none⟩ (.slice A1 ks.len c1)).cell? ⟨w.heap.size,3,none⟩=some (.slice A1 ks.len c1):=World.cell?_setCell_same (u:= .slice KA ks.len c) _ _ _ ((hx1 3).trans (World.cell?_alloc2_first _ _ _ _));have hr0:=(hoth (w.heap.size+1) 0 (by omega)).trans ((hy1 0).trans (World.cell?_alloc2_new _ _ _ _));have hr1:=(hoth (w.heap.size+1) 1 (by omega)).trans ((hy1 1).trans (World.cell?_alloc2_new _ _ _ _));have hr2:=(hoth (w.heap.size+1) 2 (by omega)).trans ((hy1 2).trans (World.cell?_alloc2_new _ _ _ _));have hr3:=(hoth (w.heap.size+1) 3 (by omega)).trans ((hy1 3).trans (World.cell?_alloc2_new _ _ _ _));have hrf :∀o,(w1.setCell ⟨w.heap.size,3,none⟩ (.slice A1 ks.len c1)).frozen? ⟨w.heap.size+1,o,none⟩=false:=fun o=>(World.frozen?_setCell _ _ _ _).trans ((hg1 o).trans (World.frozen?_alloc2_new _ _ _ _));simp only[List.getElem?_toArray,List.getElem?_cons_zero,List.getElem?_cons_succ]at hb0 hb1 hb2 hr0 hr1 hr2 hr3;generalize hW:w1.setCell ⟨w.heap.size,3,none⟩ (.slice A1 ks.len c1)=W1 at *
  have HW:=hide hW;clear hW
  go_loopw [11,3] (fun i kk wr=>i = .int .i64 0∧wr=W1) (fun i _ _=>0)
  case atStart=>exact⟨rfl,rfl⟩
  case round =>
   obtain⟨rfl,rfl⟩:=hrel;obtain⟨s0,s1,s2,s3⟩:=same4 (x:= .int .u8 k) (y:= .string t) (z:= .int .i64 n) (u:= .slice A1 ks.len c1) hr0 hr1 hr2 hr3
   go_wp2_with fail
   refine bodyPost_ret (v:= .agg #[.int .u8 k,.string t,.int .i64 n,.slice A1 ks.len c1]) ?_ rfl ?_
   ·simp only[results,Tryz.results273];go_simp
   ·have hnil:ks = .nil:=fo_len0 H0.out;have hkp :∀b∈ob (.slice A1 ks.len c1),((((wr.setCell ⟨w.heap.size+1,0,none⟩ (.int .u8 k)).setCell ⟨w.heap.size+1,1,none⟩ (.string t)).setCell ⟨w.heap.size+1,2,none⟩ (.int .i64 n)).setCell ⟨w.heap.size+1,3,none⟩ (.slice A1 ks.len c1)).heap[b]?=w1.heap[b]?:=fun b hb=>by
     have hge:=Hg.out b (mem_ob.1 hb);simp at hge;rw[heap4 _ _ _ _ _ _ _ _ _ _ (by omega),←HW.out];exact Below.heap_setCell w1 _ _ b (fun e=>by have e2:b=w.heap.size:=e;omega)
    have hrow:RowO 152 w1 A1 c1 ks.len [] []→True:=fun _=>trivial;have hv0:vs=[]:=List.length_eq_zero_iff.1 (by rw[Hv3.out,H0.out]);have hsz:wr.heap.size=w1.heap.size:=by rw[←HW.out];simp[World.setCell]
    refine⟨_,_,ob (.slice A1 ks.len c1),rfl,⟨vs,[],own_kept Hown.out hkp,?_,by simp[obs_nil],ob_nodup _⟩,⟨ob_nodup _,fun b hb=>?_,fun b hb=>?_⟩,?_⟩
    ·rw[hnil,hv0];exact⟨rfl,rfl⟩
    ·have:=Hg.out b (mem_ob.1 hb);simp at this;omega
    ·have:=(Hown.out.lt b (mem_ob.1 hb)).2;simp[World.setCell];omega
    ·exact(((HWB.out.setCell (by simp) _).setCell (by simp) _).setCell (by simp) _).setCell (by simp) _
 ·have hpos:0<ks.len:=by omega
  clear h0;go_enter Tryz.func273,Tryz.ntmps273
  go_wp2_with(go_at_call 285;(with_reducible refine(cloneNodes_any (xs:=vs) (Hv2.out.below (below2 _ _)) Hv3.out Hv4.out hlen).mono ?_);rintro e1 w1 ⟨v,rfl,hown,hg,hB⟩;obtain⟨R,cap,rfl,hcell,hfz,hcap,hcap2,hR⟩:=own_top hown hpos;have hRg:=hg R rfl;have Hcell:=hide hcell;have Hown:=hide hown;have HB1:Hid (Below w.heap.size w w1):=hide (blw_up2 hB);obtain⟨hx1,hf1,hz1⟩:=bbox (N:=w.heap.size) hB (by simp<;>omega);obtain⟨hy1,hg1,hu1⟩:=bbox (N:=w.heap.size+1) hB (by simp);clear hB hown hg hcell)
  have hR2:w.heap.size+1<R:=by simp at hRg;omega
  have hr1:R<w1.heap.size:=hR;have Htop:Hid (TopIn (fun b=>b≠R∧b≠w.heap.size∧b≠w.heap.size+1) (w1.setCell ⟨w.heap.size,3,none⟩ (.slice (some ⟨R,0,none⟩) ks.len cap)) R 0 ks):=by
   have hf:FoCells (fun b=>b≠R∧b≠w.heap.size∧b≠w.heap.size+1) w1 vs ks :=
    FoCells.keep (fun b hb _=>HB1.out.block b hb) (fun b hb h=>⟨by omega,by omega,by omega⟩) Hv1.out
   refine hide ((hf.top Hcell.out).keep (fun b hb _=>Below.heap_setCell w1 _ _ b hb.2.1) (fun q=>World.cell?_of_block (a:=⟨R,q,none⟩) (Below.heap_setCell w1 _ _ R (fun e=>by have e2:R=w.heap.size:=e;omega))))
  have hfz1 :∀o,(w1.setCell ⟨w.heap.size,3,none⟩ (.slice (some ⟨R,0,none⟩) ks.len cap)).frozen? ⟨R,o,none⟩=false:=fun o=>(World.frozen?_of_block (a:=⟨R,o,none⟩) (Below.heap_setCell w1 _ _ R (fun e=>by have e2:R=w.heap.size:=e;omega))).trans (hfz o);have hbx:(w1.setCell ⟨w.heap.size,3,none⟩ (.slice (some ⟨R,0,none⟩) ks.len cap)).cell? ⟨w.heap.size,3,none⟩=some (.slice (some ⟨R,0,none⟩) ks.len cap):=World.cell?_setCell_same (u:= .slice KA ks.len c) _ _ _ ((hx1 3).trans (by first|(simp;done)|(go_simp;done)|(rw[World.cell?_alloc_old (h:=by simp),World.cell?_alloc_new];rfl)));have Hfz1:=hide hfz1;have HWB:Hid (Below w.heap.size w (w1.setCell ⟨w.heap.size,3,none⟩ (.slice (some ⟨R,0,none⟩) ks.len cap))):=hide (HB1.out.setCell (by simp) _);have hoth :∀b o,¬(b=w.heap.size∧o=3)→(w1.setCell ⟨w.heap.size,3,none⟩ (.slice (some ⟨R,0,none⟩) ks.len cap)).cell? ⟨b,o,none⟩=w1.cell? ⟨b,o,none⟩:=fun b o h=>World.cell?_setCell_other _ _ _ _ (fun e=>h (by injection e with e1 e2;exact⟨e1.symm,e2.symm⟩));have hb0:=(hoth w.heap.size 0 (by omega)).trans ((hx1 0).trans (World.cell?_alloc2_first _ _ _ _));have hb1:=(hoth w.heap.size 1 (by omega)).trans ((hx1 1).trans (World.cell?_alloc2_first _ _ _ _));have hb2:=(hoth w.heap.size 2 (by omega)).trans ((hx1 2).trans (World.cell?_alloc2_first _ _ _ _));have hr0:=(hoth (w.heap.size+1) 0 (by omega)).trans ((hy1 0).trans (World.cell?_alloc2_new _ _ _ _));have hr1:=(hoth (w.heap.size+1) 1 (by omega)).trans ((hy1 1).trans (World.cell?_alloc2_new _ _ _ _));have hr2:=(hoth (w.heap.size+1) 2 (by omega)).trans ((hy1 2).trans (World.cell?_alloc2_new _ _ _ _));have hr3:=(hoth (w.heap.size+1) 3 (by omega)).trans ((hy1 3).trans (World.cell?_alloc2_new _ _ _ _));have hrf :∀o,(w1.setCell ⟨w.heap.size,3,none⟩ (.slice (some ⟨R,0,none⟩) ks.len cap)).frozen? ⟨w.heap.size+1,o,none⟩=false:=fun o=>(World.frozen?_setCell _ _ _ _).trans ((hg1 o).trans (World.frozen?_alloc2_new _ _ _ _));simp only[List.getElem?_toArray,List.getElem?_cons_zero,List.getElem?_cons_succ]at hb0 hb1 hb2 hr0 hr1 hr2 hr3;have HhO:Hid (HalfO (w1.setCell ⟨w.heap.size,3,none⟩ (.slice (some ⟨R,0,none⟩) ks.len cap)) R cap ks 0 (w1.setCell ⟨w.heap.size,3,none⟩ (.slice (some ⟨R,0,none⟩) ks.len cap))):=hide (HalfO.start (own_kept Hown.out fun b hb=>Below.heap_setCell w1 _ _ b (fun e=>by have e2:b=w.heap.size:=e;have e3:=ob_one hb;omega)));have hws:(w1.setCell ⟨w.heap.size,3,none⟩ (.slice (some ⟨R,0,none⟩) ks.len cap)).heap.size=w1.heap.size:=by simp[World.setCell]
  clear hfz1;generalize hW:w1.setCell ⟨w.heap.size,3,none⟩ (.slice (some ⟨R,0,none⟩) ks.len cap)=W1 at *
  have HW:=hide hW;clear hW
  go_loopw [11,3] (fun i kk wr=>∃j:Nat,i = .int .i64 j∧j≤ks.len∧Hid (TopIn (fun b=>b≠R∧b≠w.heap.size∧b≠w.heap.size+1) wr R 0 ks)∧Hid (Keep (fun b=>b<W1.heap.size∧b≠R) W1 wr)∧Hid (∀o,wr.frozen? ⟨R,o,none⟩=false)∧Hid (HalfO W1 R cap ks j wr)) (fun i _ _=>ks.len-(intOf i).toNat)
  case atStart=>exact⟨0,rfl,Nat.zero_le _,Htop,hide (Keep.refl _ _),Hfz1,HhO⟩
  case round =>
   obtain⟨j,rfl,hj,HT,HK,HF,HH⟩:=hrel;obtain⟨bx,bf⟩:=HK.out.box (N:=w.heap.size) ⟨by omega,by omega⟩;have hks:=HK.out.size;have bx3:=(bx 3).trans hbx;have hF:=HF.out;by_cases hlt:j<ks.len
   ·obtain⟨KA',c',k',t',n',kk,r',hd,d0,d1,d2,d3,g1,g2,g3,g4,g5,g6,g7,g8⟩:=HT.out.at_ hlt;simp only[Nat.zero_add]at d0 d1 d2 d3;have HG:=hide g6;have Hd:=hide hd;clear g6 hd
    go_upto_region 5 with fail
    go_region_with (go_at_call 273;(with_reducible refine(Hih.out _ KA' c' k' n' t' kk g7 ((HG.out.mono (fun _ _ _=>trivial)).below (by repeat first|exact Below.refl _ _|refine Below.drew ?_)) g4 g5 (Nat.le_trans g8 hb)).mono ?_);rintro e2 w2 ⟨KA2,c2,L2,rfl,hno,hnew,hB⟩;obtain⟨hx2,hf2,hz2⟩:=bbox (N:=w.heap.size) hB (by simp;omega);obtain⟨hy2,hg2,hu2⟩:=bbox (N:=R) hB (by simp;omega);have Hin:=hide hno;have Hnw:=hide hnew;have HB2:=hide hB;clear hno hnew hB)
    all_goals
     go_wp2_with fail
     go_roundw
     case rel =>
      refine⟨j+1,by go_num,by omega,hide (((HT.out.keep (w:=wr) (w':=w2) (fun b _ hb=>HB2.out.block b hb) hy2).put4 Hd.out hlt (fun b hb=>hb.1) Hin.out.room.1 Hin.out.room.2 (Hin.out.fo fun b hb=>by have:=Hnw.out.ge b hb;simp at this;exact⟨by omega,by omega,by omega⟩) (by omega))),hide ?_,hide ?_,hide ?_⟩
      ·exact((((HK.out.drew.trans (Keep.of_below HB2.out (fun b hb=>Nat.lt_of_lt_of_le hb.1 hks))).setCell (fun h=>h.2 rfl) _).setCell (fun h=>h.2 rfl) _).setCell (fun h=>h.2 rfl) _).setCell (fun h=>h.2 rfl) _
      ·intro o;rw[frozen4];exact(hg2 o).trans (hF o)
      ·exact HH.out.step Hd.out hlt (by omega) ⟨g1,g2,g3⟩ (by first|exact HB2.out|exact⟨HB2.out.os,HB2.out.tape,HB2.out.output,HB2.out.size,HB2.out.block⟩) Hin.out (by first|exact Hnw.out|exact⟨Hnw.out.nd,Hnw.out.ge,Hnw.out.lt⟩) (by omega) hks
     case measure=>simp[intOf];omega
   ·obtain⟨cx,cf⟩:=HK.out.box (N:=w.heap.size+1) ⟨by omega,by omega⟩;have bx0:=(bx 0).trans hb0;have bx1:=(bx 1).trans hb1;have bx2:=(bx 2).trans hb2;have cx0:=(cx 0).trans hr0;have cx1:=(cx 1).trans hr1;have cx2:=(cx 2).trans hr2;have cx3:=(cx 3).trans hr3;have hne:R≠w.heap.size+1:=by omega
    have cg :∀o,wr.frozen? ⟨w.heap.size+1,o,none⟩=false:=fun o=>(cf o).trans (hrf o);obtain⟨s0,s1,s2,s3⟩:=same4 (x:= .int .u8 k) (y:= .string t) (z:= .int .i64 n) (u:= .slice (some ⟨R,0,none⟩) ks.len cap) cx0 cx1 cx2 cx3
    go_wp2_with fail
    refine bodyPost_ret (v:= .agg #[.int .u8 k,.string t,.int .i64 n,.slice (some ⟨R,0,none⟩) ks.len cap]) ?_ rfl ?_
    ·simp only[results,Tryz.results273];go_simp
    ·have hje:j=ks.len:=by omega
     obtain⟨vs2,R1,o1,o2,o3⟩:=HH.out;have o1l:=o1.1;rw[hje,Fo.take_whole,List.take_of_length_le (by omega)]at o2;have hW1:W1.heap.size=w1.heap.size:=hws;have hkp :∀b,b≠w.heap.size+1→((((wr.setCell ⟨w.heap.size+1,0,none⟩ (.int .u8 k)).setCell ⟨w.heap.size+1,1,none⟩ (.string t)).setCell ⟨w.heap.size+1,2,none⟩ (.int .i64 n)).setCell ⟨w.heap.size+1,3,none⟩ (.slice (some ⟨R,0,none⟩) ks.len cap)).heap[b]?=wr.heap[b]?:=fun b hb=>heap4 _ _ _ _ _ _ _ _ _ _ hb;have hnew:New w wr (ob (.slice (some ⟨R,0,none⟩) ks.len cap)++obs R1):=by
      refine⟨nodup_ranges (M:=W1.heap.size) (ob_nodup _) o3.nd (fun b hb=>?_) o3.ge,fun b hb=>?_,fun b hb=>?_⟩
      ·have e3:b=R:=ob_one hb;omega
      ·rcases List.mem_append.1 hb with hb|hb
       ·have e3:b=R:=ob_one hb;omega
       ·have:=o3.ge b hb;omega
      ·rcases List.mem_append.1 hb with hb|hb
       ·have e3:b=R:=ob_one hb;omega
       ·exact o3.lt b hb
     refine⟨_,_,_,rfl,NodesO.keep (w:=wr) ⟨vs2,R1,o1,o2,rfl,hnew.nd⟩ (fun b hb=>hkp b (fun e=>?_)),hnew.up (by simp[World.setCell]),?_⟩
     ·rcases List.mem_append.1 hb with hb|hb
      ·have e3:b=R:=ob_one hb;omega
      ·have:=o3.ge b hb;omega
     ·exact((((HWB.out.trans (HK.out.mono (P:=fun b=>b<w.heap.size) (fun b hb=>⟨by omega,by omega⟩)).below).setCell (by simp) _).setCell (by simp) _).setCell (by simp) _).setCell (by simp) _
theorem copiedO_upto(N:Nat):∀(w:World) (KA:Option Addr) (c k:Nat) (n:Int) (t:ByteArray) (ks:Fo),ks.cnt<N→FoIn Any w KA ks→ks.len≤c→c≤9223372036854775807→(foB ks).length≤549755813888→
  Calls Tryz.prog 273 #[.agg #[.int .u8 k,.string t,.int .i64 n,.slice KA ks.len c]] w (CopiedO k t n ks w):=by
 induction N with
 | zero=>intro w KA c k n t ks h;omega
 | succ N ih =>
  intro w KA c k n t ks hN h hc hc2 hb;exact copiedO_of (fun w' KA' c' k' n' t' ks' hlt h' hc' hc2' hb'=>ih w' KA' c' k' n' t' ks' (by omega) h' hc' hc2' hb') h hc hc2 hb
theorem copiedO_any{w:World}{KA:Option Addr}{c k:Nat}{n:Int}{t:ByteArray}{ks:Fo}(h:FoIn Any w KA ks)(hc:ks.len≤c)(hc2:c≤9223372036854775807)(hb:(foB ks).length≤549755813888):
  Calls Tryz.prog 273 #[.agg #[.int .u8 k,.string t,.int .i64 n,.slice KA ks.len c]] w (CopiedO k t n ks w):=copiedO_upto (ks.cnt+1) w KA c k n t ks (by omega) h hc hc2 hb
end
end Go.Proofs.YtialngdffhmobaaGreatDoor
