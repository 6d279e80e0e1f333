/- Part 11 of what mgTop rests on. -/
import Derived.Deep.RegionWith
import Derived.Test.YtialngdffhmobaaGreatDoorU05
import Derived.Test.YtialngdffhmobaaGreatDoorU09
import Derived.Test.YtialngdffhmobaaGreatDoorU00
set_option linter.unusedVariables false
set_option linter.unusedSimpArgs false
set_option maxHeartbeats 16000000
set_option maxRecDepth 1000000
namespace Go.Proofs.YtialngdffhmobaaGreatDoor
section
open Go.RowKit
def Copied(S:Nat→Prop)(k:Nat)(t:ByteArray)(n:Int)(ks:Fo)(w:World)(e:Ending)(w':World):Prop :=
 ∃KA c,e = .returned (.agg #[.int .u8 k,.string t,.int .i64 n,.slice KA ks.len c])∧FoIn S w' KA ks∧ks.len≤c∧c≤9223372036854775807∧Below w.heap.size w w'
theorem own_top{w:World}{e:TypeId}{n:Nat}{v:Value}{vs:List Value}(h:w.ownsRow 0 e 4 v n vs)(hn:0<n):
  ∃R cap,v = .slice (some ⟨R,0,none⟩) n cap∧(∀j u,vs[j]?=some u→w.cell? ⟨R,0+j,none⟩=some u)∧(∀o,w.frozen? ⟨R,o,none⟩=false)∧n≤cap∧cap≤9223372036854775807∧R<w.heap.size:=by
 rcases h.2 with⟨rfl,h0⟩|⟨g,cap,cur,rfl,hb,hgg,hnc,hcm,_⟩
 ·omega
 ·refine⟨g,cap,rfl,fun j u hu=>?_,fun o=>?_,hnc,by unfold maxLen at hcm;omega,(Array.getElem?_eq_some_iff.mp hgg).1⟩
  ·have:=h.cells (g:=g) rfl j u hu
   rwa [Addr.add_lit]at this
  ·unfold World.frozen?;rw[hgg];simp
theorem own_cap{w:World}{e:TypeId}{n:Nat}{v:Value}{vs:List Value}(h:w.ownsRow 0 e 4 v n vs):∃A c,v = .slice A n c∧True∧n≤c∧c≤9223372036854775807:=by
 rcases h.2 with⟨rfl,h0⟩|⟨g,cap,cur,rfl,_,_,hnc,hcm,_⟩
 ·have:n=0:=by omega
  subst this;exact⟨none,0,rfl,trivial,Nat.le_refl _,by omega⟩
 ·exact⟨_,_,rfl,trivial,hnc,by unfold maxLen at hcm;omega⟩
theorem fo_len0{f:Fo}(h:f.len=0):f = .nil:=by
 cases f with
 | nil=>rfl
 | cons=>simp[Fo.len]at h
theorem foB_len8(f:Fo):8*f.len≤(foB f).length:=foB_len f
theorem heap4(w:World)(R a b c d:Nat)(x y z u:Value){k:Nat}(hk:k≠R):((((w.setCell ⟨R,a,none⟩ x).setCell ⟨R,b,none⟩ y).setCell ⟨R,c,none⟩ z).setCell ⟨R,d,none⟩ u).heap[k]?=w.heap[k]?:=by
 rw[Below.heap_setCell _ _ _ k hk,Below.heap_setCell _ _ _ k hk,Below.heap_setCell _ _ _ k hk,Below.heap_setCell _ _ _ k hk]
theorem frozen4(w:World)(R a b c d:Nat)(x y z u:Value)(q:Addr):((((w.setCell ⟨R,a,none⟩ x).setCell ⟨R,b,none⟩ y).setCell ⟨R,c,none⟩ z).setCell ⟨R,d,none⟩ u).frozen? q=w.frozen? q:=by
 rw[World.frozen?_setCell,World.frozen?_setCell,World.frozen?_setCell,World.frozen?_setCell]
theorem other4(w:World)(R p q:Nat)(x y z u:Value)(hq:q<p∨p+4≤q):((((w.setCell ⟨R,p,none⟩ x).setCell ⟨R,p+1,none⟩ y).setCell ⟨R,p+2,none⟩ z).setCell ⟨R,p+3,none⟩ u).cell? ⟨R,q,none⟩=w.cell? ⟨R,q,none⟩:=by
 rw[World.cell?_setCell_other _ _ _ _ (by simp<;>omega),World.cell?_setCell_other _ _ _ _ (by simp<;>omega),World.cell?_setCell_other _ _ _ _ (by simp<;>omega),World.cell?_setCell_other _ _ _ _ (by simp<;>omega)]
theorem same4{w:World}{R p:Nat}{x y z u a b c d:Value}(h0:w.cell? ⟨R,p,none⟩=some a)(h1:w.cell? ⟨R,p+1,none⟩=some b)(h2:w.cell? ⟨R,p+2,none⟩=some c)(h3:w.cell? ⟨R,p+3,none⟩=some d):
  ((((w.setCell ⟨R,p,none⟩ x).setCell ⟨R,p+1,none⟩ y).setCell ⟨R,p+2,none⟩ z).setCell ⟨R,p+3,none⟩ u).cell? ⟨R,p,none⟩=some x∧
  ((((w.setCell ⟨R,p,none⟩ x).setCell ⟨R,p+1,none⟩ y).setCell ⟨R,p+2,none⟩ z).setCell ⟨R,p+3,none⟩ u).cell? ⟨R,p+1,none⟩=some y∧
  ((((w.setCell ⟨R,p,none⟩ x).setCell ⟨R,p+1,none⟩ y).setCell ⟨R,p+2,none⟩ z).setCell ⟨R,p+3,none⟩ u).cell? ⟨R,p+2,none⟩=some z∧
  ((((w.setCell ⟨R,p,none⟩ x).setCell ⟨R,p+1,none⟩ y).setCell ⟨R,p+2,none⟩ z).setCell ⟨R,p+3,none⟩ u).cell? ⟨R,p+3,none⟩=some u:=by
 refine⟨?_,?_,?_,?_⟩
 ·rw[World.cell?_setCell_other _ _ _ _ (by simp),World.cell?_setCell_other _ _ _ _ (by simp),World.cell?_setCell_other _ _ _ _ (by simp)];exact World.cell?_setCell_same _ _ _ h0
 ·rw[World.cell?_setCell_other _ _ _ _ (by simp),World.cell?_setCell_other _ _ _ _ (by simp)];exact World.cell?_setCell_same _ _ _ ((World.cell?_setCell_other _ _ _ _ (by simp)).trans h1)
 ·rw[World.cell?_setCell_other _ _ _ _ (by simp)];exact World.cell?_setCell_same _ _ _ ((World.cell?_setCell_other _ _ _ _ (by simp)).trans ((World.cell?_setCell_other _ _ _ _ (by simp)).trans h2))
 ·exact World.cell?_setCell_same _ _ _ ((World.cell?_setCell_other _ _ _ _ (by simp)).trans ((World.cell?_setCell_other _ _ _ _ (by simp)).trans ((World.cell?_setCell_other _ _ _ _ (by simp)).trans h3)))
theorem FoIn.keep2{S:Nat→Prop}{w w':World}{A:Option Addr}{f:Fo}(h:FoIn S w A f)(hk :∀b,S b→w'.heap[b]?=w.heap[b]?):FoIn S w' A f:=h.keep hk
theorem TopIn.put4{S:Nat→Prop}{w:World}{R o i p k:Nat}{t:ByteArray}{n:Int}{ks r f:Fo}{KA:Option Addr}{c:Nat}(h:TopIn S w R o f)(hd:f.drop i = .cons k t n ks r)(hi:i<f.len)(hS :∀b,S b→b≠R)
  (h4:ks.len≤c) (h5:c≤9223372036854775807) (h6:FoIn S w KA ks) (hp:p=o+i*4):
  TopIn S ((((w.setCell ⟨R,p,none⟩ (.int .u8 k)).setCell ⟨R,p+1,none⟩ (.string t)).setCell ⟨R,p+2,none⟩ (.int .i64 n)).setCell ⟨R,p+3,none⟩ (.slice KA ks.len c)) R o f:=by
 subst hp;obtain⟨KA',c',k',t',n',kk,r',hd',d0,d1,d2,d3,_⟩:=h.at_ hi;obtain⟨s0,s1,s2,s3⟩:=same4 (x:= .int .u8 k) (y:= .string t) (z:= .int .i64 n) (u:= .slice KA ks.len c) d0 d1 d2 d3;exact h.set (fun b hb _=>heap4 w R _ _ _ _ _ _ _ _ (hS b hb)) h4 h5 (h6.keep fun b hb=>heap4 w R _ _ _ _ _ _ _ _ (hS b hb)) hd (fun q hq=>other4 w R _ q _ _ _ _ hq) s0 s1 s2 s3
theorem copied_of{S:Nat→Prop}{k:Nat}{t:ByteArray}{n:Int}{ks:Fo}{KA:Option Addr}{c:Nat}{w:World}
  (ih :∀(S':Nat→Prop) (w':World) (KA':Option Addr) (c' k':Nat) (n':Int) (t':ByteArray) (ks':Fo),ks'.cnt<ks.cnt→FoIn S' w' KA' ks'→ks'.len≤c'→c'≤9223372036854775807→(foB ks').length≤549755813888→(∀b,w'.heap.size≤b→S' b)→
   Calls Tryz.prog 273 #[.agg #[.int .u8 k',.string t',.int .i64 n',.slice KA' ks'.len c']] w' (Copied S' k' t' n' ks' w'))
  (h:FoIn S w KA ks) (hc:ks.len≤c) (hc2:c≤9223372036854775807) (hb:(foB ks).length≤549755813888) (hS :∀b,w.heap.size≤b→S b):
  Calls Tryz.prog 273 #[.agg #[.int .u8 k,.string t,.int .i64 n,.slice KA ks.len c]] w (Copied S k t n ks w):=by
 have hlen:ks.len≤549755813888:=by have:=foB_len ks;omega
 obtain⟨vs,hv1,hv2,hv3,hv4⟩:=h.row;have Hih:=hide ih;have Hv1:=hide hv1;have Hv2:=hide hv2;have Hv3:=hide hv3;have Hv4:=hide hv4;have HS:=hide hS;clear ih h hv1 hv2 hv3 hv4 hS;by_cases h0:ks.len=0
 ·have hlt:decide ((0:Int)<(ks.len:Int))=false:=by simp;omega
  have hlt2 :¬0<ks.len:=by omega
  have H0:=hide h0;clear h0;go_enter Tryz.func273,Tryz.ntmps273
  go_wp2_with(go_at_call 285;(with_reducible refine(cloneNodes_any (xs:=vs) (Hv2.out.below (below2 _ _)) Hv3.out Hv4.out hlen).mono ?_);rintro e1 w1 ⟨v,rfl,hown,hg,hB⟩;obtain⟨A1,c1,rfl⟩:=own_shape hown;have Hown:=hide hown;have HB1:Hid (Below w.heap.size w w1):=hide (blw_up2 hB);obtain⟨hx1,hf1,hz1⟩:=bbox (N:=w.heap.size) hB (by simp<;>omega);obtain⟨hy1,hg1,hu1⟩:=bbox (N:=w.heap.size+1) hB (by simp);clear hB hown hg)
  have HWB:Hid (Below w.heap.size w (w1.setCell ⟨w.heap.size,3,none⟩ (.slice A1 ks.len c1))):=hide (HB1.out.setCell (by simp) _);have hoth :∀b o,¬(b=w.heap.size∧o=3)→(w1.setCell ⟨w.heap.size,3,none⟩ (.slice A1 ks.len c1)).cell? ⟨b,o,none⟩=w1.cell? ⟨b,o,none⟩:=fun b o h=>World.cell?_setCell_other _ _ _ _ (fun e=>h (by injection e with e1 e2;exact⟨e1.symm,e2.symm⟩));have hb0:=(hoth w.heap.size 0 (by omega)).trans ((hx1 0).trans (World.cell?_alloc2_first _ _ _ _));have hb1:=(hoth w.heap.size 1 (by omega)).trans ((hx1 1).trans (World.cell?_alloc2_first _ _ _ _));have hb2:=(hoth w.heap.size 2 (by omega)).trans ((hx1 2).trans (World.cell?_alloc2_first _ _ _ _));have hbx:(w1.setCell ⟨w.heap.size,3,none⟩ (.slice A1 ks.len c1)).cell? ⟨w.heap.size,3,none⟩=some (.slice A1 ks.len c1):=World.cell?_setCell_same (u:= .slice KA ks.len c) _ _ _ ((hx1 3).trans (World.cell?_alloc2_first _ _ _ _));have hr0:=(hoth (w.heap.size+1) 0 (by omega)).trans ((hy1 0).trans (World.cell?_alloc2_new _ _ _ _));have hr1:=(hoth (w.heap.size+1) 1 (by omega)).trans ((hy1 1).trans (World.cell?_alloc2_new _ _ _ _));have hr2:=(hoth (w.heap.size+1) 2 (by omega)).trans ((hy1 2).trans (World.cell?_alloc2_new _ _ _ _));have hr3:=(hoth (w.heap.size+1) 3 (by omega)).trans ((hy1 3).trans (World.cell?_alloc2_new _ _ _ _));have hrf :∀o,(w1.setCell ⟨w.heap.size,3,none⟩ (.slice A1 ks.len c1)).frozen? ⟨w.heap.size+1,o,none⟩=false:=fun o=>(World.frozen?_setCell _ _ _ _).trans ((hg1 o).trans (World.frozen?_alloc2_new _ _ _ _));simp only[List.getElem?_toArray,List.getElem?_cons_zero,List.getElem?_cons_succ]at hb0 hb1 hb2 hr0 hr1 hr2 hr3;generalize hW:w1.setCell ⟨w.heap.size,3,none⟩ (.slice A1 ks.len c1)=W1 at *
  have HW:=hide hW;clear hW
  go_loopw [11,3] (fun i kk wr=>i = .int .i64 0∧wr=W1) (fun i _ _=>0)
  case atStart=>exact⟨rfl,rfl⟩
  case round =>
   obtain⟨rfl,rfl⟩:=hrel;obtain⟨s0,s1,s2,s3⟩:=same4 (x:= .int .u8 k) (y:= .string t) (z:= .int .i64 n) (u:= .slice A1 ks.len c1) hr0 hr1 hr2 hr3
   go_wp2_with fail
   refine bodyPost_ret (v:= .agg #[.int .u8 k,.string t,.int .i64 n,.slice A1 ks.len c1]) ?_ rfl ?_
   ·simp only[results,Tryz.results273];go_simp
   ·obtain⟨_,_,q1,_,q2,q3⟩:=own_cap Hown.out;injection q1 with _ _ q4;subst q4;refine⟨_,_,rfl,by rw[fo_len0 H0.out];exact trivial,q2,q3,?_⟩;exact(((HWB.out.setCell (by simp) _).setCell (by simp) _).setCell (by simp) _).setCell (by simp) _
 ·have hpos:0<ks.len:=by omega
  clear h0;go_enter Tryz.func273,Tryz.ntmps273
  go_wp2_with(go_at_call 285;(with_reducible refine(cloneNodes_any (xs:=vs) (Hv2.out.below (below2 _ _)) Hv3.out Hv4.out hlen).mono ?_);rintro e1 w1 ⟨v,rfl,hown,hg,hB⟩;obtain⟨R,cap,rfl,hcell,hfz,hcap,hcap2,hR⟩:=own_top hown hpos;have hRg:=hg R rfl;have Hcell:=hide hcell;have HB1:Hid (Below w.heap.size w w1):=hide (blw_up2 hB);obtain⟨hx1,hf1,hz1⟩:=bbox (N:=w.heap.size) hB (by simp<;>omega);obtain⟨hy1,hg1,hu1⟩:=bbox (N:=w.heap.size+1) hB (by simp);clear hB hown hg hcell)
  have hR2:w.heap.size+1<R:=by simp at hRg;omega
  have hr1:R<w1.heap.size:=hR;have Htop:Hid (TopIn (fun b=>S b∧b≠R∧b≠w.heap.size∧b≠w.heap.size+1) (w1.setCell ⟨w.heap.size,3,none⟩ (.slice (some ⟨R,0,none⟩) ks.len cap)) R 0 ks):=by
   have hf:FoCells (fun b=>S b∧b≠R∧b≠w.heap.size∧b≠w.heap.size+1) w1 vs ks :=
    FoCells.keep (fun b hb _=>HB1.out.block b hb) (fun b hb h=>⟨h,by omega,by omega,by omega⟩) Hv1.out
   refine hide ((hf.top Hcell.out).keep (fun b hb _=>Below.heap_setCell w1 _ _ b hb.2.2.1) (fun q=>World.cell?_of_block (a:=⟨R,q,none⟩) (Below.heap_setCell w1 _ _ R (fun e=>by have e2:R=w.heap.size:=e;omega))))
  have hfz1 :∀o,(w1.setCell ⟨w.heap.size,3,none⟩ (.slice (some ⟨R,0,none⟩) ks.len cap)).frozen? ⟨R,o,none⟩=false:=fun o=>(World.frozen?_of_block (a:=⟨R,o,none⟩) (Below.heap_setCell w1 _ _ R (fun e=>by have e2:R=w.heap.size:=e;omega))).trans (hfz o);have hbx:(w1.setCell ⟨w.heap.size,3,none⟩ (.slice (some ⟨R,0,none⟩) ks.len cap)).cell? ⟨w.heap.size,3,none⟩=some (.slice (some ⟨R,0,none⟩) ks.len cap):=World.cell?_setCell_same (u:= .slice KA ks.len c) _ _ _ ((hx1 3).trans (by first|(simp;done)|(go_simp;done)|(rw[World.cell?_alloc_old (h:=by simp),World.cell?_alloc_new];rfl)));have Hfz1:=hide hfz1;have HWB:Hid (Below w.heap.size w (w1.setCell ⟨w.heap.size,3,none⟩ (.slice (some ⟨R,0,none⟩) ks.len cap))):=hide (HB1.out.setCell (by simp) _);have hoth :∀b o,¬(b=w.heap.size∧o=3)→(w1.setCell ⟨w.heap.size,3,none⟩ (.slice (some ⟨R,0,none⟩) ks.len cap)).cell? ⟨b,o,none⟩=w1.cell? ⟨b,o,none⟩:=fun b o h=>World.cell?_setCell_other _ _ _ _ (fun e=>h (by injection e with e1 e2;exact⟨e1.symm,e2.symm⟩));have hb0:=(hoth w.heap.size 0 (by omega)).trans ((hx1 0).trans (World.cell?_alloc2_first _ _ _ _));have hb1:=(hoth w.heap.size 1 (by omega)).trans ((hx1 1).trans (World.cell?_alloc2_first _ _ _ _));have hb2:=(hoth w.heap.size 2 (by omega)).trans ((hx1 2).trans (World.cell?_alloc2_first _ _ _ _));have hr0:=(hoth (w.heap.size+1) 0 (by omega)).trans ((hy1 0).trans (World.cell?_alloc2_new _ _ _ _));have hr1:=(hoth (w.heap.size+1) 1 (by omega)).trans ((hy1 1).trans (World.cell?_alloc2_new _ _ _ _));have hr2:=(hoth (w.heap.size+1) 2 (by omega)).trans ((hy1 2).trans (World.cell?_alloc2_new _ _ _ _));have hr3:=(hoth (w.heap.size+1) 3 (by omega)).trans ((hy1 3).trans (World.cell?_alloc2_new _ _ _ _));have hrf :∀o,(w1.setCell ⟨w.heap.size,3,none⟩ (.slice (some ⟨R,0,none⟩) ks.len cap)).frozen? ⟨w.heap.size+1,o,none⟩=false:=fun o=>(World.frozen?_setCell _ _ _ _).trans ((hg1 o).trans (World.frozen?_alloc2_new _ _ _ _));simp only[List.getElem?_toArray,List.getElem?_cons_zero,List.getElem?_cons_succ]at hb0 hb1 hb2 hr0 hr1 hr2 hr3;have hws:(w1.setCell ⟨w.heap.size,3,none⟩ (.slice (some ⟨R,0,none⟩) ks.len cap)).heap.size=w1.heap.size:=by simp[World.setCell]
  clear hfz1;generalize hW:w1.setCell ⟨w.heap.size,3,none⟩ (.slice (some ⟨R,0,none⟩) ks.len cap)=W1 at *
  have HW:=hide hW;clear hW
  go_loopw [11,3] (fun i kk wr=>∃j:Nat,i = .int .i64 j∧j≤ks.len∧Hid (TopIn (fun b=>S b∧b≠R∧b≠w.heap.size∧b≠w.heap.size+1) wr R 0 ks)∧Hid (Keep (fun b=>b<W1.heap.size∧b≠R) W1 wr)∧Hid (∀o,wr.frozen? ⟨R,o,none⟩=false)) (fun i _ _=>ks.len-(intOf i).toNat)
  case atStart=>exact⟨0,rfl,Nat.zero_le _,Htop,hide (Keep.refl _ _),Hfz1⟩
  case round =>
   obtain⟨j,rfl,hj,HT,HK,HF⟩:=hrel;obtain⟨bx,bf⟩:=HK.out.box (N:=w.heap.size) ⟨by omega,by omega⟩;have hks:=HK.out.size;have bx3:=(bx 3).trans hbx;have hF:=HF.out;by_cases hlt:j<ks.len
   ·obtain⟨KA',c',k',t',n',kk,r',hd,d0,d1,d2,d3,g1,g2,g3,g4,g5,g6,g7,g8⟩:=HT.out.at_ hlt;simp only[Nat.zero_add]at d0 d1 d2 d3;have HG:=hide g6;have Hd:=hide hd;clear g6 hd
    go_upto_region 5 with fail
    go_region_with (go_at_call 273;(with_reducible refine(Hih.out (fun b=>S b∧b≠R∧b≠w.heap.size∧b≠w.heap.size+1) _ KA' c' k' n' t' kk g7 (HG.out.below (by repeat first|exact Below.refl _ _|refine Below.drew ?_)) g4 g5 (Nat.le_trans g8 hb) (by intro b hb;have h9:wr.heap.size≤b:=(by simpa using hb);exact⟨HS.out b (by omega),by omega,by omega,by omega⟩)).mono ?_);rintro e2 w2 ⟨KA2,c2,rfl,hin,hca,hcb,hB⟩;obtain⟨hx2,hf2,hz2⟩:=bbox (N:=w.heap.size) hB (by simp;omega);obtain⟨hy2,hg2,hu2⟩:=bbox (N:=R) hB (by simp;omega);have Hin:=hide hin;have HB2:=hide hB;clear hin hB)
    all_goals
     go_wp2_with fail
     go_roundw
     case rel =>
      refine⟨j+1,by go_num,by omega,hide (((HT.out.keep (w:=wr) (w':=w2) (fun b _ hb=>HB2.out.block b hb) hy2).put4 Hd.out hlt (fun b hb=>hb.2.1) hca hcb Hin.out (by omega))),hide ?_,hide ?_⟩
      ·exact((((HK.out.drew.trans (Keep.of_below HB2.out (fun b hb=>Nat.lt_of_lt_of_le hb.1 hks))).setCell (fun h=>h.2 rfl) _).setCell (fun h=>h.2 rfl) _).setCell (fun h=>h.2 rfl) _).setCell (fun h=>h.2 rfl) _
      ·intro o;rw[frozen4];exact(hg2 o).trans (hF o)
     case measure=>simp[intOf];omega
   ·obtain⟨cx,cf⟩:=HK.out.box (N:=w.heap.size+1) ⟨by omega,by omega⟩;have bx0:=(bx 0).trans hb0;have bx1:=(bx 1).trans hb1;have bx2:=(bx 2).trans hb2;have cx0:=(cx 0).trans hr0;have cx1:=(cx 1).trans hr1;have cx2:=(cx 2).trans hr2;have cx3:=(cx 3).trans hr3;have hne:R≠w.heap.size+1:=by omega
    have cg :∀o,wr.frozen? ⟨w.heap.size+1,o,none⟩=false:=fun o=>(cf o).trans (hrf o);obtain⟨s0,s1,s2,s3⟩:=same4 (x:= .int .u8 k) (y:= .string t) (z:= .int .i64 n) (u:= .slice (some ⟨R,0,none⟩) ks.len cap) cx0 cx1 cx2 cx3
    go_wp2_with fail
    refine bodyPost_ret (v:= .agg #[.int .u8 k,.string t,.int .i64 n,.slice (some ⟨R,0,none⟩) ks.len cap]) ?_ rfl ?_
    ·simp only[results,Tryz.results273];go_simp
    ·refine⟨_,_,rfl,FoIn.mono (S:=S) ?_ (fun _ _ h=>h),hcap,hcap2,?_⟩
     ·exact((HT.out.keep (fun b hb _=>heap4 _ _ _ _ _ _ _ _ _ _ hb.2.2.2) (fun q=>World.cell?_of_block (a:=⟨R,q,none⟩) (heap4 _ _ _ _ _ _ _ _ _ _ hne))).fo (HS.out R (by omega)) (fun b hb=>hb.1))
     ·exact((((HWB.out.trans (HK.out.mono (P:=fun b=>b<w.heap.size) (fun b hb=>⟨by omega,by omega⟩)).below).setCell (by simp) _).setCell (by simp) _).setCell (by simp) _).setCell (by simp) _
end
end Go.Proofs.YtialngdffhmobaaGreatDoor
