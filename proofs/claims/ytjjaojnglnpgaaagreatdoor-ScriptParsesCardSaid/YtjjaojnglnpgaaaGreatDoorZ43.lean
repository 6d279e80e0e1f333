/- Part 44 of what scriptParses_card rests on. -/
import Derived.Deep.RegionHeld3
import Derived.Deep.CutBlock
import Derived.Deep.DeepCutAuto
import Derived.BigQuiet
import Derived.Test.YtjjaojnglnpgaaaGreatDoorZ10
import Derived.Test.YtjjaojnglnpgaaaGreatDoorZ03
import Derived.Test.YtjjaojnglnpgaaaGreatDoorZ00
set_option linter.unusedVariables false
set_option linter.unusedSimpArgs false
set_option maxHeartbeats 16000000
set_option maxRecDepth 1000000
namespace Go.Proofs.YtjjaojnglnpgaaaGreatDoor
section
open Go.RowKit
theorem nD:(Tryz.prog.info? 38).map (fun i=>(i.zero,i.size,i.bytes))=some (some (.slice none 0 0),1,24):=by kernel_rfl
theorem OZ:(Tryz.prog.info? 3).map (fun i=>(i.zero,i.size,i.bytes))=some (some (.int .i64 0),1,8):=by kernel_rfl
def mkI(j i:Nat):List Value:=[.int .i64 (1000003*((j:Int)+7)+(i:Int))]
theorem Ba(j i:Nat):(mkI j i).length=1:=rfl
theorem lu(j i:Nat):∀u∈mkI j i,u.oneCell'=true:=by
 intro u hu;simp only[mkI,List.mem_cons,List.not_mem_nil,or_false]at hu;rcases hu with rfl<;>rfl
theorem ZV{w:World}{B K LB c:Nat}{vs:Nat→Value}{ns:Nat→Nat}{T0:Nat→Option Nat}(hR:RowsG 1 mkI 3 B K vs ns (fun _=>0) T0 w)(hls :∀j,j<K→w.cell? ⟨LB,j,none⟩=some (vs j))(hT:T0 LB=none)(hn :∀j,j<K→ns j≤1073741824)(hK:K≤1073741824)(hB:B≤w.heap.size)(kX:LB<w.heap.size):
  Calls Tryz.prog 82 #[.slice (some ⟨LB,0,none⟩) K c] w fun e w'=>e = .returned (.bool true)∧Below B w w'∧∀b,b<w.heap.size→T0 b=none→w'.heap[b]?=w.heap[b]?:=by
 obtain⟨i1,hi1,aN,az,aP⟩:=info_parts nD;obtain⟨i2,hi2,gW,gX,gY⟩:=info_parts OZ;have HF:Hid (FbG 1 mkI 3 w LB K B vs ns (fun _=>0) T0 w):=hide ⟨hR,⟨kX,hT,fun _ _ _=>rfl⟩,Below.refl _ _⟩;have dm:=hide hls;have Hn:=hide hn;have hmk:Hid (∀(a b:Nat) (W:World),a≤1099511627776→b≤2199023255552→Calls Tryz.prog 144 #[.int .i64 a,.int .i64 b] W fun e w'=>e = .returned (.int .i64 (1000003*((a:Int)+7)+(b:Int)))∧Below W.heap.size W w'):=hide fun a b W h1 h2=>(KI a b W ⟨by omega,by omega⟩ ⟨by omega,by omega⟩).mono fun e w1 h=>⟨h.1,by rw[←h.2];exact Below.refl _ _⟩;clear hR hls hn;go_enter Tryz.func82,Tryz.ntmps82
 go_wp2_with fail
 go_loopg [3] K (fun g k wr=>∃q:Nat,q≤K∧g=K-q∧k = .int .i64 q∧Hid (FbG 1 mkI 3 w LB K B vs ns (fun j=>if j<q then ns j else 0) T0 wr))
 case atStart=>exact⟨0,by omega,by omega,rfl,hide (HF.out.mono fun j _=>by simp)⟩
 case round =>
 clear HF;obtain⟨q,hq,hg,rfl,HF⟩:=hrel;by_cases hlt:q<K
 ·have hnq:=Hn.out q hlt
  go_wp2_with fail
  go_loopg [4] (ns q) (fun g i wx=>∃r:Nat,r≤ns q∧g=ns q-r∧i = .int .i64 r∧Hid (FbG 1 mkI 3 w LB K B vs ns (fun j=>if j<q then ns j else if j=q then r else 0) T0 wx))
  case atStart=>exact⟨0,by omega,by omega,rfl,hide (HF.out.mono fun j _=>by by_cases h:j<q<;>simp[h])⟩
  case round =>
  clear HF;obtain⟨r,hr,hg2,rfl,HF⟩:=hrel;by_cases hlt2:r<ns q
  ·obtain⟨g0,c0,hv,dU,hBg,hgl,hcs,hf,_⟩:=HF.out.1.at_ hlt hlt2 (by decide);obtain⟨u0,hu0⟩:=hcs 0 (by decide);simp only[Nat.mul_one,Nat.add_zero]at hu0;have hh:=HF.out.head (dm.out q hlt);rw[hv]at hh;have gZ:LB≠g0:=fun e=>by rw[←e,hT]at dU;cases dU
   have OW:g0≠LB:=Ne.symm gZ;have hLw:LB<wr.drew.heap.size:=World.block_lt_of_cell? _ _ hh;have Hv:=hide hv;have xA:=hide dU;clear hv dU hcs;have HC:Hid (∀W,Calls Tryz.prog 144 #[.int .i64 q,.int .i64 r] W fun e w'=>e = .returned (.int .i64 (1000003*((q:Int)+7)+(r:Int)))∧Below W.heap.size W w'):=hide fun W=>hmk.out q r W (by omega) (by omega);have hgl:g0<wr.drew.heap.size:=hgl;have hu0:wr.drew.cell? ⟨g0,r,none⟩=some u0:=hu0;have hf :∀o,wr.drew.frozen? ⟨g0,o,none⟩=false:=hf
   go_upto_region 7 with fail
   go_region_held3 (fun w'=>w'.cell? ⟨LB,q,none⟩=some (.slice (some ⟨g0,0,none⟩) (ns q) c0)∧True) (go_keep) (first|(go_at_call 144;(with_reducible refine(HC.out _).mono ?_);rintro e w1 ⟨rfl,hB1⟩;have OX:=(hB1.cell (p:=⟨LB,q,none⟩) hLw).trans hh;have OY :∀o,w1.frozen? ⟨g0,o,none⟩=false:=fun o=>(hB1.frozen (p:=⟨g0,o,none⟩) hgl).trans (hf o);have hz0:=(hB1.cell (p:=⟨g0,r,none⟩) hgl).trans hu0;have HB1:=hide hB1))
   go_wp2_with fail
   go_roundg (ns q-(r+1))
   case measure=>omega
   case rel =>
    refine⟨r+1,by omega,rfl,by go_num,hide ?_⟩;refine FbG.mono (FbG.mark (HF.out.below hB (uu HB1.out)) hlt hlt2 (by simp) Hv.out xA.out hBg rfl ?_) fun j _=>by by_cases h1:j=q<;>simp[h1]
    first|rfl|(simp[World.setCells,mkI];done)
  ·obtain⟨A,c0,hv⟩:=HF.out.1.shape hlt;have hh:=HF.out.head (dm.out q hlt);rw[hv]at hh;clear hv
   go_wp2_with fail
   go_roundg (K-(q+1))
   case measure=>omega
   case rel =>
    have hr2:r=ns q:=by omega
    exact⟨q+1,by omega,rfl,by go_num,hide (HF.out.mono fun j _=>by
     by_cases h1:j<q
     ·simp[h1,Nat.lt_succ_of_lt h1]
     ·by_cases h2:j=q
      ·subst h2;simp[hr2]
      ·have h3 :¬j<q+1:=by omega
       simp[h1,h2,h3])⟩
 ·have sO:q=K:=by omega
  subst sO;have JK:(q:Int)≤549755813888:=by omega
  go_wp2_with(at_make;refine wpList_make_full _ rfl _ _ 72 rfl 0 38 i1 (.slice none 0 0) 1 Tryz.underlying72 hi1 aN az _ _ _ _ q rfl rfl rfl rfl (by rw[aP];omega) (by unfold maxLen;omega) (Nat.zero_le _) ?_)
  intro w1 hown hgrow;have kY:Hid (∀xs,w1.ownsRow 0 38 1 (.slice (some ⟨wr.heap.size,0,none⟩) q q) q xs→FgG 1 mkI 3 38 w LB wr.heap.size q B vs ns T0 T0 xs (fun j=>j<0) (fun j=>ns j+64) w1):=hide fun xs hx=>by
   have hF:=HF.out;have hz:=hF.2.2.size;have xB:T0 wr.heap.size=none:=by
    cases h:T0 wr.heap.size with
    | none=>rfl
    | some j=>exact absurd (hF.1.lt wr.heap.size (by rw[h];exact fun e=>by cases e)).2 (Nat.lt_irrefl _)
   exact⟨(hF.1.mono fun j hj=>by simp[hj]).still ⟨hgrow.size,fun b hb _=>hgrow.block b hb (by simp)⟩,fun _ _=>rfl,xB,hx,fun j hj=>absurd hj (Nat.not_lt_zero _),fun b hb h0=>(hgrow.block b (aH hb hz) (by simp)).trans (hF.2.1.2.2 b hb h0),hF.2.2.trans ((Below.refl _ _).grown hgrow (aI hB hz) (by simp)),aI hB hz,hB,hz,kX,hT⟩
  have HP:=hide (kY.out _ hown);clear kY hown hgrow HF;generalize wr.heap.size=GB at HP⊢
  go_wp2_with fail
  go_loopg [6] q (fun g k wx=>∃(s:Nat) (T:Nat→Option Nat) (xs:List Value),s≤q∧g=q-s∧k = .int .i64 s∧Hid (FgG 1 mkI 3 38 w LB GB q B vs ns T0 T xs (fun j=>j<s) (fun j=>ns j+64) wx))
  case atStart=>exact⟨0,T0,_,by omega,by omega,rfl,HP⟩
  case round =>
  clear HP;obtain⟨s,T1,xs,hs,hg3,rfl,HP⟩:=hrel;by_cases hlt:s<q
  ·have hns:=Hn.out s hlt;obtain⟨A,c0,hv⟩:=HP.out.rows.shape hlt;have hh:=HP.out.head (dm.out s hlt);rw[hv]at hh;have Hv:=hide hv;clear hv
   go_wp2_with fail
   go_loopg [7,8] 64 (fun g v i wx=>∃(r:Nat) (T:Nat→Option Nat),r≤64∧g=64-r∧i = .int .i64 r∧Hid (FgG 1 mkI 3 38 w LB GB q B vs ns T0 T xs (fun j=>j<s) (fun j=>ns j+64) wx)∧Hid (wx.ownsRow B 3 1 v (ns s+r) (marksG mkI s (ns s+r))∧∀g,v.ownBlock=some g→T g=some s))
   case atStart=>exact⟨0,T1,by omega,by omega,rfl,HP,hide (by rw[←Hv.out];exact⟨HP.out.rows.full hlt rfl,HP.out.rows.tag s hlt⟩)⟩
   case round =>
   clear HP hh;obtain⟨r,T2,hr,hg4,rfl,HP,HO⟩:=hrel;by_cases hlt2:r<64
   ·have hh:=HP.out.head (dm.out s hlt);rw[Hv.out]at hh;have hz:=HP.out.b.size;have HC:Hid (∀W,Calls Tryz.prog 144 #[.int .i64 s,.int .i64 ((ns s:Int)+r)] W fun e w'=>e = .returned (.int .i64 (1000003*((s:Int)+7)+(((ns s+r:Nat):Int):Int)))∧Below W.heap.size W w'):=hide fun W=>hmk.out s (ns s+r) W (by omega) (by omega);simp only[Int.natCast_add]at HC
    go_wp2_with(first
     | (go_at_call 144;(with_reducible refine(HC.out _).mono ?_);rintro e w1 ⟨rfl,hB1⟩;have eF:=hide (HP.out.below hB1);have bC:=hide (qp HO.out.1 hB1);have hsz1:=hB1.size;clear hB1)
     | (at_builtin;refine fE rfl _ _ 38 rfl B 3 Tryz.underlying38 OZ rfl (by decide) _ (ns s+r) (marksG mkI s (ns s+r)) rfl (bC.out.alloc _) (some ⟨w1.heap.size,0,none⟩) 1 1 (mkI s (ns s+r)) rfl (by simp) rfl (fun ad e=>by injection e with e;subst e;exact DW w1 (mkI s (ns s+r)) _) (lu _ _) (by unfold maxLen;omega) (by omega) (aI (aI hB (aI hz hsz1)) (by simp)) ?_))
    intro v1 w2 h1 hg1 hw1;have HA:=hide ((eF.out.alloc _).append (by decide) hlt (fun j hj=>by omega) (bC.out.alloc _) HO.out.2 h1 hg1 hw1 (oP Ba (by omega)) (by omega));have H1:=hide h1;clear h1 hg1 hw1
    go_wp2
    go_roundg (64-(r+1))
    case measure=>omega
    case rel=>exact⟨r+1,_,by omega,rfl,by go_num,hide HA.out.1,hide ⟨by have:=H1.out;rw[show ns s+(r+1)=ns s+r+1 from rfl,uy];exact this,HA.out.2⟩⟩
   ·have bP:r=64:=by omega
    subst bP;obtain⟨⟨u,hu⟩,hf⟩:=HP.out.place hlt;obtain⟨A2,c2,rfl⟩:=bM HO.out.1
    go_wp2_with fail
    go_roundg (q-(s+1))
    case measure=>omega
    case rel=>exact⟨s+1,T2,_,by omega,rfl,by go_num,hide (HP.out.put hlt (GsG.of_own (xs:=[]) Ba (by simpa using HO.out.1) (by omega) (by omega) HO.out.2) (fun j hj=>by rcases Nat.lt_succ_iff_lt_or_eq.1 hj with h|h;exact .inr ⟨by omega,h,aC _⟩;exact .inl h))⟩
  ·have mP:s=q:=by omega
   subst mP
   go_wp2_with fail
   go_loopg [9] s (fun g k wx=>∃a:Nat,a≤s∧g=s-a∧k = .int .i64 a∧Hid (FgG 1 mkI 3 38 w LB GB s B vs ns T0 T1 xs (fun j=>j<s) (fun j=>ns j+64) wx))
   case atStart=>exact⟨0,by omega,by omega,rfl,HP⟩
   case round =>
   clear HP;obtain⟨a,ha,hg5,rfl,HP⟩:=hrel;by_cases hlt:a<s
   ·have hna:=Hn.out a hlt
    go_wp2_with fail
    go_loopg [10] (ns a+64) (fun g i wx=>∃r:Nat,r≤ns a+64∧g=ns a+64-r∧i = .int .i64 r∧Hid (FgG 1 mkI 3 38 w LB GB s B vs ns T0 T1 xs (fun j=>j<s) (fun j=>ns j+64) wx))
    case atStart=>exact⟨0,by omega,by omega,rfl,HP⟩
    case round =>
    clear HP;obtain⟨r,hr,JL,rfl,HP⟩:=hrel;obtain⟨g1,c1,hG,hc1,hc2,hm⟩:=HP.out.grown hlt hlt;by_cases hlt2:r<ns a+64
    ·have HC:Hid (∀W,Calls Tryz.prog 144 #[.int .i64 a,.int .i64 r] W fun e w'=>e = .returned (.int .i64 (1000003*((a:Int)+7)+(r:Int)))∧Below W.heap.size W w'):=hide fun W=>hmk.out a r W (by omega) (by omega);have x0:wr.cell? ⟨g1,r,none⟩=some (.int .i64 (1000003*((a:Int)+7)+(r:Int))):=by have:=hm r hlt2 0 _ rfl;simpa only[Nat.mul_one,Nat.add_zero]using this
     clear hm;have hh:=HP.out.head (dm.out a hlt);have hlow :∀{p:Addr} {v:Value},wr.cell? p=some v→∀W,Below wr.heap.size wr W→W.cell? p=some v:=fun h W hW=>(World.cell?_of_block (hW.block _ (block_lt_of_cell h))).trans h;by_cases hlt3:r<ns a
     ·obtain⟨g0,c0,hv,_,_,_,_,_,hm0⟩:=HP.out.rows.at_ hlt hlt3 (by decide);have y0:wr.cell? ⟨g0,r,none⟩=some (.int .i64 (1000003*((a:Int)+7)+(r:Int))):=by have:=hm0 hlt3 0 _ rfl;simpa only[Nat.mul_one,Nat.add_zero]using this
      rw[hv]at hh;clear hm0 hv
      go_wp2_with fail
      replace hh:=hlow hh;replace hG:=hlow hG;replace x0:=hlow x0;replace y0:=hlow y0;clear hlow;have hd1:Below wr.heap.size wr wr.drew:=aO (Below.refl _ _) 1;refine wp_region_held_drew (S:=Below wr.heap.size wr) (by kernel_rfl) hd1 (fun hHeld=>?_);generalize wr.drew=wD at hHeld⊢;refine ae 0 hHeld ?_;refine ae 1 hHeld ?_;refine ae 2 hHeld ?_;refine tk (v:=?_) 3 hHeld ?_ ?_;rotate_left
      ·intro w' hSw;have hG':=hG w' hSw
       first|(go_simp;done)|(go_simp;with_reducible rfl)
      try simp only[aA,aB]
      refine ae 4 hHeld ?_;refine ae 5 hHeld ?_;refine tk (v:=?_) 6 hHeld ?_ ?_;rotate_left
      ·intro w' hSw;have tJ:=x0 w' hSw
       first|(go_simp;done)|(go_simp;with_reducible rfl)
      try simp only[aA,aB]
      refine ae 7 hHeld ?_;refine ae 8 hHeld ?_;refine wpAnyH_ready (rs:=[9]) (by kernel_rfl) (by simp) ?_;refine AllReadyH.cons rfl (fun K hK=>?_) AllReadyH.nil;go_simp
      go_wp2_with(go_at_call 144;(with_reducible refine(HC.out _).mono ?_);rintro e8 w1 ⟨rfl,hB1⟩)
      have hH1:=hHeld.trans (hB1.mono hHeld.size);refine hK.out _ _ hH1 (fun _=>?_);clear hK K
      try simp only[Act.put,aG,aE,aF,aD,aA,aB]
      refine ae 10 hH1 ?_;refine ae 11 hH1 ?_;refine ae 12 hH1 ?_;refine ae 13 hH1 ?_;refine ae 14 hH1 ?_;refine ae 15 hH1 ?_;refine ae 16 hH1 ?_;refine tk (v:=?_) 17 hH1 ?_ ?_;rotate_left
      ·intro w' hSw;have hh':=hh w' hSw
       first|(go_simp;done)|(go_simp;with_reducible rfl)
      try simp only[aA,aB]
      refine ae 18 hH1 ?_;refine ae 19 hH1 ?_;refine ae 20 hH1 ?_;refine ae 21 hH1 ?_;refine ae 22 hH1 ?_;refine ae 23 hH1 ?_;refine tk (v:=?_) 24 hH1 ?_ ?_;rotate_left
      ·intro w' hSw;have hh':=hh w' hSw
       first|(go_simp;done)|(go_simp;with_reducible rfl)
      try simp only[aA,aB]
      refine ae 25 hH1 ?_;refine ae 26 hH1 ?_;refine tk (v:=?_) 27 hH1 ?_ ?_;rotate_left
      ·intro w' hSw;have y0':=y0 w' hSw
       first|(go_simp;done)|(go_simp;with_reducible rfl)
      try simp only[aA,aB]
      refine ae 28 hH1 ?_;refine ae 29 hH1 ?_;refine wpAnyH_ready (rs:=[30]) (by kernel_rfl) (by simp) ?_;refine AllReadyH.cons rfl (fun K hK=>?_) AllReadyH.nil;go_simp
      go_wp2_with(go_at_call 144;(with_reducible refine(HC.out _).mono ?_);rintro e7 w3 ⟨rfl,hB3⟩)
      have hH3:=hH1.trans (hB3.mono hH1.size);refine hK.out _ _ hH3 (fun _=>?_);clear hK K
      try simp only[Act.put,aG,aE,aF,aD,aA,aB]
      refine ae 31 hH3 ?_;refine ae 32 hH3 ?_;refine ae 33 hH3 ?_;refine ae 34 hH3 ?_;refine wpAnyH_done (by kernel_rfl) ?_ _
      try simp only[Act.put,aG,aE,aF,aD,aA,aB]
      have aQ:=hide (HP.out.below hH3)
      go_wp2_with fail
      go_roundg (ns a+64-(r+1))
      case measure=>omega
      case rel=>exact⟨r+1,by omega,rfl,by go_num,aQ⟩
     ·obtain⟨A,c0,hv⟩:=HP.out.rows.shape hlt;rw[hv]at hh;clear hv
      go_wp2_with fail
      replace hh:=hlow hh;replace hG:=hlow hG;replace x0:=hlow x0;clear hlow;have hd1:Below wr.heap.size wr wr.drew:=aO (Below.refl _ _) 1;refine wp_region_held_drew (S:=Below wr.heap.size wr) (by kernel_rfl) hd1 (fun hHeld=>?_);generalize wr.drew=wD at hHeld⊢;refine ae 0 hHeld ?_;refine ae 1 hHeld ?_;refine ae 2 hHeld ?_;refine tk (v:=?_) 3 hHeld ?_ ?_;rotate_left
      ·intro w' hSw;have hG':=hG w' hSw
       first|(go_simp;done)|(go_simp;with_reducible rfl)
      try simp only[aA,aB]
      refine ae 4 hHeld ?_;refine ae 5 hHeld ?_;refine tk (v:=?_) 6 hHeld ?_ ?_;rotate_left
      ·intro w' hSw;have tJ:=x0 w' hSw
       first|(go_simp;done)|(go_simp;with_reducible rfl)
      try simp only[aA,aB]
      refine ae 7 hHeld ?_;refine ae 8 hHeld ?_;refine wpAnyH_ready (rs:=[9]) (by kernel_rfl) (by simp) ?_;refine AllReadyH.cons rfl (fun K hK=>?_) AllReadyH.nil;go_simp
      go_wp2_with(go_at_call 144;(with_reducible refine(HC.out _).mono ?_);rintro e8 w1 ⟨rfl,hB1⟩)
      have hH1:=hHeld.trans (hB1.mono hHeld.size);refine hK.out _ _ hH1 (fun _=>?_);clear hK K
      try simp only[Act.put,aG,aE,aF,aD,aA,aB]
      refine ae 10 hH1 ?_;refine ae 11 hH1 ?_;refine ae 12 hH1 ?_;refine ae 13 hH1 ?_;refine ae 14 hH1 ?_;refine ae 15 hH1 ?_;refine ae 16 hH1 ?_;refine tk (v:=?_) 17 hH1 ?_ ?_;rotate_left
      ·intro w' hSw;have hh':=hh w' hSw
       first|(go_simp;done)|(go_simp;with_reducible rfl)
      try simp only[aA,aB]
      refine ae 18 hH1 ?_;refine ae 19 hH1 ?_;refine ae 20 hH1 ?_;refine tn 21 hH1 ?_
      try simp only[aA,aB]
      refine tn 22 hH1 ?_
      try simp only[aA,aB]
      refine tn 23 hH1 ?_
      try simp only[aA,aB]
      refine tn 24 hH1 ?_
      try simp only[aA,aB]
      refine tn 25 hH1 ?_
      try simp only[aA,aB]
      refine tn 26 hH1 ?_
      try simp only[aA,aB]
      refine tn 27 hH1 ?_
      try simp only[aA,aB]
      refine tn 28 hH1 ?_
      try simp only[aA,aB]
      refine tn 29 hH1 ?_
      try simp only[aA,aB]
      refine tn 30 hH1 ?_
      try simp only[aA,aB]
      refine tn 31 hH1 ?_
      try simp only[aA,aB]
      refine tn 32 hH1 ?_
      try simp only[aA,aB]
      refine ae 33 hH1 ?_;refine ae 34 hH1 ?_;refine wpAnyH_done (by kernel_rfl) ?_ _
      try simp only[Act.put,aG,aE,aF,aD,aA,aB]
      have aQ:=hide (HP.out.below hH1)
      go_wp2_with fail
      go_roundg (ns a+64-(r+1))
      case measure=>omega
      case rel=>exact⟨r+1,by omega,rfl,by go_num,aQ⟩
    ·clear hm
     go_wp2_with fail
     go_roundg (s-(a+1))
     case measure=>omega
     case rel=>exact⟨a+1,by omega,rfl,by go_num,HP⟩
   ·have has:a=s:=by omega
    subst has;have fV:=hide (HP.out.mono (J':=fun j=>j<a) (p':=ns) (fun j hj=>⟨hj,by omega⟩));clear HP
    go_wp2_with fail
    go_loopg [11] a (fun g k wx=>∃(b:Nat) (T:Nat→Option Nat) (xs:List Value),b≤a∧g=a-b∧k = .int .i64 b∧Hid (FgG 1 mkI 3 38 w LB GB a B vs ns T0 T xs (fun j=>j<a) ns wx))
    case atStart=>exact⟨0,T1,xs,by omega,by omega,rfl,fV⟩
    case round =>
    clear fV;obtain⟨b,T2,fG,hb,JM,rfl,HP⟩:=hrel;by_cases hlt:b<a
    ·have hnb:=Hn.out b hlt
     go_wp2_with(at_make;refine wpList_make_full _ rfl _ _ 38 rfl 0 3 i2 (.int .i64 0) 1 Tryz.underlying38 hi2 gW gX _ _ _ _ 64 rfl rfl rfl rfl (by rw[gY];omega) (by unfold maxLen;omega) (Nat.zero_le _) ?_)
     intro w1 hown hgrow;have hBw:=aI hB HP.out.b.size;have hM1:T2 wr.heap.size=none:=by
      cases h:T2 wr.heap.size with
      | none=>rfl
      | some j=>exact absurd (HP.out.rows.lt wr.heap.size (by rw[h];exact fun e=>by cases e)).2 (Nat.lt_irrefl _)
     have hM2:wr.heap.size≠GB:=by have:=HP.out.gb;omega
     have xC:w.heap.size≤wr.heap.size:=HP.out.b.size;have HQ:=hide (HP.out.still hgrow.size (fun k hk _=>hgrow.block k hk (by simp)) ((Below.refl _ _).grown hgrow hBw (by simp)));obtain⟨ys0,HO⟩:∃ys,Hid (w1.ownsRow 0 3 1 (.slice (some ⟨wr.heap.size,0,none⟩) 64 64) 64 (marksG mkI (b+a) 0++ys)):=⟨_,hide (by rw[xU,List.nil_append];exact hown)⟩;clear hown hgrow HP;generalize wr.heap.size=MB at HO hBw hM1 hM2 xC⊢
     go_wp2_with fail
     go_loopg [13] 64 (fun g i wx=>∃(r:Nat) (ys:List Value),r≤64∧g=64-r∧i = .int .i64 r∧Hid (FgG 1 mkI 3 38 w LB GB a B vs ns T0 T2 fG (fun j=>j<a) ns wx)∧Hid (wx.ownsRow 0 3 1 (.slice (some ⟨MB,0,none⟩) 64 64) 64 (marksG mkI (b+a) r++ys)))
     case atStart=>exact⟨0,_,by omega,by omega,rfl,HQ,HO⟩
     case round =>
     clear HQ HO;obtain⟨r,ys,hr,JO,rfl,HP,HO⟩:=hrel;by_cases hlt2:r<64
     ·have HC:Hid (∀W,Calls Tryz.prog 144 #[.int .i64 ((b:Int)+a),.int .i64 r] W fun e w'=>e = .returned (.int .i64 (1000003*((((b+a:Nat):Int):Int)+7)+(r:Int)))∧Below W.heap.size W w'):=hide fun W=>hmk.out (b+a) r W (by omega) (by omega);simp only[Int.natCast_add]at HC;have hl:=HO.out.1
      go_wp2_with(go_at_call 144;(with_reducible refine(HC.out _).mono ?_);rintro e w1 ⟨rfl,hB1⟩;have eF:=hide (HP.out.below hB1);have bC:=hide (qp HO.out hB1);clear hB1;have hf1:=bC.out.frozenAt;obtain⟨u0,hu0⟩:∃u,w1.cell? ⟨MB,r,none⟩=some u:=⟨_,by rw[bC.out.cellAt _ (by omega)];exact List.getElem?_eq_getElem (by rw[hl];omega)⟩;skip)
      go_roundg (64-(r+1))
      case measure=>omega
      case rel =>
       have ig:=DU Ba bC.out hlt2 rfl rfl;refine⟨r+1,ys.drop 1,by omega,rfl,by go_num,hide ?_,hide ?_⟩
       ·have hst:FgG 1 mkI 3 38 w LB GB a B vs ns T0 T2 fG (fun j=>j<a) ns (w1.setCells MB (r*1) (mkI (b+a) r)):=by
         refine eF.out.still ig.2.size (fun k hk hk2=>zG _ _ _ _ ?_) (zH hBw _ _ _);rintro rfl;rcases hk2 with h|h|h
         ·exact h hM1
         ·omega
         ·exact hM2 h
        first|exact hst|(simpa[World.setCells,mkI]using hst)
       ·first|exact ig.1|(simpa[World.setCells,mkI]using ig.1)
     ·obtain⟨A,c0,hv⟩:=HP.out.rows.shape hlt;have hh:=HP.out.head (dm.out b hlt);rw[hv]at hh;have hfull:=HP.out.rows.full hlt rfl;have htag:=HP.out.rows.tag b hlt;rw[hv]at hfull htag;have cu:=hide hfull;have ik:=hide htag;clear hv hfull htag;have bP:r=64:=by omega
      subst bP;have HM:=hide (DV Ba HO.out);have hl:=HM.out.1
      go_wp2_with(at_builtin;refine fE rfl _ _ 38 rfl B 3 Tryz.underlying38 OZ rfl (by decide) _ (ns b) (marksG mkI b (ns b)) rfl cu.out (some ⟨MB,0,none⟩) 64 64 (marksG mkI (b+a) 64) rfl (by simp) hl (fun ad e=>by injection e with e;subst e;exact HM.out.cells rfl) (Dq lu) (by unfold maxLen;omega) (by omega) (aI hB HP.out.b.size) ?_)
      intro v1 w1 h1 hg1 hw1;have HA:=hide ((HP.out.mono (J':=fun j=>j<a∧j≠b) (p':=ns) (fun j hj=>⟨hj.1,aC _⟩)).append (by decide) hlt (fun j hj=>hj.2) cu.out ik.out h1 hg1 hw1 (oP Ba (aC _)) (aC _));obtain⟨A2,c2,rfl⟩:=bM h1;have H1:=hide h1;clear h1 hg1 hw1 hh;obtain⟨⟨u,hu⟩,hf⟩:=HA.out.1.place hlt
      go_wp2
      go_roundg (a-(b+1))
      case measure=>omega
      case rel=>exact⟨b+1,_,_,by omega,rfl,by go_num,hide (HA.out.1.put hlt (GsG.of_own (xs:=marksG mkI (b+a) 64) Ba H1.out (by omega) (by omega) HA.out.2) (fun j hj=>by by_cases h:j=b;exact .inl h;exact .inr ⟨h,⟨hj,h⟩,aC _⟩))⟩
    ·have hba:b=a:=by omega
     subst hba
     go_wp2_with fail
     go_loopg [14] b (fun g k wx=>∃d:Nat,d≤b∧g=b-d∧k = .int .i64 d∧Hid (FgG 1 mkI 3 38 w LB GB b B vs ns T0 T2 fG (fun j=>j<b) ns wx))
     case atStart=>exact⟨0,by omega,by omega,rfl,HP⟩
     case round =>
     clear HP;obtain⟨d,hd,JP,rfl,HP⟩:=hrel;by_cases hlt:d<b
     ·have hnd:=Hn.out d hlt
      go_wp2_with fail
      go_loopg [15] (ns d) (fun g i wx=>∃r:Nat,r≤ns d∧g=ns d-r∧i = .int .i64 r∧Hid (FgG 1 mkI 3 38 w LB GB b B vs ns T0 T2 fG (fun j=>j<b) ns wx))
      case atStart=>exact⟨0,by omega,by omega,rfl,HP⟩
      case round =>
      clear HP;obtain⟨r,hr,iZ,rfl,HP⟩:=hrel;obtain⟨g1,c1,hG,hc1,hc2,hm⟩:=HP.out.grown hlt hlt;have hh:=HP.out.head (dm.out d hlt);by_cases hlt2:r<ns d
      ·have HC:Hid (∀W,Calls Tryz.prog 144 #[.int .i64 d,.int .i64 r] W fun e w'=>e = .returned (.int .i64 (1000003*((d:Int)+7)+(r:Int)))∧Below W.heap.size W w'):=hide fun W=>hmk.out d r W (by omega) (by omega);have x0:wr.cell? ⟨g1,r,none⟩=some (.int .i64 (1000003*((d:Int)+7)+(r:Int))):=by have:=hm r hlt2 0 _ rfl;simpa only[Nat.mul_one,Nat.add_zero]using this
       obtain⟨g0,c0,hv,_,_,_,_,_,hm0⟩:=HP.out.rows.at_ hlt hlt2 (by decide);have y0:wr.cell? ⟨g0,r,none⟩=some (.int .i64 (1000003*((d:Int)+7)+(r:Int))):=by have:=hm0 hlt2 0 _ rfl;simpa only[Nat.mul_one,Nat.add_zero]using this
       have hlow :∀{p:Addr} {v:Value},wr.cell? p=some v→∀W,Below wr.heap.size wr W→W.cell? p=some v:=fun h W hW=>(World.cell?_of_block (hW.block _ (block_lt_of_cell h))).trans h;rw[hv]at hh;have bP:(r:Int)<(ns d:Int)+64:=by omega
       clear hm0 hv hm
       go_wp2_with fail
       replace hh:=hlow hh;replace hG:=hlow hG;replace x0:=hlow x0;replace y0:=hlow y0;clear hlow;have hd1:Below wr.heap.size wr wr.drew:=aO (Below.refl _ _) 1;refine wp_region_held_drew (S:=Below wr.heap.size wr) (by kernel_rfl) hd1 (fun hHeld=>?_);generalize wr.drew=wD at hHeld⊢;refine ae 0 hHeld ?_;refine ae 1 hHeld ?_;refine ae 2 hHeld ?_;refine tk (v:=?_) 3 hHeld ?_ ?_;rotate_left
       ·intro w' hSw;have hh':=hh w' hSw
        first|(go_simp;done)|(go_simp;with_reducible rfl)
       try simp only[aA,aB]
       refine ae 4 hHeld ?_;refine ae 5 hHeld ?_;refine tk (v:=?_) 6 hHeld ?_ ?_;rotate_left
       ·intro w' hSw;have y0':=y0 w' hSw
        first|(go_simp;done)|(go_simp;with_reducible rfl)
       try simp only[aA,aB]
       refine ae 7 hHeld ?_;refine ae 8 hHeld ?_;refine wpAnyH_ready (rs:=[9]) (by kernel_rfl) (by simp) ?_;refine AllReadyH.cons rfl (fun K hK=>?_) AllReadyH.nil;go_simp
       go_wp2_with(go_at_call 144;(with_reducible refine(HC.out _).mono ?_);rintro e8 w1 ⟨rfl,hB1⟩)
       have hH1:=hHeld.trans (hB1.mono hHeld.size);refine hK.out _ _ hH1 (fun _=>?_);clear hK K
       try simp only[Act.put,aG,aE,aF,aD,aA,aB]
       refine ae 10 hH1 ?_;refine ae 11 hH1 ?_;refine ae 12 hH1 ?_;refine ae 13 hH1 ?_;refine ae 14 hH1 ?_;refine ae 15 hH1 ?_;refine tk (v:=?_) 16 hH1 ?_ ?_;rotate_left
       ·intro w' hSw;have hG':=hG w' hSw
        first|(go_simp;done)|(go_simp;with_reducible rfl)
       try simp only[aA,aB]
       refine ae 17 hH1 ?_;refine ae 18 hH1 ?_;refine tk (v:=?_) 19 hH1 ?_ ?_;rotate_left
       ·intro w' hSw;have tJ:=x0 w' hSw
        first|(go_simp;done)|(go_simp;with_reducible rfl)
       try simp only[aA,aB]
       refine ae 20 hH1 ?_;refine ae 21 hH1 ?_;refine wpAnyH_ready (rs:=[22]) (by kernel_rfl) (by simp) ?_;refine AllReadyH.cons rfl (fun K hK=>?_) AllReadyH.nil;go_simp
       go_wp2_with(go_at_call 144;(with_reducible refine(HC.out _).mono ?_);rintro e7 w3 ⟨rfl,hB3⟩)
       have hH3:=hH1.trans (hB3.mono hH1.size);refine hK.out _ _ hH3 (fun _=>?_);clear hK K
       try simp only[Act.put,aG,aE,aF,aD,aA,aB]
       refine ae 23 hH3 ?_;refine ae 24 hH3 ?_;refine ae 25 hH3 ?_;refine wpAnyH_done (by kernel_rfl) ?_ _
       try simp only[Act.put,aG,aE,aF,aD,aA,aB]
       have aQ:=hide (HP.out.below hH3)
       go_wp2_with fail
       go_roundg (ns d-(r+1))
       case measure=>omega
       case rel=>exact⟨r+1,by omega,rfl,by go_num,aQ⟩
      ·obtain⟨A,c0,hv⟩:=HP.out.rows.shape hlt;rw[hv]at hh;clear hv hm
       go_wp2_with fail
       go_roundg (b-(d+1))
       case measure=>omega
       case rel=>exact⟨d+1,by omega,rfl,by go_num,HP⟩
     ·go_wp2_with fail
      go_ret;exact⟨rfl,HP.out.b,HP.out.ls⟩
end
end Go.Proofs.YtjjaojnglnpgaaaGreatDoor
