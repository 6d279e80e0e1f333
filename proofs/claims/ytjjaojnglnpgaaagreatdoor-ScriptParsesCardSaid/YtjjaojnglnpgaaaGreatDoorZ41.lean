/- Part 42. -/
import Derived.Deep.RegionHeld3
import Derived.Deep.CutBlock
import Derived.Deep.DeepCutAuto
import Derived.BigQuiet
import Derived.Test.YtjjaojnglnpgaaaGreatDoorZ10
import Derived.Test.YtjjaojnglnpgaaaGreatDoorZ25
import Derived.Test.YtjjaojnglnpgaaaGreatDoorZ16
import Derived.Test.YtjjaojnglnpgaaaGreatDoorZ20
import Derived.Test.YtjjaojnglnpgaaaGreatDoorZ12
import Derived.Test.YtjjaojnglnpgaaaGreatDoorZ13
import Derived.Test.YtjjaojnglnpgaaaGreatDoorZ03
import Derived.Test.YtjjaojnglnpgaaaGreatDoorZ00
set_option linter.unusedVariables false
set_option linter.unusedSimpArgs false
set_option maxHeartbeats 16000000
set_option maxRecDepth 1000000
namespace Go.Proofs.YtjjaojnglnpgaaaGreatDoor
section
open Go.RowKit
theorem ZM:(Tryz.prog.info? 23).map (fun i=>(i.zero,i.size,i.bytes))=some (some (.slice none 0 0),1,24):=by kernel_rfl
theorem OM:(Tryz.prog.info? 46).map (fun i=>(i.zero,i.size,i.bytes))=some (some (.agg zeroL.toArray),20,320):=by kernel_rfl
theorem Ue{w:World}{B K LB c:Nat}{vs:Nat→Value}{ns:Nat→Nat}{T0:Nat→Option Nat}(hR:RowsG 20 mkC 46 B K vs ns (fun _=>0) T0 w)(hls :∀j,j<K→w.cell? ⟨LB,j,none⟩=some (vs j))(hT:T0 LB=none)(hn :∀j,j<K→ns j≤1073741824)(hK:K≤1073741824)(hB:B≤w.heap.size)(kX:LB<w.heap.size):
  Calls Tryz.prog 99 #[.slice (some ⟨LB,0,none⟩) K c] w fun e w'=>e = .returned (.bool true)∧Below B w w'∧∀b,b<w.heap.size→T0 b=none→w'.heap[b]?=w.heap[b]?:=by
 obtain⟨i1,hi1,aN,az,aP⟩:=info_parts ZM;obtain⟨i2,hi2,gW,gX,gY⟩:=info_parts OM;have HF:Hid (FbG 20 mkC 46 w LB K B vs ns (fun _=>0) T0 w):=hide ⟨hR,⟨kX,hT,fun _ _ _=>rfl⟩,Below.refl _ _⟩;have dm:=hide hls;have Hn:=hide hn;have hmk:Hid (∀(a b:Nat) (W:World),a≤1099511627776→b≤2199023255552→Calls Tryz.prog 164 #[.int .i64 a,.int .i64 b] W fun e w'=>e = .returned (.agg (mkC a b).toArray)∧Below W.heap.size W w'):=hide fun a b W h1 h2=>Yl a b h1 h2 W;clear hR hls hn;go_enter Tryz.func99,Tryz.ntmps99
 go_wp2_with fail
 go_loopg [3] K (fun g k wr=>∃q:Nat,q≤K∧g=K-q∧k = .int .i64 q∧Hid (FbG 20 mkC 46 w LB K B vs ns (fun j=>if j<q then ns j else 0) T0 wr))
 case atStart=>exact⟨0,by omega,by omega,rfl,hide (HF.out.mono fun j _=>by simp)⟩
 case round =>
 clear HF;obtain⟨q,hq,hg,rfl,HF⟩:=hrel;by_cases hlt:q<K
 ·have hnq:=Hn.out q hlt
  go_wp2_with fail
  go_loopg [4] (ns q) (fun g i wx=>∃r:Nat,r≤ns q∧g=ns q-r∧i = .int .i64 r∧Hid (FbG 20 mkC 46 w LB K B vs ns (fun j=>if j<q then ns j else if j=q then r else 0) T0 wx))
  case atStart=>exact⟨0,by omega,by omega,rfl,hide (HF.out.mono fun j _=>by by_cases h:j<q<;>simp[h])⟩
  case round =>
  clear HF;obtain⟨r,hr,hg2,rfl,HF⟩:=hrel;by_cases hlt2:r<ns q
  ·obtain⟨g0,c0,hv,dU,hBg,hgl,hcs,hf,_⟩:=HF.out.1.at_ hlt hlt2 (by decide);have hh:=HF.out.head (dm.out q hlt);rw[hv]at hh;have gZ:LB≠g0:=fun e=>by rw[←e,hT]at dU;cases dU
   have hth:wr.there g0 (r*20) 20:=fun j hj=>by
    obtain⟨u,hu⟩:=hcs j hj;exact⟨by rw[hu];rfl,hf _⟩
   have JJ:=hide hth;have Hv:=hide hv;have xA:=hide dU;clear hv dU hcs hth hf;have HC:Hid (∀W,Calls Tryz.prog 164 #[.int .i64 q,.int .i64 r] W fun e w'=>e = .returned (.agg (mkC q r).toArray)∧Below W.heap.size W w'):=hide fun W=>hmk.out q r W (by omega) (by omega);have hcL :∀W,Keep (fun k=>k<wr.heap.size∧k≠g0) wr W→W.cell? ⟨LB,q,none⟩=some (.slice (some ⟨g0,0,none⟩) (ns q) c0):=fun W hW=>(hW.cell (a:=⟨LB,q,none⟩) ⟨block_lt_of_cell hh,gZ⟩).trans hh
   go_upto_region 7 with fail
   have hd1:Below wr.heap.size wr wr.drew:=aO (Below.refl _ _) 1;have hdd:=hd1;refine wp_region_held_drew (S:=Keep (fun k=>k<wr.heap.size∧k≠g0) wr) (by kernel_rfl) (Keep.of_below hd1 fun k hk=>hk.1) (fun hHeld=>?_);clear hd1;generalize wr.drew=wD at hHeld hdd⊢;refine ae 0 hHeld ?_;refine ae 1 hHeld ?_;refine ae 2 hHeld ?_;refine tk (v:=?_) 3 hHeld ?_ ?_;rotate_left
   ·intro w' hSw;have hcl':=hcL w' hSw
    first|(go_simp;done)|(go_simp;with_reducible rfl)
   try simp only[aA,aB]
   refine ae 4 hHeld ?_;refine ae 5 hHeld ?_;refine ae 6 hHeld ?_;refine wpAnyH_ready (rs:=[7]) (by kernel_rfl) (by simp) ?_;refine AllReadyH.cons rfl (fun K hK=>?_) AllReadyH.nil;go_simp
   go_wp2_with(go_at_call 164;(with_reducible refine(HC.out _).mono ?_);rintro e8 w1 ⟨rfl,hB1⟩)
   have dH:=hdd.trans (hB1.mono hdd.size);have HB1:=hide dH;refine hK.out _ _ (Keep.of_below dH fun k hk=>hk.1) (fun jC=>?_);clear hK K hHeld hdd hB1 dH
   try simp only[Act.put,aG,aE,aF,aD,aA,aB]
   refine ae 8 jC ?_;refine wpAnyH_ready (rs:=[9]) (by kernel_rfl) (by simp) ?_;refine AllReadyH.cons rfl (fun K hK=>?_) AllReadyH.nil;have FQ:w1.there g0 (r*20) 20:=fun j hj=>⟨by rw[HB1.out.cell (p:=⟨g0,r*20+j,none⟩) hgl];exact(JJ.out j hj).1,(HB1.out.frozen (p:=⟨g0,r*20+j,none⟩) hgl).trans (JJ.out j hj).2⟩;refine Sz rfl 46 _ _ rfl g0 (r*20) (mkC q r).toArray (by first|rfl|(go_simp;done)) (by first|rfl|(go_simp;done)) FQ aZ (all_oneCell_toArray (EJ q r)) ?_;refine hK.out _ _ (Keep.trans (Keep.of_below HB1.out fun k hk=>hk.1) (qo g0 (fun h=>h.2 rfl) (mkC q r) (r*20) _)) (fun _=>?_);clear hK K FQ jC
   try simp only[Act.put,aG,aE,aF,aD,aA,aB]
   refine wpAnyH_done (by kernel_rfl) ?_ _
   try simp only[Act.put,aG,aE,aF,aD,aA,aB]
   go_wp2_with fail
   go_roundg (ns q-(r+1))
   case measure=>omega
   case rel =>
    refine⟨r+1,by omega,rfl,by go_num,hide ?_⟩;exact FbG.mono (FbG.mark (HF.out.below hB HB1.out) hlt hlt2 (by simp) Hv.out xA.out hBg rfl rfl) fun j _=>by by_cases h1:j=q<;>simp[h1]
  ·obtain⟨A,c0,hv⟩:=HF.out.1.shape hlt;have hh:=HF.out.head (dm.out q hlt);rw[hv]at hh;clear hv
   go_wp2_with fail
   go_roundg (K-(q+1))
   case measure=>omega
   case rel =>
    have hr2:r=ns q:=by omega
    exact⟨q+1,by omega,rfl,by go_num,hide (HF.out.mono fun j _=>by
     by_cases h1:j<q
     ·simp[h1,Nat.lt_succ_of_lt h1]
     ·by_cases h2:j=q
      ·subst h2;simp[hr2]
      ·have h3 :¬j<q+1:=by omega
       simp[h1,h2,h3])⟩
 ·have sO:q=K:=by omega
  subst sO;have JK:(q:Int)≤549755813888:=by omega
  go_wp2_with(at_make;refine wpList_make_full _ rfl _ _ 31 rfl 0 23 i1 (.slice none 0 0) 1 Tryz.underlying31 hi1 aN az _ _ _ _ q rfl rfl rfl rfl (by rw[aP];omega) (by unfold maxLen;omega) (Nat.zero_le _) ?_)
  intro w1 hown hgrow;have kY:Hid (∀xs,w1.ownsRow 0 23 1 (.slice (some ⟨wr.heap.size,0,none⟩) q q) q xs→FgG 20 mkC 46 23 w LB wr.heap.size q B vs ns T0 T0 xs (fun j=>j<0) (fun j=>ns j+64) w1):=hide fun xs hx=>by
   have hF:=HF.out;have hz:=hF.2.2.size;have xB:T0 wr.heap.size=none:=by
    cases h:T0 wr.heap.size with
    | none=>rfl
    | some j=>exact absurd (hF.1.lt wr.heap.size (by rw[h];exact fun e=>by cases e)).2 (Nat.lt_irrefl _)
   exact⟨(hF.1.mono fun j hj=>by simp[hj]).still ⟨hgrow.size,fun b hb _=>hgrow.block b hb (by simp)⟩,fun _ _=>rfl,xB,hx,fun j hj=>absurd hj (Nat.not_lt_zero _),fun b hb h0=>(hgrow.block b (aH hb hz) (by simp)).trans (hF.2.1.2.2 b hb h0),hF.2.2.trans ((Below.refl _ _).grown hgrow (aI hB hz) (by simp)),aI hB hz,hB,hz,kX,hT⟩
  have HP:=hide (kY.out _ hown);clear kY hown hgrow HF;generalize wr.heap.size=GB at HP⊢
  go_wp2_with fail
  go_loopg [6] q (fun g k wx=>∃(s:Nat) (T:Nat→Option Nat) (xs:List Value),s≤q∧g=q-s∧k = .int .i64 s∧Hid (FgG 20 mkC 46 23 w LB GB q B vs ns T0 T xs (fun j=>j<s) (fun j=>ns j+64) wx))
  case atStart=>exact⟨0,T0,_,by omega,by omega,rfl,HP⟩
  case round =>
  clear HP;obtain⟨s,T1,xs,hs,hg3,rfl,HP⟩:=hrel;by_cases hlt:s<q
  ·have hns:=Hn.out s hlt;obtain⟨A,c0,hv⟩:=HP.out.rows.shape hlt;have hh:=HP.out.head (dm.out s hlt);rw[hv]at hh;have Hv:=hide hv;clear hv
   go_wp2_with fail
   go_loopg [7,8] 64 (fun g v i wx=>∃(r:Nat) (T:Nat→Option Nat),r≤64∧g=64-r∧i = .int .i64 r∧Hid (FgG 20 mkC 46 23 w LB GB q B vs ns T0 T xs (fun j=>j<s) (fun j=>ns j+64) wx)∧Hid (wx.ownsRow B 46 20 v (ns s+r) (marksG mkC s (ns s+r))∧∀g,v.ownBlock=some g→T g=some s))
   case atStart=>exact⟨0,T1,by omega,by omega,rfl,HP,hide (by rw[←Hv.out];exact⟨HP.out.rows.full hlt rfl,HP.out.rows.tag s hlt⟩)⟩
   case round =>
   clear HP hh;obtain⟨r,T2,hr,hg4,rfl,HP,HO⟩:=hrel;by_cases hlt2:r<64
   ·have hh:=HP.out.head (dm.out s hlt);rw[Hv.out]at hh;have hz:=HP.out.b.size;have HC:Hid (∀W,Calls Tryz.prog 164 #[.int .i64 s,.int .i64 ((ns s:Int)+r)] W fun e w'=>e = .returned (.agg #[.int .u8 0,.string ⟨#[]⟩,.string ⟨#[]⟩,.string (mT (s:Int) ((ns s+r:Nat):Int)),.string ⟨#[]⟩,.int .u8 0,.string ⟨#[]⟩,.string ⟨#[]⟩,.int .i64 0,.slice none 0 0,.slice none 0 0,.int .u8 0,.slice none 0 0,.int .i64 0,.int .i64 0,.string ⟨#[]⟩,.string ⟨#[]⟩,.slice none 0 0,.slice none 0 0,.slice none 0 0])∧Below W.heap.size W w'):=hide fun W=>hmk.out s (ns s+r) W (by omega) (by omega)
    try simp only[Int.natCast_add]at HC
    go_wp2_with(first
     | (go_at_call 164;(with_reducible refine(HC.out _).mono ?_);rintro e w1 ⟨rfl,hB1⟩;have eF:=hide (HP.out.below hB1);have bC:=hide (qp HO.out.1 hB1);have hsz1:=hB1.size;clear hB1)
     | (at_builtin;refine fE rfl _ _ 23 rfl B 46 Tryz.underlying23 OM rfl (by decide) _ (ns s+r) (marksG mkC s (ns s+r)) rfl (bC.out.alloc _) (some ⟨w1.heap.size,0,none⟩) 1 1 (mkC s (ns s+r)) rfl (by simp) rfl (fun ad e=>by injection e with e;subst e;exact DW w1 (mkC s (ns s+r)) _) (EJ _ _) (by unfold maxLen;omega) (by omega) (aI (aI hB (aI hz hsz1)) (by simp)) ?_))
    intro v1 w2 h1 hg1 hw1;have HA:=hide ((eF.out.alloc _).append (by decide) hlt (fun j hj=>by omega) (bC.out.alloc _) HO.out.2 h1 hg1 hw1 (oP yK (by omega)) (by omega));have H1:=hide h1;clear h1 hg1 hw1
    go_wp2
    go_roundg (64-(r+1))
    case measure=>omega
    case rel=>exact⟨r+1,_,by omega,rfl,by go_num,hide HA.out.1,hide ⟨by have:=H1.out;rw[show ns s+(r+1)=ns s+r+1 from rfl,uy];exact this,HA.out.2⟩⟩
   ·have bP:r=64:=by omega
    subst bP;obtain⟨⟨u,hu⟩,hf⟩:=HP.out.place hlt;obtain⟨A2,c2,rfl⟩:=bM HO.out.1
    go_wp2_with fail
    go_roundg (q-(s+1))
    case measure=>omega
    case rel=>exact⟨s+1,T2,_,by omega,rfl,by go_num,hide (HP.out.put hlt (GsG.of_own (xs:=[]) yK (by simpa using HO.out.1) (by omega) (by omega) HO.out.2) (fun j hj=>by rcases Nat.lt_succ_iff_lt_or_eq.1 hj with h|h;exact .inr ⟨by omega,h,aC _⟩;exact .inl h))⟩
  ·have mP:s=q:=by omega
   subst mP
   go_wp2_with fail
   go_loopg [9] s (fun g k wx=>∃a:Nat,a≤s∧g=s-a∧k = .int .i64 a∧Hid (FgG 20 mkC 46 23 w LB GB s B vs ns T0 T1 xs (fun j=>j<s) (fun j=>ns j+64) wx))
   case atStart=>exact⟨0,by omega,by omega,rfl,HP⟩
   case round =>
   clear HP;obtain⟨a,ha,hg5,rfl,HP⟩:=hrel;by_cases hlt:a<s
   ·have hna:=Hn.out a hlt
    go_wp2_with fail
    go_loopg [10] (ns a+64) (fun g i wx=>∃r:Nat,r≤ns a+64∧g=ns a+64-r∧i = .int .i64 r∧Hid (FgG 20 mkC 46 23 w LB GB s B vs ns T0 T1 xs (fun j=>j<s) (fun j=>ns j+64) wx))
    case atStart=>exact⟨0,by omega,by omega,rfl,HP⟩
    case round =>
    clear HP;obtain⟨r,hr,JL,rfl,HP⟩:=hrel;obtain⟨g1,c1,hG,hc1,hc2,hm⟩:=HP.out.grown hlt hlt;by_cases hlt2:r<ns a+64
    ·have HC:Hid (∀W,Calls Tryz.prog 164 #[.int .i64 a,.int .i64 r] W fun e w'=>e = .returned (.agg (mkC a r).toArray)∧Below W.heap.size W w'):=hide fun W=>hmk.out a r W (by omega) (by omega);have hx:wr.rangeAt g1 (r*20) (mkC a r):=fun t u hu=>hm r hlt2 t u hu;clear hm;have hh:=HP.out.head (dm.out a hlt);have eG :∀{b o:Nat} {cs:List Value},wr.rangeAt b o cs→∀W,Below wr.heap.size wr W→W.rangeAt b o cs:=fun h W hW j v hv=>(World.cell?_of_block (hW.block _ (block_lt_of_cell (h j v hv)))).trans (h j v hv);have hlow :∀{p:Addr} {v:Value},wr.cell? p=some v→∀W,Below wr.heap.size wr W→W.cell? p=some v:=fun h W hW=>(World.cell?_of_block (hW.block _ (block_lt_of_cell h))).trans h;by_cases hlt3:r<ns a
     ·obtain⟨g0,c0,hv,_,_,_,_,_,hm0⟩:=HP.out.rows.at_ hlt hlt3 (by decide);have hy:wr.rangeAt g0 (r*20) (mkC a r):=fun t u hu=>hm0 hlt3 t u hu;rw[hv]at hh;clear hm0 hv
      go_wp2_with fail
      replace hh:=hlow hh;replace hG:=hlow hG;replace hx:=eG hx;replace hy:=eG hy;clear hlow eG;have hd1:Below wr.heap.size wr wr.drew:=aO (Below.refl _ _) 1;refine wp_region_held_drew (S:=Below wr.heap.size wr) (by kernel_rfl) hd1 (fun hHeld=>?_);generalize wr.drew=wD at hHeld⊢;refine ae 0 hHeld ?_;refine ae 1 hHeld ?_;refine ae 2 hHeld ?_;refine tk (v:=?_) 3 hHeld ?_ ?_;rotate_left
      ·intro w' hSw;have hG':=hG w' hSw
       first|(go_simp;done)|(go_simp;with_reducible rfl)
      try simp only[aA,aB]
      refine ae 4 hHeld ?_;refine ae 5 hHeld ?_;refine tk (v:= .agg (mkC a r).toArray) 6 hHeld ?_ ?_
      ·intro w' hSw;exact yE (b:=g1) (o:=r*20) rfl (by first|rfl|(go_simp;done)) (hx w' hSw) Tryz.underlying46 rfl aZ
      try simp only[aA,aB]
      refine ae 7 hHeld ?_;refine ae 8 hHeld ?_;refine wpAnyH_ready (rs:=[9]) (by kernel_rfl) (by simp) ?_;refine AllReadyH.cons rfl (fun K hK=>?_) AllReadyH.nil;go_simp
      go_wp2_with(go_at_call 164;(with_reducible refine(HC.out _).mono ?_);rintro e8 w1 ⟨rfl,hB1⟩)
      have hH1:=hHeld.trans (hB1.mono hHeld.size);refine hK.out _ _ hH1 (fun _=>?_);clear hK K
      try simp only[Act.put,aG,aE,aF,aD,aA,aB]
      refine wpAnyH_ready (rs:=[10]) (by kernel_rfl) (by simp) ?_;refine AllReadyH.cons rfl (fun K hK=>?_) AllReadyH.nil;go_simp
      go_wp2_with(go_at_call 51;(with_reducible refine(EL _ _ _).mono ?_);rintro e9 w2 ⟨rfl,hB2⟩)
      have hH2:=hH1.trans (hB2.mono hH1.size);refine hK.out _ _ hH2 (fun _=>?_);clear hK K
      try simp only[Act.put,aG,aE,aF,aD,aA,aB]
      refine ae 11 hH2 ?_;refine ae 12 hH2 ?_;refine ae 13 hH2 ?_;refine ae 14 hH2 ?_;refine ae 15 hH2 ?_;refine ae 16 hH2 ?_;refine tk (v:=?_) 17 hH2 ?_ ?_;rotate_left
      ·intro w' hSw;have hh':=hh w' hSw
       first|(go_simp;done)|(go_simp;with_reducible rfl)
      try simp only[aA,aB]
      refine ae 18 hH2 ?_;refine ae 19 hH2 ?_;refine ae 20 hH2 ?_;refine ae 21 hH2 ?_;refine ae 22 hH2 ?_;refine ae 23 hH2 ?_;refine tk (v:=?_) 24 hH2 ?_ ?_;rotate_left
      ·intro w' hSw;have hh':=hh w' hSw
       first|(go_simp;done)|(go_simp;with_reducible rfl)
      try simp only[aA,aB]
      refine ae 25 hH2 ?_;refine ae 26 hH2 ?_;refine tk (v:= .agg (mkC a r).toArray) 27 hH2 ?_ ?_
      ·intro w' hSw;exact yE (b:=g0) (o:=r*20) rfl (by first|rfl|(go_simp;done)) (hy w' hSw) Tryz.underlying46 rfl aZ
      try simp only[aA,aB]
      refine ae 28 hH2 ?_;refine ae 29 hH2 ?_;refine wpAnyH_ready (rs:=[30]) (by kernel_rfl) (by simp) ?_;refine AllReadyH.cons rfl (fun K hK=>?_) AllReadyH.nil;go_simp
      go_wp2_with(go_at_call 164;(with_reducible refine(HC.out _).mono ?_);rintro e7 w3 ⟨rfl,hB3⟩)
      have hH3:=hH2.trans (hB3.mono hH2.size);refine hK.out _ _ hH3 (fun _=>?_);clear hK K
      try simp only[Act.put,aG,aE,aF,aD,aA,aB]
      refine wpAnyH_ready (rs:=[31]) (by kernel_rfl) (by simp) ?_;refine AllReadyH.cons rfl (fun K hK=>?_) AllReadyH.nil;go_simp
      go_wp2_with(go_at_call 51;(with_reducible refine(EL _ _ _).mono ?_);rintro e9 w4 ⟨rfl,hB4⟩)
      have gm:=hH3.trans (hB4.mono hH3.size);refine hK.out _ _ gm (fun _=>?_);clear hK K
      try simp only[Act.put,aG,aE,aF,aD,aA,aB]
      refine ae 32 gm ?_;refine ae 33 gm ?_;refine ae 34 gm ?_;refine wpAnyH_done (by kernel_rfl) ?_ _
      try simp only[Act.put,aG,aE,aF,aD,aA,aB]
      have aQ:=hide (HP.out.below gm)
      go_wp2_with fail
      go_roundg (ns a+64-(r+1))
      case measure=>omega
      case rel=>exact⟨r+1,by omega,rfl,by go_num,aQ⟩
     ·obtain⟨A,c0,hv⟩:=HP.out.rows.shape hlt;rw[hv]at hh;clear hv
      go_wp2_with fail
      replace hh:=hlow hh;replace hG:=hlow hG;replace hx:=eG hx;clear hlow eG;have hd1:Below wr.heap.size wr wr.drew:=aO (Below.refl _ _) 1;refine wp_region_held_drew (S:=Below wr.heap.size wr) (by kernel_rfl) hd1 (fun hHeld=>?_);generalize wr.drew=wD at hHeld⊢;refine ae 0 hHeld ?_;refine ae 1 hHeld ?_;refine ae 2 hHeld ?_;refine tk (v:=?_) 3 hHeld ?_ ?_;rotate_left
      ·intro w' hSw;have hG':=hG w' hSw
       first|(go_simp;done)|(go_simp;with_reducible rfl)
      try simp only[aA,aB]
      refine ae 4 hHeld ?_;refine ae 5 hHeld ?_;refine tk (v:= .agg (mkC a r).toArray) 6 hHeld ?_ ?_
      ·intro w' hSw;exact yE (b:=g1) (o:=r*20) rfl (by first|rfl|(go_simp;done)) (hx w' hSw) Tryz.underlying46 rfl aZ
      try simp only[aA,aB]
      refine ae 7 hHeld ?_;refine ae 8 hHeld ?_;refine wpAnyH_ready (rs:=[9]) (by kernel_rfl) (by simp) ?_;refine AllReadyH.cons rfl (fun K hK=>?_) AllReadyH.nil;go_simp
      go_wp2_with(go_at_call 164;(with_reducible refine(HC.out _).mono ?_);rintro e8 w1 ⟨rfl,hB1⟩)
      have hH1:=hHeld.trans (hB1.mono hHeld.size);refine hK.out _ _ hH1 (fun _=>?_);clear hK K
      try simp only[Act.put,aG,aE,aF,aD,aA,aB]
      refine wpAnyH_ready (rs:=[10]) (by kernel_rfl) (by simp) ?_;refine AllReadyH.cons rfl (fun K hK=>?_) AllReadyH.nil;go_simp
      go_wp2_with(go_at_call 51;(with_reducible refine(EL _ _ _).mono ?_);rintro e9 w2 ⟨rfl,hB2⟩)
      have hH2:=hH1.trans (hB2.mono hH1.size);refine hK.out _ _ hH2 (fun _=>?_);clear hK K
      try simp only[Act.put,aG,aE,aF,aD,aA,aB]
      refine ae 11 hH2 ?_;refine ae 12 hH2 ?_;refine ae 13 hH2 ?_;refine ae 14 hH2 ?_;refine ae 15 hH2 ?_;refine ae 16 hH2 ?_;refine tk (v:=?_) 17 hH2 ?_ ?_;rotate_left
      ·intro w' hSw;have hh':=hh w' hSw
       first|(go_simp;done)|(go_simp;with_reducible rfl)
      try simp only[aA,aB]
      refine ae 18 hH2 ?_;refine ae 19 hH2 ?_;refine ae 20 hH2 ?_;refine tn 21 hH2 ?_
      try simp only[aA,aB]
      refine tn 22 hH2 ?_
      try simp only[aA,aB]
      refine tn 23 hH2 ?_
      try simp only[aA,aB]
      refine tn 24 hH2 ?_
      try simp only[aA,aB]
      refine tn 25 hH2 ?_
      try simp only[aA,aB]
      refine tn 26 hH2 ?_
      try simp only[aA,aB]
      refine tn 27 hH2 ?_
      try simp only[aA,aB]
      refine tn 28 hH2 ?_
      try simp only[aA,aB]
      refine tn 29 hH2 ?_
      try simp only[aA,aB]
      refine tn 30 hH2 ?_
      try simp only[aA,aB]
      refine tn 31 hH2 ?_
      try simp only[aA,aB]
      refine tn 32 hH2 ?_
      try simp only[aA,aB]
      refine ae 33 hH2 ?_;refine ae 34 hH2 ?_;refine wpAnyH_done (by kernel_rfl) ?_ _
      try simp only[Act.put,aG,aE,aF,aD,aA,aB]
      have aQ:=hide (HP.out.below hH2)
      go_wp2_with fail
      go_roundg (ns a+64-(r+1))
      case measure=>omega
      case rel=>exact⟨r+1,by omega,rfl,by go_num,aQ⟩
    ·clear hm
     go_wp2_with fail
     go_roundg (s-(a+1))
     case measure=>omega
     case rel=>exact⟨a+1,by omega,rfl,by go_num,HP⟩
   ·have has:a=s:=by omega
    subst has;have fV:=hide (HP.out.mono (J':=fun j=>j<a) (p':=ns) (fun j hj=>⟨hj,by omega⟩));clear HP
    go_wp2_with fail
    go_loopg [11] a (fun g k wx=>∃(b:Nat) (T:Nat→Option Nat) (xs:List Value),b≤a∧g=a-b∧k = .int .i64 b∧Hid (FgG 20 mkC 46 23 w LB GB a B vs ns T0 T xs (fun j=>j<a) ns wx))
    case atStart=>exact⟨0,T1,xs,by omega,by omega,rfl,fV⟩
    case round =>
    clear fV;obtain⟨b,T2,fG,hb,JM,rfl,HP⟩:=hrel;by_cases hlt:b<a
    ·have hnb:=Hn.out b hlt
     go_wp2_with(at_make;refine wpList_make_full _ rfl _ _ 23 rfl 0 46 i2 (.agg zeroL.toArray) 20 Tryz.underlying23 hi2 gW gX _ _ _ _ 64 rfl rfl rfl rfl (by rw[gY];omega) (by unfold maxLen;omega) (Nat.zero_le _) ?_)
     intro w1 hown hgrow;have hBw:=aI hB HP.out.b.size;have hM1:T2 wr.heap.size=none:=by
      cases h:T2 wr.heap.size with
      | none=>rfl
      | some j=>exact absurd (HP.out.rows.lt wr.heap.size (by rw[h];exact fun e=>by cases e)).2 (Nat.lt_irrefl _)
     have hM2:wr.heap.size≠GB:=by have:=HP.out.gb;omega
     have xC:w.heap.size≤wr.heap.size:=HP.out.b.size;have HQ:=hide (HP.out.still hgrow.size (fun k hk _=>hgrow.block k hk (by simp)) ((Below.refl _ _).grown hgrow hBw (by simp)));obtain⟨ys0,HO⟩:∃ys,Hid (w1.ownsRow 0 46 20 (.slice (some ⟨wr.heap.size,0,none⟩) 64 64) 64 (marksG mkC (b+a) 0++ys)):=⟨_,hide (by rw[xU,List.nil_append];exact hown)⟩;clear hown hgrow HP;generalize wr.heap.size=MB at HO hBw hM1 hM2 xC⊢
     go_wp2_with fail
     go_loopg [13] 64 (fun g i wx=>∃(r:Nat) (ys:List Value),r≤64∧g=64-r∧i = .int .i64 r∧Hid (FgG 20 mkC 46 23 w LB GB a B vs ns T0 T2 fG (fun j=>j<a) ns wx)∧Hid (wx.ownsRow 0 46 20 (.slice (some ⟨MB,0,none⟩) 64 64) 64 (marksG mkC (b+a) r++ys)))
     case atStart=>exact⟨0,_,by omega,by omega,rfl,HQ,HO⟩
     case round =>
     clear HQ HO;obtain⟨r,ys,hr,JO,rfl,HP,HO⟩:=hrel;by_cases hlt2:r<64
     ·obtain⟨cs,hcs⟩:∃cs,cs=mkC (b+a) r:=⟨_,rfl⟩;have HC:Hid (∀W,Calls Tryz.prog 164 #[.int .i64 ((b:Int)+a),.int .i64 r] W fun e w'=>e = .returned (.agg cs.toArray)∧Below W.heap.size W w'):=hide fun W=>by rw[hcs];exact hmk.out (b+a) r W (by omega) (by omega)
      have hsc:(Tryz.prog.info? 46).map (·.size)=some cs.toArray.size:=by rw[hcs];exact aZ
      have hone:cs.toArray.all (·.oneCell')=true:=by rw[hcs];exact all_oneCell_toArray (EJ _ _)
      have FT:cs.toArray.size=20:=by rw[hcs];rfl
      have ZN:=hide hcs;have ZO:=hide hsc;have OO:=hide hone;have OQ:=hide FT;clear hcs hsc hone FT;have hl:=HO.out.1
      go_wp2_with(first
       | (go_at_call 164;(with_reducible refine(HC.out _).mono ?_);rintro e w1 ⟨rfl,hB1⟩;have eF:=hide (HP.out.below hB1);have bC:=hide (qp HO.out hB1);clear hB1;have JJ:Hid (w1.there MB (r*20) cs.toArray.size):=hide (by rw[OQ.out];exact fun j hj=>⟨by rw[bC.out.cellAt _ (by omega),List.getElem?_eq_getElem (by rw[hl];omega)];rfl,bC.out.frozenAt _⟩))
       | (refine wpList_store_mid rfl _ _ _ rfl MB (r*20) cs.toArray rfl rfl JJ.out ZO.out OO.out ?_))
      have hcs:=ZN.out;subst hcs
      go_roundg (64-(r+1))
      case measure=>omega
      case rel =>
       have ig:=DU yK bC.out hlt2 rfl rfl;refine⟨r+1,ys.drop 20,by omega,rfl,by go_num,hide ?_,hide ?_⟩
       ·have hst:FgG 20 mkC 46 23 w LB GB a B vs ns T0 T2 fG (fun j=>j<a) ns (w1.setCells MB (r*20) (mkC (b+a) r)):=by
         refine eF.out.still ig.2.size (fun k hk hk2=>zG _ _ _ _ ?_) (zH hBw _ _ _);rintro rfl;rcases hk2 with h|h|h
         ·exact h hM1
         ·omega
         ·exact hM2 h
        first|exact hst|(simpa[World.setCells,mkC]using hst)
       ·first|exact ig.1|(simpa[World.setCells,mkC]using ig.1)
     ·obtain⟨A,c0,hv⟩:=HP.out.rows.shape hlt;have hh:=HP.out.head (dm.out b hlt);rw[hv]at hh;have hfull:=HP.out.rows.full hlt rfl;have htag:=HP.out.rows.tag b hlt;rw[hv]at hfull htag;have cu:=hide hfull;have ik:=hide htag;clear hv hfull htag;have bP:r=64:=by omega
      subst bP;have HM:=hide (DV yK HO.out);have hl:=HM.out.1
      go_wp2_with(at_builtin;refine fE rfl _ _ 23 rfl B 46 Tryz.underlying23 OM rfl (by decide) _ (ns b) (marksG mkC b (ns b)) rfl cu.out (some ⟨MB,0,none⟩) 64 64 (marksG mkC (b+a) 64) rfl (by simp) hl (fun ad e=>by injection e with e;subst e;exact HM.out.cells rfl) (Dq EJ) (by unfold maxLen;omega) (by omega) (aI hB HP.out.b.size) ?_)
      intro v1 w1 h1 hg1 hw1;have HA:=hide ((HP.out.mono (J':=fun j=>j<a∧j≠b) (p':=ns) (fun j hj=>⟨hj.1,aC _⟩)).append (by decide) hlt (fun j hj=>hj.2) cu.out ik.out h1 hg1 hw1 (oP yK (aC _)) (aC _));obtain⟨A2,c2,rfl⟩:=bM h1;have H1:=hide h1;clear h1 hg1 hw1 hh;obtain⟨⟨u,hu⟩,hf⟩:=HA.out.1.place hlt
      go_wp2
      go_roundg (a-(b+1))
      case measure=>omega
      case rel=>exact⟨b+1,_,_,by omega,rfl,by go_num,hide (HA.out.1.put hlt (GsG.of_own (xs:=marksG mkC (b+a) 64) yK H1.out (by omega) (by omega) HA.out.2) (fun j hj=>by by_cases h:j=b;exact .inl h;exact .inr ⟨h,⟨hj,h⟩,aC _⟩))⟩
    ·have hba:b=a:=by omega
     subst hba
     go_wp2_with fail
     go_loopg [14] b (fun g k wx=>∃d:Nat,d≤b∧g=b-d∧k = .int .i64 d∧Hid (FgG 20 mkC 46 23 w LB GB b B vs ns T0 T2 fG (fun j=>j<b) ns wx))
     case atStart=>exact⟨0,by omega,by omega,rfl,HP⟩
     case round =>
     clear HP;obtain⟨d,hd,JP,rfl,HP⟩:=hrel;by_cases hlt:d<b
     ·have hnd:=Hn.out d hlt
      go_wp2_with fail
      go_loopg [15] (ns d) (fun g i wx=>∃r:Nat,r≤ns d∧g=ns d-r∧i = .int .i64 r∧Hid (FgG 20 mkC 46 23 w LB GB b B vs ns T0 T2 fG (fun j=>j<b) ns wx))
      case atStart=>exact⟨0,by omega,by omega,rfl,HP⟩
      case round =>
      clear HP;obtain⟨r,hr,iZ,rfl,HP⟩:=hrel;obtain⟨g1,c1,hG,hc1,hc2,hm⟩:=HP.out.grown hlt hlt;have hh:=HP.out.head (dm.out d hlt);by_cases hlt2:r<ns d
      ·have HC:Hid (∀W,Calls Tryz.prog 164 #[.int .i64 d,.int .i64 r] W fun e w'=>e = .returned (.agg (mkC d r).toArray)∧Below W.heap.size W w'):=hide fun W=>hmk.out d r W (by omega) (by omega);have hx:wr.rangeAt g1 (r*20) (mkC d r):=fun t u hu=>hm r hlt2 t u hu;obtain⟨g0,c0,hv,_,_,_,_,_,hm0⟩:=HP.out.rows.at_ hlt hlt2 (by decide);have hy:wr.rangeAt g0 (r*20) (mkC d r):=fun t u hu=>hm0 hlt2 t u hu;have eG :∀{b o:Nat} {cs:List Value},wr.rangeAt b o cs→∀W,Below wr.heap.size wr W→W.rangeAt b o cs:=fun h W hW j v hv=>(World.cell?_of_block (hW.block _ (block_lt_of_cell (h j v hv)))).trans (h j v hv);have hlow :∀{p:Addr} {v:Value},wr.cell? p=some v→∀W,Below wr.heap.size wr W→W.cell? p=some v:=fun h W hW=>(World.cell?_of_block (hW.block _ (block_lt_of_cell h))).trans h;rw[hv]at hh;have bP:(r:Int)<(ns d:Int)+64:=by omega
       clear hm0 hv hm
       go_wp2_with fail
       replace hh:=hlow hh;replace hG:=hlow hG;replace hx:=eG hx;replace hy:=eG hy;clear hlow eG;have hd1:Below wr.heap.size wr wr.drew:=aO (Below.refl _ _) 1;refine wp_region_held_drew (S:=Below wr.heap.size wr) (by kernel_rfl) hd1 (fun hHeld=>?_);generalize wr.drew=wD at hHeld⊢;refine ae 0 hHeld ?_;refine ae 1 hHeld ?_;refine ae 2 hHeld ?_;refine tk (v:=?_) 3 hHeld ?_ ?_;rotate_left
       ·intro w' hSw;have hh':=hh w' hSw
        first|(go_simp;done)|(go_simp;with_reducible rfl)
       try simp only[aA,aB]
       refine ae 4 hHeld ?_;refine ae 5 hHeld ?_;refine tk (v:= .agg (mkC d r).toArray) 6 hHeld ?_ ?_
       ·intro w' hSw;exact yE (b:=g0) (o:=r*20) rfl (by first|rfl|(go_simp;done)) (hy w' hSw) Tryz.underlying46 rfl aZ
       try simp only[aA,aB]
       refine ae 7 hHeld ?_;refine ae 8 hHeld ?_;refine wpAnyH_ready (rs:=[9]) (by kernel_rfl) (by simp) ?_;refine AllReadyH.cons rfl (fun K hK=>?_) AllReadyH.nil;go_simp
       go_wp2_with(go_at_call 164;(with_reducible refine(HC.out _).mono ?_);rintro e8 w1 ⟨rfl,hB1⟩)
       have hH1:=hHeld.trans (hB1.mono hHeld.size);refine hK.out _ _ hH1 (fun _=>?_);clear hK K
       try simp only[Act.put,aG,aE,aF,aD,aA,aB]
       refine wpAnyH_ready (rs:=[10]) (by kernel_rfl) (by simp) ?_;refine AllReadyH.cons rfl (fun K hK=>?_) AllReadyH.nil;go_simp
       go_wp2_with(go_at_call 51;(with_reducible refine(EL _ _ _).mono ?_);rintro e9 w2 ⟨rfl,hB2⟩)
       have hH2:=hH1.trans (hB2.mono hH1.size);refine hK.out _ _ hH2 (fun _=>?_);clear hK K
       try simp only[Act.put,aG,aE,aF,aD,aA,aB]
       refine ae 11 hH2 ?_;refine ae 12 hH2 ?_;refine ae 13 hH2 ?_;refine ae 14 hH2 ?_;refine ae 15 hH2 ?_;refine tk (v:=?_) 16 hH2 ?_ ?_;rotate_left
       ·intro w' hSw;have hG':=hG w' hSw
        first|(go_simp;done)|(go_simp;with_reducible rfl)
       try simp only[aA,aB]
       refine ae 17 hH2 ?_;refine ae 18 hH2 ?_;refine tk (v:= .agg (mkC d r).toArray) 19 hH2 ?_ ?_
       ·intro w' hSw;exact yE (b:=g1) (o:=r*20) rfl (by first|rfl|(go_simp;done)) (hx w' hSw) Tryz.underlying46 rfl aZ
       try simp only[aA,aB]
       refine ae 20 hH2 ?_;refine ae 21 hH2 ?_;refine wpAnyH_ready (rs:=[22]) (by kernel_rfl) (by simp) ?_;refine AllReadyH.cons rfl (fun K hK=>?_) AllReadyH.nil;go_simp
       go_wp2_with(go_at_call 164;(with_reducible refine(HC.out _).mono ?_);rintro e7 w3 ⟨rfl,hB3⟩)
       have hH3:=hH2.trans (hB3.mono hH2.size);refine hK.out _ _ hH3 (fun _=>?_);clear hK K
       try simp only[Act.put,aG,aE,aF,aD,aA,aB]
       refine wpAnyH_ready (rs:=[23]) (by kernel_rfl) (by simp) ?_;refine AllReadyH.cons rfl (fun K hK=>?_) AllReadyH.nil;go_simp
       go_wp2_with(go_at_call 51;(with_reducible refine(EL _ _ _).mono ?_);rintro e9 w4 ⟨rfl,hB4⟩)
       have gm:=hH3.trans (hB4.mono hH3.size);refine hK.out _ _ gm (fun _=>?_);clear hK K
       try simp only[Act.put,aG,aE,aF,aD,aA,aB]
       refine ae 24 gm ?_;refine ae 25 gm ?_;refine wpAnyH_done (by kernel_rfl) ?_ _
       try simp only[Act.put,aG,aE,aF,aD,aA,aB]
       have aQ:=hide (HP.out.below gm)
       go_wp2_with fail
       go_roundg (ns d-(r+1))
       case measure=>omega
       case rel=>exact⟨r+1,by omega,rfl,by go_num,aQ⟩
      ·obtain⟨A,c0,hv⟩:=HP.out.rows.shape hlt;rw[hv]at hh;clear hv hm
       go_wp2_with fail
       go_roundg (b-(d+1))
       case measure=>omega
       case rel=>exact⟨d+1,by omega,rfl,by go_num,HP⟩
     ·go_wp2_with fail
      go_ret;exact⟨rfl,HP.out.b,HP.out.ls⟩
theorem ZP{w:World}{bb Bb B:Nat}{X:Nat→List Value}(hb:BagG w bb Bb X)(h19:OwnL 46 20 B (X 19) w)(d19:((X 19).flatMap ob).Nodup)(sQ:X 19≠[])
  (low :∀j,∀v∈X j,∀b∈ob v,b<bb) (h0 :∀j,j<21→j≠19→X j=[]) (small :∀j i,i<(X j).length→nsOf (X j) i≤1073741824) (many :∀j,(X j).length≤1073741824) (hB:B≤bb):
  Calls Tryz.prog 36 #[.pointer (some ⟨bb,0,none⟩)] w fun e w'=>e = .returned (.bool true)∧Below B w w':=by
 have hbl:=hb.bb_lt;have hbb:=hb.lt;have hBw:B≤w.heap.size:=by omega
 have hrf :∀b,bb≤b→b<w.heap.size→w.heap[b]?=w.heap[b]?:=fun _ _ _=>rfl;have hrf:=hide hrf;obtain⟨OT,ZQ,g19,c19,AY⟩:=hb.full (j:=19) (by decide) sQ;have c0:=hb.void (j:=0) (by decide) (h0 0 (by decide) (by decide));have c1:=hb.void (j:=1) (by decide) (h0 1 (by decide) (by decide));have c2:=hb.void (j:=2) (by decide) (h0 2 (by decide) (by decide));have c3:=hb.void (j:=3) (by decide) (h0 3 (by decide) (by decide));have c4:=hb.void (j:=4) (by decide) (h0 4 (by decide) (by decide));have c5:=hb.void (j:=5) (by decide) (h0 5 (by decide) (by decide));have c6:=hb.void (j:=6) (by decide) (h0 6 (by decide) (by decide));have c7:=hb.void (j:=7) (by decide) (h0 7 (by decide) (by decide));have c8:=hb.void (j:=8) (by decide) (h0 8 (by decide) (by decide));have c9:=hb.void (j:=9) (by decide) (h0 9 (by decide) (by decide));have c10:=hb.void (j:=10) (by decide) (h0 10 (by decide) (by decide));have c11:=hb.void (j:=11) (by decide) (h0 11 (by decide) (by decide));have c12:=hb.void (j:=12) (by decide) (h0 12 (by decide) (by decide));have c13:=hb.void (j:=13) (by decide) (h0 13 (by decide) (by decide));have c14:=hb.void (j:=14) (by decide) (h0 14 (by decide) (by decide));have c15:=hb.void (j:=15) (by decide) (h0 15 (by decide) (by decide));have c16:=hb.void (j:=16) (by decide) (h0 16 (by decide) (by decide));have c17:=hb.void (j:=17) (by decide) (h0 17 (by decide) (by decide));have c18:=hb.void (j:=18) (by decide) (h0 18 (by decide) (by decide));have c20:=hb.void (j:=20) (by decide) (h0 20 (by decide) (by decide));have AZ:=hide h19;clear hb h0 h19;go_enter Tryz.func36,Tryz.ntmps36
 go_wp2_with(first
  | (go_at_call 80;(with_reducible refine(SN).mono ?_);rintro e0 w0 ⟨rfl,hB⟩;have HB0:Hid (Below B w w0):=hide ((Below.refl B w).trans (hB.mono (aI hBw (Below.refl B w).size)));have HH0:Hid (∀b,bb≤b→b<w.heap.size→w0.heap[b]?=w.heap[b]?):=hide (fun b h1 h2=>(hB.block b (aH h2 (Below.refl B w).size)).trans (hrf.out b h1 h2));have f0:=bQ (HH0.out bb (aC _) hbl) (c1);have jD:=hide ((AZ.out).below hB);clear hB)
  | (go_at_call 81;(with_reducible refine(SQ).mono ?_);rintro e1 w1 ⟨rfl,hB⟩;have HB1:Hid (Below B w w1):=hide (HB0.out.trans (hB.mono (aI hBw HB0.out.size)));have dM:Hid (∀b,bb≤b→b<w.heap.size→w1.heap[b]?=w.heap[b]?):=hide (fun b h1 h2=>(hB.block b (aH h2 HB0.out.size)).trans (HH0.out b h1 h2));have f1:=bQ (dM.out bb (aC _) hbl) (c2);have jE:=hide ((jD.out).below hB);clear hB)
  | (go_at_call 82;(with_reducible refine(XN).mono ?_);rintro e2 w2 ⟨rfl,hB⟩;have HB2:Hid (Below B w w2):=hide (HB1.out.trans (hB.mono (aI hBw HB1.out.size)));have FU:Hid (∀b,bb≤b→b<w.heap.size→w2.heap[b]?=w.heap[b]?):=hide (fun b h1 h2=>(hB.block b (aH h2 HB1.out.size)).trans (dM.out b h1 h2));have f2:=bQ (FU.out bb (aC _) hbl) (c3);have jF:=hide ((jE.out).below hB);clear hB)
  | (go_at_call 83;(with_reducible refine(SS).mono ?_);rintro e3 w3 ⟨rfl,hB⟩;have HB3:Hid (Below B w w3):=hide (HB2.out.trans (hB.mono (aI hBw HB2.out.size)));have jB:Hid (∀b,bb≤b→b<w.heap.size→w3.heap[b]?=w.heap[b]?):=hide (fun b h1 h2=>(hB.block b (aH h2 HB2.out.size)).trans (FU.out b h1 h2));have f3:=bQ (jB.out bb (aC _) hbl) (c4);have jG:=hide ((jF.out).below hB);clear hB)
  | (go_at_call 84;(with_reducible refine(XP).mono ?_);rintro e4 w4 ⟨rfl,hB⟩;have HB4:Hid (Below B w w4):=hide (HB3.out.trans (hB.mono (aI hBw HB3.out.size)));have sG:Hid (∀b,bb≤b→b<w.heap.size→w4.heap[b]?=w.heap[b]?):=hide (fun b h1 h2=>(hB.block b (aH h2 HB3.out.size)).trans (jB.out b h1 h2));have f4:=bQ (sG.out bb (aC _) hbl) (c5);have jH:=hide ((jG.out).below hB);clear hB)
  | (go_at_call 85;(with_reducible refine(Ya).mono ?_);rintro e5 w5 ⟨rfl,hB⟩;have dV:Hid (Below B w w5):=hide (HB4.out.trans (hB.mono (aI hBw HB4.out.size)));have FV:Hid (∀b,bb≤b→b<w.heap.size→w5.heap[b]?=w.heap[b]?):=hide (fun b h1 h2=>(hB.block b (aH h2 HB4.out.size)).trans (sG.out b h1 h2));have f5:=bQ (FV.out bb (aC _) hbl) (c6);have jI:=hide ((jH.out).below hB);clear hB)
  | (go_at_call 86;(with_reducible refine(SV).mono ?_);rintro e6 w6 ⟨rfl,hB⟩;have aV:Hid (Below B w w6):=hide (dV.out.trans (hB.mono (aI hBw dV.out.size)));have FW:Hid (∀b,bb≤b→b<w.heap.size→w6.heap[b]?=w.heap[b]?):=hide (fun b h1 h2=>(hB.block b (aH h2 dV.out.size)).trans (FV.out b h1 h2));have f6:=bQ (FW.out bb (aC _) hbl) (c7);have jJ:=hide ((jI.out).below hB);clear hB)
  | (go_at_call 87;(with_reducible refine(SX).mono ?_);rintro e7 w7 ⟨rfl,hB⟩;have kW:Hid (Below B w w7):=hide (aV.out.trans (hB.mono (aI hBw aV.out.size)));have FX:Hid (∀b,bb≤b→b<w.heap.size→w7.heap[b]?=w.heap[b]?):=hide (fun b h1 h2=>(hB.block b (aH h2 aV.out.size)).trans (FW.out b h1 h2));have f7:=bQ (FX.out bb (aC _) hbl) (c8);have jK:=hide ((jJ.out).below hB);clear hB)
  | (go_at_call 88;(with_reducible refine(Ry).mono ?_);rintro e8 w8 ⟨rfl,hB⟩;have yY:Hid (Below B w w8):=hide (kW.out.trans (hB.mono (aI hBw kW.out.size)));have CU:Hid (∀b,bb≤b→b<w.heap.size→w8.heap[b]?=w.heap[b]?):=hide (fun b h1 h2=>(hB.block b (aH h2 kW.out.size)).trans (FX.out b h1 h2));have f8:=bQ (CU.out bb (aC _) hbl) (c9);have jL:=hide ((jK.out).below hB);clear hB)
  | (go_at_call 89;(with_reducible refine(XR).mono ?_);rintro e9 w9 ⟨rfl,hB⟩;have aQ:Hid (Below B w w9):=hide (yY.out.trans (hB.mono (aI hBw yY.out.size)));have FY:Hid (∀b,bb≤b→b<w.heap.size→w9.heap[b]?=w.heap[b]?):=hide (fun b h1 h2=>(hB.block b (aH h2 yY.out.size)).trans (CU.out b h1 h2));have f9:=bQ (FY.out bb (aC _) hbl) (c10);have jM:=hide ((jL.out).below hB);clear hB)
  | (go_at_call 90;(with_reducible refine(Rz).mono ?_);rintro e10 w10 ⟨rfl,hB⟩;have jO:Hid (Below B w w10):=hide (aQ.out.trans (hB.mono (aI hBw aQ.out.size)));have sS:Hid (∀b,bb≤b→b<w.heap.size→w10.heap[b]?=w.heap[b]?):=hide (fun b h1 h2=>(hB.block b (aH h2 aQ.out.size)).trans (FY.out b h1 h2));have f10:=bQ (sS.out bb (aC _) hbl) (c11);have iw:=hide ((jM.out).below hB);clear hB)
  | (go_at_call 91;(with_reducible refine(RD).mono ?_);rintro e11 FZ ⟨rfl,hB⟩;have ax:Hid (Below B w FZ):=hide (jO.out.trans (hB.mono (aI hBw jO.out.size)));have sU:Hid (∀b,bb≤b→b<w.heap.size→FZ.heap[b]?=w.heap[b]?):=hide (fun b h1 h2=>(hB.block b (aH h2 jO.out.size)).trans (sS.out b h1 h2));have f11:=bQ (sU.out bb (aC _) hbl) (c12);have iy:=hide ((iw.out).below hB);clear hB)
  | (go_at_call 92;(with_reducible refine(RF).mono ?_);rintro e12 w12 ⟨rfl,hB⟩;have jP:Hid (Below B w w12):=hide (ax.out.trans (hB.mono (aI hBw ax.out.size)));have sV:Hid (∀b,bb≤b→b<w.heap.size→w12.heap[b]?=w.heap[b]?):=hide (fun b h1 h2=>(hB.block b (aH h2 ax.out.size)).trans (sU.out b h1 h2));have f12:=bQ (sV.out bb (aC _) hbl) (c13);have iC:=hide ((iy.out).below hB);clear hB)
  | (go_at_call 93;(with_reducible refine(RG).mono ?_);rintro e13 F5 ⟨rfl,hB⟩;have jQ:Hid (Below B w F5):=hide (jP.out.trans (hB.mono (aI hBw jP.out.size)));have sW:Hid (∀b,bb≤b→b<w.heap.size→F5.heap[b]?=w.heap[b]?):=hide (fun b h1 h2=>(hB.block b (aH h2 jP.out.size)).trans (sV.out b h1 h2));have f13:=bQ (sW.out bb (aC _) hbl) (c14);have iD:=hide ((iC.out).below hB);clear hB)
  | (go_at_call 94;(with_reducible refine(SL).mono ?_);rintro e14 F6 ⟨rfl,hB⟩;have aS:Hid (Below B w F6):=hide (jQ.out.trans (hB.mono (aI hBw jQ.out.size)));have sZ:Hid (∀b,bb≤b→b<w.heap.size→F6.heap[b]?=w.heap[b]?):=hide (fun b h1 h2=>(hB.block b (aH h2 jQ.out.size)).trans (sW.out b h1 h2));have f14:=bQ (sZ.out bb (aC _) hbl) (c15);have iE:=hide ((iD.out).below hB);clear hB)
  | (go_at_call 95;(with_reducible refine(RH).mono ?_);rintro e15 F7 ⟨rfl,hB⟩;have jR:Hid (Below B w F7):=hide (aS.out.trans (hB.mono (aI hBw aS.out.size)));have tq:Hid (∀b,bb≤b→b<w.heap.size→F7.heap[b]?=w.heap[b]?):=hide (fun b h1 h2=>(hB.block b (aH h2 aS.out.size)).trans (sZ.out b h1 h2));have f15:=bQ (tq.out bb (aC _) hbl) (c16);have iF:=hide ((iE.out).below hB);clear hB)
  | (go_at_call 96;(with_reducible refine(RJ).mono ?_);rintro e16 w16 ⟨rfl,hB⟩;have jS:Hid (Below B w w16):=hide (jR.out.trans (hB.mono (aI hBw jR.out.size)));have tu:Hid (∀b,bb≤b→b<w.heap.size→w16.heap[b]?=w.heap[b]?):=hide (fun b h1 h2=>(hB.block b (aH h2 jR.out.size)).trans (tq.out b h1 h2));have f16:=bQ (tu.out bb (aC _) hbl) (c17);have iG:=hide ((iF.out).below hB);clear hB)
  | (go_at_call 97;(with_reducible refine(RN).mono ?_);rintro e17 F8 ⟨rfl,hB⟩;have jT:Hid (Below B w F8):=hide (jS.out.trans (hB.mono (aI hBw jS.out.size)));have tC:Hid (∀b,bb≤b→b<w.heap.size→F8.heap[b]?=w.heap[b]?):=hide (fun b h1 h2=>(hB.block b (aH h2 jS.out.size)).trans (tu.out b h1 h2));have f17:=bQ (tC.out bb (aC _) hbl) (c18);have iH:=hide ((iG.out).below hB);clear hB)
  | (go_at_call 98;(with_reducible refine(RP).mono ?_);rintro e18 F9 ⟨rfl,hB⟩;have iI:Hid (Below B w F9):=hide (jT.out.trans (hB.mono (aI hBw jT.out.size)));have jU:Hid (∀b,bb≤b→b<w.heap.size→F9.heap[b]?=w.heap[b]?):=hide (fun b h1 h2=>(hB.block b (aH h2 jT.out.size)).trans (tC.out b h1 h2));have f18:=bQ (jU.out bb (aC _) hbl) (c19);have iJ:=hide ((iH.out).below hB);clear hB)
  | (go_at_call 99;(with_reducible refine(Ue (iJ.out.rows yK d19) (fun j hj=>bQ (jU.out OT (Nat.le_of_lt (aH hbb g19)) (block_lt_of_cell (AY j hj))) (AY j hj)) (nX (low 19) (Nat.le_of_lt (aH hbb g19))) (fun j hj=>small 19 j hj) (many 19) (aI hBw iI.out.size) (aH (block_lt_of_cell (AY 0 (List.length_pos_iff.2 sQ))) iI.out.size)).mono ?_);rintro e19 Gf ⟨rfl,hB,hO⟩;have jV:Hid (Below B w Gf):=hide (iI.out.trans hB);have tH:Hid (∀b,bb≤b→b<w.heap.size→Gf.heap[b]?=w.heap[b]?):=hide (fun b h1 h2=>(hO b (aH h2 iI.out.size) (nX (low 19) h1)).trans (jU.out b h1 h2));have f19:=bQ (tH.out bb (aC _) hbl) (c20);clear hB hO)
  | (go_at_call 100;(with_reducible refine(RQ).mono ?_);rintro e20 Gg ⟨rfl,hB⟩;have A7:Hid (Below B w Gg):=hide (jV.out.trans (hB.mono (aI hBw jV.out.size)));have OU:Hid (∀b,bb≤b→b<w.heap.size→Gg.heap[b]?=w.heap[b]?):=hide (fun b h1 h2=>(hB.block b (aH h2 jV.out.size)).trans (tH.out b h1 h2));clear hB))
 go_ret;exact⟨rfl,A7.out⟩
end
end Go.Proofs.YtjjaojnglnpgaaaGreatDoor
