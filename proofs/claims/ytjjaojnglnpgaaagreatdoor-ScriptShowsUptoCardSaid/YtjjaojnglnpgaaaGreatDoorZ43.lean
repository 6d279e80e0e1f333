/- Part 44 of what scriptShows_cardUpto rests on. -/
import Derived.Test.YtjjaojnglnpgaaaGreatDoorZ42
import Derived.Test.YtjjaojnglnpgaaaGreatDoorZ03
import Derived.Test.YtjjaojnglnpgaaaGreatDoorZ00
set_option linter.unusedVariables false
set_option linter.unusedSimpArgs false
set_option maxHeartbeats 16000000
set_option maxRecDepth 1000000
namespace Go.Proofs.YtjjaojnglnpgaaaGreatDoor
section
open Go.RowKit
theorem CZ{S:Nat→Prop}{w:World}{x:Ph}{p:Pt}(hp:bM S w x {p with kind:=3})(hlen:(gJ {p with kind:=3}).length≤gG):
  Calls Tryz.prog 48 #[.agg #[.int .u8 3,.string p.file,.string p.text,.int .i64 p.hunk.at_,.slice x.h.oA p.hunk.old.length x.h.oc,.slice x.h.nA p.hunk.new.length x.h.nc,.int .u8 p.edit.kind,.slice x.e.pA p.edit.path.length x.e.pc,.int .i64 p.edit.at_,.int .i64 p.edit.far,.string p.edit.frm,.string p.edit.to,.slice x.e.oA p.edit.old.len x.e.oc,.slice x.e.nA p.edit.new.len x.e.nc]] w fun e1 w'=>Below w.heap.size w w'∧((bI {p with kind:=3}∧∃v,e1 = .returned (.tuple #[v,.int .i64 0])∧bW w.heap.size w' v (gJ {p with kind:=3}))∨(¬bI {p with kind:=3}∧e1 = .returned (.tuple #[.slice none 0 0,.int .i64 4]))):=by
 have hk:3<256:=by omega
 have HL:Hid (1+(ax p.file).length+8+(bH p.hunk.old).length+(bH p.hunk.new).length≤gG):=by
  refine hide ?_;have hpt:gJ {p with kind:=3}=UInt8.ofNat 3::(ax p.file++(au p.hunk.at_++(bH p.hunk.old++bH p.hunk.new))):=rfl;rw[hpt]at hlen;simp only[List.length_cons,aJ,iC]at hlen;omega
 have eu:p.file.size≤9223372036854775807:=hp.file;have htext:p.text.size≤9223372036854775807:=hp.text;clear hlen;obtain⟨W0,hW0⟩:∃W0,W0=w.alloc (.cells #[.int .u8 3,.string p.file,.string p.text,.int .i64 p.hunk.at_,.slice x.h.oA p.hunk.old.length x.h.oc,.slice x.h.nA p.hunk.new.length x.h.nc,.int .u8 p.edit.kind,.slice x.e.pA p.edit.path.length x.e.pc,.int .i64 p.edit.at_,.int .i64 p.edit.far,.string p.edit.frm,.string p.edit.to,.slice x.e.oA p.edit.old.len x.e.oc,.slice x.e.nA p.edit.new.len x.e.nc] 43):=⟨_,rfl⟩;have hb0:Below w.heap.size w W0:=by rw[hW0];exact az _ _
 have hbc :∀j v,#[.int .u8 3,.string p.file,.string p.text,.int .i64 p.hunk.at_,.slice x.h.oA p.hunk.old.length x.h.oc,.slice x.h.nA p.hunk.new.length x.h.nc,.int .u8 p.edit.kind,.slice x.e.pA p.edit.path.length x.e.pc,.int .i64 p.edit.at_,.int .i64 p.edit.far,.string p.edit.frm,.string p.edit.to,.slice x.e.oA p.edit.old.len x.e.oc,.slice x.e.nA p.edit.new.len x.e.nc][j]?=some v→∀W,Below W0.heap.size W0 W→W.cell? ⟨w.heap.size,j,none⟩=some v:=by
  intro j v hj W hB;have h0:W0.cell? ⟨w.heap.size,j,none⟩=some v:=by rw[hW0,Lib.cell_of_heap (heap_alloc_new w _)];exact hj
  exact(World.cell?_of_block (hB.block _ (block_lt_of_cell h0))).trans h0
 have c0:=hbc 0 _ rfl;have c1:=hbc 1 _ rfl;have c2:=hbc 2 _ rfl;have c3:=hbc 3 _ rfl;have c4:=hbc 4 _ rfl;have c5:=hbc 5 _ rfl;have c6:=hbc 6 _ rfl;have c7:=hbc 7 _ rfl;have c8:=hbc 8 _ rfl;have c9:=hbc 9 _ rfl;have c10:=hbc 10 _ rfl;have c11:=hbc 11 _ rfl;have c12:=hbc 12 _ rfl;have c13:=hbc 13 _ rfl;clear hbc;have Hp:=hide (hp.below hb0);have Hb0:=hide hb0;clear hp hb0;have HW0:=hide hW0;clear hW0;go_enter Tryz.func48,Tryz.ntmps48
 go_upto_region 1 with fail
 change Code.wp _ _ _ _ (w.alloc (.cells #[.int .u8 3,.string p.file,.string p.text,.int .i64 p.hunk.at_,.slice x.h.oA p.hunk.old.length x.h.oc,.slice x.h.nA p.hunk.new.length x.h.nc,.int .u8 p.edit.kind,.slice x.e.pA p.edit.path.length x.e.pc,.int .i64 p.edit.at_,.int .i64 p.edit.far,.string p.edit.frm,.string p.edit.to,.slice x.e.oA p.edit.old.len x.e.oc,.slice x.e.nA p.edit.new.len x.e.nc] 43));rw[←HW0.out];clear HW0;have hr0:Below W0.heap.size W0 W0:=Below.refl _ _;have zA:Hid (Calls Tryz.prog 116 #[.agg #[.int .u8 3,.string p.file,.string p.text,.int .i64 p.hunk.at_,.slice x.h.oA p.hunk.old.length x.h.oc,.slice x.h.nA p.hunk.new.length x.h.nc,.int .u8 p.edit.kind,.slice x.e.pA p.edit.path.length x.e.pc,.int .i64 p.edit.at_,.int .i64 p.edit.far,.string p.edit.frm,.string p.edit.to,.slice x.e.oA p.edit.old.len x.e.oc,.slice x.e.nA p.edit.new.len x.e.nc]] W0 fun e1 w'=>ah (bI {p with kind:=3}) e1∧Below W0.heap.size W0 w'):=hide (by have h:=OH (p:={p with kind:=3}) Hp.out;exact h)
 go_wp2_with(go_at_call 116;(with_reducible refine zA.out.mono ?_);rintro e1 W1 ⟨⟨_|_,rfl,hb⟩,hR⟩<;>(have gK:=hide hb;clear hb))
 ·have HR:=hide hR;clear hR
  go_ret2
  exact⟨Hb0.out.trans (HR.out.mono Hb0.out.size),.inr ⟨fun h=>absurd (gK.out.mpr h) (by decide),rfl⟩⟩
 ·clear hr0;replace c0:=fun(W:World) (h:Below W1.heap.size W1 W)=>c0 W (hR.trans (h.mono hR.size));replace c1:=fun(W:World) (h:Below W1.heap.size W1 W)=>c1 W (hR.trans (h.mono hR.size));replace c2:=fun(W:World) (h:Below W1.heap.size W1 W)=>c2 W (hR.trans (h.mono hR.size));replace c3:=fun(W:World) (h:Below W1.heap.size W1 W)=>c3 W (hR.trans (h.mono hR.size));replace c4:=fun(W:World) (h:Below W1.heap.size W1 W)=>c4 W (hR.trans (h.mono hR.size));replace c5:=fun(W:World) (h:Below W1.heap.size W1 W)=>c5 W (hR.trans (h.mono hR.size));replace c6:=fun(W:World) (h:Below W1.heap.size W1 W)=>c6 W (hR.trans (h.mono hR.size));replace c7:=fun(W:World) (h:Below W1.heap.size W1 W)=>c7 W (hR.trans (h.mono hR.size));replace c8:=fun(W:World) (h:Below W1.heap.size W1 W)=>c8 W (hR.trans (h.mono hR.size));replace c9:=fun(W:World) (h:Below W1.heap.size W1 W)=>c9 W (hR.trans (h.mono hR.size));replace c10:=fun(W:World) (h:Below W1.heap.size W1 W)=>c10 W (hR.trans (h.mono hR.size));replace c11:=fun(W:World) (h:Below W1.heap.size W1 W)=>c11 W (hR.trans (h.mono hR.size));replace c12:=fun(W:World) (h:Below W1.heap.size W1 W)=>c12 W (hR.trans (h.mono hR.size));replace c13:=fun(W:World) (h:Below W1.heap.size W1 W)=>c13 W (hR.trans (h.mono hR.size));have IY:=hide (Hp.out.below hR);have HR:=hide (Hb0.out.trans (hR.mono Hb0.out.size));clear hR Hp
  go_cut [4] (fun v wx=>bW W1.heap.size wx v ([UInt8.ofNat 3]++ax p.file)∧Below W1.heap.size W1 wx)
  case first =>
   have hd1:Below W1.heap.size W1 W1.drew:=di (Below.refl _ _) 1;refine wp_region_held_drew (S:=Below W1.heap.size W1) (by kernel_rfl) hd1 (fun hHeld=>?_);generalize W1.drew=wD at hHeld⊢;refine aj 0 hHeld ?_;refine aj 1 hHeld ?_;refine aj 3 hHeld ?_;refine aj 4 hHeld ?_;refine wpAnyH_ready (rs:=[2,5]) (by kernel_rfl) (by simp) ?_;refine AllReadyH.cons rfl (fun K hK=>?_) (AllReadyH.cons rfl (fun K hK=>?_) AllReadyH.nil)
   ·go_simp;have hA1:Below W1.heap.size W1 (wD.alloc (.cells #[.int .u8 3] 5)):=aW hHeld (az _ _);refine hK.out _ _ hA1 (fun _=>?_);clear hK K
    try simp only[Act.put,aG,aE,aF,aD,aA,aB]
    refine wpAnyH_ready (rs:=[5]) (by kernel_rfl) (by simp) ?_;refine AllReadyH.cons rfl (fun K hK=>?_) AllReadyH.nil;go_simp
    go_wp2_with(go_at_call 117;(with_reducible refine(vY eu (by have:=HL.out;(try simp only[aJ,List.length_cons,List.length_nil,iC]at this⊢);omega)).mono ?_);rintro e2 w2 ⟨v2,rfl,h2,hB2⟩)
    have hA2:=hA1.trans (hB2.mono hA1.size);refine hK.out _ _ hA2 (fun _=>?_);clear hK K
    try simp only[Act.put,aG,aE,aF,aD,aA,aB]
    refine wpAnyH_ready (rs:=[6]) (by kernel_rfl) (by simp) ?_;refine AllReadyH.cons rfl (fun K hK=>?_) AllReadyH.nil;refine EE rfl _ _ rfl W1.heap.size _ _ _ [UInt8.ofNat 3] (ax p.file) rfl ((bW.lit wD (BA _ hk)).mono hHeld.size |>.below hB2) rfl h2 (by have:=HL.out;(try simp only[aJ,List.length_cons,List.length_nil,iC]at this⊢);omega) hA2.size ?_;intro v3 w3 h3 hB3;have hA3:=hA2.trans hB3;refine hK.out _ _ hA3 (fun _=>?_);clear hK K
    try simp only[Act.put,aG,aE,aF,aD,aA,aB]
    refine aj 7 hA3 ?_;refine wpAnyH_done (by kernel_rfl) ?_ _;have H3:=hide h3;have l9:=hide hA3
    try simp only[Act.put,aG,aE,aF,aD,aA,aB]
    go_wp2_with fail
    go_meet
    exact⟨H3.out,l9.out⟩
   ·go_simp
    go_wp2_with(go_at_call 117;(with_reducible refine(vY eu (by have:=HL.out;(try simp only[aJ,List.length_cons,List.length_nil,iC]at this⊢);omega)).mono ?_);rintro e2 w2 ⟨v2,rfl,h2,hB2⟩)
    have hA1:=hHeld.trans (hB2.mono hHeld.size);refine hK.out _ _ hA1 (fun _=>?_);clear hK K
    try simp only[Act.put,aG,aE,aF,aD,aA,aB]
    refine wpAnyH_ready (rs:=[2]) (by kernel_rfl) (by simp) ?_;refine AllReadyH.cons rfl (fun K hK=>?_) AllReadyH.nil;go_simp;have hA2:Below W1.heap.size W1 (w2.alloc (.cells #[.int .u8 3] 5)):=aW hA1 (az _ _);refine hK.out _ _ hA2 (fun _=>?_);clear hK K
    try simp only[Act.put,aG,aE,aF,aD,aA,aB]
    refine wpAnyH_ready (rs:=[6]) (by kernel_rfl) (by simp) ?_;refine AllReadyH.cons rfl (fun K hK=>?_) AllReadyH.nil;refine EE rfl _ _ rfl W1.heap.size _ _ _ [UInt8.ofNat 3] (ax p.file) rfl ((bW.lit w2 (BA _ hk)).mono hA1.size) rfl (h2.below (az _ _)) (by have:=HL.out;(try simp only[aJ,List.length_cons,List.length_nil,iC]at this⊢);omega) hA2.size ?_;intro v3 w3 h3 hB3;have hA3:=hA2.trans hB3;refine hK.out _ _ hA3 (fun _=>?_);clear hK K
    try simp only[Act.put,aG,aE,aF,aD,aA,aB]
    refine aj 7 hA3 ?_;refine wpAnyH_done (by kernel_rfl) ?_ _;have H3:=hide h3;have l9:=hide hA3
    try simp only[Act.put,aG,aE,aF,aD,aA,aB]
    go_wp2_with fail
    go_meet
    exact⟨H3.out,l9.out⟩
  case rest =>
  obtain⟨h1,hW1⟩:=hcut;obtain⟨w1,rfl⟩:∃w1,w1=wc:=⟨_,rfl⟩;have H1:=hide h1;clear h1
  go_wp2_with(first
   | (go_at_call 118;(with_reducible refine(AZ (n:=p.hunk.at_) IY.out.hunk.at_).mono ?_);rintro e2 c2 ⟨u2,rfl,g2,k2⟩;have G2:=hide g2;have K2:=hide k2;clear g2 k2)
   | (at_builtin;refine oH rfl _ _ rfl W1.heap.size w1.heap.size _ _ _ (au p.hunk.at_) rfl (H1.out.below K2.out) rfl G2.out (by have:=HL.out;(try simp only[aJ,List.length_cons,List.length_nil,iC]at this⊢);omega) (aI hW1.size K2.out.size) ?_))
  intro v2 w2 h2 hB2;have H2:=hide h2;have hW2:Below W1.heap.size W1 w2:=(hW1.trans (K2.out.mono hW1.size)).trans hB2;clear h2 hB2
  go_wp2_with(first
   | (go_at_call 119;(with_reducible refine(UD (xs:=p.hunk.old) (IY.out.hunk.old.below hW2) (by have:=HL.out;(try simp only[aJ,List.length_cons,List.length_nil,iC]at this⊢);omega)).mono ?_);rintro e3 c3 ⟨u3,rfl,g3,k3⟩;have G3:=hide g3;have K3:=hide k3;clear g3 k3)
   | (at_builtin;refine oH rfl _ _ rfl W1.heap.size w2.heap.size _ _ _ (bH p.hunk.old) rfl (H2.out.below K3.out) rfl G3.out (by have:=HL.out;(try simp only[aJ,List.length_cons,List.length_nil,iC]at this⊢);omega) (aI hW2.size K3.out.size) ?_))
  intro v3 w3 h3 hB3;have H3:=hide h3;have hW3:Below W1.heap.size W1 w3:=(hW2.trans (K3.out.mono hW2.size)).trans hB3;clear h3 hB3
  go_wp2_with(first
   | (go_at_call 119;(with_reducible refine(UD (xs:=p.hunk.new) (IY.out.hunk.new.below hW3) (by have:=HL.out;(try simp only[aJ,List.length_cons,List.length_nil,iC]at this⊢);omega)).mono ?_);rintro e4 c4 ⟨u4,rfl,g4,k4⟩;have G4:=hide g4;have K4:=hide k4;clear g4 k4)
   | (at_builtin;refine oH rfl _ _ rfl W1.heap.size w3.heap.size _ _ _ (bH p.hunk.new) rfl (H3.out.below K4.out) rfl G4.out (by have:=HL.out;(try simp only[aJ,List.length_cons,List.length_nil,iC]at this⊢);omega) (aI hW3.size K4.out.size) ?_))
  intro v4 w4 h4 hB4;have H4:=hide h4;have DV:Below W1.heap.size W1 w4:=(hW3.trans (K4.out.mono hW3.size)).trans hB4;clear h4 hB4
  go_wp2
  have Le:=hide DV
  go_ret2
  refine⟨HR.out.trans (Le.out.mono HR.out.size),.inl ⟨gK.out.mp trivial,_,rfl,?_⟩⟩;have:=H4.out.mono HR.out.size;have hpt:gJ {p with kind:=3}=UInt8.ofNat 3::(ax p.file++(au p.hunk.at_++(bH p.hunk.old++bH p.hunk.new))):=rfl;rw[hpt]
  simpa[List.append_assoc]using this
theorem C9{S:Nat→Prop}{w:World}{x:Ph}{p:Pt}(hp:bM S w x {p with kind:=4})(hlen:(gJ {p with kind:=4}).length≤gG):
  Calls Tryz.prog 48 #[.agg #[.int .u8 4,.string p.file,.string p.text,.int .i64 p.hunk.at_,.slice x.h.oA p.hunk.old.length x.h.oc,.slice x.h.nA p.hunk.new.length x.h.nc,.int .u8 p.edit.kind,.slice x.e.pA p.edit.path.length x.e.pc,.int .i64 p.edit.at_,.int .i64 p.edit.far,.string p.edit.frm,.string p.edit.to,.slice x.e.oA p.edit.old.len x.e.oc,.slice x.e.nA p.edit.new.len x.e.nc]] w fun e1 w'=>Below w.heap.size w w'∧((bI {p with kind:=4}∧∃v,e1 = .returned (.tuple #[v,.int .i64 0])∧bW w.heap.size w' v (gJ {p with kind:=4}))∨(¬bI {p with kind:=4}∧e1 = .returned (.tuple #[.slice none 0 0,.int .i64 4]))):=by
 have hk:4<256:=by omega
 have HL:Hid (1+(ax p.file).length+(jg p.edit).length≤gG):=by
  refine hide ?_;have hpt:gJ {p with kind:=4}=UInt8.ofNat 4::(ax p.file++(jg p.edit)):=rfl;rw[hpt]at hlen;simp only[List.length_cons,aJ,iC]at hlen;omega
 have eu:p.file.size≤9223372036854775807:=hp.file;have htext:p.text.size≤9223372036854775807:=hp.text;clear hlen;obtain⟨W0,hW0⟩:∃W0,W0=w.alloc (.cells #[.int .u8 4,.string p.file,.string p.text,.int .i64 p.hunk.at_,.slice x.h.oA p.hunk.old.length x.h.oc,.slice x.h.nA p.hunk.new.length x.h.nc,.int .u8 p.edit.kind,.slice x.e.pA p.edit.path.length x.e.pc,.int .i64 p.edit.at_,.int .i64 p.edit.far,.string p.edit.frm,.string p.edit.to,.slice x.e.oA p.edit.old.len x.e.oc,.slice x.e.nA p.edit.new.len x.e.nc] 43):=⟨_,rfl⟩;have hb0:Below w.heap.size w W0:=by rw[hW0];exact az _ _
 have hbc :∀j v,#[.int .u8 4,.string p.file,.string p.text,.int .i64 p.hunk.at_,.slice x.h.oA p.hunk.old.length x.h.oc,.slice x.h.nA p.hunk.new.length x.h.nc,.int .u8 p.edit.kind,.slice x.e.pA p.edit.path.length x.e.pc,.int .i64 p.edit.at_,.int .i64 p.edit.far,.string p.edit.frm,.string p.edit.to,.slice x.e.oA p.edit.old.len x.e.oc,.slice x.e.nA p.edit.new.len x.e.nc][j]?=some v→∀W,Below W0.heap.size W0 W→W.cell? ⟨w.heap.size,j,none⟩=some v:=by
  intro j v hj W hB;have h0:W0.cell? ⟨w.heap.size,j,none⟩=some v:=by rw[hW0,Lib.cell_of_heap (heap_alloc_new w _)];exact hj
  exact(World.cell?_of_block (hB.block _ (block_lt_of_cell h0))).trans h0
 have c0:=hbc 0 _ rfl;have c1:=hbc 1 _ rfl;have c2:=hbc 2 _ rfl;have c3:=hbc 3 _ rfl;have c4:=hbc 4 _ rfl;have c5:=hbc 5 _ rfl;have c6:=hbc 6 _ rfl;have c7:=hbc 7 _ rfl;have c8:=hbc 8 _ rfl;have c9:=hbc 9 _ rfl;have c10:=hbc 10 _ rfl;have c11:=hbc 11 _ rfl;have c12:=hbc 12 _ rfl;have c13:=hbc 13 _ rfl;clear hbc;have Hp:=hide (hp.below hb0);have Hb0:=hide hb0;clear hp hb0;have HW0:=hide hW0;clear hW0;go_enter Tryz.func48,Tryz.ntmps48
 go_upto_region 1 with fail
 change Code.wp _ _ _ _ (w.alloc (.cells #[.int .u8 4,.string p.file,.string p.text,.int .i64 p.hunk.at_,.slice x.h.oA p.hunk.old.length x.h.oc,.slice x.h.nA p.hunk.new.length x.h.nc,.int .u8 p.edit.kind,.slice x.e.pA p.edit.path.length x.e.pc,.int .i64 p.edit.at_,.int .i64 p.edit.far,.string p.edit.frm,.string p.edit.to,.slice x.e.oA p.edit.old.len x.e.oc,.slice x.e.nA p.edit.new.len x.e.nc] 43));rw[←HW0.out];clear HW0;have hr0:Below W0.heap.size W0 W0:=Below.refl _ _;have zA:Hid (Calls Tryz.prog 116 #[.agg #[.int .u8 4,.string p.file,.string p.text,.int .i64 p.hunk.at_,.slice x.h.oA p.hunk.old.length x.h.oc,.slice x.h.nA p.hunk.new.length x.h.nc,.int .u8 p.edit.kind,.slice x.e.pA p.edit.path.length x.e.pc,.int .i64 p.edit.at_,.int .i64 p.edit.far,.string p.edit.frm,.string p.edit.to,.slice x.e.oA p.edit.old.len x.e.oc,.slice x.e.nA p.edit.new.len x.e.nc]] W0 fun e1 w'=>ah (bI {p with kind:=4}) e1∧Below W0.heap.size W0 w'):=hide (by have h:=OH (p:={p with kind:=4}) Hp.out;exact h)
 go_wp2_with(go_at_call 116;(with_reducible refine zA.out.mono ?_);rintro e1 W1 ⟨⟨_|_,rfl,hb⟩,hR⟩<;>(have gK:=hide hb;clear hb))
 ·have HR:=hide hR;clear hR
  go_ret2
  exact⟨Hb0.out.trans (HR.out.mono Hb0.out.size),.inr ⟨fun h=>absurd (gK.out.mpr h) (by decide),rfl⟩⟩
 ·clear hr0;replace c0:=fun(W:World) (h:Below W1.heap.size W1 W)=>c0 W (hR.trans (h.mono hR.size));replace c1:=fun(W:World) (h:Below W1.heap.size W1 W)=>c1 W (hR.trans (h.mono hR.size));replace c2:=fun(W:World) (h:Below W1.heap.size W1 W)=>c2 W (hR.trans (h.mono hR.size));replace c3:=fun(W:World) (h:Below W1.heap.size W1 W)=>c3 W (hR.trans (h.mono hR.size));replace c4:=fun(W:World) (h:Below W1.heap.size W1 W)=>c4 W (hR.trans (h.mono hR.size));replace c5:=fun(W:World) (h:Below W1.heap.size W1 W)=>c5 W (hR.trans (h.mono hR.size));replace c6:=fun(W:World) (h:Below W1.heap.size W1 W)=>c6 W (hR.trans (h.mono hR.size));replace c7:=fun(W:World) (h:Below W1.heap.size W1 W)=>c7 W (hR.trans (h.mono hR.size));replace c8:=fun(W:World) (h:Below W1.heap.size W1 W)=>c8 W (hR.trans (h.mono hR.size));replace c9:=fun(W:World) (h:Below W1.heap.size W1 W)=>c9 W (hR.trans (h.mono hR.size));replace c10:=fun(W:World) (h:Below W1.heap.size W1 W)=>c10 W (hR.trans (h.mono hR.size));replace c11:=fun(W:World) (h:Below W1.heap.size W1 W)=>c11 W (hR.trans (h.mono hR.size));replace c12:=fun(W:World) (h:Below W1.heap.size W1 W)=>c12 W (hR.trans (h.mono hR.size));replace c13:=fun(W:World) (h:Below W1.heap.size W1 W)=>c13 W (hR.trans (h.mono hR.size));have IY:=hide (Hp.out.below hR);have HR:=hide (Hb0.out.trans (hR.mono Hb0.out.size));clear hR Hp
  go_cut [4] (fun v wx=>bW W1.heap.size wx v ([UInt8.ofNat 4]++ax p.file)∧Below W1.heap.size W1 wx)
  case first =>
   have hd1:Below W1.heap.size W1 W1.drew:=di (Below.refl _ _) 1;refine wp_region_held_drew (S:=Below W1.heap.size W1) (by kernel_rfl) hd1 (fun hHeld=>?_);generalize W1.drew=wD at hHeld⊢;refine aj 0 hHeld ?_;refine aj 1 hHeld ?_;refine aj 3 hHeld ?_;refine aj 4 hHeld ?_;refine wpAnyH_ready (rs:=[2,5]) (by kernel_rfl) (by simp) ?_;refine AllReadyH.cons rfl (fun K hK=>?_) (AllReadyH.cons rfl (fun K hK=>?_) AllReadyH.nil)
   ·go_simp;have hA1:Below W1.heap.size W1 (wD.alloc (.cells #[.int .u8 4] 5)):=aW hHeld (az _ _);refine hK.out _ _ hA1 (fun _=>?_);clear hK K
    try simp only[Act.put,aG,aE,aF,aD,aA,aB]
    refine wpAnyH_ready (rs:=[5]) (by kernel_rfl) (by simp) ?_;refine AllReadyH.cons rfl (fun K hK=>?_) AllReadyH.nil;go_simp
    go_wp2_with(go_at_call 117;(with_reducible refine(vY eu (by have:=HL.out;(try simp only[aJ,List.length_cons,List.length_nil,iC]at this⊢);omega)).mono ?_);rintro e2 w2 ⟨v2,rfl,h2,hB2⟩)
    have hA2:=hA1.trans (hB2.mono hA1.size);refine hK.out _ _ hA2 (fun _=>?_);clear hK K
    try simp only[Act.put,aG,aE,aF,aD,aA,aB]
    refine wpAnyH_ready (rs:=[6]) (by kernel_rfl) (by simp) ?_;refine AllReadyH.cons rfl (fun K hK=>?_) AllReadyH.nil;refine EE rfl _ _ rfl W1.heap.size _ _ _ [UInt8.ofNat 4] (ax p.file) rfl ((bW.lit wD (BA _ hk)).mono hHeld.size |>.below hB2) rfl h2 (by have:=HL.out;(try simp only[aJ,List.length_cons,List.length_nil,iC]at this⊢);omega) hA2.size ?_;intro v3 w3 h3 hB3;have hA3:=hA2.trans hB3;refine hK.out _ _ hA3 (fun _=>?_);clear hK K
    try simp only[Act.put,aG,aE,aF,aD,aA,aB]
    refine aj 7 hA3 ?_;refine wpAnyH_done (by kernel_rfl) ?_ _;have H3:=hide h3;have l9:=hide hA3
    try simp only[Act.put,aG,aE,aF,aD,aA,aB]
    go_wp2_with fail
    go_meet
    exact⟨H3.out,l9.out⟩
   ·go_simp
    go_wp2_with(go_at_call 117;(with_reducible refine(vY eu (by have:=HL.out;(try simp only[aJ,List.length_cons,List.length_nil,iC]at this⊢);omega)).mono ?_);rintro e2 w2 ⟨v2,rfl,h2,hB2⟩)
    have hA1:=hHeld.trans (hB2.mono hHeld.size);refine hK.out _ _ hA1 (fun _=>?_);clear hK K
    try simp only[Act.put,aG,aE,aF,aD,aA,aB]
    refine wpAnyH_ready (rs:=[2]) (by kernel_rfl) (by simp) ?_;refine AllReadyH.cons rfl (fun K hK=>?_) AllReadyH.nil;go_simp;have hA2:Below W1.heap.size W1 (w2.alloc (.cells #[.int .u8 4] 5)):=aW hA1 (az _ _);refine hK.out _ _ hA2 (fun _=>?_);clear hK K
    try simp only[Act.put,aG,aE,aF,aD,aA,aB]
    refine wpAnyH_ready (rs:=[6]) (by kernel_rfl) (by simp) ?_;refine AllReadyH.cons rfl (fun K hK=>?_) AllReadyH.nil;refine EE rfl _ _ rfl W1.heap.size _ _ _ [UInt8.ofNat 4] (ax p.file) rfl ((bW.lit w2 (BA _ hk)).mono hA1.size) rfl (h2.below (az _ _)) (by have:=HL.out;(try simp only[aJ,List.length_cons,List.length_nil,iC]at this⊢);omega) hA2.size ?_;intro v3 w3 h3 hB3;have hA3:=hA2.trans hB3;refine hK.out _ _ hA3 (fun _=>?_);clear hK K
    try simp only[Act.put,aG,aE,aF,aD,aA,aB]
    refine aj 7 hA3 ?_;refine wpAnyH_done (by kernel_rfl) ?_ _;have H3:=hide h3;have l9:=hide hA3
    try simp only[Act.put,aG,aE,aF,aD,aA,aB]
    go_wp2_with fail
    go_meet
    exact⟨H3.out,l9.out⟩
  case rest =>
  obtain⟨h1,hW1⟩:=hcut;obtain⟨w1,rfl⟩:∃w1,w1=wc:=⟨_,rfl⟩;have H1:=hide h1;clear h1
  go_wp2_with(first
   | (go_at_call 120;(with_reducible refine(zju (e:=p.edit) (IY.out.edit.below hW1) (by have:=HL.out;(try simp only[aJ,List.length_cons,List.length_nil,iC]at this⊢);omega)).mono ?_);rintro e2 c2 ⟨u2,rfl,g2,k2⟩;have G2:=hide g2;have K2:=hide k2;clear g2 k2)
   | (at_builtin;refine oH rfl _ _ rfl W1.heap.size w1.heap.size _ _ _ (jg p.edit) rfl (H1.out.below K2.out) rfl G2.out (by have:=HL.out;(try simp only[aJ,List.length_cons,List.length_nil,iC]at this⊢);omega) (aI hW1.size K2.out.size) ?_))
  intro v2 w2 h2 hB2;have H2:=hide h2;have hW2:Below W1.heap.size W1 w2:=(hW1.trans (K2.out.mono hW1.size)).trans hB2;clear h2 hB2
  go_wp2
  have Le:=hide hW2
  go_ret2
  refine⟨HR.out.trans (Le.out.mono HR.out.size),.inl ⟨gK.out.mp trivial,_,rfl,?_⟩⟩;have:=H2.out.mono HR.out.size;have hpt:gJ {p with kind:=4}=UInt8.ofNat 4::(ax p.file++(jg p.edit)):=rfl;rw[hpt]
  simpa[List.append_assoc]using this
theorem Dc{S:Nat→Prop}{w:World}{x:Ph}{p:Pt}(hp:bM S w x p)(h3:p.kind≠3)(h4:p.kind≠4)(hlen:(gJ p).length≤gG):
  Calls Tryz.prog 48 #[.agg #[.int .u8 p.kind,.string p.file,.string p.text,.int .i64 p.hunk.at_,.slice x.h.oA p.hunk.old.length x.h.oc,.slice x.h.nA p.hunk.new.length x.h.nc,.int .u8 p.edit.kind,.slice x.e.pA p.edit.path.length x.e.pc,.int .i64 p.edit.at_,.int .i64 p.edit.far,.string p.edit.frm,.string p.edit.to,.slice x.e.oA p.edit.old.len x.e.oc,.slice x.e.nA p.edit.new.len x.e.nc]] w fun e1 w'=>Below w.heap.size w w'∧((bI p∧∃v,e1 = .returned (.tuple #[v,.int .i64 0])∧bW w.heap.size w' v (gJ p))∨(¬bI p∧e1 = .returned (.tuple #[.slice none 0 0,.int .i64 4]))):=by
 have hk:p.kind<256:=hp.kind;have n3:((p.kind:Int) == 3)=false:=by rw[aK];omega
 have n4:((p.kind:Int) == 4)=false:=by rw[aK];omega
 have hpt:gJ p=UInt8.ofNat p.kind::(ax p.file++ax p.text):=by unfold gJ;rw[if_neg h3,if_neg h4]
 clear h3 h4;have HL:Hid (1+(ax p.file).length+(ax p.text).length≤gG):=by
  refine hide ?_;rw[hpt]at hlen;simp only[List.length_cons,aJ,iC]at hlen;omega
 have eu:p.file.size≤9223372036854775807:=hp.file;have htext:p.text.size≤9223372036854775807:=hp.text;clear hlen;obtain⟨W0,hW0⟩:∃W0,W0=w.alloc (.cells #[.int .u8 p.kind,.string p.file,.string p.text,.int .i64 p.hunk.at_,.slice x.h.oA p.hunk.old.length x.h.oc,.slice x.h.nA p.hunk.new.length x.h.nc,.int .u8 p.edit.kind,.slice x.e.pA p.edit.path.length x.e.pc,.int .i64 p.edit.at_,.int .i64 p.edit.far,.string p.edit.frm,.string p.edit.to,.slice x.e.oA p.edit.old.len x.e.oc,.slice x.e.nA p.edit.new.len x.e.nc] 43):=⟨_,rfl⟩;have hb0:Below w.heap.size w W0:=by rw[hW0];exact az _ _
 have hbc :∀j v,#[.int .u8 p.kind,.string p.file,.string p.text,.int .i64 p.hunk.at_,.slice x.h.oA p.hunk.old.length x.h.oc,.slice x.h.nA p.hunk.new.length x.h.nc,.int .u8 p.edit.kind,.slice x.e.pA p.edit.path.length x.e.pc,.int .i64 p.edit.at_,.int .i64 p.edit.far,.string p.edit.frm,.string p.edit.to,.slice x.e.oA p.edit.old.len x.e.oc,.slice x.e.nA p.edit.new.len x.e.nc][j]?=some v→∀W,Below W0.heap.size W0 W→W.cell? ⟨w.heap.size,j,none⟩=some v:=by
  intro j v hj W hB;have h0:W0.cell? ⟨w.heap.size,j,none⟩=some v:=by rw[hW0,Lib.cell_of_heap (heap_alloc_new w _)];exact hj
  exact(World.cell?_of_block (hB.block _ (block_lt_of_cell h0))).trans h0
 have c0:=hbc 0 _ rfl;have c1:=hbc 1 _ rfl;have c2:=hbc 2 _ rfl;have c3:=hbc 3 _ rfl;have c4:=hbc 4 _ rfl;have c5:=hbc 5 _ rfl;have c6:=hbc 6 _ rfl;have c7:=hbc 7 _ rfl;have c8:=hbc 8 _ rfl;have c9:=hbc 9 _ rfl;have c10:=hbc 10 _ rfl;have c11:=hbc 11 _ rfl;have c12:=hbc 12 _ rfl;have c13:=hbc 13 _ rfl;clear hbc;have Hp:=hide (hp.below hb0);have Hb0:=hide hb0;clear hp hb0;have HW0:=hide hW0;clear hW0;go_enter Tryz.func48,Tryz.ntmps48
 go_upto_region 1 with fail
 change Code.wp _ _ _ _ (w.alloc (.cells #[.int .u8 p.kind,.string p.file,.string p.text,.int .i64 p.hunk.at_,.slice x.h.oA p.hunk.old.length x.h.oc,.slice x.h.nA p.hunk.new.length x.h.nc,.int .u8 p.edit.kind,.slice x.e.pA p.edit.path.length x.e.pc,.int .i64 p.edit.at_,.int .i64 p.edit.far,.string p.edit.frm,.string p.edit.to,.slice x.e.oA p.edit.old.len x.e.oc,.slice x.e.nA p.edit.new.len x.e.nc] 43));rw[←HW0.out];clear HW0;have hr0:Below W0.heap.size W0 W0:=Below.refl _ _;have zA:Hid (Calls Tryz.prog 116 #[.agg #[.int .u8 p.kind,.string p.file,.string p.text,.int .i64 p.hunk.at_,.slice x.h.oA p.hunk.old.length x.h.oc,.slice x.h.nA p.hunk.new.length x.h.nc,.int .u8 p.edit.kind,.slice x.e.pA p.edit.path.length x.e.pc,.int .i64 p.edit.at_,.int .i64 p.edit.far,.string p.edit.frm,.string p.edit.to,.slice x.e.oA p.edit.old.len x.e.oc,.slice x.e.nA p.edit.new.len x.e.nc]] W0 fun e1 w'=>ah (bI p) e1∧Below W0.heap.size W0 w'):=hide (by have h:=OH (p:=p) Hp.out;exact h)
 go_wp2_with(go_at_call 116;(with_reducible refine zA.out.mono ?_);rintro e1 W1 ⟨⟨_|_,rfl,hb⟩,hR⟩<;>(have gK:=hide hb;clear hb))
 ·have HR:=hide hR;clear hR
  go_ret2
  exact⟨Hb0.out.trans (HR.out.mono Hb0.out.size),.inr ⟨fun h=>absurd (gK.out.mpr h) (by decide),rfl⟩⟩
 ·clear hr0;replace c0:=fun(W:World) (h:Below W1.heap.size W1 W)=>c0 W (hR.trans (h.mono hR.size));replace c1:=fun(W:World) (h:Below W1.heap.size W1 W)=>c1 W (hR.trans (h.mono hR.size));replace c2:=fun(W:World) (h:Below W1.heap.size W1 W)=>c2 W (hR.trans (h.mono hR.size));replace c3:=fun(W:World) (h:Below W1.heap.size W1 W)=>c3 W (hR.trans (h.mono hR.size));replace c4:=fun(W:World) (h:Below W1.heap.size W1 W)=>c4 W (hR.trans (h.mono hR.size));replace c5:=fun(W:World) (h:Below W1.heap.size W1 W)=>c5 W (hR.trans (h.mono hR.size));replace c6:=fun(W:World) (h:Below W1.heap.size W1 W)=>c6 W (hR.trans (h.mono hR.size));replace c7:=fun(W:World) (h:Below W1.heap.size W1 W)=>c7 W (hR.trans (h.mono hR.size));replace c8:=fun(W:World) (h:Below W1.heap.size W1 W)=>c8 W (hR.trans (h.mono hR.size));replace c9:=fun(W:World) (h:Below W1.heap.size W1 W)=>c9 W (hR.trans (h.mono hR.size));replace c10:=fun(W:World) (h:Below W1.heap.size W1 W)=>c10 W (hR.trans (h.mono hR.size));replace c11:=fun(W:World) (h:Below W1.heap.size W1 W)=>c11 W (hR.trans (h.mono hR.size));replace c12:=fun(W:World) (h:Below W1.heap.size W1 W)=>c12 W (hR.trans (h.mono hR.size));replace c13:=fun(W:World) (h:Below W1.heap.size W1 W)=>c13 W (hR.trans (h.mono hR.size));have IY:=hide (Hp.out.below hR);have HR:=hide (Hb0.out.trans (hR.mono Hb0.out.size));clear hR Hp
  go_cut [4] (fun v wx=>bW W1.heap.size wx v ([UInt8.ofNat p.kind]++ax p.file)∧Below W1.heap.size W1 wx)
  case first =>
   have hd1:Below W1.heap.size W1 W1.drew:=di (Below.refl _ _) 1;refine wp_region_held_drew (S:=Below W1.heap.size W1) (by kernel_rfl) hd1 (fun hHeld=>?_);generalize W1.drew=wD at hHeld⊢;refine aj 0 hHeld ?_;refine aj 1 hHeld ?_;refine aj 3 hHeld ?_;refine aj 4 hHeld ?_;refine wpAnyH_ready (rs:=[2,5]) (by kernel_rfl) (by simp) ?_;refine AllReadyH.cons rfl (fun K hK=>?_) (AllReadyH.cons rfl (fun K hK=>?_) AllReadyH.nil)
   ·go_simp;have hA1:Below W1.heap.size W1 (wD.alloc (.cells #[.int .u8 p.kind] 5)):=aW hHeld (az _ _);refine hK.out _ _ hA1 (fun _=>?_);clear hK K
    try simp only[Act.put,aG,aE,aF,aD,aA,aB]
    refine wpAnyH_ready (rs:=[5]) (by kernel_rfl) (by simp) ?_;refine AllReadyH.cons rfl (fun K hK=>?_) AllReadyH.nil;go_simp
    go_wp2_with(go_at_call 117;(with_reducible refine(vY eu (by have:=HL.out;(try simp only[aJ,List.length_cons,List.length_nil,iC]at this⊢);omega)).mono ?_);rintro e2 w2 ⟨v2,rfl,h2,hB2⟩)
    have hA2:=hA1.trans (hB2.mono hA1.size);refine hK.out _ _ hA2 (fun _=>?_);clear hK K
    try simp only[Act.put,aG,aE,aF,aD,aA,aB]
    refine wpAnyH_ready (rs:=[6]) (by kernel_rfl) (by simp) ?_;refine AllReadyH.cons rfl (fun K hK=>?_) AllReadyH.nil;refine EE rfl _ _ rfl W1.heap.size _ _ _ [UInt8.ofNat p.kind] (ax p.file) rfl ((bW.lit wD (BA _ hk)).mono hHeld.size |>.below hB2) rfl h2 (by have:=HL.out;(try simp only[aJ,List.length_cons,List.length_nil,iC]at this⊢);omega) hA2.size ?_;intro v3 w3 h3 hB3;have hA3:=hA2.trans hB3;refine hK.out _ _ hA3 (fun _=>?_);clear hK K
    try simp only[Act.put,aG,aE,aF,aD,aA,aB]
    refine aj 7 hA3 ?_;refine wpAnyH_done (by kernel_rfl) ?_ _;have H3:=hide h3;have l9:=hide hA3
    try simp only[Act.put,aG,aE,aF,aD,aA,aB]
    go_wp2_with fail
    go_meet
    exact⟨H3.out,l9.out⟩
   ·go_simp
    go_wp2_with(go_at_call 117;(with_reducible refine(vY eu (by have:=HL.out;(try simp only[aJ,List.length_cons,List.length_nil,iC]at this⊢);omega)).mono ?_);rintro e2 w2 ⟨v2,rfl,h2,hB2⟩)
    have hA1:=hHeld.trans (hB2.mono hHeld.size);refine hK.out _ _ hA1 (fun _=>?_);clear hK K
    try simp only[Act.put,aG,aE,aF,aD,aA,aB]
    refine wpAnyH_ready (rs:=[2]) (by kernel_rfl) (by simp) ?_;refine AllReadyH.cons rfl (fun K hK=>?_) AllReadyH.nil;go_simp;have hA2:Below W1.heap.size W1 (w2.alloc (.cells #[.int .u8 p.kind] 5)):=aW hA1 (az _ _);refine hK.out _ _ hA2 (fun _=>?_);clear hK K
    try simp only[Act.put,aG,aE,aF,aD,aA,aB]
    refine wpAnyH_ready (rs:=[6]) (by kernel_rfl) (by simp) ?_;refine AllReadyH.cons rfl (fun K hK=>?_) AllReadyH.nil;refine EE rfl _ _ rfl W1.heap.size _ _ _ [UInt8.ofNat p.kind] (ax p.file) rfl ((bW.lit w2 (BA _ hk)).mono hA1.size) rfl (h2.below (az _ _)) (by have:=HL.out;(try simp only[aJ,List.length_cons,List.length_nil,iC]at this⊢);omega) hA2.size ?_;intro v3 w3 h3 hB3;have hA3:=hA2.trans hB3;refine hK.out _ _ hA3 (fun _=>?_);clear hK K
    try simp only[Act.put,aG,aE,aF,aD,aA,aB]
    refine aj 7 hA3 ?_;refine wpAnyH_done (by kernel_rfl) ?_ _;have H3:=hide h3;have l9:=hide hA3
    try simp only[Act.put,aG,aE,aF,aD,aA,aB]
    go_wp2_with fail
    go_meet
    exact⟨H3.out,l9.out⟩
  case rest =>
  obtain⟨h1,hW1⟩:=hcut;obtain⟨w1,rfl⟩:∃w1,w1=wc:=⟨_,rfl⟩;have H1:=hide h1;clear h1
  go_wp2_with(first
   | (go_at_call 117;(with_reducible refine(vY htext (by have:=HL.out;(try simp only[aJ,List.length_cons,List.length_nil,iC]at this⊢);omega)).mono ?_);rintro e2 c2 ⟨u2,rfl,g2,k2⟩;have G2:=hide g2;have K2:=hide k2;clear g2 k2)
   | (at_builtin;refine oH rfl _ _ rfl W1.heap.size w1.heap.size _ _ _ (ax p.text) rfl (H1.out.below K2.out) rfl G2.out (by have:=HL.out;(try simp only[aJ,List.length_cons,List.length_nil,iC]at this⊢);omega) (aI hW1.size K2.out.size) ?_))
  intro v2 w2 h2 hB2;have H2:=hide h2;have hW2:Below W1.heap.size W1 w2:=(hW1.trans (K2.out.mono hW1.size)).trans hB2;clear h2 hB2
  go_wp2
  have Le:=hide hW2
  go_ret2
  refine⟨HR.out.trans (Le.out.mono HR.out.size),.inl ⟨gK.out.mp trivial,_,rfl,?_⟩⟩;have:=H2.out.mono HR.out.size;rw[hpt]
  simpa[List.append_assoc]using this
theorem uM{S:Nat→Prop}{w:World}{x:Ph}{p:Pt}(hp:bM S w x p)(hlen:(gJ p).length≤gG):
  Calls Tryz.prog 48 #[.agg #[.int .u8 p.kind,.string p.file,.string p.text,.int .i64 p.hunk.at_,.slice x.h.oA p.hunk.old.length x.h.oc,.slice x.h.nA p.hunk.new.length x.h.nc,.int .u8 p.edit.kind,.slice x.e.pA p.edit.path.length x.e.pc,.int .i64 p.edit.at_,.int .i64 p.edit.far,.string p.edit.frm,.string p.edit.to,.slice x.e.oA p.edit.old.len x.e.oc,.slice x.e.nA p.edit.new.len x.e.nc]] w fun e1 w'=>Below w.heap.size w w'∧((bI p∧∃v,e1 = .returned (.tuple #[v,.int .i64 0])∧bW w.heap.size w' v (gJ p))∨(¬bI p∧e1 = .returned (.tuple #[.slice none 0 0,.int .i64 4]))):=by
 obtain⟨kd,file,text,hunk,edit⟩:=p;by_cases h3:kd=3
 ·subst h3;exact CZ (p:=⟨3,file,text,hunk,edit⟩) hp hlen
 by_cases h4:kd=4
 ·subst h4;exact C9 (p:=⟨4,file,text,hunk,edit⟩) hp hlen
 exact Dc hp h3 h4 hlen
end
end Go.Proofs.YtjjaojnglnpgaaaGreatDoor
