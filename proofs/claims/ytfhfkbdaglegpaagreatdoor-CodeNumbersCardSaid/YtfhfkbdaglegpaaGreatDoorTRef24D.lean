/- The document's bytes (ref24): patches. Printed by gen_ref24.py. -/
import Derived.Test.YtfhfkbdaglegpaaGreatDoorTRef24

set_option linter.unusedVariables false
set_option linter.unusedSimpArgs false

namespace Go.Proofs.YtfhfkbdaglegpaaGreatDoor
open Go.RowKit

set_option maxHeartbeats 4000000 in
set_option maxRecDepth 1000000 in
theorem put24_3 {S : Nat → Prop} {w : World} {x : Ph} {p : Pt} (hp : PtIn S w x { p with kind := 3 }) (hlen : (ptB { p with kind := 3 }).length ≤ lidB) :
    Calls Tryz.prog 10 #[.agg #[.int .u8 3, .string p.file, .string p.text, .int .i64 p.hunk.at_, .slice x.h.oA p.hunk.old.length x.h.oc, .slice x.h.nA p.hunk.new.length x.h.nc, .int .u8 p.edit.kind, .slice x.e.pA p.edit.path.length x.e.pc, .int .i64 p.edit.at_, .int .i64 p.edit.far, .string p.edit.frm, .string p.edit.to, .slice x.e.oA p.edit.old.len x.e.oc, .slice x.e.nA p.edit.new.len x.e.nc]] w fun e1 w' => Below w.heap.size w w' ∧ ((PtOk { p with kind := 3 } ∧ ∃ v, e1 = .returned (.tuple #[v, .int .i64 0]) ∧ Own8 w.heap.size w' v (ptB { p with kind := 3 })) ∨ (¬ PtOk { p with kind := 3 } ∧ e1 = .returned (.tuple #[.slice none 0 0, .int .i64 4]))) := by
  have hk : 3 < 256 := by omega
  have HL : Hid (1 + (txtB p.file).length + 8 + (txtsB p.hunk.old).length + (txtsB p.hunk.new).length ≤ lidB) := by
    refine hide ?_
    have hpt : ptB { p with kind := 3 } = UInt8.ofNat 3 :: (txtB p.file ++ (num8 p.hunk.at_ ++ (txtsB p.hunk.old ++ txtsB p.hunk.new))) := rfl
    rw [hpt] at hlen
    simp only [List.length_cons, List.length_append, num8_len8] at hlen
    omega
  have hfile : p.file.size ≤ 9223372036854775807 := hp.file
  have htext : p.text.size ≤ 9223372036854775807 := hp.text
  clear hlen
  obtain ⟨W0, hW0⟩ : ∃ W0, W0 = w.alloc (.cells #[.int .u8 3, .string p.file, .string p.text, .int .i64 p.hunk.at_, .slice x.h.oA p.hunk.old.length x.h.oc, .slice x.h.nA p.hunk.new.length x.h.nc, .int .u8 p.edit.kind, .slice x.e.pA p.edit.path.length x.e.pc, .int .i64 p.edit.at_, .int .i64 p.edit.far, .string p.edit.frm, .string p.edit.to, .slice x.e.oA p.edit.old.len x.e.oc, .slice x.e.nA p.edit.new.len x.e.nc] 32) := ⟨_, rfl⟩
  have hb0 : Below w.heap.size w W0 := by rw [hW0]; exact below_alloc _ _
  have hbc : ∀ j v, #[.int .u8 3, .string p.file, .string p.text, .int .i64 p.hunk.at_, .slice x.h.oA p.hunk.old.length x.h.oc, .slice x.h.nA p.hunk.new.length x.h.nc, .int .u8 p.edit.kind, .slice x.e.pA p.edit.path.length x.e.pc, .int .i64 p.edit.at_, .int .i64 p.edit.far, .string p.edit.frm, .string p.edit.to, .slice x.e.oA p.edit.old.len x.e.oc, .slice x.e.nA p.edit.new.len x.e.nc][j]? = some v → ∀ W, Below W0.heap.size W0 W → W.cell? ⟨w.heap.size, j, none⟩ = some v := by
    intro j v hj W hB
    have h0 : W0.cell? ⟨w.heap.size, j, none⟩ = some v := by rw [hW0, Lib.cell_of_heap (heap_alloc_new w _)]; exact hj
    exact (World.cell?_of_block (hB.block _ (block_lt_of_cell h0))).trans h0
  have c0 := hbc 0 _ rfl
  have c1 := hbc 1 _ rfl
  have c2 := hbc 2 _ rfl
  have c3 := hbc 3 _ rfl
  have c4 := hbc 4 _ rfl
  have c5 := hbc 5 _ rfl
  have c6 := hbc 6 _ rfl
  have c7 := hbc 7 _ rfl
  have c8 := hbc 8 _ rfl
  have c9 := hbc 9 _ rfl
  have c10 := hbc 10 _ rfl
  have c11 := hbc 11 _ rfl
  have c12 := hbc 12 _ rfl
  have c13 := hbc 13 _ rfl
  clear hbc
  have Hp := hide (hp.below hb0)
  have Hb0 := hide hb0
  clear hp hb0
  have HW0 := hide hW0
  clear hW0
  go_enter Tryz.func10, Tryz.ntmps10
  go_upto_region 1 with fail
  change Code.wp _ _ _ _ (w.alloc (.cells #[.int .u8 3, .string p.file, .string p.text, .int .i64 p.hunk.at_, .slice x.h.oA p.hunk.old.length x.h.oc, .slice x.h.nA p.hunk.new.length x.h.nc, .int .u8 p.edit.kind, .slice x.e.pA p.edit.path.length x.e.pc, .int .i64 p.edit.at_, .int .i64 p.edit.far, .string p.edit.frm, .string p.edit.to, .slice x.e.oA p.edit.old.len x.e.oc, .slice x.e.nA p.edit.new.len x.e.nc] 32))
  rw [← HW0.out]
  clear HW0
  have hr0 : Below W0.heap.size W0 W0 := Below.refl _ _
  have HR19 : Hid (Calls Tryz.prog 30 #[.agg #[.int .u8 3, .string p.file, .string p.text, .int .i64 p.hunk.at_, .slice x.h.oA p.hunk.old.length x.h.oc, .slice x.h.nA p.hunk.new.length x.h.nc, .int .u8 p.edit.kind, .slice x.e.pA p.edit.path.length x.e.pc, .int .i64 p.edit.at_, .int .i64 p.edit.far, .string p.edit.frm, .string p.edit.to, .slice x.e.oA p.edit.old.len x.e.oc, .slice x.e.nA p.edit.new.len x.e.nc]] W0 fun e1 w' => RetB (PtOk { p with kind := 3 }) e1 ∧ Below W0.heap.size W0 w') := hide (by have h := patRight19_any (p := { p with kind := 3 }) Hp.out; exact h)
  go_wp2_with (go_at_call 30; (with_reducible refine HR19.out.mono ?_); rintro e1 W1 ⟨⟨_ | _, rfl, hb⟩, hR⟩ <;> (have Hok := hide hb; clear hb))
  · have HR := hide hR
    clear hR
    go_ret2
    exact ⟨Hb0.out.trans (HR.out.mono Hb0.out.size), .inr ⟨fun h => absurd (Hok.out.mpr h) (by decide), rfl⟩⟩
  · clear hr0
    replace c0 := fun (W : World) (h : Below W1.heap.size W1 W) => c0 W (hR.trans (h.mono hR.size))
    replace c1 := fun (W : World) (h : Below W1.heap.size W1 W) => c1 W (hR.trans (h.mono hR.size))
    replace c2 := fun (W : World) (h : Below W1.heap.size W1 W) => c2 W (hR.trans (h.mono hR.size))
    replace c3 := fun (W : World) (h : Below W1.heap.size W1 W) => c3 W (hR.trans (h.mono hR.size))
    replace c4 := fun (W : World) (h : Below W1.heap.size W1 W) => c4 W (hR.trans (h.mono hR.size))
    replace c5 := fun (W : World) (h : Below W1.heap.size W1 W) => c5 W (hR.trans (h.mono hR.size))
    replace c6 := fun (W : World) (h : Below W1.heap.size W1 W) => c6 W (hR.trans (h.mono hR.size))
    replace c7 := fun (W : World) (h : Below W1.heap.size W1 W) => c7 W (hR.trans (h.mono hR.size))
    replace c8 := fun (W : World) (h : Below W1.heap.size W1 W) => c8 W (hR.trans (h.mono hR.size))
    replace c9 := fun (W : World) (h : Below W1.heap.size W1 W) => c9 W (hR.trans (h.mono hR.size))
    replace c10 := fun (W : World) (h : Below W1.heap.size W1 W) => c10 W (hR.trans (h.mono hR.size))
    replace c11 := fun (W : World) (h : Below W1.heap.size W1 W) => c11 W (hR.trans (h.mono hR.size))
    replace c12 := fun (W : World) (h : Below W1.heap.size W1 W) => c12 W (hR.trans (h.mono hR.size))
    replace c13 := fun (W : World) (h : Below W1.heap.size W1 W) => c13 W (hR.trans (h.mono hR.size))
    have Hp1 := hide (Hp.out.below hR)
    have HR := hide (Hb0.out.trans (hR.mono Hb0.out.size))
    clear hR Hp
    go_cut [4] (fun v wx => Own8 W1.heap.size wx v ([UInt8.ofNat 3] ++ txtB p.file) ∧ Below W1.heap.size W1 wx)
    case first =>
      have hd1 : Below W1.heap.size W1 W1.drew := blw_drewN (Below.refl _ _) 1
      refine wp_region_held_drew (S := Below W1.heap.size W1) (by kernel_rfl) hd1 (fun hHeld => ?_)
      generalize W1.drew = wD at hHeld ⊢
      refine tk (v := ?_) 0 hHeld ?_ ?_
      rotate_left
      · intro w' hSw
        first | (go_simp; done) | (go_simp; with_reducible rfl)
      try simp only [List.set_cons_zero, List.set_cons_succ]
      refine tk (v := ?_) 1 hHeld ?_ ?_
      rotate_left
      · intro w' hSw
        first | (go_simp; done) | (go_simp; with_reducible rfl)
      try simp only [List.set_cons_zero, List.set_cons_succ]
      refine tk (v := ?_) 3 hHeld ?_ ?_
      rotate_left
      · intro w' hSw
        first | (go_simp; done) | (go_simp; with_reducible rfl)
      try simp only [List.set_cons_zero, List.set_cons_succ]
      refine tk (v := ?_) 4 hHeld ?_ ?_
      rotate_left
      · intro w' hSw
        first | (go_simp; done) | (go_simp; with_reducible rfl)
      try simp only [List.set_cons_zero, List.set_cons_succ]
      refine wpAnyH_ready (rs := [2, 5]) (by kernel_rfl) (by simp) ?_
      refine AllReadyH.cons rfl (fun K hK => ?_) (AllReadyH.cons rfl (fun K hK => ?_) AllReadyH.nil)
      · go_simp
        have hA1 : Below W1.heap.size W1 (wD.alloc (.cells #[.int .u8 3] 5)) := blw_up hHeld (below_alloc _ _)
        refine hK.out _ _ hA1 (fun _ => ?_)
        clear hK K
        try simp only [Act.put, List.getElem_toArray, List.getElem_cons_zero, List.getElem_cons_succ, List.setIfInBounds_toArray, List.set_cons_zero, List.set_cons_succ]
        refine wpAnyH_ready (rs := [5]) (by kernel_rfl) (by simp) ?_
        refine AllReadyH.cons rfl (fun K hK => ?_) AllReadyH.nil
        go_simp
        go_wp2_with (go_at_call 31; (with_reducible refine (text24_any hfile (by have := HL.out; (try simp only [List.length_append, List.length_cons, List.length_nil, num8_len8] at this ⊢); omega)).mono ?_); rintro e2 w2 ⟨v2, rfl, h2, hB2⟩)
        have hA2 := hA1.trans (hB2.mono hA1.size)
        refine hK.out _ _ hA2 (fun _ => ?_)
        clear hK K
        try simp only [Act.put, List.getElem_toArray, List.getElem_cons_zero, List.getElem_cons_succ, List.setIfInBounds_toArray, List.set_cons_zero, List.set_cons_succ]
        refine wpAnyH_ready (rs := [6]) (by kernel_rfl) (by simp) ?_
        refine AllReadyH.cons rfl (fun K hK => ?_) AllReadyH.nil
        refine step_own8 rfl _ _ rfl W1.heap.size _ _ _ [UInt8.ofNat 3] (txtB p.file) rfl ((Own8.lit wD (u8_of8 _ hk)).mono hHeld.size |>.below hB2) rfl h2 (by have := HL.out; (try simp only [List.length_append, List.length_cons, List.length_nil, num8_len8] at this ⊢); omega) hA2.size ?_
        intro v3 w3 h3 hB3
        have hA3 := hA2.trans hB3
        refine hK.out _ _ hA3 (fun _ => ?_)
        clear hK K
        try simp only [Act.put, List.getElem_toArray, List.getElem_cons_zero, List.getElem_cons_succ, List.setIfInBounds_toArray, List.set_cons_zero, List.set_cons_succ]
        refine tk (v := ?_) 7 hA3 ?_ ?_
        rotate_left
        · intro w' hSw
          first | (go_simp; done) | (go_simp; with_reducible rfl)
        try simp only [List.set_cons_zero, List.set_cons_succ]
        refine wpAnyH_done (by kernel_rfl) ?_ _
        have H3 := hide h3
        have HA3 := hide hA3
        try simp only [Act.put, List.getElem_toArray, List.getElem_cons_zero, List.getElem_cons_succ, List.setIfInBounds_toArray, List.set_cons_zero, List.set_cons_succ]
        go_wp2_with fail
        go_meet
        exact ⟨H3.out, HA3.out⟩
      · go_simp
        go_wp2_with (go_at_call 31; (with_reducible refine (text24_any hfile (by have := HL.out; (try simp only [List.length_append, List.length_cons, List.length_nil, num8_len8] at this ⊢); omega)).mono ?_); rintro e2 w2 ⟨v2, rfl, h2, hB2⟩)
        have hA1 := hHeld.trans (hB2.mono hHeld.size)
        refine hK.out _ _ hA1 (fun _ => ?_)
        clear hK K
        try simp only [Act.put, List.getElem_toArray, List.getElem_cons_zero, List.getElem_cons_succ, List.setIfInBounds_toArray, List.set_cons_zero, List.set_cons_succ]
        refine wpAnyH_ready (rs := [2]) (by kernel_rfl) (by simp) ?_
        refine AllReadyH.cons rfl (fun K hK => ?_) AllReadyH.nil
        go_simp
        have hA2 : Below W1.heap.size W1 (w2.alloc (.cells #[.int .u8 3] 5)) := blw_up hA1 (below_alloc _ _)
        refine hK.out _ _ hA2 (fun _ => ?_)
        clear hK K
        try simp only [Act.put, List.getElem_toArray, List.getElem_cons_zero, List.getElem_cons_succ, List.setIfInBounds_toArray, List.set_cons_zero, List.set_cons_succ]
        refine wpAnyH_ready (rs := [6]) (by kernel_rfl) (by simp) ?_
        refine AllReadyH.cons rfl (fun K hK => ?_) AllReadyH.nil
        refine step_own8 rfl _ _ rfl W1.heap.size _ _ _ [UInt8.ofNat 3] (txtB p.file) rfl ((Own8.lit w2 (u8_of8 _ hk)).mono hA1.size) rfl (h2.below (below_alloc _ _)) (by have := HL.out; (try simp only [List.length_append, List.length_cons, List.length_nil, num8_len8] at this ⊢); omega) hA2.size ?_
        intro v3 w3 h3 hB3
        have hA3 := hA2.trans hB3
        refine hK.out _ _ hA3 (fun _ => ?_)
        clear hK K
        try simp only [Act.put, List.getElem_toArray, List.getElem_cons_zero, List.getElem_cons_succ, List.setIfInBounds_toArray, List.set_cons_zero, List.set_cons_succ]
        refine tk (v := ?_) 7 hA3 ?_ ?_
        rotate_left
        · intro w' hSw
          first | (go_simp; done) | (go_simp; with_reducible rfl)
        try simp only [List.set_cons_zero, List.set_cons_succ]
        refine wpAnyH_done (by kernel_rfl) ?_ _
        have H3 := hide h3
        have HA3 := hide hA3
        try simp only [Act.put, List.getElem_toArray, List.getElem_cons_zero, List.getElem_cons_succ, List.setIfInBounds_toArray, List.set_cons_zero, List.set_cons_succ]
        go_wp2_with fail
        go_meet
        exact ⟨H3.out, HA3.out⟩
    case rest =>
    obtain ⟨h1, hW1⟩ := hcut
    obtain ⟨w1, rfl⟩ : ∃ w1, w1 = wc := ⟨_, rfl⟩
    have H1 := hide h1
    clear h1
    go_wp2_with (first
      | (go_at_call 32; (with_reducible refine (number24_any (n := p.hunk.at_) Hp1.out.hunk.at_).mono ?_); rintro e2 c2 ⟨u2, rfl, g2, k2⟩; have G2 := hide g2; have K2 := hide k2; clear g2 k2)
      | (at_builtin; refine wpList_own8 rfl _ _ rfl W1.heap.size w1.heap.size _ _ _ (num8 p.hunk.at_) rfl (H1.out.below K2.out) rfl G2.out (by have := HL.out; (try simp only [List.length_append, List.length_cons, List.length_nil, num8_len8] at this ⊢); omega) (Nat.le_trans hW1.size K2.out.size) ?_))
    intro v2 w2 h2 hB2
    have H2 := hide h2
    have hW2 : Below W1.heap.size W1 w2 := (hW1.trans (K2.out.mono hW1.size)).trans hB2
    clear h2 hB2
    go_wp2_with (first
      | (go_at_call 33; (with_reducible refine (texts24_any (xs := p.hunk.old) (Hp1.out.hunk.old.below hW2) (by have := HL.out; (try simp only [List.length_append, List.length_cons, List.length_nil, num8_len8] at this ⊢); omega)).mono ?_); rintro e3 c3 ⟨u3, rfl, g3, k3⟩; have G3 := hide g3; have K3 := hide k3; clear g3 k3)
      | (at_builtin; refine wpList_own8 rfl _ _ rfl W1.heap.size w2.heap.size _ _ _ (txtsB p.hunk.old) rfl (H2.out.below K3.out) rfl G3.out (by have := HL.out; (try simp only [List.length_append, List.length_cons, List.length_nil, num8_len8] at this ⊢); omega) (Nat.le_trans hW2.size K3.out.size) ?_))
    intro v3 w3 h3 hB3
    have H3 := hide h3
    have hW3 : Below W1.heap.size W1 w3 := (hW2.trans (K3.out.mono hW2.size)).trans hB3
    clear h3 hB3
    go_wp2_with (first
      | (go_at_call 33; (with_reducible refine (texts24_any (xs := p.hunk.new) (Hp1.out.hunk.new.below hW3) (by have := HL.out; (try simp only [List.length_append, List.length_cons, List.length_nil, num8_len8] at this ⊢); omega)).mono ?_); rintro e4 c4 ⟨u4, rfl, g4, k4⟩; have G4 := hide g4; have K4 := hide k4; clear g4 k4)
      | (at_builtin; refine wpList_own8 rfl _ _ rfl W1.heap.size w3.heap.size _ _ _ (txtsB p.hunk.new) rfl (H3.out.below K4.out) rfl G4.out (by have := HL.out; (try simp only [List.length_append, List.length_cons, List.length_nil, num8_len8] at this ⊢); omega) (Nat.le_trans hW3.size K4.out.size) ?_))
    intro v4 w4 h4 hB4
    have H4 := hide h4
    have hW4 : Below W1.heap.size W1 w4 := (hW3.trans (K4.out.mono hW3.size)).trans hB4
    clear h4 hB4
    go_wp2
    have HWl := hide hW4
    go_ret2
    refine ⟨HR.out.trans (HWl.out.mono HR.out.size), .inl ⟨Hok.out.mp trivial, _, rfl, ?_⟩⟩
    have := H4.out.mono HR.out.size
    have hpt : ptB { p with kind := 3 } = UInt8.ofNat 3 :: (txtB p.file ++ (num8 p.hunk.at_ ++ (txtsB p.hunk.old ++ txtsB p.hunk.new))) := rfl
    rw [hpt]
    simpa [List.append_assoc] using this

set_option maxHeartbeats 4000000 in
set_option maxRecDepth 1000000 in
theorem put24_4 {S : Nat → Prop} {w : World} {x : Ph} {p : Pt} (hp : PtIn S w x { p with kind := 4 }) (hlen : (ptB { p with kind := 4 }).length ≤ lidB) :
    Calls Tryz.prog 10 #[.agg #[.int .u8 4, .string p.file, .string p.text, .int .i64 p.hunk.at_, .slice x.h.oA p.hunk.old.length x.h.oc, .slice x.h.nA p.hunk.new.length x.h.nc, .int .u8 p.edit.kind, .slice x.e.pA p.edit.path.length x.e.pc, .int .i64 p.edit.at_, .int .i64 p.edit.far, .string p.edit.frm, .string p.edit.to, .slice x.e.oA p.edit.old.len x.e.oc, .slice x.e.nA p.edit.new.len x.e.nc]] w fun e1 w' => Below w.heap.size w w' ∧ ((PtOk { p with kind := 4 } ∧ ∃ v, e1 = .returned (.tuple #[v, .int .i64 0]) ∧ Own8 w.heap.size w' v (ptB { p with kind := 4 })) ∨ (¬ PtOk { p with kind := 4 } ∧ e1 = .returned (.tuple #[.slice none 0 0, .int .i64 4]))) := by
  have hk : 4 < 256 := by omega
  have HL : Hid (1 + (txtB p.file).length + (edB p.edit).length ≤ lidB) := by
    refine hide ?_
    have hpt : ptB { p with kind := 4 } = UInt8.ofNat 4 :: (txtB p.file ++ (edB p.edit)) := rfl
    rw [hpt] at hlen
    simp only [List.length_cons, List.length_append, num8_len8] at hlen
    omega
  have hfile : p.file.size ≤ 9223372036854775807 := hp.file
  have htext : p.text.size ≤ 9223372036854775807 := hp.text
  clear hlen
  obtain ⟨W0, hW0⟩ : ∃ W0, W0 = w.alloc (.cells #[.int .u8 4, .string p.file, .string p.text, .int .i64 p.hunk.at_, .slice x.h.oA p.hunk.old.length x.h.oc, .slice x.h.nA p.hunk.new.length x.h.nc, .int .u8 p.edit.kind, .slice x.e.pA p.edit.path.length x.e.pc, .int .i64 p.edit.at_, .int .i64 p.edit.far, .string p.edit.frm, .string p.edit.to, .slice x.e.oA p.edit.old.len x.e.oc, .slice x.e.nA p.edit.new.len x.e.nc] 32) := ⟨_, rfl⟩
  have hb0 : Below w.heap.size w W0 := by rw [hW0]; exact below_alloc _ _
  have hbc : ∀ j v, #[.int .u8 4, .string p.file, .string p.text, .int .i64 p.hunk.at_, .slice x.h.oA p.hunk.old.length x.h.oc, .slice x.h.nA p.hunk.new.length x.h.nc, .int .u8 p.edit.kind, .slice x.e.pA p.edit.path.length x.e.pc, .int .i64 p.edit.at_, .int .i64 p.edit.far, .string p.edit.frm, .string p.edit.to, .slice x.e.oA p.edit.old.len x.e.oc, .slice x.e.nA p.edit.new.len x.e.nc][j]? = some v → ∀ W, Below W0.heap.size W0 W → W.cell? ⟨w.heap.size, j, none⟩ = some v := by
    intro j v hj W hB
    have h0 : W0.cell? ⟨w.heap.size, j, none⟩ = some v := by rw [hW0, Lib.cell_of_heap (heap_alloc_new w _)]; exact hj
    exact (World.cell?_of_block (hB.block _ (block_lt_of_cell h0))).trans h0
  have c0 := hbc 0 _ rfl
  have c1 := hbc 1 _ rfl
  have c2 := hbc 2 _ rfl
  have c3 := hbc 3 _ rfl
  have c4 := hbc 4 _ rfl
  have c5 := hbc 5 _ rfl
  have c6 := hbc 6 _ rfl
  have c7 := hbc 7 _ rfl
  have c8 := hbc 8 _ rfl
  have c9 := hbc 9 _ rfl
  have c10 := hbc 10 _ rfl
  have c11 := hbc 11 _ rfl
  have c12 := hbc 12 _ rfl
  have c13 := hbc 13 _ rfl
  clear hbc
  have Hp := hide (hp.below hb0)
  have Hb0 := hide hb0
  clear hp hb0
  have HW0 := hide hW0
  clear hW0
  go_enter Tryz.func10, Tryz.ntmps10
  go_upto_region 1 with fail
  change Code.wp _ _ _ _ (w.alloc (.cells #[.int .u8 4, .string p.file, .string p.text, .int .i64 p.hunk.at_, .slice x.h.oA p.hunk.old.length x.h.oc, .slice x.h.nA p.hunk.new.length x.h.nc, .int .u8 p.edit.kind, .slice x.e.pA p.edit.path.length x.e.pc, .int .i64 p.edit.at_, .int .i64 p.edit.far, .string p.edit.frm, .string p.edit.to, .slice x.e.oA p.edit.old.len x.e.oc, .slice x.e.nA p.edit.new.len x.e.nc] 32))
  rw [← HW0.out]
  clear HW0
  have hr0 : Below W0.heap.size W0 W0 := Below.refl _ _
  have HR19 : Hid (Calls Tryz.prog 30 #[.agg #[.int .u8 4, .string p.file, .string p.text, .int .i64 p.hunk.at_, .slice x.h.oA p.hunk.old.length x.h.oc, .slice x.h.nA p.hunk.new.length x.h.nc, .int .u8 p.edit.kind, .slice x.e.pA p.edit.path.length x.e.pc, .int .i64 p.edit.at_, .int .i64 p.edit.far, .string p.edit.frm, .string p.edit.to, .slice x.e.oA p.edit.old.len x.e.oc, .slice x.e.nA p.edit.new.len x.e.nc]] W0 fun e1 w' => RetB (PtOk { p with kind := 4 }) e1 ∧ Below W0.heap.size W0 w') := hide (by have h := patRight19_any (p := { p with kind := 4 }) Hp.out; exact h)
  go_wp2_with (go_at_call 30; (with_reducible refine HR19.out.mono ?_); rintro e1 W1 ⟨⟨_ | _, rfl, hb⟩, hR⟩ <;> (have Hok := hide hb; clear hb))
  · have HR := hide hR
    clear hR
    go_ret2
    exact ⟨Hb0.out.trans (HR.out.mono Hb0.out.size), .inr ⟨fun h => absurd (Hok.out.mpr h) (by decide), rfl⟩⟩
  · clear hr0
    replace c0 := fun (W : World) (h : Below W1.heap.size W1 W) => c0 W (hR.trans (h.mono hR.size))
    replace c1 := fun (W : World) (h : Below W1.heap.size W1 W) => c1 W (hR.trans (h.mono hR.size))
    replace c2 := fun (W : World) (h : Below W1.heap.size W1 W) => c2 W (hR.trans (h.mono hR.size))
    replace c3 := fun (W : World) (h : Below W1.heap.size W1 W) => c3 W (hR.trans (h.mono hR.size))
    replace c4 := fun (W : World) (h : Below W1.heap.size W1 W) => c4 W (hR.trans (h.mono hR.size))
    replace c5 := fun (W : World) (h : Below W1.heap.size W1 W) => c5 W (hR.trans (h.mono hR.size))
    replace c6 := fun (W : World) (h : Below W1.heap.size W1 W) => c6 W (hR.trans (h.mono hR.size))
    replace c7 := fun (W : World) (h : Below W1.heap.size W1 W) => c7 W (hR.trans (h.mono hR.size))
    replace c8 := fun (W : World) (h : Below W1.heap.size W1 W) => c8 W (hR.trans (h.mono hR.size))
    replace c9 := fun (W : World) (h : Below W1.heap.size W1 W) => c9 W (hR.trans (h.mono hR.size))
    replace c10 := fun (W : World) (h : Below W1.heap.size W1 W) => c10 W (hR.trans (h.mono hR.size))
    replace c11 := fun (W : World) (h : Below W1.heap.size W1 W) => c11 W (hR.trans (h.mono hR.size))
    replace c12 := fun (W : World) (h : Below W1.heap.size W1 W) => c12 W (hR.trans (h.mono hR.size))
    replace c13 := fun (W : World) (h : Below W1.heap.size W1 W) => c13 W (hR.trans (h.mono hR.size))
    have Hp1 := hide (Hp.out.below hR)
    have HR := hide (Hb0.out.trans (hR.mono Hb0.out.size))
    clear hR Hp
    go_cut [4] (fun v wx => Own8 W1.heap.size wx v ([UInt8.ofNat 4] ++ txtB p.file) ∧ Below W1.heap.size W1 wx)
    case first =>
      have hd1 : Below W1.heap.size W1 W1.drew := blw_drewN (Below.refl _ _) 1
      refine wp_region_held_drew (S := Below W1.heap.size W1) (by kernel_rfl) hd1 (fun hHeld => ?_)
      generalize W1.drew = wD at hHeld ⊢
      refine tk (v := ?_) 0 hHeld ?_ ?_
      rotate_left
      · intro w' hSw
        first | (go_simp; done) | (go_simp; with_reducible rfl)
      try simp only [List.set_cons_zero, List.set_cons_succ]
      refine tk (v := ?_) 1 hHeld ?_ ?_
      rotate_left
      · intro w' hSw
        first | (go_simp; done) | (go_simp; with_reducible rfl)
      try simp only [List.set_cons_zero, List.set_cons_succ]
      refine tk (v := ?_) 3 hHeld ?_ ?_
      rotate_left
      · intro w' hSw
        first | (go_simp; done) | (go_simp; with_reducible rfl)
      try simp only [List.set_cons_zero, List.set_cons_succ]
      refine tk (v := ?_) 4 hHeld ?_ ?_
      rotate_left
      · intro w' hSw
        first | (go_simp; done) | (go_simp; with_reducible rfl)
      try simp only [List.set_cons_zero, List.set_cons_succ]
      refine wpAnyH_ready (rs := [2, 5]) (by kernel_rfl) (by simp) ?_
      refine AllReadyH.cons rfl (fun K hK => ?_) (AllReadyH.cons rfl (fun K hK => ?_) AllReadyH.nil)
      · go_simp
        have hA1 : Below W1.heap.size W1 (wD.alloc (.cells #[.int .u8 4] 5)) := blw_up hHeld (below_alloc _ _)
        refine hK.out _ _ hA1 (fun _ => ?_)
        clear hK K
        try simp only [Act.put, List.getElem_toArray, List.getElem_cons_zero, List.getElem_cons_succ, List.setIfInBounds_toArray, List.set_cons_zero, List.set_cons_succ]
        refine wpAnyH_ready (rs := [5]) (by kernel_rfl) (by simp) ?_
        refine AllReadyH.cons rfl (fun K hK => ?_) AllReadyH.nil
        go_simp
        go_wp2_with (go_at_call 31; (with_reducible refine (text24_any hfile (by have := HL.out; (try simp only [List.length_append, List.length_cons, List.length_nil, num8_len8] at this ⊢); omega)).mono ?_); rintro e2 w2 ⟨v2, rfl, h2, hB2⟩)
        have hA2 := hA1.trans (hB2.mono hA1.size)
        refine hK.out _ _ hA2 (fun _ => ?_)
        clear hK K
        try simp only [Act.put, List.getElem_toArray, List.getElem_cons_zero, List.getElem_cons_succ, List.setIfInBounds_toArray, List.set_cons_zero, List.set_cons_succ]
        refine wpAnyH_ready (rs := [6]) (by kernel_rfl) (by simp) ?_
        refine AllReadyH.cons rfl (fun K hK => ?_) AllReadyH.nil
        refine step_own8 rfl _ _ rfl W1.heap.size _ _ _ [UInt8.ofNat 4] (txtB p.file) rfl ((Own8.lit wD (u8_of8 _ hk)).mono hHeld.size |>.below hB2) rfl h2 (by have := HL.out; (try simp only [List.length_append, List.length_cons, List.length_nil, num8_len8] at this ⊢); omega) hA2.size ?_
        intro v3 w3 h3 hB3
        have hA3 := hA2.trans hB3
        refine hK.out _ _ hA3 (fun _ => ?_)
        clear hK K
        try simp only [Act.put, List.getElem_toArray, List.getElem_cons_zero, List.getElem_cons_succ, List.setIfInBounds_toArray, List.set_cons_zero, List.set_cons_succ]
        refine tk (v := ?_) 7 hA3 ?_ ?_
        rotate_left
        · intro w' hSw
          first | (go_simp; done) | (go_simp; with_reducible rfl)
        try simp only [List.set_cons_zero, List.set_cons_succ]
        refine wpAnyH_done (by kernel_rfl) ?_ _
        have H3 := hide h3
        have HA3 := hide hA3
        try simp only [Act.put, List.getElem_toArray, List.getElem_cons_zero, List.getElem_cons_succ, List.setIfInBounds_toArray, List.set_cons_zero, List.set_cons_succ]
        go_wp2_with fail
        go_meet
        exact ⟨H3.out, HA3.out⟩
      · go_simp
        go_wp2_with (go_at_call 31; (with_reducible refine (text24_any hfile (by have := HL.out; (try simp only [List.length_append, List.length_cons, List.length_nil, num8_len8] at this ⊢); omega)).mono ?_); rintro e2 w2 ⟨v2, rfl, h2, hB2⟩)
        have hA1 := hHeld.trans (hB2.mono hHeld.size)
        refine hK.out _ _ hA1 (fun _ => ?_)
        clear hK K
        try simp only [Act.put, List.getElem_toArray, List.getElem_cons_zero, List.getElem_cons_succ, List.setIfInBounds_toArray, List.set_cons_zero, List.set_cons_succ]
        refine wpAnyH_ready (rs := [2]) (by kernel_rfl) (by simp) ?_
        refine AllReadyH.cons rfl (fun K hK => ?_) AllReadyH.nil
        go_simp
        have hA2 : Below W1.heap.size W1 (w2.alloc (.cells #[.int .u8 4] 5)) := blw_up hA1 (below_alloc _ _)
        refine hK.out _ _ hA2 (fun _ => ?_)
        clear hK K
        try simp only [Act.put, List.getElem_toArray, List.getElem_cons_zero, List.getElem_cons_succ, List.setIfInBounds_toArray, List.set_cons_zero, List.set_cons_succ]
        refine wpAnyH_ready (rs := [6]) (by kernel_rfl) (by simp) ?_
        refine AllReadyH.cons rfl (fun K hK => ?_) AllReadyH.nil
        refine step_own8 rfl _ _ rfl W1.heap.size _ _ _ [UInt8.ofNat 4] (txtB p.file) rfl ((Own8.lit w2 (u8_of8 _ hk)).mono hA1.size) rfl (h2.below (below_alloc _ _)) (by have := HL.out; (try simp only [List.length_append, List.length_cons, List.length_nil, num8_len8] at this ⊢); omega) hA2.size ?_
        intro v3 w3 h3 hB3
        have hA3 := hA2.trans hB3
        refine hK.out _ _ hA3 (fun _ => ?_)
        clear hK K
        try simp only [Act.put, List.getElem_toArray, List.getElem_cons_zero, List.getElem_cons_succ, List.setIfInBounds_toArray, List.set_cons_zero, List.set_cons_succ]
        refine tk (v := ?_) 7 hA3 ?_ ?_
        rotate_left
        · intro w' hSw
          first | (go_simp; done) | (go_simp; with_reducible rfl)
        try simp only [List.set_cons_zero, List.set_cons_succ]
        refine wpAnyH_done (by kernel_rfl) ?_ _
        have H3 := hide h3
        have HA3 := hide hA3
        try simp only [Act.put, List.getElem_toArray, List.getElem_cons_zero, List.getElem_cons_succ, List.setIfInBounds_toArray, List.set_cons_zero, List.set_cons_succ]
        go_wp2_with fail
        go_meet
        exact ⟨H3.out, HA3.out⟩
    case rest =>
    obtain ⟨h1, hW1⟩ := hcut
    obtain ⟨w1, rfl⟩ : ∃ w1, w1 = wc := ⟨_, rfl⟩
    have H1 := hide h1
    clear h1
    go_wp2_with (first
      | (go_at_call 34; (with_reducible refine (edit24_any (e := p.edit) (Hp1.out.edit.below hW1) (by have := HL.out; (try simp only [List.length_append, List.length_cons, List.length_nil, num8_len8] at this ⊢); omega)).mono ?_); rintro e2 c2 ⟨u2, rfl, g2, k2⟩; have G2 := hide g2; have K2 := hide k2; clear g2 k2)
      | (at_builtin; refine wpList_own8 rfl _ _ rfl W1.heap.size w1.heap.size _ _ _ (edB p.edit) rfl (H1.out.below K2.out) rfl G2.out (by have := HL.out; (try simp only [List.length_append, List.length_cons, List.length_nil, num8_len8] at this ⊢); omega) (Nat.le_trans hW1.size K2.out.size) ?_))
    intro v2 w2 h2 hB2
    have H2 := hide h2
    have hW2 : Below W1.heap.size W1 w2 := (hW1.trans (K2.out.mono hW1.size)).trans hB2
    clear h2 hB2
    go_wp2
    have HWl := hide hW2
    go_ret2
    refine ⟨HR.out.trans (HWl.out.mono HR.out.size), .inl ⟨Hok.out.mp trivial, _, rfl, ?_⟩⟩
    have := H2.out.mono HR.out.size
    have hpt : ptB { p with kind := 4 } = UInt8.ofNat 4 :: (txtB p.file ++ (edB p.edit)) := rfl
    rw [hpt]
    simpa [List.append_assoc] using this

set_option maxHeartbeats 4000000 in
set_option maxRecDepth 1000000 in
theorem put24_T {S : Nat → Prop} {w : World} {x : Ph} {p : Pt} (hp : PtIn S w x p) (h3 : p.kind ≠ 3) (h4 : p.kind ≠ 4) (hlen : (ptB p).length ≤ lidB) :
    Calls Tryz.prog 10 #[.agg #[.int .u8 p.kind, .string p.file, .string p.text, .int .i64 p.hunk.at_, .slice x.h.oA p.hunk.old.length x.h.oc, .slice x.h.nA p.hunk.new.length x.h.nc, .int .u8 p.edit.kind, .slice x.e.pA p.edit.path.length x.e.pc, .int .i64 p.edit.at_, .int .i64 p.edit.far, .string p.edit.frm, .string p.edit.to, .slice x.e.oA p.edit.old.len x.e.oc, .slice x.e.nA p.edit.new.len x.e.nc]] w fun e1 w' => Below w.heap.size w w' ∧ ((PtOk p ∧ ∃ v, e1 = .returned (.tuple #[v, .int .i64 0]) ∧ Own8 w.heap.size w' v (ptB p)) ∨ (¬ PtOk p ∧ e1 = .returned (.tuple #[.slice none 0 0, .int .i64 4]))) := by
  have hk : p.kind < 256 := hp.kind
  have n3 : ((p.kind : Int) == 3) = false := by rw [beq_eq_false_iff_ne]; omega
  have n4 : ((p.kind : Int) == 4) = false := by rw [beq_eq_false_iff_ne]; omega
  have hpt : ptB p = UInt8.ofNat p.kind :: (txtB p.file ++ txtB p.text) := by unfold ptB; rw [if_neg h3, if_neg h4]
  clear h3 h4
  have HL : Hid (1 + (txtB p.file).length + (txtB p.text).length ≤ lidB) := by
    refine hide ?_
    rw [hpt] at hlen
    
    simp only [List.length_cons, List.length_append, num8_len8] at hlen
    omega
  have hfile : p.file.size ≤ 9223372036854775807 := hp.file
  have htext : p.text.size ≤ 9223372036854775807 := hp.text
  clear hlen
  obtain ⟨W0, hW0⟩ : ∃ W0, W0 = w.alloc (.cells #[.int .u8 p.kind, .string p.file, .string p.text, .int .i64 p.hunk.at_, .slice x.h.oA p.hunk.old.length x.h.oc, .slice x.h.nA p.hunk.new.length x.h.nc, .int .u8 p.edit.kind, .slice x.e.pA p.edit.path.length x.e.pc, .int .i64 p.edit.at_, .int .i64 p.edit.far, .string p.edit.frm, .string p.edit.to, .slice x.e.oA p.edit.old.len x.e.oc, .slice x.e.nA p.edit.new.len x.e.nc] 32) := ⟨_, rfl⟩
  have hb0 : Below w.heap.size w W0 := by rw [hW0]; exact below_alloc _ _
  have hbc : ∀ j v, #[.int .u8 p.kind, .string p.file, .string p.text, .int .i64 p.hunk.at_, .slice x.h.oA p.hunk.old.length x.h.oc, .slice x.h.nA p.hunk.new.length x.h.nc, .int .u8 p.edit.kind, .slice x.e.pA p.edit.path.length x.e.pc, .int .i64 p.edit.at_, .int .i64 p.edit.far, .string p.edit.frm, .string p.edit.to, .slice x.e.oA p.edit.old.len x.e.oc, .slice x.e.nA p.edit.new.len x.e.nc][j]? = some v → ∀ W, Below W0.heap.size W0 W → W.cell? ⟨w.heap.size, j, none⟩ = some v := by
    intro j v hj W hB
    have h0 : W0.cell? ⟨w.heap.size, j, none⟩ = some v := by rw [hW0, Lib.cell_of_heap (heap_alloc_new w _)]; exact hj
    exact (World.cell?_of_block (hB.block _ (block_lt_of_cell h0))).trans h0
  have c0 := hbc 0 _ rfl
  have c1 := hbc 1 _ rfl
  have c2 := hbc 2 _ rfl
  have c3 := hbc 3 _ rfl
  have c4 := hbc 4 _ rfl
  have c5 := hbc 5 _ rfl
  have c6 := hbc 6 _ rfl
  have c7 := hbc 7 _ rfl
  have c8 := hbc 8 _ rfl
  have c9 := hbc 9 _ rfl
  have c10 := hbc 10 _ rfl
  have c11 := hbc 11 _ rfl
  have c12 := hbc 12 _ rfl
  have c13 := hbc 13 _ rfl
  clear hbc
  have Hp := hide (hp.below hb0)
  have Hb0 := hide hb0
  clear hp hb0
  have HW0 := hide hW0
  clear hW0
  go_enter Tryz.func10, Tryz.ntmps10
  go_upto_region 1 with fail
  change Code.wp _ _ _ _ (w.alloc (.cells #[.int .u8 p.kind, .string p.file, .string p.text, .int .i64 p.hunk.at_, .slice x.h.oA p.hunk.old.length x.h.oc, .slice x.h.nA p.hunk.new.length x.h.nc, .int .u8 p.edit.kind, .slice x.e.pA p.edit.path.length x.e.pc, .int .i64 p.edit.at_, .int .i64 p.edit.far, .string p.edit.frm, .string p.edit.to, .slice x.e.oA p.edit.old.len x.e.oc, .slice x.e.nA p.edit.new.len x.e.nc] 32))
  rw [← HW0.out]
  clear HW0
  have hr0 : Below W0.heap.size W0 W0 := Below.refl _ _
  have HR19 : Hid (Calls Tryz.prog 30 #[.agg #[.int .u8 p.kind, .string p.file, .string p.text, .int .i64 p.hunk.at_, .slice x.h.oA p.hunk.old.length x.h.oc, .slice x.h.nA p.hunk.new.length x.h.nc, .int .u8 p.edit.kind, .slice x.e.pA p.edit.path.length x.e.pc, .int .i64 p.edit.at_, .int .i64 p.edit.far, .string p.edit.frm, .string p.edit.to, .slice x.e.oA p.edit.old.len x.e.oc, .slice x.e.nA p.edit.new.len x.e.nc]] W0 fun e1 w' => RetB (PtOk p) e1 ∧ Below W0.heap.size W0 w') := hide (by have h := patRight19_any (p := p) Hp.out; exact h)
  go_wp2_with (go_at_call 30; (with_reducible refine HR19.out.mono ?_); rintro e1 W1 ⟨⟨_ | _, rfl, hb⟩, hR⟩ <;> (have Hok := hide hb; clear hb))
  · have HR := hide hR
    clear hR
    go_ret2
    exact ⟨Hb0.out.trans (HR.out.mono Hb0.out.size), .inr ⟨fun h => absurd (Hok.out.mpr h) (by decide), rfl⟩⟩
  · clear hr0
    replace c0 := fun (W : World) (h : Below W1.heap.size W1 W) => c0 W (hR.trans (h.mono hR.size))
    replace c1 := fun (W : World) (h : Below W1.heap.size W1 W) => c1 W (hR.trans (h.mono hR.size))
    replace c2 := fun (W : World) (h : Below W1.heap.size W1 W) => c2 W (hR.trans (h.mono hR.size))
    replace c3 := fun (W : World) (h : Below W1.heap.size W1 W) => c3 W (hR.trans (h.mono hR.size))
    replace c4 := fun (W : World) (h : Below W1.heap.size W1 W) => c4 W (hR.trans (h.mono hR.size))
    replace c5 := fun (W : World) (h : Below W1.heap.size W1 W) => c5 W (hR.trans (h.mono hR.size))
    replace c6 := fun (W : World) (h : Below W1.heap.size W1 W) => c6 W (hR.trans (h.mono hR.size))
    replace c7 := fun (W : World) (h : Below W1.heap.size W1 W) => c7 W (hR.trans (h.mono hR.size))
    replace c8 := fun (W : World) (h : Below W1.heap.size W1 W) => c8 W (hR.trans (h.mono hR.size))
    replace c9 := fun (W : World) (h : Below W1.heap.size W1 W) => c9 W (hR.trans (h.mono hR.size))
    replace c10 := fun (W : World) (h : Below W1.heap.size W1 W) => c10 W (hR.trans (h.mono hR.size))
    replace c11 := fun (W : World) (h : Below W1.heap.size W1 W) => c11 W (hR.trans (h.mono hR.size))
    replace c12 := fun (W : World) (h : Below W1.heap.size W1 W) => c12 W (hR.trans (h.mono hR.size))
    replace c13 := fun (W : World) (h : Below W1.heap.size W1 W) => c13 W (hR.trans (h.mono hR.size))
    have Hp1 := hide (Hp.out.below hR)
    have HR := hide (Hb0.out.trans (hR.mono Hb0.out.size))
    clear hR Hp
    go_cut [4] (fun v wx => Own8 W1.heap.size wx v ([UInt8.ofNat p.kind] ++ txtB p.file) ∧ Below W1.heap.size W1 wx)
    case first =>
      have hd1 : Below W1.heap.size W1 W1.drew := blw_drewN (Below.refl _ _) 1
      refine wp_region_held_drew (S := Below W1.heap.size W1) (by kernel_rfl) hd1 (fun hHeld => ?_)
      generalize W1.drew = wD at hHeld ⊢
      refine tk (v := ?_) 0 hHeld ?_ ?_
      rotate_left
      · intro w' hSw
        first | (go_simp; done) | (go_simp; with_reducible rfl)
      try simp only [List.set_cons_zero, List.set_cons_succ]
      refine tk (v := ?_) 1 hHeld ?_ ?_
      rotate_left
      · intro w' hSw
        first | (go_simp; done) | (go_simp; with_reducible rfl)
      try simp only [List.set_cons_zero, List.set_cons_succ]
      refine tk (v := ?_) 3 hHeld ?_ ?_
      rotate_left
      · intro w' hSw
        first | (go_simp; done) | (go_simp; with_reducible rfl)
      try simp only [List.set_cons_zero, List.set_cons_succ]
      refine tk (v := ?_) 4 hHeld ?_ ?_
      rotate_left
      · intro w' hSw
        first | (go_simp; done) | (go_simp; with_reducible rfl)
      try simp only [List.set_cons_zero, List.set_cons_succ]
      refine wpAnyH_ready (rs := [2, 5]) (by kernel_rfl) (by simp) ?_
      refine AllReadyH.cons rfl (fun K hK => ?_) (AllReadyH.cons rfl (fun K hK => ?_) AllReadyH.nil)
      · go_simp
        have hA1 : Below W1.heap.size W1 (wD.alloc (.cells #[.int .u8 p.kind] 5)) := blw_up hHeld (below_alloc _ _)
        refine hK.out _ _ hA1 (fun _ => ?_)
        clear hK K
        try simp only [Act.put, List.getElem_toArray, List.getElem_cons_zero, List.getElem_cons_succ, List.setIfInBounds_toArray, List.set_cons_zero, List.set_cons_succ]
        refine wpAnyH_ready (rs := [5]) (by kernel_rfl) (by simp) ?_
        refine AllReadyH.cons rfl (fun K hK => ?_) AllReadyH.nil
        go_simp
        go_wp2_with (go_at_call 31; (with_reducible refine (text24_any hfile (by have := HL.out; (try simp only [List.length_append, List.length_cons, List.length_nil, num8_len8] at this ⊢); omega)).mono ?_); rintro e2 w2 ⟨v2, rfl, h2, hB2⟩)
        have hA2 := hA1.trans (hB2.mono hA1.size)
        refine hK.out _ _ hA2 (fun _ => ?_)
        clear hK K
        try simp only [Act.put, List.getElem_toArray, List.getElem_cons_zero, List.getElem_cons_succ, List.setIfInBounds_toArray, List.set_cons_zero, List.set_cons_succ]
        refine wpAnyH_ready (rs := [6]) (by kernel_rfl) (by simp) ?_
        refine AllReadyH.cons rfl (fun K hK => ?_) AllReadyH.nil
        refine step_own8 rfl _ _ rfl W1.heap.size _ _ _ [UInt8.ofNat p.kind] (txtB p.file) rfl ((Own8.lit wD (u8_of8 _ hk)).mono hHeld.size |>.below hB2) rfl h2 (by have := HL.out; (try simp only [List.length_append, List.length_cons, List.length_nil, num8_len8] at this ⊢); omega) hA2.size ?_
        intro v3 w3 h3 hB3
        have hA3 := hA2.trans hB3
        refine hK.out _ _ hA3 (fun _ => ?_)
        clear hK K
        try simp only [Act.put, List.getElem_toArray, List.getElem_cons_zero, List.getElem_cons_succ, List.setIfInBounds_toArray, List.set_cons_zero, List.set_cons_succ]
        refine tk (v := ?_) 7 hA3 ?_ ?_
        rotate_left
        · intro w' hSw
          first | (go_simp; done) | (go_simp; with_reducible rfl)
        try simp only [List.set_cons_zero, List.set_cons_succ]
        refine wpAnyH_done (by kernel_rfl) ?_ _
        have H3 := hide h3
        have HA3 := hide hA3
        try simp only [Act.put, List.getElem_toArray, List.getElem_cons_zero, List.getElem_cons_succ, List.setIfInBounds_toArray, List.set_cons_zero, List.set_cons_succ]
        go_wp2_with fail
        go_meet
        exact ⟨H3.out, HA3.out⟩
      · go_simp
        go_wp2_with (go_at_call 31; (with_reducible refine (text24_any hfile (by have := HL.out; (try simp only [List.length_append, List.length_cons, List.length_nil, num8_len8] at this ⊢); omega)).mono ?_); rintro e2 w2 ⟨v2, rfl, h2, hB2⟩)
        have hA1 := hHeld.trans (hB2.mono hHeld.size)
        refine hK.out _ _ hA1 (fun _ => ?_)
        clear hK K
        try simp only [Act.put, List.getElem_toArray, List.getElem_cons_zero, List.getElem_cons_succ, List.setIfInBounds_toArray, List.set_cons_zero, List.set_cons_succ]
        refine wpAnyH_ready (rs := [2]) (by kernel_rfl) (by simp) ?_
        refine AllReadyH.cons rfl (fun K hK => ?_) AllReadyH.nil
        go_simp
        have hA2 : Below W1.heap.size W1 (w2.alloc (.cells #[.int .u8 p.kind] 5)) := blw_up hA1 (below_alloc _ _)
        refine hK.out _ _ hA2 (fun _ => ?_)
        clear hK K
        try simp only [Act.put, List.getElem_toArray, List.getElem_cons_zero, List.getElem_cons_succ, List.setIfInBounds_toArray, List.set_cons_zero, List.set_cons_succ]
        refine wpAnyH_ready (rs := [6]) (by kernel_rfl) (by simp) ?_
        refine AllReadyH.cons rfl (fun K hK => ?_) AllReadyH.nil
        refine step_own8 rfl _ _ rfl W1.heap.size _ _ _ [UInt8.ofNat p.kind] (txtB p.file) rfl ((Own8.lit w2 (u8_of8 _ hk)).mono hA1.size) rfl (h2.below (below_alloc _ _)) (by have := HL.out; (try simp only [List.length_append, List.length_cons, List.length_nil, num8_len8] at this ⊢); omega) hA2.size ?_
        intro v3 w3 h3 hB3
        have hA3 := hA2.trans hB3
        refine hK.out _ _ hA3 (fun _ => ?_)
        clear hK K
        try simp only [Act.put, List.getElem_toArray, List.getElem_cons_zero, List.getElem_cons_succ, List.setIfInBounds_toArray, List.set_cons_zero, List.set_cons_succ]
        refine tk (v := ?_) 7 hA3 ?_ ?_
        rotate_left
        · intro w' hSw
          first | (go_simp; done) | (go_simp; with_reducible rfl)
        try simp only [List.set_cons_zero, List.set_cons_succ]
        refine wpAnyH_done (by kernel_rfl) ?_ _
        have H3 := hide h3
        have HA3 := hide hA3
        try simp only [Act.put, List.getElem_toArray, List.getElem_cons_zero, List.getElem_cons_succ, List.setIfInBounds_toArray, List.set_cons_zero, List.set_cons_succ]
        go_wp2_with fail
        go_meet
        exact ⟨H3.out, HA3.out⟩
    case rest =>
    obtain ⟨h1, hW1⟩ := hcut
    obtain ⟨w1, rfl⟩ : ∃ w1, w1 = wc := ⟨_, rfl⟩
    have H1 := hide h1
    clear h1
    go_wp2_with (first
      | (go_at_call 31; (with_reducible refine (text24_any htext (by have := HL.out; (try simp only [List.length_append, List.length_cons, List.length_nil, num8_len8] at this ⊢); omega)).mono ?_); rintro e2 c2 ⟨u2, rfl, g2, k2⟩; have G2 := hide g2; have K2 := hide k2; clear g2 k2)
      | (at_builtin; refine wpList_own8 rfl _ _ rfl W1.heap.size w1.heap.size _ _ _ (txtB p.text) rfl (H1.out.below K2.out) rfl G2.out (by have := HL.out; (try simp only [List.length_append, List.length_cons, List.length_nil, num8_len8] at this ⊢); omega) (Nat.le_trans hW1.size K2.out.size) ?_))
    intro v2 w2 h2 hB2
    have H2 := hide h2
    have hW2 : Below W1.heap.size W1 w2 := (hW1.trans (K2.out.mono hW1.size)).trans hB2
    clear h2 hB2
    go_wp2
    have HWl := hide hW2
    go_ret2
    refine ⟨HR.out.trans (HWl.out.mono HR.out.size), .inl ⟨Hok.out.mp trivial, _, rfl, ?_⟩⟩
    have := H2.out.mono HR.out.size
    rw [hpt]
    
    simpa [List.append_assoc] using this

theorem put24_any {S : Nat → Prop} {w : World} {x : Ph} {p : Pt} (hp : PtIn S w x p) (hlen : (ptB p).length ≤ lidB) :
    Calls Tryz.prog 10 #[.agg #[.int .u8 p.kind, .string p.file, .string p.text, .int .i64 p.hunk.at_, .slice x.h.oA p.hunk.old.length x.h.oc, .slice x.h.nA p.hunk.new.length x.h.nc, .int .u8 p.edit.kind, .slice x.e.pA p.edit.path.length x.e.pc, .int .i64 p.edit.at_, .int .i64 p.edit.far, .string p.edit.frm, .string p.edit.to, .slice x.e.oA p.edit.old.len x.e.oc, .slice x.e.nA p.edit.new.len x.e.nc]] w fun e1 w' => Below w.heap.size w w' ∧ ((PtOk p ∧ ∃ v, e1 = .returned (.tuple #[v, .int .i64 0]) ∧ Own8 w.heap.size w' v (ptB p)) ∨ (¬ PtOk p ∧ e1 = .returned (.tuple #[.slice none 0 0, .int .i64 4]))) := by
  obtain ⟨kd, file, text, hunk, edit⟩ := p
  by_cases h3 : kd = 3
  · subst h3; exact put24_3 (p := ⟨3, file, text, hunk, edit⟩) hp hlen
  by_cases h4 : kd = 4
  · subst h4; exact put24_4 (p := ⟨4, file, text, hunk, edit⟩) hp hlen
  exact put24_T hp h3 h4 hlen

end Go.Proofs.YtfhfkbdaglegpaaGreatDoor
