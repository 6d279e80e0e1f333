/- Rows that were lent are as they were (kit.KeptTexts, kit.KeptInts). Printed by gen_kept.py. -/
import Derived.Deep.RegionHeld
import Derived.BigQuiet
import Derived.Test.YtjjaojnglnpgaaaGreatDoorLLentB
import Derived.Test.YtjjaojnglnpgaaaGreatDoorLBase

set_option linter.unusedVariables false
set_option linter.unusedSimpArgs false

namespace Go.Proofs.YtjjaojnglnpgaaaGreatDoor
open Go.RowKit

set_option maxHeartbeats 4000000 in
set_option maxRecDepth 100000 in
theorem keptTexts_any {S S' : Nat → Prop} {A A' : Option Addr} {c c' : Nat} {l : List ByteArray} {w : World} (ho : LentStrs S w A c l) (hl : StrsIn S' w A' l) :
    Calls Tryz.prog 56 #[.slice A l.length c, .slice A' l.length c'] w fun e w' => e = .returned (.bool true) ∧ Below w.heap.size w w' := by
  have Ho := hide ho
  have Hl := hide hl
  have hcap : l.length + 12 ≤ c ∧ c ≤ 9223372036854775807 := by obtain ⟨_, _, _, _, _, h1, h2, _⟩ := ho.1; exact ⟨h1, h2⟩
  obtain ⟨g, rfl⟩ : ∃ g, A = some ⟨g, 0, none⟩ := by obtain ⟨g, _, e, _⟩ := ho.1; exact ⟨g, e⟩
  have hd : ((l.length : Int) != (l.length : Int)) = false := by simp
  clear ho hl
  go_enter Tryz.func56, Tryz.ntmps56
  go_wp2_with fail
  go_loopw [6] (fun i wr => ∃ q : Nat, q ≤ l.length + 12 ∧ i = .int .i64 q ∧ Hid (Below w.heap.size w wr)) (fun i _ => l.length + 12 - (intOf i).toNat)
  case atStart => exact ⟨0, by omega, rfl, hide (Below.refl _ _)⟩
  case round =>
    obtain ⟨q, hq, rfl, HB⟩ := hrel
    by_cases hlt : q < l.length + 12
    · obtain ⟨g', e1, hc1⟩ := (Ho.out.below HB.out).1.at_ (j := q) (by simp [marksT_len]; omega)
      injection e1 with e1
      injection e1 with e1
      subst e1
      have hgb := block_lt_of_cell hc1
      by_cases hin : q < l.length
      · obtain ⟨b, o, rfl, hc2⟩ := (Hl.out.below HB.out).1.at_ (j := q) (by simpa using hin)
        simp only [List.getElem_map] at hc1 hc2
        rw [List.getElem_append_left hin] at hc1
        generalize l[q] = s at hc1 hc2
        have hbb := block_lt_of_cell hc2
        have g1 : decide ((q : Int) < (l.length : Int)) = true := by simp; omega
        have g2 : decide ((l.length : Int) ≤ (q : Int)) = false := by simp; omega
        have g3 : decide (q < l.length) = true := by simp; omega
        have g4 : decide (l.length ≤ q) = false := by simp; omega
        go_wp2_with fail
        have hd1 : Below wr.heap.size wr wr.drew := blw_drewN (Below.refl _ _) 1
        refine wp_region_held_drew (S := Below wr.heap.size wr) (by kernel_rfl) hd1 (fun hHeld => ?_)
        generalize wr.drew = wD at hHeld ⊢
        refine tk (v := ?_) 0 hHeld ?_ ?_
        rotate_left
        · intro w' hSw
          first | (go_simp; done) | (go_simp; with_reducible rfl)
        try simp only [List.set_cons_zero, List.set_cons_succ]
        refine tk (v := ?_) 1 hHeld ?_ ?_
        rotate_left
        · intro w' hSw
          first | (go_simp; done) | (go_simp; with_reducible rfl)
        try simp only [List.set_cons_zero, List.set_cons_succ]
        refine tk (v := ?_) 2 hHeld ?_ ?_
        rotate_left
        · intro w' hSw
          first | (go_simp; done) | (go_simp; with_reducible rfl)
        try simp only [List.set_cons_zero, List.set_cons_succ]
        refine tk (v := ?_) 3 hHeld ?_ ?_
        rotate_left
        · intro w' hSw
          first | (go_simp; done) | (go_simp; with_reducible rfl)
        try simp only [List.set_cons_zero, List.set_cons_succ]
        refine tk (v := ?_) 4 hHeld ?_ ?_
        rotate_left
        · intro w' hSw
          first | (go_simp; done) | (go_simp; with_reducible rfl)
        try simp only [List.set_cons_zero, List.set_cons_succ]
        refine tk (v := ?_) 5 hHeld ?_ ?_
        rotate_left
        · intro w' hSw
          first | (go_simp; done) | (go_simp; with_reducible rfl)
        try simp only [List.set_cons_zero, List.set_cons_succ]
        refine tk (v := ?_) 6 hHeld ?_ ?_
        rotate_left
        · intro w' hSw
          first | (go_simp; done) | (go_simp; with_reducible rfl)
        try simp only [List.set_cons_zero, List.set_cons_succ]
        refine tk (v := ?_) 7 hHeld ?_ ?_
        rotate_left
        · intro w' hSw
          first | (go_simp; done) | (go_simp; with_reducible rfl)
        try simp only [List.set_cons_zero, List.set_cons_succ]
        refine tk (v := ?_) 8 hHeld ?_ ?_
        rotate_left
        · intro w' hSw
          have hc1' := (hSw.cell (p := ⟨g, _, none⟩) hgb).trans hc1
          first | (go_simp; done) | (go_simp; with_reducible rfl)
        try simp only [List.set_cons_zero, List.set_cons_succ]
        refine tk (v := ?_) 9 hHeld ?_ ?_
        rotate_left
        · intro w' hSw
          first | (go_simp; done) | (go_simp; with_reducible rfl)
        try simp only [List.set_cons_zero, List.set_cons_succ]
        refine tk (v := ?_) 10 hHeld ?_ ?_
        rotate_left
        · intro w' hSw
          first | (go_simp; done) | (go_simp; with_reducible rfl)
        try simp only [List.set_cons_zero, List.set_cons_succ]
        refine tk (v := ?_) 11 hHeld ?_ ?_
        rotate_left
        · intro w' hSw
          first | (go_simp; done) | (go_simp; with_reducible rfl)
        try simp only [List.set_cons_zero, List.set_cons_succ]
        refine tk (v := ?_) 12 hHeld ?_ ?_
        rotate_left
        · intro w' hSw
          have hc2' := (hSw.cell (p := ⟨b, _, none⟩) hbb).trans hc2
          first | (go_simp; done) | (go_simp; with_reducible rfl)
        try simp only [List.set_cons_zero, List.set_cons_succ]
        refine tk (v := ?_) 13 hHeld ?_ ?_
        rotate_left
        · intro w' hSw
          first | (go_simp; done) | (go_simp; with_reducible rfl)
        try simp only [List.set_cons_zero, List.set_cons_succ]
        refine tk (v := ?_) 14 hHeld ?_ ?_
        rotate_left
        · intro w' hSw
          first | (go_simp; done) | (go_simp; with_reducible rfl)
        try simp only [List.set_cons_zero, List.set_cons_succ]
        refine tk (v := ?_) 15 hHeld ?_ ?_
        rotate_left
        · intro w' hSw
          first | (go_simp; done) | (go_simp; with_reducible rfl)
        try simp only [List.set_cons_zero, List.set_cons_succ]
        refine tk (v := ?_) 16 hHeld ?_ ?_
        rotate_left
        · intro w' hSw
          first | (go_simp; done) | (go_simp; with_reducible rfl)
        try simp only [List.set_cons_zero, List.set_cons_succ]
        refine tk (v := ?_) 17 hHeld ?_ ?_
        rotate_left
        · intro w' hSw
          first | (go_simp; done) | (go_simp; with_reducible rfl)
        try simp only [List.set_cons_zero, List.set_cons_succ]
        refine tk (v := ?_) 18 hHeld ?_ ?_
        rotate_left
        · intro w' hSw
          first | (go_simp; done) | (go_simp; with_reducible rfl)
        try simp only [List.set_cons_zero, List.set_cons_succ]
        refine tk (v := ?_) 19 hHeld ?_ ?_
        rotate_left
        · intro w' hSw
          first | (go_simp; done) | (go_simp; with_reducible rfl)
        try simp only [List.set_cons_zero, List.set_cons_succ]
        refine tk (v := ?_) 20 hHeld ?_ ?_
        rotate_left
        · intro w' hSw
          first | (go_simp; done) | (go_simp; with_reducible rfl)
        try simp only [List.set_cons_zero, List.set_cons_succ]
        refine tk (v := ?_) 21 hHeld ?_ ?_
        rotate_left
        · intro w' hSw
          first | (go_simp; done) | (go_simp; with_reducible rfl)
        try simp only [List.set_cons_zero, List.set_cons_succ]
        refine tn 22 hHeld ?_
        try simp only [List.set_cons_zero, List.set_cons_succ]
        refine tn 23 hHeld ?_
        try simp only [List.set_cons_zero, List.set_cons_succ]
        refine tn 24 hHeld ?_
        try simp only [List.set_cons_zero, List.set_cons_succ]
        refine tn 25 hHeld ?_
        try simp only [List.set_cons_zero, List.set_cons_succ]
        refine tn 26 hHeld ?_
        try simp only [List.set_cons_zero, List.set_cons_succ]
        refine tn 27 hHeld ?_
        try simp only [List.set_cons_zero, List.set_cons_succ]
        refine tn 28 hHeld ?_
        try simp only [List.set_cons_zero, List.set_cons_succ]
        refine tn 29 hHeld ?_
        try simp only [List.set_cons_zero, List.set_cons_succ]
        refine tn 30 hHeld ?_
        try simp only [List.set_cons_zero, List.set_cons_succ]
        refine tn 31 hHeld ?_
        try simp only [List.set_cons_zero, List.set_cons_succ]
        refine tn 32 hHeld ?_
        try simp only [List.set_cons_zero, List.set_cons_succ]
        refine tk (v := ?_) 33 hHeld ?_ ?_
        rotate_left
        · intro w' hSw
          first | (go_simp; done) | (go_simp; with_reducible rfl)
        try simp only [List.set_cons_zero, List.set_cons_succ]
        refine tk (v := ?_) 34 hHeld ?_ ?_
        rotate_left
        · intro w' hSw
          first | (go_simp; done) | (go_simp; with_reducible rfl)
        try simp only [List.set_cons_zero, List.set_cons_succ]
        have HB4 : Hid (Below w.heap.size w _) := hide (blw_up HB.out hHeld)
        refine wpAnyH_done (by kernel_rfl) ?_ _
        try simp only [Act.put, List.getElem_toArray, List.getElem_cons_zero, List.getElem_cons_succ, List.setIfInBounds_toArray, List.set_cons_zero, List.set_cons_succ]
        go_wp2_with fail
        go_roundw
        case rel => exact ⟨q + 1, by omega, by go_num, HB4⟩
        case measure => simp [intOf]; omega
      · simp only [List.getElem_map] at hc1
        rw [List.getElem_append_right (by omega)] at hc1
        have g1 : decide ((q : Int) < (l.length : Int)) = false := by simp; omega
        have g2 : decide ((l.length : Int) ≤ (q : Int)) = true := by simp; omega
        have g3 : decide (q < l.length) = false := by simp; omega
        have g4 : decide (l.length ≤ q) = true := by simp; omega
        have hr12 : (0 : Int) ≤ (q : Int) - (l.length : Int) ∧ (q : Int) - (l.length : Int) < 12 := by omega
        have hw64 : IntKind.i64.wrap ((q : Int) - (l.length : Int)) = (q : Int) - (l.length : Int) := by rw [IntKind.wrap_i64]; omega
        have hmk : marksT[q - l.length]'(by rw [marksT_len]; omega) = markT ((q : Int) - (l.length : Int)).toNat := by
          have h9 : ((q : Int) - (l.length : Int)).toNat = q - l.length := by omega
          rw [h9]; simp [marksT]
        rw [hmk] at hc1
        go_wp2_with fail
        have hd1 : Below wr.heap.size wr wr.drew := blw_drewN (Below.refl _ _) 1
        refine wp_region_held_drew (S := Below wr.heap.size wr) (by kernel_rfl) hd1 (fun hHeld => ?_)
        generalize wr.drew = wD at hHeld ⊢
        refine tk (v := ?_) 0 hHeld ?_ ?_
        rotate_left
        · intro w' hSw
          first | (go_simp; done) | (go_simp; with_reducible rfl)
        try simp only [List.set_cons_zero, List.set_cons_succ]
        refine tk (v := ?_) 1 hHeld ?_ ?_
        rotate_left
        · intro w' hSw
          first | (go_simp; done) | (go_simp; with_reducible rfl)
        try simp only [List.set_cons_zero, List.set_cons_succ]
        refine tk (v := ?_) 2 hHeld ?_ ?_
        rotate_left
        · intro w' hSw
          first | (go_simp; done) | (go_simp; with_reducible rfl)
        try simp only [List.set_cons_zero, List.set_cons_succ]
        refine tk (v := ?_) 3 hHeld ?_ ?_
        rotate_left
        · intro w' hSw
          first | (go_simp; done) | (go_simp; with_reducible rfl)
        try simp only [List.set_cons_zero, List.set_cons_succ]
        refine tk (v := ?_) 4 hHeld ?_ ?_
        rotate_left
        · intro w' hSw
          first | (go_simp; done) | (go_simp; with_reducible rfl)
        try simp only [List.set_cons_zero, List.set_cons_succ]
        refine tn 5 hHeld ?_
        try simp only [List.set_cons_zero, List.set_cons_succ]
        refine tn 6 hHeld ?_
        try simp only [List.set_cons_zero, List.set_cons_succ]
        refine tn 7 hHeld ?_
        try simp only [List.set_cons_zero, List.set_cons_succ]
        refine tn 8 hHeld ?_
        try simp only [List.set_cons_zero, List.set_cons_succ]
        refine tn 9 hHeld ?_
        try simp only [List.set_cons_zero, List.set_cons_succ]
        refine tn 10 hHeld ?_
        try simp only [List.set_cons_zero, List.set_cons_succ]
        refine tn 11 hHeld ?_
        try simp only [List.set_cons_zero, List.set_cons_succ]
        refine tn 12 hHeld ?_
        try simp only [List.set_cons_zero, List.set_cons_succ]
        refine tn 13 hHeld ?_
        try simp only [List.set_cons_zero, List.set_cons_succ]
        refine tn 14 hHeld ?_
        try simp only [List.set_cons_zero, List.set_cons_succ]
        refine tk (v := ?_) 15 hHeld ?_ ?_
        rotate_left
        · intro w' hSw
          first | (go_simp; done) | (go_simp; with_reducible rfl)
        try simp only [List.set_cons_zero, List.set_cons_succ]
        refine tk (v := ?_) 16 hHeld ?_ ?_
        rotate_left
        · intro w' hSw
          first | (go_simp; done) | (go_simp; with_reducible rfl)
        try simp only [List.set_cons_zero, List.set_cons_succ]
        refine tk (v := ?_) 17 hHeld ?_ ?_
        rotate_left
        · intro w' hSw
          first | (go_simp; done) | (go_simp; with_reducible rfl)
        try simp only [List.set_cons_zero, List.set_cons_succ]
        refine tk (v := ?_) 18 hHeld ?_ ?_
        rotate_left
        · intro w' hSw
          first | (go_simp; done) | (go_simp; with_reducible rfl)
        try simp only [List.set_cons_zero, List.set_cons_succ]
        refine tk (v := ?_) 19 hHeld ?_ ?_
        rotate_left
        · intro w' hSw
          first | (go_simp; done) | (go_simp; with_reducible rfl)
        try simp only [List.set_cons_zero, List.set_cons_succ]
        refine tk (v := ?_) 20 hHeld ?_ ?_
        rotate_left
        · intro w' hSw
          first | (go_simp; done) | (go_simp; with_reducible rfl)
        try simp only [List.set_cons_zero, List.set_cons_succ]
        refine tk (v := ?_) 21 hHeld ?_ ?_
        rotate_left
        · intro w' hSw
          first | (go_simp; done) | (go_simp; with_reducible rfl)
        try simp only [List.set_cons_zero, List.set_cons_succ]
        refine tk (v := ?_) 22 hHeld ?_ ?_
        rotate_left
        · intro w' hSw
          first | (go_simp; done) | (go_simp; with_reducible rfl)
        try simp only [List.set_cons_zero, List.set_cons_succ]
        refine tk (v := ?_) 23 hHeld ?_ ?_
        rotate_left
        · intro w' hSw
          first | (go_simp; done) | (go_simp; with_reducible rfl)
        try simp only [List.set_cons_zero, List.set_cons_succ]
        refine tk (v := ?_) 24 hHeld ?_ ?_
        rotate_left
        · intro w' hSw
          first | (go_simp; done) | (go_simp; with_reducible rfl)
        try simp only [List.set_cons_zero, List.set_cons_succ]
        refine tk (v := ?_) 25 hHeld ?_ ?_
        rotate_left
        · intro w' hSw
          have hc1' := (hSw.cell (p := ⟨g, _, none⟩) hgb).trans hc1
          first | (go_simp; done) | (go_simp; with_reducible rfl)
        try simp only [List.set_cons_zero, List.set_cons_succ]
        refine tk (v := ?_) 26 hHeld ?_ ?_
        rotate_left
        · intro w' hSw
          first | (go_simp; done) | (go_simp; with_reducible rfl)
        try simp only [List.set_cons_zero, List.set_cons_succ]
        refine tk (v := ?_) 27 hHeld ?_ ?_
        rotate_left
        · intro w' hSw
          first | (go_simp; done) | (go_simp; with_reducible rfl)
        try simp only [List.set_cons_zero, List.set_cons_succ]
        refine tk (v := ?_) 28 hHeld ?_ ?_
        rotate_left
        · intro w' hSw
          first | (go_simp; done) | (go_simp; with_reducible rfl)
        try simp only [List.set_cons_zero, List.set_cons_succ]
        refine tk (v := ?_) 29 hHeld ?_ ?_
        rotate_left
        · intro w' hSw
          first | (go_simp; done) | (go_simp; with_reducible rfl)
        try simp only [List.set_cons_zero, List.set_cons_succ]
        refine wpAnyH_ready (rs := [30]) (by kernel_rfl) (by simp) ?_
        refine AllReadyH.cons rfl (fun K hK => ?_) AllReadyH.nil
        go_simp
        go_wp2_with (go_at_call 127; (with_reducible refine (markText_any _ hr12 _).mono ?_); rintro e1 w1 ⟨rfl, hB1⟩)
        have hH2 := hHeld.trans (hB1.mono hHeld.size)
        refine hK.out _ _ hH2 (fun _ => ?_)
        clear hK K
        try simp only [Act.put, List.getElem_toArray, List.getElem_cons_zero, List.getElem_cons_succ, List.setIfInBounds_toArray, List.set_cons_zero, List.set_cons_succ]
        refine tk (v := ?_) 31 hH2 ?_ ?_
        rotate_left
        · intro w' hSw
          first | (go_simp; done) | (go_simp; with_reducible rfl)
        try simp only [List.set_cons_zero, List.set_cons_succ]
        refine tk (v := ?_) 32 hH2 ?_ ?_
        rotate_left
        · intro w' hSw
          first | (go_simp; done) | (go_simp; with_reducible rfl)
        try simp only [List.set_cons_zero, List.set_cons_succ]
        refine tk (v := ?_) 33 hH2 ?_ ?_
        rotate_left
        · intro w' hSw
          first | (go_simp; done) | (go_simp; with_reducible rfl)
        try simp only [List.set_cons_zero, List.set_cons_succ]
        refine tk (v := ?_) 34 hH2 ?_ ?_
        rotate_left
        · intro w' hSw
          first | (go_simp; done) | (go_simp; with_reducible rfl)
        try simp only [List.set_cons_zero, List.set_cons_succ]
        have HB4 : Hid (Below w.heap.size w _) := hide (blw_up HB.out hH2)
        refine wpAnyH_done (by kernel_rfl) ?_ _
        try simp only [Act.put, List.getElem_toArray, List.getElem_cons_zero, List.getElem_cons_succ, List.setIfInBounds_toArray, List.set_cons_zero, List.set_cons_succ]
        go_wp2_with fail
        go_roundw
        case rel => exact ⟨q + 1, by omega, by go_num, HB4⟩
        case measure => simp [intOf]; omega
    · go_wp2_with fail
      go_ret
      exact ⟨rfl, HB.out⟩

set_option maxHeartbeats 4000000 in
set_option maxRecDepth 100000 in
theorem keptInts_any {S S' : Nat → Prop} {A A' : Option Addr} {c c' : Nat} {l : List Int} {w : World} (ho : LentInts S w A c l) (hl : IntsIn S' w A' l) :
    Calls Tryz.prog 189 #[.slice A l.length c, .slice A' l.length c'] w fun e w' => e = .returned (.bool true) ∧ Below w.heap.size w w' := by
  have Ho := hide ho
  have Hl := hide hl
  have hcap : l.length + 12 ≤ c ∧ c ≤ 9223372036854775807 := by obtain ⟨_, _, _, _, _, h1, h2, _⟩ := ho.1; exact ⟨h1, h2⟩
  obtain ⟨g, rfl⟩ : ∃ g, A = some ⟨g, 0, none⟩ := by obtain ⟨g, _, e, _⟩ := ho.1; exact ⟨g, e⟩
  have hd : ((l.length : Int) != (l.length : Int)) = false := by simp
  clear ho hl
  go_enter Tryz.func189, Tryz.ntmps189
  go_wp2_with fail
  go_loopw [6] (fun i wr => ∃ q : Nat, q ≤ l.length + 12 ∧ i = .int .i64 q ∧ Hid (Below w.heap.size w wr)) (fun i _ => l.length + 12 - (intOf i).toNat)
  case atStart => exact ⟨0, by omega, rfl, hide (Below.refl _ _)⟩
  case round =>
    obtain ⟨q, hq, rfl, HB⟩ := hrel
    by_cases hlt : q < l.length + 12
    · obtain ⟨g', e1, hc1⟩ := (Ho.out.below HB.out).1.at_ (j := q) (by simp [marksN_len]; omega)
      injection e1 with e1
      injection e1 with e1
      subst e1
      have hgb := block_lt_of_cell hc1
      by_cases hin : q < l.length
      · obtain ⟨b, o, rfl, hc2⟩ := (Hl.out.below HB.out).1.at_ (j := q) (by simpa using hin)
        simp only [List.getElem_map] at hc1 hc2
        rw [List.getElem_append_left hin] at hc1
        generalize l[q] = s at hc1 hc2
        have hbb := block_lt_of_cell hc2
        have g1 : decide ((q : Int) < (l.length : Int)) = true := by simp; omega
        have g2 : decide ((l.length : Int) ≤ (q : Int)) = false := by simp; omega
        have g3 : decide (q < l.length) = true := by simp; omega
        have g4 : decide (l.length ≤ q) = false := by simp; omega
        go_wp2_with fail
        have hd1 : Below wr.heap.size wr wr.drew := blw_drewN (Below.refl _ _) 1
        refine wp_region_held_drew (S := Below wr.heap.size wr) (by kernel_rfl) hd1 (fun hHeld => ?_)
        generalize wr.drew = wD at hHeld ⊢
        refine tk (v := ?_) 0 hHeld ?_ ?_
        rotate_left
        · intro w' hSw
          first | (go_simp; done) | (go_simp; with_reducible rfl)
        try simp only [List.set_cons_zero, List.set_cons_succ]
        refine tk (v := ?_) 1 hHeld ?_ ?_
        rotate_left
        · intro w' hSw
          first | (go_simp; done) | (go_simp; with_reducible rfl)
        try simp only [List.set_cons_zero, List.set_cons_succ]
        refine tk (v := ?_) 2 hHeld ?_ ?_
        rotate_left
        · intro w' hSw
          first | (go_simp; done) | (go_simp; with_reducible rfl)
        try simp only [List.set_cons_zero, List.set_cons_succ]
        refine tk (v := ?_) 3 hHeld ?_ ?_
        rotate_left
        · intro w' hSw
          first | (go_simp; done) | (go_simp; with_reducible rfl)
        try simp only [List.set_cons_zero, List.set_cons_succ]
        refine tk (v := ?_) 4 hHeld ?_ ?_
        rotate_left
        · intro w' hSw
          first | (go_simp; done) | (go_simp; with_reducible rfl)
        try simp only [List.set_cons_zero, List.set_cons_succ]
        refine tk (v := ?_) 5 hHeld ?_ ?_
        rotate_left
        · intro w' hSw
          first | (go_simp; done) | (go_simp; with_reducible rfl)
        try simp only [List.set_cons_zero, List.set_cons_succ]
        refine tk (v := ?_) 6 hHeld ?_ ?_
        rotate_left
        · intro w' hSw
          first | (go_simp; done) | (go_simp; with_reducible rfl)
        try simp only [List.set_cons_zero, List.set_cons_succ]
        refine tk (v := ?_) 7 hHeld ?_ ?_
        rotate_left
        · intro w' hSw
          first | (go_simp; done) | (go_simp; with_reducible rfl)
        try simp only [List.set_cons_zero, List.set_cons_succ]
        refine tk (v := ?_) 8 hHeld ?_ ?_
        rotate_left
        · intro w' hSw
          have hc1' := (hSw.cell (p := ⟨g, _, none⟩) hgb).trans hc1
          first | (go_simp; done) | (go_simp; with_reducible rfl)
        try simp only [List.set_cons_zero, List.set_cons_succ]
        refine tk (v := ?_) 9 hHeld ?_ ?_
        rotate_left
        · intro w' hSw
          first | (go_simp; done) | (go_simp; with_reducible rfl)
        try simp only [List.set_cons_zero, List.set_cons_succ]
        refine tk (v := ?_) 10 hHeld ?_ ?_
        rotate_left
        · intro w' hSw
          first | (go_simp; done) | (go_simp; with_reducible rfl)
        try simp only [List.set_cons_zero, List.set_cons_succ]
        refine tk (v := ?_) 11 hHeld ?_ ?_
        rotate_left
        · intro w' hSw
          first | (go_simp; done) | (go_simp; with_reducible rfl)
        try simp only [List.set_cons_zero, List.set_cons_succ]
        refine tk (v := ?_) 12 hHeld ?_ ?_
        rotate_left
        · intro w' hSw
          have hc2' := (hSw.cell (p := ⟨b, _, none⟩) hbb).trans hc2
          first | (go_simp; done) | (go_simp; with_reducible rfl)
        try simp only [List.set_cons_zero, List.set_cons_succ]
        refine tk (v := ?_) 13 hHeld ?_ ?_
        rotate_left
        · intro w' hSw
          first | (go_simp; done) | (go_simp; with_reducible rfl)
        try simp only [List.set_cons_zero, List.set_cons_succ]
        refine tk (v := ?_) 14 hHeld ?_ ?_
        rotate_left
        · intro w' hSw
          first | (go_simp; done) | (go_simp; with_reducible rfl)
        try simp only [List.set_cons_zero, List.set_cons_succ]
        refine tk (v := ?_) 15 hHeld ?_ ?_
        rotate_left
        · intro w' hSw
          first | (go_simp; done) | (go_simp; with_reducible rfl)
        try simp only [List.set_cons_zero, List.set_cons_succ]
        refine tk (v := ?_) 16 hHeld ?_ ?_
        rotate_left
        · intro w' hSw
          first | (go_simp; done) | (go_simp; with_reducible rfl)
        try simp only [List.set_cons_zero, List.set_cons_succ]
        refine tk (v := ?_) 17 hHeld ?_ ?_
        rotate_left
        · intro w' hSw
          first | (go_simp; done) | (go_simp; with_reducible rfl)
        try simp only [List.set_cons_zero, List.set_cons_succ]
        refine tk (v := ?_) 18 hHeld ?_ ?_
        rotate_left
        · intro w' hSw
          first | (go_simp; done) | (go_simp; with_reducible rfl)
        try simp only [List.set_cons_zero, List.set_cons_succ]
        refine tk (v := ?_) 19 hHeld ?_ ?_
        rotate_left
        · intro w' hSw
          first | (go_simp; done) | (go_simp; with_reducible rfl)
        try simp only [List.set_cons_zero, List.set_cons_succ]
        refine tk (v := ?_) 20 hHeld ?_ ?_
        rotate_left
        · intro w' hSw
          first | (go_simp; done) | (go_simp; with_reducible rfl)
        try simp only [List.set_cons_zero, List.set_cons_succ]
        refine tk (v := ?_) 21 hHeld ?_ ?_
        rotate_left
        · intro w' hSw
          first | (go_simp; done) | (go_simp; with_reducible rfl)
        try simp only [List.set_cons_zero, List.set_cons_succ]
        refine tn 22 hHeld ?_
        try simp only [List.set_cons_zero, List.set_cons_succ]
        refine tn 23 hHeld ?_
        try simp only [List.set_cons_zero, List.set_cons_succ]
        refine tn 24 hHeld ?_
        try simp only [List.set_cons_zero, List.set_cons_succ]
        refine tn 25 hHeld ?_
        try simp only [List.set_cons_zero, List.set_cons_succ]
        refine tn 26 hHeld ?_
        try simp only [List.set_cons_zero, List.set_cons_succ]
        refine tn 27 hHeld ?_
        try simp only [List.set_cons_zero, List.set_cons_succ]
        refine tn 28 hHeld ?_
        try simp only [List.set_cons_zero, List.set_cons_succ]
        refine tn 29 hHeld ?_
        try simp only [List.set_cons_zero, List.set_cons_succ]
        refine tn 30 hHeld ?_
        try simp only [List.set_cons_zero, List.set_cons_succ]
        refine tn 31 hHeld ?_
        try simp only [List.set_cons_zero, List.set_cons_succ]
        refine tn 32 hHeld ?_
        try simp only [List.set_cons_zero, List.set_cons_succ]
        refine tk (v := ?_) 33 hHeld ?_ ?_
        rotate_left
        · intro w' hSw
          first | (go_simp; done) | (go_simp; with_reducible rfl)
        try simp only [List.set_cons_zero, List.set_cons_succ]
        refine tk (v := ?_) 34 hHeld ?_ ?_
        rotate_left
        · intro w' hSw
          first | (go_simp; done) | (go_simp; with_reducible rfl)
        try simp only [List.set_cons_zero, List.set_cons_succ]
        have HB4 : Hid (Below w.heap.size w _) := hide (blw_up HB.out hHeld)
        refine wpAnyH_done (by kernel_rfl) ?_ _
        try simp only [Act.put, List.getElem_toArray, List.getElem_cons_zero, List.getElem_cons_succ, List.setIfInBounds_toArray, List.set_cons_zero, List.set_cons_succ]
        go_wp2_with fail
        go_roundw
        case rel => exact ⟨q + 1, by omega, by go_num, HB4⟩
        case measure => simp [intOf]; omega
      · simp only [List.getElem_map] at hc1
        rw [List.getElem_append_right (by omega)] at hc1
        have g1 : decide ((q : Int) < (l.length : Int)) = false := by simp; omega
        have g2 : decide ((l.length : Int) ≤ (q : Int)) = true := by simp; omega
        have g3 : decide (q < l.length) = false := by simp; omega
        have g4 : decide (l.length ≤ q) = true := by simp; omega
        have hr12 : (0 : Int) ≤ (q : Int) - (l.length : Int) ∧ (q : Int) - (l.length : Int) < 12 := by omega
        have hw64 : IntKind.i64.wrap ((q : Int) - (l.length : Int)) = (q : Int) - (l.length : Int) := by rw [IntKind.wrap_i64]; omega
        have hmk : marksN[q - l.length]'(by rw [marksN_len]; omega) = 8000024 + ((q : Int) - (l.length : Int)) := by
          have h9 : ((q : Int) - (l.length : Int)).toNat = q - l.length := by omega
          simp [marksN, markN]; omega
        rw [hmk] at hc1
        go_wp2_with fail
        have hd1 : Below wr.heap.size wr wr.drew := blw_drewN (Below.refl _ _) 1
        refine wp_region_held_drew (S := Below wr.heap.size wr) (by kernel_rfl) hd1 (fun hHeld => ?_)
        generalize wr.drew = wD at hHeld ⊢
        refine tk (v := ?_) 0 hHeld ?_ ?_
        rotate_left
        · intro w' hSw
          first | (go_simp; done) | (go_simp; with_reducible rfl)
        try simp only [List.set_cons_zero, List.set_cons_succ]
        refine tk (v := ?_) 1 hHeld ?_ ?_
        rotate_left
        · intro w' hSw
          first | (go_simp; done) | (go_simp; with_reducible rfl)
        try simp only [List.set_cons_zero, List.set_cons_succ]
        refine tk (v := ?_) 2 hHeld ?_ ?_
        rotate_left
        · intro w' hSw
          first | (go_simp; done) | (go_simp; with_reducible rfl)
        try simp only [List.set_cons_zero, List.set_cons_succ]
        refine tk (v := ?_) 3 hHeld ?_ ?_
        rotate_left
        · intro w' hSw
          first | (go_simp; done) | (go_simp; with_reducible rfl)
        try simp only [List.set_cons_zero, List.set_cons_succ]
        refine tk (v := ?_) 4 hHeld ?_ ?_
        rotate_left
        · intro w' hSw
          first | (go_simp; done) | (go_simp; with_reducible rfl)
        try simp only [List.set_cons_zero, List.set_cons_succ]
        refine tn 5 hHeld ?_
        try simp only [List.set_cons_zero, List.set_cons_succ]
        refine tn 6 hHeld ?_
        try simp only [List.set_cons_zero, List.set_cons_succ]
        refine tn 7 hHeld ?_
        try simp only [List.set_cons_zero, List.set_cons_succ]
        refine tn 8 hHeld ?_
        try simp only [List.set_cons_zero, List.set_cons_succ]
        refine tn 9 hHeld ?_
        try simp only [List.set_cons_zero, List.set_cons_succ]
        refine tn 10 hHeld ?_
        try simp only [List.set_cons_zero, List.set_cons_succ]
        refine tn 11 hHeld ?_
        try simp only [List.set_cons_zero, List.set_cons_succ]
        refine tn 12 hHeld ?_
        try simp only [List.set_cons_zero, List.set_cons_succ]
        refine tn 13 hHeld ?_
        try simp only [List.set_cons_zero, List.set_cons_succ]
        refine tn 14 hHeld ?_
        try simp only [List.set_cons_zero, List.set_cons_succ]
        refine tk (v := ?_) 15 hHeld ?_ ?_
        rotate_left
        · intro w' hSw
          first | (go_simp; done) | (go_simp; with_reducible rfl)
        try simp only [List.set_cons_zero, List.set_cons_succ]
        refine tk (v := ?_) 16 hHeld ?_ ?_
        rotate_left
        · intro w' hSw
          first | (go_simp; done) | (go_simp; with_reducible rfl)
        try simp only [List.set_cons_zero, List.set_cons_succ]
        refine tk (v := ?_) 17 hHeld ?_ ?_
        rotate_left
        · intro w' hSw
          first | (go_simp; done) | (go_simp; with_reducible rfl)
        try simp only [List.set_cons_zero, List.set_cons_succ]
        refine tk (v := ?_) 18 hHeld ?_ ?_
        rotate_left
        · intro w' hSw
          first | (go_simp; done) | (go_simp; with_reducible rfl)
        try simp only [List.set_cons_zero, List.set_cons_succ]
        refine tk (v := ?_) 19 hHeld ?_ ?_
        rotate_left
        · intro w' hSw
          first | (go_simp; done) | (go_simp; with_reducible rfl)
        try simp only [List.set_cons_zero, List.set_cons_succ]
        refine tk (v := ?_) 20 hHeld ?_ ?_
        rotate_left
        · intro w' hSw
          first | (go_simp; done) | (go_simp; with_reducible rfl)
        try simp only [List.set_cons_zero, List.set_cons_succ]
        refine tk (v := ?_) 21 hHeld ?_ ?_
        rotate_left
        · intro w' hSw
          first | (go_simp; done) | (go_simp; with_reducible rfl)
        try simp only [List.set_cons_zero, List.set_cons_succ]
        refine tk (v := ?_) 22 hHeld ?_ ?_
        rotate_left
        · intro w' hSw
          first | (go_simp; done) | (go_simp; with_reducible rfl)
        try simp only [List.set_cons_zero, List.set_cons_succ]
        refine tk (v := ?_) 23 hHeld ?_ ?_
        rotate_left
        · intro w' hSw
          first | (go_simp; done) | (go_simp; with_reducible rfl)
        try simp only [List.set_cons_zero, List.set_cons_succ]
        refine tk (v := ?_) 24 hHeld ?_ ?_
        rotate_left
        · intro w' hSw
          first | (go_simp; done) | (go_simp; with_reducible rfl)
        try simp only [List.set_cons_zero, List.set_cons_succ]
        refine tk (v := ?_) 25 hHeld ?_ ?_
        rotate_left
        · intro w' hSw
          have hc1' := (hSw.cell (p := ⟨g, _, none⟩) hgb).trans hc1
          first | (go_simp; done) | (go_simp; with_reducible rfl)
        try simp only [List.set_cons_zero, List.set_cons_succ]
        refine tk (v := ?_) 26 hHeld ?_ ?_
        rotate_left
        · intro w' hSw
          first | (go_simp; done) | (go_simp; with_reducible rfl)
        try simp only [List.set_cons_zero, List.set_cons_succ]
        refine tk (v := ?_) 27 hHeld ?_ ?_
        rotate_left
        · intro w' hSw
          first | (go_simp; done) | (go_simp; with_reducible rfl)
        try simp only [List.set_cons_zero, List.set_cons_succ]
        refine tk (v := ?_) 28 hHeld ?_ ?_
        rotate_left
        · intro w' hSw
          first | (go_simp; done) | (go_simp; with_reducible rfl)
        try simp only [List.set_cons_zero, List.set_cons_succ]
        refine tk (v := ?_) 29 hHeld ?_ ?_
        rotate_left
        · intro w' hSw
          first | (go_simp; done) | (go_simp; with_reducible rfl)
        try simp only [List.set_cons_zero, List.set_cons_succ]
        refine wpAnyH_ready (rs := [30]) (by kernel_rfl) (by simp) ?_
        refine AllReadyH.cons rfl (fun K hK => ?_) AllReadyH.nil
        go_simp
        go_wp2_with (go_at_call 144; (with_reducible refine (markN_at hr12 _).mono ?_); rintro e1 w1 ⟨rfl, hB1⟩)
        have hH2 := hHeld.trans (hB1.mono hHeld.size)
        refine hK.out _ _ hH2 (fun _ => ?_)
        clear hK K
        try simp only [Act.put, List.getElem_toArray, List.getElem_cons_zero, List.getElem_cons_succ, List.setIfInBounds_toArray, List.set_cons_zero, List.set_cons_succ]
        refine tk (v := ?_) 31 hH2 ?_ ?_
        rotate_left
        · intro w' hSw
          first | (go_simp; done) | (go_simp; with_reducible rfl)
        try simp only [List.set_cons_zero, List.set_cons_succ]
        refine tk (v := ?_) 32 hH2 ?_ ?_
        rotate_left
        · intro w' hSw
          first | (go_simp; done) | (go_simp; with_reducible rfl)
        try simp only [List.set_cons_zero, List.set_cons_succ]
        refine tk (v := ?_) 33 hH2 ?_ ?_
        rotate_left
        · intro w' hSw
          first | (go_simp; done) | (go_simp; with_reducible rfl)
        try simp only [List.set_cons_zero, List.set_cons_succ]
        refine tk (v := ?_) 34 hH2 ?_ ?_
        rotate_left
        · intro w' hSw
          first | (go_simp; done) | (go_simp; with_reducible rfl)
        try simp only [List.set_cons_zero, List.set_cons_succ]
        have HB4 : Hid (Below w.heap.size w _) := hide (blw_up HB.out hH2)
        refine wpAnyH_done (by kernel_rfl) ?_ _
        try simp only [Act.put, List.getElem_toArray, List.getElem_cons_zero, List.getElem_cons_succ, List.setIfInBounds_toArray, List.set_cons_zero, List.set_cons_succ]
        go_wp2_with fail
        go_roundw
        case rel => exact ⟨q + 1, by omega, by go_num, HB4⟩
        case measure => simp [intOf]; omega
    · go_wp2_with fail
      go_ret
      exact ⟨rfl, HB.out⟩

end Go.Proofs.YtjjaojnglnpgaaaGreatDoor
