/- No rows lie apart. Printed by gen_apart.py. -/
import Derived.Test.YtfhfkbdaglegpaaGreatDoorTFlat

set_option linter.unusedVariables false
set_option linter.unusedSimpArgs false

namespace Go.Proofs.YtfhfkbdaglegpaaGreatDoor
open Go.RowKit

theorem InfoRowLimbs : (Tryz.prog.info? 168).map (fun i => (i.zero, i.size, i.bytes)) = some (some (.slice none 0 0), 1, 24) := by kernel_rfl
set_option maxHeartbeats 4000000 in
set_option maxRecDepth 1000000 in
theorem flatLimbs_nil {w : World} : Calls Tryz.prog 67 #[.slice none 0 0] w fun e w' => e = .returned (.bool true) ∧ Below w.heap.size w w' := by
  obtain ⟨i1, hi1, hz11, hz12, hz13⟩ := info_parts InfoRowLimbs
  go_enter Tryz.func67, Tryz.ntmps67
  go_wp2_with fail
  go_loopg [3] 0 (fun g k wx => k = .int .i64 0 ∧ Hid (Below w.heap.size w wx))
  case atStart => exact ⟨rfl, hide (Below.refl _ _)⟩
  case round =>
  obtain ⟨rfl, HB⟩ := hrel
  go_wp2_with (at_make; refine wpList_make_full _ rfl _ _ 72 rfl 0 168 i1 (.slice none 0 0) 1 Tryz.underlying72 hi1 hz11 hz12 _ _ _ _ 0 rfl rfl rfl rfl (by rw [hz13]; omega) (by unfold maxLen; omega) (Nat.zero_le _) ?_)
  intro w1 hown hgrow
  have HB1 := hide (HB.out.trans ((Below.refl wr.heap.size wr).grown hgrow (Nat.le_refl _) (by simp) |>.mono HB.out.size))
  clear hown hgrow HB
  generalize wr.heap.size = GB
  go_wp2_with fail
  go_loopg [6] 0 (fun g k wx => k = .int .i64 0 ∧ Hid (Below w.heap.size w wx))
  case atStart => exact ⟨rfl, HB1⟩
  case round =>
  clear HB1
  obtain ⟨rfl, HB6⟩ := hrel
  go_wp2_with fail
  go_loopg [9] 0 (fun g k wx => k = .int .i64 0 ∧ Hid (Below w.heap.size w wx))
  case atStart => exact ⟨rfl, HB6⟩
  case round =>
  clear HB6
  obtain ⟨rfl, HB9⟩ := hrel
  go_wp2_with fail
  go_loopg [11] 0 (fun g k wx => k = .int .i64 0 ∧ Hid (Below w.heap.size w wx))
  case atStart => exact ⟨rfl, HB9⟩
  case round =>
  clear HB9
  obtain ⟨rfl, HB11⟩ := hrel
  go_wp2_with fail
  go_loopg [14] 0 (fun g k wx => k = .int .i64 0 ∧ Hid (Below w.heap.size w wx))
  case atStart => exact ⟨rfl, HB11⟩
  case round =>
  clear HB11
  obtain ⟨rfl, HB14⟩ := hrel
  go_wp2_with fail
  go_ret
  exact ⟨rfl, HB14.out⟩

theorem InfoRowWords : (Tryz.prog.info? 170).map (fun i => (i.zero, i.size, i.bytes)) = some (some (.slice none 0 0), 1, 24) := by kernel_rfl
set_option maxHeartbeats 4000000 in
set_option maxRecDepth 1000000 in
theorem flatWords_nil {w : World} : Calls Tryz.prog 68 #[.slice none 0 0] w fun e w' => e = .returned (.bool true) ∧ Below w.heap.size w w' := by
  obtain ⟨i1, hi1, hz11, hz12, hz13⟩ := info_parts InfoRowWords
  go_enter Tryz.func68, Tryz.ntmps68
  go_wp2_with fail
  go_loopg [3] 0 (fun g k wx => k = .int .i64 0 ∧ Hid (Below w.heap.size w wx))
  case atStart => exact ⟨rfl, hide (Below.refl _ _)⟩
  case round =>
  obtain ⟨rfl, HB⟩ := hrel
  go_wp2_with (at_make; refine wpList_make_full _ rfl _ _ 73 rfl 0 170 i1 (.slice none 0 0) 1 Tryz.underlying73 hi1 hz11 hz12 _ _ _ _ 0 rfl rfl rfl rfl (by rw [hz13]; omega) (by unfold maxLen; omega) (Nat.zero_le _) ?_)
  intro w1 hown hgrow
  have HB1 := hide (HB.out.trans ((Below.refl wr.heap.size wr).grown hgrow (Nat.le_refl _) (by simp) |>.mono HB.out.size))
  clear hown hgrow HB
  generalize wr.heap.size = GB
  go_wp2_with fail
  go_loopg [6] 0 (fun g k wx => k = .int .i64 0 ∧ Hid (Below w.heap.size w wx))
  case atStart => exact ⟨rfl, HB1⟩
  case round =>
  clear HB1
  obtain ⟨rfl, HB6⟩ := hrel
  go_wp2_with fail
  go_loopg [9] 0 (fun g k wx => k = .int .i64 0 ∧ Hid (Below w.heap.size w wx))
  case atStart => exact ⟨rfl, HB6⟩
  case round =>
  clear HB6
  obtain ⟨rfl, HB9⟩ := hrel
  go_wp2_with fail
  go_loopg [11] 0 (fun g k wx => k = .int .i64 0 ∧ Hid (Below w.heap.size w wx))
  case atStart => exact ⟨rfl, HB9⟩
  case round =>
  clear HB9
  obtain ⟨rfl, HB11⟩ := hrel
  go_wp2_with fail
  go_loopg [14] 0 (fun g k wx => k = .int .i64 0 ∧ Hid (Below w.heap.size w wx))
  case atStart => exact ⟨rfl, HB11⟩
  case round =>
  clear HB11
  obtain ⟨rfl, HB14⟩ := hrel
  go_wp2_with fail
  go_ret
  exact ⟨rfl, HB14.out⟩

theorem InfoRowInts : (Tryz.prog.info? 27).map (fun i => (i.zero, i.size, i.bytes)) = some (some (.slice none 0 0), 1, 24) := by kernel_rfl
set_option maxHeartbeats 4000000 in
set_option maxRecDepth 1000000 in
theorem flatInts_nil {w : World} : Calls Tryz.prog 69 #[.slice none 0 0] w fun e w' => e = .returned (.bool true) ∧ Below w.heap.size w w' := by
  obtain ⟨i1, hi1, hz11, hz12, hz13⟩ := info_parts InfoRowInts
  go_enter Tryz.func69, Tryz.ntmps69
  go_wp2_with fail
  go_loopg [3] 0 (fun g k wx => k = .int .i64 0 ∧ Hid (Below w.heap.size w wx))
  case atStart => exact ⟨rfl, hide (Below.refl _ _)⟩
  case round =>
  obtain ⟨rfl, HB⟩ := hrel
  go_wp2_with (at_make; refine wpList_make_full _ rfl _ _ 74 rfl 0 27 i1 (.slice none 0 0) 1 Tryz.underlying74 hi1 hz11 hz12 _ _ _ _ 0 rfl rfl rfl rfl (by rw [hz13]; omega) (by unfold maxLen; omega) (Nat.zero_le _) ?_)
  intro w1 hown hgrow
  have HB1 := hide (HB.out.trans ((Below.refl wr.heap.size wr).grown hgrow (Nat.le_refl _) (by simp) |>.mono HB.out.size))
  clear hown hgrow HB
  generalize wr.heap.size = GB
  go_wp2_with fail
  go_loopg [6] 0 (fun g k wx => k = .int .i64 0 ∧ Hid (Below w.heap.size w wx))
  case atStart => exact ⟨rfl, HB1⟩
  case round =>
  clear HB1
  obtain ⟨rfl, HB6⟩ := hrel
  go_wp2_with fail
  go_loopg [9] 0 (fun g k wx => k = .int .i64 0 ∧ Hid (Below w.heap.size w wx))
  case atStart => exact ⟨rfl, HB6⟩
  case round =>
  clear HB6
  obtain ⟨rfl, HB9⟩ := hrel
  go_wp2_with fail
  go_loopg [11] 0 (fun g k wx => k = .int .i64 0 ∧ Hid (Below w.heap.size w wx))
  case atStart => exact ⟨rfl, HB9⟩
  case round =>
  clear HB9
  obtain ⟨rfl, HB11⟩ := hrel
  go_wp2_with fail
  go_loopg [14] 0 (fun g k wx => k = .int .i64 0 ∧ Hid (Below w.heap.size w wx))
  case atStart => exact ⟨rfl, HB11⟩
  case round =>
  clear HB11
  obtain ⟨rfl, HB14⟩ := hrel
  go_wp2_with fail
  go_ret
  exact ⟨rfl, HB14.out⟩

theorem InfoRowLongs : (Tryz.prog.info? 171).map (fun i => (i.zero, i.size, i.bytes)) = some (some (.slice none 0 0), 1, 24) := by kernel_rfl
set_option maxHeartbeats 4000000 in
set_option maxRecDepth 1000000 in
theorem flatLongs_nil {w : World} : Calls Tryz.prog 70 #[.slice none 0 0] w fun e w' => e = .returned (.bool true) ∧ Below w.heap.size w w' := by
  obtain ⟨i1, hi1, hz11, hz12, hz13⟩ := info_parts InfoRowLongs
  go_enter Tryz.func70, Tryz.ntmps70
  go_wp2_with fail
  go_loopg [3] 0 (fun g k wx => k = .int .i64 0 ∧ Hid (Below w.heap.size w wx))
  case atStart => exact ⟨rfl, hide (Below.refl _ _)⟩
  case round =>
  obtain ⟨rfl, HB⟩ := hrel
  go_wp2_with (at_make; refine wpList_make_full _ rfl _ _ 75 rfl 0 171 i1 (.slice none 0 0) 1 Tryz.underlying75 hi1 hz11 hz12 _ _ _ _ 0 rfl rfl rfl rfl (by rw [hz13]; omega) (by unfold maxLen; omega) (Nat.zero_le _) ?_)
  intro w1 hown hgrow
  have HB1 := hide (HB.out.trans ((Below.refl wr.heap.size wr).grown hgrow (Nat.le_refl _) (by simp) |>.mono HB.out.size))
  clear hown hgrow HB
  generalize wr.heap.size = GB
  go_wp2_with fail
  go_loopg [6] 0 (fun g k wx => k = .int .i64 0 ∧ Hid (Below w.heap.size w wx))
  case atStart => exact ⟨rfl, HB1⟩
  case round =>
  clear HB1
  obtain ⟨rfl, HB6⟩ := hrel
  go_wp2_with fail
  go_loopg [9] 0 (fun g k wx => k = .int .i64 0 ∧ Hid (Below w.heap.size w wx))
  case atStart => exact ⟨rfl, HB6⟩
  case round =>
  clear HB6
  obtain ⟨rfl, HB9⟩ := hrel
  go_wp2_with fail
  go_loopg [11] 0 (fun g k wx => k = .int .i64 0 ∧ Hid (Below w.heap.size w wx))
  case atStart => exact ⟨rfl, HB9⟩
  case round =>
  clear HB9
  obtain ⟨rfl, HB11⟩ := hrel
  go_wp2_with fail
  go_loopg [14] 0 (fun g k wx => k = .int .i64 0 ∧ Hid (Below w.heap.size w wx))
  case atStart => exact ⟨rfl, HB11⟩
  case round =>
  clear HB11
  obtain ⟨rfl, HB14⟩ := hrel
  go_wp2_with fail
  go_ret
  exact ⟨rfl, HB14.out⟩

theorem InfoRowTexts : (Tryz.prog.info? 23).map (fun i => (i.zero, i.size, i.bytes)) = some (some (.slice none 0 0), 1, 24) := by kernel_rfl
set_option maxHeartbeats 4000000 in
set_option maxRecDepth 1000000 in
theorem flatTexts_nil {w : World} : Calls Tryz.prog 71 #[.slice none 0 0] w fun e w' => e = .returned (.bool true) ∧ Below w.heap.size w w' := by
  obtain ⟨i1, hi1, hz11, hz12, hz13⟩ := info_parts InfoRowTexts
  go_enter Tryz.func71, Tryz.ntmps71
  go_wp2_with fail
  go_loopg [3] 0 (fun g k wx => k = .int .i64 0 ∧ Hid (Below w.heap.size w wx))
  case atStart => exact ⟨rfl, hide (Below.refl _ _)⟩
  case round =>
  obtain ⟨rfl, HB⟩ := hrel
  go_wp2_with (at_make; refine wpList_make_full _ rfl _ _ 76 rfl 0 23 i1 (.slice none 0 0) 1 Tryz.underlying76 hi1 hz11 hz12 _ _ _ _ 0 rfl rfl rfl rfl (by rw [hz13]; omega) (by unfold maxLen; omega) (Nat.zero_le _) ?_)
  intro w1 hown hgrow
  have HB1 := hide (HB.out.trans ((Below.refl wr.heap.size wr).grown hgrow (Nat.le_refl _) (by simp) |>.mono HB.out.size))
  clear hown hgrow HB
  generalize wr.heap.size = GB
  go_wp2_with fail
  go_loopg [6] 0 (fun g k wx => k = .int .i64 0 ∧ Hid (Below w.heap.size w wx))
  case atStart => exact ⟨rfl, HB1⟩
  case round =>
  clear HB1
  obtain ⟨rfl, HB6⟩ := hrel
  go_wp2_with fail
  go_loopg [9] 0 (fun g k wx => k = .int .i64 0 ∧ Hid (Below w.heap.size w wx))
  case atStart => exact ⟨rfl, HB6⟩
  case round =>
  clear HB6
  obtain ⟨rfl, HB9⟩ := hrel
  go_wp2_with fail
  go_loopg [11] 0 (fun g k wx => k = .int .i64 0 ∧ Hid (Below w.heap.size w wx))
  case atStart => exact ⟨rfl, HB9⟩
  case round =>
  clear HB9
  obtain ⟨rfl, HB11⟩ := hrel
  go_wp2_with fail
  go_loopg [14] 0 (fun g k wx => k = .int .i64 0 ∧ Hid (Below w.heap.size w wx))
  case atStart => exact ⟨rfl, HB11⟩
  case round =>
  clear HB11
  obtain ⟨rfl, HB14⟩ := hrel
  go_wp2_with fail
  go_ret
  exact ⟨rfl, HB14.out⟩

theorem InfoRowTruths : (Tryz.prog.info? 172).map (fun i => (i.zero, i.size, i.bytes)) = some (some (.slice none 0 0), 1, 24) := by kernel_rfl
set_option maxHeartbeats 4000000 in
set_option maxRecDepth 1000000 in
theorem flatTruths_nil {w : World} : Calls Tryz.prog 73 #[.slice none 0 0] w fun e w' => e = .returned (.bool true) ∧ Below w.heap.size w w' := by
  obtain ⟨i1, hi1, hz11, hz12, hz13⟩ := info_parts InfoRowTruths
  go_enter Tryz.func73, Tryz.ntmps73
  go_wp2_with fail
  go_loopg [3] 0 (fun g k wx => k = .int .i64 0 ∧ Hid (Below w.heap.size w wx))
  case atStart => exact ⟨rfl, hide (Below.refl _ _)⟩
  case round =>
  obtain ⟨rfl, HB⟩ := hrel
  go_wp2_with (at_make; refine wpList_make_full _ rfl _ _ 77 rfl 0 172 i1 (.slice none 0 0) 1 Tryz.underlying77 hi1 hz11 hz12 _ _ _ _ 0 rfl rfl rfl rfl (by rw [hz13]; omega) (by unfold maxLen; omega) (Nat.zero_le _) ?_)
  intro w1 hown hgrow
  have HB1 := hide (HB.out.trans ((Below.refl wr.heap.size wr).grown hgrow (Nat.le_refl _) (by simp) |>.mono HB.out.size))
  clear hown hgrow HB
  generalize wr.heap.size = GB
  go_wp2_with fail
  go_loopg [6] 0 (fun g k wx => k = .int .i64 0 ∧ Hid (Below w.heap.size w wx))
  case atStart => exact ⟨rfl, HB1⟩
  case round =>
  clear HB1
  obtain ⟨rfl, HB6⟩ := hrel
  go_wp2_with fail
  go_loopg [9] 0 (fun g k wx => k = .int .i64 0 ∧ Hid (Below w.heap.size w wx))
  case atStart => exact ⟨rfl, HB6⟩
  case round =>
  clear HB6
  obtain ⟨rfl, HB9⟩ := hrel
  go_wp2_with fail
  go_loopg [11] 0 (fun g k wx => k = .int .i64 0 ∧ Hid (Below w.heap.size w wx))
  case atStart => exact ⟨rfl, HB9⟩
  case round =>
  clear HB9
  obtain ⟨rfl, HB11⟩ := hrel
  go_wp2_with fail
  go_loopg [14] 0 (fun g k wx => k = .int .i64 0 ∧ Hid (Below w.heap.size w wx))
  case atStart => exact ⟨rfl, HB11⟩
  case round =>
  clear HB11
  obtain ⟨rfl, HB14⟩ := hrel
  go_wp2_with fail
  go_ret
  exact ⟨rfl, HB14.out⟩

theorem InfoRowTokens : (Tryz.prog.info? 173).map (fun i => (i.zero, i.size, i.bytes)) = some (some (.slice none 0 0), 1, 24) := by kernel_rfl
set_option maxHeartbeats 4000000 in
set_option maxRecDepth 1000000 in
theorem flatTokens_nil {w : World} : Calls Tryz.prog 74 #[.slice none 0 0] w fun e w' => e = .returned (.bool true) ∧ Below w.heap.size w w' := by
  obtain ⟨i1, hi1, hz11, hz12, hz13⟩ := info_parts InfoRowTokens
  go_enter Tryz.func74, Tryz.ntmps74
  go_wp2_with fail
  go_loopg [3] 0 (fun g k wx => k = .int .i64 0 ∧ Hid (Below w.heap.size w wx))
  case atStart => exact ⟨rfl, hide (Below.refl _ _)⟩
  case round =>
  obtain ⟨rfl, HB⟩ := hrel
  go_wp2_with (at_make; refine wpList_make_full _ rfl _ _ 78 rfl 0 173 i1 (.slice none 0 0) 1 Tryz.underlying78 hi1 hz11 hz12 _ _ _ _ 0 rfl rfl rfl rfl (by rw [hz13]; omega) (by unfold maxLen; omega) (Nat.zero_le _) ?_)
  intro w1 hown hgrow
  have HB1 := hide (HB.out.trans ((Below.refl wr.heap.size wr).grown hgrow (Nat.le_refl _) (by simp) |>.mono HB.out.size))
  clear hown hgrow HB
  generalize wr.heap.size = GB
  go_wp2_with fail
  go_loopg [6] 0 (fun g k wx => k = .int .i64 0 ∧ Hid (Below w.heap.size w wx))
  case atStart => exact ⟨rfl, HB1⟩
  case round =>
  clear HB1
  obtain ⟨rfl, HB6⟩ := hrel
  go_wp2_with fail
  go_loopg [9] 0 (fun g k wx => k = .int .i64 0 ∧ Hid (Below w.heap.size w wx))
  case atStart => exact ⟨rfl, HB6⟩
  case round =>
  clear HB6
  obtain ⟨rfl, HB9⟩ := hrel
  go_wp2_with fail
  go_loopg [11] 0 (fun g k wx => k = .int .i64 0 ∧ Hid (Below w.heap.size w wx))
  case atStart => exact ⟨rfl, HB9⟩
  case round =>
  clear HB9
  obtain ⟨rfl, HB11⟩ := hrel
  go_wp2_with fail
  go_loopg [14] 0 (fun g k wx => k = .int .i64 0 ∧ Hid (Below w.heap.size w wx))
  case atStart => exact ⟨rfl, HB11⟩
  case round =>
  clear HB11
  obtain ⟨rfl, HB14⟩ := hrel
  go_wp2_with fail
  go_ret
  exact ⟨rfl, HB14.out⟩

end Go.Proofs.YtfhfkbdaglegpaaGreatDoor
