/- No rows lie apart. Printed by gen_bag.py. -/
import Derived.Deep.RegionHeld3
import Derived.Deep.CutBlock
import Derived.Deep.DeepCutAuto
import Derived.BigQuiet
import Derived.Test.YtfhfkbdaglegpaaGreatDoorGFlatG

set_option linter.unusedVariables false
set_option linter.unusedSimpArgs false

namespace Go.Proofs.YtfhfkbdaglegpaaGreatDoor
open Go.RowKit

theorem InfoRowLimbs : (Tryz.prog.info? 168).map (fun i => (i.zero, i.size, i.bytes)) = some (some (.slice none 0 0), 1, 24) := by kernel_rfl
set_option maxHeartbeats 4000000 in
set_option maxRecDepth 1000000 in
theorem flatLimbs_nil {w : World} : Calls Tryz.prog 67 #[.slice none 0 0] w fun e w' => e = .returned (.bool true) ∧ Below w.heap.size w w' := by
  obtain ⟨i1, hi1, hz11, hz12, hz13⟩ := info_parts InfoRowLimbs
  go_enter Tryz.func67, Tryz.ntmps67
  go_wp2_with fail
  go_loopg [3] 0 (fun g k wx => k = .int .i64 0 ∧ Hid (Below w.heap.size w wx))
  case atStart => exact ⟨rfl, hide (Below.refl _ _)⟩
  case round =>
  obtain ⟨rfl, HB⟩ := hrel
  go_wp2_with (at_make; refine wpList_make_full _ rfl _ _ 72 rfl 0 168 i1 (.slice none 0 0) 1 Tryz.underlying72 hi1 hz11 hz12 _ _ _ _ 0 rfl rfl rfl rfl (by rw [hz13]; omega) (by unfold maxLen; omega) (Nat.zero_le _) ?_)
  intro w1 hown hgrow
  have HB1 := hide (HB.out.trans ((Below.refl wr.heap.size wr).grown hgrow (Nat.le_refl _) (by simp) |>.mono HB.out.size))
  clear hown hgrow HB
  generalize wr.heap.size = GB
  go_wp2_with fail
  go_loopg [6] 0 (fun g k wx => k = .int .i64 0 ∧ Hid (Below w.heap.size w wx))
  case atStart => exact ⟨rfl, HB1⟩
  case round =>
  clear HB1
  obtain ⟨rfl, HB6⟩ := hrel
  go_wp2_with fail
  go_loopg [9] 0 (fun g k wx => k = .int .i64 0 ∧ Hid (Below w.heap.size w wx))
  case atStart => exact ⟨rfl, HB6⟩
  case round =>
  clear HB6
  obtain ⟨rfl, HB9⟩ := hrel
  go_wp2_with fail
  go_loopg [11] 0 (fun g k wx => k = .int .i64 0 ∧ Hid (Below w.heap.size w wx))
  case atStart => exact ⟨rfl, HB9⟩
  case round =>
  clear HB9
  obtain ⟨rfl, HB11⟩ := hrel
  go_wp2_with fail
  go_loopg [14] 0 (fun g k wx => k = .int .i64 0 ∧ Hid (Below w.heap.size w wx))
  case atStart => exact ⟨rfl, HB11⟩
  case round =>
  clear HB11
  obtain ⟨rfl, HB14⟩ := hrel
  go_wp2_with fail
  go_ret
  exact ⟨rfl, HB14.out⟩

theorem InfoRowWords : (Tryz.prog.info? 170).map (fun i => (i.zero, i.size, i.bytes)) = some (some (.slice none 0 0), 1, 24) := by kernel_rfl
set_option maxHeartbeats 4000000 in
set_option maxRecDepth 1000000 in
theorem flatWords_nil {w : World} : Calls Tryz.prog 68 #[.slice none 0 0] w fun e w' => e = .returned (.bool true) ∧ Below w.heap.size w w' := by
  obtain ⟨i1, hi1, hz11, hz12, hz13⟩ := info_parts InfoRowWords
  go_enter Tryz.func68, Tryz.ntmps68
  go_wp2_with fail
  go_loopg [3] 0 (fun g k wx => k = .int .i64 0 ∧ Hid (Below w.heap.size w wx))
  case atStart => exact ⟨rfl, hide (Below.refl _ _)⟩
  case round =>
  obtain ⟨rfl, HB⟩ := hrel
  go_wp2_with (at_make; refine wpList_make_full _ rfl _ _ 73 rfl 0 170 i1 (.slice none 0 0) 1 Tryz.underlying73 hi1 hz11 hz12 _ _ _ _ 0 rfl rfl rfl rfl (by rw [hz13]; omega) (by unfold maxLen; omega) (Nat.zero_le _) ?_)
  intro w1 hown hgrow
  have HB1 := hide (HB.out.trans ((Below.refl wr.heap.size wr).grown hgrow (Nat.le_refl _) (by simp) |>.mono HB.out.size))
  clear hown hgrow HB
  generalize wr.heap.size = GB
  go_wp2_with fail
  go_loopg [6] 0 (fun g k wx => k = .int .i64 0 ∧ Hid (Below w.heap.size w wx))
  case atStart => exact ⟨rfl, HB1⟩
  case round =>
  clear HB1
  obtain ⟨rfl, HB6⟩ := hrel
  go_wp2_with fail
  go_loopg [9] 0 (fun g k wx => k = .int .i64 0 ∧ Hid (Below w.heap.size w wx))
  case atStart => exact ⟨rfl, HB6⟩
  case round =>
  clear HB6
  obtain ⟨rfl, HB9⟩ := hrel
  go_wp2_with fail
  go_loopg [11] 0 (fun g k wx => k = .int .i64 0 ∧ Hid (Below w.heap.size w wx))
  case atStart => exact ⟨rfl, HB9⟩
  case round =>
  clear HB9
  obtain ⟨rfl, HB11⟩ := hrel
  go_wp2_with fail
  go_loopg [14] 0 (fun g k wx => k = .int .i64 0 ∧ Hid (Below w.heap.size w wx))
  case atStart => exact ⟨rfl, HB11⟩
  case round =>
  clear HB11
  obtain ⟨rfl, HB14⟩ := hrel
  go_wp2_with fail
  go_ret
  exact ⟨rfl, HB14.out⟩

theorem InfoRowLongs : (Tryz.prog.info? 171).map (fun i => (i.zero, i.size, i.bytes)) = some (some (.slice none 0 0), 1, 24) := by kernel_rfl
set_option maxHeartbeats 4000000 in
set_option maxRecDepth 1000000 in
theorem flatLongs_nil {w : World} : Calls Tryz.prog 70 #[.slice none 0 0] w fun e w' => e = .returned (.bool true) ∧ Below w.heap.size w w' := by
  obtain ⟨i1, hi1, hz11, hz12, hz13⟩ := info_parts InfoRowLongs
  go_enter Tryz.func70, Tryz.ntmps70
  go_wp2_with fail
  go_loopg [3] 0 (fun g k wx => k = .int .i64 0 ∧ Hid (Below w.heap.size w wx))
  case atStart => exact ⟨rfl, hide (Below.refl _ _)⟩
  case round =>
  obtain ⟨rfl, HB⟩ := hrel
  go_wp2_with (at_make; refine wpList_make_full _ rfl _ _ 75 rfl 0 171 i1 (.slice none 0 0) 1 Tryz.underlying75 hi1 hz11 hz12 _ _ _ _ 0 rfl rfl rfl rfl (by rw [hz13]; omega) (by unfold maxLen; omega) (Nat.zero_le _) ?_)
  intro w1 hown hgrow
  have HB1 := hide (HB.out.trans ((Below.refl wr.heap.size wr).grown hgrow (Nat.le_refl _) (by simp) |>.mono HB.out.size))
  clear hown hgrow HB
  generalize wr.heap.size = GB
  go_wp2_with fail
  go_loopg [6] 0 (fun g k wx => k = .int .i64 0 ∧ Hid (Below w.heap.size w wx))
  case atStart => exact ⟨rfl, HB1⟩
  case round =>
  clear HB1
  obtain ⟨rfl, HB6⟩ := hrel
  go_wp2_with fail
  go_loopg [9] 0 (fun g k wx => k = .int .i64 0 ∧ Hid (Below w.heap.size w wx))
  case atStart => exact ⟨rfl, HB6⟩
  case round =>
  clear HB6
  obtain ⟨rfl, HB9⟩ := hrel
  go_wp2_with fail
  go_loopg [11] 0 (fun g k wx => k = .int .i64 0 ∧ Hid (Below w.heap.size w wx))
  case atStart => exact ⟨rfl, HB9⟩
  case round =>
  clear HB9
  obtain ⟨rfl, HB11⟩ := hrel
  go_wp2_with fail
  go_loopg [14] 0 (fun g k wx => k = .int .i64 0 ∧ Hid (Below w.heap.size w wx))
  case atStart => exact ⟨rfl, HB11⟩
  case round =>
  clear HB11
  obtain ⟨rfl, HB14⟩ := hrel
  go_wp2_with fail
  go_ret
  exact ⟨rfl, HB14.out⟩

theorem InfoRowBytes : (Tryz.prog.info? 36).map (fun i => (i.zero, i.size, i.bytes)) = some (some (.slice none 0 0), 1, 24) := by kernel_rfl
set_option maxHeartbeats 4000000 in
set_option maxRecDepth 1000000 in
theorem flatBytes_nil {w : World} : Calls Tryz.prog 72 #[.slice none 0 0] w fun e w' => e = .returned (.bool true) ∧ Below w.heap.size w w' := by
  obtain ⟨i1, hi1, hz11, hz12, hz13⟩ := info_parts InfoRowBytes
  go_enter Tryz.func72, Tryz.ntmps72
  go_wp2_with fail
  go_loopg [3] 0 (fun g k wx => k = .int .i64 0 ∧ Hid (Below w.heap.size w wx))
  case atStart => exact ⟨rfl, hide (Below.refl _ _)⟩
  case round =>
  obtain ⟨rfl, HB⟩ := hrel
  go_wp2_with (at_make; refine wpList_make_full _ rfl _ _ 43 rfl 0 36 i1 (.slice none 0 0) 1 Tryz.underlying43 hi1 hz11 hz12 _ _ _ _ 0 rfl rfl rfl rfl (by rw [hz13]; omega) (by unfold maxLen; omega) (Nat.zero_le _) ?_)
  intro w1 hown hgrow
  have HB1 := hide (HB.out.trans ((Below.refl wr.heap.size wr).grown hgrow (Nat.le_refl _) (by simp) |>.mono HB.out.size))
  clear hown hgrow HB
  generalize wr.heap.size = GB
  go_wp2_with fail
  go_loopg [6] 0 (fun g k wx => k = .int .i64 0 ∧ Hid (Below w.heap.size w wx))
  case atStart => exact ⟨rfl, HB1⟩
  case round =>
  clear HB1
  obtain ⟨rfl, HB6⟩ := hrel
  go_wp2_with fail
  go_loopg [9] 0 (fun g k wx => k = .int .i64 0 ∧ Hid (Below w.heap.size w wx))
  case atStart => exact ⟨rfl, HB6⟩
  case round =>
  clear HB6
  obtain ⟨rfl, HB9⟩ := hrel
  go_wp2_with fail
  go_loopg [11] 0 (fun g k wx => k = .int .i64 0 ∧ Hid (Below w.heap.size w wx))
  case atStart => exact ⟨rfl, HB9⟩
  case round =>
  clear HB9
  obtain ⟨rfl, HB11⟩ := hrel
  go_wp2_with fail
  go_loopg [14] 0 (fun g k wx => k = .int .i64 0 ∧ Hid (Below w.heap.size w wx))
  case atStart => exact ⟨rfl, HB11⟩
  case round =>
  clear HB11
  obtain ⟨rfl, HB14⟩ := hrel
  go_wp2_with fail
  go_ret
  exact ⟨rfl, HB14.out⟩

theorem InfoRowTruths : (Tryz.prog.info? 172).map (fun i => (i.zero, i.size, i.bytes)) = some (some (.slice none 0 0), 1, 24) := by kernel_rfl
set_option maxHeartbeats 4000000 in
set_option maxRecDepth 1000000 in
theorem flatTruths_nil {w : World} : Calls Tryz.prog 73 #[.slice none 0 0] w fun e w' => e = .returned (.bool true) ∧ Below w.heap.size w w' := by
  obtain ⟨i1, hi1, hz11, hz12, hz13⟩ := info_parts InfoRowTruths
  go_enter Tryz.func73, Tryz.ntmps73
  go_wp2_with fail
  go_loopg [3] 0 (fun g k wx => k = .int .i64 0 ∧ Hid (Below w.heap.size w wx))
  case atStart => exact ⟨rfl, hide (Below.refl _ _)⟩
  case round =>
  obtain ⟨rfl, HB⟩ := hrel
  go_wp2_with (at_make; refine wpList_make_full _ rfl _ _ 77 rfl 0 172 i1 (.slice none 0 0) 1 Tryz.underlying77 hi1 hz11 hz12 _ _ _ _ 0 rfl rfl rfl rfl (by rw [hz13]; omega) (by unfold maxLen; omega) (Nat.zero_le _) ?_)
  intro w1 hown hgrow
  have HB1 := hide (HB.out.trans ((Below.refl wr.heap.size wr).grown hgrow (Nat.le_refl _) (by simp) |>.mono HB.out.size))
  clear hown hgrow HB
  generalize wr.heap.size = GB
  go_wp2_with fail
  go_loopg [6] 0 (fun g k wx => k = .int .i64 0 ∧ Hid (Below w.heap.size w wx))
  case atStart => exact ⟨rfl, HB1⟩
  case round =>
  clear HB1
  obtain ⟨rfl, HB6⟩ := hrel
  go_wp2_with fail
  go_loopg [9] 0 (fun g k wx => k = .int .i64 0 ∧ Hid (Below w.heap.size w wx))
  case atStart => exact ⟨rfl, HB6⟩
  case round =>
  clear HB6
  obtain ⟨rfl, HB9⟩ := hrel
  go_wp2_with fail
  go_loopg [11] 0 (fun g k wx => k = .int .i64 0 ∧ Hid (Below w.heap.size w wx))
  case atStart => exact ⟨rfl, HB9⟩
  case round =>
  clear HB9
  obtain ⟨rfl, HB11⟩ := hrel
  go_wp2_with fail
  go_loopg [14] 0 (fun g k wx => k = .int .i64 0 ∧ Hid (Below w.heap.size w wx))
  case atStart => exact ⟨rfl, HB11⟩
  case round =>
  clear HB11
  obtain ⟨rfl, HB14⟩ := hrel
  go_wp2_with fail
  go_ret
  exact ⟨rfl, HB14.out⟩

theorem InfoRowTokens : (Tryz.prog.info? 173).map (fun i => (i.zero, i.size, i.bytes)) = some (some (.slice none 0 0), 1, 24) := by kernel_rfl
set_option maxHeartbeats 4000000 in
set_option maxRecDepth 1000000 in
theorem flatTokens_nil {w : World} : Calls Tryz.prog 74 #[.slice none 0 0] w fun e w' => e = .returned (.bool true) ∧ Below w.heap.size w w' := by
  obtain ⟨i1, hi1, hz11, hz12, hz13⟩ := info_parts InfoRowTokens
  go_enter Tryz.func74, Tryz.ntmps74
  go_wp2_with fail
  go_loopg [3] 0 (fun g k wx => k = .int .i64 0 ∧ Hid (Below w.heap.size w wx))
  case atStart => exact ⟨rfl, hide (Below.refl _ _)⟩
  case round =>
  obtain ⟨rfl, HB⟩ := hrel
  go_wp2_with (at_make; refine wpList_make_full _ rfl _ _ 78 rfl 0 173 i1 (.slice none 0 0) 1 Tryz.underlying78 hi1 hz11 hz12 _ _ _ _ 0 rfl rfl rfl rfl (by rw [hz13]; omega) (by unfold maxLen; omega) (Nat.zero_le _) ?_)
  intro w1 hown hgrow
  have HB1 := hide (HB.out.trans ((Below.refl wr.heap.size wr).grown hgrow (Nat.le_refl _) (by simp) |>.mono HB.out.size))
  clear hown hgrow HB
  generalize wr.heap.size = GB
  go_wp2_with fail
  go_loopg [6] 0 (fun g k wx => k = .int .i64 0 ∧ Hid (Below w.heap.size w wx))
  case atStart => exact ⟨rfl, HB1⟩
  case round =>
  clear HB1
  obtain ⟨rfl, HB6⟩ := hrel
  go_wp2_with fail
  go_loopg [9] 0 (fun g k wx => k = .int .i64 0 ∧ Hid (Below w.heap.size w wx))
  case atStart => exact ⟨rfl, HB6⟩
  case round =>
  clear HB6
  obtain ⟨rfl, HB9⟩ := hrel
  go_wp2_with fail
  go_loopg [11] 0 (fun g k wx => k = .int .i64 0 ∧ Hid (Below w.heap.size w wx))
  case atStart => exact ⟨rfl, HB9⟩
  case round =>
  clear HB9
  obtain ⟨rfl, HB11⟩ := hrel
  go_wp2_with fail
  go_loopg [14] 0 (fun g k wx => k = .int .i64 0 ∧ Hid (Below w.heap.size w wx))
  case atStart => exact ⟨rfl, HB11⟩
  case round =>
  clear HB11
  obtain ⟨rfl, HB14⟩ := hrel
  go_wp2_with fail
  go_ret
  exact ⟨rfl, HB14.out⟩

end Go.Proofs.YtfhfkbdaglegpaaGreatDoor

namespace Go.Proofs.YtfhfkbdaglegpaaGreatDoor
open Go.RowKit

theorem InfoRowSpans : (Tryz.prog.info? 178).map (fun i => (i.zero, i.size, i.bytes)) = some (some (.slice none 0 0), 1, 24) := by kernel_rfl
set_option maxHeartbeats 4000000 in
set_option maxRecDepth 1000000 in
theorem flatSpans_nil {w : World} : Calls Tryz.prog 75 #[.slice none 0 0] w fun e w' => e = .returned (.bool true) ∧ Below w.heap.size w w' := by
  obtain ⟨i1, hi1, hz11, hz12, hz13⟩ := info_parts InfoRowSpans
  go_enter Tryz.func75, Tryz.ntmps75
  go_wp2_with fail
  go_loopg [3] 0 (fun g k wx => k = .int .i64 0 ∧ Hid (Below w.heap.size w wx))
  case atStart => exact ⟨rfl, hide (Below.refl _ _)⟩
  case round =>
  obtain ⟨rfl, HB⟩ := hrel
  go_wp2_with (at_make; refine wpList_make_full _ rfl _ _ 79 rfl 0 178 i1 (.slice none 0 0) 1 Tryz.underlying79 hi1 hz11 hz12 _ _ _ _ 0 rfl rfl rfl rfl (by rw [hz13]; omega) (by unfold maxLen; omega) (Nat.zero_le _) ?_)
  intro w1 hown hgrow
  have HB1 := hide (HB.out.trans ((Below.refl wr.heap.size wr).grown hgrow (Nat.le_refl _) (by simp) |>.mono HB.out.size))
  clear hown hgrow HB
  generalize wr.heap.size = GB
  go_wp2_with fail
  go_loopg [6] 0 (fun g k wx => k = .int .i64 0 ∧ Hid (Below w.heap.size w wx))
  case atStart => exact ⟨rfl, HB1⟩
  case round =>
  clear HB1
  obtain ⟨rfl, HB6⟩ := hrel
  go_wp2_with fail
  go_loopg [9] 0 (fun g k wx => k = .int .i64 0 ∧ Hid (Below w.heap.size w wx))
  case atStart => exact ⟨rfl, HB6⟩
  case round =>
  clear HB6
  obtain ⟨rfl, HB9⟩ := hrel
  go_wp2_with fail
  go_loopg [11] 0 (fun g k wx => k = .int .i64 0 ∧ Hid (Below w.heap.size w wx))
  case atStart => exact ⟨rfl, HB9⟩
  case round =>
  clear HB9
  obtain ⟨rfl, HB11⟩ := hrel
  go_wp2_with fail
  go_loopg [14] 0 (fun g k wx => k = .int .i64 0 ∧ Hid (Below w.heap.size w wx))
  case atStart => exact ⟨rfl, HB11⟩
  case round =>
  clear HB11
  obtain ⟨rfl, HB14⟩ := hrel
  go_wp2_with fail
  go_ret
  exact ⟨rfl, HB14.out⟩

theorem InfoRowFaults : (Tryz.prog.info? 182).map (fun i => (i.zero, i.size, i.bytes)) = some (some (.slice none 0 0), 1, 24) := by kernel_rfl
set_option maxHeartbeats 4000000 in
set_option maxRecDepth 1000000 in
theorem flatFaults_nil {w : World} : Calls Tryz.prog 77 #[.slice none 0 0] w fun e w' => e = .returned (.bool true) ∧ Below w.heap.size w w' := by
  obtain ⟨i1, hi1, hz11, hz12, hz13⟩ := info_parts InfoRowFaults
  go_enter Tryz.func77, Tryz.ntmps77
  go_wp2_with fail
  go_loopg [3] 0 (fun g k wx => k = .int .i64 0 ∧ Hid (Below w.heap.size w wx))
  case atStart => exact ⟨rfl, hide (Below.refl _ _)⟩
  case round =>
  obtain ⟨rfl, HB⟩ := hrel
  go_wp2_with (at_make; refine wpList_make_full _ rfl _ _ 81 rfl 0 182 i1 (.slice none 0 0) 1 Tryz.underlying81 hi1 hz11 hz12 _ _ _ _ 0 rfl rfl rfl rfl (by rw [hz13]; omega) (by unfold maxLen; omega) (Nat.zero_le _) ?_)
  intro w1 hown hgrow
  have HB1 := hide (HB.out.trans ((Below.refl wr.heap.size wr).grown hgrow (Nat.le_refl _) (by simp) |>.mono HB.out.size))
  clear hown hgrow HB
  generalize wr.heap.size = GB
  go_wp2_with fail
  go_loopg [6] 0 (fun g k wx => k = .int .i64 0 ∧ Hid (Below w.heap.size w wx))
  case atStart => exact ⟨rfl, HB1⟩
  case round =>
  clear HB1
  obtain ⟨rfl, HB6⟩ := hrel
  go_wp2_with fail
  go_loopg [9] 0 (fun g k wx => k = .int .i64 0 ∧ Hid (Below w.heap.size w wx))
  case atStart => exact ⟨rfl, HB6⟩
  case round =>
  clear HB6
  obtain ⟨rfl, HB9⟩ := hrel
  go_wp2_with fail
  go_loopg [11] 0 (fun g k wx => k = .int .i64 0 ∧ Hid (Below w.heap.size w wx))
  case atStart => exact ⟨rfl, HB9⟩
  case round =>
  clear HB9
  obtain ⟨rfl, HB11⟩ := hrel
  go_wp2_with fail
  go_loopg [14] 0 (fun g k wx => k = .int .i64 0 ∧ Hid (Below w.heap.size w wx))
  case atStart => exact ⟨rfl, HB11⟩
  case round =>
  clear HB11
  obtain ⟨rfl, HB14⟩ := hrel
  go_wp2_with fail
  go_ret
  exact ⟨rfl, HB14.out⟩

theorem InfoRowMarks : (Tryz.prog.info? 186).map (fun i => (i.zero, i.size, i.bytes)) = some (some (.slice none 0 0), 1, 24) := by kernel_rfl
set_option maxHeartbeats 4000000 in
set_option maxRecDepth 1000000 in
theorem flatMarks_nil {w : World} : Calls Tryz.prog 78 #[.slice none 0 0] w fun e w' => e = .returned (.bool true) ∧ Below w.heap.size w w' := by
  obtain ⟨i1, hi1, hz11, hz12, hz13⟩ := info_parts InfoRowMarks
  go_enter Tryz.func78, Tryz.ntmps78
  go_wp2_with fail
  go_loopg [3] 0 (fun g k wx => k = .int .i64 0 ∧ Hid (Below w.heap.size w wx))
  case atStart => exact ⟨rfl, hide (Below.refl _ _)⟩
  case round =>
  obtain ⟨rfl, HB⟩ := hrel
  go_wp2_with (at_make; refine wpList_make_full _ rfl _ _ 82 rfl 0 186 i1 (.slice none 0 0) 1 Tryz.underlying82 hi1 hz11 hz12 _ _ _ _ 0 rfl rfl rfl rfl (by rw [hz13]; omega) (by unfold maxLen; omega) (Nat.zero_le _) ?_)
  intro w1 hown hgrow
  have HB1 := hide (HB.out.trans ((Below.refl wr.heap.size wr).grown hgrow (Nat.le_refl _) (by simp) |>.mono HB.out.size))
  clear hown hgrow HB
  generalize wr.heap.size = GB
  go_wp2_with fail
  go_loopg [6] 0 (fun g k wx => k = .int .i64 0 ∧ Hid (Below w.heap.size w wx))
  case atStart => exact ⟨rfl, HB1⟩
  case round =>
  clear HB1
  obtain ⟨rfl, HB6⟩ := hrel
  go_wp2_with fail
  go_loopg [9] 0 (fun g k wx => k = .int .i64 0 ∧ Hid (Below w.heap.size w wx))
  case atStart => exact ⟨rfl, HB6⟩
  case round =>
  clear HB6
  obtain ⟨rfl, HB9⟩ := hrel
  go_wp2_with fail
  go_loopg [11] 0 (fun g k wx => k = .int .i64 0 ∧ Hid (Below w.heap.size w wx))
  case atStart => exact ⟨rfl, HB9⟩
  case round =>
  clear HB9
  obtain ⟨rfl, HB11⟩ := hrel
  go_wp2_with fail
  go_loopg [14] 0 (fun g k wx => k = .int .i64 0 ∧ Hid (Below w.heap.size w wx))
  case atStart => exact ⟨rfl, HB11⟩
  case round =>
  clear HB11
  obtain ⟨rfl, HB14⟩ := hrel
  go_wp2_with fail
  go_ret
  exact ⟨rfl, HB14.out⟩

theorem InfoRowHunks : (Tryz.prog.info? 191).map (fun i => (i.zero, i.size, i.bytes)) = some (some (.slice none 0 0), 1, 24) := by kernel_rfl
set_option maxHeartbeats 4000000 in
set_option maxRecDepth 1000000 in
theorem flatHunks_nil {w : World} : Calls Tryz.prog 79 #[.slice none 0 0] w fun e w' => e = .returned (.bool true) ∧ Below w.heap.size w w' := by
  obtain ⟨i1, hi1, hz11, hz12, hz13⟩ := info_parts InfoRowHunks
  go_enter Tryz.func79, Tryz.ntmps79
  go_wp2_with fail
  go_loopg [3] 0 (fun g k wx => k = .int .i64 0 ∧ Hid (Below w.heap.size w wx))
  case atStart => exact ⟨rfl, hide (Below.refl _ _)⟩
  case round =>
  obtain ⟨rfl, HB⟩ := hrel
  go_wp2_with (at_make; refine wpList_make_full _ rfl _ _ 83 rfl 0 191 i1 (.slice none 0 0) 1 Tryz.underlying83 hi1 hz11 hz12 _ _ _ _ 0 rfl rfl rfl rfl (by rw [hz13]; omega) (by unfold maxLen; omega) (Nat.zero_le _) ?_)
  intro w1 hown hgrow
  have HB1 := hide (HB.out.trans ((Below.refl wr.heap.size wr).grown hgrow (Nat.le_refl _) (by simp) |>.mono HB.out.size))
  clear hown hgrow HB
  generalize wr.heap.size = GB
  go_wp2_with fail
  go_loopg [6] 0 (fun g k wx => k = .int .i64 0 ∧ Hid (Below w.heap.size w wx))
  case atStart => exact ⟨rfl, HB1⟩
  case round =>
  clear HB1
  obtain ⟨rfl, HB6⟩ := hrel
  go_wp2_with fail
  go_loopg [9] 0 (fun g k wx => k = .int .i64 0 ∧ Hid (Below w.heap.size w wx))
  case atStart => exact ⟨rfl, HB6⟩
  case round =>
  clear HB6
  obtain ⟨rfl, HB9⟩ := hrel
  go_wp2_with fail
  go_loopg [11] 0 (fun g k wx => k = .int .i64 0 ∧ Hid (Below w.heap.size w wx))
  case atStart => exact ⟨rfl, HB9⟩
  case round =>
  clear HB9
  obtain ⟨rfl, HB11⟩ := hrel
  go_wp2_with fail
  go_loopg [14] 0 (fun g k wx => k = .int .i64 0 ∧ Hid (Below w.heap.size w wx))
  case atStart => exact ⟨rfl, HB11⟩
  case round =>
  clear HB11
  obtain ⟨rfl, HB14⟩ := hrel
  go_wp2_with fail
  go_ret
  exact ⟨rfl, HB14.out⟩

theorem InfoRowEdits : (Tryz.prog.info? 106).map (fun i => (i.zero, i.size, i.bytes)) = some (some (.slice none 0 0), 1, 24) := by kernel_rfl
set_option maxHeartbeats 4000000 in
set_option maxRecDepth 1000000 in
theorem flatEdits_nil {w : World} : Calls Tryz.prog 80 #[.slice none 0 0] w fun e w' => e = .returned (.bool true) ∧ Below w.heap.size w w' := by
  obtain ⟨i1, hi1, hz11, hz12, hz13⟩ := info_parts InfoRowEdits
  go_enter Tryz.func80, Tryz.ntmps80
  go_wp2_with fail
  go_loopg [3] 0 (fun g k wx => k = .int .i64 0 ∧ Hid (Below w.heap.size w wx))
  case atStart => exact ⟨rfl, hide (Below.refl _ _)⟩
  case round =>
  obtain ⟨rfl, HB⟩ := hrel
  go_wp2_with (at_make; refine wpList_make_full _ rfl _ _ 84 rfl 0 106 i1 (.slice none 0 0) 1 Tryz.underlying84 hi1 hz11 hz12 _ _ _ _ 0 rfl rfl rfl rfl (by rw [hz13]; omega) (by unfold maxLen; omega) (Nat.zero_le _) ?_)
  intro w1 hown hgrow
  have HB1 := hide (HB.out.trans ((Below.refl wr.heap.size wr).grown hgrow (Nat.le_refl _) (by simp) |>.mono HB.out.size))
  clear hown hgrow HB
  generalize wr.heap.size = GB
  go_wp2_with fail
  go_loopg [6] 0 (fun g k wx => k = .int .i64 0 ∧ Hid (Below w.heap.size w wx))
  case atStart => exact ⟨rfl, HB1⟩
  case round =>
  clear HB1
  obtain ⟨rfl, HB6⟩ := hrel
  go_wp2_with fail
  go_loopg [9] 0 (fun g k wx => k = .int .i64 0 ∧ Hid (Below w.heap.size w wx))
  case atStart => exact ⟨rfl, HB6⟩
  case round =>
  clear HB6
  obtain ⟨rfl, HB9⟩ := hrel
  go_wp2_with fail
  go_loopg [11] 0 (fun g k wx => k = .int .i64 0 ∧ Hid (Below w.heap.size w wx))
  case atStart => exact ⟨rfl, HB9⟩
  case round =>
  clear HB9
  obtain ⟨rfl, HB11⟩ := hrel
  go_wp2_with fail
  go_loopg [14] 0 (fun g k wx => k = .int .i64 0 ∧ Hid (Below w.heap.size w wx))
  case atStart => exact ⟨rfl, HB11⟩
  case round =>
  clear HB11
  obtain ⟨rfl, HB14⟩ := hrel
  go_wp2_with fail
  go_ret
  exact ⟨rfl, HB14.out⟩

theorem InfoRowDocs : (Tryz.prog.info? 195).map (fun i => (i.zero, i.size, i.bytes)) = some (some (.slice none 0 0), 1, 24) := by kernel_rfl
set_option maxHeartbeats 4000000 in
set_option maxRecDepth 1000000 in
theorem flatDocs_nil {w : World} : Calls Tryz.prog 82 #[.slice none 0 0] w fun e w' => e = .returned (.bool true) ∧ Below w.heap.size w w' := by
  obtain ⟨i1, hi1, hz11, hz12, hz13⟩ := info_parts InfoRowDocs
  go_enter Tryz.func82, Tryz.ntmps82
  go_wp2_with fail
  go_loopg [3] 0 (fun g k wx => k = .int .i64 0 ∧ Hid (Below w.heap.size w wx))
  case atStart => exact ⟨rfl, hide (Below.refl _ _)⟩
  case round =>
  obtain ⟨rfl, HB⟩ := hrel
  go_wp2_with (at_make; refine wpList_make_full _ rfl _ _ 85 rfl 0 195 i1 (.slice none 0 0) 1 Tryz.underlying85 hi1 hz11 hz12 _ _ _ _ 0 rfl rfl rfl rfl (by rw [hz13]; omega) (by unfold maxLen; omega) (Nat.zero_le _) ?_)
  intro w1 hown hgrow
  have HB1 := hide (HB.out.trans ((Below.refl wr.heap.size wr).grown hgrow (Nat.le_refl _) (by simp) |>.mono HB.out.size))
  clear hown hgrow HB
  generalize wr.heap.size = GB
  go_wp2_with fail
  go_loopg [6] 0 (fun g k wx => k = .int .i64 0 ∧ Hid (Below w.heap.size w wx))
  case atStart => exact ⟨rfl, HB1⟩
  case round =>
  clear HB1
  obtain ⟨rfl, HB6⟩ := hrel
  go_wp2_with fail
  go_loopg [9] 0 (fun g k wx => k = .int .i64 0 ∧ Hid (Below w.heap.size w wx))
  case atStart => exact ⟨rfl, HB6⟩
  case round =>
  clear HB6
  obtain ⟨rfl, HB9⟩ := hrel
  go_wp2_with fail
  go_loopg [11] 0 (fun g k wx => k = .int .i64 0 ∧ Hid (Below w.heap.size w wx))
  case atStart => exact ⟨rfl, HB9⟩
  case round =>
  clear HB9
  obtain ⟨rfl, HB11⟩ := hrel
  go_wp2_with fail
  go_loopg [14] 0 (fun g k wx => k = .int .i64 0 ∧ Hid (Below w.heap.size w wx))
  case atStart => exact ⟨rfl, HB11⟩
  case round =>
  clear HB11
  obtain ⟨rfl, HB14⟩ := hrel
  go_wp2_with fail
  go_ret
  exact ⟨rfl, HB14.out⟩

end Go.Proofs.YtfhfkbdaglegpaaGreatDoor

namespace Go.Proofs.YtfhfkbdaglegpaaGreatDoor
open Go.RowKit

theorem InfoRowNamedRow : (Tryz.prog.info? 199).map (fun i => (i.zero, i.size, i.bytes)) = some (some (.slice none 0 0), 1, 24) := by kernel_rfl
set_option maxHeartbeats 4000000 in
set_option maxRecDepth 1000000 in
theorem flatNamedRow_nil {w : World} : Calls Tryz.prog 83 #[.slice none 0 0] w fun e w' => e = .returned (.bool true) ∧ Below w.heap.size w w' := by
  obtain ⟨i1, hi1, hz11, hz12, hz13⟩ := info_parts InfoRowNamedRow
  go_enter Tryz.func83, Tryz.ntmps83
  go_wp2_with fail
  go_loopg [3] 0 (fun g k wx => k = .int .i64 0 ∧ Hid (Below w.heap.size w wx))
  case atStart => exact ⟨rfl, hide (Below.refl _ _)⟩
  case round =>
  obtain ⟨rfl, HB⟩ := hrel
  go_wp2_with (at_make; refine wpList_make_full _ rfl _ _ 86 rfl 0 199 i1 (.slice none 0 0) 1 Tryz.underlying86 hi1 hz11 hz12 _ _ _ _ 0 rfl rfl rfl rfl (by rw [hz13]; omega) (by unfold maxLen; omega) (Nat.zero_le _) ?_)
  intro w1 hown hgrow
  have HB1 := hide (HB.out.trans ((Below.refl wr.heap.size wr).grown hgrow (Nat.le_refl _) (by simp) |>.mono HB.out.size))
  clear hown hgrow HB
  generalize wr.heap.size = GB
  go_wp2_with fail
  go_loopg [6] 0 (fun g k wx => k = .int .i64 0 ∧ Hid (Below w.heap.size w wx))
  case atStart => exact ⟨rfl, HB1⟩
  case round =>
  clear HB1
  obtain ⟨rfl, HB6⟩ := hrel
  go_wp2_with fail
  go_loopg [9] 0 (fun g k wx => k = .int .i64 0 ∧ Hid (Below w.heap.size w wx))
  case atStart => exact ⟨rfl, HB6⟩
  case round =>
  clear HB6
  obtain ⟨rfl, HB9⟩ := hrel
  go_wp2_with fail
  go_loopg [11] 0 (fun g k wx => k = .int .i64 0 ∧ Hid (Below w.heap.size w wx))
  case atStart => exact ⟨rfl, HB9⟩
  case round =>
  clear HB9
  obtain ⟨rfl, HB11⟩ := hrel
  go_wp2_with fail
  go_loopg [14] 0 (fun g k wx => k = .int .i64 0 ∧ Hid (Below w.heap.size w wx))
  case atStart => exact ⟨rfl, HB11⟩
  case round =>
  clear HB11
  obtain ⟨rfl, HB14⟩ := hrel
  go_wp2_with fail
  go_ret
  exact ⟨rfl, HB14.out⟩

theorem InfoRowValues : (Tryz.prog.info? 204).map (fun i => (i.zero, i.size, i.bytes)) = some (some (.slice none 0 0), 1, 24) := by kernel_rfl
set_option maxHeartbeats 4000000 in
set_option maxRecDepth 1000000 in
theorem flatValues_nil {w : World} : Calls Tryz.prog 84 #[.slice none 0 0] w fun e w' => e = .returned (.bool true) ∧ Below w.heap.size w w' := by
  obtain ⟨i1, hi1, hz11, hz12, hz13⟩ := info_parts InfoRowValues
  go_enter Tryz.func84, Tryz.ntmps84
  go_wp2_with fail
  go_loopg [3] 0 (fun g k wx => k = .int .i64 0 ∧ Hid (Below w.heap.size w wx))
  case atStart => exact ⟨rfl, hide (Below.refl _ _)⟩
  case round =>
  obtain ⟨rfl, HB⟩ := hrel
  go_wp2_with (at_make; refine wpList_make_full _ rfl _ _ 87 rfl 0 204 i1 (.slice none 0 0) 1 Tryz.underlying87 hi1 hz11 hz12 _ _ _ _ 0 rfl rfl rfl rfl (by rw [hz13]; omega) (by unfold maxLen; omega) (Nat.zero_le _) ?_)
  intro w1 hown hgrow
  have HB1 := hide (HB.out.trans ((Below.refl wr.heap.size wr).grown hgrow (Nat.le_refl _) (by simp) |>.mono HB.out.size))
  clear hown hgrow HB
  generalize wr.heap.size = GB
  go_wp2_with fail
  go_loopg [6] 0 (fun g k wx => k = .int .i64 0 ∧ Hid (Below w.heap.size w wx))
  case atStart => exact ⟨rfl, HB1⟩
  case round =>
  clear HB1
  obtain ⟨rfl, HB6⟩ := hrel
  go_wp2_with fail
  go_loopg [9] 0 (fun g k wx => k = .int .i64 0 ∧ Hid (Below w.heap.size w wx))
  case atStart => exact ⟨rfl, HB6⟩
  case round =>
  clear HB6
  obtain ⟨rfl, HB9⟩ := hrel
  go_wp2_with fail
  go_loopg [11] 0 (fun g k wx => k = .int .i64 0 ∧ Hid (Below w.heap.size w wx))
  case atStart => exact ⟨rfl, HB9⟩
  case round =>
  clear HB9
  obtain ⟨rfl, HB11⟩ := hrel
  go_wp2_with fail
  go_loopg [14] 0 (fun g k wx => k = .int .i64 0 ∧ Hid (Below w.heap.size w wx))
  case atStart => exact ⟨rfl, HB11⟩
  case round =>
  clear HB11
  obtain ⟨rfl, HB14⟩ := hrel
  go_wp2_with fail
  go_ret
  exact ⟨rfl, HB14.out⟩

theorem InfoRowOutcomes : (Tryz.prog.info? 210).map (fun i => (i.zero, i.size, i.bytes)) = some (some (.slice none 0 0), 1, 24) := by kernel_rfl
set_option maxHeartbeats 4000000 in
set_option maxRecDepth 1000000 in
theorem flatOutcomes_nil {w : World} : Calls Tryz.prog 85 #[.slice none 0 0] w fun e w' => e = .returned (.bool true) ∧ Below w.heap.size w w' := by
  obtain ⟨i1, hi1, hz11, hz12, hz13⟩ := info_parts InfoRowOutcomes
  go_enter Tryz.func85, Tryz.ntmps85
  go_wp2_with fail
  go_loopg [3] 0 (fun g k wx => k = .int .i64 0 ∧ Hid (Below w.heap.size w wx))
  case atStart => exact ⟨rfl, hide (Below.refl _ _)⟩
  case round =>
  obtain ⟨rfl, HB⟩ := hrel
  go_wp2_with (at_make; refine wpList_make_full _ rfl _ _ 88 rfl 0 210 i1 (.slice none 0 0) 1 Tryz.underlying88 hi1 hz11 hz12 _ _ _ _ 0 rfl rfl rfl rfl (by rw [hz13]; omega) (by unfold maxLen; omega) (Nat.zero_le _) ?_)
  intro w1 hown hgrow
  have HB1 := hide (HB.out.trans ((Below.refl wr.heap.size wr).grown hgrow (Nat.le_refl _) (by simp) |>.mono HB.out.size))
  clear hown hgrow HB
  generalize wr.heap.size = GB
  go_wp2_with fail
  go_loopg [6] 0 (fun g k wx => k = .int .i64 0 ∧ Hid (Below w.heap.size w wx))
  case atStart => exact ⟨rfl, HB1⟩
  case round =>
  clear HB1
  obtain ⟨rfl, HB6⟩ := hrel
  go_wp2_with fail
  go_loopg [9] 0 (fun g k wx => k = .int .i64 0 ∧ Hid (Below w.heap.size w wx))
  case atStart => exact ⟨rfl, HB6⟩
  case round =>
  clear HB6
  obtain ⟨rfl, HB9⟩ := hrel
  go_wp2_with fail
  go_loopg [11] 0 (fun g k wx => k = .int .i64 0 ∧ Hid (Below w.heap.size w wx))
  case atStart => exact ⟨rfl, HB9⟩
  case round =>
  clear HB9
  obtain ⟨rfl, HB11⟩ := hrel
  go_wp2_with fail
  go_loopg [14] 0 (fun g k wx => k = .int .i64 0 ∧ Hid (Below w.heap.size w wx))
  case atStart => exact ⟨rfl, HB11⟩
  case round =>
  clear HB11
  obtain ⟨rfl, HB14⟩ := hrel
  go_wp2_with fail
  go_ret
  exact ⟨rfl, HB14.out⟩

theorem InfoRowCommands : (Tryz.prog.info? 215).map (fun i => (i.zero, i.size, i.bytes)) = some (some (.slice none 0 0), 1, 24) := by kernel_rfl
set_option maxHeartbeats 4000000 in
set_option maxRecDepth 1000000 in
theorem flatCommands_nil {w : World} : Calls Tryz.prog 86 #[.slice none 0 0] w fun e w' => e = .returned (.bool true) ∧ Below w.heap.size w w' := by
  obtain ⟨i1, hi1, hz11, hz12, hz13⟩ := info_parts InfoRowCommands
  go_enter Tryz.func86, Tryz.ntmps86
  go_wp2_with fail
  go_loopg [3] 0 (fun g k wx => k = .int .i64 0 ∧ Hid (Below w.heap.size w wx))
  case atStart => exact ⟨rfl, hide (Below.refl _ _)⟩
  case round =>
  obtain ⟨rfl, HB⟩ := hrel
  go_wp2_with (at_make; refine wpList_make_full _ rfl _ _ 89 rfl 0 215 i1 (.slice none 0 0) 1 Tryz.underlying89 hi1 hz11 hz12 _ _ _ _ 0 rfl rfl rfl rfl (by rw [hz13]; omega) (by unfold maxLen; omega) (Nat.zero_le _) ?_)
  intro w1 hown hgrow
  have HB1 := hide (HB.out.trans ((Below.refl wr.heap.size wr).grown hgrow (Nat.le_refl _) (by simp) |>.mono HB.out.size))
  clear hown hgrow HB
  generalize wr.heap.size = GB
  go_wp2_with fail
  go_loopg [6] 0 (fun g k wx => k = .int .i64 0 ∧ Hid (Below w.heap.size w wx))
  case atStart => exact ⟨rfl, HB1⟩
  case round =>
  clear HB1
  obtain ⟨rfl, HB6⟩ := hrel
  go_wp2_with fail
  go_loopg [9] 0 (fun g k wx => k = .int .i64 0 ∧ Hid (Below w.heap.size w wx))
  case atStart => exact ⟨rfl, HB6⟩
  case round =>
  clear HB6
  obtain ⟨rfl, HB9⟩ := hrel
  go_wp2_with fail
  go_loopg [11] 0 (fun g k wx => k = .int .i64 0 ∧ Hid (Below w.heap.size w wx))
  case atStart => exact ⟨rfl, HB9⟩
  case round =>
  clear HB9
  obtain ⟨rfl, HB11⟩ := hrel
  go_wp2_with fail
  go_loopg [14] 0 (fun g k wx => k = .int .i64 0 ∧ Hid (Below w.heap.size w wx))
  case atStart => exact ⟨rfl, HB11⟩
  case round =>
  clear HB11
  obtain ⟨rfl, HB14⟩ := hrel
  go_wp2_with fail
  go_ret
  exact ⟨rfl, HB14.out⟩

theorem InfoRowAnswers : (Tryz.prog.info? 221).map (fun i => (i.zero, i.size, i.bytes)) = some (some (.slice none 0 0), 1, 24) := by kernel_rfl
set_option maxHeartbeats 4000000 in
set_option maxRecDepth 1000000 in
theorem flatAnswers_nil {w : World} : Calls Tryz.prog 87 #[.slice none 0 0] w fun e w' => e = .returned (.bool true) ∧ Below w.heap.size w w' := by
  obtain ⟨i1, hi1, hz11, hz12, hz13⟩ := info_parts InfoRowAnswers
  go_enter Tryz.func87, Tryz.ntmps87
  go_wp2_with fail
  go_loopg [3] 0 (fun g k wx => k = .int .i64 0 ∧ Hid (Below w.heap.size w wx))
  case atStart => exact ⟨rfl, hide (Below.refl _ _)⟩
  case round =>
  obtain ⟨rfl, HB⟩ := hrel
  go_wp2_with (at_make; refine wpList_make_full _ rfl _ _ 90 rfl 0 221 i1 (.slice none 0 0) 1 Tryz.underlying90 hi1 hz11 hz12 _ _ _ _ 0 rfl rfl rfl rfl (by rw [hz13]; omega) (by unfold maxLen; omega) (Nat.zero_le _) ?_)
  intro w1 hown hgrow
  have HB1 := hide (HB.out.trans ((Below.refl wr.heap.size wr).grown hgrow (Nat.le_refl _) (by simp) |>.mono HB.out.size))
  clear hown hgrow HB
  generalize wr.heap.size = GB
  go_wp2_with fail
  go_loopg [6] 0 (fun g k wx => k = .int .i64 0 ∧ Hid (Below w.heap.size w wx))
  case atStart => exact ⟨rfl, HB1⟩
  case round =>
  clear HB1
  obtain ⟨rfl, HB6⟩ := hrel
  go_wp2_with fail
  go_loopg [9] 0 (fun g k wx => k = .int .i64 0 ∧ Hid (Below w.heap.size w wx))
  case atStart => exact ⟨rfl, HB6⟩
  case round =>
  clear HB6
  obtain ⟨rfl, HB9⟩ := hrel
  go_wp2_with fail
  go_loopg [11] 0 (fun g k wx => k = .int .i64 0 ∧ Hid (Below w.heap.size w wx))
  case atStart => exact ⟨rfl, HB9⟩
  case round =>
  clear HB9
  obtain ⟨rfl, HB11⟩ := hrel
  go_wp2_with fail
  go_loopg [14] 0 (fun g k wx => k = .int .i64 0 ∧ Hid (Below w.heap.size w wx))
  case atStart => exact ⟨rfl, HB11⟩
  case round =>
  clear HB11
  obtain ⟨rfl, HB14⟩ := hrel
  go_wp2_with fail
  go_ret
  exact ⟨rfl, HB14.out⟩

end Go.Proofs.YtfhfkbdaglegpaaGreatDoor
