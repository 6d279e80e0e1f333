/- script.bare: the zero patch. Printed by gen_scrbare0.py. -/
import Derived.BigRegion
import Derived.Test.YtjjaojnglnpgaaaGreatDoorLRows

set_option linter.unusedVariables false
set_option linter.unusedSimpArgs false

namespace Go.Proofs.YtjjaojnglnpgaaaGreatDoor
open Go.RowKit

abbrev zeroP : List Value := [.int .u8 0, .string { data := #[] }, .string { data := #[] }, .int .i64 0, .slice none 0 0, .slice none 0 0, .int .u8 0, .slice none 0 0, .int .i64 0, .int .i64 0, .string { data := #[] }, .string { data := #[] }, .slice none 0 0, .slice none 0 0]
set_option maxHeartbeats 16000000 in
set_option maxRecDepth 1000000 in
theorem bare_zero (w : World) : Calls Tryz.prog 43 #[.agg zeroP.toArray] w fun e w' => e = .returned (.bool true) ∧ Below w.heap.size w w' := by
  have hB := below_alloc w (.cells zeroP.toArray 43)
  have HB := hide hB
  clear hB
  go_enter Tryz.func43, Tryz.ntmps43
  go_wp2_with fail
  go_region
  all_goals go_wp2_with fail
  all_goals go_ret
  all_goals refine ⟨rfl, ?_⟩
  all_goals exact ((HB.out.alloc HB.out.size _).alloc (Nat.le_trans HB.out.size (by simp)) _).drew

end Go.Proofs.YtjjaojnglnpgaaaGreatDoor
