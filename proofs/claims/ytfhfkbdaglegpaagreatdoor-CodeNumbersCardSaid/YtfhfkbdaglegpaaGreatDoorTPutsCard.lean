/- CodePuts: the listed table; what the contract gives. Printed by gen_putscard.py. -/
import Derived.WideKeyArgs
import Derived.RowKit
import Derived.Lib.LaidTab
import Derived.Lib.LaidU8
import Derived.OpenShut
import Derived.Test.YtfhfkbdaglegpaaGreatDoorTPuts
import Derived.Test.YtfhfkbdaglegpaaGreatDoorTOpen
import Derived.Test.YtfhfkbdaglegpaaGreatDoorTNames

set_option linter.unusedVariables false
set_option linter.unusedSimpArgs false

namespace Go.Proofs.YtfhfkbdaglegpaaGreatDoor
open Go.RowKit Go.ChangeShapes Go.WideShapes

theorem u_bool : Tryz.prog.underlying 4 = some .bool := by kernel_rfl
theorem u_tab : Tryz.prog.underlying 255 = some (.array 256 5) := by kernel_rfl
theorem c_tab : Tryz.prog.cellsOf 255 = 256 := by kernel_rfl
theorem g_tab : Tryz.prog.globalNamed "strings.asciiSpace" = some 0 := by kernel_rfl
theorem gt_tab : (Tryz.prog.globals[0]?).map (·.type) = some 255 := by kernel_rfl
theorem tab_data : (Rows.laid_strings_asciiSpace : DataW Unit) = Lib.tabData .u8 Lib.asciiSpaceTab := by kernel_rfl
theorem tab_ok {W : World} (h : laidMetH Tryz.prog Rows.codePutsUptoRow.laid W) : TabOk W := by
  have h' : laidMet Tryz.prog [("unicode.White_Space", Rows.laid_unicode_White_Space), ("strings.asciiSpace", Rows.laid_strings_asciiSpace)] W := h
  obtain ⟨g', t', cs, fuel, p, hg', ht', hvar, hd⟩ := Lib.laidMet.reads h' (.tail _ (.head _))
  obtain rfl := Option.some.inj (g_tab.symm.trans hg')
  obtain rfl := Option.some.inj (gt_tab.symm.trans ht')
  rw [tab_data] at hd
  have hc := Lib.cells_of_tab u_tab u_u8 c_u8 c_tab hd
  have hT : Lib.TabIs Tryz.prog W "strings.asciiSpace" .u8 Lib.asciiSpaceTab := by
    unfold Lib.TabIs
    rw [hvar, ← hc]
  exact ⟨block_lt_of_cell (hT.cell g_tab 0 (of_decide_eq_true (by kernel_rfl))), hT⟩


end Go.Proofs.YtfhfkbdaglegpaaGreatDoor
