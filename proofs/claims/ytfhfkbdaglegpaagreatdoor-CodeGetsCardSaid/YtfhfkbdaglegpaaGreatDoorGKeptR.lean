/- Rows that were lent are as they were (kit.KeptTexts, kit.KeptInts). Printed by gen_kept.py. -/
import Derived.Deep.RegionHeld
import Derived.BigQuiet
import Derived.Test.YtfhfkbdaglegpaaGreatDoorGLentB
import Derived.Test.YtfhfkbdaglegpaaGreatDoorGBase

set_option linter.unusedVariables false
set_option linter.unusedSimpArgs false

namespace Go.Proofs.YtfhfkbdaglegpaaGreatDoor
open Go.RowKit

end Go.Proofs.YtfhfkbdaglegpaaGreatDoor
