/- Rows of nodes that were lent are as they were (kit.KeptNodes). Printed by gen_kept.py. -/
import Derived.Deep.RegionHeld
import Derived.BigQuiet
import Derived.Test.YtfhfkbdaglegpaaGreatDoorGLentB
import Derived.Test.YtfhfkbdaglegpaaGreatDoorGSame
import Derived.Test.YtfhfkbdaglegpaaGreatDoorGBase

set_option linter.unusedVariables false
set_option linter.unusedSimpArgs false

namespace Go.Proofs.YtfhfkbdaglegpaaGreatDoor
open Go.RowKit

section
variable {S : Nat → Prop} {w w' : World}
end
end Go.Proofs.YtfhfkbdaglegpaaGreatDoor
