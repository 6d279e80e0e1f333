/- Hunks and edits that were lent are as they were (kit.KeptHunk, kit.KeptEdit). Printed by gen_kept.py. -/
import Derived.Deep.CutBlock
import Derived.Test.YtfhfkbdaglegpaaGreatDoorGKeptR
import Derived.Test.YtfhfkbdaglegpaaGreatDoorGKeptN
import Derived.Test.YtfhfkbdaglegpaaGreatDoorGSame

set_option linter.unusedVariables false
set_option linter.unusedSimpArgs false

namespace Go.Proofs.YtfhfkbdaglegpaaGreatDoor
open Go.RowKit

end Go.Proofs.YtfhfkbdaglegpaaGreatDoor
