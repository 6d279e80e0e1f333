/- Part 20. -/
import Derived.Deep.RegionHeld
import Derived.BigQuiet
import Derived.Test.YtjjaojnglnpgaaaGreatDoorZ18
import Derived.Test.YtjjaojnglnpgaaaGreatDoorZ06
import Derived.Test.YtjjaojnglnpgaaaGreatDoorZ03
import Derived.Test.YtjjaojnglnpgaaaGreatDoorZ00
set_option linter.unusedVariables false
set_option linter.unusedSimpArgs false
set_option maxHeartbeats 16000000
set_option maxRecDepth 1000000
namespace Go.Proofs.YtjjaojnglnpgaaaGreatDoor
section
open Go.RowKit
section
variable {S : Nat → Prop} {w w' : World}
end
end
end Go.Proofs.YtjjaojnglnpgaaaGreatDoor
