/- Part 28 of what scriptParses_card rests on. -/
import Derived.Deep.RegionHeld
import Derived.BigQuiet
import Derived.Test.YtjjaojnglnpgaaaGreatDoorZ03
import Derived.Test.YtjjaojnglnpgaaaGreatDoorZ00
set_option linter.unusedVariables false
set_option linter.unusedSimpArgs false
set_option maxHeartbeats 16000000
set_option maxRecDepth 1000000
namespace Go.Proofs.YtjjaojnglnpgaaaGreatDoor
end Go.Proofs.YtjjaojnglnpgaaaGreatDoor
