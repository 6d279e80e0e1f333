/- Part 37 of what scriptBack_cardUpto rests on. -/
import Derived.Deep.RegionHeld
import Derived.Test.YtjjaojnglnpgaaaGreatDoorY31
import Derived.Test.YtjjaojnglnpgaaaGreatDoorY34
import Derived.Test.YtjjaojnglnpgaaaGreatDoorY16
import Derived.Test.YtjjaojnglnpgaaaGreatDoorY35
import Derived.Test.YtjjaojnglnpgaaaGreatDoorY02
import Derived.Test.YtjjaojnglnpgaaaGreatDoorY00
set_option linter.unusedVariables false
set_option linter.unusedSimpArgs false
set_option maxHeartbeats 16000000
set_option maxRecDepth 1000000
namespace Go.Proofs.YtjjaojnglnpgaaaGreatDoor
end Go.Proofs.YtjjaojnglnpgaaaGreatDoor
