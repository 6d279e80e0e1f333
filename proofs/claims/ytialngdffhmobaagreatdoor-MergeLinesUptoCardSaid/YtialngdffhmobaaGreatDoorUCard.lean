/- All that MergeLines rests on. -/
import Derived.Test.YtialngdffhmobaaGreatDoorU44
import Derived.Test.YtialngdffhmobaaGreatDoorU40
import Derived.Test.YtialngdffhmobaaGreatDoorU42
import Derived.Test.YtialngdffhmobaaGreatDoorU45
import Derived.Test.YtialngdffhmobaaGreatDoorU00
set_option linter.unusedVariables false
set_option linter.unusedSimpArgs false
set_option maxHeartbeats 16000000
set_option maxRecDepth 1000000
namespace Go.Proofs.YtialngdffhmobaaGreatDoor
theorem mgTop:True:=trivial
end Go.Proofs.YtialngdffhmobaaGreatDoor
