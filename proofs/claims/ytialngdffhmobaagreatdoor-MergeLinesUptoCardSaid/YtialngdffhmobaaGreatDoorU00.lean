/- Part 1 of what mgTop rests on. -/
set_option linter.unusedVariables false
set_option linter.unusedSimpArgs false
set_option maxHeartbeats 16000000
set_option maxRecDepth 1000000
namespace Go.Proofs.YtialngdffhmobaaGreatDoor
end Go.Proofs.YtialngdffhmobaaGreatDoor
