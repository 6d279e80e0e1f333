/- Part 50 of what scriptBack_cardUpto rests on. -/
import Derived.Test.YtjjaojnglnpgaaaGreatDoorCards
import Derived.ProofKit
import Derived.JoinedCond
import Derived.Test.YtjjaojnglnpgaaaGreatDoorY00
set_option linter.unusedVariables false
set_option linter.unusedSimpArgs false
set_option maxHeartbeats 16000000
set_option maxRecDepth 1000000
namespace Go.Proofs.YtjjaojnglnpgaaaGreatDoor
theorem ZG:Tryz.prog.inPlace 6=Rows.scriptBackUptoRow.inPlace:=by kernel_rfl
theorem ZH:Tryz.prog.unfollowed 6=Rows.scriptBackUptoRow.unfollowed:=by kernel_rfl
theorem ZI:Tryz.prog.recurses 6=Rows.scriptBackUptoRow.recurses:=by kernel_rfl
theorem ZJ:Tryz.prog.varsNamed 6=Rows.scriptBackUptoRow.named:=by kernel_rfl
theorem ZK:joinedFacts Tryz.prog 6 Tryz.f6 (Rows.OpenSpec.upto Rows.scriptBackSpec).bare Rows.scriptBackUptoRow=true:=by
 unfold joinedFacts;rw[ZG,ZH,ZI,ZJ];kernel_rfl
end Go.Proofs.YtjjaojnglnpgaaaGreatDoor
