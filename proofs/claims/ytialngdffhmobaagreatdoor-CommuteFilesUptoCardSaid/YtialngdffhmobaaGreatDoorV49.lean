/- Part 50 of what commuteFiles_cardUpto rests on. -/
import Derived.Test.YtialngdffhmobaaGreatDoorCards
import Derived.ProofKit
import Derived.JoinedCond
import Derived.Test.YtialngdffhmobaaGreatDoorV00
set_option linter.unusedVariables false
set_option linter.unusedSimpArgs false
set_option maxHeartbeats 16000000
set_option maxRecDepth 1000000
namespace Go.Proofs.YtialngdffhmobaaGreatDoor
theorem OI:Tryz.prog.inPlace 4=Rows.commuteFilesUptoRow.inPlace:=by kernel_rfl
theorem OJ:Tryz.prog.unfollowed 4=Rows.commuteFilesUptoRow.unfollowed:=by kernel_rfl
theorem OL:Tryz.prog.recurses 4=Rows.commuteFilesUptoRow.recurses:=by kernel_rfl
theorem OM:Tryz.prog.varsNamed 4=Rows.commuteFilesUptoRow.named:=by kernel_rfl
theorem OO:joinedFacts Tryz.prog 4 Tryz.f4 (Rows.OpenSpec.upto Rows.commuteFilesSpec).bare Rows.commuteFilesUptoRow=true:=by
 unfold joinedFacts;rw[OI,OJ,OL,OM];kernel_rfl
end Go.Proofs.YtialngdffhmobaaGreatDoor
