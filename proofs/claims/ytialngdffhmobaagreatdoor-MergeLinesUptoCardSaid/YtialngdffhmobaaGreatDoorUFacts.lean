/- MergeLines: the row's closed cells are what the program forces. Printed by gen_scrcard4.py. -/
import Derived.Test.YtialngdffhmobaaGreatDoorCards
import Derived.ProofKit
import Derived.JoinedCond
set_option linter.unusedVariables false
set_option linter.unusedSimpArgs false
set_option maxHeartbeats 16000000
set_option maxRecDepth 1000000
namespace Go.Proofs.YtialngdffhmobaaGreatDoor
theorem mergeLines_c1:Tryz.prog.inPlace 6=Rows.mergeLinesUptoRow.inPlace:=by kernel_rfl
theorem mergeLines_c2:Tryz.prog.unfollowed 6=Rows.mergeLinesUptoRow.unfollowed:=by kernel_rfl
theorem mergeLines_c3:Tryz.prog.recurses 6=Rows.mergeLinesUptoRow.recurses:=by kernel_rfl
theorem mergeLines_c4:Tryz.prog.varsNamed 6=Rows.mergeLinesUptoRow.named:=by kernel_rfl
theorem mergeLines_closed:joinedFacts Tryz.prog 6 Tryz.f6 (Rows.OpenSpec.upto Rows.mergeLinesSpec).bare Rows.mergeLinesUptoRow=true:=by
 unfold joinedFacts
 rw[mergeLines_c1,mergeLines_c2,mergeLines_c3,mergeLines_c4]
 kernel_rfl
end Go.Proofs.YtialngdffhmobaaGreatDoor
