/- Part 50 of what scriptShows_cardUpto rests on. -/
import Derived.Test.YtjjaojnglnpgaaaGreatDoorCards
import Derived.ProofKit
import Derived.JoinedCond
import Derived.Test.YtjjaojnglnpgaaaGreatDoorZ00
set_option linter.unusedVariables false
set_option linter.unusedSimpArgs false
set_option maxHeartbeats 16000000
set_option maxRecDepth 1000000
namespace Go.Proofs.YtjjaojnglnpgaaaGreatDoor
theorem zeF:Tryz.prog.inPlace 4=Rows.scriptShowsUptoRow.inPlace:=by kernel_rfl
theorem zeG:Tryz.prog.unfollowed 4=Rows.scriptShowsUptoRow.unfollowed:=by kernel_rfl
theorem zeH:Tryz.prog.recurses 4=Rows.scriptShowsUptoRow.recurses:=by kernel_rfl
theorem zeI:Tryz.prog.varsNamed 4=Rows.scriptShowsUptoRow.named:=by kernel_rfl
theorem zcT:joinedFacts Tryz.prog 4 Tryz.f4 (Rows.OpenSpec.upto Rows.scriptShowsSpec).bare Rows.scriptShowsUptoRow=true:=by
 unfold joinedFacts;rw[zeF,zeG,zeH,zeI];kernel_rfl
end Go.Proofs.YtjjaojnglnpgaaaGreatDoor
