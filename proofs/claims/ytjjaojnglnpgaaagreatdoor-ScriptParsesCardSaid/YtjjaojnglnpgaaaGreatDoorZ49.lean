/- Part 50 of what scriptParses_card rests on. -/
import Derived.Test.YtjjaojnglnpgaaaGreatDoorCards
import Derived.ProofKit
import Derived.JoinedCond
import Derived.Test.YtjjaojnglnpgaaaGreatDoorZ00
set_option linter.unusedVariables false
set_option linter.unusedSimpArgs false
set_option maxHeartbeats 16000000
set_option maxRecDepth 1000000
namespace Go.Proofs.YtjjaojnglnpgaaaGreatDoor
theorem zfd:Tryz.prog.inPlace 3=Rows.scriptParsesRow.inPlace:=by kernel_rfl
theorem zfe:Tryz.prog.unfollowed 3=Rows.scriptParsesRow.unfollowed:=by kernel_rfl
theorem zff:Tryz.prog.recurses 3=Rows.scriptParsesRow.recurses:=by kernel_rfl
theorem zfg:Tryz.prog.varsNamed 3=Rows.scriptParsesRow.named:=by kernel_rfl
theorem zcZ:joinedFacts Tryz.prog 3 Tryz.f3 (OpenSpec.ofChange Rows.scriptParsesSpec).bare Rows.scriptParsesRow=true:=by
 unfold joinedFacts;rw[zfd,zfe,zff,zfg];kernel_rfl
end Go.Proofs.YtjjaojnglnpgaaaGreatDoor
