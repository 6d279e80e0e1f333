/- ScriptTells: the row's closed cells are what the program forces. Printed by gen_scrcard.py. -/
import Derived.Test.YtjjaojnglnpgaaaGreatDoorCards
import Derived.ProofKit
import Derived.JoinedCond

set_option linter.unusedVariables false
set_option linter.unusedSimpArgs false

namespace Go.Proofs.YtjjaojnglnpgaaaGreatDoor

set_option maxRecDepth 1000000
theorem tells_c1 : Tryz.prog.inPlace 5 = Rows.scriptTellsUptoRow.inPlace := by kernel_rfl
theorem tells_c2 : Tryz.prog.unfollowed 5 = Rows.scriptTellsUptoRow.unfollowed := by kernel_rfl
theorem tells_c3 : Tryz.prog.recurses 5 = Rows.scriptTellsUptoRow.recurses := by kernel_rfl
theorem tells_c4 : Tryz.prog.varsNamed 5 = Rows.scriptTellsUptoRow.named := by kernel_rfl
theorem tells_closed : joinedFacts Tryz.prog 5 Tryz.f5 (Rows.OpenSpec.upto Rows.scriptTellsSpec).bare Rows.scriptTellsUptoRow = true := by
  unfold joinedFacts
  rw [tells_c1, tells_c2, tells_c3, tells_c4]
  kernel_rfl

end Go.Proofs.YtjjaojnglnpgaaaGreatDoor
