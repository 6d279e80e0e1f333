/-
  DERIVED. GIVEN WITH THE SEED: THE CARDS: each row of YthaoldnlleilfaaDoorRows.lean that lists a variable, with what it lists TIED to the program's text (the seventh form; the later family's looks); each row that meets fmt, with fmt's text TOLD by the authors' own Lean function (tested against real Go, not proved from fmt's source: count such statements apart). THE CARD IS WHAT COUNTS. Prove the row's statement (the work); the ties are given (YthaoldnlleilfaaDoorTie.lean); close each card by the builder's one call (the guide's Derived/Test/ToyasCard.lean, 'card_holds'). Laid BY PROGRAM, IN A SANDBOX (cutbox-door.mjs). By AI agents, Wed Nov 11 2026. No macro, syntax, notation, axiom, sorry.
-/
import Derived.Test.YthaoldnlleilfaaDoorRows
import GoSem.ClaimSeven
namespace Go.Proofs.YthaoldnlleilfaaDoor
namespace Rows

/-- THE TIED CARD OF 'clerestorylaw24.CodeBack'. -/
def codeBackCard : Claim7 := { stood := { row := codeBackRow, standIns := [], harness := (true, "316b130771693136e4ed45ff89679238cdaccee476e7cf7342378bf421447be9"), looks := true }, kinds := [], alts := [], laidByText := true, laidKinds := [.listed, .data], laidTests := true, laidLooks := .later }
def CodeBackCardSaid : Prop := Claim7.holds Tryd.pinned (.plain (OpenSpec.ofChange codeBackSpec)) codeBackCard

/-- THE TIED CARD OF 'clerestorylaw24.CodeInverse'. -/
def codeInverseCard : Claim7 := { stood := { row := codeInverseRow, standIns := [], harness := (true, "316b130771693136e4ed45ff89679238cdaccee476e7cf7342378bf421447be9"), looks := true }, kinds := [], alts := [], laidByText := true, laidKinds := [.listed, .data], laidTests := true, laidLooks := .later }
def CodeInverseCardSaid : Prop := Claim7.holds Tryd.pinned (.plain (OpenSpec.ofChange codeInverseSpec)) codeInverseCard

/-- THE SECOND FORM's CARD OF 'clerestorylaw24.CodeBack'. -/
def codeBackUptoCard : Claim7 := { stood := { row := codeBackUptoRow, standIns := [], harness := (true, "316b130771693136e4ed45ff89679238cdaccee476e7cf7342378bf421447be9"), looks := true }, kinds := [], alts := [], laidByText := true, laidKinds := [.listed, .data], laidTests := true, laidLooks := .later }
def CodeBackUptoCardSaid : Prop := Claim7.holds Tryd.pinned (.plain (OpenSpec.upto codeBackSpec)) codeBackUptoCard

/-- THE SECOND FORM's CARD OF 'clerestorylaw24.CodeInverse'. -/
def codeInverseUptoCard : Claim7 := { stood := { row := codeInverseUptoRow, standIns := [], harness := (true, "316b130771693136e4ed45ff89679238cdaccee476e7cf7342378bf421447be9"), looks := true }, kinds := [], alts := [], laidByText := true, laidKinds := [.listed, .data], laidTests := true, laidLooks := .later }
def CodeInverseUptoCardSaid : Prop := Claim7.holds Tryd.pinned (.plain (OpenSpec.upto codeInverseSpec)) codeInverseUptoCard
end Rows
end Go.Proofs.YthaoldnlleilfaaDoor
