/-
  DERIVED. GIVEN WITH THE SEED: THE CARDS: each row of YtpocmfilpecfdaaGreatDoorRows.lean that lists a variable, with what it lists TIED to the program's text (the seventh form; the later family's looks); each row that meets fmt, with fmt's text TOLD by the authors' own Lean function (tested against real Go, not proved from fmt's source: count such statements apart). THE CARD IS WHAT COUNTS. Prove the row's statement (the work); the ties are given (YtpocmfilpecfdaaGreatDoorTie.lean); close each card by the builder's one call (the guide's Derived/Test/ToyasCard.lean, 'card_holds'). Laid BY PROGRAM, IN A SANDBOX (cutbox-door.mjs). By AI agents, Wed Nov 11 2026. No macro, syntax, notation, axiom, sorry.
-/
import Derived.Test.YtpocmfilpecfdaaGreatDoorRows
import GoSem.ClaimSeven
namespace Go.Proofs.YtpocmfilpecfdaaGreatDoor
namespace Rows

/-- THE TIED CARD OF 'clerestorylaw28.LogRows'. -/
def logRowsCard : Claim7 := { stood := { row := logRowsRow, standIns := [], harness := (true, "f234170fb6c1191eb057e891e9cf9a62dc4bb2a87e31fc2fe94ccea1f107fe4c"), looks := false }, kinds := [], alts := [], laidByText := true, laidKinds := [.data, .data, .data, .data, .listed, .data, .pinned], laidTests := true, laidLooks := .later }
def LogRowsCardSaid : Prop := Claim7.holds Tryz.pinned (.plain (OpenSpec.ofChange logRowsSpec)) logRowsCard

/-- THE SECOND FORM's CARD OF 'clerestorylaw28.LogRows'. -/
def logRowsUptoCard : Claim7 := { stood := { row := logRowsUptoRow, standIns := [], harness := (true, "f234170fb6c1191eb057e891e9cf9a62dc4bb2a87e31fc2fe94ccea1f107fe4c"), looks := false }, kinds := [], alts := [], laidByText := true, laidKinds := [.data, .data, .data, .data, .listed, .data, .pinned], laidTests := true, laidLooks := .later }
def LogRowsUptoCardSaid : Prop := Claim7.holds Tryz.pinned (.plain (OpenSpec.upto logRowsSpec)) logRowsUptoCard
end Rows
end Go.Proofs.YtpocmfilpecfdaaGreatDoor
