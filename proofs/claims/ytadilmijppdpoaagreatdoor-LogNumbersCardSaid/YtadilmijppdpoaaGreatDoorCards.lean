/-
  DERIVED. GIVEN WITH THE SEED: THE CARDS: each row of YtadilmijppdpoaaGreatDoorRows.lean that lists a variable, with what it lists TIED to the program's text (the seventh form; the later family's looks); each row that meets fmt, with fmt's text TOLD by the authors' own Lean function (tested against real Go, not proved from fmt's source: count such statements apart). THE CARD IS WHAT COUNTS. Prove the row's statement (the work); the ties are given (YtadilmijppdpoaaGreatDoorTie.lean); close each card by the builder's one call (the guide's Derived/Test/ToyasCard.lean, 'card_holds'). Laid BY PROGRAM, IN A SANDBOX (cutbox-door.mjs). By AI agents, Wed Nov 11 2026. No macro, syntax, notation, axiom, sorry.
-/
import Derived.Test.YtadilmijppdpoaaGreatDoorRows
import GoSem.ClaimSeven
namespace Go.Proofs.YtadilmijppdpoaaGreatDoor
namespace Rows

/-- THE TIED CARD OF 'clerestorylaw28.LogTells'. -/
def logTellsCard : Claim7 := { stood := { row := logTellsRow, standIns := [], harness := (true, "ed2b5ce4c42cb2f49ec9a481c3bcfabce32cae24f4bf3eacc9c4024eb1f60637"), looks := false }, kinds := [], alts := [], laidByText := true, laidKinds := [.data, .data, .data, .listed, .data], laidTests := true, laidLooks := .later }
def LogTellsCardSaid : Prop := Claim7.holds Tryz.pinned (.plain (OpenSpec.ofChange logTellsSpec)) logTellsCard

/-- THE TIED CARD OF 'clerestorylaw28.LogNumbers'. -/
def logNumbersCard : Claim7 := { stood := { row := logNumbersRow, standIns := [], harness := (true, "ed2b5ce4c42cb2f49ec9a481c3bcfabce32cae24f4bf3eacc9c4024eb1f60637"), looks := false }, kinds := [], alts := [], laidByText := true, laidKinds := [.data, .data, .data, .listed, .data], laidTests := true, laidLooks := .later }
def LogNumbersCardSaid : Prop := Claim7.holds Tryz.pinned (.plain (OpenSpec.ofChange logNumbersSpec)) logNumbersCard

/-- THE SECOND FORM's CARD OF 'clerestorylaw28.LogTells'. -/
def logTellsUptoCard : Claim7 := { stood := { row := logTellsUptoRow, standIns := [], harness := (true, "ed2b5ce4c42cb2f49ec9a481c3bcfabce32cae24f4bf3eacc9c4024eb1f60637"), looks := false }, kinds := [], alts := [], laidByText := true, laidKinds := [.data, .data, .data, .listed, .data], laidTests := true, laidLooks := .later }
def LogTellsUptoCardSaid : Prop := Claim7.holds Tryz.pinned (.plain (OpenSpec.upto logTellsSpec)) logTellsUptoCard

/-- THE SECOND FORM's CARD OF 'clerestorylaw28.LogNumbers'. -/
def logNumbersUptoCard : Claim7 := { stood := { row := logNumbersUptoRow, standIns := [], harness := (true, "ed2b5ce4c42cb2f49ec9a481c3bcfabce32cae24f4bf3eacc9c4024eb1f60637"), looks := false }, kinds := [], alts := [], laidByText := true, laidKinds := [.data, .data, .data, .listed, .data], laidTests := true, laidLooks := .later }
def LogNumbersUptoCardSaid : Prop := Claim7.holds Tryz.pinned (.plain (OpenSpec.upto logNumbersSpec)) logNumbersUptoCard
end Rows
end Go.Proofs.YtadilmijppdpoaaGreatDoor
