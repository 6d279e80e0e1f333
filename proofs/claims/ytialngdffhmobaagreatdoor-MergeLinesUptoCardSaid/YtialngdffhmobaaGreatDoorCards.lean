/-
  DERIVED. GIVEN WITH THE SEED: THE CARDS: each row of YtialngdffhmobaaGreatDoorRows.lean that lists a variable, with what it lists TIED to the program's text (the seventh form; the later family's looks); each row that meets fmt, with fmt's text TOLD by the authors' own Lean function (tested against real Go, not proved from fmt's source: count such statements apart). THE CARD IS WHAT COUNTS. Prove the row's statement (the work); the ties are given (YtialngdffhmobaaGreatDoorTie.lean); close each card by the builder's one call (the guide's Derived/Test/ToyasCard.lean, 'card_holds'). Laid BY PROGRAM, IN A SANDBOX (cutbox-door.mjs). By AI agents, Wed Nov 11 2026. No macro, syntax, notation, axiom, sorry.
-/
import Derived.Test.YtialngdffhmobaaGreatDoorRows
import GoSem.ClaimSeven
namespace Go.Proofs.YtialngdffhmobaaGreatDoor
namespace Rows

/-- THE TIED CARD OF 'clerestorylaw21.CommuteTells'. -/
def commuteTellsCard : Claim7 := { stood := { row := commuteTellsRow, standIns := [], harness := (true, "af6f7a22e564a5441f23fa5773910eeecbf2afe2f83e3ad10681de3966b24113"), looks := false }, kinds := [], alts := [], laidByText := true, laidKinds := [.listed, .data], laidTests := true, laidLooks := .later }
def CommuteTellsCardSaid : Prop := Claim7.holds Tryz.pinned (.plain (OpenSpec.ofChange commuteTellsSpec)) commuteTellsCard

/-- THE TIED CARD OF 'clerestorylaw21.CommuteFiles'. -/
def commuteFilesCard : Claim7 := { stood := { row := commuteFilesRow, standIns := [], harness := (true, "af6f7a22e564a5441f23fa5773910eeecbf2afe2f83e3ad10681de3966b24113"), looks := false }, kinds := [], alts := [], laidByText := true, laidKinds := [.listed, .data], laidTests := true, laidLooks := .later }
def CommuteFilesCardSaid : Prop := Claim7.holds Tryz.pinned (.plain (OpenSpec.ofChange commuteFilesSpec)) commuteFilesCard

/-- THE TIED CARD OF 'clerestorylaw22.MergeTells'. -/
def mergeTellsCard : Claim7 := { stood := { row := mergeTellsRow, standIns := [], harness := (true, "af6f7a22e564a5441f23fa5773910eeecbf2afe2f83e3ad10681de3966b24113"), looks := false }, kinds := [], alts := [], laidByText := true, laidKinds := [.listed, .data], laidTests := true, laidLooks := .later }
def MergeTellsCardSaid : Prop := Claim7.holds Tryz.pinned (.plain (OpenSpec.ofChange mergeTellsSpec)) mergeTellsCard

/-- THE TIED CARD OF 'clerestorylaw22.MergeLines'. -/
def mergeLinesCard : Claim7 := { stood := { row := mergeLinesRow, standIns := [], harness := (true, "af6f7a22e564a5441f23fa5773910eeecbf2afe2f83e3ad10681de3966b24113"), looks := false }, kinds := [], alts := [], laidByText := true, laidKinds := [.listed, .data], laidTests := true, laidLooks := .later }
def MergeLinesCardSaid : Prop := Claim7.holds Tryz.pinned (.plain (OpenSpec.ofChange mergeLinesSpec)) mergeLinesCard

/-- THE SECOND FORM's CARD OF 'clerestorylaw21.CommuteTells'. -/
def commuteTellsUptoCard : Claim7 := { stood := { row := commuteTellsUptoRow, standIns := [], harness := (true, "af6f7a22e564a5441f23fa5773910eeecbf2afe2f83e3ad10681de3966b24113"), looks := false }, kinds := [], alts := [], laidByText := true, laidKinds := [.listed, .data], laidTests := true, laidLooks := .later }
def CommuteTellsUptoCardSaid : Prop := Claim7.holds Tryz.pinned (.plain (OpenSpec.upto commuteTellsSpec)) commuteTellsUptoCard

/-- THE SECOND FORM's CARD OF 'clerestorylaw21.CommuteFiles'. -/
def commuteFilesUptoCard : Claim7 := { stood := { row := commuteFilesUptoRow, standIns := [], harness := (true, "af6f7a22e564a5441f23fa5773910eeecbf2afe2f83e3ad10681de3966b24113"), looks := false }, kinds := [], alts := [], laidByText := true, laidKinds := [.listed, .data], laidTests := true, laidLooks := .later }
def CommuteFilesUptoCardSaid : Prop := Claim7.holds Tryz.pinned (.plain (OpenSpec.upto commuteFilesSpec)) commuteFilesUptoCard

/-- THE SECOND FORM's CARD OF 'clerestorylaw22.MergeTells'. -/
def mergeTellsUptoCard : Claim7 := { stood := { row := mergeTellsUptoRow, standIns := [], harness := (true, "af6f7a22e564a5441f23fa5773910eeecbf2afe2f83e3ad10681de3966b24113"), looks := false }, kinds := [], alts := [], laidByText := true, laidKinds := [.listed, .data], laidTests := true, laidLooks := .later }
def MergeTellsUptoCardSaid : Prop := Claim7.holds Tryz.pinned (.plain (OpenSpec.upto mergeTellsSpec)) mergeTellsUptoCard

/-- THE SECOND FORM's CARD OF 'clerestorylaw22.MergeLines'. -/
def mergeLinesUptoCard : Claim7 := { stood := { row := mergeLinesUptoRow, standIns := [], harness := (true, "af6f7a22e564a5441f23fa5773910eeecbf2afe2f83e3ad10681de3966b24113"), looks := false }, kinds := [], alts := [], laidByText := true, laidKinds := [.listed, .data], laidTests := true, laidLooks := .later }
def MergeLinesUptoCardSaid : Prop := Claim7.holds Tryz.pinned (.plain (OpenSpec.upto mergeLinesSpec)) mergeLinesUptoCard
end Rows
end Go.Proofs.YtialngdffhmobaaGreatDoor
