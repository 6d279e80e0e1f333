/- Part 1 of what commuteFiles_cardUpto rests on. -/
set_option linter.unusedVariables false
set_option linter.unusedSimpArgs false
set_option maxHeartbeats 16000000
set_option maxRecDepth 1000000
namespace Go.Proofs.YtialngdffhmobaaGreatDoor
abbrev aA:=@List.set_cons_zero
abbrev aB:=@List.set_cons_succ
abbrev aC:=@Nat.le_refl
abbrev aD:=@List.setIfInBounds_toArray
abbrev aE:=@List.getElem_cons_zero
abbrev aF:=@List.getElem_cons_succ
abbrev aG:=@List.getElem_toArray
abbrev aH:=@Nat.lt_of_lt_of_le
abbrev aI:=@Nat.le_trans
abbrev aJ:=@List.length_append
abbrev aK:=@beq_eq_false_iff_ne
end Go.Proofs.YtialngdffhmobaaGreatDoor
