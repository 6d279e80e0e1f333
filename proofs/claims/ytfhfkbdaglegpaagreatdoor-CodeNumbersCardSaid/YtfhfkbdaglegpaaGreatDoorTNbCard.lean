/- clerestorylaw24.CodeNumbers returns true. Conditions: the two listed package variables hold what their initialisers lay. Printed by gen_nbcard.py. -/
import Derived.Test.YtfhfkbdaglegpaaGreatDoorCards
import Derived.Test.YtfhfkbdaglegpaaGreatDoorTie
import Derived.OpenShut
import Derived.Deep.DeepHandedRow
import Derived.Deep.DeepWitnessRowRef
import Derived.Test.YtfhfkbdaglegpaaGreatDoorTCardBase
import Derived.Test.YtfhfkbdaglegpaaGreatDoorTPutsCard
import Derived.Test.YtfhfkbdaglegpaaGreatDoorTNbW

set_option linter.unusedVariables false
set_option linter.unusedSimpArgs false

namespace Go.Proofs.YtfhfkbdaglegpaaGreatDoor
open Go.RowKit Go.ChangeShapes Go.WideShapes

set_option maxRecDepth 100000 in
theorem nb_contract (H : Type) (enc : TypeId × Value → H) (W : World) (args : Array Value) (ds gs : List (DataW H)) (before : List MemPlace)
    (hW0 : DataW.Whole enc Tryz.prog Tryz.f5.params.toList Rows.codeNumbersSpec.vars false W args.toList ds gs before) (hL : laidMetH Tryz.prog Rows.codeNumbersRow.laid W) :
    Calls Tryz.prog 5 args W fun e W' => ∃ v, e = .returned v ∧ Rows.codeNumbersSpec.post enc Tryz.prog Tryz.f5 false true false false W args v W' := by
  have hW := hW0
  obtain ⟨p, q, hA0, hV, rfl, _, _⟩ := hW0
  have hA : DataW.TrodAll enc Tryz.prog W 0 (fun _ => true) true [] args.toList ds p := hA0
  obtain ⟨rfl, rfl, rfl⟩ := trodAll_none hA
  obtain ⟨rfl, rfl⟩ := trodVars_none hV
  refine (nb_any (tab_ok hL)).mono fun e W' ⟨he, hB⟩ => ?_
  subst he
  exact ⟨_, rfl, _, _, _, [], [], [], hW, trodAll_mk1 (shut_bool u_bool true), trodAll_mk0, rfl, hB.frame _, fun h => by cases h⟩
set_option maxRecDepth 100000 in
theorem codeNumbers_reads (os : Os) {H : Type} (enc : TypeId × Value → H) : (DataW.whole enc Tryz.prog ((laidWorld os).forCall (fun _ _ => 0) ⟨#[], #[], []⟩).memory Tryz.f5.params.toList Rows.codeNumbersSpec.vars false #[].toList 8).map (fun x => (x.1, x.2.1)) = some ([], []) := by kernel_rfl
set_option maxRecDepth 100000 in
theorem codeNumbers_lifted (os : Os) (started : os.Started) (H : Type) (enc : TypeId × Value → H) (F : Stop.Interp) :
    ReturnsInHanded {} Tryz.checked os 5 .any ((OpenSpec.ofChange Rows.codeNumbersSpec).preRow enc Tryz.prog Tryz.f5 Rows.codeNumbersRow.domain false Rows.codeNumbersRow.laid) (((OpenSpec.ofChange Rows.codeNumbersSpec).at F).post enc Tryz.prog Tryz.f5 false true false false) := by
  obtain ⟨⟨x1, x2, x3⟩, hx, hx1⟩ := Option.map_eq_some_iff.1 (codeNumbers_reads os enc)
  simp only [Prod.mk.injEq] at hx1
  obtain ⟨rfl, rfl⟩ := hx1
  refine returnsInHanded_of_row (C := Tryz.checked) (s := OpenSpec.ofChange Rows.codeNumbersSpec) own_knob started (by kernel_rfl) Tryz.func5
    (witness_row_atRef (enc := enc) (C := Tryz.checked) false (laidWorld os) #[] rfl (by kernel_rfl) (by kernel_rfl) (by kernel_rfl)
      (OpenSpec.preRow_of_cond 8 hx (by kernel_rfl) (fun k hk => by cases hk) (by kernel_rfl) (laid_met os _))) ?_
  intro W base args ds gs before _ hW _ _ _ hL _ _
  exact nb_contract H enc W args ds gs before hW hL
set_option maxRecDepth 100000 in
theorem codeNumbers_said : Rows.CodeNumbersSaid :=
  OpenClaim.holds_of_cond 5 Tryz.f5 rfl rfl rfl rfl rfl rfl rfl ⟨rfl, rfl, rfl, rfl, rfl⟩ rfl rfl rfl rfl rfl (by kernel_rfl) Tryz.func5 (by kernel_rfl)
    (of_decide_eq_true (by kernel_rfl)) (by unfold Func.isWrapper; first | (rw [if_pos (by decide +kernel)]; kernel_rfl) | (rw [if_neg (by decide +kernel)]; exact ⟨rfl, rfl⟩))
    (fun os started H enc _ F => by rw [OpenClaim.pre_eq_preRow]; exact codeNumbers_lifted os started H enc F)
theorem codeNumbers_plain (f : FuncId) (fn : Func) (hf : Tryz.pinned.checked.prog.funcNamed "clerestory/clerestorylaw24.CodeNumbers" = some f) (hfn : Tryz.pinned.checked.prog.funcs[f]? = some fn) :
    true = Tryz.pinned.checked.prog.looks [] ∧ ∀ (j : Nat) t, fn.params[j]? = some t → Tryz.pinned.checked.prog.wantsStandIn t = false := by
  obtain rfl : f = 5 := Option.some.inj ((show Tryz.prog.funcNamed "clerestory/clerestorylaw24.CodeNumbers" = some 5 by kernel_rfl).symm.trans hf) |>.symm
  obtain rfl : fn = Tryz.f5 := (Option.some.inj (Tryz.func5.symm.trans hfn)).symm
  refine ⟨by kernel_rfl, fun j t ht => ?_⟩
  have h0 : Tryz.f5.params = #[] := rfl
  rw [h0] at ht
  simp at ht
theorem codeNumbers_card : Rows.CodeNumbersCardSaid :=
  Claim7.holds_tied_plain_at .later [] _ _ _ _ codeNumbers_said (fun _ h => by cases h) (by kernel_rfl) (fun _ h => by cases h) codeNumbers_row_tie rfl ⟨rfl, rfl⟩ (by kernel_rfl) rfl codeNumbers_plain (by kernel_rfl)

end Go.Proofs.YtfhfkbdaglegpaaGreatDoor
