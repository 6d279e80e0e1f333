/- For every two patches, clerestorylaw24.CodeInverse returns true and its arguments read as they did. Conditions: the arguments are together of bulk at most 1048576; the two listed package variables hold what their initialisers lay. -/
import Derived.Test.YthaoldnlleilfaaDoorCards
import Derived.OpenShut
import Derived.Deep.DeepHandedRow
import Derived.Deep.DeepWitnessRowRef
import Derived.Test.YthaoldnlleilfaaDoorCInvB
import Derived.Test.YthaoldnlleilfaaDoorCInvC
import Derived.Test.YthaoldnlleilfaaDoorCOpen
import Derived.Test.YthaoldnlleilfaaDoorCCardBase

set_option linter.unusedVariables false
set_option linter.unusedSimpArgs false

namespace Go.Proofs.YthaoldnlleilfaaDoor
open Go.RowKit Go.ChangeShapes Go.WideShapes

theorem codeInverse_all {S S' : Nat → Prop} {x y : Ph} {p q : Pt} {w : World} (hp : PtIn S w x p) (hq : PtIn S' w y q) (htab : TabOk w)
    (hsp : p.edit.frm.size + p.edit.to.size ≤ 9223372036854775807) (hsq : q.edit.frm.size + q.edit.to.size ≤ 9223372036854775807) (hlp : (ptB p).length ≤ 549755813888) (hlq : (ptB q).length ≤ 549755813888) :
    Calls Tryd.prog 4 #[.agg #[.int .u8 p.kind, .string p.file, .string p.text, .int .i64 p.hunk.at_, .slice x.h.oA p.hunk.old.length x.h.oc, .slice x.h.nA p.hunk.new.length x.h.nc, .int .u8 p.edit.kind, .slice x.e.pA p.edit.path.length x.e.pc, .int .i64 p.edit.at_, .int .i64 p.edit.far, .string p.edit.frm, .string p.edit.to, .slice x.e.oA p.edit.old.len x.e.oc, .slice x.e.nA p.edit.new.len x.e.nc], .agg #[.int .u8 q.kind, .string q.file, .string q.text, .int .i64 q.hunk.at_, .slice y.h.oA q.hunk.old.length y.h.oc, .slice y.h.nA q.hunk.new.length y.h.nc, .int .u8 q.edit.kind, .slice y.e.pA q.edit.path.length y.e.pc, .int .i64 q.edit.at_, .int .i64 q.edit.far, .string q.edit.frm, .string q.edit.to, .slice y.e.oA q.edit.old.len y.e.oc, .slice y.e.nA q.edit.new.len y.e.nc]] w fun e w' => e = .returned (.bool true) ∧ Below w.heap.size w w' := by
  by_cases hok : PtOk p
  · by_cases hqk : PtOk q
    · by_cases hpq : p = q
      · exact codeInverse_c hp hq htab hsp hsq hlp hlq hok hqk hpq
      · exact codeInverse_d hp hq htab hsp hsq hlp hlq hok hqk hpq
    · exact codeInverse_b hp hq htab hsp hsq hlp hlq hok hqk
  · exact codeInverse_a hp hq htab hsp hsq hlp hlq hok

set_option maxRecDepth 1000000 in
/-- WHAT THE WALKS GIVE, FOR EVERY ARGUMENT of a bulk that is not too great, and every world that holds the table -/
theorem inv_contract (H : Type) (enc : TypeId × Value → H) (W : World) (base : Nat) (args : Array Value) (ds gs : List (DataW H)) (before : List MemPlace)
    (hval0 : ∀ (j : Nat) t v, Tryd.f4.params[j]? = some t → args[j]? = some v → Value.okWide Tryd.prog W .any base t v)
    (hW0 : DataW.Whole enc Tryd.prog Tryd.f4.params.toList Rows.codeInverseSpec.vars false W args.toList ds gs before)
    (hk : Rows.uptoSmall H (ds ++ gs) = true) (hL : laidMetH Tryd.prog Rows.codeInverseUptoRow.laid W) :
    Calls Tryd.prog 4 args W fun e W' => ∃ v, e = .returned v ∧ Rows.codeInverseSpec.post enc Tryd.prog Tryd.f4 false true false false W args v W' := by
  have hW := hW0
  have hval := hval0
  obtain ⟨p, q, hA0, hV, rfl, _, _⟩ := hW0
  have hA : DataW.TrodAll enc Tryd.prog W 0 (fun _ => true) true Tryd.f4.params.toList args.toList ds p := hA0
  rw [Tryd.params4] at hA hval
  obtain ⟨v0, v1, d0, d1, p0, p1, rfl, rfl, rfl, h0, h1⟩ := trodAll_two hA
  obtain ⟨rfl, rfl⟩ := trodVars_none hV
  obtain ⟨cs, rfl, _⟩ := okWide_struct Tryd.underlying32 (hval 0 _ v0 rfl rfl)
  obtain ⟨cs1, rfl, _⟩ := okWide_struct Tryd.underlying32 (hval 1 _ v1 rfl rfl)
  obtain ⟨m0, f0⟩ := h0
  obtain ⟨m1, f1⟩ := h1
  obtain ⟨x, pp, ecs, hp, hlen, hsum⟩ := pt_in f0
  obtain ⟨y, qq, ecs1, hq, hlen1, hsum1⟩ := pt_in f1
  have ecs' : cs = _ := Array.toList_inj.mp ecs
  have ecs1' : cs1 = _ := Array.toList_inj.mp ecs1
  subst ecs' ecs1'
  have hbulk : Rows.uptoBulkAll ([d0, d1] ++ ([] : List (DataW H))) ≤ 1048576 := of_decide_eq_true hk
  simp only [List.append_nil, Rows.uptoBulkAll] at hbulk
  dsimp only at hlen hsum hlen1 hsum1
  refine (codeInverse_all hp hq (tab_ok hL) (by omega) (by omega) (by omega) (by omega)).mono fun e W' ⟨he, hB⟩ => ?_
  subst he
  have hlt := hW.lt
  have hs0 : ∀ z ∈ p0, W.sameAt W' z := fun z hz => hB.same (hlt z (by simp [hz]))
  have hs1 : ∀ z ∈ p1, W.sameAt W' z := fun z hz => hB.same (hlt z (by simp [hz]))
  have hold : ∀ z ∈ p0 ++ p1 ++ [], (fun b => decide (b < W.heap.size)) z.block = true := fun z hz => by simpa using hlt z hz
  refine ⟨_, rfl, _, _, _, [], p0 ++ p1, [], hW, trodAll_mk1 (shut_bool u_bool true), trodAll_mk2 (Go.WideElems.Trod_stays laid_out r_patch l_patch ⟨m0, f0⟩ hs0 (fun z hz => hold z (by simp [hz]))) (Go.WideElems.Trod_stays laid_out r_patch l_patch ⟨m1, f1⟩ hs1 (fun z hz => hold z (by simp [hz]))), rfl, hB.frame _, fun h => by cases h⟩

end Go.Proofs.YthaoldnlleilfaaDoor

namespace Go.Proofs.YthaoldnlleilfaaDoor
open Go.RowKit Go.ChangeShapes Go.WideShapes

set_option maxRecDepth 100000 in
theorem codeInverse_reads (os : Os) {H : Type} (enc : TypeId × Value → H) : (DataW.whole enc Tryd.prog ((laidWorld os).forCall (fun _ _ => 0) ⟨#[], #[.agg #[.int .u8 0, .string ⟨#[]⟩, .string ⟨#[]⟩, .int .i64 0, .slice none 0 0, .slice none 0 0, .int .u8 0, .slice none 0 0, .int .i64 0, .int .i64 0, .string ⟨#[]⟩, .string ⟨#[]⟩, .slice none 0 0, .slice none 0 0], .agg #[.int .u8 0, .string ⟨#[]⟩, .string ⟨#[]⟩, .int .i64 0, .slice none 0 0, .slice none 0 0, .int .u8 0, .slice none 0 0, .int .i64 0, .int .i64 0, .string ⟨#[]⟩, .string ⟨#[]⟩, .slice none 0 0, .slice none 0 0]], []⟩).memory Tryd.f4.params.toList Rows.codeInverseSpec.vars false #[.agg #[.int .u8 0, .string ⟨#[]⟩, .string ⟨#[]⟩, .int .i64 0, .slice none 0 0, .slice none 0 0, .int .u8 0, .slice none 0 0, .int .i64 0, .int .i64 0, .string ⟨#[]⟩, .string ⟨#[]⟩, .slice none 0 0, .slice none 0 0], .agg #[.int .u8 0, .string ⟨#[]⟩, .string ⟨#[]⟩, .int .i64 0, .slice none 0 0, .slice none 0 0, .int .u8 0, .slice none 0 0, .int .i64 0, .int .i64 0, .string ⟨#[]⟩, .string ⟨#[]⟩, .slice none 0 0, .slice none 0 0]].toList 8).map (fun x => (x.1, x.2.1)) = some ([.agg [.lit (.int .u8 0), .lit (.string []), .lit (.string []), .agg [.lit (.int .i64 0), .nil, .nil], .agg [.lit (.int .u8 0), .nil, .lit (.int .i64 0), .lit (.int .i64 0), .lit (.string []), .lit (.string []), .nil, .nil]], .agg [.lit (.int .u8 0), .lit (.string []), .lit (.string []), .agg [.lit (.int .i64 0), .nil, .nil], .agg [.lit (.int .u8 0), .nil, .lit (.int .i64 0), .lit (.int .i64 0), .lit (.string []), .lit (.string []), .nil, .nil]]], []) := by kernel_rfl
set_option maxRecDepth 100000 in
theorem codeInverse_lifted (os : Os) (started : os.Started) (H : Type) (enc : TypeId × Value → H) (F : Stop.Interp) :
    ReturnsInHanded {} Tryd.checked os 4 .any ((Rows.OpenSpec.upto Rows.codeInverseSpec).preRow enc Tryd.prog Tryd.f4 Rows.codeInverseUptoRow.domain false Rows.codeInverseUptoRow.laid) (((Rows.OpenSpec.upto Rows.codeInverseSpec).at F).post enc Tryd.prog Tryd.f4 false true false false) := by
  obtain ⟨⟨x1, x2, x3⟩, hx, hx1⟩ := Option.map_eq_some_iff.1 (codeInverse_reads os enc)
  simp only [Prod.mk.injEq] at hx1
  obtain ⟨rfl, rfl⟩ := hx1
  refine returnsInHanded_of_row (C := Tryd.checked) (s := Rows.OpenSpec.upto Rows.codeInverseSpec) own_knob started (by kernel_rfl) Tryd.func4
    (witness_row_atRef (enc := enc) (C := Tryd.checked) false (laidWorld os) #[.agg #[.int .u8 0, .string ⟨#[]⟩, .string ⟨#[]⟩, .int .i64 0, .slice none 0 0, .slice none 0 0, .int .u8 0, .slice none 0 0, .int .i64 0, .int .i64 0, .string ⟨#[]⟩, .string ⟨#[]⟩, .slice none 0 0, .slice none 0 0], .agg #[.int .u8 0, .string ⟨#[]⟩, .string ⟨#[]⟩, .int .i64 0, .slice none 0 0, .slice none 0 0, .int .u8 0, .slice none 0 0, .int .i64 0, .int .i64 0, .string ⟨#[]⟩, .string ⟨#[]⟩, .slice none 0 0, .slice none 0 0]] rfl (by kernel_rfl) (by kernel_rfl) (by kernel_rfl)
      (OpenSpec.preRow_of_cond 8 hx (by kernel_rfl) (fun k hk => by cases hk; kernel_rfl) (by kernel_rfl) (laid_met os _))) ?_
  intro W base args ds gs before hval hW _ hcond _ hL _ _
  exact inv_contract H enc W base args ds gs before hval hW (hcond _ rfl) hL
set_option maxRecDepth 100000 in
theorem codeInverse_saidUpto : Rows.CodeInverseUptoSaid :=
  OpenClaim.holds_of_cond 4 Tryd.f4 rfl rfl rfl rfl rfl rfl rfl ⟨rfl, rfl, rfl, rfl, rfl⟩ rfl rfl rfl rfl rfl (by kernel_rfl) Tryd.func4 (by kernel_rfl)
    (of_decide_eq_true (by kernel_rfl)) (by unfold Func.isWrapper; first | (rw [if_pos (by decide +kernel)]; kernel_rfl) | (rw [if_neg (by decide +kernel)]; exact ⟨rfl, rfl⟩))
    (fun os started H enc _ F => by rw [OpenClaim.pre_eq_preRow]; exact codeInverse_lifted os started H enc F)
theorem codeInverse_plain (f : FuncId) (fn : Func) (hf : Tryd.pinned.checked.prog.funcNamed "clerestory/clerestorylaw24.CodeInverse" = some f) (hfn : Tryd.pinned.checked.prog.funcs[f]? = some fn) :
    true = Tryd.pinned.checked.prog.looks [] ∧ ∀ (j : Nat) t, fn.params[j]? = some t → Tryd.pinned.checked.prog.wantsStandIn t = false := by
  obtain rfl : f = 4 := Option.some.inj ((show Tryd.prog.funcNamed "clerestory/clerestorylaw24.CodeInverse" = some 4 by kernel_rfl).symm.trans hf) |>.symm
  obtain rfl : fn = Tryd.f4 := (Option.some.inj (Tryd.func4.symm.trans hfn)).symm
  refine ⟨by kernel_rfl, fun j t ht => ?_⟩
  rw [Tryd.params4] at ht
  have hm := Array.mem_of_getElem? ht
  simp only [List.mem_toArray, List.mem_cons, List.not_mem_nil, or_false] at hm
  rcases hm with rfl | rfl
  · exact (show Tryd.prog.wantsStandIn 32 = false by kernel_rfl)
  · exact (show Tryd.prog.wantsStandIn 32 = false by kernel_rfl)
theorem codeInverse_cardUpto : Rows.CodeInverseUptoCardSaid :=
  Claim7.holds_tied_plain_at .later [] _ _ _ _ codeInverse_saidUpto (fun _ h => by cases h) (by kernel_rfl) (fun _ h => by cases h) codeInverseUpto_row_tie rfl ⟨rfl, rfl⟩ (by kernel_rfl) rfl codeInverse_plain (by kernel_rfl)

end Go.Proofs.YthaoldnlleilfaaDoor
