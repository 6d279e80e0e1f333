/- For every patch, clerestorylaw24.CodePuts returns true and its argument reads as it did. Conditions: the argument is of bulk at most 1048576; the two listed variables hold what they are laid with. -/
import Derived.Test.YtfhfkbdaglegpaaGreatDoorRows
import Derived.Test.YtfhfkbdaglegpaaGreatDoorTie
import Derived.ProofKit
import Derived.Lib.LaidTab
import Derived.LaidLaws
import Derived.WideKeyArgs
import Derived.RowKit
import Derived.Lib.LaidU8
import Derived.OpenShut
import Derived.Test.YtfhfkbdaglegpaaGreatDoorCards
import Derived.Deep.DeepHandedRow
import Derived.Deep.DeepWitnessRowRef
import Derived.Test.YtfhfkbdaglegpaaGreatDoorTPuts
import Derived.Test.YtfhfkbdaglegpaaGreatDoorTOpen
import Derived.Test.YtfhfkbdaglegpaaGreatDoorTNames

set_option linter.unusedVariables false
set_option linter.unusedSimpArgs false

namespace Go.Proofs.YtfhfkbdaglegpaaGreatDoor
open Go.RowKit

theorem own_knob : ownKnob Tryz.prog.godebug = none := by kernel_rfl
noncomputable def laidWorld (os : Os) : World :=
  let N := (World.settled Tryz.prog os).heap.size
  let w0 := World.holding Tryz.prog os ⟨#[
    .cells #[.int .u16 9, .int .u16 13, .int .u16 1, .int .u16 32, .int .u16 133, .int .u16 101, .int .u16 160, .int .u16 5760, .int .u16 5600, .int .u16 8192, .int .u16 8202, .int .u16 1, .int .u16 8232, .int .u16 8233, .int .u16 1, .int .u16 8239, .int .u16 8287, .int .u16 48, .int .u16 12288, .int .u16 12288, .int .u16 1] 276,
    .cells #[.slice (some ⟨N, 0, none⟩) 7 7, .slice none 0 0, .int .i64 2] 273], #[], []⟩
  let put (h : Array Obj) (g : Nat) (cs : Array Value) : Array Obj := h.modify g fun
    | .cells _ t frozen => .cells cs t frozen
    | o => o
  let h1 := put w0.heap 0 ((List.range 256).map fun i => Value.int .u8 (if i = 32 ∨ (9 ≤ i ∧ i ≤ 13) then 1 else 0)).toArray
  let h2 := put h1 2 #[.pointer (some ⟨N + 1, 0, none⟩)]
  { w0 with heap := h2 }
set_option maxRecDepth 100000 in
theorem laid_met (os : Os) (args : Array Value) : laidMet Tryz.prog [("unicode.White_Space", Rows.laid_unicode_White_Space), ("strings.asciiSpace", Rows.laid_strings_asciiSpace)] ((laidWorld os).forCall (fun _ _ => 0) ⟨#[], args, []⟩).memory :=
  laidMet_of_run' 12 (by kernel_rfl) (by kernel_rfl)
end Go.Proofs.YtfhfkbdaglegpaaGreatDoor

namespace Go.Proofs.YtfhfkbdaglegpaaGreatDoor
open Go.RowKit Go.ChangeShapes Go.WideShapes

theorem u_bool : Tryz.prog.underlying 4 = some .bool := by kernel_rfl
theorem laid_out : laidOutB Tryz.prog = true := by kernel_rfl
theorem r_patch : Tryz.prog.readableRec 32 = true := by kernel_rfl
theorem l_patch : (32 : TypeId) < Tryz.prog.types.size := of_decide_eq_true (by kernel_rfl)
theorem u_tab : Tryz.prog.underlying 255 = some (.array 256 5) := by kernel_rfl
theorem c_tab : Tryz.prog.cellsOf 255 = 256 := by kernel_rfl
theorem g_tab : Tryz.prog.globalNamed "strings.asciiSpace" = some 0 := by kernel_rfl
theorem gt_tab : (Tryz.prog.globals[0]?).map (·.type) = some 255 := by kernel_rfl
theorem tab_data : (Rows.laid_strings_asciiSpace : DataW Unit) = Lib.tabData .u8 Lib.asciiSpaceTab := by kernel_rfl
theorem tab_ok {W : World} (h : laidMetH Tryz.prog Rows.codePutsUptoRow.laid W) : TabOk W := by
  have h' : laidMet Tryz.prog [("unicode.White_Space", Rows.laid_unicode_White_Space), ("strings.asciiSpace", Rows.laid_strings_asciiSpace)] W := h
  obtain ⟨g', t', cs, fuel, p, hg', ht', hvar, hd⟩ := Lib.laidMet.reads h' (.tail _ (.head _))
  obtain rfl := Option.some.inj (g_tab.symm.trans hg')
  obtain rfl := Option.some.inj (gt_tab.symm.trans ht')
  rw [tab_data] at hd
  have hc := Lib.cells_of_tab u_tab u_u8 c_u8 c_tab hd
  have hT : Lib.TabIs Tryz.prog W "strings.asciiSpace" .u8 Lib.asciiSpaceTab := by
    unfold Lib.TabIs
    rw [hvar, ← hc]
  exact ⟨block_lt_of_cell (hT.cell g_tab 0 (of_decide_eq_true (by kernel_rfl))), hT⟩


set_option maxRecDepth 1000000 in
theorem puts_contract (H : Type) (enc : TypeId × Value → H) (W : World) (base : Nat) (args : Array Value) (ds gs : List (DataW H)) (before : List MemPlace)
    (hval0 : ∀ (j : Nat) t v, Tryz.f3.params[j]? = some t → args[j]? = some v → Value.okWide Tryz.prog W .any base t v)
    (hW0 : DataW.Whole enc Tryz.prog Tryz.f3.params.toList Rows.codePutsSpec.vars false W args.toList ds gs before)
    (hk : Rows.uptoSmall H (ds ++ gs) = true) (hL : laidMetH Tryz.prog Rows.codePutsUptoRow.laid W) :
    Calls Tryz.prog 3 args W fun e W' => ∃ v, e = .returned v ∧ Rows.codePutsSpec.post enc Tryz.prog Tryz.f3 false true false false W args v W' := by
  have hW := hW0
  have hval := hval0
  obtain ⟨p, q, hA0, hV, rfl, _, _⟩ := hW0
  have hA : DataW.TrodAll enc Tryz.prog W 0 (fun _ => true) true Tryz.f3.params.toList args.toList ds p := hA0
  rw [Tryz.params3] at hA hval
  obtain ⟨v0, d0, rfl, rfl, h0⟩ := trodAll_one hA
  obtain ⟨rfl, rfl⟩ := trodVars_none hV
  obtain ⟨cs, rfl, _⟩ := okWide_struct Tryz.underlying32 (hval 0 _ v0 rfl rfl)
  obtain ⟨m0, f0⟩ := h0
  obtain ⟨x, pp, ecs, hp, hlen, hsum, hall⟩ := pt_in2 f0
  have ecs' : cs = _ := Array.toList_inj.mp ecs
  subst ecs'
  have hbulk : Rows.uptoBulkAll ([d0] ++ ([] : List (DataW H))) ≤ 1048576 := of_decide_eq_true hk
  simp only [List.append_nil, Rows.uptoBulkAll] at hbulk
  dsimp only at hlen hsum hall
  obtain ⟨s1, s2, s3, s4, s5⟩ := pt_small (p := pp) (M := 1099511627776) (by omega)
  refine (codePuts_any hp (tab_ok hL) (by omega) (by omega) s1 s2 s3 s4 s5).mono fun e W' ⟨he, hB⟩ => ?_
  subst he
  have hlt := hW.lt
  have hs0 : ∀ z ∈ p, W.sameAt W' z := fun z hz => hB.same (hlt z (by simp [hz]))
  have hold : ∀ z ∈ p ++ [], (fun b => decide (b < W.heap.size)) z.block = true := fun z hz => by simpa using hlt z hz
  refine ⟨_, rfl, _, _, _, [], p, [], hW, trodAll_mk1 (shut_bool u_bool true), trodAll_mk1 (Go.WideElems.Trod_stays laid_out r_patch l_patch ⟨m0, f0⟩ hs0 (fun z hz => hold z (by simp [hz]))), rfl, hB.frame _, fun h => by cases h⟩

end Go.Proofs.YtfhfkbdaglegpaaGreatDoor

namespace Go.Proofs.YtfhfkbdaglegpaaGreatDoor
open Go.RowKit Go.ChangeShapes Go.WideShapes

set_option maxRecDepth 100000 in
theorem codePuts_reads (os : Os) {H : Type} (enc : TypeId × Value → H) : (DataW.whole enc Tryz.prog ((laidWorld os).forCall (fun _ _ => 0) ⟨#[], #[.agg #[.int .u8 0, .string ⟨#[]⟩, .string ⟨#[]⟩, .int .i64 0, .slice none 0 0, .slice none 0 0, .int .u8 0, .slice none 0 0, .int .i64 0, .int .i64 0, .string ⟨#[]⟩, .string ⟨#[]⟩, .slice none 0 0, .slice none 0 0]], []⟩).memory Tryz.f3.params.toList Rows.codePutsSpec.vars false #[.agg #[.int .u8 0, .string ⟨#[]⟩, .string ⟨#[]⟩, .int .i64 0, .slice none 0 0, .slice none 0 0, .int .u8 0, .slice none 0 0, .int .i64 0, .int .i64 0, .string ⟨#[]⟩, .string ⟨#[]⟩, .slice none 0 0, .slice none 0 0]].toList 8).map (fun x => (x.1, x.2.1)) = some ([.agg [.lit (.int .u8 0), .lit (.string []), .lit (.string []), .agg [.lit (.int .i64 0), .nil, .nil], .agg [.lit (.int .u8 0), .nil, .lit (.int .i64 0), .lit (.int .i64 0), .lit (.string []), .lit (.string []), .nil, .nil]]], []) := by kernel_rfl
set_option maxRecDepth 100000 in
theorem codePuts_lifted (os : Os) (started : os.Started) (H : Type) (enc : TypeId × Value → H) (F : Stop.Interp) :
    ReturnsInHanded {} Tryz.checked os 3 .any ((Rows.OpenSpec.upto Rows.codePutsSpec).preRow enc Tryz.prog Tryz.f3 Rows.codePutsUptoRow.domain false Rows.codePutsUptoRow.laid) (((Rows.OpenSpec.upto Rows.codePutsSpec).at F).post enc Tryz.prog Tryz.f3 false true false false) := by
  obtain ⟨⟨x1, x2, x3⟩, hx, hx1⟩ := Option.map_eq_some_iff.1 (codePuts_reads os enc)
  simp only [Prod.mk.injEq] at hx1
  obtain ⟨rfl, rfl⟩ := hx1
  refine returnsInHanded_of_row (C := Tryz.checked) (s := Rows.OpenSpec.upto Rows.codePutsSpec) own_knob started (by kernel_rfl) Tryz.func3
    (witness_row_atRef (enc := enc) (C := Tryz.checked) false (laidWorld os) #[.agg #[.int .u8 0, .string ⟨#[]⟩, .string ⟨#[]⟩, .int .i64 0, .slice none 0 0, .slice none 0 0, .int .u8 0, .slice none 0 0, .int .i64 0, .int .i64 0, .string ⟨#[]⟩, .string ⟨#[]⟩, .slice none 0 0, .slice none 0 0]] rfl (by kernel_rfl) (by kernel_rfl) (by kernel_rfl)
      (OpenSpec.preRow_of_cond 8 hx (by kernel_rfl) (fun k hk => by cases hk; kernel_rfl) (by kernel_rfl) (laid_met os _))) ?_
  intro W base args ds gs before hval hW _ hcond _ hL _ _
  exact puts_contract H enc W base args ds gs before hval hW (hcond _ rfl) hL
set_option maxRecDepth 100000 in
theorem codePuts_saidUpto : Rows.CodePutsUptoSaid :=
  OpenClaim.holds_of_cond 3 Tryz.f3 rfl rfl rfl rfl rfl rfl rfl ⟨rfl, rfl, rfl, rfl, rfl⟩ rfl rfl rfl rfl rfl (by kernel_rfl) Tryz.func3 (by kernel_rfl)
    (of_decide_eq_true (by kernel_rfl)) (by unfold Func.isWrapper; first | (rw [if_pos (by decide +kernel)]; kernel_rfl) | (rw [if_neg (by decide +kernel)]; exact ⟨rfl, rfl⟩))
    (fun os started H enc _ F => by rw [OpenClaim.pre_eq_preRow]; exact codePuts_lifted os started H enc F)
theorem codePuts_plain (f : FuncId) (fn : Func) (hf : Tryz.pinned.checked.prog.funcNamed "clerestory/clerestorylaw24.CodePuts" = some f) (hfn : Tryz.pinned.checked.prog.funcs[f]? = some fn) :
    true = Tryz.pinned.checked.prog.looks [] ∧ ∀ (j : Nat) t, fn.params[j]? = some t → Tryz.pinned.checked.prog.wantsStandIn t = false := by
  obtain rfl : f = 3 := Option.some.inj ((show Tryz.prog.funcNamed "clerestory/clerestorylaw24.CodePuts" = some 3 by kernel_rfl).symm.trans hf) |>.symm
  obtain rfl : fn = Tryz.f3 := (Option.some.inj (Tryz.func3.symm.trans hfn)).symm
  refine ⟨by kernel_rfl, fun j t ht => ?_⟩
  rw [Tryz.params3] at ht
  have hm := Array.mem_of_getElem? ht
  simp only [List.mem_toArray, List.mem_cons, List.not_mem_nil, or_false] at hm
  rcases hm with rfl
  · exact (show Tryz.prog.wantsStandIn 32 = false by kernel_rfl)
theorem codePuts_cardUpto : Rows.CodePutsUptoCardSaid :=
  Claim7.holds_tied_plain_at .later [] _ _ _ _ codePuts_saidUpto (fun _ h => by cases h) (by kernel_rfl) (fun _ h => by cases h) codePutsUpto_row_tie rfl ⟨rfl, rfl⟩ (by kernel_rfl) rfl codePuts_plain (by kernel_rfl)

end Go.Proofs.YtfhfkbdaglegpaaGreatDoor
