/- clerestorylaw28.LogNumbers returns true. Conditions: the five listed package variables hold what their initialisers lay. Printed by gen_numcard.py. -/
import Derived.Test.YtadilmijppdpoaaGreatDoorRows
import Derived.Test.YtadilmijppdpoaaGreatDoorTie
import Derived.ProofKit
import Derived.Lib.LaidTab
import Derived.LaidLaws
import Derived.Deep.DeepLaidRun
import Derived.WideKeyArgs
import Derived.RowKit
import Derived.Lib.LaidU8
import Derived.Shelf.Vars
import Derived.Test.YtadilmijppdpoaaGreatDoorCards
import Derived.OpenShut
import Derived.Deep.DeepHandedRow
import Derived.Deep.DeepWitnessRowRef
import Derived.Test.YtadilmijppdpoaaGreatDoorTOpen
import Derived.Test.YtadilmijppdpoaaGreatDoorTNames
import Derived.Test.YtadilmijppdpoaaGreatDoorTLogTells
import Derived.Test.YtadilmijppdpoaaGreatDoorTNums2

set_option linter.unusedVariables false
set_option linter.unusedSimpArgs false

namespace Go.Proofs.YtadilmijppdpoaaGreatDoor
open Go.RowKit

theorem own_knob : ownKnob Tryz.prog.godebug = none := by kernel_rfl
def flat1 : DataW Unit → List Value
  | .lit (.int k n) => [.int k n]
  | .agg l => l.flatMap fun | .lit (.int k n) => [Value.int k n] | _ => []
  | _ => []
def flat : DataW Unit → Array Value
  | .agg l => (l.flatMap flat1).toArray
  | _ => #[]
noncomputable def laidWorld (os : Os) : World :=
  let N := (World.settled Tryz.prog os).heap.size
  let w0 := World.holding Tryz.prog os ⟨#[
    .cells #[.int .u16 9, .int .u16 13, .int .u16 1, .int .u16 32, .int .u16 133, .int .u16 101, .int .u16 160, .int .u16 5760, .int .u16 5600, .int .u16 8192, .int .u16 8202, .int .u16 1, .int .u16 8232, .int .u16 8233, .int .u16 1, .int .u16 8239, .int .u16 8287, .int .u16 48, .int .u16 12288, .int .u16 12288, .int .u16 1] 173,
    .cells #[.slice (some ⟨N, 0, none⟩) 7 7, .slice none 0 0, .int .i64 2] 170], #[], []⟩
  let put (h : Array Obj) (g : Nat) (cs : Array Value) : Array Obj := h.modify g fun
    | .cells _ t frozen => .cells cs t frozen
    | o => o
  let h1 := put w0.heap 1 (flat Rows.laid_strings_asciiSpace)
  let h2 := put h1 3 #[.pointer (some ⟨N + 1, 0, none⟩)]
  let h3 := put h2 4 (flat Rows.laid_math_bits_deBruijn32tab)
  let h4 := put h3 5 (flat Rows.laid_math_bits_deBruijn64tab)
  let h5 := put h4 0 (flat Rows.laid_internal_strconv_uint64pow10)
  { w0 with heap := h5 }
set_option maxRecDepth 100000 in
theorem laid_met (os : Os) (args : Array Value) : laidMet Tryz.prog [("math/bits.deBruijn32tab", Rows.laid_math_bits_deBruijn32tab), ("math/bits.deBruijn64tab", Rows.laid_math_bits_deBruijn64tab), ("internal/strconv.uint64pow10", Rows.laid_internal_strconv_uint64pow10), ("unicode.White_Space", Rows.laid_unicode_White_Space), ("strings.asciiSpace", Rows.laid_strings_asciiSpace)] ((laidWorld os).forCall (fun _ _ => 0) ⟨#[], args, []⟩).memory :=
  laidMet_of_run3 12 (by kernel_rfl) (by kernel_rfl) (by kernel_rfl)
end Go.Proofs.YtadilmijppdpoaaGreatDoor

namespace Go.Proofs.YtadilmijppdpoaaGreatDoor
open Go.RowKit Go.ChangeShapes Go.WideShapes

theorem u_bool : Tryz.prog.underlying 4 = some .bool := by kernel_rfl
theorem laid_out : laidOutB Tryz.prog = true := by kernel_rfl
theorem r_named : Tryz.prog.readableRec 22 = true := by kernel_rfl
theorem l_named : (22 : TypeId) < Tryz.prog.types.size := of_decide_eq_true (by kernel_rfl)
theorem u_tab : Tryz.prog.underlying 148 = some (.array 256 5) := by kernel_rfl
theorem c_tab : Tryz.prog.cellsOf 148 = 256 := by kernel_rfl
theorem g_tab : Tryz.prog.globalNamed "strings.asciiSpace" = some 1 := by kernel_rfl
theorem gt_tab : (Tryz.prog.globals[1]?).map (·.type) = some 148 := by kernel_rfl
theorem tab_data : (Rows.laid_strings_asciiSpace : DataW Unit) = Lib.tabData .u8 Lib.asciiSpaceTab := by kernel_rfl
theorem u_u64 : Tryz.prog.underlying 124 = some (.int .u64) := by kernel_rfl
theorem c_u64 : Tryz.prog.cellsOf 124 = 1 := by kernel_rfl
theorem u_pow : Tryz.prog.underlying 144 = some (.array 20 124) := by kernel_rfl
theorem c_pow : Tryz.prog.cellsOf 144 = 20 := by kernel_rfl
theorem g_pow : Tryz.prog.globalNamed "internal/strconv.uint64pow10" = some 0 := by kernel_rfl
theorem gt_pow : (Tryz.prog.globals[0]?).map (·.type) = some 144 := by kernel_rfl
theorem pow_data : (Rows.laid_internal_strconv_uint64pow10 : DataW Unit) = Lib.tabData .u64 Lib.pow10Tab := by kernel_rfl
theorem laid_list {W : World} (h : laidMetH Tryz.prog Rows.logTellsUptoRow.laid W) : laidMet Tryz.prog [("math/bits.deBruijn32tab", Rows.laid_math_bits_deBruijn32tab), ("math/bits.deBruijn64tab", Rows.laid_math_bits_deBruijn64tab), ("internal/strconv.uint64pow10", Rows.laid_internal_strconv_uint64pow10), ("unicode.White_Space", Rows.laid_unicode_White_Space), ("strings.asciiSpace", Rows.laid_strings_asciiSpace)] W := h
theorem tab_ok {W : World} (h : laidMetH Tryz.prog Rows.logTellsUptoRow.laid W) : TabOk W := by
  obtain ⟨g', t', cs, fuel, p, hg', ht', hvar, hd⟩ := Lib.laidMet.reads (laid_list h) (.tail _ (.tail _ (.tail _ (.tail _ (.head _)))))
  obtain rfl := Option.some.inj (g_tab.symm.trans hg')
  obtain rfl := Option.some.inj (gt_tab.symm.trans ht')
  rw [tab_data] at hd
  have hc := Lib.cells_of_tab u_tab u_u8 c_u8 c_tab hd
  have hT : Lib.TabIs Tryz.prog W "strings.asciiSpace" .u8 Lib.asciiSpaceTab := by
    unfold Lib.TabIs
    rw [hvar, ← hc]
  exact ⟨block_lt_of_cell (hT.cell g_tab 0 (of_decide_eq_true (by kernel_rfl))), hT⟩
theorem pow_ok {W : World} (h : laidMetH Tryz.prog Rows.logTellsUptoRow.laid W) : TabP W.heap.size W := by
  obtain ⟨g', t', cs, fuel, p, hg', ht', hvar, hd⟩ := Lib.laidMet.reads (laid_list h) (.tail _ (.tail _ (.head _)))
  obtain rfl := Option.some.inj (g_pow.symm.trans hg')
  obtain rfl := Option.some.inj (gt_pow.symm.trans ht')
  rw [pow_data] at hd
  have hc := Lib.cells_of_tab u_pow u_u64 c_u64 c_pow hd
  have hT : Lib.TabIs Tryz.prog W "internal/strconv.uint64pow10" .u64 Lib.pow10Tab := by
    unfold Lib.TabIs
    rw [hvar, ← hc]
  exact ⟨block_lt_of_cell (hT.cell g_pow 0 (of_decide_eq_true (by kernel_rfl))), hT⟩
/-! ### sizes -/
theorem saidB_len {p : Pt} (h : (ptB p).length ≤ 549755813888) : (saidB p).length ≤ 22 * (ptB p).length + 200 := by
  by_cases hok : PtOk p
  · rw [said_yes hok]
    have h1 := line_room hok h
    have h2 := putsB_len (lineS p) []
    rw [(lineS_head hok).1] at h2
    simp only [List.length_nil] at h2
    omega
  · have e : saidB p = [63] := by unfold saidB; rw [if_neg hok]
    rw [e]
    simp
theorem nd_each : ∀ {l : List Nd} {d : Nd}, d ∈ l → d.name.size + (ptB d.pt).length + (d.pt.edit.frm.size + d.pt.edit.to.size) ≤ ndW l
  | e :: r, d, h => by
    rcases List.mem_cons.1 h with rfl | h
    · simp only [ndW]; omega
    · have := nd_each h
      simp only [ndW]
      omega
theorem sayAll_len : ∀ {l : List Nd}, ndW l ≤ 549755813888 → (sayAll l).length ≤ 22 * ndW l + 203 * l.length
  | [], _ => by simp [sayAll]
  | d :: r, h => by
    have hw : ndW (d :: r) = d.name.size + (ptB d.pt).length + (d.pt.edit.frm.size + d.pt.edit.to.size) + ndW r := rfl
    have ih := sayAll_len (l := r) (by omega)
    have h1 := saidB_len (p := d.pt) (by omega)
    have e1 : d.name.data.toList.length = d.name.size := rfl
    have e : (sayAll (d :: r)).length = (sayB d).length + (sayAll r).length := by simp [sayAll]
    have e2 : (sayB d).length = d.name.size + 2 + (saidB d.pt).length + 1 := by
      simp only [sayB, List.length_append, List.length_cons, List.length_nil, e1]
      omega
    rw [e, e2, hw, List.length_cons]
    omega

end Go.Proofs.YtadilmijppdpoaaGreatDoor

namespace Go.Proofs.YtadilmijppdpoaaGreatDoor
open Go.RowKit Go.ChangeShapes Go.WideShapes

set_option maxRecDepth 100000 in
theorem nums_contract (H : Type) (enc : TypeId × Value → H) (W : World) (args : Array Value) (ds gs : List (DataW H)) (before : List MemPlace)
    (hW0 : DataW.Whole enc Tryz.prog Tryz.f4.params.toList Rows.logNumbersSpec.vars false W args.toList ds gs before) (hL : laidMetH Tryz.prog Rows.logNumbersRow.laid W) :
    Calls Tryz.prog 4 args W fun e W' => ∃ v, e = .returned v ∧ Rows.logNumbersSpec.post enc Tryz.prog Tryz.f4 false true false false W args v W' := by
  have hW := hW0
  obtain ⟨p, q, hA0, hV, rfl, _, _⟩ := hW0
  have hA : DataW.TrodAll enc Tryz.prog W 0 (fun _ => true) true [] args.toList ds p := hA0
  obtain ⟨rfl, rfl, rfl⟩ := trodAll_none hA
  obtain ⟨rfl, rfl⟩ := trodVars_none hV
  refine (nums_any (tab_ok hL) (pow_ok hL)).mono fun e W' ⟨he, hB⟩ => ?_
  subst he
  exact ⟨_, rfl, _, _, _, [], [], [], hW, trodAll_mk1 (shut_bool u_bool true), trodAll_mk0, rfl, hB.frame _, fun h => by cases h⟩
set_option maxRecDepth 100000 in
theorem logNumbers_reads (os : Os) {H : Type} (enc : TypeId × Value → H) : (DataW.whole enc Tryz.prog ((laidWorld os).forCall (fun _ _ => 0) ⟨#[], #[], []⟩).memory Tryz.f4.params.toList Rows.logNumbersSpec.vars false #[].toList 8).map (fun x => (x.1, x.2.1)) = some ([], []) := by kernel_rfl
set_option maxRecDepth 100000 in
theorem logNumbers_lifted (os : Os) (started : os.Started) (H : Type) (enc : TypeId × Value → H) (F : Stop.Interp) :
    ReturnsInHanded {} Tryz.checked os 4 .any ((OpenSpec.ofChange Rows.logNumbersSpec).preRow enc Tryz.prog Tryz.f4 Rows.logNumbersRow.domain false Rows.logNumbersRow.laid) (((OpenSpec.ofChange Rows.logNumbersSpec).at F).post enc Tryz.prog Tryz.f4 false true false false) := by
  obtain ⟨⟨x1, x2, x3⟩, hx, hx1⟩ := Option.map_eq_some_iff.1 (logNumbers_reads os enc)
  simp only [Prod.mk.injEq] at hx1
  obtain ⟨rfl, rfl⟩ := hx1
  refine returnsInHanded_of_row (C := Tryz.checked) (s := OpenSpec.ofChange Rows.logNumbersSpec) own_knob started (by kernel_rfl) Tryz.func4
    (witness_row_atRef (enc := enc) (C := Tryz.checked) false (laidWorld os) #[] rfl (by kernel_rfl) (by kernel_rfl) (by kernel_rfl)
      (OpenSpec.preRow_of_cond 8 hx (by kernel_rfl) (fun k hk => by cases hk) (by kernel_rfl) (laid_met os _))) ?_
  intro W base args ds gs before _ hW _ _ _ hL _ _
  exact nums_contract H enc W args ds gs before hW hL
set_option maxRecDepth 100000 in
theorem logNumbers_said : Rows.LogNumbersSaid :=
  OpenClaim.holds_of_cond 4 Tryz.f4 rfl rfl rfl rfl rfl rfl rfl ⟨rfl, rfl, rfl, rfl, rfl⟩ rfl rfl rfl rfl rfl (by kernel_rfl) Tryz.func4 (by kernel_rfl)
    (of_decide_eq_true (by kernel_rfl)) (by unfold Func.isWrapper; first | (rw [if_pos (by decide +kernel)]; kernel_rfl) | (rw [if_neg (by decide +kernel)]; exact ⟨rfl, rfl⟩))
    (fun os started H enc _ F => by rw [OpenClaim.pre_eq_preRow]; exact logNumbers_lifted os started H enc F)
theorem logNumbers_plain (f : FuncId) (fn : Func) (hf : Tryz.pinned.checked.prog.funcNamed "clerestory/clerestorylaw28.LogNumbers" = some f) (hfn : Tryz.pinned.checked.prog.funcs[f]? = some fn) :
    false = Tryz.pinned.checked.prog.looks [] ∧ ∀ (j : Nat) t, fn.params[j]? = some t → Tryz.pinned.checked.prog.wantsStandIn t = false := by
  obtain rfl : f = 4 := Option.some.inj ((show Tryz.prog.funcNamed "clerestory/clerestorylaw28.LogNumbers" = some 4 by kernel_rfl).symm.trans hf) |>.symm
  obtain rfl : fn = Tryz.f4 := (Option.some.inj (Tryz.func4.symm.trans hfn)).symm
  refine ⟨by kernel_rfl, fun j t ht => ?_⟩
  have h0 : Tryz.f4.params = #[] := rfl
  rw [h0] at ht
  simp at ht
theorem logNumbers_card : Rows.LogNumbersCardSaid :=
  Claim7.holds_tied_plain_at .later [] _ _ _ _ logNumbers_said (fun _ h => by cases h) (by kernel_rfl) (fun _ h => by cases h) logNumbers_row_tie rfl ⟨rfl, rfl⟩ (by kernel_rfl) rfl logNumbers_plain (by kernel_rfl)

end Go.Proofs.YtadilmijppdpoaaGreatDoor
