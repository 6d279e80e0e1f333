/- For every row of named patches, clerestorylaw28.LogTells returns true and its argument reads as it did. Conditions: the argument is of bulk at most 1048576; the five listed package variables hold what their initialisers lay. -/
import Derived.Test.YtadilmijppdpoaaGreatDoorRows
import Derived.Test.YtadilmijppdpoaaGreatDoorTie
import Derived.ProofKit
import Derived.Lib.LaidTab
import Derived.LaidLaws
import Derived.Deep.DeepLaidRun
import Derived.WideKeyArgs
import Derived.RowKit
import Derived.Lib.LaidU8
import Derived.Shelf.Vars
import Derived.OpenShut
import Derived.Test.YtadilmijppdpoaaGreatDoorCards
import Derived.Deep.DeepHandedRow
import Derived.Deep.DeepWitnessRowRef
import Derived.Test.YtadilmijppdpoaaGreatDoorTOpen
import Derived.Test.YtadilmijppdpoaaGreatDoorTNames
import Derived.Test.YtadilmijppdpoaaGreatDoorTLogTells

set_option linter.unusedVariables false
set_option linter.unusedSimpArgs false

namespace Go.Proofs.YtadilmijppdpoaaGreatDoor
open Go.RowKit

theorem own_knob : ownKnob Tryz.prog.godebug = none := by kernel_rfl
def flat1 : DataW Unit → List Value
  | .lit (.int k n) => [.int k n]
  | .agg l => l.flatMap fun | .lit (.int k n) => [Value.int k n] | _ => []
  | _ => []
def flat : DataW Unit → Array Value
  | .agg l => (l.flatMap flat1).toArray
  | _ => #[]
noncomputable def laidWorld (os : Os) : World :=
  let N := (World.settled Tryz.prog os).heap.size
  let w0 := World.holding Tryz.prog os ⟨#[
    .cells #[.int .u16 9, .int .u16 13, .int .u16 1, .int .u16 32, .int .u16 133, .int .u16 101, .int .u16 160, .int .u16 5760, .int .u16 5600, .int .u16 8192, .int .u16 8202, .int .u16 1, .int .u16 8232, .int .u16 8233, .int .u16 1, .int .u16 8239, .int .u16 8287, .int .u16 48, .int .u16 12288, .int .u16 12288, .int .u16 1] 173,
    .cells #[.slice (some ⟨N, 0, none⟩) 7 7, .slice none 0 0, .int .i64 2] 170], #[], []⟩
  let put (h : Array Obj) (g : Nat) (cs : Array Value) : Array Obj := h.modify g fun
    | .cells _ t frozen => .cells cs t frozen
    | o => o
  let h1 := put w0.heap 1 (flat Rows.laid_strings_asciiSpace)
  let h2 := put h1 3 #[.pointer (some ⟨N + 1, 0, none⟩)]
  let h3 := put h2 4 (flat Rows.laid_math_bits_deBruijn32tab)
  let h4 := put h3 5 (flat Rows.laid_math_bits_deBruijn64tab)
  let h5 := put h4 0 (flat Rows.laid_internal_strconv_uint64pow10)
  { w0 with heap := h5 }
set_option maxRecDepth 100000 in
theorem laid_met (os : Os) (args : Array Value) : laidMet Tryz.prog [("math/bits.deBruijn32tab", Rows.laid_math_bits_deBruijn32tab), ("math/bits.deBruijn64tab", Rows.laid_math_bits_deBruijn64tab), ("internal/strconv.uint64pow10", Rows.laid_internal_strconv_uint64pow10), ("unicode.White_Space", Rows.laid_unicode_White_Space), ("strings.asciiSpace", Rows.laid_strings_asciiSpace)] ((laidWorld os).forCall (fun _ _ => 0) ⟨#[], args, []⟩).memory :=
  laidMet_of_run3 12 (by kernel_rfl) (by kernel_rfl) (by kernel_rfl)
end Go.Proofs.YtadilmijppdpoaaGreatDoor

namespace Go.Proofs.YtadilmijppdpoaaGreatDoor
open Go.RowKit Go.ChangeShapes Go.WideShapes

theorem u_bool : Tryz.prog.underlying 4 = some .bool := by kernel_rfl
theorem laid_out : laidOutB Tryz.prog = true := by kernel_rfl
theorem r_named : Tryz.prog.readableRec 22 = true := by kernel_rfl
theorem l_named : (22 : TypeId) < Tryz.prog.types.size := of_decide_eq_true (by kernel_rfl)
theorem u_tab : Tryz.prog.underlying 148 = some (.array 256 5) := by kernel_rfl
theorem c_tab : Tryz.prog.cellsOf 148 = 256 := by kernel_rfl
theorem g_tab : Tryz.prog.globalNamed "strings.asciiSpace" = some 1 := by kernel_rfl
theorem gt_tab : (Tryz.prog.globals[1]?).map (·.type) = some 148 := by kernel_rfl
theorem tab_data : (Rows.laid_strings_asciiSpace : DataW Unit) = Lib.tabData .u8 Lib.asciiSpaceTab := by kernel_rfl
theorem u_u64 : Tryz.prog.underlying 124 = some (.int .u64) := by kernel_rfl
theorem c_u64 : Tryz.prog.cellsOf 124 = 1 := by kernel_rfl
theorem u_pow : Tryz.prog.underlying 144 = some (.array 20 124) := by kernel_rfl
theorem c_pow : Tryz.prog.cellsOf 144 = 20 := by kernel_rfl
theorem g_pow : Tryz.prog.globalNamed "internal/strconv.uint64pow10" = some 0 := by kernel_rfl
theorem gt_pow : (Tryz.prog.globals[0]?).map (·.type) = some 144 := by kernel_rfl
theorem pow_data : (Rows.laid_internal_strconv_uint64pow10 : DataW Unit) = Lib.tabData .u64 Lib.pow10Tab := by kernel_rfl
theorem laid_list {W : World} (h : laidMetH Tryz.prog Rows.logTellsUptoRow.laid W) : laidMet Tryz.prog [("math/bits.deBruijn32tab", Rows.laid_math_bits_deBruijn32tab), ("math/bits.deBruijn64tab", Rows.laid_math_bits_deBruijn64tab), ("internal/strconv.uint64pow10", Rows.laid_internal_strconv_uint64pow10), ("unicode.White_Space", Rows.laid_unicode_White_Space), ("strings.asciiSpace", Rows.laid_strings_asciiSpace)] W := h
theorem tab_ok {W : World} (h : laidMetH Tryz.prog Rows.logTellsUptoRow.laid W) : TabOk W := by
  obtain ⟨g', t', cs, fuel, p, hg', ht', hvar, hd⟩ := Lib.laidMet.reads (laid_list h) (.tail _ (.tail _ (.tail _ (.tail _ (.head _)))))
  obtain rfl := Option.some.inj (g_tab.symm.trans hg')
  obtain rfl := Option.some.inj (gt_tab.symm.trans ht')
  rw [tab_data] at hd
  have hc := Lib.cells_of_tab u_tab u_u8 c_u8 c_tab hd
  have hT : Lib.TabIs Tryz.prog W "strings.asciiSpace" .u8 Lib.asciiSpaceTab := by
    unfold Lib.TabIs
    rw [hvar, ← hc]
  exact ⟨block_lt_of_cell (hT.cell g_tab 0 (of_decide_eq_true (by kernel_rfl))), hT⟩
theorem pow_ok {W : World} (h : laidMetH Tryz.prog Rows.logTellsUptoRow.laid W) : TabP W.heap.size W := by
  obtain ⟨g', t', cs, fuel, p, hg', ht', hvar, hd⟩ := Lib.laidMet.reads (laid_list h) (.tail _ (.tail _ (.head _)))
  obtain rfl := Option.some.inj (g_pow.symm.trans hg')
  obtain rfl := Option.some.inj (gt_pow.symm.trans ht')
  rw [pow_data] at hd
  have hc := Lib.cells_of_tab u_pow u_u64 c_u64 c_pow hd
  have hT : Lib.TabIs Tryz.prog W "internal/strconv.uint64pow10" .u64 Lib.pow10Tab := by
    unfold Lib.TabIs
    rw [hvar, ← hc]
  exact ⟨block_lt_of_cell (hT.cell g_pow 0 (of_decide_eq_true (by kernel_rfl))), hT⟩
/-! ### sizes -/
theorem saidB_len {p : Pt} (h : (ptB p).length ≤ 549755813888) : (saidB p).length ≤ 22 * (ptB p).length + 200 := by
  by_cases hok : PtOk p
  · rw [said_yes hok]
    have h1 := line_room hok h
    have h2 := putsB_len (lineS p) []
    rw [(lineS_head hok).1] at h2
    simp only [List.length_nil] at h2
    omega
  · have e : saidB p = [63] := by unfold saidB; rw [if_neg hok]
    rw [e]
    simp
theorem nd_each : ∀ {l : List Nd} {d : Nd}, d ∈ l → d.name.size + (ptB d.pt).length + (d.pt.edit.frm.size + d.pt.edit.to.size) ≤ ndW l
  | e :: r, d, h => by
    rcases List.mem_cons.1 h with rfl | h
    · simp only [ndW]; omega
    · have := nd_each h
      simp only [ndW]
      omega
theorem sayAll_len : ∀ {l : List Nd}, ndW l ≤ 549755813888 → (sayAll l).length ≤ 22 * ndW l + 203 * l.length
  | [], _ => by simp [sayAll]
  | d :: r, h => by
    have hw : ndW (d :: r) = d.name.size + (ptB d.pt).length + (d.pt.edit.frm.size + d.pt.edit.to.size) + ndW r := rfl
    have ih := sayAll_len (l := r) (by omega)
    have h1 := saidB_len (p := d.pt) (by omega)
    have e1 : d.name.data.toList.length = d.name.size := rfl
    have e : (sayAll (d :: r)).length = (sayB d).length + (sayAll r).length := by simp [sayAll]
    have e2 : (sayB d).length = d.name.size + 2 + (saidB d.pt).length + 1 := by
      simp only [sayB, List.length_append, List.length_cons, List.length_nil, e1]
      omega
    rw [e, e2, hw, List.length_cons]
    omega

end Go.Proofs.YtadilmijppdpoaaGreatDoor

namespace Go.Proofs.YtadilmijppdpoaaGreatDoor
open Go.RowKit Go.ChangeShapes Go.WideShapes

set_option maxRecDepth 100000 in
theorem tells_contract (H : Type) (enc : TypeId × Value → H) (W : World) (base : Nat) (args : Array Value) (ds gs : List (DataW H)) (before : List MemPlace)
    (hval0 : ∀ (j : Nat) t v, Tryz.f3.params[j]? = some t → args[j]? = some v → Value.okWide Tryz.prog W .any base t v)
    (hW0 : DataW.Whole enc Tryz.prog Tryz.f3.params.toList Rows.logTellsSpec.vars false W args.toList ds gs before)
    (hk : Rows.uptoSmall H (ds ++ gs) = true) (hL : laidMetH Tryz.prog Rows.logTellsUptoRow.laid W) :
    Calls Tryz.prog 3 args W fun e W' => ∃ v, e = .returned v ∧ Rows.logTellsSpec.post enc Tryz.prog Tryz.f3 false true false false W args v W' := by
  have hW := hW0
  have hval := hval0
  obtain ⟨p, q, hA0, hV, rfl, _, _⟩ := hW0
  have hA : DataW.TrodAll enc Tryz.prog W 0 (fun _ => true) true Tryz.f3.params.toList args.toList ds p := hA0
  rw [Tryz.params3] at hA hval
  obtain ⟨v0, d0, rfl, rfl, h0⟩ := trodAll_one hA
  obtain ⟨rfl, rfl⟩ := trodVars_none hV
  obtain ⟨A, len, c, rfl⟩ := okWide_slice u_nameds (hval 0 _ v0 rfl rfl)
  obtain ⟨m0, f0⟩ := h0
  obtain ⟨A2, l, c2, e0, hl, _, _, hA2, hw, hn, hsm⟩ := nds_in2 f0
  have e0' : [Value.slice A len c] = _ := e0
  simp only [List.cons.injEq, Value.slice.injEq, and_true] at e0'
  obtain ⟨rfl, rfl, rfl⟩ := e0'
  have hbulk : Rows.uptoBulkAll ([d0] ++ ([] : List (DataW H))) ≤ 1048576 := of_decide_eq_true hk
  simp only [List.append_nil, Rows.uptoBulkAll] at hbulk
  dsimp only at hw hn hsm
  have hfit : NdFit l := fun d hd => by
    have := nd_each hd
    exact ⟨by omega, by omega⟩
  have hs : NdSmall l := fun d hd => pt_small (M := 1099511627776) (by have := hsm d hd; omega)
  have q1 := sayAll_len (l := l) (by omega)
  refine (logTells_any hl (by omega) hs (tab_ok hL) (pow_ok hL) hfit (by omega)).mono fun e W' ⟨he, hB⟩ => ?_
  subst he
  have hlt := hW.lt
  have hs0 : ∀ z ∈ p, W.sameAt W' z := fun z hz => hB.same (hlt z (by simp [hz]))
  have hold : ∀ z ∈ p ++ [], (fun b => decide (b < W.heap.size)) z.block = true := fun z hz => by simpa using hlt z hz
  refine ⟨_, rfl, _, _, _, [], p, [], hW, trodAll_mk1 (shut_bool u_bool true), trodAll_mk1 (Go.WideElems.Trod_stays laid_out r_named l_named ⟨m0, f0⟩ hs0 (fun z hz => hold z (by simp [hz]))), rfl, hB.frame _, fun h => by cases h⟩

end Go.Proofs.YtadilmijppdpoaaGreatDoor

namespace Go.Proofs.YtadilmijppdpoaaGreatDoor
open Go.RowKit Go.ChangeShapes Go.WideShapes

set_option maxRecDepth 100000 in
theorem logTells_reads (os : Os) {H : Type} (enc : TypeId × Value → H) : (DataW.whole enc Tryz.prog ((laidWorld os).forCall (fun _ _ => 0) ⟨#[], #[.slice none 0 0], []⟩).memory Tryz.f3.params.toList Rows.logTellsSpec.vars false #[.slice none 0 0].toList 8).map (fun x => (x.1, x.2.1)) = some ([.nil], []) := by kernel_rfl
set_option maxRecDepth 100000 in
theorem logTells_lifted (os : Os) (started : os.Started) (H : Type) (enc : TypeId × Value → H) (F : Stop.Interp) :
    ReturnsInHanded {} Tryz.checked os 3 .any ((Rows.OpenSpec.upto Rows.logTellsSpec).preRow enc Tryz.prog Tryz.f3 Rows.logTellsUptoRow.domain false Rows.logTellsUptoRow.laid) (((Rows.OpenSpec.upto Rows.logTellsSpec).at F).post enc Tryz.prog Tryz.f3 false true false false) := by
  obtain ⟨⟨x1, x2, x3⟩, hx, hx1⟩ := Option.map_eq_some_iff.1 (logTells_reads os enc)
  simp only [Prod.mk.injEq] at hx1
  obtain ⟨rfl, rfl⟩ := hx1
  refine returnsInHanded_of_row (C := Tryz.checked) (s := Rows.OpenSpec.upto Rows.logTellsSpec) own_knob started (by kernel_rfl) Tryz.func3
    (witness_row_atRef (enc := enc) (C := Tryz.checked) false (laidWorld os) #[.slice none 0 0] rfl (by kernel_rfl) (by kernel_rfl) (by kernel_rfl)
      (OpenSpec.preRow_of_cond 8 hx (by kernel_rfl) (fun k hk => by cases hk; kernel_rfl) (by kernel_rfl) (laid_met os _))) ?_
  intro W base args ds gs before hval hW _ hcond _ hL hS _
  exact tells_contract H enc W base args ds gs before hval hW (hcond _ rfl) hL
set_option maxRecDepth 100000 in
theorem logTells_saidUpto : Rows.LogTellsUptoSaid :=
  OpenClaim.holds_of_cond 3 Tryz.f3 rfl rfl rfl rfl rfl rfl rfl ⟨rfl, rfl, rfl, rfl, rfl⟩ rfl rfl rfl rfl rfl (by kernel_rfl) Tryz.func3 (by kernel_rfl)
    (of_decide_eq_true (by kernel_rfl)) (by unfold Func.isWrapper; first | (rw [if_pos (by decide +kernel)]; kernel_rfl) | (rw [if_neg (by decide +kernel)]; exact ⟨rfl, rfl⟩))
    (fun os started H enc _ F => by rw [OpenClaim.pre_eq_preRow]; exact logTells_lifted os started H enc F)
theorem logTells_plain (f : FuncId) (fn : Func) (hf : Tryz.pinned.checked.prog.funcNamed "clerestory/clerestorylaw28.LogTells" = some f) (hfn : Tryz.pinned.checked.prog.funcs[f]? = some fn) :
    false = Tryz.pinned.checked.prog.looks [] ∧ ∀ (j : Nat) t, fn.params[j]? = some t → Tryz.pinned.checked.prog.wantsStandIn t = false := by
  obtain rfl : f = 3 := Option.some.inj ((show Tryz.prog.funcNamed "clerestory/clerestorylaw28.LogTells" = some 3 by kernel_rfl).symm.trans hf) |>.symm
  obtain rfl : fn = Tryz.f3 := (Option.some.inj (Tryz.func3.symm.trans hfn)).symm
  refine ⟨by kernel_rfl, fun j t ht => ?_⟩
  rw [Tryz.params3] at ht
  have hm := Array.mem_of_getElem? ht
  simp only [List.mem_toArray, List.mem_cons, List.not_mem_nil, or_false] at hm
  rcases hm with rfl
  · exact (show Tryz.prog.wantsStandIn 22 = false by kernel_rfl)
theorem logTells_cardUpto : Rows.LogTellsUptoCardSaid :=
  Claim7.holds_tied_plain_at .later [] _ _ _ _ logTells_saidUpto (fun _ h => by cases h) (by kernel_rfl) (fun _ h => by cases h) logTellsUpto_row_tie rfl ⟨rfl, rfl⟩ (by kernel_rfl) rfl logTells_plain (by kernel_rfl)

end Go.Proofs.YtadilmijppdpoaaGreatDoor
