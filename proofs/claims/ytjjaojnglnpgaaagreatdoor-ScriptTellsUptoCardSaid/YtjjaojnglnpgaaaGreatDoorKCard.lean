/- For every answer, clerestorylaw31.ScriptTells returns true and its argument reads as it did. Conditions: the argument is of bulk at most 1048576; the seven listed package variables hold what their initialisers lay. -/
import Derived.WideKeyArgs
import Derived.RowKit
import Derived.Lib.LaidTab
import Derived.Lib.LaidU8
import Derived.Shelf.Vars
import Derived.OpenShut
import Derived.Test.YtjjaojnglnpgaaaGreatDoorCards
import Derived.Deep.DeepHandedRow
import Derived.Deep.DeepWitnessRowRef
import Derived.Test.YtjjaojnglnpgaaaGreatDoorKOpen
import Derived.Test.YtjjaojnglnpgaaaGreatDoorKTell
import Derived.Test.YtjjaojnglnpgaaaGreatDoorKScrAwake
import Derived.Test.YtjjaojnglnpgaaaGreatDoorKScrCardBase
import Derived.Test.YtjjaojnglnpgaaaGreatDoorKScrFacts

set_option linter.unusedVariables false
set_option linter.unusedSimpArgs false

namespace Go.Proofs.YtjjaojnglnpgaaaGreatDoor
open Go.RowKit Go.ChangeShapes Go.WideShapes

theorem bulk_strs2 {H : Type} : ∀ ss : List ByteArray, (ss.map fun s => s.size + 1).sum = Rows.uptoBulkAll (H := H) (strs ss)
  | [] => rfl
  | s :: ss => by
    have h := bulk_strs2 (H := H) ss
    have e : strs (H := H) (s :: ss) = .lit (.string s.data.toList) :: strs ss := rfl
    rw [e]
    simp only [Rows.uptoBulkAll, bulk_str, List.map_cons, List.sum_cons, h]
section
variable {P : Program} {H : Type} {enc : TypeId × Value → H} {w : World} {spare : Nat → Bool} {held : Bool} {t e : TypeId} {fuel : Nat} {cs : List Value} {x : DataW H × List MemPlace}
theorem strs_in2 (ht : P.underlying t = some (.slice e)) (he : P.underlying e = some .string) (hc : P.cellsOf e = 1) (h : DataW.trod enc P w 0 spare held fuel t cs = some x) :
    ∃ A l c, cs = [.slice A l.length c] ∧ StrsIn (fun _ => True) w A l ∧ l.length ≤ c ∧ c ≤ 9223372036854775807 ∧ (l.map fun s => s.size + 1).sum ≤ Rows.uptoBulk x.1 := by
  have h8 : ∀ n : Int, (num8 n).length = 8 := fun n => rfl
  rcases open_strings ht he hc h with ⟨rfl, rfl⟩ | ⟨a, len, cap, ss, rfl, _, hl, hm, hss, rfl, hcell, hsz⟩
  · exact ⟨none, [], 0, rfl, ⟨.inl rfl, by simp, by simp⟩, by simp, by simp, by simp⟩
  · have hle : len ≤ ss.length := by rw [hss]; split <;> omega
    have hlen : (ss.take len).length = len := by simp; omega
    have hm' : cap ≤ 9223372036854775807 := by unfold maxLen at hm; omega
    refine ⟨some a, ss.take len, cap, by rw [hlen], ⟨row_rd ?_, ?_, by omega⟩, by omega, hm', ?_⟩
    · intro i u hu
      have hi : i < len := by have := (List.getElem?_eq_some_iff.1 hu).1; simp at this; omega
      have h1 := hcell i (by omega)
      rw [h1]
      have h2 : ss[i]? = some ss[i] := by simp [show i < ss.length by omega]
      rw [List.getElem?_map, List.getElem?_take, if_pos hi, h2] at hu
      injection hu with hu
      rw [← hu, List.getD, h2]
      rfl
    · intro s hs
      have := hsz s (List.mem_of_mem_take hs)
      unfold maxLen at this
      omega
    · have h1 := bulk_strs2 (H := H) (ss.take len)
      have h2 := bulk_slice (H := H) (strs (ss.take len)) (strs (ss.drop len))
      exact Nat.le_trans (Nat.le_of_eq h1) (Nat.le_of_succ_le h2)
theorem bytes_in2 (ht : P.underlying t = some (.slice e)) (he : P.underlying e = some (.int .u8)) (hc : P.cellsOf e = 1) (h : DataW.trod enc P w 0 spare held fuel t cs = some x) :
    ∃ A l c, cs = [.slice A l.length c] ∧ BytesIn (fun _ => True) w A l ∧ l.length ≤ c ∧ c ≤ 9223372036854775807 ∧ l.length ≤ Rows.uptoBulk x.1 := by
  rcases open_ints ht he hc h with ⟨rfl, rfl⟩ | ⟨a, len, cap, ss, rfl, _, hl, hm, hss, rfl, hcell, hsz⟩
  · exact ⟨none, [], 0, rfl, ⟨.inl rfl, by simp⟩, by simp, by simp, by simp⟩
  · have hle : len ≤ ss.length := by rw [hss]; split <;> omega
    have hm' : cap ≤ 9223372036854775807 := by unfold maxLen at hm; omega
    have hlen : ((ss.take len).map fun z => UInt8.ofNat z.toNat).length = len := by simp; omega
    refine ⟨some a, (ss.take len).map fun z => UInt8.ofNat z.toNat, cap, by rw [hlen], ⟨row_rd ?_, by omega⟩, by omega, hm', by
      have h1 := bulk_lits (H := H) (k := .u8) (ss.take len)
      have h2 := bulk_slice (H := H) (lits .u8 (ss.take len)) (lits .u8 (ss.drop len))
      exact Nat.le_trans (Nat.le_trans (Nat.le_of_eq (List.length_map _)) h1) (Nat.le_of_succ_le h2)⟩
    intro i u hu
    have hi : i < len := by have := (List.getElem?_eq_some_iff.1 hu).1; simp [bytesV] at this; omega
    have h1 := hcell i (by omega)
    rw [h1]
    have h2 : ss[i]? = some ss[i] := by simp [show i < ss.length by omega]
    obtain ⟨z, hz, hz2⟩ := wf_u8 (hsz ss[i] (List.getElem_mem _))
    simp only [bytesV, List.map_map, List.getElem?_map, List.getElem?_take, if_pos hi, h2, Option.map_some, Option.some.injEq, Function.comp] at hu
    rw [← hu, List.getD, h2]
    have h6 : ((UInt8.ofNat ss[i].toNat).toNat : Int) = ss[i] := by
      rw [hz, Int.toNat_natCast, UInt8.toNat_ofNat']
      omega
    simp only [Option.getD_some, h6]

end
theorem u_err : Tryz.prog.underlying 24 = some (.int .i64) := by kernel_rfl
theorem c_err : Tryz.prog.cellsOf 24 = 1 := by kernel_rfl
theorem c_byt : Tryz.prog.cellsOf 44 = 1 := by kernel_rfl
theorem c_ans : Tryz.prog.cellsOf 53 = 4 := by kernel_rfl
section
variable {H : Type} {enc : TypeId × Value → H} {w : World} {spare : Nat → Bool} {held : Bool}
theorem an_in {m : Nat} {cs : List Value} {x : DataW H × List MemPlace} (h : DataW.trod enc Tryz.prog w 0 spare held m 53 cs = some x) :
    ∃ (xx : Ah) (a : An), cs = [.int .i64 a.err, .slice xx.nA a.names.length xx.nc, .string a.text, .slice xx.bA a.bytes.length xx.bc] ∧ AnIn (fun _ => True) w xx a ∧ a.bulk ≤ Rows.uptoBulk x.1 := by
  obtain ⟨xs, n, rfl, rfl, hl, hlen, hf⟩ := DataW.trod_struct Tryz.underlying53 h
  rw [c_ans] at hl
  obtain ⟨c0, c1, c2, c3, rfl⟩ := list4 hl
  obtain ⟨y0, y1, y2, y3, rfl⟩ := list4 hlen
  have f0 : DataW.trod enc Tryz.prog w 0 spare held n 24 (List.take (Tryz.prog.cellsOf 24) (List.drop 0 [c0, c1, c2, c3])) = some y0 := hf 0 _ rfl
  rw [c_err] at f0
  have f0 : DataW.trod enc Tryz.prog w 0 spare held n 24 [c0] = some y0 := f0
  have f1 : DataW.trod enc Tryz.prog w 0 spare held n 34 (List.take (Tryz.prog.cellsOf 34) (List.drop 1 [c0, c1, c2, c3])) = some y1 := hf 1 _ rfl
  rw [c_strs] at f1
  have f1 : DataW.trod enc Tryz.prog w 0 spare held n 34 [c1] = some y1 := f1
  have f2 : DataW.trod enc Tryz.prog w 0 spare held n 9 (List.take (Tryz.prog.cellsOf 9) (List.drop 2 [c0, c1, c2, c3])) = some y2 := hf 2 _ rfl
  rw [c_str] at f2
  have f2 : DataW.trod enc Tryz.prog w 0 spare held n 9 [c2] = some y2 := f2
  have f3 : DataW.trod enc Tryz.prog w 0 spare held n 44 (List.take (Tryz.prog.cellsOf 44) (List.drop 3 [c0, c1, c2, c3])) = some y3 := hf 3 _ rfl
  rw [c_byt] at f3
  have f3 : DataW.trod enc Tryz.prog w 0 spare held n 44 [c3] = some y3 := f3
  obtain ⟨k, e0, hx0, w0⟩ := DataW.trod_int u_err f0
  obtain ⟨A1, l1, k1, e1, g1, g2, g3, g4⟩ := strs_in2 u_strs u_str c_str f1
  obtain ⟨tx, e2, hx2, w2⟩ := DataW.trod_string u_str f2
  obtain ⟨A3, l3, k3, e3, i1, i2, i3, i4⟩ := bytes_in2 u_bytes u_u8 c_u8 f3
  injection e0 with e0
  injection e1 with e1
  injection e2 with e2
  injection e3 with e3
  subst e0 e1 e2 e3 hx0 hx2
  refine ⟨⟨A1, k1, A3, k3⟩, ⟨k, l1, tx, l3⟩, rfl, ⟨wf_i64 w0, g1, sz63 w2, i1, ⟨g2, g3⟩, ⟨i2, i3⟩⟩, ?_⟩
  simp only [An.bulk, List.map_cons, List.map_nil, Rows.uptoBulk, Rows.uptoBulkAll, bulk_str] at g4 i4 ⊢
  have htx : tx.data.toList.length = tx.size := rfl
  omega
end

end Go.Proofs.YtjjaojnglnpgaaaGreatDoor

namespace Go.Proofs.YtjjaojnglnpgaaaGreatDoor
open Go.RowKit Go.ChangeShapes Go.WideShapes

theorem u_bool : Tryz.prog.underlying 4 = some .bool := by kernel_rfl
theorem laid_out : laidOutB Tryz.prog = true := by kernel_rfl
theorem r_ans : Tryz.prog.readableRec 53 = true := by kernel_rfl
theorem l_ans : (53 : TypeId) < Tryz.prog.types.size := of_decide_eq_true (by kernel_rfl)
theorem u_tab : Tryz.prog.underlying 314 = some (.array 256 5) := by kernel_rfl
theorem c_tab : Tryz.prog.cellsOf 314 = 256 := by kernel_rfl
theorem g_tab : Tryz.prog.globalNamed "strings.asciiSpace" = some 5 := by kernel_rfl
theorem gt_tab : (Tryz.prog.globals[5]?).map (·.type) = some 314 := by kernel_rfl
theorem tab_data : (Rows.laid_strings_asciiSpace : DataW Unit) = Lib.tabData .u8 Lib.asciiSpaceTab := by kernel_rfl
theorem u_u64 : Tryz.prog.underlying 192 = some (.int .u64) := by kernel_rfl
theorem c_u64 : Tryz.prog.cellsOf 192 = 1 := by kernel_rfl
theorem u_pow : Tryz.prog.underlying 336 = some (.array 20 192) := by kernel_rfl
theorem c_pow : Tryz.prog.cellsOf 336 = 20 := by kernel_rfl
theorem g_pow : Tryz.prog.globalNamed "internal/strconv.uint64pow10" = some 4 := by kernel_rfl
theorem gt_pow : (Tryz.prog.globals[4]?).map (·.type) = some 336 := by kernel_rfl
theorem pow_data : (Rows.laid_internal_strconv_uint64pow10 : DataW Unit) = Lib.tabData .u64 Lib.pow10Tab := by kernel_rfl
theorem laid_list {W : World} (h : laidMetH Tryz.prog Rows.scriptTellsUptoRow.laid W) : laidMet Tryz.prog [("math/bits.deBruijn32tab", Rows.laid_math_bits_deBruijn32tab), ("math/bits.deBruijn64tab", Rows.laid_math_bits_deBruijn64tab), ("internal/strconv.uint64pow10", Rows.laid_internal_strconv_uint64pow10), ("unicode/utf8.acceptRanges", Rows.laid_unicode_utf8_acceptRanges), ("unicode.White_Space", Rows.laid_unicode_White_Space), ("strings.asciiSpace", Rows.laid_strings_asciiSpace), ("unicode/utf8.first", Rows.laid_unicode_utf8_first)] W := h
theorem tab_ok {W : World} (h : laidMetH Tryz.prog Rows.scriptTellsUptoRow.laid W) : TabOk W := by
  obtain ⟨g', t', cs, fuel, p, hg', ht', hvar, hd⟩ := Lib.laidMet.reads (laid_list h) (.tail _ (.tail _ (.tail _ (.tail _ (.tail _ (.head _))))))
  obtain rfl := Option.some.inj (g_tab.symm.trans hg')
  obtain rfl := Option.some.inj (gt_tab.symm.trans ht')
  rw [tab_data] at hd
  have hc := Lib.cells_of_tab u_tab u_u8 c_u8 c_tab hd
  have hT : Lib.TabIs Tryz.prog W "strings.asciiSpace" .u8 Lib.asciiSpaceTab := by
    unfold Lib.TabIs
    rw [hvar, ← hc]
  exact ⟨block_lt_of_cell (hT.cell g_tab 0 (of_decide_eq_true (by kernel_rfl))), hT⟩
theorem pow_ok {W : World} (h : laidMetH Tryz.prog Rows.scriptTellsUptoRow.laid W) : PowTab W := by
  obtain ⟨g', t', cs, fuel, p, hg', ht', hvar, hd⟩ := Lib.laidMet.reads (laid_list h) (.tail _ (.tail _ (.head _)))
  obtain rfl := Option.some.inj (g_pow.symm.trans hg')
  obtain rfl := Option.some.inj (gt_pow.symm.trans ht')
  rw [pow_data] at hd
  have hc := Lib.cells_of_tab u_pow u_u64 c_u64 c_pow hd
  have hT : Lib.TabIs Tryz.prog W "internal/strconv.uint64pow10" .u64 Lib.pow10Tab := by
    unfold Lib.TabIs
    rw [hvar, ← hc]
  exact ⟨block_lt_of_cell (hT.cell g_pow 0 (of_decide_eq_true (by kernel_rfl))), hT⟩
theorem max_ok {W : World} (h : W.ShapedOpen Tryz.prog) : MaxOkS W := by
  obtain ⟨m, hm⟩ := cell_of_shapedOpen_int (g := 0) (t := 3) (zero := #[.int .i64 0]) (k := .i64) h (of_decide_eq_true (by kernel_rfl)) (by kernel_rfl) rfl (by kernel_rfl) (by kernel_rfl) (by kernel_rfl)
  exact ⟨block_lt_of_cell hm, m, hm⟩


set_option maxRecDepth 100000 in
theorem tells31_contract (H : Type) (enc : TypeId × Value → H) (W : World) (base : Nat) (args : Array Value) (ds gs : List (DataW H)) (before : List MemPlace)
    (hval0 : ∀ (j : Nat) t v, Tryz.f5.params[j]? = some t → args[j]? = some v → Value.okWide Tryz.prog W .any base t v)
    (hW0 : DataW.Whole enc Tryz.prog Tryz.f5.params.toList Rows.scriptTellsSpec.vars false W args.toList ds gs before)
    (hk : Rows.uptoSmall H (ds ++ gs) = true) (hL : laidMetH Tryz.prog Rows.scriptTellsUptoRow.laid W) (hS : W.ShapedOpen Tryz.prog) :
    Calls Tryz.prog 5 args W fun e W' => ∃ v, e = .returned v ∧ Rows.scriptTellsSpec.post enc Tryz.prog Tryz.f5 false true false false W args v W' := by
  have hW := hW0
  have hval := hval0
  obtain ⟨p, q, hA0, hV, rfl, _, _⟩ := hW0
  have hA : DataW.TrodAll enc Tryz.prog W 0 (fun _ => true) true Tryz.f5.params.toList args.toList ds p := hA0
  rw [Tryz.params5] at hA hval
  obtain ⟨v0, d0, rfl, rfl, h0⟩ := trodAll_one hA
  obtain ⟨rfl, rfl⟩ := trodVars_none hV
  obtain ⟨cs, rfl, _⟩ := okWide_struct Tryz.underlying53 (hval 0 _ v0 rfl rfl)
  obtain ⟨m0, f0⟩ := h0
  obtain ⟨x, a, ecs, ha, hbk⟩ := an_in f0
  have ecs' : cs = _ := Array.toList_inj.mp ecs
  subst ecs'
  have hbulk : Rows.uptoBulkAll ([d0] ++ ([] : List (DataW H))) ≤ 1048576 := of_decide_eq_true hk
  simp only [List.append_nil, Rows.uptoBulkAll] at hbulk
  dsimp only at hbk
  refine (scriptTells_of ha (pow_ok hL) (by omega) (fun W1 hW1 => awake31_any ((max_ok hS).below hW1) ((tab_ok hL).below hW1) ((pow_ok hL).below hW1))).mono fun e W' ⟨he, hB⟩ => ?_
  subst he
  have hlt := hW.lt
  have hs0 : ∀ z ∈ p, W.sameAt W' z := fun z hz => hB.same (hlt z (by simp [hz]))
  have hold : ∀ z ∈ p ++ [], (fun b => decide (b < W.heap.size)) z.block = true := fun z hz => by simpa using hlt z hz
  refine ⟨_, rfl, _, _, _, [], p, [], hW, trodAll_mk1 (shut_bool u_bool true), trodAll_mk1 (Go.WideElems.Trod_stays laid_out r_ans l_ans ⟨m0, f0⟩ hs0 (fun z hz => hold z (by simp [hz]))), rfl, hB.frame _, fun h => by cases h⟩

end Go.Proofs.YtjjaojnglnpgaaaGreatDoor

namespace Go.Proofs.YtjjaojnglnpgaaaGreatDoor
open Go.RowKit Go.ChangeShapes Go.WideShapes

set_option maxRecDepth 100000 in
theorem scriptTells_reads (os : Os) {H : Type} (enc : TypeId × Value → H) : (DataW.whole enc Tryz.prog ((laidWorld os).forCall (fun _ _ => 0) ⟨#[], #[.agg #[.int .i64 0, .slice none 0 0, .string { data := #[] }, .slice none 0 0]], []⟩).memory Tryz.f5.params.toList Rows.scriptTellsSpec.vars false #[.agg #[.int .i64 0, .slice none 0 0, .string { data := #[] }, .slice none 0 0]].toList 8).map (fun x => (x.1, x.2.1)) = some ([.agg [.lit (.int .i64 0), .nil, .lit (.string []), .nil]], []) := by kernel_rfl
set_option maxRecDepth 100000 in
theorem scriptTells_lifted (os : Os) (started : os.Started) (H : Type) (enc : TypeId × Value → H) (F : Stop.Interp) :
    ReturnsInHanded {} Tryz.checked os 5 .any ((Rows.OpenSpec.upto Rows.scriptTellsSpec).preRow enc Tryz.prog Tryz.f5 Rows.scriptTellsUptoRow.domain false Rows.scriptTellsUptoRow.laid) (((Rows.OpenSpec.upto Rows.scriptTellsSpec).at F).post enc Tryz.prog Tryz.f5 false true false false) := by
  obtain ⟨⟨x1, x2, x3⟩, hx, hx1⟩ := Option.map_eq_some_iff.1 (scriptTells_reads os enc)
  simp only [Prod.mk.injEq] at hx1
  obtain ⟨rfl, rfl⟩ := hx1
  refine returnsInHanded_of_row (C := Tryz.checked) (s := Rows.OpenSpec.upto Rows.scriptTellsSpec) own_knob started (by kernel_rfl) Tryz.func5
    (witness_row_atRef (enc := enc) (C := Tryz.checked) false (laidWorld os) #[.agg #[.int .i64 0, .slice none 0 0, .string { data := #[] }, .slice none 0 0]] rfl (by kernel_rfl) (by kernel_rfl) (by kernel_rfl)
      (OpenSpec.preRow_of_cond 8 hx (by kernel_rfl) (fun k hk => by cases hk; kernel_rfl) (by kernel_rfl) (laid_met os _))) ?_
  intro W base args ds gs before hval hW _ hcond _ hL hS _
  exact tells31_contract H enc W base args ds gs before hval hW (hcond _ rfl) hL hS
set_option maxRecDepth 100000 in
theorem scriptTells_saidUpto : Rows.ScriptTellsUptoSaid :=
  OpenClaim.holds_of_cond 5 Tryz.f5 rfl rfl rfl rfl rfl rfl rfl ⟨rfl, rfl, rfl, rfl, rfl⟩ rfl rfl rfl rfl rfl (by kernel_rfl) Tryz.func5 tells_closed
    (of_decide_eq_true (by kernel_rfl)) (by unfold Func.isWrapper; first | (rw [if_pos (by decide +kernel)]; kernel_rfl) | (rw [if_neg (by decide +kernel)]; exact ⟨rfl, rfl⟩))
    (fun os started H enc _ F => by rw [OpenClaim.pre_eq_preRow]; exact scriptTells_lifted os started H enc F)
theorem scriptTells_plain (f : FuncId) (fn : Func) (hf : Tryz.pinned.checked.prog.funcNamed "clerestory/clerestorylaw31.ScriptTells" = some f) (hfn : Tryz.pinned.checked.prog.funcs[f]? = some fn) :
    true = Tryz.pinned.checked.prog.looks [] ∧ ∀ (j : Nat) t, fn.params[j]? = some t → Tryz.pinned.checked.prog.wantsStandIn t = false := by
  obtain rfl : f = 5 := Option.some.inj ((show Tryz.prog.funcNamed "clerestory/clerestorylaw31.ScriptTells" = some 5 by kernel_rfl).symm.trans hf) |>.symm
  obtain rfl : fn = Tryz.f5 := (Option.some.inj (Tryz.func5.symm.trans hfn)).symm
  refine ⟨by kernel_rfl, fun j t ht => ?_⟩
  rw [Tryz.params5] at ht
  have hm := Array.mem_of_getElem? ht
  simp only [List.mem_toArray, List.mem_cons, List.not_mem_nil, or_false] at hm
  rcases hm with rfl
  · exact (show Tryz.prog.wantsStandIn 53 = false by kernel_rfl)
theorem scriptTells_cardUpto : Rows.ScriptTellsUptoCardSaid :=
  Claim7.holds_tied_plain_at .later [] _ _ _ _ scriptTells_saidUpto (fun _ h => by cases h) (by kernel_rfl) (fun _ h => by cases h) scriptTellsUpto_row_tie rfl ⟨rfl, rfl⟩ (by kernel_rfl) rfl scriptTells_plain (by kernel_rfl)

end Go.Proofs.YtjjaojnglnpgaaaGreatDoor
