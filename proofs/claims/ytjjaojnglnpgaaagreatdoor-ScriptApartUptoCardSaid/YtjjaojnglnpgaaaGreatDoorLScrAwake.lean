/- The chapter's examples: awake. Printed by gen_scrawake.py. -/
import Derived.Test.YtjjaojnglnpgaaaGreatDoorLParseA
import Derived.Test.YtjjaojnglnpgaaaGreatDoorLScrShow0
import Derived.Test.YtjjaojnglnpgaaaGreatDoorLTells

set_option linter.unusedVariables false
set_option linter.unusedSimpArgs false

namespace Go.Proofs.YtjjaojnglnpgaaaGreatDoor
open Go.RowKit

def awS1 : ByteArray := { data := #[110, 101, 119, 32, 114, 10, 112, 117, 108, 108, 32, 114, 32, 115, 32, 112] }
def awS2 : ByteArray := { data := #[112, 117, 108, 108, 32, 114, 32, 115] }
def awR : ByteArray := { data := #[114] }
def awS : ByteArray := { data := #[115] }
def awP : ByteArray := { data := #[112] }
theorem word_s : isWord { data := #[115] } = true := by
  have h : (ByteArray.toList { data := #[115] }).isEmpty = false := by
    rw [Bool.eq_false_iff, ne_eq, List.isEmpty_iff, size_nil]
    decide
  unfold isWord
  rw [h]
  decide
theorem word_p : isWord { data := #[112] } = true := by
  have h : (ByteArray.toList { data := #[112] }).isEmpty = false := by
    rw [Bool.eq_false_iff, ne_eq, List.isEmpty_iff, size_nil]
    decide
  unfold isWord
  rw [h]
  decide

theorem aw_line1 : lineOf (wordsOf 32 { data := #[110, 101, 119, 32, 114] }) = some ⟨1, awR, noTxt, noTxt, noTxt, Pt.zero, []⟩ := by
  rw [show wordsOf 32 { data := #[110, 101, 119, 32, 114] } = [kwNew, awR] from by decide +kernel, lineOf_eq, kindOf_of (k := 1) (by simp [kwL]), Option.bind_some, if_pos (show isWord awR = true from word_r)]
  rfl
theorem aw_line2 : lineOf (wordsOf 32 { data := #[112, 117, 108, 108, 32, 114, 32, 115, 32, 112] }) = some ⟨3, awR, awS, awP, noTxt, Pt.zero, []⟩ := by
  rw [show wordsOf 32 { data := #[112, 117, 108, 108, 32, 114, 32, 115, 32, 112] } = [kwPull, awR, awS, awP] from by decide +kernel, lineOf_eq, kindOf_of (k := 3) (by simp [kwL]), Option.bind_some, if_pos (show isWord awR = true from word_r)]
  have h : restOf 3 ⟨3, awR, noTxt, noTxt, noTxt, Pt.zero, []⟩ [awS, awP] = some (⟨3, awR, awS, awP, noTxt, Pt.zero, []⟩, []) := by
    show (if isWord awS && isWord awP then _ else _) = _
    rw [show isWord awS = true from word_s, show isWord awP = true from word_p]
    rfl
  rw [h]
theorem aw_line3 : lineOf (wordsOf 32 { data := #[112, 117, 108, 108, 32, 114, 32, 115] }) = none := by
  rw [show wordsOf 32 { data := #[112, 117, 108, 108, 32, 114, 32, 115] } = [kwPull, awR, awS] from by decide +kernel, lineOf_eq, kindOf_of (k := 3) (by simp [kwL]), Option.bind_some, if_pos (show isWord awR = true from word_r)]
  rfl
theorem aw_rows1 : rowsOf 0 (wordsOf 10 awS1) = .ok [⟨1, awR, noTxt, noTxt, noTxt, Pt.zero, []⟩, ⟨3, awR, awS, awP, noTxt, Pt.zero, []⟩] := by
  rw [show wordsOf 10 awS1 = [{ data := #[110, 101, 119, 32, 114] }, { data := #[112, 117, 108, 108, 32, 114, 32, 115, 32, 112] }] from by decide +kernel, rowsOf_some (by decide) aw_line1, rowsOf_some (by decide) aw_line2]
  rfl
theorem aw_rows2 : rowsOf 0 (wordsOf 10 awS2) = .error 1 := by
  rw [show wordsOf 10 awS2 = [{ data := #[112, 117, 108, 108, 32, 114, 32, 115] }] from by decide +kernel, rowsOf_none (by decide) aw_line3]
theorem aw_rec1 : ∀ t ∈ wordsOf 10 awS1, ∀ r, wordsOf 32 t = kwRecord :: r → RestOk 106 restRecord := by
  rw [show wordsOf 10 awS1 = [{ data := #[110, 101, 119, 32, 114] }, { data := #[112, 117, 108, 108, 32, 114, 32, 115, 32, 112] }] from by decide +kernel]
  intro t ht r hr
  simp only [List.mem_cons, List.not_mem_nil, or_false] at ht
  rcases ht with rfl | rfl
  · rw [show wordsOf 32 { data := #[110, 101, 119, 32, 114] } = [kwNew, awR] from by decide +kernel] at hr
    exact absurd (List.cons.inj hr).1 (by decide)
  · rw [show wordsOf 32 { data := #[112, 117, 108, 108, 32, 114, 32, 115, 32, 112] } = [kwPull, awR, awS, awP] from by decide +kernel] at hr
    exact absurd (List.cons.inj hr).1 (by decide)
theorem aw_rec2 : ∀ t ∈ wordsOf 10 awS2, ∀ r, wordsOf 32 t = kwRecord :: r → RestOk 106 restRecord := by
  rw [show wordsOf 10 awS2 = [{ data := #[112, 117, 108, 108, 32, 114, 32, 115] }] from by decide +kernel]
  intro t ht r hr
  simp only [List.mem_cons, List.not_mem_nil, or_false] at ht
  subst ht
  rw [show wordsOf 32 { data := #[112, 117, 108, 108, 32, 114, 32, 115] } = [kwPull, awR, awS] from by decide +kernel] at hr
  exact absurd (List.cons.inj hr).1 (by decide)
theorem aw_parse1 {w : World} (hmx : MaxOkS w) (htab : TabOk w) : Calls Tryz.prog 10 #[.string { data := #[110, 101, 119, 32, 114, 10, 112, 117, 108, 108, 32, 114, 32, 115, 32, 112] }] w fun e w' => ∃ g c, e = .returned (.tuple #[.slice (some ⟨g, 0, none⟩) 2 c, .agg #[.int .i64 0, .int .i64 0]]) ∧ w'.cell? ⟨g, 23, none⟩ = some (.string { data := #[112] }) ∧ Below w.heap.size w w' := by
  refine (script_any (s := awS1) (by decide) hmx htab aw_rec1).mono ?_
  rintro e w' ⟨hB, _, h⟩
  obtain ⟨l, v, hl, he, hR⟩ := (h (by decide)).2 _ aw_rows1
  obtain ⟨i1, i2, hi⟩ : ∃ i1 i2, l = [i1, i2] := by
    have hl' := hl
    clear hR he h
    rcases l with _ | ⟨i1, _ | ⟨i2, _ | ⟨i3, r⟩⟩⟩
    · cases hl'
    · simp at hl'
    · exact ⟨i1, i2, rfl⟩
    · simp at hl'
  subst hi
  have h2 : i2.c.name = awP := by
    have h3 := congrArg (fun l : List Cmd => l[1]?) hl
    have h4 : some i2.c = some ⟨3, awR, awS, awP, noTxt, Pt.zero, []⟩ := h3
    injection h4 with h4
    rw [h4]
  have ho : w'.ownsRow w.heap.size 46 20 v 2 (List.flatMap CIt.cells [i1, i2]) := hR.1
  rcases ho.2 with ⟨_, e0⟩ | ⟨g, cap, cur, e1, _⟩
  · cases e0
  · subst e1
    refine ⟨g, cap, he, ?_, hB⟩
    have h5 := World.ownsRow.cellAt ho 23 (by decide)
    rw [h5]
    show some (Value.string i2.c.name) = _
    rw [h2]
    rfl
theorem aw_parse2 {w : World} (hmx : MaxOkS w) (htab : TabOk w) : Calls Tryz.prog 10 #[.string { data := #[112, 117, 108, 108, 32, 114, 32, 115] }] w fun e w' => e = .returned (.tuple #[.slice none 0 0, .agg #[.int .i64 210, .int .i64 1]]) ∧ Below w.heap.size w w' := by
  refine (script_any (s := awS2) (by decide) hmx htab aw_rec2).mono ?_
  rintro e w' ⟨hB, _, h⟩
  exact ⟨(h (by decide)).1 _ aw_rows2, hB⟩
theorem aw_tell1 {w : World} {b : Nat} (hr : Rd (fun _ => True) w (some ⟨b, 0, none⟩) (([{ data := #[97] }, { data := #[98] }] : List ByteArray).map .string)) :
    Calls Tryz.prog 20 #[.agg #[.int .i64 0, .slice (some ⟨b, 0, none⟩) 2 2, .string { data := #[] }, .slice none 0 0]] w fun e w' => e = .returned (.string { data := #[111, 107, 32, 110, 97, 109, 101, 115, 32, 97, 32, 98] }) ∧ Below w.heap.size w w' := by
  have h : AnIn (fun _ => True) w ⟨some ⟨b, 0, none⟩, 2, none, 0⟩ ⟨0, [{ data := #[97] }, { data := #[98] }], { data := #[] }, []⟩ :=
    ⟨⟨by decide, by decide⟩, ⟨hr, fun s hs => (by simp at hs; rcases hs with rfl | rfl <;> decide), by decide⟩, by decide, ⟨.nil, by decide⟩, ⟨by show 2 ≤ 2; decide, by show 2 ≤ 9223372036854775807; decide⟩, ⟨by show 0 ≤ 0; decide, by show 0 ≤ 9223372036854775807; decide⟩⟩
  refine (tell_ok h rfl (by decide +kernel)).mono ?_
  rintro e w' ⟨rfl, hB⟩
  exact ⟨congrArg (fun x => Ending.returned (.string x)) (by decide +kernel), hB⟩
theorem aw_tell2 {w : World} (hp : PowTab w) :
    Calls Tryz.prog 20 #[.agg #[.int .i64 6, .slice none 0 0, .string { data := #[] }, .slice none 0 0]] w fun e w' => e = .returned (.string { data := #[101, 114, 114, 111, 114, 32, 54] }) ∧ Below w.heap.size w w' := by
  have h : AnIn (fun _ => True) w ⟨none, 0, none, 0⟩ ⟨6, [], { data := #[] }, []⟩ :=
    ⟨⟨by decide, by decide⟩, ⟨.nil, fun s hs => (by cases hs), by decide⟩, by decide, ⟨.nil, by decide⟩, ⟨by decide, by decide⟩, ⟨by decide, by decide⟩⟩
  have h2 := tell_any h hp (by decide +kernel)
  refine h2.mono ?_
  rintro e w' ⟨rfl, hB⟩
  exact ⟨congrArg (fun x => Ending.returned (.string x)) (by decide +kernel), hB⟩
theorem aw_names (w : World) : Rd (fun _ => True) (w.alloc (.cells #[.string { data := #[97] }, .string { data := #[98] }] 9)) (some ⟨w.heap.size, 0, none⟩) (([{ data := #[97] }, { data := #[98] }] : List ByteArray).map .string) :=
  .inr ⟨_, 0, rfl, trivial, fun j u hu => by rw [Nat.zero_add, Lib.cell_of_heap (heap_alloc_new w _)]; simpa using hu⟩
set_option maxHeartbeats 16000000 in
set_option maxRecDepth 1000000 in
theorem awake31_any {w : World} (hmx : MaxOkS w) (htab : TabOk w) (hpow : PowTab w) : Calls Tryz.prog 9 #[] w fun e w' => e = .returned (.bool true) ∧ Below w.heap.size w w' := by
  have Hmx := hide hmx
  have Htab := hide htab
  have Hpow := hide hpow
  clear hmx htab hpow
  go_enter Tryz.func9, Tryz.ntmps9
  go_upto_region 3 with (first
    | (go_at_call 10; (with_reducible refine (aw_parse1 Hmx.out Htab.out).mono ?_); rintro e1 w1 ⟨g, cg, rfl, hg, hB1⟩; have HB1 := hide hB1; have Hg := hide hg; clear hB1 hg)
    | (go_at_call 10; (with_reducible refine (aw_parse2 (Hmx.out.below (HB1.out.trans ((below_alloc w1 _).mono HB1.out.size))) (Htab.out.below (HB1.out.trans ((below_alloc w1 _).mono HB1.out.size)))).mono ?_); rintro e2 w2 ⟨rfl, hB2⟩; have HB2 := hide hB2; clear hB2))
  have hb3 := below_alloc w2 (.cells #[.int .i64 210, .int .i64 1] 26)
  have hb1 := below_alloc w1 (.cells #[.int .i64 0, .int .i64 0] 26)
  have hgl : g < w1.heap.size := block_lt_of_cell Hg.out
  have hz1 : w1.heap.size < w2.heap.size := by have := HB2.out.size; simp at this; omega
  have hz0 := HB1.out.size
  have c0 : (w2.alloc (.cells #[.int .i64 210, .int .i64 1] 26)).cell? ⟨w1.heap.size, 0, none⟩ = some (.int .i64 0) := (hb3.cell (p := ⟨w1.heap.size, 0, none⟩) hz1).trans ((HB2.out.cell (p := ⟨w1.heap.size, 0, none⟩) (by simp)).trans (by rw [Lib.cell_of_heap (heap_alloc_new w1 _)]; rfl))
  have cn : (w2.alloc (.cells #[.int .i64 210, .int .i64 1] 26)).cell? ⟨g, 23, none⟩ = some (.string { data := #[112] }) := (hb3.cell (p := ⟨g, 23, none⟩) (by show g < _; omega)).trans ((HB2.out.cell (p := ⟨g, 23, none⟩) (by simp; omega)).trans ((hb1.cell (p := ⟨g, 23, none⟩) hgl).trans Hg.out))
  have d0 : (w2.alloc (.cells #[.int .i64 210, .int .i64 1] 26)).cell? ⟨w2.heap.size, 0, none⟩ = some (.int .i64 210) := by rw [Lib.cell_of_heap (heap_alloc_new w2 _)]; rfl
  have d1 : (w2.alloc (.cells #[.int .i64 210, .int .i64 1] 26)).cell? ⟨w2.heap.size, 1, none⟩ = some (.int .i64 1) := by rw [Lib.cell_of_heap (heap_alloc_new w2 _)]; rfl
  have hW3 : Below w.heap.size w (w2.alloc (.cells #[.int .i64 210, .int .i64 1] 26)) := ((HB1.out.trans (hb1.mono hz0)).trans (HB2.out.mono (by simp; omega))).trans (hb3.mono (by omega))
  have HW3 := hide hW3
  clear hb3 hb1 hW3 hgl hz1 hz0 HB1 HB2 Hg
  generalize w2.alloc (.cells #[.int .i64 210, .int .i64 1] 26) = W3 at c0 cn d0 d1 HW3 ⊢
  go_wp2_with (first
    | (go_at_call 15; (with_reducible refine (show_import _).mono ?_); rintro e4 w4 ⟨rfl, hB4⟩; have HB4 := hide (HW3.out.trans (hB4.mono HW3.out.size)); clear hB4)
    | (go_at_call 20; (with_reducible refine (aw_tell1 (aw_names _)).mono ?_); rintro e5 w5 ⟨rfl, hB5⟩; have HB5 := hide ((HB4.out.alloc HB4.out.size _).trans (hB5.mono (Nat.le_trans HB4.out.size (by simp)))); clear hB5)
    | (go_at_call 20; (with_reducible refine (aw_tell2 (Hpow.out.below HB5.out)).mono ?_); rintro e6 w6 ⟨rfl, hB6⟩; have HB6 := hide (HB5.out.trans (hB6.mono HB5.out.size)); clear hB6))
  go_ret
  exact ⟨rfl, HB6.out⟩

end Go.Proofs.YtjjaojnglnpgaaaGreatDoor
