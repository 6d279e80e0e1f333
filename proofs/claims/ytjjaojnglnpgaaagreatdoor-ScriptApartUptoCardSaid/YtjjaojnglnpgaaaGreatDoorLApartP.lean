/- Plain law: two answers are told alike just if they are the same. Nothing here speaks of the program. -/
import Derived.Test.YtjjaojnglnpgaaaGreatDoorLHex
import Derived.Test.YtjjaojnglnpgaaaGreatDoorLTells

set_option linter.unusedVariables false
set_option linter.unusedSimpArgs false

namespace Go.Proofs.YtjjaojnglnpgaaaGreatDoor

/-! ### numerals tell numbers apart -/
theorem dec_ne (n : Nat) : Go.Lib.decDigits n ≠ [] := by
  rw [Go.Lib.decDigits]
  split
  · simp
  · simp
theorem dig_inj {a b : Nat} (ha : a < 10) (hb : b < 10) (h : UInt8.ofNat (48 + a) = UInt8.ofNat (48 + b)) : a = b := by
  have h1 := congrArg UInt8.toNat h
  simp only [UInt8.toNat_ofNat'] at h1
  omega
theorem dec_inj : ∀ (n m : Nat), Go.Lib.decDigits n = Go.Lib.decDigits m → n = m := by
  intro n
  induction n using Nat.strongRecOn with
  | _ n ih =>
    intro m h
    rw [Go.Lib.decDigits, Go.Lib.decDigits.eq_1 m] at h
    by_cases hn : n < 10 <;> by_cases hm : m < 10
    · rw [dif_pos hn, dif_pos hm] at h
      exact dig_inj hn hm (List.cons.inj h).1
    · rw [dif_pos hn, dif_neg hm] at h
      have hl := congrArg List.length h
      have h2 : 0 < (Go.Lib.decDigits (m / 10)).length := List.length_pos_iff.2 (dec_ne _)
      simp only [List.length_append, List.length_cons, List.length_nil] at hl
      omega
    · rw [dif_neg hn, dif_pos hm] at h
      have hl := congrArg List.length h
      have h2 : 0 < (Go.Lib.decDigits (n / 10)).length := List.length_pos_iff.2 (dec_ne _)
      simp only [List.length_append, List.length_cons, List.length_nil] at hl
      omega
    · rw [dif_neg hn, dif_neg hm] at h
      have h1 := List.append_inj' h rfl
      have h2 := ih (n / 10) (by omega) (m / 10) h1.1
      have h3 := dig_inj (Nat.mod_lt _ (by decide)) (Nat.mod_lt _ (by decide)) (List.cons.inj h1.2).1
      omega
theorem dec_head : ∀ (n : Nat) (c : UInt8) (l : List UInt8), Go.Lib.decDigits n = c :: l → c ≠ 45 := by
  intro n
  induction n using Nat.strongRecOn with
  | _ n ih =>
    intro c l h
    rw [Go.Lib.decDigits] at h
    by_cases hn : n < 10
    · rw [dif_pos hn] at h
      have h1 := (List.cons.inj h).1
      intro e
      rw [e] at h1
      have h2 := congrArg UInt8.toNat h1
      simp only [UInt8.toNat_ofNat'] at h2
      have : (45 : UInt8).toNat = 45 := rfl
      omega
    · rw [dif_neg hn] at h
      rcases hd : Go.Lib.decDigits (n / 10) with _ | ⟨d, r⟩
      · exact absurd hd (dec_ne _)
      · rw [hd] at h
        have h1 := (List.cons.inj h).1
        rw [← h1]
        exact ih (n / 10) (by omega) d r hd
theorem itoa_inj {a b : Int} (h : Go.Lib.itoa a = Go.Lib.itoa b) : a = b := by
  unfold Go.Lib.itoa at h
  by_cases ha : a < 0 <;> by_cases hb : b < 0
  · rw [if_pos ha, if_pos hb] at h
    have := dec_inj _ _ (List.cons.inj h).2
    omega
  · rw [if_pos ha, if_neg hb] at h
    exact absurd rfl (dec_head _ _ _ h.symm)
  · rw [if_neg ha, if_pos hb] at h
    exact absurd rfl (dec_head _ _ _ h)
  · rw [if_neg ha, if_neg hb] at h
    have := dec_inj _ _ h
    omega

/-! ### rows that part in one way only -/
theorem part_once {α : Type} {p : α → Prop} : ∀ {x y X Y : List α}, (∀ c ∈ x, p c) → (∀ c ∈ y, p c) → (∀ c ∈ X.head?, ¬ p c) → (∀ c ∈ Y.head?, ¬ p c) → x ++ X = y ++ Y → x = y ∧ X = Y
  | [], [], _, _, _, _, _, _, h => ⟨rfl, h⟩
  | [], c :: y, X, Y, _, hy, hX, _, h => by
    have h : X = c :: (y ++ Y) := h
    exact absurd (hy c (by simp)) (hX c (by rw [h]; rfl))
  | c :: x, [], X, Y, hx, _, _, hY, h => by
    have h : c :: (x ++ X) = Y := h
    exact absurd (hx c (by simp)) (hY c (by rw [← h]; rfl))
  | c :: x, d :: y, X, Y, hx, hy, hX, hY, h => by
    have h : c :: (x ++ X) = d :: (y ++ Y) := h
    injection h with h1 h2
    obtain ⟨h3, h4⟩ := part_once (fun e he => hx e (by simp [he])) (fun e he => hy e (by simp [he])) hX hY h2
    exact ⟨by rw [h1, h3], h4⟩
theorem words_inj : ∀ {xs ys : List (List UInt8)}, (∀ x ∈ xs, 32 ∉ x) → (∀ y ∈ ys, 32 ∉ y) → xs.flatMap (fun y => (32 : UInt8) :: y) = ys.flatMap (fun y => 32 :: y) → xs = ys
  | [], [], _, _, _ => rfl
  | [], y :: ys, _, _, h => by simp at h
  | x :: xs, [], _, _, h => by simp at h
  | x :: xs, y :: ys, hx, hy, h => by
    simp only [List.flatMap_cons, List.cons_append, List.cons.injEq, true_and] at h
    have hh : ∀ zs : List (List UInt8), ∀ c ∈ (zs.flatMap (fun y => (32 : UInt8) :: y)).head?, ¬ c ≠ 32 := by
      intro zs c hc
      cases zs with
      | nil => simp at hc
      | cons z zs => simp at hc; simp [hc]
    obtain ⟨h1, h2⟩ := part_once (p := fun c => c ≠ 32) (fun c hc e => hx x (by simp) (e ▸ hc)) (fun c hc e => hy y (by simp) (e ▸ hc)) (hh xs) (hh ys) h
    rw [h1, words_inj (fun z hz => hx z (by simp [hz])) (fun z hz => hy z (by simp [hz])) h2]

/-! ### an answer's line -/
theorem hexD_ne (n : Nat) (h : n < 16) : hexD n ≠ 32 := by
  have key : ∀ n, n < 16 → hexD n ≠ 32 := by decide
  exact key n h
theorem hexT_no32 (b : List UInt8) : 32 ∉ hexT b := by
  intro h
  simp only [hexT, List.mem_flatMap, List.mem_cons, List.not_mem_nil, or_false] at h
  obtain ⟨c, _, h | h⟩ := h
  · exact hexD_ne _ (by have := c.toNat_lt; omega) h.symm
  · exact hexD_ne _ (by omega) h.symm
theorem hexL_no32 (b : List UInt8) : 32 ∉ hexL b := by
  unfold hexL
  split
  · decide
  · exact hexT_no32 b
theorem hexL_inj {a b : List UInt8} (ha : a ≠ []) (hb : b ≠ []) (h : hexL a = hexL b) : a = b := by
  rw [hexL, hexL, if_neg ha, if_neg hb] at h
  exact hexT_inj h
/-- a name that may stand in a line -/
def goodN (s : ByteArray) : Prop := s.data.toList ≠ [] ∧ s.data.toList ≠ kwText ∧ s.data.toList ≠ kwBytes ∧ s.data.toList ≠ kwNames ∧ 32 ∉ s.data.toList
theorem An.partN_no (a : An) (h : ∀ s ∈ a.names, goodN s) : ∀ x ∈ a.partN, 32 ∉ x := by
  intro x hx
  unfold An.partN at hx
  split at hx
  · simp at hx
  · rcases List.mem_cons.1 hx with rfl | hx
    · decide
    · obtain ⟨s, hs, rfl⟩ := List.mem_map.1 hx
      exact (h s hs).2.2.2.2
theorem An.partT_no (a : An) : ∀ x ∈ a.partT, 32 ∉ x := by
  intro x hx
  unfold An.partT at hx
  split at hx
  · simp at hx
  · simp only [List.mem_cons, List.not_mem_nil, or_false] at hx
    rcases hx with rfl | rfl
    · decide
    · exact hexL_no32 _
theorem An.partB_no (a : An) : ∀ x ∈ a.partB, 32 ∉ x := by
  intro x hx
  unfold An.partB at hx
  split at hx
  · simp at hx
  · simp only [List.mem_cons, List.not_mem_nil, or_false] at hx
    rcases hx with rfl | rfl
    · decide
    · exact hexL_no32 _
theorem text_inj {s t : ByteArray} (h : s.data.toList = t.data.toList) : s = t := ByteArray.ext (Array.toList_inj.1 h)
theorem names_inj : ∀ {l m : List ByteArray}, l.map (·.data.toList) = m.map (·.data.toList) → l = m
  | [], [], _ => rfl
  | [], _ :: _, h => by simp at h
  | _ :: _, [], h => by simp at h
  | s :: l, t :: m, h => by
    simp only [List.map_cons, List.cons.injEq] at h
    rw [text_inj h.1, names_inj h.2]
theorem size_zero {s : ByteArray} : s.size = 0 ↔ s.data.toList = [] := by
  rw [← List.length_eq_zero_iff, Array.length_toList]; rfl
theorem tails_inj {a b : An} (h : a.partT ++ a.partB = b.partT ++ b.partB) : a.text = b.text ∧ a.bytes = b.bytes := by
  unfold An.partT An.partB at h
  have e1 : kwText ≠ kwBytes := by decide
  have e2 : kwBytes ≠ kwText := by decide
  have ht : a.text.size = 0 → b.text.size = 0 → a.text = b.text := fun h1 h3 => text_inj ((size_zero.1 h1).trans (size_zero.1 h3).symm)
  have ht2 : ¬ a.text.size = 0 → ¬ b.text.size = 0 → hexL a.text.data.toList = hexL b.text.data.toList → a.text = b.text := fun h1 h3 h => text_inj (hexL_inj (fun e => h1 (size_zero.2 e)) (fun e => h3 (size_zero.2 e)) h)
  have hb : ¬ a.bytes = [] → ¬ b.bytes = [] → hexL a.bytes = hexL b.bytes → a.bytes = b.bytes := fun h2 h4 h => hexL_inj h2 h4 h
  by_cases h1 : a.text.size = 0 <;> by_cases h2 : a.bytes = [] <;> by_cases h3 : b.text.size = 0 <;> by_cases h4 : b.bytes = [] <;>
    simp only [h1, h2, h3, h4, e1, e2, if_true, if_false, List.nil_append, List.append_nil, List.cons_append, List.cons.injEq, and_true, true_and, false_and, and_false, reduceCtorEq] at h
  all_goals first
    | exact ⟨ht h1 h3, h2.trans h4.symm⟩
    | exact ⟨ht h1 h3, hb h2 h4 h⟩
    | exact ⟨ht2 h1 h3 h, h2.trans h4.symm⟩
    | exact ⟨ht2 h1 h3 h.1, hb h2 h4 h.2⟩
    | exact False.elim h.2
theorem tails_head (a : An) (c : List UInt8) (h : c ∈ (a.partT ++ a.partB).head?) : c = kwText ∨ c = kwBytes := by
  unfold An.partT An.partB at h
  by_cases h1 : a.text.size = 0 <;> by_cases h2 : a.bytes = [] <;> simp [h1, h2] at h <;> simp [h]
theorem line_inj {a b : An} (ha : a.err = 0) (hb : b.err = 0) (hna : ∀ s ∈ a.names, goodN s) (hnb : ∀ s ∈ b.names, goodN s) (h : a.line = b.line) : a = b := by
  rw [An.line, An.line, An.parts, An.parts, if_pos ha, if_pos hb, join_tail, join_tail] at h
  have h := List.append_cancel_left h
  have hno : ∀ a : An, (∀ s ∈ a.names, goodN s) → ∀ x ∈ a.partN ++ (a.partT ++ a.partB), 32 ∉ x := by
    intro a hn x hx
    rcases List.mem_append.1 hx with hx | hx
    · exact a.partN_no hn x hx
    · rcases List.mem_append.1 hx with hx | hx
      · exact a.partT_no x hx
      · exact a.partB_no x hx
  have h := words_inj (hno a hna) (hno b hnb) h
  have key : a.names = b.names ∧ a.partT ++ a.partB = b.partT ++ b.partB := by
    unfold An.partN at h
    by_cases h1 : a.names = [] <;> by_cases h2 : b.names = []
    · rw [if_pos h1, if_pos h2] at h
      exact ⟨h1.trans h2.symm, h⟩
    · rw [if_pos h1, if_neg h2, List.nil_append, List.cons_append] at h
      rcases tails_head a kwNames (by rw [h]; rfl) with e | e <;> exact absurd e (by decide)
    · rw [if_neg h1, if_pos h2, List.nil_append, List.cons_append] at h
      rcases tails_head b kwNames (by rw [← h]; rfl) with e | e <;> exact absurd e (by decide)
    · rw [if_neg h1, if_neg h2, List.cons_append, List.cons_append] at h
      have h := (List.cons.inj h).2
      have hp : ∀ l : List ByteArray, (∀ s ∈ l, goodN s) → ∀ c ∈ l.map (·.data.toList), c ≠ kwText ∧ c ≠ kwBytes := by
        intro l hl c hc
        obtain ⟨s, hs, rfl⟩ := List.mem_map.1 hc
        exact ⟨(hl s hs).2.1, (hl s hs).2.2.1⟩
      have ht : ∀ a : An, ∀ c ∈ (a.partT ++ a.partB).head?, ¬ (c ≠ kwText ∧ c ≠ kwBytes) := by
        intro a c hc hh
        rcases tails_head a c hc with e | e
        · exact hh.1 e
        · exact hh.2 e
      obtain ⟨h3, h4⟩ := part_once (p := fun c => c ≠ kwText ∧ c ≠ kwBytes) (hp _ hna) (hp _ hnb) (ht a) (ht b) h
      exact ⟨names_inj h3, h4⟩
  obtain ⟨h5, h6⟩ := tails_inj key.2
  cases a
  cases b
  simp only [An.mk.injEq] at *
  exact ⟨ha.trans hb.symm, key.1, h5, h6⟩

/-- with an error: the number alone -/
theorem line_err_iff {a b : An} (h : ¬ (a.err = 0 ∧ b.err = 0)) : a.line = b.line ↔ a.err = b.err := by
  by_cases ha : a.err = 0 <;> by_cases hb : b.err = 0
  · exact absurd ⟨ha, hb⟩ h
  · rw [a.line_ok ha, b.line_err hb]
    refine ⟨fun e => ?_, fun e => absurd (e.symm.trans ha) hb⟩
    exact absurd (List.cons.inj e).1 (by decide)
  · rw [a.line_err ha, b.line_ok hb]
    refine ⟨fun e => ?_, fun e => absurd (e.trans hb) ha⟩
    exact absurd (List.cons.inj e).1 (by decide)
  · rw [a.line_err ha, b.line_err hb]
    refine ⟨fun e => ?_, fun e => by rw [e]⟩
    exact itoa_inj (List.cons.inj (List.append_cancel_left e)).2
theorem line_pre (a : An) : (kwError ++ [32]) <+: a.line ↔ ¬ a.err = 0 := by
  by_cases ha : a.err = 0
  · rw [a.line_ok ha]
    refine ⟨fun ⟨t, e⟩ => ?_, fun h => absurd ha h⟩
    exact absurd (List.cons.inj e).1 (by decide)
  · rw [a.line_err ha]
    exact ⟨fun _ => ha, fun _ => ⟨Go.Lib.itoa a.err, by simp⟩⟩

end Go.Proofs.YtjjaojnglnpgaaaGreatDoor

namespace Go.Proofs.YtjjaojnglnpgaaaGreatDoor
open Go.RowKit

theorem pre_iff {s p : ByteArray} : s.extract 0 p.size = p ↔ p.data.toList <+: s.data.toList := by
  have e : (s.extract 0 p.size).data.toList = s.data.toList.take p.size := by
    simp
  constructor
  · intro h1
    rw [← h1, e]
    exact List.take_prefix _ _
  · intro h1
    have h2 := List.prefix_iff_eq_take.1 h1
    apply text_inj
    rw [e]
    exact h2.symm
set_option maxHeartbeats 2000000 in
theorem hasPre_any {s p : ByteArray} {w : World} :
    Calls Tryz.prog 64 #[.string s, .string p] w fun e w' => RetB (p.data.toList <+: s.data.toList) e ∧ w = w' := by
  have Hp := hide (@pre_iff s p)
  by_cases hle : p.size ≤ s.size
  · have hd : decide ((s.size : Int) ≥ (p.size : Int)) = true := by simp; omega
    go_enter Tryz.func64, Tryz.ntmps64
    go_wp2_with fail
    go_ret
    exact ⟨RetB.mk (by rw [beq_iff_eq, tl_eq]; exact Hp.out), rfl⟩
  · have hd : decide ((s.size : Int) ≥ (p.size : Int)) = false := by simp; omega
    go_enter Tryz.func64, Tryz.ntmps64
    go_wp2_with fail
    go_ret
    refine ⟨RetB.mk ?_, rfl⟩
    refine ⟨fun h => (by cases h), fun h => absurd h.length_le ?_⟩
    have : p.data.toList.length = p.size := by rw [Array.length_toList]; rfl
    have : s.data.toList.length = s.size := by rw [Array.length_toList]; rfl
    omega
/-- strings.HasPrefix -/
theorem hasPrefix_any {s p : ByteArray} {w : World} :
    Calls Tryz.prog 27 #[.string s, .string p] w fun e w' => RetB (p.data.toList <+: s.data.toList) e ∧ w = w' := by
  go_enter Tryz.func27, Tryz.ntmps27
  go_wp2_with (go_at_call 64; (with_reducible refine (hasPre_any).mono ?_); rintro e1 w1 ⟨⟨b, rfl, hb⟩, rfl⟩)
  go_ret
  exact ⟨RetB.mk hb, rfl⟩
theorem index_mem {c : UInt8} : ∀ {l : List UInt8}, 0 ≤ Lib.indexByte l c ↔ c ∈ l
  | [] => by simp [Lib.indexByte]
  | d :: l => by
    have ih := index_mem (c := c) (l := l)
    unfold Lib.indexByte
    by_cases h : (d == c) = true
    · rw [if_pos h]
      simp [beq_iff_eq.1 h]
    · rw [if_neg h]
      have hd : c ≠ d := fun e => h (by simp [e])
      by_cases h2 : (Lib.indexByte l c == -1) = true
      · rw [if_pos h2]
        rw [beq_iff_eq] at h2
        rw [h2] at ih
        simp [hd, ← ih]
      · rw [if_neg h2]
        simp only [List.mem_cons, hd, false_or, ← ih]
        have h3 : -1 ≤ Lib.indexByte l c := by
          clear ih h2
          induction l with
          | nil => simp [Lib.indexByte]
          | cons e l ih =>
            unfold Lib.indexByte
            split
            · omega
            · split
              · omega
              · omega
        have h4 : Lib.indexByte l c ≠ -1 := fun e => h2 (by rw [e]; rfl)
        omega
/-- strings.Contains, of a blank -/
theorem contains32_any {s : ByteArray} {w : World} : Calls Tryz.prog 28 #[.string s, .string ⟨#[32]⟩] w fun e w' => RetB (32 ∈ s.data.toList) e ∧ w = w' := by
  refine (Tryz.strings_Contains_one s 32 w).mono ?_
  rintro e w' ⟨rfl, rfl⟩
  exact ⟨RetB.mk (by rw [decide_eq_true_iff]; exact index_mem), rfl⟩

end Go.Proofs.YtjjaojnglnpgaaaGreatDoor
