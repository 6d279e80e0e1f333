/- awake: the chapter's example. Printed by gen_logawake.py. -/
import Derived.Test.YtpocmfilpecfdaaGreatDoorRLogText

set_option linter.unusedVariables false
set_option linter.unusedSimpArgs false

namespace Go.Proofs.YtpocmfilpecfdaaGreatDoor
open Go.RowKit

def a1 : Pt := ⟨1, ⟨#[97]⟩, ⟨#[120, 10]⟩, Hk.zero, Ed.zero⟩
def a2 : Pt := ⟨3, ⟨#[97]⟩, noTxt, ⟨0, [⟨#[120, 10]⟩], []⟩, Ed.zero⟩
def a3 : Pt := ⟨4, ⟨#[109, 97, 105, 110]⟩, noTxt, Hk.zero, ⟨1, [0, 1], 0, 0, ⟨#[120]⟩, ⟨#[121]⟩, .nil, .nil⟩⟩
theorem name_one {s : ByteArray} (h : (s.data.toList.all fun c => decide (97 ≤ c.toNat ∧ c.toNat ≤ 122)) = true) (h1 : 1 ≤ s.size) (h2 : s.size ≤ 24) : FileName s :=
  ⟨h1, h2, fun c hc => .inl (of_decide_eq_true (List.all_eq_true.1 h c hc))⟩
theorem a1_ok : PtOk a1 := ⟨name_one (by decide) (by decide) (by decide), .inl ⟨.inl rfl, rfl, rfl⟩⟩
theorem a2_ok : PtOk a2 := by
  refine ⟨name_one (by decide) (by decide) (by decide), .inr (.inl ⟨rfl, rfl, rfl, by decide, by decide, ⟨⟨by decide, ?_, .inl rfl⟩, trivial⟩, trivial, by simp [a2]⟩)⟩
  intro i hi
  have hi2 : i = 0 := by
    have : i + 1 < 2 := hi
    omega
  subst hi2
  decide
theorem a3_ok : PtOk a3 := by
  refine ⟨name_one (by decide) (by decide) (by decide), .inr (.inr ⟨rfl, rfl, rfl, ?_, .inl ⟨rfl, rfl, rfl, rfl, rfl, by decide, ?_, ?_, by decide⟩⟩)⟩
  · intro n hn
    have : n = 0 ∨ n = 1 := by simpa [a3] using hn
    rcases this with rfl | rfl <;> (unfold Number; omega)
  · refine ⟨by decide, ⟨120, [], rfl, .inl ⟨by decide, by decide⟩⟩, by decide, ?_⟩
    intro c hc
    have : c = 120 := by simpa [a3] using hc
    subst this
    exact .inl (.inl ⟨by decide, by decide⟩)
  · refine ⟨by decide, ⟨121, [], rfl, .inl ⟨by decide, by decide⟩⟩, by decide, ?_⟩
    intro c hc
    have : c = 121 := by simpa [a3] using hc
    subst this
    exact .inl (.inl ⟨by decide, by decide⟩)
theorem a0_no : ¬ PtOk Pt.zero := by
  rintro ⟨_, ⟨h | h, _⟩ | ⟨h, _⟩ | ⟨h, _⟩⟩ <;> exact absurd h (by decide)
theorem it0 : Lib.itoa 0 = [48] := by simp [Lib.itoa, Lib.decDigits_one]
theorem it1 : Lib.itoa 1 = [49] := by simp [Lib.itoa, Lib.decDigits_one]
theorem it2 : Lib.itoa 2 = [50] := by simp [Lib.itoa, Lib.decDigits_one]
theorem a1_line : lineB a1 = [97, 100, 100, 32, 97, 32, 50] := by
  have : lineB a1 = Lib.join [[97, 100, 100], [97], Lib.itoa 2] [32] := rfl
  rw [this, it2]; rfl
theorem a2_line : lineB a2 = [108, 105, 110, 101, 115, 32, 97, 32, 48, 32, 49, 32, 48] := by
  have : lineB a2 = Lib.join [[108, 105, 110, 101, 115], [97], Lib.itoa 0, Lib.itoa 1, Lib.itoa 0] [32] := rfl
  rw [this, it0, it1]; rfl
theorem a3_line : lineB a3 = [114, 101, 110, 97, 109, 101, 32, 109, 97, 105, 110, 32, 48, 46, 49, 32, 120, 32, 121] := by
  have : lineB a3 = Lib.join [[114, 101, 110, 97, 109, 101], [109, 97, 105, 110], Lib.join [Lib.itoa 0, Lib.itoa 1] [46], [120], [121]] [32] := rfl
  rw [this, it0, it1]; rfl
theorem said_yes {p : Pt} (h : PtOk p) : saidB p = lineB p := by unfold saidB; rw [if_pos h]
theorem a_text : sayAll [⟨⟨#[112]⟩, a1⟩, ⟨⟨#[113]⟩, a2⟩] = [112, 58, 32, 97, 100, 100, 32, 97, 32, 50, 10, 113, 58, 32, 108, 105, 110, 101, 115, 32, 97, 32, 48, 32, 49, 32, 48, 10] := by
  simp only [sayAll, sayB, List.map_cons, List.map_nil, said_yes a1_ok, said_yes a2_ok, a1_line, a2_line]
  rfl
theorem str_new {S : Nat → Prop} {w : World} {N : Nat} {s : ByteArray} {T : TypeId} (hS : S N) (h : w.heap[N]? = some (.cells #[.string s] T)) (hs : s.size ≤ 9223372036854775807) : StrsIn S w (some ⟨N, 0, none⟩) [s] := by
  refine ⟨.inr ⟨N, 0, rfl, hS, fun j u hu => ?_⟩, by simpa using hs, by simp⟩
  rw [Lib.cell_of_heap h]
  cases j with
  | zero => simpa using hu
  | succ j => simp at hu
theorem two_new {S : Nat → Prop} {w : World} {N : Nat} {T : TypeId} (hS : S N) (h : w.heap[N]? = some (.cells #[.int .i64 0, .int .i64 1] T)) : IntsIn S w (some ⟨N, 0, none⟩) [0, 1] := by
  refine ⟨.inr ⟨N, 0, rfl, hS, fun j u hu => ?_⟩, by intro n hn; have : n = 0 ∨ n = 1 := (by simpa using hn); rcases this with rfl | rfl <;> (unfold isInt64; omega), by simp⟩
  rw [Lib.cell_of_heap h]
  match j, hu with
  | 0, hu => simpa using hu
  | 1, hu => simpa using hu
  | j + 2, hu => simp at hu
theorem zZero {S : Nat → Prop} {w : World} : HkIn S w ⟨none, 0, none, 0⟩ Hk.zero ∧ EdIn S w ⟨none, 0, none, 0, none, 0⟩ Ed.zero :=
  ⟨⟨by simp [isInt64, Hk.zero], ⟨.inl rfl, by simp [Hk.zero], by simp [Hk.zero]⟩, ⟨.inl rfl, by simp [Hk.zero], by simp [Hk.zero]⟩, by simp [Hk.zero], by simp [Hk.zero]⟩,
   ⟨by simp [Ed.zero], ⟨.inl rfl, by simp [Ed.zero], by simp [Ed.zero]⟩, by simp [isInt64, Ed.zero], by simp [isInt64, Ed.zero], Nat.zero_le _, Nat.zero_le _, trivial, trivial, by simp [Ed.zero], by simp [Ed.zero, Fo.len], by simp [Ed.zero, Fo.len]⟩⟩
theorem a1_in {w : World} : PtIn (fun _ => True) w ⟨⟨none, 0, none, 0⟩, ⟨none, 0, none, 0, none, 0⟩⟩ a1 := ⟨by decide, by decide, by decide, zZero.1, zZero.2⟩
theorem a2_in {w : World} {N : Nat} (h1 : w.heap[N + 1]? = some (.cells #[.string ⟨#[120, 10]⟩] 9)) : PtIn (fun _ => True) w ⟨⟨some ⟨N + 1, 0, none⟩, 1, none, 0⟩, ⟨none, 0, none, 0, none, 0⟩⟩ a2 :=
  ⟨by decide, by decide, by decide, ⟨by unfold isInt64; decide, str_new trivial h1 (by decide), (zZero (S := fun _ => True) (w := w)).1.new, (show (1 : Nat) ≤ 1 ∧ (1 : Nat) ≤ 9223372036854775807 from by decide), (show (0 : Nat) ≤ 0 ∧ (0 : Nat) ≤ 9223372036854775807 from by decide)⟩, zZero.2⟩
theorem a3_in {w : World} {N : Nat} (h3 : w.heap[N + 1 + 1 + 1]? = some (.cells #[.int .i64 0, .int .i64 1] 3)) : PtIn (fun _ => True) w ⟨⟨none, 0, none, 0⟩, ⟨some ⟨N + 1 + 1 + 1, 0, none⟩, 2, none, 0, none, 0⟩⟩ a3 :=
  ⟨by decide, by decide, by decide, zZero.1, ⟨by decide, two_new trivial h3, by unfold isInt64; decide, by unfold isInt64; decide, by decide, by decide, trivial, trivial, (show (2 : Nat) ≤ 2 ∧ (2 : Nat) ≤ 9223372036854775807 from by decide), (show (0 : Nat) ≤ 0 ∧ (0 : Nat) ≤ 9223372036854775807 from by decide), (show (0 : Nat) ≤ 0 ∧ (0 : Nat) ≤ 9223372036854775807 from by decide)⟩⟩
theorem a_rows {w : World} {N : Nat} (h1 : w.heap[N + 1]? = some (.cells #[.string ⟨#[120, 10]⟩] 9)) (h5 : w.heap[N + 1 + 1 + 1 + 1 + 1]? = some (.cells #[.string ⟨#[112]⟩, .int .u8 1, .string ⟨#[97]⟩, .string ⟨#[120, 10]⟩, .int .i64 0, .slice none 0 0, .slice none 0 0, .int .u8 0, .slice none 0 0, .int .i64 0, .int .i64 0, .string ⟨#[]⟩, .string ⟨#[]⟩, .slice none 0 0, .slice none 0 0, .string ⟨#[113]⟩, .int .u8 3, .string ⟨#[97]⟩, .string ⟨#[]⟩, .int .i64 0, .slice (some ⟨N + 1, 0, none⟩) 1 1, .slice none 0 0, .int .u8 0, .slice none 0 0, .int .i64 0, .int .i64 0, .string ⟨#[]⟩, .string ⟨#[]⟩, .slice none 0 0, .slice none 0 0] 39)) :
    NdIn (fun _ => True) w (some ⟨N + 1 + 1 + 1 + 1 + 1, 0, none⟩) [⟨⟨#[112]⟩, a1⟩, ⟨⟨#[113]⟩, a2⟩] := by
  have hc := Lib.cell_of_heap h5
  refine ⟨_, 0, ⟨⟨none, 0, none, 0⟩, ⟨none, 0, none, 0, none, 0⟩⟩, rfl, trivial, ⟨hc 0, hc 1, hc 2, hc 3, hc 4, hc 5, hc 6, hc 7, hc 8, hc 9, hc 10, hc 11, hc 12, hc 13, hc 14⟩, by decide, a1_in, ?_⟩
  exact ⟨_, 15, ⟨⟨some ⟨N + 1, 0, none⟩, 1, none, 0⟩, ⟨none, 0, none, 0, none, 0⟩⟩, rfl, trivial, ⟨hc 15, hc 16, hc 17, hc 18, hc 19, hc 20, hc 21, hc 22, hc 23, hc 24, hc 25, hc 26, hc 27, hc 28, hc 29⟩, by decide, a2_in h1, trivial⟩
theorem a1_len : (ptB a1).length ≤ 100 := by decide
theorem a2_len : (ptB a2).length ≤ 100 := by decide
theorem a3_len : (ptB a3).length ≤ 549755813888 := Nat.le_trans (by decide : (ptB a3).length ≤ 200) (by decide)
theorem a_fit : NdFit [⟨⟨#[112]⟩, a1⟩, ⟨⟨#[113]⟩, a2⟩] := by
  intro d hd
  have h1 := a1_len
  have h2 := a2_len
  simp only [List.mem_cons, List.not_mem_nil, or_false] at hd
  rcases hd with rfl | rfl
  · exact ⟨by decide, by show (ptB a1).length ≤ _; omega⟩
  · exact ⟨by decide, by show (ptB a2).length ≤ _; omega⟩
theorem awake_text {w : World} {N : Nat} (h1 : w.heap[N + 1]? = some (.cells #[.string ⟨#[120, 10]⟩] 9)) (h5 : w.heap[N + 1 + 1 + 1 + 1 + 1]? = some (.cells #[.string ⟨#[112]⟩, .int .u8 1, .string ⟨#[97]⟩, .string ⟨#[120, 10]⟩, .int .i64 0, .slice none 0 0, .slice none 0 0, .int .u8 0, .slice none 0 0, .int .i64 0, .int .i64 0, .string ⟨#[]⟩, .string ⟨#[]⟩, .slice none 0 0, .slice none 0 0, .string ⟨#[113]⟩, .int .u8 3, .string ⟨#[97]⟩, .string ⟨#[]⟩, .int .i64 0, .slice (some ⟨N + 1, 0, none⟩) 1 1, .slice none 0 0, .int .u8 0, .slice none 0 0, .int .i64 0, .int .i64 0, .string ⟨#[]⟩, .string ⟨#[]⟩, .slice none 0 0, .slice none 0 0] 39)) (htab : TabOk w) (hpow : TabP w.heap.size w) :
    Calls Tryz.prog 6 #[.slice (some ⟨N + 1 + 1 + 1 + 1 + 1, 0, none⟩) 2 2] w fun e w' => e = .returned (.string ⟨#[112, 58, 32, 97, 100, 100, 32, 97, 32, 50, 10, 113, 58, 32, 108, 105, 110, 101, 115, 32, 97, 32, 48, 32, 49, 32, 48, 10]⟩) ∧ Below w.heap.size w w' := by
  have h := text_any (c := 2) (a_rows h1 h5) (by simp) htab hpow a_fit (by rw [a_text]; decide)
  rw [a_text] at h
  exact h
theorem awake_line {w : World} {N : Nat} (h3 : w.heap[N + 1 + 1 + 1]? = some (.cells #[.int .i64 0, .int .i64 1] 3)) (htab : TabOk w) (hpow : TabP w.heap.size w) :
    Calls Tryz.prog 7 #[.agg #[.int .u8 4, .string ⟨#[109, 97, 105, 110]⟩, .string ⟨#[]⟩, .int .i64 0, .slice none 0 0, .slice none 0 0, .int .u8 1, .slice (some ⟨N + 1 + 1 + 1, 0, none⟩) 2 2, .int .i64 0, .int .i64 0, .string ⟨#[120]⟩, .string ⟨#[121]⟩, .slice none 0 0, .slice none 0 0]] w fun e w' => e = .returned (.string ⟨#[114, 101, 110, 97, 109, 101, 32, 109, 97, 105, 110, 32, 48, 46, 49, 32, 120, 32, 121]⟩) ∧ Below w.heap.size w w' := by
  have h := line_yes (a3_in h3) htab hpow a3_ok a3_len
  rw [a3_line] at h
  exact h
theorem awake_zero {w : World} (htab : TabOk w) :
    Calls Tryz.prog 7 #[.agg #[.int .u8 0, .string ⟨#[]⟩, .string ⟨#[]⟩, .int .i64 0, .slice none 0 0, .slice none 0 0, .int .u8 0, .slice none 0 0, .int .i64 0, .int .i64 0, .string ⟨#[]⟩, .string ⟨#[]⟩, .slice none 0 0, .slice none 0 0]] w fun e w' => e = .returned (.string ⟨#[63]⟩) ∧ Below w.heap.size w w' := by
  have h := line_no (S := fun _ => True) (x := ⟨⟨none, 0, none, 0⟩, ⟨none, 0, none, 0, none, 0⟩⟩) (p := Pt.zero) (w := w) ⟨by decide, by decide, by decide, zZero.1, zZero.2⟩ htab (by decide) a0_no
  exact h

set_option maxHeartbeats 4000000 in
set_option maxRecDepth 1000000 in
theorem awake_any {w : World} (htab : TabOk w) (hpow : TabP w.heap.size w) : Calls Tryz.prog 4 #[] w fun e w' => e = .returned (.bool true) ∧ Below w.heap.size w w' := by
  have HT := hide htab
  have HP := hide hpow
  clear htab hpow
  go_enter Tryz.func4, Tryz.ntmps4
  go_wp2_with fail
  have al : ∀ (u : World) (o : Obj) (k : Nat), u.heap.size = k → (u.alloc o).heap[k]? = some o ∧ (u.alloc o).heap.size = k + 1 ∧ (∀ j, j < k → (u.alloc o).heap[j]? = u.heap[j]?) ∧ Below k u (u.alloc o) := by
    intro u o k e
    subst e
    exact ⟨heap_alloc_new u o, by simp, fun j hj => Below.heap_alloc u o j hj, below_alloc u o⟩
  obtain ⟨n1, s1, k1, b1⟩ := al w (.cells #[.int .u8 1, .string ⟨#[97]⟩, .string ⟨#[120, 10]⟩, .int .i64 0, .slice none 0 0, .slice none 0 0, .int .u8 0, .slice none 0 0, .int .i64 0, .int .i64 0, .string ⟨#[]⟩, .string ⟨#[]⟩, .slice none 0 0, .slice none 0 0] 37) _ rfl
  generalize w.alloc (.cells #[.int .u8 1, .string ⟨#[97]⟩, .string ⟨#[120, 10]⟩, .int .i64 0, .slice none 0 0, .slice none 0 0, .int .u8 0, .slice none 0 0, .int .i64 0, .int .i64 0, .string ⟨#[]⟩, .string ⟨#[]⟩, .slice none 0 0, .slice none 0 0] 37) = W1 at n1 s1 k1 b1 ⊢
  obtain ⟨n2, s2, k2, b2⟩ := al W1 (.cells #[.string ⟨#[120, 10]⟩] 9) _ s1
  generalize W1.alloc (.cells #[.string ⟨#[120, 10]⟩] 9) = W2 at n2 s2 k2 b2 ⊢
  obtain ⟨n3, s3, k3, b3⟩ := al W2 (.cells #[.int .u8 3, .string ⟨#[97]⟩, .string ⟨#[]⟩, .int .i64 0, .slice (some ⟨w.heap.size + 1, 0, none⟩) 1 1, .slice none 0 0, .int .u8 0, .slice none 0 0, .int .i64 0, .int .i64 0, .string ⟨#[]⟩, .string ⟨#[]⟩, .slice none 0 0, .slice none 0 0] 37) _ s2
  generalize W2.alloc (.cells #[.int .u8 3, .string ⟨#[97]⟩, .string ⟨#[]⟩, .int .i64 0, .slice (some ⟨w.heap.size + 1, 0, none⟩) 1 1, .slice none 0 0, .int .u8 0, .slice none 0 0, .int .i64 0, .int .i64 0, .string ⟨#[]⟩, .string ⟨#[]⟩, .slice none 0 0, .slice none 0 0] 37) = W3 at n3 s3 k3 b3 ⊢
  obtain ⟨n4, s4, k4, b4⟩ := al W3 (.cells #[.int .i64 0, .int .i64 1] 3) _ s3
  generalize W3.alloc (.cells #[.int .i64 0, .int .i64 1] 3) = W4 at n4 s4 k4 b4 ⊢
  obtain ⟨n5, s5, k5, b5⟩ := al W4 (.cells #[.int .u8 4, .string ⟨#[109, 97, 105, 110]⟩, .string ⟨#[]⟩, .int .i64 0, .slice none 0 0, .slice none 0 0, .int .u8 1, .slice (some ⟨w.heap.size + 1 + 1 + 1, 0, none⟩) 2 2, .int .i64 0, .int .i64 0, .string ⟨#[120]⟩, .string ⟨#[121]⟩, .slice none 0 0, .slice none 0 0] 37) _ s4
  generalize W4.alloc (.cells #[.int .u8 4, .string ⟨#[109, 97, 105, 110]⟩, .string ⟨#[]⟩, .int .i64 0, .slice none 0 0, .slice none 0 0, .int .u8 1, .slice (some ⟨w.heap.size + 1 + 1 + 1, 0, none⟩) 2 2, .int .i64 0, .int .i64 0, .string ⟨#[120]⟩, .string ⟨#[121]⟩, .slice none 0 0, .slice none 0 0] 37) = W5 at n5 s5 k5 b5 ⊢
  obtain ⟨n6, s6, k6, b6⟩ := al W5 (.cells #[.string ⟨#[112]⟩, .int .u8 1, .string ⟨#[97]⟩, .string ⟨#[120, 10]⟩, .int .i64 0, .slice none 0 0, .slice none 0 0, .int .u8 0, .slice none 0 0, .int .i64 0, .int .i64 0, .string ⟨#[]⟩, .string ⟨#[]⟩, .slice none 0 0, .slice none 0 0, .string ⟨#[113]⟩, .int .u8 3, .string ⟨#[97]⟩, .string ⟨#[]⟩, .int .i64 0, .slice (some ⟨w.heap.size + 1, 0, none⟩) 1 1, .slice none 0 0, .int .u8 0, .slice none 0 0, .int .i64 0, .int .i64 0, .string ⟨#[]⟩, .string ⟨#[]⟩, .slice none 0 0, .slice none 0 0] 39) _ s5
  generalize W5.alloc (.cells #[.string ⟨#[112]⟩, .int .u8 1, .string ⟨#[97]⟩, .string ⟨#[120, 10]⟩, .int .i64 0, .slice none 0 0, .slice none 0 0, .int .u8 0, .slice none 0 0, .int .i64 0, .int .i64 0, .string ⟨#[]⟩, .string ⟨#[]⟩, .slice none 0 0, .slice none 0 0, .string ⟨#[113]⟩, .int .u8 3, .string ⟨#[97]⟩, .string ⟨#[]⟩, .int .i64 0, .slice (some ⟨w.heap.size + 1, 0, none⟩) 1 1, .slice none 0 0, .int .u8 0, .slice none 0 0, .int .i64 0, .int .i64 0, .string ⟨#[]⟩, .string ⟨#[]⟩, .slice none 0 0, .slice none 0 0] 39) = W6 at n6 s6 k6 b6 ⊢
  have g0 : W6.heap[w.heap.size + 1 + 1 + 1 + 1]? = some (.cells #[.int .u8 4, .string ⟨#[109, 97, 105, 110]⟩, .string ⟨#[]⟩, .int .i64 0, .slice none 0 0, .slice none 0 0, .int .u8 1, .slice (some ⟨w.heap.size + 1 + 1 + 1, 0, none⟩) 2 2, .int .i64 0, .int .i64 0, .string ⟨#[120]⟩, .string ⟨#[121]⟩, .slice none 0 0, .slice none 0 0] 37) := (k6 _ (by omega)).trans n5
  have g1 : W6.heap[w.heap.size + 1]? = some (.cells #[.string ⟨#[120, 10]⟩] 9) := (k6 _ (by omega)).trans ((k5 _ (by omega)).trans ((k4 _ (by omega)).trans ((k3 _ (by omega)).trans n2)))
  have g3 : W6.heap[w.heap.size + 1 + 1 + 1]? = some (.cells #[.int .i64 0, .int .i64 1] 3) := (k6 _ (by omega)).trans ((k5 _ (by omega)).trans n4)
  have gB : Hid (Below w.heap.size w W6) := hide (b1.trans ((b2.mono (by omega)).trans ((b3.mono (by omega)).trans ((b4.mono (by omega)).trans ((b5.mono (by omega)).trans (b6.mono (by omega)))))))
  have hcell : ∀ o, W6.cell? ⟨w.heap.size + 1 + 1 + 1 + 1, o, none⟩ = (#[.int .u8 4, .string ⟨#[109, 97, 105, 110]⟩, .string ⟨#[]⟩, .int .i64 0, .slice none 0 0, .slice none 0 0, .int .u8 1, .slice (some ⟨w.heap.size + 1 + 1 + 1, 0, none⟩) 2 2, .int .i64 0, .int .i64 0, .string ⟨#[120]⟩, .string ⟨#[121]⟩, .slice none 0 0, .slice none 0 0] : Array Value)[o]? := fun o => Lib.cell_of_heap g0 o
  have G1 := hide g1
  have G3 := hide g3
  have G5 := hide n6
  have h0 := hide g0
  clear g0 g1 g3 n1 n2 n3 n4 n5 n6 k1 k2 k3 k4 k5 k6 b1 b2 b3 b4 b5 b6 al hcell s1 s2 s3 s4 s5
  have gs := gB.out.size
  go_wp2_with (first
    | (go_at_call 6; (with_reducible refine (awake_text G1.out G5.out (HT.out.below gB.out) ((HP.out.below gB.out).up gs)).mono ?_); rintro e7 W7 ⟨rfl, hB7⟩; have HB7 := hide (gB.out.trans (hB7.mono gs)); have hs7 := HB7.out.size; have hcell7 : ∀ o, W7.cell? ⟨w.heap.size + 1 + 1 + 1 + 1, o, none⟩ = (#[.int .u8 4, .string ⟨#[109, 97, 105, 110]⟩, .string ⟨#[]⟩, .int .i64 0, .slice none 0 0, .slice none 0 0, .int .u8 1, .slice (some ⟨w.heap.size + 1 + 1 + 1, 0, none⟩) 2 2, .int .i64 0, .int .i64 0, .string ⟨#[120]⟩, .string ⟨#[121]⟩, .slice none 0 0, .slice none 0 0] : Array Value)[o]? := (fun o => Lib.cell_of_heap ((hB7.block _ (by omega)).trans h0.out) o); have G7 := hide ((hB7.block _ (by omega)).trans G3.out); clear hB7)
    | (go_at_call 7; (with_reducible refine (awake_line G7.out (HT.out.below HB7.out) ((HP.out.below HB7.out).up hs7)).mono ?_); rintro e8 W8 ⟨rfl, hB8⟩; have HB8 := hide (HB7.out.trans (hB8.mono hs7)); have hs8 := HB8.out.size; clear hB8)
    | (go_at_call 7; (with_reducible refine (awake_zero (HT.out.below HB8.out)).mono ?_); rintro e9 W9 ⟨rfl, hB9⟩; have HB9 := hide (HB8.out.trans (hB9.mono hs8)); clear hB9))
  go_ret
  exact ⟨rfl, HB9.out⟩

end Go.Proofs.YtpocmfilpecfdaaGreatDoor
