/- Names of the language. -/
import Derived.Test.YtfhfkbdaglegpaaGreatDoorShelf
import Derived.Deep.RegionWith
import Derived.Test.YtfhfkbdaglegpaaGreatDoorGTabs

set_option linter.unusedVariables false
set_option linter.unusedSimpArgs false

namespace Go.Proofs.YtfhfkbdaglegpaaGreatDoor
open Go.RowKit

/-- the library's table of ASCII blanks holds what its text lays -/
def TabOk (w : World) : Prop := 0 < w.heap.size ∧ Lib.TabIs Tryz.prog w "strings.asciiSpace" .u8 Lib.asciiSpaceTab
theorem TabOk.below {w w' : World} (h : TabOk w) (hb : Below w.heap.size w w') : TabOk w' :=
  ⟨Nat.lt_of_lt_of_le h.1 hb.size, var?_below hb (by kernel_rfl) h.1 h.2⟩

def txt (l : List UInt8) : ByteArray := ⟨l.toArray⟩
def txts (l : List (List UInt8)) : List ByteArray := l.map txt
theorem mem_txts {l : List (List UInt8)} {s : ByteArray} : s ∈ txts l ↔ s.data.toList ∈ l := by
  unfold txts
  rw [List.mem_map]
  constructor
  · rintro ⟨x, hx, rfl⟩
    simpa [txt] using hx
  · intro h
    exact ⟨_, h, by simp [txt]⟩

def SplitPost (ws : List (List UInt8)) (w : World) (e : Ending) (w' : World) : Prop :=
  ∃ A c, e = .returned (.slice A (txts ws).length c) ∧ Rd (fun _ => True) w' A ((txts ws).map .string) ∧ Below w.heap.size w w'

theorem fields_any (s : List UInt8) (ws : List (List UInt8)) (w : World) (ht : TabOk w) (hf : Lib.fields s = ws) (hs : s.length < 4294967281) (ha : ∀ b ∈ s, b.toNat < 128) :
    Calls Tryz.prog 174 #[.string ⟨s.toArray⟩] w (SplitPost ws w) := by
  refine (Tryz.strings_Fields ⟨s.toArray⟩ w (by simpa [ByteArray.size] using hs) (fun j b hb => ha b (List.mem_of_getElem? hb)) ht.2).mono ?_
  rintro e w' ⟨rfl, rfl⟩
  have e1 : (Lib.fields (List.toArray s).toList) = ws := by simpa using hf
  simp only [e1]
  refine ⟨some ⟨w.heap.size, 0, none⟩, ws.length, by simp [txts], ?_, below_alloc _ _⟩
  have := rd_new (S := fun _ => True) (w := w) (cs := (txts ws).map .string) (t := 9) trivial
  simpa [txts, txt, Function.comp_def] using this

theorem words_any (w : World) (ht : TabOk w) : Calls Tryz.prog 158 #[] w (SplitPost words w) := by
  have H : Hid (TabOk w) := ht
  clear ht
  go_enter Tryz.func158, Tryz.ntmps158
  go_wp2_with (go_at_call 174; refine (fields_any _ words _ H.out (by decide +kernel) (by decide) (by decide)).mono ?_; rintro e w' ⟨A, c, rfl, hr, hb⟩; have Hr := hide hr; have Hb := hide hb; clear hr hb)
  go_ret
  exact ⟨A, c, rfl, Hr.out, Hb.out⟩

/-- the parts of LexName, as the program asks them -/
theorem lexName_iff {s : ByteArray} (h : 0 < s.size) : LexName s ↔ s.size ≤ 24 ∧ Letter (s[0]) ∧ s ∉ txts words ∧ ∀ c ∈ s.data.toList, Letter c ∨ Digit c := by
  unfold LexName
  rw [mem_txts]
  obtain ⟨⟨l⟩⟩ := s
  cases l with
  | nil => simp [ByteArray.size] at h
  | cons c l =>
    have : (⟨(c :: l).toArray⟩ : ByteArray)[0] = c := rfl
    rw [this]
    simp
theorem lexName_no {s : ByteArray} (h : ¬ 0 < s.size) : ¬ LexName s := by
  rintro ⟨_, ⟨c, l, hc, _⟩, _⟩
  apply h
  have : s.data.toList.length = s.size := by simp
  rw [hc] at this
  simp at this
  omega

set_option maxHeartbeats 1000000 in
theorem lexName_any (s : ByteArray) (w : World) (hs : s.size ≤ 9223372036854775807) (ht : TabOk w) : Calls Tryz.prog 112 #[.string s] w fun e w' => RetB (LexName s) e ∧ Below w.heap.size w w' := by
  have Ht : Hid (TabOk w) := ht
  clear ht
  have hz := hide (size_nil s)
  by_cases h0 : 0 < s.size
  · have hne : ¬ s.toList = [] := by rw [size_nil]; omega
    have hne2 : s.toList.isEmpty = false := by simpa using hne
    by_cases h1 : s.size ≤ 24
    · have Hiff := hide (lexName_iff h0)
      go_enter Tryz.func112, Tryz.ntmps112
      go_wp2_with (first
        | (go_at_call 156; refine (letter_any s[0] _).mono ?_; rintro e w1 ⟨⟨_ | _, rfl, hb⟩, rfl⟩ <;> (have Hb := hide hb; clear hb))
        | (go_at_call 158; refine (words_any _ Ht.out).mono ?_; rintro e w1 ⟨A, c, rfl, hr, hb⟩; have Hr := hide hr; have HB := hide hb; clear hr hb)
        | (go_at_call 157; refine (containsText_any (l := txts words) (x := s) Hr.out (by decide)).mono ?_; rintro e w2 ⟨⟨_ | _, rfl, hb⟩, rfl⟩ <;> (have Hc := hide hb; clear hb)))
      · go_ret
        exact ⟨RetB.no fun h => (by simpa using Hb.out : ¬ Letter s[0]) (Hiff.out.1 h).2.1, Below.refl _ _⟩
      · go_loop [24, 3] (fun i _ => ∃ k : Nat, k ≤ s.size ∧ i = .int .i64 k ∧ Hid (∀ j, (h : j < k) → (h' : j < s.size) → Letter (s[j]) ∨ Digit (s[j]))) (fun i _ => s.size - (intOf i).toNat)
        case atStart => exact ⟨0, Nat.zero_le _, rfl, hide (fun j h => absurd h (by omega))⟩
        case round =>
          obtain ⟨k, hk, rfl, hall⟩ := hrel
          by_cases hlt : k < s.size
          · go_wp2_with (go_at_call 159; refine (wordy_any s[k] _).mono ?_; rintro e w' ⟨⟨_ | _, rfl, hb⟩, rfl⟩ <;> (have Hd := hide hb; clear hb))
            · go_ret
              exact ⟨RetB.no fun h => (by simpa using Hd.out : ¬ (Letter s[k] ∨ Digit s[k])) ((Hiff.out.1 h).2.2.2 _ (mem_idx s k hlt)), HB.out⟩
            · go_round
              case rel => exact ⟨k + 1, by omega, by go_num, hide (all_step (P := fun c => Letter c ∨ Digit c) hall.out hlt (by simpa using Hd.out))⟩
              case measure => simp [intOf]; omega
          · have H := hide (all_done (P := fun c => Letter c ∨ Digit c) hall.out hlt)
            clear hall
            go_wp2_with fail
            go_ret
            exact ⟨RetB.yes (Hiff.out.2 ⟨h1, by simpa using Hb.out, by simpa using Hc.out, H.out⟩), HB.out⟩
      · go_ret
        exact ⟨RetB.no fun h => (Hiff.out.1 h).2.2.1 (by simpa using Hc.out), HB.out⟩
    · go_enter Tryz.func112, Tryz.ntmps112
      go_wp2_with fail
      go_ret
      exact ⟨RetB.no fun h => h1 h.1, Below.refl _ _⟩
  · have he : s.toList = [] := by rw [size_nil]; omega
    go_enter Tryz.func112, Tryz.ntmps112
    go_wp2_with fail
    go_ret
    exact ⟨RetB.no (lexName_no h0), Below.refl _ _⟩

end Go.Proofs.YtfhfkbdaglegpaaGreatDoor

namespace Go.Proofs.YtfhfkbdaglegpaaGreatDoor
open Go.RowKit

/-- one of those that a kind stands for: 200 an expression, 201 a statement, 202 what may be set -/
def IsK (k o : Nat) : Prop := (o = 200 ∧ Expr k) ∨ (o = 201 ∧ Stmt k) ∨ (o = 202 ∧ (k = 22 ∨ k = 26)) ∨ (o < 200 ∧ k = o) ∨ (202 < o ∧ k = o)

theorem is_any (k o : Nat) (w : World) : Calls Tryz.prog 188 #[.int .u8 k, .int .u8 o] w fun e w' => RetB (IsK k o) e ∧ w = w' := by
  go_enter Tryz.func188, Tryz.ntmps188
  go_wp2
  all_goals (go_ret; go_tidy; exact ⟨RetB.mk (by unfold IsK Expr Stmt; grind), rfl⟩)


theorem rd_lit {S : Nat → Prop} {w : World} {cs : List Value} {t : TypeId} (hS : S w.heap.size) : Rd S (w.alloc (.cells cs.toArray t)) (some ⟨w.heap.size, 0, none⟩) cs := rd_new hS

theorem named_any (k : Nat) (w : World) : Calls Tryz.prog 187 #[.int .u8 k] w fun e w' => RetB (Named k) e ∧ Below w.heap.size w w' := by
  go_enter Tryz.func187, Tryz.ntmps187
  go_wp2_with (go_at_call 194; refine (containsKind_any (S := fun _ => True) (l := [2, 4, 6, 22, 25]) (x := (k : Int)) (rd_lit trivial) (by simp)).mono ?_; rintro e w' ⟨⟨b, rfl, hb⟩, rfl⟩; have Hb := hide hb; clear hb)
  go_ret
  exact ⟨RetB.mk (by rw [Hb.out]; unfold Named; simp; omega), below_alloc _ _⟩

theorem kindRow_mem {p : Nat} {k' : Int} {ks : List Int} {all : Bool} (h : kindRow p = some (k', ks, all)) : (k', ks, all) ∈ kindRows ∧ k' = p := by
  unfold kindRow at h
  have h1 := List.mem_of_find?_eq_some h
  have h2 := List.find?_some h
  simp at h2
  exact ⟨h1, h2.symm⟩
theorem kindRow_none {p : Nat} (h : kindRow p = none) : ∀ r ∈ kindRows, r.1 ≠ p := by
  unfold kindRow at h
  rw [List.find?_eq_none] at h
  intro r hr e
  exact h r hr (by simp [e])

theorem known_iff (p : Nat) : Known p ↔ (kindRow p).isSome = true := by
  cases h : kindRow p with
  | none =>
    have := kindRow_none h
    simp [kindRows] at this
    unfold Known Expr
    simp
    omega
  | some x =>
    obtain ⟨k', ks, all⟩ := x
    obtain ⟨h1, rfl⟩ := kindRow_mem h
    simp [kindRows] at h1
    unfold Known Expr
    simp
    omega

theorem fits_none {p : Nat} (h : kindRow p = none) (k i : Nat) : ¬ FitsIn p k i := by
  have := kindRow_none h
  simp [kindRows] at this
  unfold FitsIn many
  intro hf
  have := hf.1 0
  rw [if_neg (by omega), if_neg (by omega), if_neg (by omega), if_neg (by omega)] at this
  exact absurd (this rfl) (by omega)

theorem fits_some {p : Nat} {k' : Int} {ks : List Int} {all : Bool} (h : kindRow p = some (k', ks, all)) (k i : Nat) :
    FitsIn p k i ↔ if all then ∃ o : Nat, ks[0]? = some (o : Int) ∧ IsK k o else ∃ o : Nat, ks[i]? = some (o : Int) ∧ IsK k o := by
  obtain ⟨h1, rfl⟩ := kindRow_mem h
  clear h
  simp [kindRows] at h1
  rcases h1 with ⟨hp, rfl, rfl⟩ | ⟨hp, rfl, rfl⟩ | ⟨hp, rfl, rfl⟩ | ⟨hp, rfl, rfl⟩ | ⟨hp, rfl, rfl⟩ | ⟨hp, rfl, rfl⟩ | ⟨hp, rfl, rfl⟩ | ⟨hp, rfl, rfl⟩ | ⟨hp, rfl, rfl⟩ | ⟨hp, rfl, rfl⟩ | ⟨hp, rfl, rfl⟩ | ⟨hp, rfl, rfl⟩ | ⟨hp, rfl, rfl⟩ | ⟨hp, rfl, rfl⟩ | ⟨hp, rfl, rfl⟩ | ⟨hp, rfl, rfl⟩ | ⟨hp, rfl, rfl⟩ | ⟨hp, rfl, rfl⟩ | ⟨hp, rfl, rfl⟩ | ⟨hp, rfl, rfl⟩ | ⟨hp, rfl, rfl⟩ | ⟨hp, rfl, rfl⟩
  · obtain rfl : p = 1 := by omega
    rcases i with _ | _ | _ | i <;> simp [FitsIn, many, IsK, Stmt, Expr] <;> grind
  · obtain rfl : p = 2 := by omega
    rcases i with _ | _ | _ | i <;> simp [FitsIn, many, IsK, Stmt, Expr] <;> grind
  · obtain rfl : p = 3 := by omega
    rcases i with _ | _ | _ | i <;> simp [FitsIn, many, IsK, Stmt, Expr] <;> grind
  · obtain rfl : p = 4 := by omega
    rcases i with _ | _ | _ | i <;> simp [FitsIn, many, IsK, Stmt, Expr] <;> grind
  · obtain rfl : p = 5 := by omega
    rcases i with _ | _ | _ | i <;> simp [FitsIn, many, IsK, Stmt, Expr] <;> grind
  · obtain rfl : p = 6 := by omega
    rcases i with _ | _ | _ | i <;> simp [FitsIn, many, IsK, Stmt, Expr] <;> grind
  · obtain rfl : p = 7 := by omega
    rcases i with _ | _ | _ | i <;> simp [FitsIn, many, IsK, Stmt, Expr] <;> grind
  · obtain rfl : p = 8 := by omega
    rcases i with _ | _ | _ | i <;> simp [FitsIn, many, IsK, Stmt, Expr] <;> grind
  · obtain rfl : p = 9 := by omega
    rcases i with _ | _ | _ | i <;> simp [FitsIn, many, IsK, Stmt, Expr] <;> grind
  · obtain rfl : p = 10 := by omega
    rcases i with _ | _ | _ | i <;> simp [FitsIn, many, IsK, Stmt, Expr] <;> grind
  · obtain rfl : p = 11 := by omega
    rcases i with _ | _ | _ | i <;> simp [FitsIn, many, IsK, Stmt, Expr] <;> grind
  · obtain rfl : p = 12 := by omega
    rcases i with _ | _ | _ | i <;> simp [FitsIn, many, IsK, Stmt, Expr] <;> grind
  · obtain rfl : p = 20 := by omega
    rcases i with _ | _ | _ | i <;> simp [FitsIn, many, IsK, Stmt, Expr] <;> grind
  · obtain rfl : p = 21 := by omega
    rcases i with _ | _ | _ | i <;> simp [FitsIn, many, IsK, Stmt, Expr] <;> grind
  · obtain rfl : p = 22 := by omega
    rcases i with _ | _ | _ | i <;> simp [FitsIn, many, IsK, Stmt, Expr] <;> grind
  · obtain rfl : p = 23 := by omega
    rcases i with _ | _ | _ | i <;> simp [FitsIn, many, IsK, Stmt, Expr] <;> grind
  · obtain rfl : p = 24 := by omega
    rcases i with _ | _ | _ | i <;> simp [FitsIn, many, IsK, Stmt, Expr] <;> grind
  · obtain rfl : p = 25 := by omega
    rcases i with _ | _ | _ | i <;> simp [FitsIn, many, IsK, Stmt, Expr] <;> grind
  · obtain rfl : p = 26 := by omega
    rcases i with _ | _ | _ | i <;> simp [FitsIn, many, IsK, Stmt, Expr] <;> grind
  · obtain rfl : p = 27 := by omega
    rcases i with _ | _ | _ | i <;> simp [FitsIn, many, IsK, Stmt, Expr] <;> grind
  · obtain rfl : p = 28 := by omega
    rcases i with _ | _ | _ | i <;> simp [FitsIn, many, IsK, Stmt, Expr] <;> grind
  · obtain rfl : p = 29 := by omega
    rcases i with _ | _ | _ | i <;> simp [FitsIn, many, IsK, Stmt, Expr] <;> grind

end Go.Proofs.YtfhfkbdaglegpaaGreatDoor

namespace Go.Proofs.YtfhfkbdaglegpaaGreatDoor
open Go.RowKit

set_option maxHeartbeats 1000000 in
theorem among_any (s : List UInt8) (ws : List (List UInt8)) (bx : Nat) (t : ByteArray) (w : World) (ht : TabOk w) (hf : Lib.fields s = ws) (hs : s.length < 4294967281) (ha : ∀ b ∈ s, b.toNat < 128) (hl : (txts ws).length ≤ 9223372036854775807)
    (hc : w.cell? ⟨bx, 1, none⟩ = some (.string t)) (hemp : [] ∉ ws) :
    Calls Tryz.prog 186 #[.string ⟨s.toArray⟩, .pointer (some ⟨bx, 0, none⟩)] w fun e w' => RetB (t.data.toList ∈ ws) e ∧ Below w.heap.size w w' := by
  have Ht : Hid (TabOk w) := ht
  have Hf := hide hf
  have Ha := hide ha
  have Hl := hide hl
  have He := hide hemp
  have hbx := block_lt_of_cell hc
  clear ht hf ha hl hemp
  by_cases h0 : t.toList = []
  · have hz : t.data.toList = [] := by rw [← ByteArray.toList_eq]; exact h0
    have Hz := hide hz
    clear hz
    go_enter Tryz.func186, Tryz.ntmps186
    go_wp2_with fail
    go_quiet (fail)
    go_wp2_with fail
    go_ret
    exact ⟨RetB.no (by rw [Hz.out]; exact He.out), blw_drewN (Below.refl _ _) _⟩
  · have h1 : t.toList.isEmpty = false := by simpa using h0
    go_enter Tryz.func186, Tryz.ntmps186
    go_wp2_with fail
    go_region_with (first
      | (go_at_call 174; refine (fields_any s ws _ (Ht.out.below (blw_drewN (Below.refl _ _) 1)) Hf.out hs Ha.out).mono ?_; rintro e w1 ⟨A, c, rfl, hr, hB⟩; have hcw := (hB.cell (p := ⟨bx, 1, none⟩) hbx).trans hc; have Hr := hide hr; have HB := hide hB; clear hr hB)
      | (go_at_call 157; refine (containsText_any (l := txts ws) (x := t) Hr.out Hl.out).mono ?_; rintro e w2 ⟨⟨b2, rfl, hb⟩, rfl⟩; have Hc := hide hb; clear hb))
    all_goals
      go_wp2_with fail
      go_ret
      exact ⟨RetB.mk (by rw [Hc.out, mem_txts]), blw_undrew HB.out⟩

def signs1 : List (List UInt8) := [[45], [33]]

theorem textOk_named {k : Nat} {t : ByteArray} (h : Named k) : TextOk k t ↔ LexName t := by unfold TextOk; rw [if_pos h]
theorem textOk_unary {t : ByteArray} : TextOk 23 t ↔ t.data.toList ∈ signs1 := by
  unfold TextOk
  rw [if_neg (by unfold Named; omega), if_pos rfl]
  simp [signs1]
theorem textOk_binary {t : ByteArray} : TextOk 24 t ↔ t.data.toList ∈ binaries := by
  unfold TextOk
  rw [if_neg (by unfold Named; omega), if_neg (by omega), if_pos rfl]
theorem textOk_else {k : Nat} {t : ByteArray} (h : ¬ Named k) (h3 : k ≠ 23) (h4 : k ≠ 24) : TextOk k t ↔ t.toList = [] := by
  unfold TextOk
  rw [if_neg h, if_neg h3, if_neg h4, ByteArray.toList_eq]

set_option maxHeartbeats 2000000 in
theorem says_any (k : Nat) (t : ByteArray) (n : Int) (A : Option Addr) (l c : Nat) (w : World) (ht : TabOk w) (hk : k < 256) (hs : t.size ≤ 9223372036854775807) (hn : isInt64 n) :
    Calls Tryz.prog 177 #[.agg #[.int .u8 k, .string t, .int .i64 n, .slice A l c]] w fun e w' => RetB (NumOk k n ∧ TextOk k t) e ∧ Below w.heap.size w w' := by
  have Ht : Hid (TabOk w) := ht
  unfold isInt64 at hn
  have hmf : ∀ (fn : Fn) (first cap : Array Value) (w : World), (Instr.makeFunc fn first cap).run Tryz.prog w = .ok (.func fn first cap) w := fun _ _ _ _ => rfl
  clear ht
  go_enter Tryz.func177, Tryz.ntmps177
  go_wp2_with (first
    | (go_at_call 187; refine (named_any k _).mono ?_; rintro e w1 ⟨⟨_ | _, rfl, hb⟩, hB⟩ <;> (have Hb := hide hb; have HB := hide (blw_up (below_alloc _ _) hB); obtain ⟨hc1, hf1⟩ := bcell hB; have hz : w.heap.size < w1.heap.size := (by have := hB.size; simp at this; omega); clear hb hB))
    | (go_at_call 112; refine (lexName_any t _ hs (Ht.out.below HB.out)).mono ?_; rintro e w2 ⟨⟨b2, rfl, hb⟩, hB⟩; have Hb2 := hide hb; have HB2 := hide (blw_up HB.out hB); clear hb hB)
    | (go_at_call 186; first
      | ((with_reducible refine (among_any [45, 32, 33] signs1 _ t _ (Ht.out.below HB.out) (by decide +kernel) (by decide) (by decide) (by decide) ?_ (by decide)).mono ?_); (rw [hc1 _ _ (by simp)]; simp); rintro e w2 ⟨⟨b2, rfl, hb⟩, hB⟩; have Hb2 := hide hb; have HB2 := hide (blw_up HB.out hB); clear hb hB)
      | ((with_reducible refine (among_any [124, 124, 32, 38, 38, 32, 61, 61, 32, 33, 61, 32, 60, 32, 60, 61, 32, 62, 32, 62, 61, 32, 43, 32, 45, 32, 42, 32, 47, 32, 37] binaries _ t _ (Ht.out.below HB.out) (by decide +kernel) (by decide) (by decide) (by decide) ?_ (by decide)).mono ?_); (rw [hc1 _ _ (by simp)]; simp); rintro e w2 ⟨⟨b2, rfl, hb⟩, hB⟩; have Hb2 := hide hb; have HB2 := hide (blw_up HB.out hB); clear hb hB)))
  all_goals go_ret
  all_goals go_tidy
  all_goals (try have hb := Hb.out)
  all_goals (try have hb2 := Hb2.out)
  all_goals (try clear hc1 hf1 hz)
  all_goals refine ⟨RetB.mk ?_, (by first | exact HB2.out | exact HB.out | exact below_alloc _ _)⟩
  all_goals (try clear HB2)
  all_goals (try clear HB)
  all_goals (try clear Hb)
  all_goals (try clear Hb2)
  all_goals clear Ht
  all_goals (try clear hk hs)
  all_goals simp only [beq_iff_eq, beq_eq_false_iff_ne, bne_eq_false_iff_eq, bne_iff_ne, ne_eq, decide_eq_true_eq, List.isEmpty_iff] at *
  all_goals unfold NumOk
  · have hk : k = 20 := by omega
    subst hk
    rw [textOk_else (by unfold Named; omega) (by omega) (by omega)]
    constructor
    · intro h; exact ⟨by omega, by assumption⟩
    · rintro ⟨h, _⟩; omega
  · have hk : k = 20 := by omega
    subst hk
    rw [textOk_else (by unfold Named; omega) (by omega) (by omega)]
    constructor
    · intro h; exact absurd h (by decide)
    · rintro ⟨_, h⟩; exact absurd h (by assumption)
  · have hk : k = 21 := by omega
    subst hk
    rw [textOk_else (by unfold Named; omega) (by omega) (by omega)]
    constructor
    · intro h; exact ⟨by omega, by assumption⟩
    · rintro ⟨h, _⟩; omega
  · have hk : k = 21 := by omega
    subst hk
    rw [textOk_else (by unfold Named; omega) (by omega) (by omega)]
    constructor
    · intro h; exact absurd h (by decide)
    · rintro ⟨_, h⟩; exact absurd h (by assumption)
  · constructor
    · intro h; exact absurd h (by decide)
    · rintro ⟨h, _⟩; omega
  · have hk : k = 23 := by omega
    subst hk
    rw [textOk_unary, hb2]
    constructor
    · intro h; exact ⟨by omega, h⟩
    · rintro ⟨_, h⟩; exact h
  · have hk : k = 24 := by omega
    subst hk
    rw [textOk_binary, hb2]
    constructor
    · intro h; exact ⟨by omega, h⟩
    · rintro ⟨_, h⟩; exact h
  · rw [textOk_else (fun h => absurd (hb.mpr h) (by decide)) (by omega) (by omega)]
    constructor
    · intro h; exact ⟨by omega, h⟩
    · rintro ⟨_, h⟩; exact h
  · rw [textOk_named (hb.mp trivial), hb2]
    constructor
    · intro h; exact ⟨by omega, h⟩
    · rintro ⟨_, h⟩; exact h

end Go.Proofs.YtfhfkbdaglegpaaGreatDoor
