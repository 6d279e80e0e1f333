/- Words with one byte 32 between: cut at that byte they come back. Plain lists; nothing here speaks of the program. -/
import Derived.Lib.SplitLaws
import Derived.Lib.Join
import Derived.Lib.ItoaNum
import Derived.Test.YtpocmfilpecfdaaGreatDoorRBase

set_option linter.unusedVariables false
set_option linter.unusedSimpArgs false

namespace Go.Proofs.YtpocmfilpecfdaaGreatDoor
open Go

/-- no byte 32, no byte 10 -/
def Word (s : List UInt8) : Prop := ∀ c ∈ s, c ≠ 32 ∧ c ≠ 10
theorem index_none : ∀ {x : List UInt8}, (∀ c ∈ x, c ≠ 32) → Lib.index x [32] = -1
  | [], _ => by simp [Lib.index]
  | c :: x, h => by
    have hc : c ≠ 32 := h c (by simp)
    have ih := index_none (x := x) (fun d hd => h d (by simp [hd]))
    have hp : ([32] : List UInt8).isPrefixOf (c :: x) = false := by simp [List.isPrefixOf, Ne.symm hc]
    rw [Lib.index, hp, ih]
    rfl
theorem index_word : ∀ {x r : List UInt8}, (∀ c ∈ x, c ≠ 32) → Lib.index (x ++ 32 :: r) [32] = (x.length : Int)
  | [], r, _ => by simp [Lib.index, List.isPrefixOf]
  | c :: x, r, h => by
    have hc : c ≠ 32 := h c (by simp)
    have ih := index_word (x := x) (r := r) (fun d hd => h d (by simp [hd]))
    have hp : ([32] : List UInt8).isPrefixOf (c :: (x ++ 32 :: r)) = false := by simp [List.isPrefixOf, Ne.symm hc]
    rw [List.cons_append, Lib.index, hp, ih]
    have : ¬ (((x.length : Int) == -1) = true) := by simp <;> omega
    simp [this]
theorem splitK_words : ∀ (ws : List (List UInt8)) (x : List UInt8), (∀ c ∈ x, c ≠ 32) → (∀ y ∈ ws, ∀ c ∈ y, c ≠ 32) → Lib.splitK [32] 0 ws.length (x ++ Lib.joinTail [32] ws) = x :: ws
  | [], x, _, _ => by simp [Lib.splitK, Lib.joinTail]
  | y :: ws, x, hx, hw => by
    have e : Lib.joinTail [32] (y :: ws) = 32 :: (y ++ Lib.joinTail [32] ws) := by simp [Lib.joinTail]
    have ih := splitK_words ws y (hw y (by simp)) (fun z hz => hw z (by simp [hz]))
    have hi := index_word (r := y ++ Lib.joinTail [32] ws) hx
    rw [List.length_cons, Lib.splitK, e, hi]
    have h1 : ¬ (((x.length : Int) == -1) = true) := by simp <;> omega
    rw [if_neg h1]
    have h2 : (x ++ 32 :: (y ++ Lib.joinTail [32] ws)).drop ((x.length : Int).toNat + [(32 : UInt8)].length) = y ++ Lib.joinTail [32] ws := by
      simp [List.drop_append, show x.length + 1 - x.length = 1 by omega]
    have h3 : (x ++ 32 :: (y ++ Lib.joinTail [32] ws)).take ((x.length : Int).toNat + 0) = x := by simp
    rw [h2, h3, ih]
theorem count_none {x : List UInt8} (h : ∀ c ∈ x, c ≠ 32) : x.count 32 = 0 := List.count_eq_zero.mpr (fun hm => h 32 hm rfl)
theorem count_words : ∀ (ws : List (List UInt8)), (∀ y ∈ ws, ∀ c ∈ y, c ≠ 32) → (Lib.joinTail [32] ws).count 32 = ws.length
  | [], _ => by simp [Lib.joinTail]
  | y :: ws, hw => by
    have e : Lib.joinTail [32] (y :: ws) = 32 :: (y ++ Lib.joinTail [32] ws) := by simp [Lib.joinTail]
    rw [e, List.count_cons_self, List.count_append, count_none (hw y (by simp)), count_words ws (fun z hz => hw z (by simp [hz])), List.length_cons]
    omega
/-- words, one byte 32 between, cut at that byte -/
theorem split_words (x : List UInt8) (ws : List (List UInt8)) (hx : ∀ c ∈ x, c ≠ 32) (hw : ∀ y ∈ ws, ∀ c ∈ y, c ≠ 32) :
    Lib.split (Lib.join (x :: ws) [32]) [32] = x :: ws ∧ Lib.count (Lib.join (x :: ws) [32]) [32] = ws.length := by
  have hc : Lib.count (Lib.join (x :: ws) [32]) [32] = ws.length := by
    rw [Lib.count_one, Lib.join_cons, List.count_append, count_none hx, count_words ws hw]
    omega
  refine ⟨?_, hc⟩
  unfold Lib.split
  rw [hc, Lib.join_cons]
  exact splitK_words ws x hx hw

/-! ### numbers are words -/
theorem dec_digit : ∀ (n u : Nat), u < n → ∀ c ∈ Lib.decDigits u, 48 ≤ c.toNat ∧ c.toNat ≤ 57 := by
  intro n
  induction n with
  | zero => intro u h; omega
  | succ n ih =>
    intro u hu c hc
    rw [Lib.decDigits] at hc
    split at hc
    · simp only [List.mem_singleton] at hc
      subst hc
      rw [UInt8.toNat_ofNat']
      omega
    · rename_i hge
      rcases List.mem_append.1 hc with h | h
      · exact ih (u / 10) (by omega) c h
      · simp only [List.mem_singleton] at h
        subst h
        rw [UInt8.toNat_ofNat']
        omega
theorem itoa_word (n : Int) : Word (Lib.itoa n) := by
  intro c hc
  unfold Lib.itoa at hc
  split at hc
  · rcases List.mem_cons.1 hc with rfl | h
    · exact ⟨by decide, by decide⟩
    · have := dec_digit _ _ (Nat.lt_succ_self _) c h
      exact ⟨fun e => by subst e; simp at this, fun e => by subst e; simp at this⟩
  · have := dec_digit _ _ (Nat.lt_succ_self _) c hc
    exact ⟨fun e => by subst e; simp at this, fun e => by subst e; simp at this⟩

end Go.Proofs.YtpocmfilpecfdaaGreatDoor

namespace Go.Proofs.YtpocmfilpecfdaaGreatDoor
open Go

/-- rename insert delete replace move -/
def wordOf (k : Nat) : List UInt8 :=
  if k = 1 then [114, 101, 110, 97, 109, 101] else if k = 2 then [105, 110, 115, 101, 114, 116] else if k = 3 then [100, 101, 108, 101, 116, 101]
  else if k = 4 then [114, 101, 112, 108, 97, 99, 101] else if k = 5 then [109, 111, 118, 101] else []
def cntNodes : Fo → Nat
  | .nil => 0
  | .cons _ _ _ ks r => 1 + cntNodes ks + cntNodes r
/-- of each node of a row how many there are in it -/
def sizesW : Fo → List (List UInt8)
  | .nil => []
  | .cons _ _ _ ks r => Lib.itoa ((1 + cntNodes ks : Nat) : Int) :: sizesW r
def dotW (p : List Int) : List UInt8 := if p = [] then [45] else Lib.join (p.map Lib.itoa) [46]
def numsW (e : Ed) : List (List UInt8) := if e.kind = 5 then [Lib.itoa e.at_, Lib.itoa e.far] else if e.kind = 2 ∨ e.kind = 3 then [Lib.itoa e.at_] else []
def treeW (file : ByteArray) (e : Ed) : List (List UInt8) :=
  wordOf e.kind :: file.data.toList :: dotW e.path :: (if e.kind = 1 then [e.frm.data.toList, e.to.data.toList] else numsW e ++ (sizesW e.old ++ sizesW e.new))
/-- the words of a right patch's line -/
def lineW (p : Pt) : List (List UInt8) :=
  if p.kind = 1 then [[97, 100, 100], p.file.data.toList, Lib.itoa p.text.size]
  else if p.kind = 2 then [[114, 101, 109, 111, 118, 101], p.file.data.toList, Lib.itoa p.text.size]
  else if p.kind = 3 then [[108, 105, 110, 101, 115], p.file.data.toList, Lib.itoa p.hunk.at_, Lib.itoa p.hunk.old.length, Lib.itoa p.hunk.new.length]
  else treeW p.file p.edit
def lineB (p : Pt) : List UInt8 := Lib.join (lineW p) [32]

theorem file_word {s : ByteArray} (h : FileName s) : Word s.data.toList := by
  intro c hc
  have := h.2.2 c hc
  refine ⟨fun e => ?_, fun e => ?_⟩ <;> (subst e; simp [FileChar, Digit] at this)
theorem lex_word {s : ByteArray} (h : LexName s) : Word s.data.toList := by
  intro c hc
  have := h.2.2.2 c hc
  refine ⟨fun e => ?_, fun e => ?_⟩ <;> (subst e; simp [Letter, Digit] at this)
theorem dot_word (p : List Int) : Word (dotW p) := by
  unfold dotW
  split
  · intro c hc
    simp only [List.mem_singleton] at hc
    subst hc
    exact ⟨by decide, by decide⟩
  · cases p with
    | nil => contradiction
    | cons a r =>
      rw [List.map_cons, Lib.join_cons]
      intro c hc
      rcases List.mem_append.1 hc with h | h
      · exact itoa_word a c h
      · unfold Lib.joinTail at h
        obtain ⟨l, hl, hcl⟩ := List.mem_flatten.1 h
        obtain ⟨y, hy, rfl⟩ := List.mem_map.1 hl
        obtain ⟨z, _, rfl⟩ := List.mem_map.1 hy
        rcases List.mem_append.1 hcl with h | h
        · simp only [List.mem_singleton] at h
          subst h
          exact ⟨by decide, by decide⟩
        · exact itoa_word z c h
theorem sizes_word : ∀ (f : Fo), ∀ s ∈ sizesW f, Word s
  | .nil, s, h => by cases h
  | .cons _ _ _ ks r, s, h => by
    rcases List.mem_cons.1 h with rfl | h
    · exact itoa_word _
    · exact sizes_word r s h
theorem sizes_len : ∀ (f : Fo), (sizesW f).length = f.len
  | .nil => rfl
  | .cons _ _ _ _ r => by simp [sizesW, Fo.len, sizes_len r]
theorem word_lit {l : List UInt8} (h : (l.all fun c => c != 32 && c != 10) = true) : Word l := by
  intro c hc
  have := List.all_eq_true.1 h c hc
  simpa using this
theorem wordOf_word (k : Nat) : Word (wordOf k) := by
  unfold wordOf
  repeat' split
  all_goals exact word_lit (by decide)
theorem tree_words {file : ByteArray} {e : Ed} (hf : FileName file) (h : EdOk e) : ∀ s ∈ treeW file e, Word s := by
  intro s hs
  unfold treeW at hs
  rcases List.mem_cons.1 hs with rfl | hs
  · exact wordOf_word _
  rcases List.mem_cons.1 hs with rfl | hs
  · exact file_word hf
  rcases List.mem_cons.1 hs with rfl | hs
  · exact dot_word _
  split at hs
  · rename_i h1
    obtain ⟨_, h | h | h | h | h⟩ := h
    · obtain ⟨_, _, _, _, _, _, h2, h3, _⟩ := h
      simp only [List.mem_cons, List.not_mem_nil, or_false] at hs
      rcases hs with rfl | rfl
      · exact lex_word h2
      · exact lex_word h3
    · have := h.1; omega
    · have := h.1; omega
    · have := h.1; omega
    · have := h.1; omega
  · rcases List.mem_append.1 hs with hs | hs
    · unfold numsW at hs
      split at hs
      · simp only [List.mem_cons, List.not_mem_nil, or_false] at hs
        rcases hs with rfl | rfl <;> exact itoa_word _
      · split at hs
        · simp only [List.mem_cons, List.not_mem_nil, or_false] at hs
          subst hs
          exact itoa_word _
        · cases hs
    · rcases List.mem_append.1 hs with hs | hs
      · exact sizes_word _ s hs
      · exact sizes_word _ s hs
theorem line_words {p : Pt} (h : PtOk p) : ∀ s ∈ lineW p, Word s := by
  intro s hs
  unfold lineW at hs
  have hf := file_word h.1
  split at hs
  · simp only [List.mem_cons, List.not_mem_nil, or_false] at hs
    rcases hs with rfl | rfl | rfl
    · exact word_lit (by decide)
    · exact hf
    · exact itoa_word _
  · split at hs
    · simp only [List.mem_cons, List.not_mem_nil, or_false] at hs
      rcases hs with rfl | rfl | rfl
      · exact word_lit (by decide)
      · exact hf
      · exact itoa_word _
    · split at hs
      · simp only [List.mem_cons, List.not_mem_nil, or_false] at hs
        rcases hs with rfl | rfl | rfl | rfl | rfl
        · exact word_lit (by decide)
        · exact hf
        · exact itoa_word _
        · exact itoa_word _
        · exact itoa_word _
      · obtain ⟨h0, ⟨hk | hk, _⟩ | ⟨hk, _⟩ | ⟨_, _, _, he⟩⟩ := h
        · omega
        · omega
        · omega
        · exact tree_words h0 he s hs

end Go.Proofs.YtpocmfilpecfdaaGreatDoor
