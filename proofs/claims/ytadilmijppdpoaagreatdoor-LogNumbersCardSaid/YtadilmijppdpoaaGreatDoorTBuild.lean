/- Words with one byte 32 between: cut at that byte they come back. Plain lists; nothing here speaks of the program. -/
import Derived.Lib.SplitLaws
import Derived.Lib.Join
import Derived.Lib.ItoaNum
import Derived.Test.YtadilmijppdpoaaGreatDoorProg
import Derived.Lib.Builder
import Derived.Lib.AppendStr
import Derived.OwnWalk
import Derived.Lib.OthersKept
import Derived.Shelf.RegionOpenPlain
import Derived.Lib.Walk
import Derived.Lib.UnsafeStr
import Derived.Test.YtadilmijppdpoaaGreatDoorTBase

set_option linter.unusedVariables false
set_option linter.unusedSimpArgs false

namespace Go.Proofs.YtadilmijppdpoaaGreatDoor
open Go

/-- no byte 32, no byte 10 -/
def Word (s : List UInt8) : Prop := ∀ c ∈ s, c ≠ 32 ∧ c ≠ 10
theorem index_none : ∀ {x : List UInt8}, (∀ c ∈ x, c ≠ 32) → Lib.index x [32] = -1
  | [], _ => by simp [Lib.index]
  | c :: x, h => by
    have hc : c ≠ 32 := h c (by simp)
    have ih := index_none (x := x) (fun d hd => h d (by simp [hd]))
    have hp : ([32] : List UInt8).isPrefixOf (c :: x) = false := by simp [List.isPrefixOf, Ne.symm hc]
    rw [Lib.index, hp, ih]
    rfl
theorem index_word : ∀ {x r : List UInt8}, (∀ c ∈ x, c ≠ 32) → Lib.index (x ++ 32 :: r) [32] = (x.length : Int)
  | [], r, _ => by simp [Lib.index, List.isPrefixOf]
  | c :: x, r, h => by
    have hc : c ≠ 32 := h c (by simp)
    have ih := index_word (x := x) (r := r) (fun d hd => h d (by simp [hd]))
    have hp : ([32] : List UInt8).isPrefixOf (c :: (x ++ 32 :: r)) = false := by simp [List.isPrefixOf, Ne.symm hc]
    rw [List.cons_append, Lib.index, hp, ih]
    have : ¬ (((x.length : Int) == -1) = true) := by simp <;> omega
    simp [this]
theorem splitK_words : ∀ (ws : List (List UInt8)) (x : List UInt8), (∀ c ∈ x, c ≠ 32) → (∀ y ∈ ws, ∀ c ∈ y, c ≠ 32) → Lib.splitK [32] 0 ws.length (x ++ Lib.joinTail [32] ws) = x :: ws
  | [], x, _, _ => by simp [Lib.splitK, Lib.joinTail]
  | y :: ws, x, hx, hw => by
    have e : Lib.joinTail [32] (y :: ws) = 32 :: (y ++ Lib.joinTail [32] ws) := by simp [Lib.joinTail]
    have ih := splitK_words ws y (hw y (by simp)) (fun z hz => hw z (by simp [hz]))
    have hi := index_word (r := y ++ Lib.joinTail [32] ws) hx
    rw [List.length_cons, Lib.splitK, e, hi]
    have h1 : ¬ (((x.length : Int) == -1) = true) := by simp <;> omega
    rw [if_neg h1]
    have h2 : (x ++ 32 :: (y ++ Lib.joinTail [32] ws)).drop ((x.length : Int).toNat + [(32 : UInt8)].length) = y ++ Lib.joinTail [32] ws := by
      simp [List.drop_append, show x.length + 1 - x.length = 1 by omega]
    have h3 : (x ++ 32 :: (y ++ Lib.joinTail [32] ws)).take ((x.length : Int).toNat + 0) = x := by simp
    rw [h2, h3, ih]
theorem count_none {x : List UInt8} (h : ∀ c ∈ x, c ≠ 32) : x.count 32 = 0 := List.count_eq_zero.mpr (fun hm => h 32 hm rfl)
theorem count_words : ∀ (ws : List (List UInt8)), (∀ y ∈ ws, ∀ c ∈ y, c ≠ 32) → (Lib.joinTail [32] ws).count 32 = ws.length
  | [], _ => by simp [Lib.joinTail]
  | y :: ws, hw => by
    have e : Lib.joinTail [32] (y :: ws) = 32 :: (y ++ Lib.joinTail [32] ws) := by simp [Lib.joinTail]
    rw [e, List.count_cons_self, List.count_append, count_none (hw y (by simp)), count_words ws (fun z hz => hw z (by simp [hz])), List.length_cons]
    omega
/-- words, one byte 32 between, cut at that byte -/
theorem split_words (x : List UInt8) (ws : List (List UInt8)) (hx : ∀ c ∈ x, c ≠ 32) (hw : ∀ y ∈ ws, ∀ c ∈ y, c ≠ 32) :
    Lib.split (Lib.join (x :: ws) [32]) [32] = x :: ws ∧ Lib.count (Lib.join (x :: ws) [32]) [32] = ws.length := by
  have hc : Lib.count (Lib.join (x :: ws) [32]) [32] = ws.length := by
    rw [Lib.count_one, Lib.join_cons, List.count_append, count_none hx, count_words ws hw]
    omega
  refine ⟨?_, hc⟩
  unfold Lib.split
  rw [hc, Lib.join_cons]
  exact splitK_words ws x hx hw

/-! ### numbers are words -/
theorem dec_digit : ∀ (n u : Nat), u < n → ∀ c ∈ Lib.decDigits u, 48 ≤ c.toNat ∧ c.toNat ≤ 57 := by
  intro n
  induction n with
  | zero => intro u h; omega
  | succ n ih =>
    intro u hu c hc
    rw [Lib.decDigits] at hc
    split at hc
    · simp only [List.mem_singleton] at hc
      subst hc
      rw [UInt8.toNat_ofNat']
      omega
    · rename_i hge
      rcases List.mem_append.1 hc with h | h
      · exact ih (u / 10) (by omega) c h
      · simp only [List.mem_singleton] at h
        subst h
        rw [UInt8.toNat_ofNat']
        omega
theorem itoa_word (n : Int) : Word (Lib.itoa n) := by
  intro c hc
  unfold Lib.itoa at hc
  split at hc
  · rcases List.mem_cons.1 hc with rfl | h
    · exact ⟨by decide, by decide⟩
    · have := dec_digit _ _ (Nat.lt_succ_self _) c h
      exact ⟨fun e => by subst e; simp at this, fun e => by subst e; simp at this⟩
  · have := dec_digit _ _ (Nat.lt_succ_self _) c hc
    exact ⟨fun e => by subst e; simp at this, fun e => by subst e; simp at this⟩

end Go.Proofs.YtadilmijppdpoaaGreatDoor

namespace Go.Proofs.YtadilmijppdpoaaGreatDoor
open Go

/-- rename insert delete replace move -/
def wordOf (k : Nat) : List UInt8 :=
  if k = 1 then [114, 101, 110, 97, 109, 101] else if k = 2 then [105, 110, 115, 101, 114, 116] else if k = 3 then [100, 101, 108, 101, 116, 101]
  else if k = 4 then [114, 101, 112, 108, 97, 99, 101] else if k = 5 then [109, 111, 118, 101] else []
def cntNodes : Fo → Nat
  | .nil => 0
  | .cons _ _ _ ks r => 1 + cntNodes ks + cntNodes r
/-- of each node of a row how many there are in it -/
def sizesW : Fo → List (List UInt8)
  | .nil => []
  | .cons _ _ _ ks r => Lib.itoa ((1 + cntNodes ks : Nat) : Int) :: sizesW r
def dotW (p : List Int) : List UInt8 := if p = [] then [45] else Lib.join (p.map Lib.itoa) [46]
def numsW (e : Ed) : List (List UInt8) := if e.kind = 5 then [Lib.itoa e.at_, Lib.itoa e.far] else if e.kind = 2 ∨ e.kind = 3 then [Lib.itoa e.at_] else []
def treeW (file : ByteArray) (e : Ed) : List (List UInt8) :=
  wordOf e.kind :: file.data.toList :: dotW e.path :: (if e.kind = 1 then [e.frm.data.toList, e.to.data.toList] else numsW e ++ (sizesW e.old ++ sizesW e.new))
/-- the words of a right patch's line -/
def lineW (p : Pt) : List (List UInt8) :=
  if p.kind = 1 then [[97, 100, 100], p.file.data.toList, Lib.itoa p.text.size]
  else if p.kind = 2 then [[114, 101, 109, 111, 118, 101], p.file.data.toList, Lib.itoa p.text.size]
  else if p.kind = 3 then [[108, 105, 110, 101, 115], p.file.data.toList, Lib.itoa p.hunk.at_, Lib.itoa p.hunk.old.length, Lib.itoa p.hunk.new.length]
  else treeW p.file p.edit
def lineB (p : Pt) : List UInt8 := Lib.join (lineW p) [32]

theorem file_word {s : ByteArray} (h : FileName s) : Word s.data.toList := by
  intro c hc
  have := h.2.2 c hc
  refine ⟨fun e => ?_, fun e => ?_⟩ <;> (subst e; simp [FileChar, Digit] at this)
theorem lex_word {s : ByteArray} (h : LexName s) : Word s.data.toList := by
  intro c hc
  have := h.2.2.2 c hc
  refine ⟨fun e => ?_, fun e => ?_⟩ <;> (subst e; simp [Letter, Digit] at this)
theorem dot_word (p : List Int) : Word (dotW p) := by
  unfold dotW
  split
  · intro c hc
    simp only [List.mem_singleton] at hc
    subst hc
    exact ⟨by decide, by decide⟩
  · cases p with
    | nil => contradiction
    | cons a r =>
      rw [List.map_cons, Lib.join_cons]
      intro c hc
      rcases List.mem_append.1 hc with h | h
      · exact itoa_word a c h
      · unfold Lib.joinTail at h
        obtain ⟨l, hl, hcl⟩ := List.mem_flatten.1 h
        obtain ⟨y, hy, rfl⟩ := List.mem_map.1 hl
        obtain ⟨z, _, rfl⟩ := List.mem_map.1 hy
        rcases List.mem_append.1 hcl with h | h
        · simp only [List.mem_singleton] at h
          subst h
          exact ⟨by decide, by decide⟩
        · exact itoa_word z c h
theorem sizes_word : ∀ (f : Fo), ∀ s ∈ sizesW f, Word s
  | .nil, s, h => by cases h
  | .cons _ _ _ ks r, s, h => by
    rcases List.mem_cons.1 h with rfl | h
    · exact itoa_word _
    · exact sizes_word r s h
theorem sizes_len : ∀ (f : Fo), (sizesW f).length = f.len
  | .nil => rfl
  | .cons _ _ _ _ r => by simp [sizesW, Fo.len, sizes_len r]
theorem word_lit {l : List UInt8} (h : (l.all fun c => c != 32 && c != 10) = true) : Word l := by
  intro c hc
  have := List.all_eq_true.1 h c hc
  simpa using this
theorem wordOf_word (k : Nat) : Word (wordOf k) := by
  unfold wordOf
  repeat' split
  all_goals exact word_lit (by decide)
theorem tree_words {file : ByteArray} {e : Ed} (hf : FileName file) (h : EdOk e) : ∀ s ∈ treeW file e, Word s := by
  intro s hs
  unfold treeW at hs
  rcases List.mem_cons.1 hs with rfl | hs
  · exact wordOf_word _
  rcases List.mem_cons.1 hs with rfl | hs
  · exact file_word hf
  rcases List.mem_cons.1 hs with rfl | hs
  · exact dot_word _
  split at hs
  · rename_i h1
    obtain ⟨_, h | h | h | h | h⟩ := h
    · obtain ⟨_, _, _, _, _, _, h2, h3, _⟩ := h
      simp only [List.mem_cons, List.not_mem_nil, or_false] at hs
      rcases hs with rfl | rfl
      · exact lex_word h2
      · exact lex_word h3
    · have := h.1; omega
    · have := h.1; omega
    · have := h.1; omega
    · have := h.1; omega
  · rcases List.mem_append.1 hs with hs | hs
    · unfold numsW at hs
      split at hs
      · simp only [List.mem_cons, List.not_mem_nil, or_false] at hs
        rcases hs with rfl | rfl <;> exact itoa_word _
      · split at hs
        · simp only [List.mem_cons, List.not_mem_nil, or_false] at hs
          subst hs
          exact itoa_word _
        · cases hs
    · rcases List.mem_append.1 hs with hs | hs
      · exact sizes_word _ s hs
      · exact sizes_word _ s hs
theorem line_words {p : Pt} (h : PtOk p) : ∀ s ∈ lineW p, Word s := by
  intro s hs
  unfold lineW at hs
  have hf := file_word h.1
  split at hs
  · simp only [List.mem_cons, List.not_mem_nil, or_false] at hs
    rcases hs with rfl | rfl | rfl
    · exact word_lit (by decide)
    · exact hf
    · exact itoa_word _
  · split at hs
    · simp only [List.mem_cons, List.not_mem_nil, or_false] at hs
      rcases hs with rfl | rfl | rfl
      · exact word_lit (by decide)
      · exact hf
      · exact itoa_word _
    · split at hs
      · simp only [List.mem_cons, List.not_mem_nil, or_false] at hs
        rcases hs with rfl | rfl | rfl | rfl | rfl
        · exact word_lit (by decide)
        · exact hf
        · exact itoa_word _
        · exact itoa_word _
        · exact itoa_word _
      · obtain ⟨h0, ⟨hk | hk, _⟩ | ⟨hk, _⟩ | ⟨_, _, _, he⟩⟩ := h
        · omega
        · omega
        · omega
        · exact tree_words h0 he s hs

end Go.Proofs.YtadilmijppdpoaaGreatDoor

namespace Go.Proofs.YtadilmijppdpoaaGreatDoor
open Go.RowKit

theorem bp_t : Tryz.prog.underlying 54 = some (.pointer 57) := by kernel_rfl
theorem bp_u : Tryz.prog.underlying 104 = some .unsafePointer := by kernel_rfl
theorem bp_i : (Tryz.prog.info? 57).map (·.size) = some 2 := by kernel_rfl
theorem bp_l : liesAt Tryz.prog Tryz.prog.depth 59 (2 / Tryz.prog.cellsOf 59) 0 57 1 = true := by kernel_rfl
theorem bp_b : Tryz.prog.underlying 55 = some (.slice 5) := by kernel_rfl
theorem bp_s : Tryz.prog.underlying 9 = some .string := by kernel_rfl
theorem bp_8 : (Tryz.prog.info? 5).map (fun i => (i.zero, i.size, i.bytes)) = some (some (.int .u8 0), 1, 1) := by kernel_rfl
theorem bp_ne : (59 : TypeId) ≠ 5 := by decide

/-- what an owned value's block holds -/
theorem own_kind {w : World} {B : Nat} {e : TypeId} {v : Value} {n : Nat} {xs : List Value} (h : w.ownsRow B e 1 v n xs) : ∀ g, v.ownBlock = some g → ∃ c fz, w.heap[g]? = some (.cells c e fz) := by
  intro g hg
  rcases h.2 with ⟨rfl, _⟩ | ⟨g', cap, cur, rfl, _, hgg, _⟩
  · simp [Value.ownBlock] at hg
  · simp [Value.ownBlock] at hg
    subst hg
    exact ⟨cur, _, hgg⟩
set_option maxHeartbeats 1000000 in
set_option maxRecDepth 1000000 in
theorem copyCheck_used (b : Nat) (w : World) (h0 : w.cell? ⟨b, 0, none⟩ = some (.pointer (some ⟨b, 0, none⟩))) :
    Calls Tryz.prog 44 #[.pointer (some ⟨b, 0, none⟩)] w fun e w' => e = .returned (.tuple #[]) ∧ w' = w := by
  obtain ⟨j, hj, _⟩ := Option.map_eq_some_iff.1 bp_i
  go_enter Tryz.func44, Tryz.ntmps44
  go_wp2
  rw [Lib.run_neq_ptr_same w _ bp_t hj]
  go_wp2
  go_end0
  exact ⟨rfl, rfl⟩
set_option maxHeartbeats 1000000 in
set_option maxRecDepth 1000000 in
theorem copyCheck_fresh (b : Nat) (w : World) (h0 : w.cell? ⟨b, 0, none⟩ = some (.pointer none)) (hsh : w.shape? b = some (59, 2)) (hfz : w.frozen? ⟨b, 0, none⟩ = false) :
    Calls Tryz.prog 44 #[.pointer (some ⟨b, 0, none⟩)] w fun e w' => e = .returned (.tuple #[]) ∧ w' = w.setCell ⟨b, 0, none⟩ (.pointer (some ⟨b, 0, none⟩)) := by
  obtain ⟨j, hj, hjs⟩ := Option.map_eq_some_iff.1 bp_i
  go_enter Tryz.func44, Tryz.ntmps44
  go_wp2
  rw [Lib.run_to_unsafe w ⟨b, 0, none⟩ bp_t bp_u hj (by rw [hjs]; decide) hsh (Nat.zero_lt_succ 1)]
  simp only [Result.andThen]
  rw [Oper.upon_value]
  go_wp2
  rw [run_callFunc_extern Tryz.func74 (by kernel_rfl) (by kernel_rfl) (by kernel_rfl) (e := Extern.AbiNoEscape.same) (by kernel_rfl)]
  rw [Lib.run_noEscape]
  simp only [Result.andThen]
  rw [Oper.upon_value]
  go_wp2
  rw [Lib.run_from_unsafe w ⟨b, 0, none⟩ bp_u bp_t hj hsh bp_l]
  simp only [Result.andThen]
  rw [Oper.upon_value]
  go_wp2
  go_end0
  exact ⟨rfl, rfl⟩

abbrev LineAt (B b : Nat) (p : Value) (bs : List Value) (w : World) : Prop := Lib.BuilderAt 59 5 B b p bs w
abbrev IsLine (B b : Nat) (bs : List Value) (w : World) : Prop := Lib.IsBuilder 59 5 B b bs w
theorem line_copyCheck (B b : Nat) (bs : List Value) (w : World) (h : IsLine B b bs w) :
    Calls Tryz.prog 44 #[.pointer (some ⟨b, 0, none⟩)] w fun e w' => e = .returned (.tuple #[]) ∧ (LineAt B b (.pointer (some ⟨b, 0, none⟩)) bs w' ∧ Below B w w' ∧ Lib.OthersKept 5 (some b) w w') := by
  rcases h with h | h
  · refine (copyCheck_fresh b w h.cell0 h.shape h.frozen0).mono ?_
    rintro e w' ⟨rfl, rfl⟩
    exact ⟨rfl, h.used _, (Below.refl B w).setCell (p := ⟨b, 0, none⟩) h.1 _, (Lib.OthersKept.refl _ _ w).setCell ⟨b, 0, none⟩ rfl _⟩
  · refine (copyCheck_used b w h.cell0).mono ?_
    rintro e w' ⟨rfl, rfl⟩
    exact ⟨rfl, h, Below.refl B _, Lib.OthersKept.refl _ _ _⟩

set_option maxHeartbeats 1000000 in
set_option maxRecDepth 1000000 in
theorem line_len (B b : Nat) (bs : List Value) (w : World) (h : IsLine B b bs w) :
    Calls Tryz.prog 87 #[.pointer (some ⟨b, 0, none⟩)] w fun e w' => e = .returned (.int .i64 bs.length) ∧ w' = w := by
  obtain ⟨p, hB, v, hbk, hown, hne⟩ : ∃ p, LineAt B b p bs w := by
    rcases h with h | h
    · exact ⟨_, h⟩
    · exact ⟨_, h⟩
  obtain ⟨ao, cap, rfl⟩ : ∃ ao cap, v = .slice ao bs.length cap := by
    rcases hown.2 with ⟨hv, h0⟩ | ⟨g, cap, cur, hv, _⟩
    · exact ⟨none, 0, by rw [hv, h0]⟩
    · exact ⟨_, _, hv⟩
  have c1 : w.cell? ⟨b, 1, none⟩ = some (.slice ao bs.length cap) := by rw [Lib.cell_of_heap hbk]; rfl
  go_enter Tryz.func87, Tryz.ntmps87
  go_wp2
  go_ret
  exact ⟨rfl, rfl⟩

set_option maxHeartbeats 2000000 in
set_option maxRecDepth 1000000 in
theorem line_writeString (B b : Nat) (bs : List Value) (s : ByteArray) (w : World) (h : IsLine B b bs w) (hlen : bs.length + s.size ≤ 140737488355328) (hBw : B ≤ w.heap.size) :
    Calls Tryz.prog 22 #[.pointer (some ⟨b, 0, none⟩), .string s] w fun e w' => e = .returned (.tuple #[.int .i64 s.size, .nilIface]) ∧ (LineAt B b (.pointer (some ⟨b, 0, none⟩)) (bs ++ Lib.strCells s) w' ∧ Below B w w' ∧ Lib.OthersKept 5 (some b) w w') := by
  obtain ⟨i0, hi, hz0, hz1, hz2⟩ := info_parts bp_8
  have H := hide h
  clear h
  go_enter Tryz.func22, Tryz.ntmps22
  go_wp2_with (go_at_call 44; refine (line_copyCheck B b bs _ H.out).mono ?_)
  rintro e w1 ⟨rfl, h1, hb1, ho1⟩
  obtain ⟨hB, v, hbk, hown, hne⟩ := h1
  have c0 : w1.cell? ⟨b, 0, none⟩ = some (.pointer (some ⟨b, 0, none⟩)) := by rw [Lib.cell_of_heap hbk]; rfl
  have c1 : w1.cell? ⟨b, 1, none⟩ = some v := by rw [Lib.cell_of_heap hbk]; rfl
  go_wp2_with (at_builtin; refine Lib.wpList_append_own_string _ rfl _ _ 55 9 rfl B 5 i0 bp_b bp_s hi hz0 hz1 hz2 _ _ _ rfl hown s rfl ?c3 ?c4 ?c5 ?_)
  case c3 => unfold maxLen; omega
  case c4 => omega
  case c5 => have := hb1.size; omega
  intro v' w2 hown' hgrow _
  have hlt : b < w1.heap.size := by
    rcases Nat.lt_or_ge b w1.heap.size with h' | h'
    · exact h'
    · simp [Array.getElem?_eq_none h'] at hbk
  have hb2 : w2.heap[b]? = some (.cells #[.pointer (some ⟨b, 0, none⟩), v] 59 (0, 0)) := by
    rw [hgrow.block b hlt (fun e => hne e.symm)]
    exact hbk
  have d0 : w2.cell? ⟨b, 0, none⟩ = some (.pointer (some ⟨b, 0, none⟩)) := by rw [Lib.cell_of_heap hb2]; rfl
  have d1 : w2.cell? ⟨b, 1, none⟩ = some v := by rw [Lib.cell_of_heap hb2]; rfl
  have f1 : w2.frozen? ⟨b, 1, none⟩ = false := Lib.frozen_of_heap hb2 1
  obtain ⟨ao, n', cap, rfl⟩ : ∃ ao n' cap, v' = .slice ao n' cap := by
    rcases hown'.2 with ⟨hv, _⟩ | ⟨g, cap, cur, hv, _⟩
    · exact ⟨_, _, _, hv⟩
    · exact ⟨_, _, _, hv⟩
  go_wp2
  go_ret2
  refine ⟨rfl, ?_, ?_, ?_⟩
  · exact Lib.BuilderAt.put (T := 59) (e := 5) hB hb2 (bs' := bs ++ Lib.strCells s) (by simpa [Lib.strCells_length] using hown') bp_ne
  · exact (hb1.grown hgrow (by have := hb1.size; omega) (fun k hk => (hown.lt k hk).1)).setCell (p := ⟨b, 1, none⟩) hB _
  · exact (ho1.grown hgrow (own_kind hown)).setCell ⟨b, 1, none⟩ rfl _

set_option maxHeartbeats 2000000 in
set_option maxRecDepth 1000000 in
theorem line_writeByte (B b : Nat) (bs : List Value) (c : Int) (w : World) (h : IsLine B b bs w) (hlen : bs.length + 1 ≤ 140737488355328) (hBw : B ≤ w.heap.size) :
    Calls Tryz.prog 88 #[.pointer (some ⟨b, 0, none⟩), .int .u8 c] w fun e w' => e = .returned .nilIface ∧ (LineAt B b (.pointer (some ⟨b, 0, none⟩)) (bs ++ [.int .u8 c]) w' ∧ Below B w w' ∧ Lib.OthersKept 5 (some b) w w') := by
  obtain ⟨i0, hi, hz0, hz1, hz2⟩ := info_parts bp_8
  have H := hide h
  clear h
  go_enter Tryz.func88, Tryz.ntmps88
  go_wp2_with (go_at_call 44; refine (line_copyCheck B b bs _ H.out).mono ?_)
  rintro e w1 ⟨rfl, h1, hb1, ho1⟩
  obtain ⟨hB, v, hbk, hown, hne⟩ := h1
  have hlt : b < w1.heap.size := by
    rcases Nat.lt_or_ge b w1.heap.size with h' | h'
    · exact h'
    · simp [Array.getElem?_eq_none h'] at hbk
  have c0 : w1.cell? ⟨b, 0, none⟩ = some (.pointer (some ⟨b, 0, none⟩)) := by rw [Lib.cell_of_heap hbk]; rfl
  have c1 : w1.cell? ⟨b, 1, none⟩ = some v := by rw [Lib.cell_of_heap hbk]; rfl
  go_wp2_with (at_builtin; refine wpList_append_own _ rfl _ _ 55 rfl B 5 i0 (.int .u8 0) 1 1 bp_b hi hz0 hz1 hz2 rfl (by decide) _ _ _ rfl (hown.alloc _) ⟨w1.heap.size, 0, none⟩ 1 1 [.int .u8 c] rfl rfl (cell_one_new _ _ _) (by intro u hu; simp at hu; subst hu; rfl) ?c3 ?c4 ?c5 ?_)
  case c3 => unfold maxLen; omega
  case c4 => omega
  case c5 => have := hb1.size; simp; omega
  intro v' w2 hown' hgrow _
  have hb2 : w2.heap[b]? = some (.cells #[.pointer (some ⟨b, 0, none⟩), v] 59 (0, 0)) := by
    rw [hgrow.block b (by simp; omega) (fun e => hne e.symm), Below.heap_alloc w1 _ b hlt]
    exact hbk
  have d0 : w2.cell? ⟨b, 0, none⟩ = some (.pointer (some ⟨b, 0, none⟩)) := by rw [Lib.cell_of_heap hb2]; rfl
  have d1 : w2.cell? ⟨b, 1, none⟩ = some v := by rw [Lib.cell_of_heap hb2]; rfl
  have f1 : w2.frozen? ⟨b, 1, none⟩ = false := Lib.frozen_of_heap hb2 1
  obtain ⟨ao, n', cap, rfl⟩ : ∃ ao n' cap, v' = .slice ao n' cap := by
    rcases hown'.2 with ⟨hv, _⟩ | ⟨g, cap, cur, hv, _⟩
    · exact ⟨_, _, _, hv⟩
    · exact ⟨_, _, _, hv⟩
  go_wp2
  go_ret
  refine ⟨rfl, ?_, ?_, ?_⟩
  · exact Lib.BuilderAt.put (T := 59) (e := 5) hB hb2 (bs' := bs ++ [.int .u8 c]) (by simpa using hown') bp_ne
  · exact ((hb1.alloc (by have := hb1.size; omega) _).grown hgrow (by have := hb1.size; simp; omega) (fun k hk => (hown.lt k hk).1)).setCell (p := ⟨b, 1, none⟩) hB _
  · exact ((ho1.alloc _).grown hgrow (own_kind (hown.alloc _))).setCell ⟨b, 1, none⟩ rfl _

end Go.Proofs.YtadilmijppdpoaaGreatDoor

namespace Go.Proofs.YtadilmijppdpoaaGreatDoor
open Go.RowKit

theorem bp_p8 : Tryz.prog.underlying 81 = some (.pointer 5) := by kernel_rfl
theorem bp_c8 : Tryz.prog.cellsOf 5 = 1 := by kernel_rfl

set_option maxHeartbeats 2000000 in
set_option maxRecDepth 1000000 in
theorem line_string (B b : Nat) (l : List UInt8) (w : World) (h : IsLine B b (Lib.byteCells l) w) (h0 : l ≠ []) :
    Calls Tryz.prog 18 #[.pointer (some ⟨b, 0, none⟩)] w fun e w' => e = .returned (.string ⟨l.toArray⟩) ∧ Below B w w' ∧ Lib.OthersKept 5 (some b) w w' := by
  obtain ⟨p, hB, v, hbk, hown, hne⟩ : ∃ p, LineAt B b p (Lib.byteCells l) w := by
    rcases h with h | h
    · exact ⟨_, h⟩
    · exact ⟨_, h⟩
  have hl0 : l.length ≠ 0 := by simpa using h0
  rw [Lib.byteCells_length] at hown
  obtain ⟨g, cap, cur, rfl, hbg, hg, hnc, hcm, hcs, htake⟩ : ∃ g cap cur, v = .slice (some ⟨g, 0, none⟩) l.length cap ∧ B ≤ g ∧ w.heap[g]? = some (.cells cur 5 (0, 0)) ∧ l.length ≤ cap ∧ cap ≤ maxLen ∧ cur.size = cap * 1 ∧ cur.toList.take (l.length * 1) = Lib.byteCells l := by
    rcases hown.2 with ⟨_, hz⟩ | ⟨g, cap, cur, hv, r⟩
    · exact absurd hz hl0
    · exact ⟨g, cap, cur, hv, r⟩
  have c1 : w.drew.cell? ⟨b, 1, none⟩ = some (.slice (some ⟨g, 0, none⟩) l.length cap) := by
    have : w.drew.heap[b]? = some (.cells #[p, .slice (some ⟨g, 0, none⟩) l.length cap] 59 (0, 0)) := hbk
    rw [Lib.cell_of_heap this]; rfl
  have hSD : (Builtin.unsafeSliceData_ #[55] 81 #[.slice (some ⟨g, 0, none⟩) l.length cap]).run Tryz.prog w.drew = .ok (.pointer (some ⟨g, 0, none⟩)) w.drew :=
    Lib.run_unsafeSliceData_row _ _ _ _ _ _ (by omega)
  have hUS : (Builtin.unsafeString_ #[81, 3] 9 #[.pointer (some ⟨g, 0, none⟩), .int .i64 l.length]).run Tryz.prog w.drew = .ok (.string ⟨l.toArray⟩) (w.drew.freeze ⟨g, 0, none⟩ l.length) := by
    refine Lib.run_unsafeString_row w.drew 81 3 9 5 bp_p8 bp_c8 g cur.size (by have hg' : w.drew.heap[g]? = some (.cells cur 5 (0, 0)) := hg; simp [World.shape?, hg']) l h0 (by omega) (by unfold maxLen at hcm; omega) ?_
    intro j x hx
    have := hown.cells (g := g) rfl j (.int .u8 x.toNat) (by simp [Lib.byteCells, hx])
    exact this
  have mixed : Tryz.prog.follows .mixedOrders = true := by kernel_rfl
  go_enter Tryz.func18, Tryz.ntmps18
  go_wp2
  go_region_o
  all_goals (go_wp2; go_ret; exact ⟨rfl, Lib.below_freeze (Below.drew (Below.refl B w)) (p := ⟨g, 0, none⟩) hbg _, ((Lib.OthersKept.refl _ _ w).drew).freeze ⟨g, 0, none⟩ _ ⟨cur, (0, 0), hg⟩⟩)

/-! ### words put into it -/
def putB (l s : List UInt8) : List UInt8 := if l = [] then s else l ++ 32 :: s
def putsB (l : List UInt8) (ws : List ByteArray) : List UInt8 := ws.foldl (fun l s => putB l s.data.toList) l
def roomB (ws : List ByteArray) : Nat := (ws.map fun s => s.size + 1).sum
theorem putB_len (l : List UInt8) (s : ByteArray) : (putB l s.data.toList).length ≤ l.length + (s.size + 1) := by
  have hs : s.data.toList.length = s.size := rfl
  unfold putB
  split
  · omega
  · simp only [List.length_append, List.length_cons]; omega
theorem putsB_len : ∀ (ws : List ByteArray) (l : List UInt8), (putsB l ws).length ≤ l.length + roomB ws
  | [], l => by simp [putsB, roomB]
  | s :: ws, l => by
    have h1 := putsB_len ws (putB l s.data.toList)
    have h2 := putB_len l s
    have e : roomB (s :: ws) = (s.size + 1) + roomB ws := by unfold roomB; rw [List.map_cons, List.sum_cons]
    have e2 : putsB l (s :: ws) = putsB (putB l s.data.toList) ws := rfl
    rw [e, e2]
    omega
theorem room_take {ws : List ByteArray} {q : Nat} (hq : q < ws.length) : roomB (ws.take q) + (ws[q].size + 1) ≤ roomB ws := by
  have h : roomB ws = roomB (ws.take q) + roomB (ws.drop q) := by
    conv => lhs; rw [← List.take_append_drop q ws]
    simp only [roomB, List.map_append, List.sum_append]
  rw [List.drop_eq_getElem_cons hq] at h
  have e : roomB (ws[q] :: ws.drop (q + 1)) = (ws[q].size + 1) + roomB (ws.drop (q + 1)) := by unfold roomB; rw [List.map_cons, List.sum_cons]
  omega
theorem puts_next {l : List UInt8} {ws : List ByteArray} {q : Nat} (hq : q < ws.length) : putsB l (ws.take (q + 1)) = putB (putsB l (ws.take q)) ws[q].data.toList := by
  rw [List.take_succ_eq_append_getElem hq]
  simp only [putsB, List.foldl_append, List.foldl_cons, List.foldl_nil]
/-- a row of strings that the call does not write to -/
def StrRow (w : World) (A : Option Addr) (ws : List ByteArray) : Prop :=
  ws = [] ∨ ∃ k o cs fz, A = some ⟨k, o, none⟩ ∧ w.heap[k]? = some (.cells cs 9 fz) ∧ ∀ j u, ws[j]? = some u → cs[o + j]? = some (.string u)
theorem StrRow.kept {w w' : World} {A : Option Addr} {ws : List ByteArray} {b : Nat} (h : StrRow w A ws) (hk : Lib.OthersKept 5 (some b) w w') (hb : ∀ k o, A = some ⟨k, o, none⟩ → k ≠ b) : StrRow w' A ws := by
  rcases h with h | ⟨k, o, cs, fz, rfl, h1, h2⟩
  · exact .inl h
  · exact .inr ⟨k, o, cs, fz, rfl, hk k _ h1 (fun e => hb k o rfl (Option.some.inj e)) (fun c fz' e => by injection e with _ e2 _; exact absurd e2 (by decide)), h2⟩
theorem StrRow.at_ {w : World} {A : Option Addr} {ws : List ByteArray} (h : StrRow w A ws) {j : Nat} (hj : j < ws.length) : ∃ k o, A = some ⟨k, o, none⟩ ∧ w.cell? ⟨k, o + j, none⟩ = some (.string ws[j]) := by
  rcases h with rfl | ⟨k, o, cs, fz, rfl, h1, h2⟩
  · simp at hj
  · exact ⟨k, o, rfl, by rw [Lib.cell_of_heap h1]; exact h2 j _ (List.getElem?_eq_getElem hj)⟩

theorem str_cells (s : ByteArray) : Lib.byteCells s.data.toList = Lib.strCells s := by simp [Lib.byteCells, Lib.strCells]
theorem cells_word (M : List UInt8) (s : ByteArray) : Lib.byteCells (M ++ 32 :: s.data.toList) = (Lib.byteCells M ++ [.int .u8 32]) ++ Lib.strCells s := by
  rw [← str_cells]
  simp [Lib.byteCells]
theorem line_lenB (B b : Nat) (l : List UInt8) (w : World) (h : IsLine B b (Lib.byteCells l) w) :
    Calls Tryz.prog 87 #[.pointer (some ⟨b, 0, none⟩)] w fun e w' => e = .returned (.int .i64 l.length) ∧ w' = w := by
  refine (line_len B b _ w h).mono ?_
  rintro e w' ⟨rfl, rfl⟩
  exact ⟨by rw [Lib.byteCells_length], rfl⟩

set_option maxHeartbeats 2000000 in
set_option maxRecDepth 1000000 in
theorem line_put {B b c : Nat} {l : List UInt8} {A : Option Addr} {ws : List ByteArray} {w : World} (h : IsLine B b (Lib.byteCells l) w) (hA : StrRow w A ws) (hb : ∀ k o, A = some ⟨k, o, none⟩ → k ≠ b) (hlen : l.length + roomB ws ≤ 140737488355328) (hBw : B ≤ w.heap.size) (hws : ws.length ≤ 9223372036854775807) :
    Calls Tryz.prog 60 #[.pointer (some ⟨b, 0, none⟩), .slice A ws.length c] w fun e w' => e = .returned (.tuple #[]) ∧ IsLine B b (Lib.byteCells (putsB l ws)) w' ∧ Below B w w' ∧ Lib.OthersKept 5 (some b) w w' := by
  have H := hide h
  have HA := hide hA
  have Hb := hide hb
  clear h hA hb
  go_enter Tryz.func60, Tryz.ntmps60
  go_wp2_with fail
  go_loopw [8, 5] (fun i _ wr => ∃ q : Nat, q ≤ ws.length ∧ i = .int .i64 q ∧ Hid (IsLine B b (Lib.byteCells (putsB l (ws.take q))) wr) ∧ Hid (Below B w wr) ∧ Hid (Lib.OthersKept 5 (some b) w wr)) (fun i _ _ => ws.length - (intOf i).toNat)
  case atStart => exact ⟨0, Nat.zero_le _, rfl, H, hide (Below.refl _ _), hide (Lib.OthersKept.refl _ _ _)⟩
  case round =>
    obtain ⟨q, hq, rfl, HL, HB, HK⟩ := hrel
    by_cases hlt : q < ws.length
    · obtain ⟨k, o, rfl, hc⟩ := (HA.out.kept HK.out Hb.out).at_ hlt
      have hr := room_take hlt
      have hl1 := putsB_len (ws.take q) l
      have hnx := puts_next (l := l) hlt
      have Hnx := hide hnx
      clear hnx
      have hBr := Nat.le_trans hBw HB.out.size
      generalize putsB l (ws.take q) = M at HL hl1 Hnx
      generalize ws[q] = s at hc hr Hnx
      have hwr : B ≤ wr.heap.size := hBr
      by_cases h0 : M = []
      · have hm : M.length = 0 := by rw [h0]; rfl
        have hgt : decide ((0 : Int) < (M.length : Int)) = false := by rw [hm]; rfl
        have hgt2 : ¬ 0 < M.length := by omega
        have H0 := hide h0
        clear h0 hm
        go_wp2_with (first
          | (go_at_call 87; (with_reducible refine (line_lenB B b M _ HL.out).mono ?_); rintro e1 w1 ⟨rfl, rfl⟩)
          | (go_at_call 22; (with_reducible refine (line_writeString B b _ s _ HL.out (by rw [Lib.byteCells_length]; omega) hwr).mono ?_); rintro e3 w3 ⟨rfl, h3, hb3, hk3⟩; have H3 := hide h3; have HB3 := hide (HB.out.trans hb3); have HK3 := hide (HK.out.trans hk3); clear h3 hb3 hk3))
        go_roundw
        case rel => exact ⟨q + 1, by omega, by go_num, hide (by rw [Hnx.out]; unfold putB; rw [if_pos H0.out]; have := H3.out; rw [H0.out] at this; exact .inr this), HB3, HK3⟩
        case measure => simp [intOf]; omega
      · have hm : 0 < M.length := List.length_pos_iff.mpr h0
        have hgt : decide ((0 : Int) < (M.length : Int)) = true := by simp; omega
        have H0 := hide h0
        clear h0
        go_wp2_with (first
          | (go_at_call 87; (with_reducible refine (line_lenB B b M _ HL.out).mono ?_); rintro e1 w1 ⟨rfl, rfl⟩)
          | (go_at_call 88; (with_reducible refine (line_writeByte B b _ 32 _ HL.out (by rw [Lib.byteCells_length]; omega) hwr).mono ?_); rintro e2 w2 ⟨rfl, h2, hb2, hk2⟩; have H2 : Hid (IsLine B b (Lib.byteCells M ++ [.int .u8 32]) w2) := hide (Or.inr h2); have HB2 := hide (HB.out.trans hb2); have HK2 := hide (HK.out.trans hk2); have hw2 := Nat.le_trans hBw HB2.out.size; clear h2 hb2 hk2)
          | (go_at_call 22; (with_reducible refine (line_writeString B b _ s _ H2.out (by simp only [List.length_append, Lib.byteCells_length, List.length_cons, List.length_nil]; omega) hw2).mono ?_); rintro e3 w3 ⟨rfl, h3, hb3, hk3⟩; have H3 := hide h3; have HB3 := hide (HB2.out.trans hb3); have HK3 := hide (HK2.out.trans hk3); clear h3 hb3 hk3))
        go_roundw
        case rel => exact ⟨q + 1, by omega, by go_num, hide (by rw [Hnx.out]; unfold putB; rw [if_neg H0.out, cells_word]; exact .inr H3.out), HB3, HK3⟩
        case measure => simp [intOf]; omega
    · have hqe : q = ws.length := by omega
      go_wp2_with fail
      go_end0
      subst hqe
      exact ⟨rfl, by have := HL.out; rwa [List.take_length] at this, HB.out, HK.out⟩

end Go.Proofs.YtadilmijppdpoaaGreatDoor
