/- Plain data of scripts: bytes as hex words; an answer and its line. Nothing here speaks of the program. -/
import Derived.Lib.Join
import Derived.Lib.ItoaNum
import Derived.Test.YtjjaojnglnpgaaaGreatDoorProg
import Derived.Lib.Builder
import Derived.Lib.AppendStr
import Derived.OwnWalk
import Derived.Lib.OthersKept
import Derived.Test.YtjjaojnglnpgaaaGreatDoorShelf
import Derived.Deep.CutBlock
import Derived.Deep.DeepCutAuto
import Derived.BigQuiet
import Derived.Test.YtjjaojnglnpgaaaGreatDoorLBase
import Derived.Test.YtjjaojnglnpgaaaGreatDoorLKeep
import Derived.Test.YtjjaojnglnpgaaaGreatDoorLLent

set_option linter.unusedVariables false
set_option linter.unusedSimpArgs false

namespace Go.Proofs.YtjjaojnglnpgaaaGreatDoor

def hexD (n : Nat) : UInt8 := if n < 10 then UInt8.ofNat (48 + n) else UInt8.ofNat (87 + n)
/-- the digits -/
def signs : ByteArray := ⟨#[48, 49, 50, 51, 52, 53, 54, 55, 56, 57, 97, 98, 99, 100, 101, 102]⟩
theorem signs_at (n : Nat) (h : n < 16) : signs.data[n]? = some (hexD n) := by
  have : n = 0 ∨ n = 1 ∨ n = 2 ∨ n = 3 ∨ n = 4 ∨ n = 5 ∨ n = 6 ∨ n = 7 ∨ n = 8 ∨ n = 9 ∨ n = 10 ∨ n = 11 ∨ n = 12 ∨ n = 13 ∨ n = 14 ∨ n = 15 := by omega
  rcases this with rfl | rfl | rfl | rfl | rfl | rfl | rfl | rfl | rfl | rfl | rfl | rfl | rfl | rfl | rfl | rfl <;> rfl
theorem hexD_inj (a b : Nat) (ha : a < 16) (hb : b < 16) (h : hexD a = hexD b) : a = b := by
  have key : ∀ a, a < 16 → ∀ b, b < 16 → hexD a = hexD b → a = b := by decide
  exact key a ha b hb h
/-- two digits a byte -/
def hexT (b : List UInt8) : List UInt8 := b.flatMap fun c => [hexD (c.toNat / 16), hexD (c.toNat % 16)]
def hexL (b : List UInt8) : List UInt8 := if b = [] then [45] else hexT b
theorem hexT_len (b : List UInt8) : (hexT b).length = 2 * b.length := by
  induction b with
  | nil => rfl
  | cons c b ih => simp only [hexT, List.flatMap_cons, List.length_append, List.length_cons, List.length_nil] at ih ⊢; omega
theorem hexT_next (b : List UInt8) (c : UInt8) : hexT (b ++ [c]) = hexT b ++ [hexD (c.toNat / 16), hexD (c.toNat % 16)] := by simp [hexT]
theorem hexL_len (b : List UInt8) : (hexL b).length ≤ 2 * b.length + 1 := by
  unfold hexL
  split
  · simp
  · rw [hexT_len]; omega
theorem hexT_inj : ∀ {a b : List UInt8}, hexT a = hexT b → a = b := by
  intro a
  induction a with
  | nil => intro b h; cases b with
    | nil => rfl
    | cons c b => simp [hexT] at h
  | cons c a ih =>
    intro b h
    cases b with
    | nil => simp [hexT] at h
    | cons d b =>
      simp only [hexT, List.flatMap_cons, List.cons_append, List.nil_append, List.cons.injEq] at h
      have h1 := hexD_inj _ _ (by have := c.toNat_lt; omega) (by have := d.toNat_lt; omega) h.1
      have h2 := hexD_inj _ _ (by omega) (by omega) h.2.1
      have : c = d := UInt8.toNat_inj.mp (by omega)
      rw [this, ih h.2.2]

/-- an answer -/
structure An where
  err : Int
  names : List ByteArray
  text : ByteArray
  bytes : List UInt8
def kwError : List UInt8 := [101, 114, 114, 111, 114]
def kwOk : List UInt8 := [111, 107]
def kwNames : List UInt8 := [110, 97, 109, 101, 115]
def kwText : List UInt8 := [116, 101, 120, 116]
def kwBytes : List UInt8 := [98, 121, 116, 101, 115]
def An.partN (a : An) : List (List UInt8) := if a.names = [] then [] else kwNames :: a.names.map (·.data.toList)
def An.partT (a : An) : List (List UInt8) := if a.text.size = 0 then [] else [kwText, hexL a.text.data.toList]
def An.partB (a : An) : List (List UInt8) := if a.bytes = [] then [] else [kwBytes, hexL a.bytes]
def An.parts (a : An) : List (List UInt8) := if a.err = 0 then kwOk :: (a.partN ++ (a.partT ++ a.partB)) else [kwError, Go.Lib.itoa a.err]
/-- its line -/
def An.line (a : An) : List UInt8 := Go.Lib.join a.parts [32]
/-- how much it holds -/
def An.bulk (a : An) : Nat := (a.names.map fun s => s.size + 1).sum + a.text.size + a.bytes.length
theorem join_tail (x : List UInt8) (r : List (List UInt8)) : Go.Lib.join (x :: r) [32] = x ++ r.flatMap (fun y => 32 :: y) := by
  rw [Go.Lib.join_cons, Go.Lib.joinTail, List.flatMap]
  rfl
theorem An.line_ok (a : An) (h : a.err = 0) : a.line = kwOk ++ (a.partN.flatMap (fun y => 32 :: y) ++ (a.partT.flatMap (fun y => 32 :: y) ++ a.partB.flatMap (fun y => 32 :: y))) := by
  rw [An.line, An.parts, if_pos h, join_tail, List.flatMap_append, List.flatMap_append]
theorem An.line_err (a : An) (h : ¬ a.err = 0) : a.line = kwError ++ 32 :: Go.Lib.itoa a.err := by
  rw [An.line, An.parts, if_neg h, join_tail]
  simp

end Go.Proofs.YtjjaojnglnpgaaaGreatDoor

namespace Go.Proofs.YtjjaojnglnpgaaaGreatDoor
open Go.RowKit

theorem bq_t : Tryz.prog.underlying 115 = some (.pointer 117) := by kernel_rfl
theorem bq_u : Tryz.prog.underlying 277 = some .unsafePointer := by kernel_rfl
theorem bq_i : (Tryz.prog.info? 117).map (·.size) = some 2 := by kernel_rfl
theorem bq_l : liesAt Tryz.prog Tryz.prog.depth 117 (2 / Tryz.prog.cellsOf 117) 0 117 1 = true := by kernel_rfl
theorem bq_b : Tryz.prog.underlying 44 = some (.slice 5) := by kernel_rfl
theorem bq_s : Tryz.prog.underlying 9 = some .string := by kernel_rfl
theorem bq_8 : (Tryz.prog.info? 5).map (fun i => (i.zero, i.size, i.bytes)) = some (some (.int .u8 0), 1, 1) := by kernel_rfl
theorem own_kind {w : World} {B : Nat} {e : TypeId} {v : Value} {n : Nat} {xs : List Value} (h : w.ownsRow B e 1 v n xs) : ∀ g, v.ownBlock = some g → ∃ c fz, w.heap[g]? = some (.cells c e fz) := by
  intro g hg
  rcases h.2 with ⟨rfl, _⟩ | ⟨g', cap, cur, rfl, _, hgg, _⟩
  · simp [Value.ownBlock] at hg
  · simp [Value.ownBlock] at hg
    subst hg
    exact ⟨cur, _, hgg⟩
theorem kept_below {w w' : World} (b : Nat) (h : Below w.heap.size w w') : Lib.OthersKept 5 (some b) w w' := fun k _ hk _ _ => (h.block k (Array.getElem?_eq_some_iff.1 hk).1).trans hk
theorem bq_ne : (117 : TypeId) ≠ 5 := by decide

set_option maxHeartbeats 1000000 in
set_option maxRecDepth 1000000 in
theorem copyCheckS_used (b : Nat) (w : World) (h0 : w.cell? ⟨b, 0, none⟩ = some (.pointer (some ⟨b, 0, none⟩))) :
    Calls Tryz.prog 129 #[.pointer (some ⟨b, 0, none⟩)] w fun e w' => e = .returned (.tuple #[]) ∧ w' = w := by
  obtain ⟨j, hj, _⟩ := Option.map_eq_some_iff.1 bq_i
  go_enter Tryz.func129, Tryz.ntmps129
  go_wp2
  rw [Lib.run_neq_ptr_same w _ bq_t hj]
  go_wp2
  go_end0
  exact ⟨rfl, rfl⟩
set_option maxHeartbeats 1000000 in
set_option maxRecDepth 1000000 in
theorem copyCheckS_fresh (b : Nat) (w : World) (h0 : w.cell? ⟨b, 0, none⟩ = some (.pointer none)) (hsh : w.shape? b = some (117, 2)) (hfz : w.frozen? ⟨b, 0, none⟩ = false) :
    Calls Tryz.prog 129 #[.pointer (some ⟨b, 0, none⟩)] w fun e w' => e = .returned (.tuple #[]) ∧ w' = w.setCell ⟨b, 0, none⟩ (.pointer (some ⟨b, 0, none⟩)) := by
  obtain ⟨j, hj, hjs⟩ := Option.map_eq_some_iff.1 bq_i
  go_enter Tryz.func129, Tryz.ntmps129
  go_wp2
  rw [Lib.run_to_unsafe w ⟨b, 0, none⟩ bq_t bq_u hj (by rw [hjs]; decide) hsh (Nat.zero_lt_succ 1)]
  simp only [Result.andThen]
  rw [Oper.upon_value]
  go_wp2
  rw [run_callFunc_extern Tryz.func192 (by kernel_rfl) (by kernel_rfl) (by kernel_rfl) (e := Extern.AbiNoEscape.same) (by kernel_rfl)]
  rw [Lib.run_noEscape]
  simp only [Result.andThen]
  rw [Oper.upon_value]
  go_wp2
  rw [Lib.run_from_unsafe w ⟨b, 0, none⟩ bq_u bq_t hj hsh bq_l]
  simp only [Result.andThen]
  rw [Oper.upon_value]
  go_wp2
  go_end0
  exact ⟨rfl, rfl⟩

abbrev SbAt (B b : Nat) (p : Value) (bs : List Value) (w : World) : Prop := Lib.BuilderAt 117 5 B b p bs w
abbrev IsSb (B b : Nat) (bs : List Value) (w : World) : Prop := Lib.IsBuilder 117 5 B b bs w
theorem sb_copyCheck (B b : Nat) (bs : List Value) (w : World) (h : IsSb B b bs w) :
    Calls Tryz.prog 129 #[.pointer (some ⟨b, 0, none⟩)] w fun e w' => e = .returned (.tuple #[]) ∧ (SbAt B b (.pointer (some ⟨b, 0, none⟩)) bs w' ∧ Below B w w' ∧ Lib.OthersKept 5 (some b) w w') := by
  rcases h with h | h
  · refine (copyCheckS_fresh b w h.cell0 h.shape h.frozen0).mono ?_
    rintro e w' ⟨rfl, rfl⟩
    exact ⟨rfl, h.used _, (Below.refl B w).setCell (p := ⟨b, 0, none⟩) h.1 _, (Lib.OthersKept.refl _ _ w).setCell ⟨b, 0, none⟩ rfl _⟩
  · refine (copyCheckS_used b w h.cell0).mono ?_
    rintro e w' ⟨rfl, rfl⟩
    exact ⟨rfl, h, Below.refl B _, Lib.OthersKept.refl _ _ _⟩

set_option maxHeartbeats 1000000 in
set_option maxRecDepth 1000000 in
theorem sb_len (B b : Nat) (bs : List Value) (w : World) (h : IsSb B b bs w) :
    Calls Tryz.prog 68 #[.pointer (some ⟨b, 0, none⟩)] w fun e w' => e = .returned (.int .i64 bs.length) ∧ w' = w := by
  obtain ⟨p, hB, v, hbk, hown, hne⟩ : ∃ p, SbAt B b p bs w := by
    rcases h with h | h
    · exact ⟨_, h⟩
    · exact ⟨_, h⟩
  obtain ⟨ao, cap, rfl⟩ : ∃ ao cap, v = .slice ao bs.length cap := by
    rcases hown.2 with ⟨hv, h0⟩ | ⟨g, cap, cur, hv, _⟩
    · exact ⟨none, 0, by rw [hv, h0]⟩
    · exact ⟨_, _, hv⟩
  have c1 : w.cell? ⟨b, 1, none⟩ = some (.slice ao bs.length cap) := by rw [Lib.cell_of_heap hbk]; rfl
  go_enter Tryz.func68, Tryz.ntmps68
  go_wp2
  go_ret
  exact ⟨rfl, rfl⟩

set_option maxHeartbeats 2000000 in
set_option maxRecDepth 1000000 in
theorem sb_writeString (B b : Nat) (bs : List Value) (s : ByteArray) (w : World) (h : IsSb B b bs w) (hlen : bs.length + s.size ≤ 140737488355328) (hBw : B ≤ w.heap.size) :
    Calls Tryz.prog 58 #[.pointer (some ⟨b, 0, none⟩), .string s] w fun e w' => e = .returned (.tuple #[.int .i64 s.size, .nilIface]) ∧ (SbAt B b (.pointer (some ⟨b, 0, none⟩)) (bs ++ Lib.strCells s) w' ∧ Below B w w' ∧ Lib.OthersKept 5 (some b) w w') := by
  obtain ⟨i0, hi, hz0, hz1, hz2⟩ := info_parts bq_8
  have H := hide h
  clear h
  go_enter Tryz.func58, Tryz.ntmps58
  go_wp2_with (go_at_call 129; refine (sb_copyCheck B b bs _ H.out).mono ?_)
  rintro e w1 ⟨rfl, h1, hb1, ho1⟩
  obtain ⟨hB, v, hbk, hown, hne⟩ := h1
  have c0 : w1.cell? ⟨b, 0, none⟩ = some (.pointer (some ⟨b, 0, none⟩)) := by rw [Lib.cell_of_heap hbk]; rfl
  have c1 : w1.cell? ⟨b, 1, none⟩ = some v := by rw [Lib.cell_of_heap hbk]; rfl
  go_wp2_with (at_builtin; refine Lib.wpList_append_own_string _ rfl _ _ 44 9 rfl B 5 i0 bq_b bq_s hi hz0 hz1 hz2 _ _ _ rfl hown s rfl ?c3 ?c4 ?c5 ?_)
  case c3 => unfold maxLen; omega
  case c4 => omega
  case c5 => have := hb1.size; omega
  intro v' w2 hown' hgrow _
  have hlt : b < w1.heap.size := by
    rcases Nat.lt_or_ge b w1.heap.size with h' | h'
    · exact h'
    · simp [Array.getElem?_eq_none h'] at hbk
  have hb2 : w2.heap[b]? = some (.cells #[.pointer (some ⟨b, 0, none⟩), v] 117 (0, 0)) := by
    rw [hgrow.block b hlt (fun e => hne e.symm)]
    exact hbk
  have d0 : w2.cell? ⟨b, 0, none⟩ = some (.pointer (some ⟨b, 0, none⟩)) := by rw [Lib.cell_of_heap hb2]; rfl
  have d1 : w2.cell? ⟨b, 1, none⟩ = some v := by rw [Lib.cell_of_heap hb2]; rfl
  have f1 : w2.frozen? ⟨b, 1, none⟩ = false := Lib.frozen_of_heap hb2 1
  obtain ⟨ao, n', cap, rfl⟩ : ∃ ao n' cap, v' = .slice ao n' cap := by
    rcases hown'.2 with ⟨hv, _⟩ | ⟨g, cap, cur, hv, _⟩
    · exact ⟨_, _, _, hv⟩
    · exact ⟨_, _, _, hv⟩
  go_wp2
  go_ret2
  refine ⟨rfl, ?_, ?_, ?_⟩
  · exact Lib.BuilderAt.put (T := 117) (e := 5) hB hb2 (bs' := bs ++ Lib.strCells s) (by simpa [Lib.strCells_length] using hown') bq_ne
  · exact (hb1.grown hgrow (by have := hb1.size; omega) (fun k hk => (hown.lt k hk).1)).setCell (p := ⟨b, 1, none⟩) hB _
  · exact (ho1.grown hgrow (own_kind hown)).setCell ⟨b, 1, none⟩ rfl _

set_option maxHeartbeats 2000000 in
set_option maxRecDepth 1000000 in
theorem sb_writeByte (B b : Nat) (bs : List Value) (c : Int) (w : World) (h : IsSb B b bs w) (hlen : bs.length + 1 ≤ 140737488355328) (hBw : B ≤ w.heap.size) :
    Calls Tryz.prog 69 #[.pointer (some ⟨b, 0, none⟩), .int .u8 c] w fun e w' => e = .returned .nilIface ∧ (SbAt B b (.pointer (some ⟨b, 0, none⟩)) (bs ++ [.int .u8 c]) w' ∧ Below B w w' ∧ Lib.OthersKept 5 (some b) w w') := by
  obtain ⟨i0, hi, hz0, hz1, hz2⟩ := info_parts bq_8
  have H := hide h
  clear h
  go_enter Tryz.func69, Tryz.ntmps69
  go_wp2_with (go_at_call 129; refine (sb_copyCheck B b bs _ H.out).mono ?_)
  rintro e w1 ⟨rfl, h1, hb1, ho1⟩
  obtain ⟨hB, v, hbk, hown, hne⟩ := h1
  have hlt : b < w1.heap.size := by
    rcases Nat.lt_or_ge b w1.heap.size with h' | h'
    · exact h'
    · simp [Array.getElem?_eq_none h'] at hbk
  have c0 : w1.cell? ⟨b, 0, none⟩ = some (.pointer (some ⟨b, 0, none⟩)) := by rw [Lib.cell_of_heap hbk]; rfl
  have c1 : w1.cell? ⟨b, 1, none⟩ = some v := by rw [Lib.cell_of_heap hbk]; rfl
  go_wp2_with (at_builtin; refine wpList_append_own _ rfl _ _ 44 rfl B 5 i0 (.int .u8 0) 1 1 bq_b hi hz0 hz1 hz2 rfl (by decide) _ _ _ rfl (hown.alloc _) ⟨w1.heap.size, 0, none⟩ 1 1 [.int .u8 c] rfl rfl (cell_one_new _ _ _) (by intro u hu; simp at hu; subst hu; rfl) ?c3 ?c4 ?c5 ?_)
  case c3 => unfold maxLen; omega
  case c4 => omega
  case c5 => have := hb1.size; simp; omega
  intro v' w2 hown' hgrow _
  have hb2 : w2.heap[b]? = some (.cells #[.pointer (some ⟨b, 0, none⟩), v] 117 (0, 0)) := by
    rw [hgrow.block b (by simp; omega) (fun e => hne e.symm), Below.heap_alloc w1 _ b hlt]
    exact hbk
  have d0 : w2.cell? ⟨b, 0, none⟩ = some (.pointer (some ⟨b, 0, none⟩)) := by rw [Lib.cell_of_heap hb2]; rfl
  have d1 : w2.cell? ⟨b, 1, none⟩ = some v := by rw [Lib.cell_of_heap hb2]; rfl
  have f1 : w2.frozen? ⟨b, 1, none⟩ = false := Lib.frozen_of_heap hb2 1
  obtain ⟨ao, n', cap, rfl⟩ : ∃ ao n' cap, v' = .slice ao n' cap := by
    rcases hown'.2 with ⟨hv, _⟩ | ⟨g, cap, cur, hv, _⟩
    · exact ⟨_, _, _, hv⟩
    · exact ⟨_, _, _, hv⟩
  go_wp2
  go_ret
  refine ⟨rfl, ?_, ?_, ?_⟩
  · exact Lib.BuilderAt.put (T := 117) (e := 5) hB hb2 (bs' := bs ++ [.int .u8 c]) (by simpa using hown') bq_ne
  · exact ((hb1.alloc (by have := hb1.size; omega) _).grown hgrow (by have := hb1.size; simp; omega) (fun k hk => (hown.lt k hk).1)).setCell (p := ⟨b, 1, none⟩) hB _
  · exact ((ho1.alloc _).grown hgrow (own_kind (hown.alloc _))).setCell ⟨b, 1, none⟩ rfl _

theorem IsSb.below {B b : Nat} {bs : List Value} {w w' : World} (h : IsSb B b bs w) (hb : Below w.heap.size w w') : IsSb B b bs w' := by
  have key : ∀ p, SbAt B b p bs w → SbAt B b p bs w' := by
    rintro p ⟨hB, v, hbk, hown, hne⟩
    refine ⟨hB, v, (hb.block b (Array.getElem?_eq_some_iff.1 hbk).1).trans hbk, ⟨hown.1, ?_⟩, hne⟩
    rcases hown.2 with ⟨rfl, h0⟩ | ⟨g, cap, cur, rfl, hbg, hg, hr⟩
    · exact .inl ⟨rfl, h0⟩
    · exact .inr ⟨g, cap, cur, rfl, hbg, (hb.block g (Array.getElem?_eq_some_iff.1 hg).1).trans hg, hr⟩
  exact h.elim (fun h => .inl (key _ h)) (fun h => .inr (key _ h))

end Go.Proofs.YtjjaojnglnpgaaaGreatDoor

namespace Go.Proofs.YtjjaojnglnpgaaaGreatDoor
open Go.RowKit

theorem sig_at (n : Nat) (h : n < signs.size) : signs[n]'h = hexD n := by
  have h1 := signs_at n h
  have h2 : signs.data[n]? = some (signs[n]'h) := by
    rw [Array.getElem?_eq_getElem (by exact h)]
    rfl
  rw [h2] at h1
  injection h1
set_option maxHeartbeats 4000000 in
set_option maxRecDepth 1000000 in
theorem spelled_any {S : Nat → Prop} {w : World} {A : Option Addr} {c : Nat} {l : List UInt8} (hb : BytesIn S w A l) (hl : l.length ≤ 1099511627776) :
    Calls Tryz.prog 46 #[.slice A l.length c] w fun e w' => e = .returned (.string ⟨(hexL l).toArray⟩) ∧ Below w.heap.size w w' := by
  have Hb := hide hb
  clear hb
  by_cases h0 : l.length = 0
  · have hnil : l = [] := List.length_eq_zero_iff.1 h0
    subst hnil
    go_enter Tryz.func46, Tryz.ntmps46
    go_wp2_with fail
    go_ret
    exact ⟨rfl, Below.refl _ _⟩
  · have H0 : Hid (IsSb w.heap.size w.heap.size (Lib.byteCells (hexT (l.take 0))) (w.alloc (.cells #[.pointer none, .slice none 0 0] 117))) := hide (Lib.fresh_isBuilder _ _ _)
    have h0b : ((l.length : Int) == 0) = false := by rw [beq_eq_false_iff_ne]; omega
    go_enter Tryz.func46, Tryz.ntmps46
    go_wp2_with fail
    go_loopg [11] l.length (fun g i wr => ∃ q : Nat, q ≤ l.length ∧ g = l.length - q ∧ i = .int .i64 q ∧ Hid (IsSb w.heap.size w.heap.size (Lib.byteCells (hexT (l.take q))) wr) ∧ Hid (Below w.heap.size w wr))
    case atStart => exact ⟨0, by omega, by omega, rfl, H0, hide (below_alloc _ _)⟩
    case round =>
      clear H0
      obtain ⟨q, hq, hg, rfl, HS, HB⟩ := hrel
      by_cases hlt : q < l.length
      · obtain ⟨b, o, rfl, hc⟩ := (Hb.out.below HB.out).1.at_ (j := q) (by simp [bytesV]; omega)
        simp only [bytesV, List.getElem_map] at hc
        have hx := (l[q]).toNat_lt
        have hs1 := HB.out.size
        have hlen : (Lib.byteCells (hexT (l.take q))).length + 2 ≤ 140737488355328 := by simp [Lib.byteCells, hexT_len]; omega
        go_wp2_with (first
          | (go_at_call 69; (with_reducible refine (sb_writeByte w.heap.size w.heap.size _ _ _ HS.out (by omega) hs1).mono ?_); rintro e1 w1 ⟨rfl, h1, hb1, _⟩; have HS1 : Hid (IsSb _ _ _ w1) := hide (.inr h1); have HB1 := hide (HB.out.trans hb1); have hs2 := hb1.size; clear h1 hb1)
          | (go_at_call 69; (with_reducible refine (sb_writeByte w.heap.size w.heap.size _ _ _ HS1.out (by rw [List.length_append]; simp only [List.length_cons, List.length_nil]; omega) (Nat.le_trans hs1 hs2)).mono ?_); rintro e2 w2 ⟨rfl, h1, hb1, _⟩; have HS2 : Hid (IsSb _ _ _ w2) := hide (.inr h1); have HB2 := hide (HB1.out.trans hb1); clear h1 hb1))
        go_roundg (l.length - (q + 1))
        case rel =>
          refine ⟨q + 1, by omega, rfl, by go_num, hide ?_, HB2⟩
          have h := HS2.out
          rw [List.take_succ_eq_append_getElem hlt, hexT_next]
          have e1 : (Lib.byteCells (hexT (l.take q) ++ [hexD (l[q].toNat / 16), hexD (l[q].toNat % 16)])) = Lib.byteCells (hexT (l.take q)) ++ [.int .u8 ((signs[l[q].toNat / 16]'(by show _ < 16; omega)).toNat : Nat)] ++ [.int .u8 ((signs[l[q].toNat % 16]'(by show _ < 16; omega)).toNat : Nat)] := by
            rw [sig_at, sig_at]
            simp [Lib.byteCells]
          rw [e1]
          exact h
        case measure => omega
      · have hql : q = l.length := by omega
        have HS2 : Hid (IsSb w.heap.size w.heap.size (Lib.byteCells (hexT l)) wr) := hide (by have := HS.out; rwa [List.take_of_length_le (by omega)] at this)
        go_wp2_with (go_at_call 59; (with_reducible refine (Tryz.Builder_String_any w.heap.size w.heap.size (hexT l) _ HS2.out HB.out.size).mono ?_); rintro e1 w1 ⟨rfl, hb1⟩; have HB1 := hide (HB.out.trans hb1); clear hb1)
        go_ret
        refine ⟨?_, HB1.out⟩
        rw [hexL, if_neg (fun e => h0 (by rw [e]; rfl))]
        rfl

end Go.Proofs.YtjjaojnglnpgaaaGreatDoor

namespace Go.Proofs.YtjjaojnglnpgaaaGreatDoor
open Go.RowKit

/-- append, as one step of a region that draws, its run being known -/
theorem step_append_ran {P : Program} {ops : Array Oper} {o : Oper} {a : Act} {w w' : World} {K : Act → World → Prop} {Q : Exit → Act → World → Prop} {E : Prop}
    (hg : o.guard = none) (s x : Operand) (t : TypeId) (hop : o.op = Op.call { callee := Callee.builtin Builtin.append, args := #[s, x], argTypes := #[t, t] }) {v1 v2 r : Value} (h1 : a.eval s = v1) (h2 : a.eval x = v2)
    (hrun : (Builtin.append_ #[t, t] o.type #[v1, v2]).run P w = .ok r w') (hK : K (a.put o.dst r) w') :
    if Region.wanted o (yielded ops a.tmps) = true then Oper.wp P o a w K Q else E := by
  have hw : Region.wanted o (yielded ops a.tmps) = true := by simp [Region.wanted, hg]
  rw [if_pos hw]
  unfold Oper.wp
  simp [execOp, hop, resolve, invoke, builtin, h1, h2, hrun, Result.andThen]
  exact hK

end Go.Proofs.YtjjaojnglnpgaaaGreatDoor

namespace Go.Proofs.YtjjaojnglnpgaaaGreatDoor
open Go.RowKit

theorem InfoU8H : (Tryz.prog.info? 5).map (fun i => (i.zero, i.size, i.bytes)) = some (some (.int .u8 0), 1, 1) := by kernel_rfl
theorem bytes_of_own {w : World} {B n : Nat} {v : Value} {l : List UInt8} (h : w.ownsRow B 5 1 v n (Lib.byteCells l)) (hn : n = l.length) : ∃ A c, v = .slice A l.length c ∧ BytesIn (fun _ => True) w A l := by
  subst hn
  obtain ⟨A, c, e, h1, h2, h3⟩ := own_rd (S := fun _ => True) (w := w) (v := v) (n := l.length) (e := 5) (xs := Lib.byteCells l) ⟨h.1, by
    rcases h.2 with h | ⟨g, cap, cur, e, _, r⟩
    · exact .inl h
    · exact .inr ⟨g, cap, cur, e, Nat.zero_le _, r⟩⟩ (fun _ _ => trivial)
  exact ⟨A, c, e, h1, by omega⟩
set_option maxHeartbeats 4000000 in
set_option maxRecDepth 1000000 in
theorem refHex_any {S : Nat → Prop} {w : World} {A : Option Addr} {c : Nat} {l : List UInt8} (hb : BytesIn S w A l) (hl : l.length ≤ 1099511627776) :
    Calls Tryz.prog 49 #[.slice A l.length c] w fun e w' => e = .returned (.string ⟨(hexL l).toArray⟩) ∧ Below w.heap.size w w' := by
  have Hb := hide hb
  clear hb
  by_cases h0 : l.length = 0
  · have hnil : l = [] := List.length_eq_zero_iff.1 h0
    subst hnil
    go_enter Tryz.func49, Tryz.ntmps49
    go_wp2_with fail
    go_ret
    exact ⟨rfl, Below.refl _ _⟩
  · have h0b : ((l.length : Int) == 0) = false := by rw [beq_eq_false_iff_ne]; omega
    go_enter Tryz.func49, Tryz.ntmps49
    go_wp2_with fail
    go_loopg [4, 3] l.length (fun g i v wr => ∃ q : Nat, q ≤ l.length ∧ g = l.length - q ∧ i = .int .i64 q ∧ Hid (wr.ownsRow w.heap.size 5 1 v (2 * q) (Lib.byteCells (hexT (l.take q)))) ∧ Hid (Below w.heap.size w wr))
    case atStart => exact ⟨0, by omega, by omega, rfl, hide (World.ownsRow_nil _ _ _ _), hide (Below.refl _ _)⟩
    case round =>
      obtain ⟨q, hq, hg, rfl, HO, HB⟩ := hrel
      by_cases hlt : q < l.length
      · obtain ⟨b, o, rfl, hc⟩ := Hb.out.1.at_ (j := q) (by simp [bytesV]; omega)
        simp only [bytesV, List.getElem_map] at hc
        have hbl := block_lt_of_cell hc
        have hx := (l[q]).toNat_lt
        obtain ⟨Av, cv, rfl⟩ := own_shape HO.out
        obtain ⟨y, hy⟩ : ∃ y, y = l[q].toNat / 16 := ⟨_, rfl⟩
        obtain ⟨z, hz⟩ : ∃ z, z = l[q].toNat % 16 := ⟨_, rfl⟩
        have hy16 : y < signs.size := by show y < 16; omega
        have hz16 : z < signs.size := by show z < 16; omega
        have hyi : (y : Int) < 16 := by have : y < 16 := hy16; omega
        have hzi : (z : Int) < 16 := by have : z < 16 := hz16; omega
        have hyw : IntKind.u8.wrap ((l[q].toNat : Int) / 16) = (y : Int) := by simp [IntKind.wrap, IntKind.bits, IntKind.signed]; omega
        have hzw : (l[q].toNat : Int).tmod 16 = (z : Int) := by rw [Int.tmod_eq_emod_of_nonneg (by omega)]; omega
        have Hy := hide hy
        have Hz := hide hz
        clear hy hz
        go_upto_region 7 with fail
        have hd1 : Below w.heap.size w wr.drew := HB.out.drew
        have HOD : Hid (wr.drew.ownsRow w.heap.size 5 1 (.slice Av (2 * q) cv) (2 * q) (Lib.byteCells (hexT (l.take q)))) := HO
        refine wp_region_held_drew (S := Below w.heap.size w) (by kernel_rfl) hd1 (fun hHeld => ?_)
        generalize wr.drew = wD at hHeld HOD ⊢
        refine tk (v := ?_) 0 hHeld ?_ ?_
        rotate_left
        · intro w' hSw
          first | (go_simp; done) | (go_simp; with_reducible rfl)
        try simp only [List.set_cons_zero, List.set_cons_succ]
        refine tk (v := ?_) 1 hHeld ?_ ?_
        rotate_left
        · intro w' hSw
          first | (go_simp; done) | (go_simp; with_reducible rfl)
        try simp only [List.set_cons_zero, List.set_cons_succ]
        refine tk (v := ?_) 2 hHeld ?_ ?_
        rotate_left
        · intro w' hSw
          first | (go_simp; done) | (go_simp; with_reducible rfl)
        try simp only [List.set_cons_zero, List.set_cons_succ]
        refine tk (v := ?_) 3 hHeld ?_ ?_
        rotate_left
        · intro w' hSw
          first | (go_simp; done) | (go_simp; with_reducible rfl)
        try simp only [List.set_cons_zero, List.set_cons_succ]
        refine tk (v := ?_) 4 hHeld ?_ ?_
        rotate_left
        · intro w' hSw
          have hc' := (hSw.cell (p := ⟨b, o + q, none⟩) hbl).trans hc
          first | (go_simp; done) | (go_simp; with_reducible rfl)
        try simp only [List.set_cons_zero, List.set_cons_succ]
        refine tk (v := ?_) 5 hHeld ?_ ?_
        rotate_left
        · intro w' hSw
          first | (go_simp; done) | (go_simp; with_reducible rfl)
        try simp only [List.set_cons_zero, List.set_cons_succ]
        refine tk (v := ?_) 6 hHeld ?_ ?_
        rotate_left
        · intro w' hSw
          first | (go_simp; done) | (go_simp; with_reducible rfl)
        try simp only [List.set_cons_zero, List.set_cons_succ]
        refine tk (v := ?_) 7 hHeld ?_ ?_
        rotate_left
        · intro w' hSw
          first | (go_simp; done) | (go_simp; with_reducible rfl)
        try simp only [List.set_cons_zero, List.set_cons_succ]
        refine tk (v := ?_) 8 hHeld ?_ ?_
        rotate_left
        · intro w' hSw
          first | (go_simp; done) | (go_simp; with_reducible rfl)
        try simp only [List.set_cons_zero, List.set_cons_succ]
        refine tk (v := ?_) 9 hHeld ?_ ?_
        rotate_left
        · intro w' hSw
          first | (go_simp; done) | (go_simp; with_reducible rfl)
        try simp only [List.set_cons_zero, List.set_cons_succ]
        refine tk (v := ?_) 10 hHeld ?_ ?_
        rotate_left
        · intro w' hSw
          have hc' := (hSw.cell (p := ⟨b, o + q, none⟩) hbl).trans hc
          first | (go_simp; done) | (go_simp; with_reducible rfl)
        try simp only [List.set_cons_zero, List.set_cons_succ]
        refine tk (v := ?_) 11 hHeld ?_ ?_
        rotate_left
        · intro w' hSw
          first | (go_simp; done) | (go_simp; with_reducible rfl)
        try simp only [List.set_cons_zero, List.set_cons_succ]
        refine tk (v := ?_) 12 hHeld ?_ ?_
        rotate_left
        · intro w' hSw
          first | (go_simp; done) | (go_simp; with_reducible rfl)
        try simp only [List.set_cons_zero, List.set_cons_succ]
        refine wpAnyH_ready (rs := [13]) (by kernel_rfl) (by simp) ?_
        refine AllReadyH.cons rfl (fun K hK => ?_) AllReadyH.nil
        go_simp
        go_wp2_with fail
        have hH2 : Below w.heap.size w (wD.alloc (.cells #[.int .u8 ((signs[y]'hy16).toNat : Nat), .int .u8 ((signs[z]'hz16).toNat : Nat)] 5)) := hHeld.alloc hHeld.size _
        refine hK.out _ _ hH2 (fun _ => ?_)
        clear hK K
        try simp only [Act.put, List.getElem_toArray, List.getElem_cons_zero, List.getElem_cons_succ, List.setIfInBounds_toArray, List.set_cons_zero, List.set_cons_succ]
        obtain ⟨v', w5, hrun, hown, hB5⟩ := row_step (P := Tryz.prog) (T := 44) (us := [.int .u8 ((signs[y]'hy16).toNat : Nat), .int .u8 ((signs[z]'hz16).toNat : Nat)]) (B := some ⟨wD.heap.size, 0, none⟩) (m := 2) (cB := 2) Tryz.underlying44 InfoU8H rfl (by decide) (HOD.out.alloc (.cells #[.int .u8 ((signs[y]'hy16).toNat : Nat), .int .u8 ((signs[z]'hz16).toNat : Nat)] 5)) (fun e => by cases e) rfl (by intro u hu; simp at hu; rcases hu with rfl | rfl <;> rfl) (fun ad e => by injection e with e; subst e; intro j u hu; rw [Addr.add_lit, Nat.zero_add, Lib.cell_of_heap (heap_alloc_new wD _)]; simpa using hu) hH2.size (by unfold maxLen; omega) (by omega) 44
        refine wpAnyH_ready (rs := [14]) (by kernel_rfl) (by simp) ?_
        refine AllReadyH.cons rfl (fun K hK => ?_) AllReadyH.nil
        refine step_append_ran (v1 := .slice Av (2 * q) cv) (v2 := .slice (some ⟨wD.heap.size, 0, none⟩) 2 2) rfl _ _ _ rfl (by rfl) (by rfl) hrun ?_
        have hH3 := hH2.trans hB5
        refine hK.out _ _ hH3 (fun hHeld3 => ?_)
        clear hK K
        try simp only [Act.put, List.getElem_toArray, List.getElem_cons_zero, List.getElem_cons_succ, List.setIfInBounds_toArray, List.set_cons_zero, List.set_cons_succ]
        refine tk (v := ?_) 15 hHeld3 ?_ ?_
        rotate_left
        · intro w' hSw
          first | (go_simp; done) | (go_simp; with_reducible rfl)
        try simp only [List.set_cons_zero, List.set_cons_succ]
        refine wpAnyH_done (by kernel_rfl) ?_ _
        try simp only [Act.put, List.getElem_toArray, List.getElem_cons_zero, List.getElem_cons_succ, List.setIfInBounds_toArray, List.set_cons_zero, List.set_cons_succ]
        have HO5 := hide hown
        have HB6 := hide hH3
        clear hrun hown hB5 hH2 hH3 hHeld hHeld3
        go_wp2_with fail
        go_roundg (l.length - (q + 1))
        case measure => omega
        case rel =>
          refine ⟨q + 1, by omega, rfl, by go_num, hide ?_, HB6⟩
          have h := HO5.out
          rw [List.take_succ_eq_append_getElem hlt, hexT_next, Nat.mul_add]
          have e1 : (Lib.byteCells (hexT (l.take q) ++ [hexD (l[q].toNat / 16), hexD (l[q].toNat % 16)])) = Lib.byteCells (hexT (l.take q)) ++ [.int .u8 ((signs[y]'hy16).toNat : Nat), .int .u8 ((signs[z]'hz16).toNat : Nat)] := by
            rw [sig_at, sig_at, Hy.out, Hz.out]
            simp [Lib.byteCells]
          rw [e1]
          exact h
      · have hql : q = l.length := by omega
        subst hql
        obtain ⟨Av, cv, rfl, hby⟩ := bytes_of_own (l := hexT l) (by have := HO.out; rwa [List.take_length] at this) (by rw [hexT_len])
        have hcv := run_bytes_strA wr Av cv (hexT l) hby
        go_wp2_with fail
        go_ret
        refine ⟨?_, HB.out⟩
        rw [hexL, if_neg (fun e => h0 (by rw [e]; rfl))]
        rfl

end Go.Proofs.YtjjaojnglnpgaaaGreatDoor
