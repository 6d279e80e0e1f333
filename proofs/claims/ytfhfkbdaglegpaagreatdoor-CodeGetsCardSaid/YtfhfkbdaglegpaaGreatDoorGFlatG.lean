/- Rows that lie apart: each in blocks of its own, marked from its beginning; each element is of s cells. -/
import Derived.Laws.IdiomCopy
import Derived.Test.YtfhfkbdaglegpaaGreatDoorGFlat
import Derived.Test.YtfhfkbdaglegpaaGreatDoorGBase
import Derived.Test.YtfhfkbdaglegpaaGreatDoorGLent
import Derived.Test.YtfhfkbdaglegpaaGreatDoorGSame
import Derived.Test.YtfhfkbdaglegpaaGreatDoorGOwn

set_option linter.unusedVariables false
set_option linter.unusedSimpArgs false

namespace Go.Proofs.YtfhfkbdaglegpaaGreatDoor
open Go.RowKit

section
variable {s : Nat} {E : TypeId} {mk : Nat → Nat → List Value} {B K : Nat} {vs : Nat → Value} {ns m m' : Nat → Nat} {T : Nat → Option Nat} {w w' : World}
theorem place_lt {i n t : Nat} (hi : i < n) (ht : t < s) : i * s + t < n * s := by
  have h1 : (i + 1) * s ≤ n * s := Nat.mul_le_mul_right _ hi
  rw [Nat.succ_mul] at h1
  omega
def marksG (mk : Nat → Nat → List Value) (j m : Nat) : List Value := (List.range m).flatMap (mk j)
theorem marksG_next (mk : Nat → Nat → List Value) (j m : Nat) : marksG mk j (m + 1) = marksG mk j m ++ mk j m := by simp [marksG, List.range_succ]
theorem marksG_zero (mk : Nat → Nat → List Value) (j : Nat) : marksG mk j 0 = [] := rfl
theorem marksG_len (hs : ∀ j i, (mk j i).length = s) (j m : Nat) : (marksG mk j m).length = m * s := by
  induction m with
  | zero => simp [marksG_zero]
  | succ m ih => rw [marksG_next, List.length_append, ih, hs, Nat.succ_mul]
theorem marksG_at (hs : ∀ j i, (mk j i).length = s) {j i t : Nat} : ∀ {m : Nat}, i < m → t < s → (marksG mk j m)[i * s + t]? = (mk j i)[t]?
  | m + 1, h, ht => by
    rw [marksG_next]
    by_cases hi : i < m
    · rw [List.getElem?_append_left (by rw [marksG_len hs]; exact place_lt hi ht), marksG_at hs hi ht]
    · have : i = m := by omega
      subst this
      rw [List.getElem?_append_right (by rw [marksG_len hs]; omega), marksG_len hs, Nat.add_sub_cancel_left]
theorem marksG_take (hs : ∀ j i, (mk j i).length = s) {j m : Nat} : ∀ {n : Nat}, m ≤ n → (marksG mk j n).take (m * s) = marksG mk j m
  | 0, h => by have : m = 0 := by omega
               subst this; simp [marksG_zero]
  | n + 1, h => by
    by_cases hm : m = n + 1
    · subst hm; rw [List.take_of_length_le (by rw [marksG_len hs]; exact Nat.le_refl _)]
    · rw [marksG_next, List.take_append_of_le_length (by rw [marksG_len hs]; exact Nat.mul_le_mul_right _ (by omega)), marksG_take hs (by omega)]
theorem marksG_mem {P : Value → Prop} (h : ∀ j i, ∀ u ∈ mk j i, P u) {j m : Nat} : ∀ u ∈ marksG mk j m, P u := by
  intro u hu
  simp only [marksG, List.mem_flatMap] at hu
  obtain ⟨i, _, hu⟩ := hu
  exact h j i u hu

/-- row j lies in blocks of its own, marked so far as m j -/
structure RowsG (s : Nat) (mk : Nat → Nat → List Value) (E : TypeId) (B K : Nat) (vs : Nat → Value) (ns m : Nat → Nat) (T : Nat → Option Nat) (w : World) : Prop where
  len : ∀ j i, (mk j i).length = s
  row : ∀ j, j < K → ∃ xs, w.ownsRow B E s (vs j) (ns j) (marksG mk j (m j) ++ xs)
  tag : ∀ j, j < K → ∀ g, (vs j).ownBlock = some g → T g = some j
  lt : ∀ g, T g ≠ none → B ≤ g ∧ g < w.heap.size
theorem RowsG.turn (h : RowsG s mk E B K vs ns m T w) {k : Nat} (ho : Only T k w w') (hrow : k < K → ∃ xs, w'.ownsRow B E s (vs k) (ns k) (marksG mk k (m' k) ++ xs)) (hm : ∀ j, j ≠ k → m' j = m j) : RowsG s mk E B K vs ns m' T w' := by
  refine ⟨h.len, fun j hj => ?_, h.tag, fun g hg => ⟨(h.lt g hg).1, Nat.lt_of_lt_of_le (h.lt g hg).2 ho.1⟩⟩
  by_cases e : j = k
  · subst e; exact hrow hj
  · obtain ⟨xs, hx⟩ := h.row j hj
    rw [hm j e]
    refine ⟨xs, own_same hx fun g hg => ho.2 g (hx.lt g hg).2 ?_⟩
    rw [h.tag j hj g hg]
    intro e2
    injection e2 with e2
    exact e e2
/-- what turns no row's block -/
theorem RowsG.still (h : RowsG s mk E B K vs ns m T w) (hb : w.heap.size ≤ w'.heap.size ∧ ∀ b, b < w.heap.size → T b ≠ none → w'.heap[b]? = w.heap[b]?) : RowsG s mk E B K vs ns m T w' := by
  refine ⟨h.len, fun j hj => ?_, h.tag, fun g hg => ⟨(h.lt g hg).1, Nat.lt_of_lt_of_le (h.lt g hg).2 hb.1⟩⟩
  obtain ⟨xs, hx⟩ := h.row j hj
  exact ⟨xs, own_same hx fun g hg => hb.2 g (hx.lt g hg).2 (by rw [h.tag j hj g hg]; exact fun e => by cases e)⟩
theorem RowsG.below (h : RowsG s mk E B K vs ns m T w) (hB : Below w.heap.size w w') : RowsG s mk E B K vs ns m T w' := h.still ⟨hB.size, fun b hb _ => hB.block b hb⟩
theorem RowsG.mono (h : RowsG s mk E B K vs ns m T w) (hm : ∀ j, j < K → m' j = m j) : RowsG s mk E B K vs ns m' T w := ⟨h.len, fun j hj => by rw [hm j hj]; exact h.row j hj, h.tag, h.lt⟩
theorem RowsG.shape (h : RowsG s mk E B K vs ns m T w) {j : Nat} (hj : j < K) : ∃ A c, vs j = .slice A (ns j) c := by
  obtain ⟨xs, hx⟩ := h.row j hj
  exact own_shape hx
/-- a row that is not empty, where it lies -/
theorem RowsG.at_ (h : RowsG s mk E B K vs ns m T w) {j i : Nat} (hj : j < K) (hi : i < ns j) (h0 : 0 < s) : ∃ g c, vs j = .slice (some ⟨g, 0, none⟩) (ns j) c ∧ T g = some j ∧ B ≤ g ∧ g < w.heap.size ∧ (∀ t, t < s → ∃ u, w.cell? ⟨g, i * s + t, none⟩ = some u) ∧ (∀ o, w.frozen? ⟨g, o, none⟩ = false) ∧ (i < m j → ∀ t u, (mk j i)[t]? = some u → w.cell? ⟨g, i * s + t, none⟩ = some u) := by
  obtain ⟨xs, hx⟩ := h.row j hj
  rcases hx.2 with ⟨_, h0⟩ | ⟨g, cap, cur, e, hb, hg, _⟩
  · omega
  · have ht := h.tag j hj g (by rw [e]; rfl)
    rw [e] at hx
    have hl := hx.1
    have hin : ∀ t, t < s → i * s + t < ns j * s := fun t ht => place_lt hi ht
    refine ⟨g, cap, e, ht, hb, (Array.getElem?_eq_some_iff.1 hg).1, fun t ht => ⟨_, by rw [hx.cellAt _ (hin t ht)]; exact List.getElem?_eq_getElem (by have := hin t ht; omega)⟩, hx.frozenAt, fun hm t u hu => ?_⟩
    have ht : t < s := by have := (List.getElem?_eq_some_iff.1 hu).1; rwa [h.len] at this
    rw [hx.cellAt _ (hin t ht), List.getElem?_append_left (by rw [marksG_len h.len]; exact place_lt hm ht), marksG_at h.len hm ht]
    exact hu
/-- all of a row is marked -/
theorem RowsG.full (h : RowsG s mk E B K vs ns m T w) {j : Nat} (hj : j < K) (hm : m j = ns j) : w.ownsRow B E s (vs j) (ns j) (marksG mk j (ns j)) := by
  obtain ⟨xs, hx⟩ := h.row j hj
  have hl := hx.1
  rw [hm, List.length_append, marksG_len h.len] at hl
  have : xs = [] := List.length_eq_zero_iff.1 (by omega)
  subst this
  rw [hm, List.append_nil] at hx
  exact hx
/-- cells of an own row written -/
theorem own_puts {e n c g : Nat} : ∀ (us : List Value) (o : Nat) (w : World) (xs : List Value), w.ownsRow B e s (.slice (some ⟨g, 0, none⟩) n c) n xs → o + us.length ≤ xs.length →
    (w.setCells g o us).ownsRow B e s (.slice (some ⟨g, 0, none⟩) n c) n (xs.take o ++ (us ++ xs.drop (o + us.length))) ∧ w.grownBy (w.setCells g o us) (some g)
  | [], o, w, xs, h, _ => ⟨by show w.ownsRow _ _ _ _ _ _; simpa using h, World.grownBy.refl _ _⟩
  | u :: us, o, w, xs, h, hl => by
    obtain ⟨h1, h2⟩ := h.stored o u
    simp only [List.length_cons] at hl
    obtain ⟨h3, h4⟩ := own_puts us (o + 1) _ _ h1 (by simp; omega)
    refine ⟨?_, ⟨h4.os.trans h2.os, h4.tape.trans h2.tape, h4.output.trans h2.output, Nat.le_trans h2.size h4.size, fun k hk hr => (h4.block k (Nat.lt_of_lt_of_le hk h2.size) hr).trans (h2.block k hk hr)⟩⟩
    have ho : o < xs.length := by omega
    have e1 : (xs.set o u).take (o + 1) = xs.take o ++ [u] := by
      rw [List.set_eq_take_append_cons_drop, if_pos ho, show o + 1 = (xs.take o).length + 1 by simp; omega, List.take_length_add_append]
      rfl
    have e2 : (xs.set o u).drop (o + 1 + us.length) = xs.drop (o + (us.length + 1)) := by
      rw [List.drop_set_of_lt (by omega), show o + 1 + us.length = o + (us.length + 1) by omega]
    rw [e1, e2] at h3
    simp only [List.append_assoc, List.cons_append, List.nil_append] at h3
    exact h3
/-- one mark more -/
theorem RowsG.mark (h : RowsG s mk E B K vs ns m T w) {k i g c o : Nat} (hk : k < K) (hi : i < ns k) (hm : m k = i) (hv : vs k = .slice (some ⟨g, 0, none⟩) (ns k) c) (hT : T g = some k) (ho : o = i * s) {wF : World} (hw : wF = w.setCells g o (mk k i)) :
    RowsG s mk E B K vs ns (fun j => if j = k then i + 1 else m j) T wF := by
  subst ho hw
  obtain ⟨xs, hx⟩ := h.row k hk
  rw [hv] at hx
  have hl := hx.1
  rw [hm] at hx hl
  have hll : (marksG mk k i).length = i * s := marksG_len h.len k i
  have hup : i * s + s ≤ ns k * s := by rw [← Nat.succ_mul]; exact Nat.mul_le_mul_right _ hi
  obtain ⟨h1, h2⟩ := own_puts (mk k i) (i * s) w _ hx (by rw [h.len, hl]; exact hup)
  refine h.turn (k := k) (Only.grown h2 (fun g' hg' => by injection hg' with hg'; rw [← hg']; exact hT)) (fun _ => ⟨xs.drop s, ?_⟩) (fun j hj => if_neg hj)
  rw [hv, if_pos rfl, marksG_next, List.append_assoc]
  have e1 : (marksG mk k i ++ xs).take (i * s) = marksG mk k i := by rw [← hll, List.take_left']; rfl
  have e2 : (marksG mk k i ++ xs).drop (i * s + (mk k i).length) = xs.drop s := by rw [h.len, ← hll, List.drop_append, List.drop_of_length_le (by omega), List.nil_append]; congr 1; omega
  rw [e1, e2] at h1
  exact h1

/-- a grown row: its first p places are marked -/
def GsG (s : Nat) (mk : Nat → Nat → List Value) (T : Nat → Option Nat) (w : World) (v : Value) (n p j : Nat) : Prop :=
  ∃ g c, v = .slice (some ⟨g, 0, none⟩) n c ∧ n ≤ c ∧ c ≤ 9223372036854775807 ∧ T g = some j ∧ g < w.heap.size ∧ ∀ i, i < p → ∀ t u, (mk j i)[t]? = some u → w.cell? ⟨g, i * s + t, none⟩ = some u
theorem GsG.keep {v : Value} {n p j : Nat} (h : GsG s mk T w v n p j) (hs : w.heap.size ≤ w'.heap.size) (hb : ∀ g, g < w.heap.size → T g = some j → w'.heap[g]? = w.heap[g]?) : GsG s mk T w' v n p j := by
  obtain ⟨g, c, h1, h2, h3, h4, h5, h6⟩ := h
  exact ⟨g, c, h1, h2, h3, h4, Nat.lt_of_lt_of_le h5 hs, fun i hi t u hu => (World.cell?_of_block (a := ⟨g, i * s + t, none⟩) (hb g h5 h4)).trans (h6 i hi t u hu)⟩
theorem GsG.less {v : Value} {n p q j : Nat} (h : GsG s mk T w v n p j) (hq : q ≤ p) : GsG s mk T w v n q j := by
  obtain ⟨g, c, h1, h2, h3, h4, h5, h6⟩ := h
  exact ⟨g, c, h1, h2, h3, h4, h5, fun i hi => h6 i (Nat.lt_of_lt_of_le hi hq)⟩
theorem GsG.retag {T' : Nat → Option Nat} {v : Value} {n p j : Nat} (h : GsG s mk T w v n p j) (hT : ∀ g, T g = some j → T' g = some j) : GsG s mk T' w v n p j := by
  obtain ⟨g, c, h1, h2, h3, h4, h5, h6⟩ := h
  exact ⟨g, c, h1, h2, h3, hT g h4, h5, h6⟩
theorem GsG.of_own {v : Value} {n p j : Nat} {xs : List Value} (hs : ∀ j i, (mk j i).length = s) (h : w.ownsRow B E s v n (marksG mk j p ++ xs)) (hn : 0 < n) (hp : p ≤ n) (hT : ∀ g, v.ownBlock = some g → T g = some j) : GsG s mk T w v n p j := by
  rcases h.2 with ⟨_, h0⟩ | ⟨g, cap, cur, rfl, hb, hg, hnc, hcm, _⟩
  · omega
  · refine ⟨g, cap, rfl, hnc, by unfold maxLen at hcm; omega, hT g rfl, (Array.getElem?_eq_some_iff.1 hg).1, fun i hi t u hu => ?_⟩
    have ht : t < s := by have := (List.getElem?_eq_some_iff.1 hu).1; rwa [hs] at this
    rw [h.cellAt _ (place_lt (Nat.lt_of_lt_of_le hi hp) ht), List.getElem?_append_left (by rw [marksG_len hs]; exact place_lt hi ht), marksG_at hs hi ht]
    exact hu

/-- an append to a row of tag k, the rows being marked up to q: they are so behind it, the new one is of tag k -/
theorem RowsG.append (h0 : 0 < s) (h : RowsG s mk E B K vs ns m T w) {k n a : Nat} {v v' : Value} {xs news : List Value} (hB : B ≤ w.heap.size) (hown : w.ownsRow B E s v n xs) (hv : ∀ g, v.ownBlock = some g → T g = some k)
    (hown' : w'.ownsRow B E s v' (n + a) (xs ++ news)) (hgr : w.grownBy w' v.ownBlock) (hw : Went w w' v v' n a)
    (hmk : k < K → m k ≤ ns k ∧ ∃ ys, marksG mk k (m k) ++ ys = xs.take (ns k * s) ∨ ∀ g, (vs k).ownBlock = some g → v.ownBlock ≠ some g) (hn : k < K → ns k ≤ n) (ha : xs.length = n * s) :
    RowsG s mk E B K vs ns m (retag T w v' k) w' ∧ (∀ g, v'.ownBlock = some g → retag T w v' k g = some k) ∧ Only T k w w' ∧ Below B w w' := by
  have hO : Only T k w w' := Only.grown hgr hv
  have hBl : Below B w w' := (Below.refl _ _).grown hgr hB (fun g hg => (hown.lt g hg).1)
  have htag : ∀ g, v'.ownBlock = some g → retag T w v' k g = some k := by
    intro g hg
    rcases hw with ⟨A, c, rfl, rfl⟩ | ⟨hf, _⟩
    · have e : (Value.slice A n c).ownBlock = some g := by cases A <;> exact hg
      have := hv g e
      rw [retag_old (hown.lt g e).2]
      exact this
    · rw [hf] at hg
      injection hg with hg
      unfold retag
      rw [if_pos ⟨by rw [hf, hg], hg.symm⟩]
  refine ⟨⟨h.len, fun j hj => ?_, fun j hj g hg => ?_, fun g hg => ?_⟩, htag, hO, hBl⟩
  · obtain ⟨zs, hz⟩ := h.row j hj
    by_cases hjk : j = k
    · subst hjk
      rcases hw with ⟨A, c, rfl, rfl⟩ | ⟨hf, hold⟩
      · rcases hz.2 with ⟨e0, h0⟩ | ⟨g, cap, cur, e, hb, hg, hnc, hcm, hcs, htk⟩
        · refine ⟨zs, hz.1, .inl ⟨e0, h0⟩⟩
        · by_cases hgb : (Value.slice A n c).ownBlock = some g
          · obtain ⟨hmn, ys, hys⟩ := hmk hj
            rcases hys with hys | hys
            · -- in place, in the block of the row
              rcases A with _ | ⟨g', o', p'⟩
              · cases hgb
              · have e1 : g' = g := by injection hgb
                subst e1
                rcases hown.2 with ⟨e2, _⟩ | ⟨g2, cap2, cur2, e2, _, hg2, hnc2, hcm2, hcs2, htk2⟩
                · cases e2
                · injection e2 with e2 _ e3
                  injection e2 with e2
                  injection e2 with e2 e4 e5
                  subst e2 e3 e4 e5
                  rw [hg] at hg2
                  injection hg2 with hg2
                  injection hg2 with hg2
                  subst hg2
                  rcases hown'.2 with ⟨e6, _⟩ | ⟨g3, cap3, cur3, e6, hb3, hg3, hnc3, hcm3, hcs3, htk3⟩
                  · cases e6
                  · injection e6 with e6 _ e7
                    injection e6 with e6
                    injection e6 with e6
                    subst e6 e7
                    have hcc : cap = c := Nat.eq_of_mul_eq_mul_right h0 (hcs.symm.trans hcs2)
                    subst hcc
                    refine ⟨ys, ?_, .inr ⟨g', cap, cur3, e, hb3, hg3, hnc, hcm3, hcs3, ?_⟩⟩
                    · rw [hys, List.length_take, ha]
                      have := Nat.mul_le_mul_right s (hn hj)
                      omega
                    · have h1 := congrArg (List.take (ns j * s)) htk3
                      have hnn := Nat.mul_le_mul_right s (hn hj)
                      have hnn2 : ns j * s ≤ (n + a) * s := by rw [Nat.add_mul]; omega
                      rw [List.take_take, Nat.min_eq_left hnn2, List.take_append_of_le_length (by omega)] at h1
                      rw [hys, ← h1]
                      try simp
            · exact absurd hgb (hys g (by rw [e]; rfl))
          · refine ⟨zs, own_same hz fun g1 hg1 => ?_⟩
            have : g1 = g := by
              rw [e] at hg1
              injection hg1 with hg1
              exact hg1.symm
            subst this
            exact hgr.block g1 (hz.lt g1 hg1).2 (fun e2 => hgb e2.symm)
      · exact ⟨zs, own_same hz fun g hg => hold g (hz.lt g hg).2⟩
    · exact ⟨zs, own_same hz fun g hg => hO.2 g (hz.lt g hg).2 (by rw [h.tag j hj g hg]; exact fun e => hjk (by injection e))⟩
  · exact retag_some h.lt (h.tag j hj g hg)
  · by_cases e : v'.ownBlock = some g ∧ g = w.heap.size
    · exact ⟨by omega, (hown'.lt g e.1).2⟩
    · unfold retag at hg
      rw [if_neg e] at hg
      exact ⟨(h.lt g hg).1, Nat.lt_of_lt_of_le (h.lt g hg).2 hO.1⟩
end

section
variable {s : Nat} {mk : Nat → Nat → List Value} {E E2 : TypeId} {w wr w' : World} {LB GB K B : Nat} {vs : Nat → Value} {ns p : Nat → Nat} {T0 T : Nat → Option Nat} {xs : List Value} {J : Nat → Prop}
/-- the rows are marked; of the grown ones in J so much is known as p says -/
structure FgG (s : Nat) (mk : Nat → Nat → List Value) (E E2 : TypeId) (w : World) (LB GB K B : Nat) (vs : Nat → Value) (ns : Nat → Nat) (T0 T : Nat → Option Nat) (xs : List Value) (J : Nat → Prop) (p : Nat → Nat) (wr : World) : Prop where
  rows : RowsG s mk E B K vs ns ns T wr
  tt : ∀ b, b < w.heap.size → T b = T0 b
  tg : T GB = none
  own : wr.ownsRow 0 E2 1 (.slice (some ⟨GB, 0, none⟩) K K) K xs
  gs : ∀ j, J j → ∃ v, xs[j]? = some v ∧ GsG s mk T wr v (ns j + 64) (p j) j
  ls : ∀ b, b < w.heap.size → T0 b = none → wr.heap[b]? = w.heap[b]?
  b : Below B w wr
  hB : B ≤ GB
  bw : B ≤ w.heap.size
  gl : w.heap.size ≤ GB
  lw : LB < w.heap.size
  t0 : T0 LB = none
theorem FgG.gb (h : FgG s mk E E2 w LB GB K B vs ns T0 T xs J p wr) : GB < wr.heap.size := by
  have := h.own.lt GB rfl
  exact this.2
theorem FgG.lb (h : FgG s mk E E2 w LB GB K B vs ns T0 T xs J p wr) : LB < wr.heap.size := Nat.lt_of_lt_of_le h.lw h.b.size
/-- what leaves the rows' blocks, and these two, as they are -/
theorem FgG.still (h : FgG s mk E E2 w LB GB K B vs ns T0 T xs J p wr) (hs : wr.heap.size ≤ w'.heap.size) (hb : ∀ b, b < wr.heap.size → (T b ≠ none ∨ b < w.heap.size ∨ b = GB) → w'.heap[b]? = wr.heap[b]?) (hB : Below B wr w') : FgG s mk E E2 w LB GB K B vs ns T0 T xs J p w' := by
  refine ⟨h.rows.still ⟨hs, fun b hb1 hb2 => hb b hb1 (.inl hb2)⟩, h.tt, h.tg, own_same h.own fun g hg => ?_, fun j hj => ?_, fun b hb1 h0 => (hb b (Nat.lt_of_lt_of_le hb1 h.b.size) (.inr (.inl hb1))).trans (h.ls b hb1 h0), h.b.trans hB, h.hB, h.bw, h.gl, h.lw, h.t0⟩
  · injection hg with hg
    subst hg
    exact hb GB h.gb (.inr (.inr rfl))
  · obtain ⟨v, h1, h2⟩ := h.gs j hj
    exact ⟨v, h1, h2.keep hs fun g hg ht => hb g hg (.inl (by rw [ht]; exact fun e => by cases e))⟩
theorem FgG.alloc (h : FgG s mk E E2 w LB GB K B vs ns T0 T xs J p wr) (o : Obj) : FgG s mk E E2 w LB GB K B vs ns T0 T xs J p (wr.alloc o) :=
  h.still (by simp) (fun b hb _ => heap_alloc_old wr o hb) ((below_alloc wr o).mono (Nat.le_trans h.bw h.b.size))
theorem FgG.drew (h : FgG s mk E E2 w LB GB K B vs ns T0 T xs J p wr) : FgG s mk E E2 w LB GB K B vs ns T0 T xs J p wr.drew := h.still (Nat.le_refl _) (fun _ _ _ => rfl) (Below.refl _ _).drew
theorem FgG.drewN (h : FgG s mk E E2 w LB GB K B vs ns T0 T xs J p wr) (n : Nat) : FgG s mk E E2 w LB GB K B vs ns T0 T xs J p (wr.drewN n) := h.still (Nat.le_refl _) (fun _ _ _ => rfl) ⟨rfl, rfl, rfl, Nat.le_refl _, fun _ _ => rfl⟩
theorem FgG.mono {J' : Nat → Prop} {p' : Nat → Nat} (h : FgG s mk E E2 w LB GB K B vs ns T0 T xs J p wr) (hJ : ∀ j, J' j → J j ∧ p' j ≤ p j) : FgG s mk E E2 w LB GB K B vs ns T0 T xs J' p' wr := by
  refine ⟨h.rows, h.tt, h.tg, h.own, fun j hj => ?_, h.ls, h.b, h.hB, h.bw, h.gl, h.lw, h.t0⟩
  obtain ⟨v, h1, h2⟩ := h.gs j (hJ j hj).1
  exact ⟨v, h1, h2.less (hJ j hj).2⟩
/-- an append to a row of tag k -/
theorem FgG.append (h0 : 0 < s) {k n a : Nat} {v v' : Value} {ys news : List Value} (h : FgG s mk E E2 w LB GB K B vs ns T0 T xs J p wr) (hk : k < K) (hJ : ∀ j, J j → j ≠ k) (hown : wr.ownsRow B E s v n ys) (hv : ∀ g, v.ownBlock = some g → T g = some k)
    (hown' : w'.ownsRow B E s v' (n + a) (ys ++ news)) (hgr : wr.grownBy w' v.ownBlock) (hw : Went wr w' v v' n a) (hmk : ys.take (ns k * s) = marksG mk k (ns k)) (hn : ns k ≤ n) :
    FgG s mk E E2 w LB GB K B vs ns T0 (retag T wr v' k) xs J p w' ∧ ∀ g, v'.ownBlock = some g → retag T wr v' k g = some k := by
  have hBs := Nat.le_trans h.bw h.b.size
  have hl : ys.length = n * s := hown.1
  obtain ⟨hr, ht, hO, hBl⟩ := h.rows.append h0 hBs hown hv hown' hgr hw (fun _ => ⟨Nat.le_refl _, [], .inl (by rw [List.append_nil, hmk])⟩) (fun _ => hn) hl
  refine ⟨⟨hr, ?_, ?_, own_same h.own fun g hg => ?_, fun j hj => ?_, fun b hb h0 => ?_, h.b.trans hBl, h.hB, h.bw, h.gl, h.lw, h.t0⟩, ht⟩
  · intro b hb; rw [retag_old (Nat.lt_of_lt_of_le hb h.b.size)]; exact h.tt b hb
  · rw [retag_old h.gb]; exact h.tg
  · injection hg with hg
    subst hg
    exact hO.2 _ h.gb (by show T GB ≠ _; rw [h.tg]; exact fun e => by cases e)
  · obtain ⟨v1, h1, h2⟩ := h.gs j hj
    refine ⟨v1, h1, (h2.keep hO.1 fun g hg hT => hO.2 g hg ?_).retag fun g hg => retag_some h.rows.lt hg⟩
    rw [hT]
    intro e
    injection e with e
    exact hJ j hj e
  · exact (hO.2 b (Nat.lt_of_lt_of_le hb h.b.size) (by show T b ≠ _; rw [h.tt b hb, h0]; exact fun e => by cases e)).trans (h.ls b hb h0)
/-- a grown row is put at its place -/
theorem FgG.put {q : Nat} {v : Value} {J' : Nat → Prop} {p' : Nat → Nat} (h : FgG s mk E E2 w LB GB K B vs ns T0 T xs J p wr) (hq : q < K) (hg : GsG s mk T wr v (ns q + 64) (p' q) q) (hJ : ∀ j, J' j → j = q ∨ (j ≠ q ∧ J j ∧ p' j ≤ p j)) :
    FgG s mk E E2 w LB GB K B vs ns T0 T (xs.set q v) J' p' (wr.setCell ⟨GB, q, none⟩ v) := by
  obtain ⟨hs, hgr⟩ := h.own.stored q v
  have hone : ∀ b, b ≠ GB → b < wr.heap.size → (wr.setCell ⟨GB, q, none⟩ v).heap[b]? = wr.heap[b]? := fun b hb hlt => hgr.block b hlt (fun e => hb (by injection e))
  have hTg : ∀ g, T g ≠ none → g ≠ GB := fun g hT e => hT (by rw [e]; exact h.tg)
  have hl : xs.length = K := by have := h.own.1; omega
  refine ⟨h.rows.still ⟨hgr.size, fun b hb hT => hone b (hTg b hT) hb⟩, h.tt, h.tg, hs, fun j hj => ?_, fun b hb h0 => (hone b (by have := h.gl; omega) (Nat.lt_of_lt_of_le hb h.b.size)).trans (h.ls b hb h0), h.b.trans ((Below.refl _ _).setCell (p := ⟨GB, q, none⟩) h.hB v), h.hB, h.bw, h.gl, h.lw, h.t0⟩
  rcases hJ j hj with e | ⟨hne, hJj, hp⟩
  · subst e
    exact ⟨v, by simp [hl, hq], hg.keep hgr.size fun g hlt hT => hone g (hTg g (by rw [hT]; exact fun e => by cases e)) hlt⟩
  · obtain ⟨v1, h1, h2⟩ := h.gs j hJj
    exact ⟨v1, by rw [List.getElem?_set_ne (Ne.symm hne)]; exact h1, (h2.less hp).keep hgr.size fun g hlt hT => hone g (hTg g (by rw [hT]; exact fun e => by cases e)) hlt⟩
/-- what the walk reads: the row's head -/
theorem FgG.head {j : Nat} {v : Value} (h : FgG s mk E E2 w LB GB K B vs ns T0 T xs J p wr) (hc : w.cell? ⟨LB, j, none⟩ = some v) : wr.cell? ⟨LB, j, none⟩ = some v := (World.cell?_of_block (a := ⟨LB, j, none⟩) (h.ls LB h.lw h.t0)).trans hc
/-- and the grown row's -/
theorem FgG.grown {j : Nat} (h : FgG s mk E E2 w LB GB K B vs ns T0 T xs J p wr) (hj : j < K) (hJ : J j) : ∃ g c, wr.cell? ⟨GB, j, none⟩ = some (.slice (some ⟨g, 0, none⟩) (ns j + 64) c) ∧ ns j + 64 ≤ c ∧ c ≤ 9223372036854775807 ∧ ∀ i, i < p j → ∀ t u, (mk j i)[t]? = some u → wr.cell? ⟨g, i * s + t, none⟩ = some u := by
  obtain ⟨v, h1, g, c, rfl, h2, h3, h4, h5, h6⟩ := h.gs j hJ
  exact ⟨g, c, by rw [h.own.cellAt j (by omega), h1], h2, h3, h6⟩
theorem FgG.place {j : Nat} (h : FgG s mk E E2 w LB GB K B vs ns T0 T xs J p wr) (hj : j < K) : (∃ u, wr.cell? ⟨GB, j, none⟩ = some u) ∧ wr.frozen? ⟨GB, j, none⟩ = false := by
  have hl := h.own.1
  exact ⟨⟨_, by rw [h.own.cellAt j (by omega)]; exact List.getElem?_eq_getElem (by omega)⟩, h.own.frozenAt j⟩
end

end Go.Proofs.YtfhfkbdaglegpaaGreatDoor

namespace Go.Proofs.YtfhfkbdaglegpaaGreatDoor
open Go.RowKit

theorem heap_setCells (g : Nat) : ∀ (us : List Value) (o : Nat) (w : World) {b : Nat}, b ≠ g → (w.setCells g o us).heap[b]? = w.heap[b]?
  | [], _, _, _, _ => rfl
  | u :: us, o, w, b, hb => (heap_setCells g us (o + 1) (w.setCell ⟨g, o, none⟩ u) hb).trans (Below.heap_setCell w ⟨g, o, none⟩ u b hb)
theorem size_setCellsG (g : Nat) : ∀ (us : List Value) (o : Nat) (w : World), (w.setCells g o us).heap.size = w.heap.size
  | [], _, _ => rfl
  | u :: us, o, w => (size_setCellsG g us (o + 1) (w.setCell ⟨g, o, none⟩ u)).trans (by simp [World.setCell])
theorem below_setCells {B g : Nat} (h : B ≤ g) : ∀ (us : List Value) (o : Nat) (w : World), Below B w (w.setCells g o us)
  | [], _, _ => Below.refl _ _
  | u :: us, o, w => ((Below.refl B w).setCell (p := ⟨g, o, none⟩) h u).trans (below_setCells h us (o + 1) (w.setCell ⟨g, o, none⟩ u))

section
variable {s : Nat} {mk : Nat → Nat → List Value} {E E2 : TypeId} {w wr w' : World} {LB GB K B : Nat} {vs : Nat → Value} {ns m m' p : Nat → Nat} {T0 T : Nat → Option Nat} {xs : List Value} {J : Nat → Prop}
def FbG (s : Nat) (mk : Nat → Nat → List Value) (E : TypeId) (w : World) (LB K B : Nat) (vs : Nat → Value) (ns m : Nat → Nat) (T : Nat → Option Nat) (wr : World) : Prop :=
  RowsG s mk E B K vs ns m T wr ∧ (LB < w.heap.size ∧ T LB = none ∧ ∀ b, b < w.heap.size → T b = none → wr.heap[b]? = w.heap[b]?) ∧ Below B w wr
theorem FbG.head {j : Nat} {v : Value} (h : FbG s mk E w LB K B vs ns m T wr) (hc : w.cell? ⟨LB, j, none⟩ = some v) : wr.cell? ⟨LB, j, none⟩ = some v := (World.cell?_of_block (a := ⟨LB, j, none⟩) (h.2.1.2.2 LB h.2.1.1 h.2.1.2.1)).trans hc
theorem FbG.below (h : FbG s mk E w LB K B vs ns m T wr) (hw : B ≤ w.heap.size) (hB : Below wr.heap.size wr w') : FbG s mk E w LB K B vs ns m T w' :=
  ⟨h.1.below hB, ⟨h.2.1.1, h.2.1.2.1, fun b hb h0 => (hB.block b (Nat.lt_of_lt_of_le hb h.2.2.size)).trans (h.2.1.2.2 b hb h0)⟩, h.2.2.trans (hB.mono (Nat.le_trans hw h.2.2.size))⟩
theorem FbG.mark {k i g c o : Nat} (h : FbG s mk E w LB K B vs ns m T wr) (hk : k < K) (hi : i < ns k) (hm : m k = i) (hv : vs k = .slice (some ⟨g, 0, none⟩) (ns k) c) (hT : T g = some k) (hB : B ≤ g) (ho : o = i * s) {wF : World} (hw : wF = wr.setCells g o (mk k i)) :
    FbG s mk E w LB K B vs ns (fun j => if j = k then i + 1 else m j) T wF := by
  have hkeep : ∀ b, b ≠ g → wF.heap[b]? = wr.heap[b]? := fun b hb => by rw [hw]; exact heap_setCells _ _ _ _ hb
  have hsz : wF.heap.size = wr.heap.size := by rw [hw]; exact size_setCellsG _ _ _ _
  refine ⟨h.1.mark hk hi hm hv hT ho hw, ⟨h.2.1.1, h.2.1.2.1, fun b hb h0 => (hkeep b (fun e => by rw [e, hT] at h0; cases h0)).trans (h.2.1.2.2 b hb h0)⟩, h.2.2.trans ?_⟩
  rw [hw]
  exact below_setCells hB _ _ _
theorem FbG.mono (h : FbG s mk E w LB K B vs ns m T wr) (hm : ∀ j, j < K → m' j = m j) : FbG s mk E w LB K B vs ns m' T wr := ⟨h.1.mono hm, h.2⟩
theorem FgG.below (h : FgG s mk E E2 w LB GB K B vs ns T0 T xs J p wr) (hB : Below wr.heap.size wr w') : FgG s mk E E2 w LB GB K B vs ns T0 T xs J p w' :=
  h.still hB.size (fun b hb _ => hB.block b hb) (hB.mono (Nat.le_trans h.bw h.b.size))
/-- a row of the marks so far -/
theorem own_mark {e n c g k i o : Nat} (hs : ∀ j i, (mk j i).length = s) (h : wr.ownsRow B e s (.slice (some ⟨g, 0, none⟩) n c) n (marksG mk k i ++ xs)) (hi : i < n) (ho : o = i * s) {wF : World} (hw : wF = wr.setCells g o (mk k i)) :
    wF.ownsRow B e s (.slice (some ⟨g, 0, none⟩) n c) n (marksG mk k (i + 1) ++ xs.drop s) ∧ wr.grownBy wF (some g) := by
  subst ho hw
  have hl := h.1
  have hll : (marksG mk k i).length = i * s := marksG_len hs k i
  have hup : i * s + s ≤ n * s := by rw [← Nat.succ_mul]; exact Nat.mul_le_mul_right _ hi
  obtain ⟨h1, h2⟩ := own_puts (mk k i) (i * s) wr _ h (by rw [hs, hl]; exact hup)
  refine ⟨?_, h2⟩
  rw [marksG_next, List.append_assoc]
  have e1 : (marksG mk k i ++ xs).take (i * s) = marksG mk k i := by rw [← hll, List.take_left']; rfl
  have e2 : (marksG mk k i ++ xs).drop (i * s + (mk k i).length) = xs.drop s := by rw [hs, ← hll, List.drop_append, List.drop_of_length_le (by omega), List.nil_append]; congr 1; omega
  rw [e1, e2] at h1
  exact h1
theorem own_all {e n c g k : Nat} {B : Nat} (hs : ∀ j i, (mk j i).length = s) (h : wr.ownsRow B e s (.slice (some ⟨g, 0, none⟩) n c) n (marksG mk k n ++ xs)) : wr.ownsRow B e s (.slice (some ⟨g, 0, none⟩) n c) n (marksG mk k n) := by
  have hl := h.1
  rw [List.length_append, marksG_len hs] at hl
  have : xs = [] := List.length_eq_zero_iff.1 (by omega)
  subst this
  simpa using h
theorem own_bel {e n : Nat} {v : Value} {B : Nat} (h : w.ownsRow B e s v n xs) (hB : Below w.heap.size w w') : w'.ownsRow B e s v n xs := own_same h fun g hg => hB.block g (h.lt g hg).2
theorem cells_list_new (w : World) (cs : List Value) (t : TypeId) : ∀ j u, cs[j]? = some u → (w.alloc (.cells cs.toArray t)).cell? ((⟨w.heap.size, 0, none⟩ : Addr).add j) = some u := by
  intro j u hu
  rw [Addr.add_lit, Nat.zero_add, World.cell?_alloc_new]
  simpa using hu
end

end Go.Proofs.YtfhfkbdaglegpaaGreatDoor

namespace Go.Proofs.YtfhfkbdaglegpaaGreatDoor
open Go.RowKit

def mtB (a b c d e f : Int) : List UInt8 := [35, UInt8.ofNat a.toNat, UInt8.ofNat b.toNat, UInt8.ofNat c.toNat, 47, UInt8.ofNat d.toNat, UInt8.ofNat e.toNat, UInt8.ofNat f.toNat]
theorem mt_conv (a b c d e f : Int) (ha : 0 ≤ a ∧ a < 256) (hb : 0 ≤ b ∧ b < 256) (hc : 0 ≤ c ∧ c < 256) (hd : 0 ≤ d ∧ d < 256) (he : 0 ≤ e ∧ e < 256) (hf : 0 ≤ f ∧ f < 256) (w : World) :
    (convert 36 9 (.slice (some ⟨w.heap.size, 0, none⟩) 8 8)).run Tryz.prog (w.alloc (.cells #[.int .u8 35, .int .u8 a, .int .u8 b, .int .u8 c, .int .u8 47, .int .u8 d, .int .u8 e, .int .u8 f] 5)) =
    .ok (.string ⟨(mtB a b c d e f).toArray⟩) (w.alloc (.cells #[.int .u8 35, .int .u8 a, .int .u8 b, .int .u8 c, .int .u8 47, .int .u8 d, .int .u8 e, .int .u8 f] 5)) := by
  have h8 : ∀ x : Int, 0 ≤ x ∧ x < 256 → ((UInt8.ofNat x.toNat).toNat : Int) = x := fun x hx => by rw [UInt8.toNat_ofNat']; omega
  refine run_bytes_strA (S := fun _ => True) _ (some ⟨w.heap.size, 0, none⟩) 8 (mtB a b c d e f) ⟨.inr ⟨w.heap.size, 0, rfl, trivial, fun j u hu => ?_⟩, by simp only [mtB, List.length_cons, List.length_nil]; omega⟩
  rw [Nat.zero_add, Lib.cell_of_heap (heap_alloc_new w _)]
  have k1 := h8 a ha
  have k2 := h8 b hb
  have k3 := h8 c hc
  have k4 := h8 d hd
  have k5 := h8 e he
  have k6 := h8 f hf
  have k0 : ((UInt8.toNat 35 : Nat) : Int) = 35 := rfl
  have k7 : ((UInt8.toNat 47 : Nat) : Int) = 47 := rfl
  simp only [bytesV, mtB, List.map_cons, List.map_nil, k0, k1, k2, k3, k4, k5, k6, k7] at hu
  simpa using hu
def mT (a b : Int) : ByteArray := ⟨(mtB (a % 256) (a / 256 % 256) (a / 65536 % 256) (b % 256) (b / 256 % 256) (b / 65536 % 256)).toArray⟩
set_option maxRecDepth 100000 in
set_option maxHeartbeats 4000000 in
theorem markText_all (a b : Int) (ha : 0 ≤ a ∧ a ≤ 1099511627776) (hb : 0 ≤ b ∧ b ≤ 2199023255552) (w : World) : Calls Tryz.prog 104 #[.int .i64 a, .int .i64 b] w fun e w' => e = .returned (.string (mT a b)) ∧ Below w.heap.size w w' := by
  obtain ⟨ha0, ha1⟩ := ha
  obtain ⟨hb0, hb1⟩ := hb
  have hcv := mt_conv (a % 256) (a / 256 % 256) (a / 65536 % 256) (b % 256) (b / 256 % 256) (b / 65536 % 256) (by omega) (by omega) (by omega) (by omega) (by omega) (by omega) w
  go_enter Tryz.func104, Tryz.ntmps104
  go_wp2_with fail
  go_ret
  exact ⟨rfl, below_alloc _ _⟩

end Go.Proofs.YtfhfkbdaglegpaaGreatDoor

namespace Go.Proofs.YtfhfkbdaglegpaaGreatDoor
open Go.RowKit

theorem sameMarkN (n : Int) (w : World) : Calls Tryz.prog 125 #[.agg #[.int .u8 0, .string ⟨#[]⟩, .int .i64 n, .slice none 0 0], .agg #[.int .u8 0, .string ⟨#[]⟩, .int .i64 n, .slice none 0 0]] w fun e w' => e = .returned (.bool true) ∧ Below w.heap.size w w' := by
  have h := sameNode_any (S := fun _ => True) (S' := fun _ => True) (k := 0) (t := ⟨#[]⟩) (n := n) (k' := 0) (t' := ⟨#[]⟩) (n' := n) (A := none) (A' := none) (c := 0) (c' := 0) (f := .nil) (g := .nil) (w := w) trivial trivial (by simp [Fo.len]) (by simp [Fo.len])
  refine h.mono ?_
  rintro e w' ⟨⟨b, rfl, hb⟩, hB⟩
  exact ⟨by rw [hb.2 ⟨rfl, rfl, rfl, rfl⟩], hB⟩
set_option maxHeartbeats 2000000 in
theorem markNode_all (a b : Int) (ha : 0 ≤ a ∧ a ≤ 1099511627776) (hb : 0 ≤ b ∧ b ≤ 2199023255552) (w : World) : Calls Tryz.prog 106 #[.int .i64 a, .int .i64 b] w fun e w' => e = .returned (.agg #[.int .u8 0, .string ⟨#[]⟩, .int .i64 (1000003 * (a + 7) + b), .slice none 0 0]) ∧ Below w.heap.size w w' := by
  obtain ⟨x, hx⟩ : ∃ x, x = 1000003 * (a + 7) + b := ⟨_, rfl⟩
  have hm : ∀ W, Calls Tryz.prog 88 #[.int .i64 a, .int .i64 b] W fun e w' => e = .returned (.int .i64 x) ∧ W = w' := fun W => by rw [hx]; exact markNum_any a b W ha hb
  rw [← hx]
  clear ha hb
  go_enter Tryz.func106, Tryz.ntmps106
  go_wp2_with (go_at_call 88; (with_reducible refine (hm _).mono ?_); rintro e1 w1 ⟨rfl, rfl⟩)
  have hc := Lib.cell_of_heap (heap_alloc_new w (.cells #[.int .u8 0, .string ⟨#[]⟩, .int .i64 x, .slice none 0 0] 55))
  have c0 := hc 0
  have c1 := hc 1
  have c2 := hc 2
  have c3 := hc 3
  simp only [List.getElem?_toArray, List.getElem?_cons_zero, List.getElem?_cons_succ] at c0 c1 c2 c3
  refine bodyPost_ret (v := .agg #[.int .u8 0, .string ⟨#[]⟩, .int .i64 x, .slice none 0 0]) ?_ rfl ⟨rfl, below_alloc _ _⟩
  simp only [results, Tryz.results106]
  go_simp

theorem sameMarkP (k : Int) (hk : 0 ≤ k ∧ k < 256) (t : ByteArray) (ht : t.size ≤ 9223372036854775807) (w : World) : Calls Tryz.prog 17 #[.agg #[.int .u8 k, .string t, .string ⟨#[]⟩, .int .i64 0, .slice none 0 0, .slice none 0 0, .int .u8 0, .slice none 0 0, .int .i64 0, .int .i64 0, .string ⟨#[]⟩, .string ⟨#[]⟩, .slice none 0 0, .slice none 0 0], .agg #[.int .u8 k, .string t, .string ⟨#[]⟩, .int .i64 0, .slice none 0 0, .slice none 0 0, .int .u8 0, .slice none 0 0, .int .i64 0, .int .i64 0, .string ⟨#[]⟩, .string ⟨#[]⟩, .slice none 0 0, .slice none 0 0]] w fun e w' => e = .returned (.bool true) ∧ Below w.heap.size w w' := by
  obtain ⟨n, rfl⟩ := Int.eq_ofNat_of_zero_le hk.1
  have hz : PtIn (fun _ => True) w ⟨⟨none, 0, none, 0⟩, ⟨none, 0, none, 0, none, 0⟩⟩ ⟨n, t, noTxt, Hk.zero, Ed.zero⟩ :=
    ⟨by show n < 256; omega, ht, Nat.zero_le _, ⟨by simp [isInt64, Hk.zero], ⟨.inl rfl, by simp [Hk.zero], by simp [Hk.zero]⟩, ⟨.inl rfl, by simp [Hk.zero], by simp [Hk.zero]⟩, by simp [Hk.zero], by simp [Hk.zero]⟩,
     ⟨by simp [Ed.zero], ⟨.inl rfl, by simp [Ed.zero], by simp [Ed.zero]⟩, by simp [isInt64, Ed.zero], by simp [isInt64, Ed.zero], Nat.zero_le _, Nat.zero_le _, trivial, trivial, by simp [Ed.zero], by simp [Ed.zero, Fo.len], by simp [Ed.zero, Fo.len]⟩⟩
  refine (samePatch_any hz hz).mono ?_
  rintro e w' ⟨⟨b, rfl, hb⟩, hB⟩
  exact ⟨by rw [hb.2 rfl], hB⟩
theorem mT_size (a b : Int) : (mT a b).size ≤ 9223372036854775807 := by show 8 ≤ _; decide
set_option maxHeartbeats 4000000 in
set_option maxRecDepth 100000 in
theorem markPatch_all (a b : Int) (ha : 0 ≤ a ∧ a ≤ 1099511627776) (hb : 0 ≤ b ∧ b ≤ 2199023255552) (w : World) : Calls Tryz.prog 134 #[.int .i64 a, .int .i64 b] w fun e w' => e = .returned (.agg #[.int .u8 ((1000003 * (a + 7) + b) % 251), .string (mT a b), .string ⟨#[]⟩, .int .i64 0, .slice none 0 0, .slice none 0 0, .int .u8 0, .slice none 0 0, .int .i64 0, .int .i64 0, .string ⟨#[]⟩, .string ⟨#[]⟩, .slice none 0 0, .slice none 0 0]) ∧ Below w.heap.size w w' := by
  obtain ⟨y, hy⟩ : ∃ y, y = 1000003 * (a + 7) + b := ⟨_, rfl⟩
  obtain ⟨t, ht⟩ : ∃ t, t = mT a b := ⟨_, rfl⟩
  have hm : Hid (∀ W, Calls Tryz.prog 88 #[.int .i64 a, .int .i64 b] W fun e w' => e = .returned (.int .i64 y) ∧ W = w') := hide fun W => by rw [hy]; exact markNum_any a b W ha hb
  have hmt : Hid (∀ W, Calls Tryz.prog 104 #[.int .i64 a, .int .i64 b] W fun e w' => e = .returned (.string t) ∧ Below W.heap.size W w') := hide fun W => by rw [ht]; exact markText_all a b ha hb W
  have hy0 : 0 ≤ y ∧ y ≤ 9223372036854775807 := by omega
  have hy1 : wrap64 (y.tmod 251) = y % 251 := by rw [Int.tmod_eq_emod_of_nonneg hy0.1]; unfold wrap64; omega
  have hy3 : y.tmod 251 = y % 251 := Int.tmod_eq_emod_of_nonneg hy0.1
  have hy4 : 0 ≤ y % 251 ∧ y % 251 < 251 := by omega
  have hy5 : y % 251 % 256 = y % 251 := by omega
  rw [← hy, ← ht]
  clear ha hb hy ht
  go_enter Tryz.func134, Tryz.ntmps134
  go_wp2_with (first
    | (go_at_call 88; (with_reducible refine (hm.out _).mono ?_); rintro e1 w1 ⟨rfl, rfl⟩)
    | (go_at_call 104; (with_reducible refine (hmt.out _).mono ?_); rintro e2 w2 ⟨rfl, hB2⟩; have hc : Cells w2 w.heap.size [.int .u8 0, .string ⟨#[]⟩, .string ⟨#[]⟩, .int .i64 0, .slice none 0 0, .slice none 0 0, .int .u8 0, .slice none 0 0, .int .i64 0, .int .i64 0, .string ⟨#[]⟩, .string ⟨#[]⟩, .slice none 0 0, .slice none 0 0] := fun o u hu => ((hB2.cell (p := ⟨w.heap.size, o, none⟩) (by simp)).trans (by rw [Lib.cell_of_heap (heap_alloc_new w _)]; simpa using hu)); have hfz : ∀ o, w2.frozen? ⟨w.heap.size, o, none⟩ = false := fun o => (hB2.frozen (p := ⟨w.heap.size, o, none⟩) (by simp)).trans (by simp); have HB2 := hide hB2; clear hB2; have c0 := hc 0 _ rfl; have c1 := hc 1 _ rfl; have c2 := hc 2 _ rfl; have c3 := hc 3 _ rfl; have c4 := hc 4 _ rfl; have c5 := hc 5 _ rfl; have c6 := hc 6 _ rfl; have c7 := hc 7 _ rfl; have c8 := hc 8 _ rfl; have c9 := hc 9 _ rfl; have c10 := hc 10 _ rfl; have c11 := hc 11 _ rfl; have c12 := hc 12 _ rfl; have c13 := hc 13 _ rfl; have Hc := hide hc; clear hc))
  obtain ⟨x, hx⟩ : ∃ x, x = y % 251 := ⟨_, rfl⟩
  simp only [← hx]
  obtain ⟨wF, hF, hcF, hoth, hkeep, hfF, hsz⟩ := puts Hc.out 0 [.int .u8 x, .string t, .string ⟨#[]⟩, .int .i64 0, .slice none 0 0, .slice none 0 0, .int .u8 0, .slice none 0 0, .int .i64 0, .int .i64 0, .string ⟨#[]⟩, .string ⟨#[]⟩, .slice none 0 0, .slice none 0 0] (by simp)
  simp only [World.setCells, Nat.zero_add, Nat.reduceAdd] at hF
  rw [← hF]
  clear c0 c1 c2 c3 c4 c5 c6 c7 c8 c9 c10 c11 c12 c13
  have f0 := hcF 0 _ rfl
  have f1 := hcF 1 _ rfl
  have f2 := hcF 2 _ rfl
  have f3 := hcF 3 _ rfl
  have f4 := hcF 4 _ rfl
  have f5 := hcF 5 _ rfl
  have f6 := hcF 6 _ rfl
  have f7 := hcF 7 _ rfl
  have f8 := hcF 8 _ rfl
  have f9 := hcF 9 _ rfl
  have f10 := hcF 10 _ rfl
  have f11 := hcF 11 _ rfl
  have f12 := hcF 12 _ rfl
  have f13 := hcF 13 _ rfl
  have HF := hide hF
  clear hF hcF hoth
  refine bodyPost_ret (v := .agg #[.int .u8 x, .string t, .string ⟨#[]⟩, .int .i64 0, .slice none 0 0, .slice none 0 0, .int .u8 0, .slice none 0 0, .int .i64 0, .int .i64 0, .string ⟨#[]⟩, .string ⟨#[]⟩, .slice none 0 0, .slice none 0 0]) ?_ rfl ⟨rfl, ((below_alloc w _).trans (HB2.out.mono (by simp))).trans (hkeep (fun b => b < w.heap.size) (by simp)).below⟩
  simp only [results, Tryz.results134]
  go_simp


end Go.Proofs.YtfhfkbdaglegpaaGreatDoor
