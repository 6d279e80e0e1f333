/- Rows that lie apart: each in blocks of its own, marked from its beginning. -/
import Derived.Test.YtfhfkbdaglegpaaGreatDoorProg
import Derived.Deep.RegionHeld3
import Derived.Deep.CutBlock
import Derived.Deep.DeepCutAuto
import Derived.BigQuiet
import Derived.Test.YtfhfkbdaglegpaaGreatDoorTKeep

set_option linter.unusedVariables false
set_option linter.unusedSimpArgs false

namespace Go.Proofs.YtfhfkbdaglegpaaGreatDoor
open Go.RowKit

section
variable {E : TypeId} {mk : Nat → Nat → Value} {B K : Nat} {vs : Nat → Value} {ns m m' : Nat → Nat} {T : Nat → Option Nat} {w w' : World}
def marksV (mk : Nat → Nat → Value) (j m : Nat) : List Value := (List.range m).map (mk j)
theorem marksV_len (mk : Nat → Nat → Value) (j m : Nat) : (marksV mk j m).length = m := by simp [marksV]
theorem marksV_next (mk : Nat → Nat → Value) (j m : Nat) : marksV mk j (m + 1) = marksV mk j m ++ [mk j m] := by simp [marksV, List.range_succ]
theorem marksV_at (mk : Nat → Nat → Value) {j m i : Nat} (h : i < m) : (marksV mk j m)[i]? = some (mk j i) := by simp [marksV, h]
theorem marksV_take (mk : Nat → Nat → Value) {j m n : Nat} (h : m ≤ n) : (marksV mk j n).take m = marksV mk j m := by
  simp only [marksV, ← List.map_take, List.take_range, Nat.min_eq_left h]

/-- only the blocks of row k are turned -/
def Only (T : Nat → Option Nat) (k : Nat) (w w' : World) : Prop := w.heap.size ≤ w'.heap.size ∧ ∀ b, b < w.heap.size → T b ≠ some k → w'.heap[b]? = w.heap[b]?
theorem Only.trans {k : Nat} {w'' : World} (h : Only T k w w') (h' : Only T k w' w'') : Only T k w w'' :=
  ⟨Nat.le_trans h.1 h'.1, fun b hb ht => (h'.2 b (Nat.lt_of_lt_of_le hb h.1) ht).trans (h.2 b hb ht)⟩
theorem Only.alloc {k : Nat} (w : World) (o : Obj) : Only T k w (w.alloc o) := ⟨by simp, fun b hb _ => heap_alloc_old w o hb⟩
theorem Only.drew {k : Nat} (w : World) : Only T k w w.drew := ⟨Nat.le_refl _, fun _ _ _ => rfl⟩
theorem Only.grown {k : Nat} {row : Option Nat} (h : w.grownBy w' row) (hr : ∀ g, row = some g → T g = some k) : Only T k w w' := ⟨h.size, fun b hb ht => h.block b hb (fun e => ht (hr b e.symm))⟩
theorem Only.below {k : Nat} (h : Below w.heap.size w w') : Only T k w w' := ⟨h.size, fun b hb _ => h.block b hb⟩

/-- row j lies in blocks of its own, marked so far as m j -/
structure RowsW (mk : Nat → Nat → Value) (E : TypeId) (B K : Nat) (vs : Nat → Value) (ns m : Nat → Nat) (T : Nat → Option Nat) (w : World) : Prop where
  row : ∀ j, j < K → ∃ xs, w.ownsRow B E 1 (vs j) (ns j) (marksV mk j (m j) ++ xs)
  tag : ∀ j, j < K → ∀ g, (vs j).ownBlock = some g → T g = some j
  lt : ∀ g, T g ≠ none → B ≤ g ∧ g < w.heap.size
theorem own_same {base size n : Nat} {e : TypeId} {v : Value} {xs : List Value} (h : w.ownsRow base e size v n xs) (hb : ∀ g, v.ownBlock = some g → w'.heap[g]? = w.heap[g]?) : w'.ownsRow base e size v n xs := by
  refine ⟨h.1, ?_⟩
  rcases h.2 with hn | ⟨g, cap, cur, rfl, hbg, hg, hr⟩
  · exact .inl hn
  · exact .inr ⟨g, cap, cur, rfl, hbg, (hb g rfl).trans hg, hr⟩
theorem RowsW.turn (h : RowsW mk E B K vs ns m T w) {k : Nat} (ho : Only T k w w') (hrow : k < K → ∃ xs, w'.ownsRow B E 1 (vs k) (ns k) (marksV mk k (m' k) ++ xs)) (hm : ∀ j, j ≠ k → m' j = m j) : RowsW mk E B K vs ns m' T w' := by
  refine ⟨fun j hj => ?_, h.tag, fun g hg => ⟨(h.lt g hg).1, Nat.lt_of_lt_of_le (h.lt g hg).2 ho.1⟩⟩
  by_cases e : j = k
  · subst e; exact hrow hj
  · obtain ⟨xs, hx⟩ := h.row j hj
    rw [hm j e]
    refine ⟨xs, own_same hx fun g hg => ho.2 g (hx.lt g hg).2 ?_⟩
    rw [h.tag j hj g hg]
    intro e2
    injection e2 with e2
    exact e e2
/-- what turns no row's block -/
theorem RowsW.still (h : RowsW mk E B K vs ns m T w) (hb : w.heap.size ≤ w'.heap.size ∧ ∀ b, b < w.heap.size → T b ≠ none → w'.heap[b]? = w.heap[b]?) : RowsW mk E B K vs ns m T w' := by
  refine ⟨fun j hj => ?_, h.tag, fun g hg => ⟨(h.lt g hg).1, Nat.lt_of_lt_of_le (h.lt g hg).2 hb.1⟩⟩
  obtain ⟨xs, hx⟩ := h.row j hj
  exact ⟨xs, own_same hx fun g hg => hb.2 g (hx.lt g hg).2 (by rw [h.tag j hj g hg]; exact fun e => by cases e)⟩
theorem RowsW.below (h : RowsW mk E B K vs ns m T w) (hB : Below w.heap.size w w') : RowsW mk E B K vs ns m T w' := h.still ⟨hB.size, fun b hb _ => hB.block b hb⟩
theorem RowsW.mono (h : RowsW mk E B K vs ns m T w) (hm : ∀ j, j < K → m' j = m j) : RowsW mk E B K vs ns m' T w := ⟨fun j hj => by rw [hm j hj]; exact h.row j hj, h.tag, h.lt⟩
theorem RowsW.shape (h : RowsW mk E B K vs ns m T w) {j : Nat} (hj : j < K) : ∃ A c, vs j = .slice A (ns j) c := by
  obtain ⟨xs, hx⟩ := h.row j hj
  exact own_shape hx
/-- a row that is not empty, where it lies -/
theorem RowsW.at_ (h : RowsW mk E B K vs ns m T w) {j i : Nat} (hj : j < K) (hi : i < ns j) : ∃ g c, vs j = .slice (some ⟨g, 0, none⟩) (ns j) c ∧ T g = some j ∧ B ≤ g ∧ g < w.heap.size ∧ (∃ u, w.cell? ⟨g, i, none⟩ = some u) ∧ w.frozen? ⟨g, i, none⟩ = false ∧ (i < m j → w.cell? ⟨g, i, none⟩ = some (mk j i)) := by
  obtain ⟨xs, hx⟩ := h.row j hj
  rcases hx.2 with ⟨_, h0⟩ | ⟨g, cap, cur, e, hb, hg, _⟩
  · omega
  · have ht := h.tag j hj g (by rw [e]; rfl)
    rw [e] at hx
    have hc := hx.cellAt i (by omega)
    have hl := hx.1
    have hi2 : i < (marksV mk j (m j) ++ xs).length := by omega
    refine ⟨g, cap, e, ht, hb, (Array.getElem?_eq_some_iff.1 hg).1, ⟨_, by rw [hc]; exact List.getElem?_eq_getElem hi2⟩, hx.frozenAt i, fun hm => ?_⟩
    rw [hc, List.getElem?_append_left (by rw [marksV_len]; exact hm), marksV_at mk hm]
/-- all of a row is marked -/
theorem RowsW.full (h : RowsW mk E B K vs ns m T w) {j : Nat} (hj : j < K) (hm : m j = ns j) : w.ownsRow B E 1 (vs j) (ns j) (marksV mk j (ns j)) := by
  obtain ⟨xs, hx⟩ := h.row j hj
  have hl := hx.1
  rw [hm, List.length_append, marksV_len] at hl
  have : xs = [] := List.length_eq_zero_iff.1 (by omega)
  subst this
  rw [hm, List.append_nil] at hx
  exact hx
/-- one mark more -/
theorem RowsW.mark (h : RowsW mk E B K vs ns m T w) {k i g c : Nat} (hk : k < K) (hi : i < ns k) (hm : m k = i) (hv : vs k = .slice (some ⟨g, 0, none⟩) (ns k) c) (hT : T g = some k) :
    RowsW mk E B K vs ns (fun j => if j = k then i + 1 else m j) T (w.setCell ⟨g, i, none⟩ (mk k i)) := by
  refine h.turn (k := k) ?_ (fun _ => ?_) (fun j hj => if_neg hj)
  · obtain ⟨xs, hx⟩ := h.row k hk
    rw [hv] at hx
    exact Only.grown (hx.stored i (mk k i)).2 (fun g' hg' => by injection hg' with hg'; rw [← hg']; exact hT)
  · obtain ⟨xs, hx⟩ := h.row k hk
    rw [hv] at hx ⊢
    have hs := (hx.stored i (mk k i)).1
    have hl := hx.1
    rw [hm, List.length_append, marksV_len] at hl
    rw [hm] at hs
    rcases xs with _ | ⟨x, xs⟩
    · simp at hl; omega
    · refine ⟨xs, ?_⟩
      rw [if_pos rfl, marksV_next, List.append_assoc]
      have e : (marksV mk k i ++ x :: xs).set i (mk k i) = marksV mk k i ++ ([mk k i] ++ xs) := by
        rw [List.set_append_right _ _ (by rw [marksV_len]; exact Nat.le_refl _)]
        simp [marksV_len]
      rwa [e] at hs

/-- a grown row: its first p places are marked -/
def GsAt (mk : Nat → Nat → Value) (T : Nat → Option Nat) (w : World) (v : Value) (n p j : Nat) : Prop :=
  ∃ g c, v = .slice (some ⟨g, 0, none⟩) n c ∧ n ≤ c ∧ c ≤ 9223372036854775807 ∧ T g = some j ∧ g < w.heap.size ∧ ∀ i, i < p → w.cell? ⟨g, i, none⟩ = some (mk j i)
theorem GsAt.keep {v : Value} {n p j : Nat} (h : GsAt mk T w v n p j) (hs : w.heap.size ≤ w'.heap.size) (hb : ∀ g, g < w.heap.size → T g = some j → w'.heap[g]? = w.heap[g]?) : GsAt mk T w' v n p j := by
  obtain ⟨g, c, h1, h2, h3, h4, h5, h6⟩ := h
  exact ⟨g, c, h1, h2, h3, h4, Nat.lt_of_lt_of_le h5 hs, fun i hi => (World.cell?_of_block (a := ⟨g, i, none⟩) (hb g h5 h4)).trans (h6 i hi)⟩
theorem GsAt.less {v : Value} {n p q j : Nat} (h : GsAt mk T w v n p j) (hq : q ≤ p) : GsAt mk T w v n q j := by
  obtain ⟨g, c, h1, h2, h3, h4, h5, h6⟩ := h
  exact ⟨g, c, h1, h2, h3, h4, h5, fun i hi => h6 i (Nat.lt_of_lt_of_le hi hq)⟩
theorem GsAt.retag {T' : Nat → Option Nat} {v : Value} {n p j : Nat} (h : GsAt mk T w v n p j) (hT : ∀ g, T g = some j → T' g = some j) : GsAt mk T' w v n p j := by
  obtain ⟨g, c, h1, h2, h3, h4, h5, h6⟩ := h
  exact ⟨g, c, h1, h2, h3, hT g h4, h5, h6⟩
theorem GsAt.of_own {v : Value} {n p j : Nat} {xs : List Value} (h : w.ownsRow B E 1 v n (marksV mk j p ++ xs)) (hn : 0 < n) (hT : ∀ g, v.ownBlock = some g → T g = some j) : GsAt mk T w v n p j := by
  rcases h.2 with ⟨_, h0⟩ | ⟨g, cap, cur, rfl, hb, hg, hnc, hcm, _⟩
  · omega
  · refine ⟨g, cap, rfl, hnc, by unfold maxLen at hcm; omega, hT g rfl, (Array.getElem?_eq_some_iff.1 hg).1, fun i hi => ?_⟩
    have hl := h.1
    rw [List.length_append, marksV_len] at hl
    rw [h.cellAt i (by omega), List.getElem?_append_left (by rw [marksV_len]; exact hi), marksV_at mk hi]

/-- the tags behind an append to row k's own -/
def retag (T : Nat → Option Nat) (w : World) (v' : Value) (k : Nat) : Nat → Option Nat := fun g => if v'.ownBlock = some g ∧ g = w.heap.size then some k else T g
theorem retag_old {k g : Nat} {v' : Value} (hg : g < w.heap.size) : retag T w v' k g = T g := by
  unfold retag
  rw [if_neg (fun h => by omega)]
theorem retag_some {j k g : Nat} {v' : Value} (hlt : ∀ g, T g ≠ none → B ≤ g ∧ g < w.heap.size) (h : T g = some j) : retag T w v' k g = some j := by
  rw [retag_old (hlt g (by rw [h]; exact fun e => by cases e)).2, h]
/-- an append to a row of tag k, the rows being marked up to q: they are so behind it, the new one is of tag k -/
theorem RowsW.append (h : RowsW mk E B K vs ns m T w) {k n a : Nat} {v v' : Value} {xs news : List Value} (hB : B ≤ w.heap.size) (hown : w.ownsRow B E 1 v n xs) (hv : ∀ g, v.ownBlock = some g → T g = some k)
    (hown' : w'.ownsRow B E 1 v' (n + a) (xs ++ news)) (hgr : w.grownBy w' v.ownBlock) (hw : Went w w' v v' n a)
    (hmk : k < K → m k ≤ ns k ∧ ∃ ys, marksV mk k (m k) ++ ys = xs.take (ns k) ∨ ∀ g, (vs k).ownBlock = some g → v.ownBlock ≠ some g) (hn : k < K → ns k ≤ n) (ha : xs.length = n) :
    RowsW mk E B K vs ns m (retag T w v' k) w' ∧ (∀ g, v'.ownBlock = some g → retag T w v' k g = some k) ∧ Only T k w w' ∧ Below B w w' := by
  have hO : Only T k w w' := Only.grown hgr hv
  have hBl : Below B w w' := (Below.refl _ _).grown hgr hB (fun g hg => (hown.lt g hg).1)
  have htag : ∀ g, v'.ownBlock = some g → retag T w v' k g = some k := by
    intro g hg
    rcases hw with ⟨A, c, rfl, rfl⟩ | ⟨hf, _⟩
    · have e : (Value.slice A n c).ownBlock = some g := by cases A <;> exact hg
      have := hv g e
      rw [retag_old (hown.lt g e).2]
      exact this
    · rw [hf] at hg
      injection hg with hg
      unfold retag
      rw [if_pos ⟨by rw [hf, hg], hg.symm⟩]
  refine ⟨⟨fun j hj => ?_, fun j hj g hg => ?_, fun g hg => ?_⟩, htag, hO, hBl⟩
  · obtain ⟨zs, hz⟩ := h.row j hj
    by_cases hjk : j = k
    · subst hjk
      rcases hw with ⟨A, c, rfl, rfl⟩ | ⟨hf, hold⟩
      · rcases hz.2 with ⟨e0, h0⟩ | ⟨g, cap, cur, e, hb, hg, hnc, hcm, hcs, htk⟩
        · refine ⟨zs, hz.1, .inl ⟨e0, h0⟩⟩
        · by_cases hgb : (Value.slice A n c).ownBlock = some g
          · obtain ⟨hmn, ys, hys⟩ := hmk hj
            rcases hys with hys | hys
            · -- in place, in the block of the row
              rcases A with _ | ⟨g', o', p'⟩
              · cases hgb
              · have e1 : g' = g := by injection hgb
                subst e1
                rcases hown.2 with ⟨e2, _⟩ | ⟨g2, cap2, cur2, e2, _, hg2, hnc2, hcm2, hcs2, htk2⟩
                · cases e2
                · injection e2 with e2 _ e3
                  injection e2 with e2
                  injection e2 with e2 e4 e5
                  subst e2 e3 e4 e5
                  rw [hg] at hg2
                  injection hg2 with hg2
                  injection hg2 with hg2
                  subst hg2
                  rcases hown'.2 with ⟨e6, _⟩ | ⟨g3, cap3, cur3, e6, hb3, hg3, hnc3, hcm3, hcs3, htk3⟩
                  · cases e6
                  · injection e6 with e6 _ e7
                    injection e6 with e6
                    injection e6 with e6
                    subst e6 e7
                    have hcc : cap = c := by omega
                    subst hcc
                    refine ⟨ys, ?_, .inr ⟨g', cap, cur3, e, hb3, hg3, hnc, hcm3, hcs3, ?_⟩⟩
                    · rw [hys, List.length_take, ha]
                      have := hn hj
                      omega
                    · have h1 := congrArg (List.take (ns j)) htk3
                      have hnn := hn hj
                      rw [List.take_take, Nat.min_eq_left (by omega), List.take_append_of_le_length (by omega)] at h1
                      rw [hys, ← h1]
                      simp
            · exact absurd hgb (hys g (by rw [e]; rfl))
          · refine ⟨zs, own_same hz fun g1 hg1 => ?_⟩
            have : g1 = g := by
              rw [e] at hg1
              injection hg1 with hg1
              exact hg1.symm
            subst this
            exact hgr.block g1 (hz.lt g1 hg1).2 (fun e2 => hgb e2.symm)
      · exact ⟨zs, own_same hz fun g hg => hold g (hz.lt g hg).2⟩
    · exact ⟨zs, own_same hz fun g hg => hO.2 g (hz.lt g hg).2 (by rw [h.tag j hj g hg]; exact fun e => hjk (by injection e))⟩
  · exact retag_some h.lt (h.tag j hj g hg)
  · by_cases e : v'.ownBlock = some g ∧ g = w.heap.size
    · exact ⟨by omega, (hown'.lt g e.1).2⟩
    · unfold retag at hg
      rw [if_neg e] at hg
      exact ⟨(h.lt g hg).1, Nat.lt_of_lt_of_le (h.lt g hg).2 hO.1⟩
end

end Go.Proofs.YtfhfkbdaglegpaaGreatDoor

namespace Go.Proofs.YtfhfkbdaglegpaaGreatDoor
open Go.RowKit

section
variable {mk : Nat → Nat → Value} {E E2 : TypeId} {w wr w' : World} {LB GB K B : Nat} {vs : Nat → Value} {ns p : Nat → Nat} {T0 T : Nat → Option Nat} {xs : List Value} {J : Nat → Prop}
/-- the rows are marked; of the grown ones in J so much is known as p says -/
structure Fg (mk : Nat → Nat → Value) (E E2 : TypeId) (w : World) (LB GB K B : Nat) (vs : Nat → Value) (ns : Nat → Nat) (T0 T : Nat → Option Nat) (xs : List Value) (J : Nat → Prop) (p : Nat → Nat) (wr : World) : Prop where
  rows : RowsW mk E B K vs ns ns T wr
  tt : ∀ b, b < w.heap.size → T b = T0 b
  tg : T GB = none
  own : wr.ownsRow 0 E2 1 (.slice (some ⟨GB, 0, none⟩) K K) K xs
  gs : ∀ j, J j → ∃ v, xs[j]? = some v ∧ GsAt mk T wr v (ns j + 64) (p j) j
  ls : ∀ b, b < w.heap.size → T0 b = none → wr.heap[b]? = w.heap[b]?
  b : Below B w wr
  hB : B ≤ GB
  bw : B ≤ w.heap.size
  gl : w.heap.size ≤ GB
  lw : LB < w.heap.size
  t0 : T0 LB = none
theorem Fg.gb (h : Fg mk E E2 w LB GB K B vs ns T0 T xs J p wr) : GB < wr.heap.size := by
  have := h.own.lt GB rfl
  exact this.2
theorem Fg.lb (h : Fg mk E E2 w LB GB K B vs ns T0 T xs J p wr) : LB < wr.heap.size := Nat.lt_of_lt_of_le h.lw h.b.size
/-- what leaves the rows' blocks, and these two, as they are -/
theorem Fg.still (h : Fg mk E E2 w LB GB K B vs ns T0 T xs J p wr) (hs : wr.heap.size ≤ w'.heap.size) (hb : ∀ b, b < wr.heap.size → (T b ≠ none ∨ b < w.heap.size ∨ b = GB) → w'.heap[b]? = wr.heap[b]?) (hB : Below B wr w') : Fg mk E E2 w LB GB K B vs ns T0 T xs J p w' := by
  refine ⟨h.rows.still ⟨hs, fun b hb1 hb2 => hb b hb1 (.inl hb2)⟩, h.tt, h.tg, own_same h.own fun g hg => ?_, fun j hj => ?_, fun b hb1 h0 => (hb b (Nat.lt_of_lt_of_le hb1 h.b.size) (.inr (.inl hb1))).trans (h.ls b hb1 h0), h.b.trans hB, h.hB, h.bw, h.gl, h.lw, h.t0⟩
  · injection hg with hg
    subst hg
    exact hb GB h.gb (.inr (.inr rfl))
  · obtain ⟨v, h1, h2⟩ := h.gs j hj
    exact ⟨v, h1, h2.keep hs fun g hg ht => hb g hg (.inl (by rw [ht]; exact fun e => by cases e))⟩
theorem Fg.alloc (h : Fg mk E E2 w LB GB K B vs ns T0 T xs J p wr) (o : Obj) : Fg mk E E2 w LB GB K B vs ns T0 T xs J p (wr.alloc o) :=
  h.still (by simp) (fun b hb _ => heap_alloc_old wr o hb) ((below_alloc wr o).mono (Nat.le_trans h.bw h.b.size))
theorem Fg.drew (h : Fg mk E E2 w LB GB K B vs ns T0 T xs J p wr) : Fg mk E E2 w LB GB K B vs ns T0 T xs J p wr.drew := h.still (Nat.le_refl _) (fun _ _ _ => rfl) (Below.refl _ _).drew
theorem Fg.drewN (h : Fg mk E E2 w LB GB K B vs ns T0 T xs J p wr) (n : Nat) : Fg mk E E2 w LB GB K B vs ns T0 T xs J p (wr.drewN n) := h.still (Nat.le_refl _) (fun _ _ _ => rfl) ⟨rfl, rfl, rfl, Nat.le_refl _, fun _ _ => rfl⟩
theorem Fg.mono {J' : Nat → Prop} {p' : Nat → Nat} (h : Fg mk E E2 w LB GB K B vs ns T0 T xs J p wr) (hJ : ∀ j, J' j → J j ∧ p' j ≤ p j) : Fg mk E E2 w LB GB K B vs ns T0 T xs J' p' wr := by
  refine ⟨h.rows, h.tt, h.tg, h.own, fun j hj => ?_, h.ls, h.b, h.hB, h.bw, h.gl, h.lw, h.t0⟩
  obtain ⟨v, h1, h2⟩ := h.gs j (hJ j hj).1
  exact ⟨v, h1, h2.less (hJ j hj).2⟩
/-- an append to a row of tag k -/
theorem Fg.append {k n a : Nat} {v v' : Value} {ys news : List Value} (h : Fg mk E E2 w LB GB K B vs ns T0 T xs J p wr) (hk : k < K) (hJ : ∀ j, J j → j ≠ k) (hown : wr.ownsRow B E 1 v n ys) (hv : ∀ g, v.ownBlock = some g → T g = some k)
    (hown' : w'.ownsRow B E 1 v' (n + a) (ys ++ news)) (hgr : wr.grownBy w' v.ownBlock) (hw : Went wr w' v v' n a) (hmk : ys.take (ns k) = marksV mk k (ns k)) (hn : ns k ≤ n) :
    Fg mk E E2 w LB GB K B vs ns T0 (retag T wr v' k) xs J p w' ∧ ∀ g, v'.ownBlock = some g → retag T wr v' k g = some k := by
  have hBs := Nat.le_trans h.bw h.b.size
  have hl : ys.length = n := by have := hown.1; omega
  obtain ⟨hr, ht, hO, hBl⟩ := h.rows.append hBs hown hv hown' hgr hw (fun _ => ⟨Nat.le_refl _, [], .inl (by rw [List.append_nil, hmk])⟩) (fun _ => hn) hl
  refine ⟨⟨hr, ?_, ?_, own_same h.own fun g hg => ?_, fun j hj => ?_, fun b hb h0 => ?_, h.b.trans hBl, h.hB, h.bw, h.gl, h.lw, h.t0⟩, ht⟩
  · intro b hb; rw [retag_old (Nat.lt_of_lt_of_le hb h.b.size)]; exact h.tt b hb
  · rw [retag_old h.gb]; exact h.tg
  · injection hg with hg
    subst hg
    exact hO.2 _ h.gb (by show T GB ≠ _; rw [h.tg]; exact fun e => by cases e)
  · obtain ⟨v1, h1, h2⟩ := h.gs j hj
    refine ⟨v1, h1, (h2.keep hO.1 fun g hg hT => hO.2 g hg ?_).retag fun g hg => retag_some h.rows.lt hg⟩
    rw [hT]
    intro e
    injection e with e
    exact hJ j hj e
  · exact (hO.2 b (Nat.lt_of_lt_of_le hb h.b.size) (by show T b ≠ _; rw [h.tt b hb, h0]; exact fun e => by cases e)).trans (h.ls b hb h0)
/-- a grown row is put at its place -/
theorem Fg.put {q : Nat} {v : Value} {J' : Nat → Prop} {p' : Nat → Nat} (h : Fg mk E E2 w LB GB K B vs ns T0 T xs J p wr) (hq : q < K) (hg : GsAt mk T wr v (ns q + 64) (p' q) q) (hJ : ∀ j, J' j → j = q ∨ (j ≠ q ∧ J j ∧ p' j ≤ p j)) :
    Fg mk E E2 w LB GB K B vs ns T0 T (xs.set q v) J' p' (wr.setCell ⟨GB, q, none⟩ v) := by
  obtain ⟨hs, hgr⟩ := h.own.stored q v
  have hone : ∀ b, b ≠ GB → b < wr.heap.size → (wr.setCell ⟨GB, q, none⟩ v).heap[b]? = wr.heap[b]? := fun b hb hlt => hgr.block b hlt (fun e => hb (by injection e))
  have hTg : ∀ g, T g ≠ none → g ≠ GB := fun g hT e => hT (by rw [e]; exact h.tg)
  have hl : xs.length = K := by have := h.own.1; omega
  refine ⟨h.rows.still ⟨hgr.size, fun b hb hT => hone b (hTg b hT) hb⟩, h.tt, h.tg, hs, fun j hj => ?_, fun b hb h0 => (hone b (by have := h.gl; omega) (Nat.lt_of_lt_of_le hb h.b.size)).trans (h.ls b hb h0), h.b.trans ((Below.refl _ _).setCell (p := ⟨GB, q, none⟩) h.hB v), h.hB, h.bw, h.gl, h.lw, h.t0⟩
  rcases hJ j hj with e | ⟨hne, hJj, hp⟩
  · subst e
    exact ⟨v, by simp [hl, hq], hg.keep hgr.size fun g hlt hT => hone g (hTg g (by rw [hT]; exact fun e => by cases e)) hlt⟩
  · obtain ⟨v1, h1, h2⟩ := h.gs j hJj
    exact ⟨v1, by rw [List.getElem?_set_ne (Ne.symm hne)]; exact h1, (h2.less hp).keep hgr.size fun g hlt hT => hone g (hTg g (by rw [hT]; exact fun e => by cases e)) hlt⟩
/-- what the walk reads: the row's head -/
theorem Fg.head {j : Nat} {v : Value} (h : Fg mk E E2 w LB GB K B vs ns T0 T xs J p wr) (hc : w.cell? ⟨LB, j, none⟩ = some v) : wr.cell? ⟨LB, j, none⟩ = some v := (World.cell?_of_block (a := ⟨LB, j, none⟩) (h.ls LB h.lw h.t0)).trans hc
/-- and the grown row's -/
theorem Fg.grown {j : Nat} (h : Fg mk E E2 w LB GB K B vs ns T0 T xs J p wr) (hj : j < K) (hJ : J j) : ∃ g c, wr.cell? ⟨GB, j, none⟩ = some (.slice (some ⟨g, 0, none⟩) (ns j + 64) c) ∧ ns j + 64 ≤ c ∧ c ≤ 9223372036854775807 ∧ ∀ i, i < p j → wr.cell? ⟨g, i, none⟩ = some (mk j i) := by
  obtain ⟨v, h1, g, c, rfl, h2, h3, h4, h5, h6⟩ := h.gs j hJ
  exact ⟨g, c, by rw [h.own.cellAt j (by omega), h1], h2, h3, h6⟩
theorem Fg.place {j : Nat} (h : Fg mk E E2 w LB GB K B vs ns T0 T xs J p wr) (hj : j < K) : (∃ u, wr.cell? ⟨GB, j, none⟩ = some u) ∧ wr.frozen? ⟨GB, j, none⟩ = false := by
  have hl := h.own.1
  exact ⟨⟨_, by rw [h.own.cellAt j (by omega)]; exact List.getElem?_eq_getElem (by omega)⟩, h.own.frozenAt j⟩
end

end Go.Proofs.YtfhfkbdaglegpaaGreatDoor

namespace Go.Proofs.YtfhfkbdaglegpaaGreatDoor
open Go.RowKit

theorem markNum_any (a b : Int) (w : World) (ha : 0 ≤ a ∧ a ≤ 1099511627776) (hb : 0 ≤ b ∧ b ≤ 2199023255552) : Calls Tryz.prog 88 #[.int .i64 a, .int .i64 b] w fun e w' => e = .returned (.int .i64 (1000003 * (a + 7) + b)) ∧ w = w' := by
  obtain ⟨ha0, ha1⟩ := ha
  obtain ⟨hb0, hb1⟩ := hb
  go_enter Tryz.func88, Tryz.ntmps88
  go_wp2_with fail
  go_ret
  exact ⟨rfl, rfl⟩
def mbI (a b : Int) : Int := IntKind.u64.wrap ((1000003 * (a + 7) + b) * 11400714819323198485) / 72057594037927936 % 256
def mkB (j i : Nat) : Value := .int .u8 (mbI j i)
set_option maxRecDepth 100000 in
theorem markByte_any (a b : Int) (w : World) (ha : 0 ≤ a ∧ a ≤ 1099511627776) (hb : 0 ≤ b ∧ b ≤ 2199023255552) : Calls Tryz.prog 39 #[.int .i64 a, .int .i64 b] w fun e w' => e = .returned (.int .u8 (mbI a b)) ∧ w = w' := by
  go_enter Tryz.func39, Tryz.ntmps39
  go_wp2_with (go_at_call 88; refine (markNum_any a b w ha hb).mono ?_; rintro e w1 ⟨rfl, rfl⟩)
  go_ret
  exact ⟨rfl, rfl⟩

end Go.Proofs.YtfhfkbdaglegpaaGreatDoor

namespace Go.Proofs.YtfhfkbdaglegpaaGreatDoor
open Go.RowKit

theorem InfoRowB : (Tryz.prog.info? 36).map (fun i => (i.zero, i.size, i.bytes)) = some (some (.slice none 0 0), 1, 24) := by kernel_rfl
theorem InfoU8B : (Tryz.prog.info? 5).map (fun i => (i.zero, i.size, i.bytes)) = some (some (.int .u8 0), 1, 1) := by kernel_rfl
def Fb (w : World) (LB K B : Nat) (vs : Nat → Value) (ns m : Nat → Nat) (T : Nat → Option Nat) (wr : World) : Prop :=
  RowsW mkB 5 B K vs ns m T wr ∧ (LB < w.heap.size ∧ T LB = none ∧ ∀ b, b < w.heap.size → T b = none → wr.heap[b]? = w.heap[b]?) ∧ Below B w wr
theorem Fb.head {w wr : World} {LB K B j : Nat} {vs : Nat → Value} {ns m : Nat → Nat} {T : Nat → Option Nat} {v : Value} (h : Fb w LB K B vs ns m T wr) (hc : w.cell? ⟨LB, j, none⟩ = some v) : wr.cell? ⟨LB, j, none⟩ = some v := (World.cell?_of_block (a := ⟨LB, j, none⟩) (h.2.1.2.2 LB h.2.1.1 h.2.1.2.1)).trans hc
theorem Fb.mark {w wr : World} {LB K B k i g c : Nat} {vs : Nat → Value} {ns m : Nat → Nat} {T : Nat → Option Nat} (h : Fb w LB K B vs ns m T wr) (hk : k < K) (hi : i < ns k) (hm : m k = i) (hv : vs k = .slice (some ⟨g, 0, none⟩) (ns k) c) (hT : T g = some k) (hB : B ≤ g) :
    Fb w LB K B vs ns (fun j => if j = k then i + 1 else m j) T (wr.setCell ⟨g, i, none⟩ (mkB k i)) :=
  ⟨h.1.mark hk hi hm hv hT, ⟨h.2.1.1, h.2.1.2.1, fun b hb h0 => (Below.heap_setCell _ _ _ b (fun e => by rw [e, hT] at h0; cases h0)).trans (h.2.1.2.2 b hb h0)⟩, h.2.2.trans ((Below.refl _ _).setCell (p := ⟨g, i, none⟩) hB _)⟩
theorem Fb.drew {w wr : World} {LB K B : Nat} {vs : Nat → Value} {ns m : Nat → Nat} {T : Nat → Option Nat} (h : Fb w LB K B vs ns m T wr) : Fb w LB K B vs ns m T wr.drew := ⟨h.1.still ⟨Nat.le_refl _, fun _ _ _ => rfl⟩, h.2.1, h.2.2.trans ⟨rfl, rfl, rfl, Nat.le_refl _, fun _ _ => rfl⟩⟩
theorem Fb.mono {w wr : World} {LB K B : Nat} {vs : Nat → Value} {ns m m' : Nat → Nat} {T : Nat → Option Nat} (h : Fb w LB K B vs ns m T wr) (hm : ∀ j, j < K → m' j = m j) : Fb w LB K B vs ns m' T wr := ⟨h.1.mono hm, h.2⟩

set_option maxHeartbeats 16000000 in
set_option maxRecDepth 1000000 in
theorem flatBytes_any {w : World} {B K LB c : Nat} {vs : Nat → Value} {ns : Nat → Nat} {T0 : Nat → Option Nat} (hR : RowsW mkB 5 B K vs ns (fun _ => 0) T0 w) (hls : ∀ j, j < K → w.cell? ⟨LB, j, none⟩ = some (vs j)) (hT : T0 LB = none) (hn : ∀ j, j < K → ns j ≤ 1099511627776) (hK : K ≤ 549755813888) (hB : B ≤ w.heap.size) (hLB : LB < w.heap.size) :
    Calls Tryz.prog 72 #[.slice (some ⟨LB, 0, none⟩) K c] w fun e w' => e = .returned (.bool true) ∧ Below B w w' ∧ ∀ b, b < w.heap.size → T0 b = none → w'.heap[b]? = w.heap[b]? := by
  obtain ⟨i1, hi1, hz11, hz12, hz13⟩ := info_parts InfoRowB
  obtain ⟨i2, hi2, hz21, hz22, hz23⟩ := info_parts InfoU8B
  have HF : Hid (Fb w LB K B vs ns (fun _ => 0) T0 w) := hide ⟨hR, ⟨hLB, hT, fun _ _ _ => rfl⟩, Below.refl _ _⟩
  have Hls := hide hls
  have Hn := hide hn
  have hmk : Hid (∀ (a b : Nat) (W : World), a ≤ 1099511627776 → b ≤ 2199023255552 → Calls Tryz.prog 39 #[.int .i64 a, .int .i64 b] W fun e w' => e = .returned (.int .u8 (mbI a b)) ∧ W = w') := hide fun a b W h1 h2 => markByte_any a b W ⟨by omega, by omega⟩ ⟨by omega, by omega⟩
  clear hR hls hn
  go_enter Tryz.func72, Tryz.ntmps72
  go_wp2_with fail
  -- the marks
  go_loopg [3] K (fun g k wr => ∃ q : Nat, q ≤ K ∧ g = K - q ∧ k = .int .i64 q ∧ Hid (Fb w LB K B vs ns (fun j => if j < q then ns j else 0) T0 wr))
  case atStart => exact ⟨0, by omega, by omega, rfl, hide (HF.out.mono fun j _ => by simp)⟩
  case round =>
  clear HF
  obtain ⟨q, hq, hg, rfl, HF⟩ := hrel
  by_cases hlt : q < K
  · have hnq := Hn.out q hlt
    go_wp2_with fail
    go_loopg [4] (ns q) (fun g i wx => ∃ r : Nat, r ≤ ns q ∧ g = ns q - r ∧ i = .int .i64 r ∧ Hid (Fb w LB K B vs ns (fun j => if j < q then ns j else if j = q then r else 0) T0 wx))
    case atStart => exact ⟨0, by omega, by omega, rfl, hide (HF.out.mono fun j _ => by by_cases h : j < q <;> simp [h])⟩
    case round =>
    clear HF
    obtain ⟨r, hr, hg2, rfl, HF⟩ := hrel
    by_cases hlt2 : r < ns q
    · obtain ⟨g0, c0, hv, hTg, hBg, hgl, ⟨u, hu⟩, hf, _⟩ := HF.out.1.at_ hlt hlt2
      have hh := HF.out.head (Hls.out q hlt)
      rw [hv] at hh
      have hgL2 : LB ≠ g0 := fun e => by rw [← e, hT] at hTg; cases hTg
      have hgL : g0 ≠ LB := Ne.symm hgL2
      have Hv := hide hv
      have HTg := hide hTg
      clear hv hTg
      have HC : Hid (∀ W, Calls Tryz.prog 39 #[.int .i64 q, .int .i64 r] W fun e w' => e = .returned (.int .u8 (mbI q r)) ∧ W = w') := hide fun W => hmk.out q r W (by omega) (by omega)
      have hu' : wr.drew.cell? ⟨g0, r, none⟩ = some u := hu
      have hf' : wr.drew.frozen? ⟨g0, r, none⟩ = false := hf
      go_upto_region 7 with fail
      go_region_held3 (fun w' => w'.cell? ⟨LB, q, none⟩ = some (.slice (some ⟨g0, 0, none⟩) (ns q) c0) ∧ True) (go_keep) (first | (go_at_call 39; (with_reducible refine (HC.out _).mono ?_); rintro e w1 ⟨rfl, rfl⟩))
      go_wp2_with fail
      go_roundg (ns q - (r + 1))
      case measure => omega
      case rel =>
        refine ⟨r + 1, by omega, rfl, by go_num, hide ?_⟩
        exact (((HF.out.drew).mark hlt hlt2 (by simp) Hv.out HTg.out hBg).mono fun j _ => by by_cases h1 : j = q <;> simp [h1])
    · obtain ⟨A, c0, hv⟩ := HF.out.1.shape hlt
      have hh := HF.out.head (Hls.out q hlt)
      rw [hv] at hh
      clear hv
      go_wp2_with fail
      go_roundg (K - (q + 1))
      case measure => omega
      case rel =>
        have hr2 : r = ns q := by omega
        exact ⟨q + 1, by omega, rfl, by go_num, hide (HF.out.mono fun j _ => by
          by_cases h1 : j < q
          · simp [h1, Nat.lt_succ_of_lt h1]
          · by_cases h2 : j = q
            · subst h2; simp [hr2]
            · have h3 : ¬ j < q + 1 := by omega
              simp [h1, h2, h3])⟩
  · have hqK : q = K := by omega
    subst hqK
    have hKm : (q : Int) ≤ 549755813888 := by omega
    -- the grown rows
    go_wp2_with (at_make; refine wpList_make_full _ rfl _ _ 43 rfl 0 36 i1 (.slice none 0 0) 1 Tryz.underlying43 hi1 hz11 hz12 _ _ _ _ q rfl rfl rfl rfl (by rw [hz13]; omega) (by unfold maxLen; omega) (Nat.zero_le _) ?_)
    intro w1 hown hgrow
    have HP0 : Hid (∀ xs, w1.ownsRow 0 36 1 (.slice (some ⟨wr.heap.size, 0, none⟩) q q) q xs → Fg mkB 5 36 w LB wr.heap.size q B vs ns T0 T0 xs (fun j => j < 0) (fun j => ns j + 64) w1) := hide fun xs hx => by
      have hF := HF.out
      have hz := hF.2.2.size
      have hTG : T0 wr.heap.size = none := by
        cases h : T0 wr.heap.size with
        | none => rfl
        | some j => exact absurd (hF.1.lt wr.heap.size (by rw [h]; exact fun e => by cases e)).2 (Nat.lt_irrefl _)
      exact ⟨(hF.1.mono fun j hj => by simp [hj]).still ⟨hgrow.size, fun b hb _ => hgrow.block b hb (by simp)⟩, fun _ _ => rfl, hTG, hx, fun j hj => absurd hj (Nat.not_lt_zero _), fun b hb h0 => (hgrow.block b (Nat.lt_of_lt_of_le hb hz) (by simp)).trans (hF.2.1.2.2 b hb h0), hF.2.2.trans ((Below.refl _ _).grown hgrow (Nat.le_trans hB hz) (by simp)), Nat.le_trans hB hz, hB, hz, hLB, hT⟩
    have HP := hide (HP0.out _ hown)
    clear HP0 hown hgrow HF
    generalize wr.heap.size = GB at HP ⊢
    go_wp2_with fail
    go_loopg [6] q (fun g k wx => ∃ (s : Nat) (T : Nat → Option Nat) (xs : List Value), s ≤ q ∧ g = q - s ∧ k = .int .i64 s ∧ Hid (Fg mkB 5 36 w LB GB q B vs ns T0 T xs (fun j => j < s) (fun j => ns j + 64) wx))
    case atStart => exact ⟨0, T0, _, by omega, by omega, rfl, HP⟩
    case round =>
    clear HP
    obtain ⟨s, T1, xs, hs, hg3, rfl, HP⟩ := hrel
    by_cases hlt : s < q
    · have hns := Hn.out s hlt
      obtain ⟨A, c0, hv⟩ := HP.out.rows.shape hlt
      have hh := HP.out.head (Hls.out s hlt)
      rw [hv] at hh
      have Hv := hide hv
      clear hv
      go_wp2_with fail
      go_loopg [7, 8] 64 (fun g v i wx => ∃ (r : Nat) (T : Nat → Option Nat), r ≤ 64 ∧ g = 64 - r ∧ i = .int .i64 r ∧ Hid (Fg mkB 5 36 w LB GB q B vs ns T0 T xs (fun j => j < s) (fun j => ns j + 64) wx) ∧ Hid (wx.ownsRow B 5 1 v (ns s + r) (marksV mkB s (ns s + r)) ∧ ∀ g, v.ownBlock = some g → T g = some s))
      case atStart => exact ⟨0, T1, by omega, by omega, rfl, HP, hide (by rw [← Hv.out]; exact ⟨HP.out.rows.full hlt rfl, HP.out.rows.tag s hlt⟩)⟩
      case round =>
      clear HP hh
      obtain ⟨r, T2, hr, hg4, rfl, HP, HO⟩ := hrel
      by_cases hlt2 : r < 64
      · have hh := HP.out.head (Hls.out s hlt)
        rw [Hv.out] at hh
        have hz := HP.out.b.size
        have HC : Hid (∀ W, Calls Tryz.prog 39 #[.int .i64 s, .int .i64 ((ns s : Int) + r)] W fun e w' => e = .returned (.int .u8 (mbI s ((ns s : Int) + r))) ∧ W = w') := hide fun W => hmk.out s (ns s + r) W (by omega) (by omega)
        go_wp2_with (first
          | (go_at_call 39; (with_reducible refine (HC.out _).mono ?_); rintro e w1 ⟨rfl, rfl⟩)
          | (at_builtin; refine wpList_row rfl _ _ 36 rfl B 5 Tryz.underlying36 InfoU8B rfl (by decide) _ (ns s + r) (marksV mkB s (ns s + r)) rfl (HO.out.1.alloc _) (some ⟨wr.heap.size, 0, none⟩) 1 1 [.int .u8 (mbI s ((ns s : Int) + r))] rfl (by simp) rfl (fun ad e => by injection e with e; subst e; exact cell_one_new wr _ _) (by simp [Value.oneCell']) (by unfold maxLen; omega) (by omega) (Nat.le_trans (Nat.le_trans hB hz) (by simp)) ?_))
        intro v1 w1 h1 hg1 hw1
        have HA := hide ((HP.out.alloc _).append hlt (fun j hj => by omega) (HO.out.1.alloc _) HO.out.2 h1 hg1 hw1 (marksV_take mkB (by omega)) (by omega))
        have H1 := hide h1
        clear h1 hg1 hw1
        go_wp2
        go_roundg (64 - (r + 1))
        case measure => omega
        case rel => exact ⟨r + 1, _, by omega, rfl, by go_num, hide HA.out.1, hide ⟨by have := H1.out; rw [show ns s + (r + 1) = ns s + r + 1 from rfl, marksV_next]; exact this, HA.out.2⟩⟩
      · have hr64 : r = 64 := by omega
        subst hr64
        obtain ⟨⟨u, hu⟩, hf⟩ := HP.out.place hlt
        obtain ⟨A2, c2, rfl⟩ := own_shape HO.out.1
        go_wp2_with fail
        go_roundg (q - (s + 1))
        case measure => omega
        case rel => exact ⟨s + 1, T2, _, by omega, rfl, by go_num, hide (HP.out.put hlt (GsAt.of_own (xs := []) (by simpa using HO.out.1) (by omega) HO.out.2) (fun j hj => by rcases Nat.lt_succ_iff_lt_or_eq.1 hj with h | h; exact .inr ⟨by omega, h, Nat.le_refl _⟩; exact .inl h))⟩
    · have hsq : s = q := by omega
      subst hsq
      -- what was written is there
      go_wp2_with fail
      go_loopg [9] s (fun g k wx => ∃ a : Nat, a ≤ s ∧ g = s - a ∧ k = .int .i64 a ∧ Hid (Fg mkB 5 36 w LB GB s B vs ns T0 T1 xs (fun j => j < s) (fun j => ns j + 64) wx))
      case atStart => exact ⟨0, by omega, by omega, rfl, HP⟩
      case round =>
      clear HP
      obtain ⟨a, ha, hg5, rfl, HP⟩ := hrel
      by_cases hlt : a < s
      · have hna := Hn.out a hlt
        go_wp2_with fail
        go_loopg [10] (ns a + 64) (fun g i wx => ∃ r : Nat, r ≤ ns a + 64 ∧ g = ns a + 64 - r ∧ i = .int .i64 r ∧ Hid (Fg mkB 5 36 w LB GB s B vs ns T0 T1 xs (fun j => j < s) (fun j => ns j + 64) wx))
        case atStart => exact ⟨0, by omega, by omega, rfl, HP⟩
        case round =>
        clear HP
        obtain ⟨r, hr, hg6, rfl, HP⟩ := hrel
        obtain ⟨g1, c1, hG, hc1, hc2, hm⟩ := HP.out.grown hlt hlt
        by_cases hlt2 : r < ns a + 64
        · have hm1 := hm r hlt2
          have HC : Hid (∀ W, Calls Tryz.prog 39 #[.int .i64 a, .int .i64 r] W fun e w' => e = .returned (.int .u8 (mbI a r)) ∧ W = w') := hide fun W => hmk.out a r W (by omega) (by omega)
          have hm1' : wr.cell? ⟨g1, r, none⟩ = some (.int .u8 (mbI a r)) := hm1
          clear hm hm1
          have hh := HP.out.head (Hls.out a hlt)
          by_cases hlt3 : r < ns a
          · obtain ⟨g0, c0, hv, _, _, _, _, _, hm0⟩ := HP.out.rows.at_ hlt hlt3
            have hm0' : wr.cell? ⟨g0, r, none⟩ = some (.int .u8 (mbI a r)) := hm0 hlt3
            rw [hv] at hh
            clear hm0 hv
            go_wp2_with fail
            go_quiet ((go_at_call 39; (with_reducible refine (HC.out _).mono ?_); rintro e w1 ⟨rfl, rfl⟩; exact ⟨rfl, _, rfl⟩))
            go_wp2_with fail
            go_roundg (ns a + 64 - (r + 1))
            case measure => omega
            case rel => exact ⟨r + 1, by omega, rfl, by go_num, hide (HP.out.drewN _)⟩
          · obtain ⟨A, c0, hv⟩ := HP.out.rows.shape hlt
            rw [hv] at hh
            clear hv
            go_wp2_with fail
            go_quiet ((go_at_call 39; (with_reducible refine (HC.out _).mono ?_); rintro e w1 ⟨rfl, rfl⟩; exact ⟨rfl, _, rfl⟩))
            go_wp2_with fail
            go_roundg (ns a + 64 - (r + 1))
            case measure => omega
            case rel => exact ⟨r + 1, by omega, rfl, by go_num, hide (HP.out.drewN _)⟩
        · clear hm
          go_wp2_with fail
          go_roundg (s - (a + 1))
          case measure => omega
          case rel => exact ⟨a + 1, by omega, rfl, by go_num, HP⟩
      · have has : a = s := by omega
        subst has
        have HP4 := hide (HP.out.mono (J' := fun j => j < a) (p' := ns) (fun j hj => ⟨hj, by omega⟩))
        clear HP
        -- more is put behind each
        go_wp2_with fail
        go_loopg [11] a (fun g k wx => ∃ (b : Nat) (T : Nat → Option Nat) (xs : List Value), b ≤ a ∧ g = a - b ∧ k = .int .i64 b ∧ Hid (Fg mkB 5 36 w LB GB a B vs ns T0 T xs (fun j => j < a) ns wx))
        case atStart => exact ⟨0, T1, xs, by omega, by omega, rfl, HP4⟩
        case round =>
        clear HP4
        obtain ⟨b, T2, xs2, hb, hg7, rfl, HP⟩ := hrel
        by_cases hlt : b < a
        · have hnb := Hn.out b hlt
          go_wp2_with (at_make; refine wpList_make_full _ rfl _ _ 36 rfl 0 5 i2 (.int .u8 0) 1 Tryz.underlying36 hi2 hz21 hz22 _ _ _ _ 64 rfl rfl rfl rfl (by rw [hz23]; omega) (by unfold maxLen; omega) (Nat.zero_le _) ?_)
          intro w1 hown hgrow
          have hBw := Nat.le_trans hB HP.out.b.size
          have hM1 : T2 wr.heap.size = none := by
            cases h : T2 wr.heap.size with
            | none => rfl
            | some j => exact absurd (HP.out.rows.lt wr.heap.size (by rw [h]; exact fun e => by cases e)).2 (Nat.lt_irrefl _)
          have hM2 : wr.heap.size ≠ GB := by have := HP.out.gb; omega
          have hM3 : w.heap.size ≤ wr.heap.size := HP.out.b.size
          have HQ := hide (HP.out.still hgrow.size (fun k hk _ => hgrow.block k hk (by simp)) ((Below.refl _ _).grown hgrow hBw (by simp)))
          have HO := hide hown
          clear hown hgrow HP
          generalize wr.heap.size = MB at HO hBw hM1 hM2 hM3 ⊢
          go_wp2_with fail
          go_loopg [13] 64 (fun g i wx => ∃ (r : Nat) (ys : List Value), r ≤ 64 ∧ g = 64 - r ∧ i = .int .i64 r ∧ Hid (Fg mkB 5 36 w LB GB a B vs ns T0 T2 xs2 (fun j => j < a) ns wx) ∧ Hid (wx.ownsRow 0 5 1 (.slice (some ⟨MB, 0, none⟩) 64 64) 64 ys ∧ ∀ u ∈ ys, u.oneCell' = true))
          case atStart =>
            refine ⟨0, _, by omega, by omega, rfl, HQ, hide ⟨HO.out, fun u hu => ?_⟩⟩
            rw [toList_madeCells_one] at hu
            rw [List.eq_of_mem_replicate hu]
            rfl
          case round =>
          clear HQ HO
          obtain ⟨r, ys, hr, hg8, rfl, HP, HO⟩ := hrel
          by_cases hlt2 : r < 64
          · have HC : Hid (∀ W, Calls Tryz.prog 39 #[.int .i64 ((b : Int) + a), .int .i64 r] W fun e w' => e = .returned (.int .u8 (mbI ((b : Int) + a) r)) ∧ W = w') := hide fun W => markByte_any _ _ W ⟨by omega, by omega⟩ ⟨by omega, by omega⟩
            have hl := HO.out.1.1
            obtain ⟨u, hu⟩ : ∃ u, wr.cell? ⟨MB, r, none⟩ = some u := ⟨_, by rw [HO.out.1.cellAt r (by omega)]; exact List.getElem?_eq_getElem (by omega)⟩
            have hf := HO.out.1.frozenAt r
            go_wp2_with (go_at_call 39; (with_reducible refine (HC.out _).mono ?_); rintro e w1 ⟨rfl, rfl⟩)
            go_roundg (64 - (r + 1))
            case measure => omega
            case rel =>
              refine ⟨r + 1, ys.set r (.int .u8 (mbI ((b : Int) + a) r)), by omega, rfl, by go_num, hide ?_, hide ⟨(HO.out.1.stored r _).1, fun v hv => ?_⟩⟩
              · refine HP.out.still (by simp [World.setCell]) (fun k _ hk => Below.heap_setCell _ _ _ k ?_) ((Below.refl _ _).setCell (p := ⟨MB, r, none⟩) hBw _)
                rintro rfl
                rcases hk with h | h | h
                · exact h hM1
                · omega
                · exact hM2 h
              · rcases List.mem_or_eq_of_mem_set hv with h | h
                · exact HO.out.2 v h
                · rw [h]; rfl
          · obtain ⟨A, c0, hv⟩ := HP.out.rows.shape hlt
            have hh := HP.out.head (Hls.out b hlt)
            rw [hv] at hh
            have hfull := HP.out.rows.full hlt rfl
            have htag := HP.out.rows.tag b hlt
            rw [hv] at hfull htag
            have Hfull := hide hfull
            have Htag := hide htag
            clear hv hfull htag
            have hl := HO.out.1.1
            go_wp2_with (at_builtin; refine wpList_row rfl _ _ 36 rfl B 5 Tryz.underlying36 InfoU8B rfl (by decide) _ (ns b) (marksV mkB b (ns b)) rfl Hfull.out (some ⟨MB, 0, none⟩) 64 64 ys rfl (by simp) hl (fun ad e => by injection e with e; subst e; exact HO.out.1.cells rfl) HO.out.2 (by unfold maxLen; omega) (by omega) (Nat.le_trans hB HP.out.b.size) ?_)
            intro v1 w1 h1 hg1 hw1
            have HA := hide ((HP.out.mono (J' := fun j => j < a ∧ j ≠ b) (p' := ns) (fun j hj => ⟨hj.1, Nat.le_refl _⟩)).append hlt (fun j hj => hj.2) Hfull.out Htag.out h1 hg1 hw1 (marksV_take mkB (Nat.le_refl _)) (Nat.le_refl _))
            obtain ⟨A2, c2, rfl⟩ := own_shape h1
            have H1 := hide h1
            clear h1 hg1 hw1 hh
            obtain ⟨⟨u, hu⟩, hf⟩ := HA.out.1.place hlt
            go_wp2
            go_roundg (a - (b + 1))
            case measure => omega
            case rel => exact ⟨b + 1, _, _, by omega, rfl, by go_num, hide (HA.out.1.put hlt (GsAt.of_own (xs := ys) H1.out (by omega) HA.out.2) (fun j hj => by by_cases h : j = b; exact .inl h; exact .inr ⟨h, ⟨hj, h⟩, Nat.le_refl _⟩))⟩
        · have hba : b = a := by omega
          subst hba
          -- and each is as it was
          go_wp2_with fail
          go_loopg [14] b (fun g k wx => ∃ d : Nat, d ≤ b ∧ g = b - d ∧ k = .int .i64 d ∧ Hid (Fg mkB 5 36 w LB GB b B vs ns T0 T2 xs2 (fun j => j < b) ns wx))
          case atStart => exact ⟨0, by omega, by omega, rfl, HP⟩
          case round =>
          clear HP
          obtain ⟨d, hd, hg9, rfl, HP⟩ := hrel
          by_cases hlt : d < b
          · have hnd := Hn.out d hlt
            go_wp2_with fail
            go_loopg [15] (ns d) (fun g i wx => ∃ r : Nat, r ≤ ns d ∧ g = ns d - r ∧ i = .int .i64 r ∧ Hid (Fg mkB 5 36 w LB GB b B vs ns T0 T2 xs2 (fun j => j < b) ns wx))
            case atStart => exact ⟨0, by omega, by omega, rfl, HP⟩
            case round =>
            clear HP
            obtain ⟨r, hr, hg10, rfl, HP⟩ := hrel
            obtain ⟨g1, c1, hG, hc1, hc2, hm⟩ := HP.out.grown hlt hlt
            have hh := HP.out.head (Hls.out d hlt)
            by_cases hlt2 : r < ns d
            · have hm1' : wr.cell? ⟨g1, r, none⟩ = some (.int .u8 (mbI d r)) := hm r hlt2
              have HC : Hid (∀ W, Calls Tryz.prog 39 #[.int .i64 d, .int .i64 r] W fun e w' => e = .returned (.int .u8 (mbI d r)) ∧ W = w') := hide fun W => hmk.out d r W (by omega) (by omega)
              obtain ⟨g0, c0, hv, _, _, _, _, _, hm0⟩ := HP.out.rows.at_ hlt hlt2
              have hm0' : wr.cell? ⟨g0, r, none⟩ = some (.int .u8 (mbI d r)) := hm0 hlt2
              rw [hv] at hh
              have hr64 : r < ns d + 64 := by omega
              clear hm0 hv hm
              go_wp2_with fail
              go_quiet ((go_at_call 39; (with_reducible refine (HC.out _).mono ?_); rintro e w1 ⟨rfl, rfl⟩; exact ⟨rfl, _, rfl⟩))
              go_wp2_with fail
              go_roundg (ns d - (r + 1))
              case measure => omega
              case rel => exact ⟨r + 1, by omega, rfl, by go_num, hide (HP.out.drewN _)⟩
            · obtain ⟨A, c0, hv⟩ := HP.out.rows.shape hlt
              rw [hv] at hh
              clear hv hm
              go_wp2_with fail
              go_roundg (b - (d + 1))
              case measure => omega
              case rel => exact ⟨d + 1, by omega, rfl, by go_num, HP⟩
          · go_wp2_with fail
            go_ret
            exact ⟨rfl, HP.out.b, HP.out.ls⟩

end Go.Proofs.YtfhfkbdaglegpaaGreatDoor
