/- Rows that lie apart: each in blocks of its own, marked from its beginning. -/
import Derived.Test.YtjjaojnglnpgaaaGreatDoorProg
import Derived.Test.YtjjaojnglnpgaaaGreatDoorLKeep

set_option linter.unusedVariables false
set_option linter.unusedSimpArgs false

namespace Go.Proofs.YtjjaojnglnpgaaaGreatDoor
open Go.RowKit

section
variable {E : TypeId} {mk : Nat → Nat → Value} {B K : Nat} {vs : Nat → Value} {ns m m' : Nat → Nat} {T : Nat → Option Nat} {w w' : World}
def marksV (mk : Nat → Nat → Value) (j m : Nat) : List Value := (List.range m).map (mk j)
theorem marksV_len (mk : Nat → Nat → Value) (j m : Nat) : (marksV mk j m).length = m := by simp [marksV]
theorem marksV_next (mk : Nat → Nat → Value) (j m : Nat) : marksV mk j (m + 1) = marksV mk j m ++ [mk j m] := by simp [marksV, List.range_succ]
theorem marksV_at (mk : Nat → Nat → Value) {j m i : Nat} (h : i < m) : (marksV mk j m)[i]? = some (mk j i) := by simp [marksV, h]
theorem marksV_take (mk : Nat → Nat → Value) {j m n : Nat} (h : m ≤ n) : (marksV mk j n).take m = marksV mk j m := by
  simp only [marksV, ← List.map_take, List.take_range, Nat.min_eq_left h]

/-- only the blocks of row k are turned -/
def Only (T : Nat → Option Nat) (k : Nat) (w w' : World) : Prop := w.heap.size ≤ w'.heap.size ∧ ∀ b, b < w.heap.size → T b ≠ some k → w'.heap[b]? = w.heap[b]?
theorem Only.trans {k : Nat} {w'' : World} (h : Only T k w w') (h' : Only T k w' w'') : Only T k w w'' :=
  ⟨Nat.le_trans h.1 h'.1, fun b hb ht => (h'.2 b (Nat.lt_of_lt_of_le hb h.1) ht).trans (h.2 b hb ht)⟩
theorem Only.alloc {k : Nat} (w : World) (o : Obj) : Only T k w (w.alloc o) := ⟨by simp, fun b hb _ => heap_alloc_old w o hb⟩
theorem Only.drew {k : Nat} (w : World) : Only T k w w.drew := ⟨Nat.le_refl _, fun _ _ _ => rfl⟩
theorem Only.grown {k : Nat} {row : Option Nat} (h : w.grownBy w' row) (hr : ∀ g, row = some g → T g = some k) : Only T k w w' := ⟨h.size, fun b hb ht => h.block b hb (fun e => ht (hr b e.symm))⟩
theorem Only.below {k : Nat} (h : Below w.heap.size w w') : Only T k w w' := ⟨h.size, fun b hb _ => h.block b hb⟩

/-- row j lies in blocks of its own, marked so far as m j -/
structure RowsW (mk : Nat → Nat → Value) (E : TypeId) (B K : Nat) (vs : Nat → Value) (ns m : Nat → Nat) (T : Nat → Option Nat) (w : World) : Prop where
  row : ∀ j, j < K → ∃ xs, w.ownsRow B E 1 (vs j) (ns j) (marksV mk j (m j) ++ xs)
  tag : ∀ j, j < K → ∀ g, (vs j).ownBlock = some g → T g = some j
  lt : ∀ g, T g ≠ none → B ≤ g ∧ g < w.heap.size
theorem own_same {base size n : Nat} {e : TypeId} {v : Value} {xs : List Value} (h : w.ownsRow base e size v n xs) (hb : ∀ g, v.ownBlock = some g → w'.heap[g]? = w.heap[g]?) : w'.ownsRow base e size v n xs := by
  refine ⟨h.1, ?_⟩
  rcases h.2 with hn | ⟨g, cap, cur, rfl, hbg, hg, hr⟩
  · exact .inl hn
  · exact .inr ⟨g, cap, cur, rfl, hbg, (hb g rfl).trans hg, hr⟩
theorem RowsW.turn (h : RowsW mk E B K vs ns m T w) {k : Nat} (ho : Only T k w w') (hrow : k < K → ∃ xs, w'.ownsRow B E 1 (vs k) (ns k) (marksV mk k (m' k) ++ xs)) (hm : ∀ j, j ≠ k → m' j = m j) : RowsW mk E B K vs ns m' T w' := by
  refine ⟨fun j hj => ?_, h.tag, fun g hg => ⟨(h.lt g hg).1, Nat.lt_of_lt_of_le (h.lt g hg).2 ho.1⟩⟩
  by_cases e : j = k
  · subst e; exact hrow hj
  · obtain ⟨xs, hx⟩ := h.row j hj
    rw [hm j e]
    refine ⟨xs, own_same hx fun g hg => ho.2 g (hx.lt g hg).2 ?_⟩
    rw [h.tag j hj g hg]
    intro e2
    injection e2 with e2
    exact e e2
/-- what turns no row's block -/
theorem RowsW.still (h : RowsW mk E B K vs ns m T w) (hb : w.heap.size ≤ w'.heap.size ∧ ∀ b, b < w.heap.size → T b ≠ none → w'.heap[b]? = w.heap[b]?) : RowsW mk E B K vs ns m T w' := by
  refine ⟨fun j hj => ?_, h.tag, fun g hg => ⟨(h.lt g hg).1, Nat.lt_of_lt_of_le (h.lt g hg).2 hb.1⟩⟩
  obtain ⟨xs, hx⟩ := h.row j hj
  exact ⟨xs, own_same hx fun g hg => hb.2 g (hx.lt g hg).2 (by rw [h.tag j hj g hg]; exact fun e => by cases e)⟩
theorem RowsW.below (h : RowsW mk E B K vs ns m T w) (hB : Below w.heap.size w w') : RowsW mk E B K vs ns m T w' := h.still ⟨hB.size, fun b hb _ => hB.block b hb⟩
theorem RowsW.mono (h : RowsW mk E B K vs ns m T w) (hm : ∀ j, j < K → m' j = m j) : RowsW mk E B K vs ns m' T w := ⟨fun j hj => by rw [hm j hj]; exact h.row j hj, h.tag, h.lt⟩
theorem RowsW.shape (h : RowsW mk E B K vs ns m T w) {j : Nat} (hj : j < K) : ∃ A c, vs j = .slice A (ns j) c := by
  obtain ⟨xs, hx⟩ := h.row j hj
  exact own_shape hx
/-- a row that is not empty, where it lies -/
theorem RowsW.at_ (h : RowsW mk E B K vs ns m T w) {j i : Nat} (hj : j < K) (hi : i < ns j) : ∃ g c, vs j = .slice (some ⟨g, 0, none⟩) (ns j) c ∧ T g = some j ∧ B ≤ g ∧ g < w.heap.size ∧ (∃ u, w.cell? ⟨g, i, none⟩ = some u) ∧ w.frozen? ⟨g, i, none⟩ = false ∧ (i < m j → w.cell? ⟨g, i, none⟩ = some (mk j i)) := by
  obtain ⟨xs, hx⟩ := h.row j hj
  rcases hx.2 with ⟨_, h0⟩ | ⟨g, cap, cur, e, hb, hg, _⟩
  · omega
  · have ht := h.tag j hj g (by rw [e]; rfl)
    rw [e] at hx
    have hc := hx.cellAt i (by omega)
    have hl := hx.1
    have hi2 : i < (marksV mk j (m j) ++ xs).length := by omega
    refine ⟨g, cap, e, ht, hb, (Array.getElem?_eq_some_iff.1 hg).1, ⟨_, by rw [hc]; exact List.getElem?_eq_getElem hi2⟩, hx.frozenAt i, fun hm => ?_⟩
    rw [hc, List.getElem?_append_left (by rw [marksV_len]; exact hm), marksV_at mk hm]
/-- all of a row is marked -/
theorem RowsW.full (h : RowsW mk E B K vs ns m T w) {j : Nat} (hj : j < K) (hm : m j = ns j) : w.ownsRow B E 1 (vs j) (ns j) (marksV mk j (ns j)) := by
  obtain ⟨xs, hx⟩ := h.row j hj
  have hl := hx.1
  rw [hm, List.length_append, marksV_len] at hl
  have : xs = [] := List.length_eq_zero_iff.1 (by omega)
  subst this
  rw [hm, List.append_nil] at hx
  exact hx
/-- one mark more -/
theorem RowsW.mark (h : RowsW mk E B K vs ns m T w) {k i g c : Nat} (hk : k < K) (hi : i < ns k) (hm : m k = i) (hv : vs k = .slice (some ⟨g, 0, none⟩) (ns k) c) (hT : T g = some k) :
    RowsW mk E B K vs ns (fun j => if j = k then i + 1 else m j) T (w.setCell ⟨g, i, none⟩ (mk k i)) := by
  refine h.turn (k := k) ?_ (fun _ => ?_) (fun j hj => if_neg hj)
  · obtain ⟨xs, hx⟩ := h.row k hk
    rw [hv] at hx
    exact Only.grown (hx.stored i (mk k i)).2 (fun g' hg' => by injection hg' with hg'; rw [← hg']; exact hT)
  · obtain ⟨xs, hx⟩ := h.row k hk
    rw [hv] at hx ⊢
    have hs := (hx.stored i (mk k i)).1
    have hl := hx.1
    rw [hm, List.length_append, marksV_len] at hl
    rw [hm] at hs
    rcases xs with _ | ⟨x, xs⟩
    · simp at hl; omega
    · refine ⟨xs, ?_⟩
      rw [if_pos rfl, marksV_next, List.append_assoc]
      have e : (marksV mk k i ++ x :: xs).set i (mk k i) = marksV mk k i ++ ([mk k i] ++ xs) := by
        rw [List.set_append_right _ _ (by rw [marksV_len]; exact Nat.le_refl _)]
        simp [marksV_len]
      rwa [e] at hs

/-- a grown row: its first p places are marked -/
def GsAt (mk : Nat → Nat → Value) (T : Nat → Option Nat) (w : World) (v : Value) (n p j : Nat) : Prop :=
  ∃ g c, v = .slice (some ⟨g, 0, none⟩) n c ∧ n ≤ c ∧ c ≤ 9223372036854775807 ∧ T g = some j ∧ g < w.heap.size ∧ ∀ i, i < p → w.cell? ⟨g, i, none⟩ = some (mk j i)
theorem GsAt.keep {v : Value} {n p j : Nat} (h : GsAt mk T w v n p j) (hs : w.heap.size ≤ w'.heap.size) (hb : ∀ g, g < w.heap.size → T g = some j → w'.heap[g]? = w.heap[g]?) : GsAt mk T w' v n p j := by
  obtain ⟨g, c, h1, h2, h3, h4, h5, h6⟩ := h
  exact ⟨g, c, h1, h2, h3, h4, Nat.lt_of_lt_of_le h5 hs, fun i hi => (World.cell?_of_block (a := ⟨g, i, none⟩) (hb g h5 h4)).trans (h6 i hi)⟩
theorem GsAt.less {v : Value} {n p q j : Nat} (h : GsAt mk T w v n p j) (hq : q ≤ p) : GsAt mk T w v n q j := by
  obtain ⟨g, c, h1, h2, h3, h4, h5, h6⟩ := h
  exact ⟨g, c, h1, h2, h3, h4, h5, fun i hi => h6 i (Nat.lt_of_lt_of_le hi hq)⟩
theorem GsAt.retag {T' : Nat → Option Nat} {v : Value} {n p j : Nat} (h : GsAt mk T w v n p j) (hT : ∀ g, T g = some j → T' g = some j) : GsAt mk T' w v n p j := by
  obtain ⟨g, c, h1, h2, h3, h4, h5, h6⟩ := h
  exact ⟨g, c, h1, h2, h3, hT g h4, h5, h6⟩
theorem GsAt.of_own {v : Value} {n p j : Nat} {xs : List Value} (h : w.ownsRow B E 1 v n (marksV mk j p ++ xs)) (hn : 0 < n) (hT : ∀ g, v.ownBlock = some g → T g = some j) : GsAt mk T w v n p j := by
  rcases h.2 with ⟨_, h0⟩ | ⟨g, cap, cur, rfl, hb, hg, hnc, hcm, _⟩
  · omega
  · refine ⟨g, cap, rfl, hnc, by unfold maxLen at hcm; omega, hT g rfl, (Array.getElem?_eq_some_iff.1 hg).1, fun i hi => ?_⟩
    have hl := h.1
    rw [List.length_append, marksV_len] at hl
    rw [h.cellAt i (by omega), List.getElem?_append_left (by rw [marksV_len]; exact hi), marksV_at mk hi]

/-- the tags behind an append to row k's own -/
def retag (T : Nat → Option Nat) (w : World) (v' : Value) (k : Nat) : Nat → Option Nat := fun g => if v'.ownBlock = some g ∧ g = w.heap.size then some k else T g
theorem retag_old {k g : Nat} {v' : Value} (hg : g < w.heap.size) : retag T w v' k g = T g := by
  unfold retag
  rw [if_neg (fun h => by omega)]
theorem retag_some {j k g : Nat} {v' : Value} (hlt : ∀ g, T g ≠ none → B ≤ g ∧ g < w.heap.size) (h : T g = some j) : retag T w v' k g = some j := by
  rw [retag_old (hlt g (by rw [h]; exact fun e => by cases e)).2, h]
/-- an append to a row of tag k, the rows being marked up to q: they are so behind it, the new one is of tag k -/
theorem RowsW.append (h : RowsW mk E B K vs ns m T w) {k n a : Nat} {v v' : Value} {xs news : List Value} (hB : B ≤ w.heap.size) (hown : w.ownsRow B E 1 v n xs) (hv : ∀ g, v.ownBlock = some g → T g = some k)
    (hown' : w'.ownsRow B E 1 v' (n + a) (xs ++ news)) (hgr : w.grownBy w' v.ownBlock) (hw : Went w w' v v' n a)
    (hmk : k < K → m k ≤ ns k ∧ ∃ ys, marksV mk k (m k) ++ ys = xs.take (ns k) ∨ ∀ g, (vs k).ownBlock = some g → v.ownBlock ≠ some g) (hn : k < K → ns k ≤ n) (ha : xs.length = n) :
    RowsW mk E B K vs ns m (retag T w v' k) w' ∧ (∀ g, v'.ownBlock = some g → retag T w v' k g = some k) ∧ Only T k w w' ∧ Below B w w' := by
  have hO : Only T k w w' := Only.grown hgr hv
  have hBl : Below B w w' := (Below.refl _ _).grown hgr hB (fun g hg => (hown.lt g hg).1)
  have htag : ∀ g, v'.ownBlock = some g → retag T w v' k g = some k := by
    intro g hg
    rcases hw with ⟨A, c, rfl, rfl⟩ | ⟨hf, _⟩
    · have e : (Value.slice A n c).ownBlock = some g := by cases A <;> exact hg
      have := hv g e
      rw [retag_old (hown.lt g e).2]
      exact this
    · rw [hf] at hg
      injection hg with hg
      unfold retag
      rw [if_pos ⟨by rw [hf, hg], hg.symm⟩]
  refine ⟨⟨fun j hj => ?_, fun j hj g hg => ?_, fun g hg => ?_⟩, htag, hO, hBl⟩
  · obtain ⟨zs, hz⟩ := h.row j hj
    by_cases hjk : j = k
    · subst hjk
      rcases hw with ⟨A, c, rfl, rfl⟩ | ⟨hf, hold⟩
      · rcases hz.2 with ⟨e0, h0⟩ | ⟨g, cap, cur, e, hb, hg, hnc, hcm, hcs, htk⟩
        · refine ⟨zs, hz.1, .inl ⟨e0, h0⟩⟩
        · by_cases hgb : (Value.slice A n c).ownBlock = some g
          · obtain ⟨hmn, ys, hys⟩ := hmk hj
            rcases hys with hys | hys
            · -- in place, in the block of the row
              rcases A with _ | ⟨g', o', p'⟩
              · cases hgb
              · have e1 : g' = g := by injection hgb
                subst e1
                rcases hown.2 with ⟨e2, _⟩ | ⟨g2, cap2, cur2, e2, _, hg2, hnc2, hcm2, hcs2, htk2⟩
                · cases e2
                · injection e2 with e2 _ e3
                  injection e2 with e2
                  injection e2 with e2 e4 e5
                  subst e2 e3 e4 e5
                  rw [hg] at hg2
                  injection hg2 with hg2
                  injection hg2 with hg2
                  subst hg2
                  rcases hown'.2 with ⟨e6, _⟩ | ⟨g3, cap3, cur3, e6, hb3, hg3, hnc3, hcm3, hcs3, htk3⟩
                  · cases e6
                  · injection e6 with e6 _ e7
                    injection e6 with e6
                    injection e6 with e6
                    subst e6 e7
                    have hcc : cap = c := by omega
                    subst hcc
                    refine ⟨ys, ?_, .inr ⟨g', cap, cur3, e, hb3, hg3, hnc, hcm3, hcs3, ?_⟩⟩
                    · rw [hys, List.length_take, ha]
                      have := hn hj
                      omega
                    · have h1 := congrArg (List.take (ns j)) htk3
                      have hnn := hn hj
                      rw [List.take_take, Nat.min_eq_left (by omega), List.take_append_of_le_length (by omega)] at h1
                      rw [hys, ← h1]
                      simp
            · exact absurd hgb (hys g (by rw [e]; rfl))
          · refine ⟨zs, own_same hz fun g1 hg1 => ?_⟩
            have : g1 = g := by
              rw [e] at hg1
              injection hg1 with hg1
              exact hg1.symm
            subst this
            exact hgr.block g1 (hz.lt g1 hg1).2 (fun e2 => hgb e2.symm)
      · exact ⟨zs, own_same hz fun g hg => hold g (hz.lt g hg).2⟩
    · exact ⟨zs, own_same hz fun g hg => hO.2 g (hz.lt g hg).2 (by rw [h.tag j hj g hg]; exact fun e => hjk (by injection e))⟩
  · exact retag_some h.lt (h.tag j hj g hg)
  · by_cases e : v'.ownBlock = some g ∧ g = w.heap.size
    · exact ⟨by omega, (hown'.lt g e.1).2⟩
    · unfold retag at hg
      rw [if_neg e] at hg
      exact ⟨(h.lt g hg).1, Nat.lt_of_lt_of_le (h.lt g hg).2 hO.1⟩
end

end Go.Proofs.YtjjaojnglnpgaaaGreatDoor

namespace Go.Proofs.YtjjaojnglnpgaaaGreatDoor
open Go.RowKit

section
variable {mk : Nat → Nat → Value} {E E2 : TypeId} {w wr w' : World} {LB GB K B : Nat} {vs : Nat → Value} {ns p : Nat → Nat} {T0 T : Nat → Option Nat} {xs : List Value} {J : Nat → Prop}
/-- the rows are marked; of the grown ones in J so much is known as p says -/
structure Fg (mk : Nat → Nat → Value) (E E2 : TypeId) (w : World) (LB GB K B : Nat) (vs : Nat → Value) (ns : Nat → Nat) (T0 T : Nat → Option Nat) (xs : List Value) (J : Nat → Prop) (p : Nat → Nat) (wr : World) : Prop where
  rows : RowsW mk E B K vs ns ns T wr
  tt : ∀ b, b < w.heap.size → T b = T0 b
  tg : T GB = none
  own : wr.ownsRow 0 E2 1 (.slice (some ⟨GB, 0, none⟩) K K) K xs
  gs : ∀ j, J j → ∃ v, xs[j]? = some v ∧ GsAt mk T wr v (ns j + 64) (p j) j
  ls : ∀ b, b < w.heap.size → T0 b = none → wr.heap[b]? = w.heap[b]?
  b : Below B w wr
  hB : B ≤ GB
  bw : B ≤ w.heap.size
  gl : w.heap.size ≤ GB
  lw : LB < w.heap.size
  t0 : T0 LB = none
theorem Fg.gb (h : Fg mk E E2 w LB GB K B vs ns T0 T xs J p wr) : GB < wr.heap.size := by
  have := h.own.lt GB rfl
  exact this.2
theorem Fg.lb (h : Fg mk E E2 w LB GB K B vs ns T0 T xs J p wr) : LB < wr.heap.size := Nat.lt_of_lt_of_le h.lw h.b.size
/-- what leaves the rows' blocks, and these two, as they are -/
theorem Fg.still (h : Fg mk E E2 w LB GB K B vs ns T0 T xs J p wr) (hs : wr.heap.size ≤ w'.heap.size) (hb : ∀ b, b < wr.heap.size → (T b ≠ none ∨ b < w.heap.size ∨ b = GB) → w'.heap[b]? = wr.heap[b]?) (hB : Below B wr w') : Fg mk E E2 w LB GB K B vs ns T0 T xs J p w' := by
  refine ⟨h.rows.still ⟨hs, fun b hb1 hb2 => hb b hb1 (.inl hb2)⟩, h.tt, h.tg, own_same h.own fun g hg => ?_, fun j hj => ?_, fun b hb1 h0 => (hb b (Nat.lt_of_lt_of_le hb1 h.b.size) (.inr (.inl hb1))).trans (h.ls b hb1 h0), h.b.trans hB, h.hB, h.bw, h.gl, h.lw, h.t0⟩
  · injection hg with hg
    subst hg
    exact hb GB h.gb (.inr (.inr rfl))
  · obtain ⟨v, h1, h2⟩ := h.gs j hj
    exact ⟨v, h1, h2.keep hs fun g hg ht => hb g hg (.inl (by rw [ht]; exact fun e => by cases e))⟩
theorem Fg.alloc (h : Fg mk E E2 w LB GB K B vs ns T0 T xs J p wr) (o : Obj) : Fg mk E E2 w LB GB K B vs ns T0 T xs J p (wr.alloc o) :=
  h.still (by simp) (fun b hb _ => heap_alloc_old wr o hb) ((below_alloc wr o).mono (Nat.le_trans h.bw h.b.size))
theorem Fg.drew (h : Fg mk E E2 w LB GB K B vs ns T0 T xs J p wr) : Fg mk E E2 w LB GB K B vs ns T0 T xs J p wr.drew := h.still (Nat.le_refl _) (fun _ _ _ => rfl) (Below.refl _ _).drew
theorem Fg.drewN (h : Fg mk E E2 w LB GB K B vs ns T0 T xs J p wr) (n : Nat) : Fg mk E E2 w LB GB K B vs ns T0 T xs J p (wr.drewN n) := h.still (Nat.le_refl _) (fun _ _ _ => rfl) ⟨rfl, rfl, rfl, Nat.le_refl _, fun _ _ => rfl⟩
theorem Fg.mono {J' : Nat → Prop} {p' : Nat → Nat} (h : Fg mk E E2 w LB GB K B vs ns T0 T xs J p wr) (hJ : ∀ j, J' j → J j ∧ p' j ≤ p j) : Fg mk E E2 w LB GB K B vs ns T0 T xs J' p' wr := by
  refine ⟨h.rows, h.tt, h.tg, h.own, fun j hj => ?_, h.ls, h.b, h.hB, h.bw, h.gl, h.lw, h.t0⟩
  obtain ⟨v, h1, h2⟩ := h.gs j (hJ j hj).1
  exact ⟨v, h1, h2.less (hJ j hj).2⟩
/-- an append to a row of tag k -/
theorem Fg.append {k n a : Nat} {v v' : Value} {ys news : List Value} (h : Fg mk E E2 w LB GB K B vs ns T0 T xs J p wr) (hk : k < K) (hJ : ∀ j, J j → j ≠ k) (hown : wr.ownsRow B E 1 v n ys) (hv : ∀ g, v.ownBlock = some g → T g = some k)
    (hown' : w'.ownsRow B E 1 v' (n + a) (ys ++ news)) (hgr : wr.grownBy w' v.ownBlock) (hw : Went wr w' v v' n a) (hmk : ys.take (ns k) = marksV mk k (ns k)) (hn : ns k ≤ n) :
    Fg mk E E2 w LB GB K B vs ns T0 (retag T wr v' k) xs J p w' ∧ ∀ g, v'.ownBlock = some g → retag T wr v' k g = some k := by
  have hBs := Nat.le_trans h.bw h.b.size
  have hl : ys.length = n := by have := hown.1; omega
  obtain ⟨hr, ht, hO, hBl⟩ := h.rows.append hBs hown hv hown' hgr hw (fun _ => ⟨Nat.le_refl _, [], .inl (by rw [List.append_nil, hmk])⟩) (fun _ => hn) hl
  refine ⟨⟨hr, ?_, ?_, own_same h.own fun g hg => ?_, fun j hj => ?_, fun b hb h0 => ?_, h.b.trans hBl, h.hB, h.bw, h.gl, h.lw, h.t0⟩, ht⟩
  · intro b hb; rw [retag_old (Nat.lt_of_lt_of_le hb h.b.size)]; exact h.tt b hb
  · rw [retag_old h.gb]; exact h.tg
  · injection hg with hg
    subst hg
    exact hO.2 _ h.gb (by show T GB ≠ _; rw [h.tg]; exact fun e => by cases e)
  · obtain ⟨v1, h1, h2⟩ := h.gs j hj
    refine ⟨v1, h1, (h2.keep hO.1 fun g hg hT => hO.2 g hg ?_).retag fun g hg => retag_some h.rows.lt hg⟩
    rw [hT]
    intro e
    injection e with e
    exact hJ j hj e
  · exact (hO.2 b (Nat.lt_of_lt_of_le hb h.b.size) (by show T b ≠ _; rw [h.tt b hb, h0]; exact fun e => by cases e)).trans (h.ls b hb h0)
/-- a grown row is put at its place -/
theorem Fg.put {q : Nat} {v : Value} {J' : Nat → Prop} {p' : Nat → Nat} (h : Fg mk E E2 w LB GB K B vs ns T0 T xs J p wr) (hq : q < K) (hg : GsAt mk T wr v (ns q + 64) (p' q) q) (hJ : ∀ j, J' j → j = q ∨ (j ≠ q ∧ J j ∧ p' j ≤ p j)) :
    Fg mk E E2 w LB GB K B vs ns T0 T (xs.set q v) J' p' (wr.setCell ⟨GB, q, none⟩ v) := by
  obtain ⟨hs, hgr⟩ := h.own.stored q v
  have hone : ∀ b, b ≠ GB → b < wr.heap.size → (wr.setCell ⟨GB, q, none⟩ v).heap[b]? = wr.heap[b]? := fun b hb hlt => hgr.block b hlt (fun e => hb (by injection e))
  have hTg : ∀ g, T g ≠ none → g ≠ GB := fun g hT e => hT (by rw [e]; exact h.tg)
  have hl : xs.length = K := by have := h.own.1; omega
  refine ⟨h.rows.still ⟨hgr.size, fun b hb hT => hone b (hTg b hT) hb⟩, h.tt, h.tg, hs, fun j hj => ?_, fun b hb h0 => (hone b (by have := h.gl; omega) (Nat.lt_of_lt_of_le hb h.b.size)).trans (h.ls b hb h0), h.b.trans ((Below.refl _ _).setCell (p := ⟨GB, q, none⟩) h.hB v), h.hB, h.bw, h.gl, h.lw, h.t0⟩
  rcases hJ j hj with e | ⟨hne, hJj, hp⟩
  · subst e
    exact ⟨v, by simp [hl, hq], hg.keep hgr.size fun g hlt hT => hone g (hTg g (by rw [hT]; exact fun e => by cases e)) hlt⟩
  · obtain ⟨v1, h1, h2⟩ := h.gs j hJj
    exact ⟨v1, by rw [List.getElem?_set_ne (Ne.symm hne)]; exact h1, (h2.less hp).keep hgr.size fun g hlt hT => hone g (hTg g (by rw [hT]; exact fun e => by cases e)) hlt⟩
/-- what the walk reads: the row's head -/
theorem Fg.head {j : Nat} {v : Value} (h : Fg mk E E2 w LB GB K B vs ns T0 T xs J p wr) (hc : w.cell? ⟨LB, j, none⟩ = some v) : wr.cell? ⟨LB, j, none⟩ = some v := (World.cell?_of_block (a := ⟨LB, j, none⟩) (h.ls LB h.lw h.t0)).trans hc
/-- and the grown row's -/
theorem Fg.grown {j : Nat} (h : Fg mk E E2 w LB GB K B vs ns T0 T xs J p wr) (hj : j < K) (hJ : J j) : ∃ g c, wr.cell? ⟨GB, j, none⟩ = some (.slice (some ⟨g, 0, none⟩) (ns j + 64) c) ∧ ns j + 64 ≤ c ∧ c ≤ 9223372036854775807 ∧ ∀ i, i < p j → wr.cell? ⟨g, i, none⟩ = some (mk j i) := by
  obtain ⟨v, h1, g, c, rfl, h2, h3, h4, h5, h6⟩ := h.gs j hJ
  exact ⟨g, c, by rw [h.own.cellAt j (by omega), h1], h2, h3, h6⟩
theorem Fg.place {j : Nat} (h : Fg mk E E2 w LB GB K B vs ns T0 T xs J p wr) (hj : j < K) : (∃ u, wr.cell? ⟨GB, j, none⟩ = some u) ∧ wr.frozen? ⟨GB, j, none⟩ = false := by
  have hl := h.own.1
  exact ⟨⟨_, by rw [h.own.cellAt j (by omega)]; exact List.getElem?_eq_getElem (by omega)⟩, h.own.frozenAt j⟩
end

end Go.Proofs.YtjjaojnglnpgaaaGreatDoor

namespace Go.Proofs.YtjjaojnglnpgaaaGreatDoor
open Go.RowKit

theorem markNum_any (a b : Int) (w : World) (ha : 0 ≤ a ∧ a ≤ 1099511627776) (hb : 0 ≤ b ∧ b ≤ 2199023255552) : Calls Tryz.prog 144 #[.int .i64 a, .int .i64 b] w fun e w' => e = .returned (.int .i64 (1000003 * (a + 7) + b)) ∧ w = w' := by
  obtain ⟨ha0, ha1⟩ := ha
  obtain ⟨hb0, hb1⟩ := hb
  go_enter Tryz.func144, Tryz.ntmps144
  go_wp2_with fail
  go_ret
  exact ⟨rfl, rfl⟩
def mbI (a b : Int) : Int := IntKind.u64.wrap ((1000003 * (a + 7) + b) * 11400714819323198485) / 72057594037927936 % 256
def mkB (j i : Nat) : Value := .int .u8 (mbI j i)
set_option maxRecDepth 100000 in
theorem markByte_any (a b : Int) (w : World) (ha : 0 ≤ a ∧ a ≤ 1099511627776) (hb : 0 ≤ b ∧ b ≤ 2199023255552) : Calls Tryz.prog 104 #[.int .i64 a, .int .i64 b] w fun e w' => e = .returned (.int .u8 (mbI a b)) ∧ w = w' := by
  go_enter Tryz.func104, Tryz.ntmps104
  go_wp2_with (go_at_call 144; refine (markNum_any a b w ha hb).mono ?_; rintro e w1 ⟨rfl, rfl⟩)
  go_ret
  exact ⟨rfl, rfl⟩

end Go.Proofs.YtjjaojnglnpgaaaGreatDoor
