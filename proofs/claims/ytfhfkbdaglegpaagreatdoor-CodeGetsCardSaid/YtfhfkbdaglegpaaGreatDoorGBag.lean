/- The bag of rows of rows (kit.bag): what lies in it; a row is put into it. Printed by gen_bag.py. -/
import Derived.Deep.CutBlock
import Derived.Deep.DeepCutAuto
import Derived.Test.YtfhfkbdaglegpaaGreatDoorGOwn
import Derived.Test.YtfhfkbdaglegpaaGreatDoorGFlatG

set_option linter.unusedVariables false
set_option linter.unusedSimpArgs false

namespace Go.Proofs.YtfhfkbdaglegpaaGreatDoor
open Go.RowKit

def tyB (j : Nat) : TypeId := ([168, 170, 27, 171, 23, 36, 172, 173, 178, 28, 182, 186, 191, 106, 49, 195, 199, 204, 210, 215, 221] : List TypeId)[j]?.getD 0
theorem tyB_ne : ∀ i, i < 21 → ∀ j, j < 21 → i ≠ j → tyB i ≠ tyB j := by decide
/-- a row of rows at a place of the bag -/
def Hd (w : World) (bb B j : Nat) (E : TypeId) (X : List Value) : Prop := ∃ v, w.cell? ⟨bb, j, none⟩ = some v ∧ (X = [] → v = .slice none 0 0) ∧ w.ownsRow B E 1 v X.length X
structure BagG (w : World) (bb B : Nat) (X : Nat → List Value) : Prop where
  hd : ∀ j, j < 21 → Hd w bb B j (tyB j) (X j)
  fz : ∀ j, w.frozen? ⟨bb, j, none⟩ = false
  lt : bb < B
  le : B ≤ w.heap.size
def addB (X : Nat → List Value) (j : Nat) (l : List Value) : Nat → List Value := fun i => if i = j then X i ++ l else X i
theorem addB_at (X : Nat → List Value) (j : Nat) (l : List Value) : addB X j l j = X j ++ l := by simp [addB]
theorem addB_ne (X : Nat → List Value) {i j : Nat} (l : List Value) (h : i ≠ j) : addB X j l i = X i := by simp [addB, h]
theorem addB_addB (X : Nat → List Value) (j : Nat) (l l' : List Value) : addB (addB X j l) j l' = addB X j (l ++ l') := by
  funext i
  by_cases h : i = j <;> simp [addB, h]
section
variable {w w' : World} {bb B j : Nat} {E : TypeId} {X : Nat → List Value}
theorem Hd.keep {X : List Value} (h : Hd w bb B j E X) (hc : w'.cell? ⟨bb, j, none⟩ = w.cell? ⟨bb, j, none⟩) (hk : ∀ g cur, B ≤ g → w.heap[g]? = some (.cells cur E (0, 0)) → w'.heap[g]? = w.heap[g]?) : Hd w' bb B j E X := by
  obtain ⟨v, h1, h0, h2⟩ := h
  refine ⟨v, hc.trans h1, h0, h2.1, ?_⟩
  rcases h2.2 with hn | ⟨g, cap, cur, rfl, hb, hgg, rest⟩
  · exact .inl hn
  · exact .inr ⟨g, cap, cur, rfl, hb, (hk g cur hb hgg).trans hgg, rest⟩
theorem own_type {e : TypeId} {size n g : Nat} {v : Value} {xs : List Value} {B : Nat} (h : w.ownsRow B e size v n xs) (hg : v.ownBlock = some g) : ∃ cur, w.heap[g]? = some (.cells cur e (0, 0)) := by
  rcases h.2 with ⟨rfl, _⟩ | ⟨g', cap, cur, rfl, hb, hgg, rest⟩
  · cases hg
  · injection hg with hg
    subst hg
    exact ⟨cur, hgg⟩
theorem BagG.bb_lt (h : BagG w bb B X) : bb < w.heap.size := Nat.lt_of_lt_of_le h.lt h.le
/-- nothing below the bag is turned, and nothing else that is no row of rows -/
def HK (bb : Nat) (w w' : World) : Prop := Below bb w w' ∧ ∀ b, b < w.heap.size → b ≠ bb → (∀ cur j, j < 21 → w.heap[b]? ≠ some (.cells cur (tyB j) (0, 0))) → w'.heap[b]? = w.heap[b]?
theorem HK.bel (h : HK bb w w') : Below bb w w' := h.1
theorem HK.refl (bb : Nat) (w : World) : HK bb w w := ⟨Below.refl _ _, fun _ _ _ _ => rfl⟩
theorem HK.trans {w'' : World} (h : HK bb w w') (h' : HK bb w' w'') : HK bb w w'' := by
  refine ⟨h.1.trans h'.1, fun b hb hne ht => ?_⟩
  have e := h.2 b hb hne ht
  exact (h'.2 b (Nat.lt_of_lt_of_le hb h.1.size) hne (by rw [e]; exact ht)).trans e
theorem HK.of_below (h : Below w.heap.size w w') (hb : bb ≤ w.heap.size) : HK bb w w' := ⟨h.mono hb, fun b hb _ _ => h.block b hb⟩
theorem HK.alloc (w : World) (o : Obj) (hb : bb ≤ w.heap.size) : HK bb w (w.alloc o) := HK.of_below (below_alloc w o) hb
/-- a row is put behind the others of its kind -/
theorem BagG.put {W w1 : World} {v v1 x : Value} (h : BagG w bb B X) (hj : j < 21) (hv : w.cell? ⟨bb, j, none⟩ = some v) (ha : ∀ b, b < w.heap.size → W.heap[b]? = w.heap[b]?) (hs : w.heap.size ≤ W.heap.size)
    (hown : w.ownsRow B (tyB j) 1 v (X j).length (X j)) (h1 : w1.ownsRow B (tyB j) 1 v1 ((X j).length + 1) (X j ++ [x])) (hg : W.grownBy w1 v.ownBlock) : BagG (w1.setCell ⟨bb, j, none⟩ v1) bb B (addB X j [x]) := by
  have hbl := h.bb_lt
  have hne : v.ownBlock ≠ some bb := fun e => by have := (hown.lt bb e).1; have := h.lt; omega
  have hblk : w1.heap[bb]? = w.heap[bb]? := (hg.block bb (by omega) (fun e => hne e.symm)).trans (ha bb hbl)
  have k0 : w1.cell? ⟨bb, j, none⟩ = some v := (World.cell?_of_block (a := ⟨bb, j, none⟩) hblk).trans hv
  have hne1 : v1.ownBlock ≠ some bb := fun e => by have := (h1.lt bb e).1; have := h.lt; omega
  have hset : ∀ k, k ≠ bb → (w1.setCell ⟨bb, j, none⟩ v1).heap[k]? = w1.heap[k]? := fun k hk => Below.heap_setCell _ _ _ k hk
  have hsz := hg.size
  refine ⟨fun i hi => ?_, fun i => ?_, h.lt, ?_⟩
  · by_cases e : i = j
    · subst e
      rw [addB_at]
      refine ⟨v1, World.cell?_setCell_same _ _ _ k0, fun e => by simp at e, ?_⟩
      rw [List.length_append]
      exact h1.kept (row := some bb) ⟨rfl, rfl, rfl, by simp [World.setCell], fun k _ hk => hset k (fun e => hk (by rw [e]))⟩ (.inr hne1)
    · rw [addB_ne X _ e]
      refine (h.hd i hi).keep ?_ fun g cur hgB hgc => ?_
      · rw [World.cell?_setCell_other _ _ _ _ (fun e2 => e (by injection e2 with _ e3; exact e3.symm))]
        exact World.cell?_of_block (a := ⟨bb, i, none⟩) hblk
      · have hgl : g < w.heap.size := (Array.getElem?_eq_some_iff.1 hgc).1
        have hb2 := h.lt
        rw [hset g (by omega), hg.block g (by omega) (fun e2 => ?_), ha g hgl]
        obtain ⟨cur2, hc2⟩ := own_type hown e2.symm
        rw [hgc] at hc2
        injection hc2 with hc2
        injection hc2 with _ hc2
        exact tyB_ne i hi j hj e hc2
  · rw [World.frozen?_setCell]
    exact (World.frozen?_of_block (a := ⟨bb, i, none⟩) hblk).trans (h.fz i)
  · simp only [World.setCell]
    have := h.le
    simp
    omega
theorem BagG.putK {W w1 : World} {v v1 : Value} (h : BagG w bb B X) (hj : j < 21) (ha : ∀ b, b < w.heap.size → W.heap[b]? = w.heap[b]?) (hW : Below bb w W)
    (hown : w.ownsRow B (tyB j) 1 v (X j).length (X j)) (hg : W.grownBy w1 v.ownBlock) : HK bb w (w1.setCell ⟨bb, j, none⟩ v1) := by
  have hbl := h.bb_lt
  refine ⟨(hW.trans ((Below.refl _ _).grown hg (Nat.le_trans (Nat.le_of_lt hbl) hW.size) fun k hk => by have := (hown.lt k hk).1; have := h.lt; omega)).setCell (p := ⟨bb, j, none⟩) (Nat.le_refl _) _, fun b hb hne ht => ?_⟩
  rw [Below.heap_setCell _ _ _ b hne, hg.block b (Nat.lt_of_lt_of_le hb hW.size) (fun e => ?_), ha b hb]
  obtain ⟨cur, hc⟩ := own_type hown e.symm
  exact ht cur j hj hc
/-- the rows of a bag in another world -/
theorem BagG.below (h : BagG w bb B X) (hB : Below w.heap.size w w') : BagG w' bb B X := by
  refine ⟨fun j hj => (h.hd j hj).keep (hB.cell (p := ⟨bb, j, none⟩) h.bb_lt) fun g cur _ hg => hB.block g (Array.getElem?_eq_some_iff.1 hg).1, fun j => (hB.frozen (p := ⟨bb, j, none⟩) h.bb_lt).trans (h.fz j), h.lt, Nat.le_trans h.le hB.size⟩
end

theorem InfoRIntsB : (Tryz.prog.info? 27).map (fun i => (i.zero, i.size, i.bytes)) = some (some (.slice none 0 0), 1, 24) := by kernel_rfl
set_option maxHeartbeats 4000000 in
set_option maxRecDepth 1000000 in
theorem putInts_bag {w : World} {bb B m c : Nat} {A : Option Addr} {X : Nat → List Value} (hb : BagG w bb B X) (hn : (X 2).length ≤ 1000000) :
    Calls Tryz.prog 170 #[.pointer (some ⟨bb, 0, none⟩), .slice A m c] w fun e w' => e = .returned (.tuple #[]) ∧ BagG w' bb B (addB X 2 [.slice A m c]) ∧ HK bb w w' := by
  obtain ⟨v, hv, _, hown⟩ := hb.hd 2 (by decide)
  obtain ⟨Av, cv, rfl⟩ := own_shape hown
  have HB := hide hb
  have Hown := hide hown
  have hf := hb.fz 2
  have hbl := hb.bb_lt
  clear hb hown
  go_enter Tryz.func170, Tryz.ntmps170
  go_wp2_with (at_builtin; refine wpList_row rfl _ _ 74 rfl B 27 Tryz.underlying74 InfoRIntsB rfl (by decide) _ (X 2).length (X 2) rfl (Hown.out.alloc _) (some ⟨w.heap.size, 0, none⟩) 1 1 [.slice A m c] rfl (by simp) rfl (fun ad e => by injection e with e; subst e; exact cell_one_new w _ _) (by simp [Value.oneCell']) (by unfold maxLen; omega) (by omega) (Nat.le_trans HB.out.le (by simp)) ?_)
  intro v1 w1 h1 hg1 hw1
  have hblk : w1.heap[bb]? = w.heap[bb]? := (hg1.block bb (by simp; omega) (fun e => by have := (Hown.out.lt bb e.symm).1; have := HB.out.lt; omega)).trans (heap_alloc_old w _ hbl)
  have k0 : w1.cell? ⟨bb, 2, none⟩ = some (.slice Av (X 2).length cv) := (World.cell?_of_block (a := ⟨bb, 2, none⟩) hblk).trans hv
  have k1 : w1.frozen? ⟨bb, 2, none⟩ = false := (World.frozen?_of_block (a := ⟨bb, 2, none⟩) hblk).trans hf
  have HB1 : Hid (HK bb w (w1.setCell ⟨bb, 2, none⟩ v1)) := hide (HB.out.putK (j := 2) (by decide) (fun b hb => heap_alloc_old w _ hb) ((below_alloc w _).mono (Nat.le_of_lt hbl)) Hown.out hg1)
  have HG := hide (HB.out.put (j := 2) (by decide) hv (fun b hb => heap_alloc_old w _ hb) (by simp) Hown.out h1 hg1)
  obtain ⟨A1, c1, rfl⟩ := own_shape h1
  clear h1 hg1 hw1 hblk hv hf HB Hown
  go_wp2
  go_end0
  exact ⟨rfl, HG.out, HB1.out⟩

theorem InfoRTextsB : (Tryz.prog.info? 23).map (fun i => (i.zero, i.size, i.bytes)) = some (some (.slice none 0 0), 1, 24) := by kernel_rfl
set_option maxHeartbeats 4000000 in
set_option maxRecDepth 1000000 in
theorem putTexts_bag {w : World} {bb B m c : Nat} {A : Option Addr} {X : Nat → List Value} (hb : BagG w bb B X) (hn : (X 4).length ≤ 1000000) :
    Calls Tryz.prog 169 #[.pointer (some ⟨bb, 0, none⟩), .slice A m c] w fun e w' => e = .returned (.tuple #[]) ∧ BagG w' bb B (addB X 4 [.slice A m c]) ∧ HK bb w w' := by
  obtain ⟨v, hv, _, hown⟩ := hb.hd 4 (by decide)
  obtain ⟨Av, cv, rfl⟩ := own_shape hown
  have HB := hide hb
  have Hown := hide hown
  have hf := hb.fz 4
  have hbl := hb.bb_lt
  clear hb hown
  go_enter Tryz.func169, Tryz.ntmps169
  go_wp2_with (at_builtin; refine wpList_row rfl _ _ 76 rfl B 23 Tryz.underlying76 InfoRTextsB rfl (by decide) _ (X 4).length (X 4) rfl (Hown.out.alloc _) (some ⟨w.heap.size, 0, none⟩) 1 1 [.slice A m c] rfl (by simp) rfl (fun ad e => by injection e with e; subst e; exact cell_one_new w _ _) (by simp [Value.oneCell']) (by unfold maxLen; omega) (by omega) (Nat.le_trans HB.out.le (by simp)) ?_)
  intro v1 w1 h1 hg1 hw1
  have hblk : w1.heap[bb]? = w.heap[bb]? := (hg1.block bb (by simp; omega) (fun e => by have := (Hown.out.lt bb e.symm).1; have := HB.out.lt; omega)).trans (heap_alloc_old w _ hbl)
  have k0 : w1.cell? ⟨bb, 4, none⟩ = some (.slice Av (X 4).length cv) := (World.cell?_of_block (a := ⟨bb, 4, none⟩) hblk).trans hv
  have k1 : w1.frozen? ⟨bb, 4, none⟩ = false := (World.frozen?_of_block (a := ⟨bb, 4, none⟩) hblk).trans hf
  have HB1 : Hid (HK bb w (w1.setCell ⟨bb, 4, none⟩ v1)) := hide (HB.out.putK (j := 4) (by decide) (fun b hb => heap_alloc_old w _ hb) ((below_alloc w _).mono (Nat.le_of_lt hbl)) Hown.out hg1)
  have HG := hide (HB.out.put (j := 4) (by decide) hv (fun b hb => heap_alloc_old w _ hb) (by simp) Hown.out h1 hg1)
  obtain ⟨A1, c1, rfl⟩ := own_shape h1
  clear h1 hg1 hw1 hblk hv hf HB Hown
  go_wp2
  go_end0
  exact ⟨rfl, HG.out, HB1.out⟩

end Go.Proofs.YtfhfkbdaglegpaaGreatDoor

namespace Go.Proofs.YtfhfkbdaglegpaaGreatDoor
open Go.RowKit

theorem Fo.cnt_drop : ∀ (f : Fo) (i : Nat) {k : Nat} {t : ByteArray} {n : Int} {ks r : Fo}, f.drop i = .cons k t n ks r → ks.cnt < f.cnt ∧ r = f.drop (i + 1) := by
  intro f
  induction f with
  | nil => intro i k t n ks r h; cases i <;> cases h
  | cons k' t' n' ks' r' _ ih =>
    intro i k t n ks r h
    cases i with
    | zero => cases h; exact ⟨by simp only [Fo.cnt]; omega, rfl⟩
    | succ i =>
      obtain ⟨h1, h2⟩ := ih i h
      exact ⟨by simp only [Fo.cnt]; omega, h2⟩
/-- the node at a place of an own row, and the rest -/
theorem FoR.step {w : World} {f : Fo} {vs : List Value} {R : List (Value × Nat)} {i : Nat} (h : FoR w (vs.drop (i * 4)) (f.drop i) R) (hi : i < f.len) : ∃ k t n ks KA c ys R1 R2, f.drop i = .cons k t n ks (f.drop (i + 1)) ∧ ks.cnt < f.cnt ∧
    vs[i * 4]? = some (.int .u8 k) ∧ vs[i * 4 + 1]? = some (.string t) ∧ vs[i * 4 + 2]? = some (.int .i64 n) ∧ vs[i * 4 + 3]? = some (.slice KA ks.len c) ∧
    w.ownsRow 0 55 4 (.slice KA ks.len c) ks.len ys ∧ FoR w ys ks R1 ∧ FoR w (vs.drop ((i + 1) * 4)) (f.drop (i + 1)) R2 ∧ R = (.slice KA ks.len c, ks.len) :: (R1 ++ R2) := by
  match hd : f.drop i with
  | .nil =>
    have := Fo.len_drop f i
    rw [hd] at this
    simp [Fo.len] at this
    omega
  | .cons k t n ks r =>
    rw [hd] at h
    obtain ⟨h1, h2⟩ := Fo.cnt_drop f i hd
    obtain ⟨KA, c, vs', ys, R1, R2, e, _, h4, h5, h6, h7⟩ := h
    have g : ∀ j, vs[i * 4 + j]? = (vs.drop (i * 4))[j]? := fun j => by rw [List.getElem?_drop]
    have e2 : vs.drop ((i + 1) * 4) = vs' := by
      rw [Nat.succ_mul, ← List.drop_drop, e]
      rfl
    subst h2
    refine ⟨k, t, n, ks, KA, c, ys, R1, R2, rfl, h1, ?_, ?_, ?_, ?_, h4, h5, by rw [e2]; exact h6, h7⟩
    · rw [← Nat.add_zero (i * 4), g 0, e]; rfl
    · rw [g 1, e]; rfl
    · rw [g 2, e]; rfl
    · rw [g 3, e]; rfl
theorem obs_fst (R : List (Value × Nat)) : R.flatMap (fun r => ob r.1) = (R.map Prod.fst).flatMap ob := by simp [List.flatMap_map]
theorem InfoRNodesB : (Tryz.prog.info? 28).map (fun i => (i.zero, i.size, i.bytes)) = some (some (.slice none 0 0), 1, 24) := by kernel_rfl
abbrev PutN (bb B : Nat) (w : World) (X : Nat → List Value) (A : Option Addr) (c : Nat) (f : Fo) (R : List (Value × Nat)) : Prop :=
  Calls Tryz.prog 171 #[.pointer (some ⟨bb, 0, none⟩), .slice A f.len c] w fun e w' => e = .returned (.tuple #[]) ∧ BagG w' bb B (addB X 9 (.slice A f.len c :: R.map Prod.fst)) ∧ HK bb w w'
theorem own_low {e size n : Nat} {v : Value} {xs : List Value} {w w' : World} {bb : Nat} (h : w.ownsRow 0 e size v n xs) (hl : ∀ b ∈ ob v, b < bb) (hB : Below bb w w') : w'.ownsRow 0 e size v n xs := own_kept h fun b hb => hB.block b (hl b hb)
theorem FoR.low {f : Fo} {vs : List Value} {R : List (Value × Nat)} {w w' : World} {bb : Nat} (h : FoR w vs f R) (hl : ∀ b ∈ obs R, b < bb) (hB : Below bb w w') : FoR w' vs f R := h.keep fun b hb => hB.block b (hl b hb)
set_option maxHeartbeats 4000000 in
set_option maxRecDepth 1000000 in
theorem putNodes_of {w : World} {bb B m c : Nat} {A : Option Addr} {X : Nat → List Value} {f : Fo} {vs : List Value} {R : List (Value × Nat)} (hm : f.len = m)
    (ih : ∀ (w' : World) (X' : Nat → List Value) (A' : Option Addr) (c' : Nat) (f' : Fo) (ys : List Value) (R' : List (Value × Nat)), f'.cnt < f.cnt → BagG w' bb B X' → (X' 9).length + R'.length ≤ 1000000 → w'.ownsRow 0 55 4 (.slice A' f'.len c') f'.len ys → FoR w' ys f' R' → (∀ b ∈ ob (.slice A' f'.len c') ++ obs R', b < bb) → PutN bb B w' X' A' c' f' R')
    (hb : BagG w bb B X) (hn : (X 9).length + R.length ≤ 1000000) (ho : w.ownsRow 0 55 4 (.slice A m c) m vs) (hf : FoR w vs f R) (hlow : ∀ b ∈ ob (.slice A m c) ++ obs R, b < bb) :
    Calls Tryz.prog 171 #[.pointer (some ⟨bb, 0, none⟩), .slice A m c] w fun e w' => e = .returned (.tuple #[]) ∧ BagG w' bb B (addB X 9 (.slice A m c :: R.map Prod.fst)) ∧ HK bb w w' := by
  have Ho := hide ho
  have Hf := hide hf
  have Hlow := hide hlow
  have Ih := hide ih
  have hmc := own_room ho rfl
  clear ih ho hf hlow
  obtain ⟨v, hv, _, hown⟩ := hb.hd 9 (by decide)
  obtain ⟨Av, cv, rfl⟩ := own_shape hown
  have HB := hide hb
  have Hown := hide hown
  have hf := hb.fz 9
  have hbl := hb.bb_lt
  clear hb hown
  go_enter Tryz.func171, Tryz.ntmps171
  go_wp2_with (at_builtin; refine wpList_row rfl _ _ 80 rfl B 28 Tryz.underlying80 InfoRNodesB rfl (by decide) _ (X 9).length (X 9) rfl (Hown.out.alloc _) (some ⟨w.heap.size, 0, none⟩) 1 1 [.slice A m c] rfl (by simp) rfl (fun ad e => by injection e with e; subst e; exact cell_one_new w _ _) (by simp [Value.oneCell']) (by unfold maxLen; omega) (by omega) (Nat.le_trans HB.out.le (by simp)) ?_)
  intro v1 w1 h1 hg1 hw1
  have hblk : w1.heap[bb]? = w.heap[bb]? := (hg1.block bb (by simp; omega) (fun e => by have := (Hown.out.lt bb e.symm).1; have := HB.out.lt; omega)).trans (heap_alloc_old w _ hbl)
  have k0 : w1.cell? ⟨bb, 9, none⟩ = some (.slice Av (X 9).length cv) := (World.cell?_of_block (a := ⟨bb, 9, none⟩) hblk).trans hv
  have k1 : w1.frozen? ⟨bb, 9, none⟩ = false := (World.frozen?_of_block (a := ⟨bb, 9, none⟩) hblk).trans hf
  have HB1 : Hid (HK bb w (w1.setCell ⟨bb, 9, none⟩ v1)) := hide (HB.out.putK (j := 9) (by decide) (fun b hb => heap_alloc_old w _ hb) ((below_alloc w _).mono (Nat.le_of_lt hbl)) Hown.out hg1)
  have HG := hide (HB.out.put (j := 9) (by decide) hv (fun b hb => heap_alloc_old w _ hb) (by simp) Hown.out h1 hg1)
  obtain ⟨A1, c1, rfl⟩ := own_shape h1
  clear h1 hg1 hw1 hblk hv hf HB Hown
  go_wp2_with fail
  go_loopg [4] m (fun g i wx => ∃ (q : Nat) (Rd Rr : List (Value × Nat)), q ≤ m ∧ g = m - q ∧ i = .int .i64 q ∧ Hid (R = Rd ++ Rr) ∧ Hid (FoR w (vs.drop (q * 4)) (f.drop q) Rr) ∧ Hid (BagG wx bb B (addB X 9 (.slice A m c :: Rd.map Prod.fst))) ∧ Hid (HK bb w wx))
  case atStart => exact ⟨0, [], R, by omega, by omega, rfl, hide rfl, hide (by simpa [Fo.drop] using Hf.out), HG, HB1⟩
  case round =>
  clear HG HB1 k0 k1
  obtain ⟨q, Rd, Rr, hq, hg, rfl, HR, HFq, HG, HB⟩ := hrel
  by_cases hlt : q < m
  · obtain ⟨k, t, n, ks, KA, kc, ys, R1, R2, hd, hcnt, g0, g1, g2, g3, h4, h5, h6, h7⟩ := HFq.out.step (by omega)
    have HO2 := Ho.out
    obtain ⟨gb, rfl⟩ : ∃ g, A = some ⟨g, 0, none⟩ := by
      rcases HO2.2 with ⟨_, h0⟩ | ⟨g, cap, cur, e, _⟩
      · omega
      · injection e with e; exact ⟨g, e⟩
    have hgl : gb < bb := Hlow.out gb (by simp [ob, Value.ownBlock])
    have hcell : ∀ j u, vs[j]? = some u → wr.cell? ⟨gb, j, none⟩ = some u := fun j u hu => by
      have h1 := HO2.cells (g := gb) rfl j u hu
      rw [Addr.add_lit, Nat.zero_add] at h1
      exact (World.cell?_of_block (a := ⟨gb, j, none⟩) (HB.out.1.block gb hgl)).trans h1
    have x0 := hcell _ _ g0
    have x1 := hcell _ _ g1
    have x2 := hcell _ _ g2
    have x3 := hcell _ _ g3
    have hlb : ∀ b ∈ ob (.slice KA ks.len kc) ++ obs R1, b < bb := fun b hb => Hlow.out b (by
      rw [HR.out, h7, obs_app, obs_cons, obs_app]
      simp only [List.mem_append] at hb ⊢
      rcases hb with hb | hb
      · exact .inr (.inr (.inl hb))
      · exact .inr (.inr (.inr (.inl hb))))
    have hlen : Rd.length + (1 + R1.length + R2.length) = R.length := by rw [HR.out, h7]; simp; omega
    have HC : Hid (∀ (o : Obj), PutN bb B (wr.alloc o) (addB X 9 (.slice (some ⟨gb, 0, none⟩) m c :: Rd.map Prod.fst)) KA kc ks R1) := hide fun o =>
      Ih.out _ _ _ _ _ ys _ hcnt (HG.out.below (below_alloc wr o)) (by rw [addB_at]; simp; omega) (own_low h4 (fun b hb => hlb b (by simp [hb])) (HB.out.1.trans ((below_alloc wr o).mono (by have := HG.out.bb_lt; omega)))) (h5.low (fun b hb => hlb b (by simp [hb])) (HB.out.1.trans ((below_alloc wr o).mono (by have := HG.out.bb_lt; omega)))) hlb
    have hone : Hid (Calls Tryz.prog 180 #[.pointer (some ⟨bb, 0, none⟩), .agg #[.int .u8 k, .string t, .int .i64 n, .slice KA ks.len kc]] wr fun e w' => e = .returned (.tuple #[]) ∧ BagG w' bb B (addB X 9 (.slice (some ⟨gb, 0, none⟩) m c :: (Rd.map Prod.fst ++ .slice KA ks.len kc :: R1.map Prod.fst))) ∧ HK bb wr w') := hide (by
      have hbw := HG.out.bb_lt
      clear hcell x0 x1 x2 x3 g0 g1 g2 g3 h4 h5 h6 hlb hd
      go_enter Tryz.func180, Tryz.ntmps180
      go_wp2_with (go_at_call 171; (with_reducible refine (HC.out _).mono ?_); rintro e1 w1 ⟨rfl, hG1, hB1⟩)
      go_end0
      exact ⟨rfl, by rw [addB_addB] at hG1; simpa using hG1, (HK.alloc wr _ (Nat.le_of_lt hbw)).trans hB1⟩)
    have h7' := hide h7
    have h6' := hide h6
    clear h4 h5 h6 h7 hcell g0 g1 g2 g3 hd HC HO2
    go_wp2_with (go_at_call 180; (with_reducible refine hone.out.mono ?_); rintro e1 w1 ⟨rfl, hG1, hB1⟩)
    go_roundg (m - (q + 1))
    case measure => omega
    case rel => exact ⟨q + 1, Rd ++ (.slice KA ks.len kc, ks.len) :: R1, R2, by omega, rfl, by go_num, hide (by rw [HR.out, h7'.out]; simp), h6', hide (by simpa using hG1), hide (HB.out.trans hB1)⟩
  · go_wp2_with fail
    go_end0
    have hqm : q = f.len := by omega
    have h0 := HFq.out
    rw [Fo.drop_len f q (by omega)] at h0
    have hR : R = Rd := by rw [HR.out, h0.2, List.append_nil]
    exact ⟨rfl, by rw [hR]; exact HG.out, HB.out⟩
theorem putNodes_upto (n : Nat) : ∀ (w : World) (X : Nat → List Value) (bb B : Nat) (A : Option Addr) (c : Nat) (f : Fo) (vs : List Value) (R : List (Value × Nat)), f.cnt < n → BagG w bb B X → (X 9).length + R.length ≤ 1000000 → w.ownsRow 0 55 4 (.slice A f.len c) f.len vs → FoR w vs f R → (∀ b ∈ ob (.slice A f.len c) ++ obs R, b < bb) → PutN bb B w X A c f R := by
  induction n with
  | zero => intro w X bb B A c f vs R h; omega
  | succ n ih =>
    intro w X bb B A c f vs R h hb hn ho hf hl
    exact putNodes_of rfl (fun w' X' A' c' f' ys R' hc hb' hn' ho' hf' hl' => ih w' X' bb B A' c' f' ys R' (by omega) hb' hn' ho' hf' hl') hb hn ho hf hl
theorem putNodes_any {w : World} {bb B c : Nat} {A : Option Addr} {X : Nat → List Value} {f : Fo} {vs : List Value} {R : List (Value × Nat)} (hb : BagG w bb B X) (hn : (X 9).length + R.length ≤ 1000000) (ho : w.ownsRow 0 55 4 (.slice A f.len c) f.len vs) (hf : FoR w vs f R) (hlow : ∀ b ∈ ob (.slice A f.len c) ++ obs R, b < bb) :
    PutN bb B w X A c f R := putNodes_upto (f.cnt + 1) w X bb B A c f vs R (by omega) hb hn ho hf hlow

end Go.Proofs.YtfhfkbdaglegpaaGreatDoor

namespace Go.Proofs.YtfhfkbdaglegpaaGreatDoor
open Go.RowKit

def addAll (X F : Nat → List Value) : Nat → List Value := fun j => X j ++ F j
theorem addB_all (X : Nat → List Value) (j : Nat) (l : List Value) : addB X j l = addAll X (fun i => if i = j then l else []) := by
  funext i
  by_cases h : i = j <;> simp [addB, addAll, h]
theorem addAll_all (X F G : Nat → List Value) : addAll (addAll X F) G = addAll X (fun j => F j ++ G j) := by funext j; simp [addAll]
/-- a patch in memory, with what is known of its rows of nodes -/
structure PIt where
  x : Ph
  p : Pt
  vo : List Value
  Ro : List (Value × Nat)
  vn : List Value
  Rn : List (Value × Nat)
def PIt.cells (it : PIt) : List Value := [.int .u8 it.p.kind, .string it.p.file, .string it.p.text, .int .i64 it.p.hunk.at_, .slice it.x.h.oA it.p.hunk.old.length it.x.h.oc, .slice it.x.h.nA it.p.hunk.new.length it.x.h.nc, .int .u8 it.p.edit.kind, .slice it.x.e.pA it.p.edit.path.length it.x.e.pc, .int .i64 it.p.edit.at_, .int .i64 it.p.edit.far, .string it.p.edit.frm, .string it.p.edit.to, .slice it.x.e.oA it.p.edit.old.len it.x.e.oc, .slice it.x.e.nA it.p.edit.new.len it.x.e.nc]
def PIt.rows (it : PIt) (j : Nat) : List Value :=
  if j = 2 then [.slice it.x.e.pA it.p.edit.path.length it.x.e.pc] else if j = 4 then [.slice it.x.h.oA it.p.hunk.old.length it.x.h.oc, .slice it.x.h.nA it.p.hunk.new.length it.x.h.nc] else if j = 9 then (.slice it.x.e.oA it.p.edit.old.len it.x.e.oc :: it.Ro.map Prod.fst) ++ (.slice it.x.e.nA it.p.edit.new.len it.x.e.nc :: it.Rn.map Prod.fst) else []
structure PIt.ok (it : PIt) (w : World) (bb : Nat) : Prop where
  old : w.ownsRow 0 55 4 (.slice it.x.e.oA it.p.edit.old.len it.x.e.oc) it.p.edit.old.len it.vo
  oldR : FoR w it.vo it.p.edit.old it.Ro
  new : w.ownsRow 0 55 4 (.slice it.x.e.nA it.p.edit.new.len it.x.e.nc) it.p.edit.new.len it.vn
  newR : FoR w it.vn it.p.edit.new it.Rn
  oldL : ∀ b ∈ ob (.slice it.x.e.oA it.p.edit.old.len it.x.e.oc) ++ obs it.Ro, b < bb
  newL : ∀ b ∈ ob (.slice it.x.e.nA it.p.edit.new.len it.x.e.nc) ++ obs it.Rn, b < bb
theorem PIt.ok.below {it : PIt} {w w' : World} {bb : Nat} (h : it.ok w bb) (hB : Below bb w w') : it.ok w' bb :=
  ⟨own_low h.old (fun b hb => h.oldL b (by simp [hb])) hB, h.oldR.low (fun b hb => h.oldL b (by simp [hb])) hB, own_low h.new (fun b hb => h.newL b (by simp [hb])) hB, h.newR.low (fun b hb => h.newL b (by simp [hb])) hB, h.oldL, h.newL⟩
theorem flatMap_at {α : Type} {s : Nat} (f : α → List Value) (hs : ∀ a, (f a).length = s) : ∀ {l : List α} {q : Nat} {a : α}, l[q]? = some a → ∀ t, t < s → (l.flatMap f)[q * s + t]? = (f a)[t]?
  | b :: l, 0, a, h, t, ht => by
    injection h with h
    subst h
    rw [List.flatMap_cons, Nat.zero_mul, Nat.zero_add, List.getElem?_append_left (by rw [hs]; exact ht)]
  | b :: l, q + 1, a, h, t, ht => by
    rw [List.flatMap_cons, List.getElem?_append_right (by rw [hs, Nat.succ_mul]; omega), hs, show (q + 1) * s + t - s = q * s + t by rw [Nat.succ_mul]; omega]
    exact flatMap_at f hs (by simpa using h) t ht
theorem take_succ_at {α : Type} {l : List α} {q : Nat} {a : α} (h : l[q]? = some a) : l.take (q + 1) = l.take q ++ [a] := by
  rw [List.take_add_one, h]
  rfl
theorem flatMap_part {α : Type} (f : α → List Value) {l : List α} {q : Nat} {a : α} (h : l[q]? = some a) : ((l.take q).flatMap f).length + (f a).length ≤ (l.flatMap f).length := by
  have e := congrArg (fun x => (List.flatMap f x).length) (List.take_append_drop (q + 1) l)
  simp only [List.flatMap_append, List.length_append, take_succ_at h, List.flatMap_cons, List.flatMap_nil, List.append_nil] at e
  omega
theorem box_kept {bb : Nat} {w w' : World} {cs : Array Value} {T : TypeId} (h : HK bb (w.alloc (.cells cs T)) w') (hb : bb < w.heap.size) (hT : ∀ j, j < 21 → tyB j ≠ T) : w'.heap[w.heap.size]? = some (.cells cs T) := by
  rw [h.2 w.heap.size (by simp) (by omega) fun cur j hj e => ?_]
  · exact heap_alloc_new w _
  · rw [heap_alloc_new w _] at e
    injection e with e
    injection e with _ e
    exact hT j hj e.symm
theorem tyB_far : ∀ j, j < 21 → tyB j ≠ 25 ∧ tyB j ≠ 30 ∧ tyB j ≠ 32 := by decide

set_option maxHeartbeats 4000000 in
set_option maxRecDepth 1000000 in
theorem oneHunk_bag {w : World} {bb B : Nat} {X : Nat → List Value} {it : PIt} (hb : BagG w bb B X) (hn : (X 4).length + 2 ≤ 1000000) :
    Calls Tryz.prog 152 #[.pointer (some ⟨bb, 0, none⟩), .agg #[.int .i64 it.p.hunk.at_, .slice it.x.h.oA it.p.hunk.old.length it.x.h.oc, .slice it.x.h.nA it.p.hunk.new.length it.x.h.nc]] w fun e w' => e = .returned (.tuple #[]) ∧ BagG w' bb B (addB X 4 [.slice it.x.h.oA it.p.hunk.old.length it.x.h.oc, .slice it.x.h.nA it.p.hunk.new.length it.x.h.nc]) ∧ HK bb w w' := by
  have hbl := hb.bb_lt
  have C1 : Hid (∀ o, Calls Tryz.prog 169 #[.pointer (some ⟨bb, 0, none⟩), .slice it.x.h.oA it.p.hunk.old.length it.x.h.oc] (w.alloc o) fun e w' => e = .returned (.tuple #[]) ∧ BagG w' bb B (addB X 4 [.slice it.x.h.oA it.p.hunk.old.length it.x.h.oc]) ∧ HK bb (w.alloc o) w') := hide fun o => putTexts_bag (hb.below (below_alloc w o)) (by omega)
  have C2 : Hid (∀ W, BagG W bb B (addB X 4 [.slice it.x.h.oA it.p.hunk.old.length it.x.h.oc]) → Calls Tryz.prog 169 #[.pointer (some ⟨bb, 0, none⟩), .slice it.x.h.nA it.p.hunk.new.length it.x.h.nc] W fun e w' => e = .returned (.tuple #[]) ∧ BagG w' bb B (addB (addB X 4 [.slice it.x.h.oA it.p.hunk.old.length it.x.h.oc]) 4 [.slice it.x.h.nA it.p.hunk.new.length it.x.h.nc]) ∧ HK bb W w') := hide fun W hW => putTexts_bag hW (by rw [addB_at]; simp; omega)
  clear hb
  go_enter Tryz.func152, Tryz.ntmps152
  go_wp2_with (first
    | (go_at_call 169; (with_reducible refine (C1.out _).mono ?_); rintro e1 w1 ⟨rfl, hG, hK⟩; have hx := Lib.cell_of_heap (box_kept hK hbl fun j hj => (tyB_far j hj).1); have x2 := hx 2; simp only [List.getElem?_toArray, List.getElem?_cons_zero, List.getElem?_cons_succ] at x2; clear hx; have HG1 := hide hG; have HK1 := hide ((HK.alloc w _ (Nat.le_of_lt hbl)).trans hK); clear hG hK)
    | (go_at_call 169; (with_reducible refine (C2.out _ HG1.out).mono ?_); rintro e2 w2 ⟨rfl, hG, hK⟩; have HG2 := hide hG; have HK2 := hide (HK1.out.trans hK); clear hG hK))
  go_end0
  exact ⟨rfl, by have := HG2.out; rwa [addB_addB] at this, HK2.out⟩

set_option maxHeartbeats 4000000 in
set_option maxRecDepth 1000000 in
theorem oneEdit_bag {w : World} {bb B : Nat} {X : Nat → List Value} {it : PIt} (hb : BagG w bb B X) (hi : it.ok w bb) (hn2 : (X 2).length + 1 ≤ 1000000) (hn9 : (X 9).length + (it.Ro.length + it.Rn.length + 2) ≤ 1000000) :
    Calls Tryz.prog 153 #[.pointer (some ⟨bb, 0, none⟩), .agg #[.int .u8 it.p.edit.kind, .slice it.x.e.pA it.p.edit.path.length it.x.e.pc, .int .i64 it.p.edit.at_, .int .i64 it.p.edit.far, .string it.p.edit.frm, .string it.p.edit.to, .slice it.x.e.oA it.p.edit.old.len it.x.e.oc, .slice it.x.e.nA it.p.edit.new.len it.x.e.nc]] w fun e w' => e = .returned (.tuple #[]) ∧ BagG w' bb B (addB (addB X 2 [.slice it.x.e.pA it.p.edit.path.length it.x.e.pc]) 9 ((.slice it.x.e.oA it.p.edit.old.len it.x.e.oc :: it.Ro.map Prod.fst) ++ (.slice it.x.e.nA it.p.edit.new.len it.x.e.nc :: it.Rn.map Prod.fst))) ∧ HK bb w w' := by
  have hbl := hb.bb_lt
  have Hi := hide hi
  have C1 : Hid (∀ o, Calls Tryz.prog 170 #[.pointer (some ⟨bb, 0, none⟩), .slice it.x.e.pA it.p.edit.path.length it.x.e.pc] (w.alloc o) fun e w' => e = .returned (.tuple #[]) ∧ BagG w' bb B (addB X 2 [.slice it.x.e.pA it.p.edit.path.length it.x.e.pc]) ∧ HK bb (w.alloc o) w') := hide fun o => putInts_bag (hb.below (below_alloc w o)) (by omega)
  have C2 : Hid (∀ W, BagG W bb B (addB X 2 [.slice it.x.e.pA it.p.edit.path.length it.x.e.pc]) → Below bb w W → PutN bb B W (addB X 2 [.slice it.x.e.pA it.p.edit.path.length it.x.e.pc]) it.x.e.oA it.x.e.oc it.p.edit.old it.Ro) := hide fun W hW hB => putNodes_any hW (by rw [addB_ne _ _ (by decide)]; omega) (Hi.out.below hB).old (Hi.out.below hB).oldR Hi.out.oldL
  have C3 : Hid (∀ W, BagG W bb B (addB (addB X 2 [.slice it.x.e.pA it.p.edit.path.length it.x.e.pc]) 9 (.slice it.x.e.oA it.p.edit.old.len it.x.e.oc :: it.Ro.map Prod.fst)) → Below bb w W → PutN bb B W (addB (addB X 2 [.slice it.x.e.pA it.p.edit.path.length it.x.e.pc]) 9 (.slice it.x.e.oA it.p.edit.old.len it.x.e.oc :: it.Ro.map Prod.fst)) it.x.e.nA it.x.e.nc it.p.edit.new it.Rn) := hide fun W hW hB => putNodes_any hW (by rw [addB_at, addB_ne _ _ (by decide)]; simp; omega) (Hi.out.below hB).new (Hi.out.below hB).newR Hi.out.newL
  clear hb hi
  go_enter Tryz.func153, Tryz.ntmps153
  go_wp2_with (first
    | (go_at_call 170; (with_reducible refine (C1.out _).mono ?_); rintro e1 w1 ⟨rfl, hG, hK⟩; have hbx := box_kept hK hbl fun j hj => (tyB_far j hj).2.1; have hx := Lib.cell_of_heap hbx; have x6 := hx 6; have x7 := hx 7; simp only [List.getElem?_toArray, List.getElem?_cons_zero, List.getElem?_cons_succ] at x6 x7; clear hx; have HX := hide hbx; have HG1 := hide hG; have HK1 := hide ((HK.alloc w _ (Nat.le_of_lt hbl)).trans hK); have hsz1 := hK.1.size; clear hG hK hbx)
    | (go_at_call 171; (with_reducible refine (C2.out _ HG1.out HK1.out.bel).mono ?_); rintro e2 w2 ⟨rfl, hG, hK⟩; have hbx := (hK.2 w.heap.size (by simp at hsz1; omega) (by omega) (fun cur j hj e => by rw [HX.out] at e; injection e with e; injection e with _ e; exact (tyB_far j hj).2.1 e.symm)).trans HX.out; have hx := Lib.cell_of_heap hbx; have y7 := hx 7; simp only [List.getElem?_toArray, List.getElem?_cons_zero, List.getElem?_cons_succ] at y7; clear hx hbx; have HG2 := hide hG; have HK2 := hide (HK1.out.trans hK); clear hG hK)
    | (go_at_call 171; (with_reducible refine (C3.out _ HG2.out HK2.out.bel).mono ?_); rintro e3 w3 ⟨rfl, hG, hK⟩; have HG3 := hide hG; have HK3 := hide (HK2.out.trans hK); clear hG hK))
  go_end0
  exact ⟨rfl, by have := HG3.out; rwa [addB_addB] at this, HK3.out⟩

theorem PIt.rows_eq (X : Nat → List Value) (it : PIt) : addB (addB (addB X 4 [.slice it.x.h.oA it.p.hunk.old.length it.x.h.oc, .slice it.x.h.nA it.p.hunk.new.length it.x.h.nc]) 2 [.slice it.x.e.pA it.p.edit.path.length it.x.e.pc]) 9 ((.slice it.x.e.oA it.p.edit.old.len it.x.e.oc :: it.Ro.map Prod.fst) ++ (.slice it.x.e.nA it.p.edit.new.len it.x.e.nc :: it.Rn.map Prod.fst)) = addAll X it.rows := by
  funext j
  simp only [addB, addAll, PIt.rows]
  by_cases h2 : j = 2
  · subst h2; simp
  · by_cases h4 : j = 4
    · subst h4; simp
    · by_cases h9 : j = 9
      · subst h9; simp
      · simp [h2, h4, h9]
set_option maxHeartbeats 4000000 in
set_option maxRecDepth 1000000 in
theorem onePatch_bag {w : World} {bb B : Nat} {X : Nat → List Value} {it : PIt} (hb : BagG w bb B X) (hi : it.ok w bb) (hn : ∀ j, (X j).length + (it.rows j).length ≤ 1000000) :
    Calls Tryz.prog 103 #[.pointer (some ⟨bb, 0, none⟩), .agg #[.int .u8 it.p.kind, .string it.p.file, .string it.p.text, .int .i64 it.p.hunk.at_, .slice it.x.h.oA it.p.hunk.old.length it.x.h.oc, .slice it.x.h.nA it.p.hunk.new.length it.x.h.nc, .int .u8 it.p.edit.kind, .slice it.x.e.pA it.p.edit.path.length it.x.e.pc, .int .i64 it.p.edit.at_, .int .i64 it.p.edit.far, .string it.p.edit.frm, .string it.p.edit.to, .slice it.x.e.oA it.p.edit.old.len it.x.e.oc, .slice it.x.e.nA it.p.edit.new.len it.x.e.nc]] w fun e w' => e = .returned (.tuple #[]) ∧ BagG w' bb B (addAll X it.rows) ∧ HK bb w w' := by
  have hbl := hb.bb_lt
  have h2 := hn 2
  have h4 := hn 4
  have h9 := hn 9
  simp [PIt.rows] at h2 h4 h9
  have Hi := hide hi
  have C1 : Hid (∀ o, Calls Tryz.prog 152 #[.pointer (some ⟨bb, 0, none⟩), .agg #[.int .i64 it.p.hunk.at_, .slice it.x.h.oA it.p.hunk.old.length it.x.h.oc, .slice it.x.h.nA it.p.hunk.new.length it.x.h.nc]] (w.alloc o) fun e w' => e = .returned (.tuple #[]) ∧ BagG w' bb B (addB X 4 [.slice it.x.h.oA it.p.hunk.old.length it.x.h.oc, .slice it.x.h.nA it.p.hunk.new.length it.x.h.nc]) ∧ HK bb (w.alloc o) w') := hide fun o => oneHunk_bag (hb.below (below_alloc w o)) (by omega)
  have C2 : Hid (∀ W, BagG W bb B (addB X 4 [.slice it.x.h.oA it.p.hunk.old.length it.x.h.oc, .slice it.x.h.nA it.p.hunk.new.length it.x.h.nc]) → Below bb w W → Calls Tryz.prog 153 #[.pointer (some ⟨bb, 0, none⟩), .agg #[.int .u8 it.p.edit.kind, .slice it.x.e.pA it.p.edit.path.length it.x.e.pc, .int .i64 it.p.edit.at_, .int .i64 it.p.edit.far, .string it.p.edit.frm, .string it.p.edit.to, .slice it.x.e.oA it.p.edit.old.len it.x.e.oc, .slice it.x.e.nA it.p.edit.new.len it.x.e.nc]] W fun e w' => e = .returned (.tuple #[]) ∧ BagG w' bb B (addB (addB (addB X 4 [.slice it.x.h.oA it.p.hunk.old.length it.x.h.oc, .slice it.x.h.nA it.p.hunk.new.length it.x.h.nc]) 2 [.slice it.x.e.pA it.p.edit.path.length it.x.e.pc]) 9 ((.slice it.x.e.oA it.p.edit.old.len it.x.e.oc :: it.Ro.map Prod.fst) ++ (.slice it.x.e.nA it.p.edit.new.len it.x.e.nc :: it.Rn.map Prod.fst))) ∧ HK bb W w') := hide fun W hW hB => oneEdit_bag hW (Hi.out.below hB) (by rw [addB_ne _ _ (by decide)]; omega) (by rw [addB_ne _ _ (by decide)]; omega)
  clear hb hi hn h2 h4 h9
  go_enter Tryz.func103, Tryz.ntmps103
  go_wp2_with (first
    | (go_at_call 152; (with_reducible refine (C1.out _).mono ?_); rintro e1 w1 ⟨rfl, hG, hK⟩; have hx := Lib.cell_of_heap (box_kept hK hbl fun j hj => (tyB_far j hj).2.2); have x6 := hx 6; have x7 := hx 7; have x8 := hx 8; have x9 := hx 9; have x10 := hx 10; have x11 := hx 11; have x12 := hx 12; have x13 := hx 13; simp only [List.getElem?_toArray, List.getElem?_cons_zero, List.getElem?_cons_succ] at x6 x7 x8 x9 x10 x11 x12 x13; clear hx; have HG1 := hide hG; have HK1 := hide ((HK.alloc w _ (Nat.le_of_lt hbl)).trans hK); clear hG hK)
    | (go_at_call 153; (with_reducible refine (C2.out _ HG1.out HK1.out.bel).mono ?_); rintro e2 w2 ⟨rfl, hG, hK⟩; have HG2 := hide hG; have HK2 := hide (HK1.out.trans hK); clear hG hK))
  go_end0
  exact ⟨rfl, by have := HG2.out; rwa [PIt.rows_eq] at this, HK2.out⟩
/-- the rows of a row of patches, the row itself first -/
def rowsP (v : Value) (l : List PIt) (j : Nat) : List Value := (if j = 14 then [v] else []) ++ l.flatMap (fun it => it.rows j)
theorem rowsP_nil (v : Value) : rowsP v [] = fun i => if i = 14 then [v] else [] := by funext j; simp [rowsP]
theorem rowsP_snoc (X : Nat → List Value) (v : Value) (l : List PIt) (it : PIt) : addAll (addAll X (rowsP v l)) it.rows = addAll X (rowsP v (l ++ [it])) := by
  rw [addAll_all]
  congr 1
  funext j
  simp [rowsP]
theorem InfoRPatchesB : (Tryz.prog.info? 49).map (fun i => (i.zero, i.size, i.bytes)) = some (some (.slice none 0 0), 1, 24) := by kernel_rfl
set_option maxHeartbeats 8000000 in
set_option maxRecDepth 1000000 in
theorem putPatches_bag {w : World} {bb B m c : Nat} {A : Option Addr} {X : Nat → List Value} {l : List PIt} (hm : l.length = m) (hb : BagG w bb B X) (hn : ∀ j, (X j).length + (rowsP (.slice A m c) l j).length ≤ 1000000) (ho : w.ownsRow 0 32 14 (.slice A m c) m (l.flatMap PIt.cells)) (hi : ∀ it ∈ l, it.ok w bb) (hl : ∀ b ∈ ob (.slice A m c), b < bb) :
    Calls Tryz.prog 45 #[.pointer (some ⟨bb, 0, none⟩), .slice A m c] w fun e w' => e = .returned (.tuple #[]) ∧ BagG w' bb B (addAll X (rowsP (.slice A m c) l)) ∧ HK bb w w' := by
  have Ho := hide ho
  have Hi := hide hi
  have Hl := hide hl
  have HN := hide hn
  have hn14 : (X 14).length ≤ 1000000 := by have := hn 14; simp [rowsP] at this; omega
  have hmc := own_room ho rfl
  clear ho hi hl hn
  obtain ⟨v, hv, _, hown⟩ := hb.hd 14 (by decide)
  obtain ⟨Av, cv, rfl⟩ := own_shape hown
  have HB := hide hb
  have Hown := hide hown
  have hf := hb.fz 14
  have hbl := hb.bb_lt
  clear hb hown
  go_enter Tryz.func45, Tryz.ntmps45
  go_wp2_with (at_builtin; refine wpList_row rfl _ _ 50 rfl B 49 Tryz.underlying50 InfoRPatchesB rfl (by decide) _ (X 14).length (X 14) rfl (Hown.out.alloc _) (some ⟨w.heap.size, 0, none⟩) 1 1 [.slice A m c] rfl (by simp) rfl (fun ad e => by injection e with e; subst e; exact cell_one_new w _ _) (by simp [Value.oneCell']) (by unfold maxLen; omega) (by omega) (Nat.le_trans HB.out.le (by simp)) ?_)
  intro v1 w1 h1 hg1 hw1
  have hblk : w1.heap[bb]? = w.heap[bb]? := (hg1.block bb (by simp; omega) (fun e => by have := (Hown.out.lt bb e.symm).1; have := HB.out.lt; omega)).trans (heap_alloc_old w _ hbl)
  have k0 : w1.cell? ⟨bb, 14, none⟩ = some (.slice Av (X 14).length cv) := (World.cell?_of_block (a := ⟨bb, 14, none⟩) hblk).trans hv
  have k1 : w1.frozen? ⟨bb, 14, none⟩ = false := (World.frozen?_of_block (a := ⟨bb, 14, none⟩) hblk).trans hf
  have HB1 : Hid (HK bb w (w1.setCell ⟨bb, 14, none⟩ v1)) := hide (HB.out.putK (j := 14) (by decide) (fun b hb => heap_alloc_old w _ hb) ((below_alloc w _).mono (Nat.le_of_lt hbl)) Hown.out hg1)
  have HG := hide (HB.out.put (j := 14) (by decide) hv (fun b hb => heap_alloc_old w _ hb) (by simp) Hown.out h1 hg1)
  obtain ⟨A1, c1, rfl⟩ := own_shape h1
  clear h1 hg1 hw1 hblk hv hf HB Hown
  go_wp2_with fail
  go_loopg [4] m (fun g i wx => ∃ q : Nat, q ≤ m ∧ g = m - q ∧ i = .int .i64 q ∧ Hid (BagG wx bb B (addAll X (rowsP (.slice A m c) (l.take q)))) ∧ Hid (HK bb w wx))
  case atStart => exact ⟨0, by omega, by omega, rfl, hide (by have := HG.out; rw [addB_all] at this; simpa [rowsP_nil] using this), HB1⟩
  case round =>
  clear HG HB1 k0 k1
  obtain ⟨q, hq, hg, rfl, HG, HB⟩ := hrel
  by_cases hlt : q < m
  · obtain ⟨it, hit⟩ : ∃ it, l[q]? = some it := ⟨_, List.getElem?_eq_getElem (by omega)⟩
    have hcs := flatMap_at (s := 14) PIt.cells (fun _ => rfl) hit
    have HO2 := Ho.out
    obtain ⟨gb, rfl⟩ : ∃ g, A = some ⟨g, 0, none⟩ := by
      rcases HO2.2 with ⟨_, h0⟩ | ⟨g, cap, cur, e, _⟩
      · omega
      · injection e with e; exact ⟨g, e⟩
    have hgl : gb < bb := Hl.out gb (by simp [ob, Value.ownBlock])
    have hcell : ∀ t u, it.cells[t]? = some u → wr.cell? ⟨gb, q * 14 + t, none⟩ = some u := fun t u hu => by
      have h1 := HO2.cells (g := gb) rfl (q * 14 + t) u (by rw [hcs t (by have := (List.getElem?_eq_some_iff.1 hu).1; exact this)]; exact hu)
      rw [Addr.add_lit, Nat.zero_add] at h1
      exact (World.cell?_of_block (a := ⟨gb, q * 14 + t, none⟩) (HB.out.1.block gb hgl)).trans h1
    have x0 := hcell 0 _ rfl
    have x1 := hcell 1 _ rfl
    have x2 := hcell 2 _ rfl
    have x3 := hcell 3 _ rfl
    have x4 := hcell 4 _ rfl
    have x5 := hcell 5 _ rfl
    have x6 := hcell 6 _ rfl
    have x7 := hcell 7 _ rfl
    have x8 := hcell 8 _ rfl
    have x9 := hcell 9 _ rfl
    have x10 := hcell 10 _ rfl
    have x11 := hcell 11 _ rfl
    have x12 := hcell 12 _ rfl
    have x13 := hcell 13 _ rfl
    simp only [Nat.add_zero] at x0
    have hone : Hid (Calls Tryz.prog 103 #[.pointer (some ⟨bb, 0, none⟩), .agg #[.int .u8 it.p.kind, .string it.p.file, .string it.p.text, .int .i64 it.p.hunk.at_, .slice it.x.h.oA it.p.hunk.old.length it.x.h.oc, .slice it.x.h.nA it.p.hunk.new.length it.x.h.nc, .int .u8 it.p.edit.kind, .slice it.x.e.pA it.p.edit.path.length it.x.e.pc, .int .i64 it.p.edit.at_, .int .i64 it.p.edit.far, .string it.p.edit.frm, .string it.p.edit.to, .slice it.x.e.oA it.p.edit.old.len it.x.e.oc, .slice it.x.e.nA it.p.edit.new.len it.x.e.nc]] wr fun e w' => e = .returned (.tuple #[]) ∧ BagG w' bb B (addAll X (rowsP (.slice (some ⟨gb, 0, none⟩) m c) (l.take (q + 1)))) ∧ HK bb wr w') := hide (by
      rw [take_succ_at hit, ← rowsP_snoc]
      refine onePatch_bag HG.out ((Hi.out it (List.mem_of_getElem? hit)).below HB.out.1) fun j => ?_
      have h1 := HN.out j
      have h2 := flatMap_part (fun it : PIt => it.rows j) hit
      simp only [addAll, rowsP, List.length_append] at h1 ⊢
      omega)
    clear hcell hcs HO2 hit
    go_wp2_with (go_at_call 103; (with_reducible refine hone.out.mono ?_); rintro e1 w1 ⟨rfl, hG1, hK1⟩)
    go_roundg (m - (q + 1))
    case measure => omega
    case rel => exact ⟨q + 1, by omega, rfl, by go_num, hide hG1, hide (HB.out.trans hK1)⟩
  · go_wp2_with fail
    go_end0
    have hqm : q = m := by omega
    have := HG.out
    rw [List.take_of_length_le (by omega)] at this
    exact ⟨rfl, this, HB.out⟩

end Go.Proofs.YtfhfkbdaglegpaaGreatDoor

namespace Go.Proofs.YtfhfkbdaglegpaaGreatDoor
open Go.RowKit

/-- rows of the list, each in blocks of its own -/
def OwnL (E : TypeId) (s B : Nat) (l : List Value) (w : World) : Prop := ∀ v ∈ l, ∃ A n c xs, v = .slice A n c ∧ w.ownsRow B E s v n xs
def vsOf (l : List Value) (j : Nat) : Value := l[j]?.getD (.slice none 0 0)
def lenV : Value → Nat
  | .slice _ n _ => n
  | _ => 0
def nsOf (l : List Value) (j : Nat) : Nat := lenV (vsOf l j)
def tagOf (l : List Value) (g : Nat) : Option Nat := l.findIdx? fun v => decide (v.ownBlock = some g)
theorem vsOf_at {l : List Value} {j : Nat} (h : j < l.length) : vsOf l j = l[j] := by simp [vsOf, h]
theorem tagOf_mem {l : List Value} {g : Nat} (h : tagOf l g ≠ none) : ∃ v ∈ l, v.ownBlock = some g := by
  unfold tagOf at h
  match hf : l.findIdx? (fun v => decide (v.ownBlock = some g)) with
  | none => exact absurd hf h
  | some i =>
    obtain ⟨hi, h1, _⟩ := List.findIdx?_eq_some_iff_getElem.1 hf
    exact ⟨l[i], List.getElem_mem hi, by simpa using h1⟩
theorem nodup_flat_ne {l : List Value} (h : (l.flatMap ob).Nodup) {i j g : Nat} (hi : i < l.length) (hj : j < l.length) (hij : i < j) (h1 : l[i].ownBlock = some g) (h2 : l[j].ownBlock = some g) : False := by
  have e : l = l.take j ++ l[j] :: l.drop (j + 1) := by rw [← List.drop_eq_getElem_cons hj, List.take_append_drop]
  rw [e, List.flatMap_append, List.flatMap_cons] at h
  have hd := (List.nodup_append.1 h).2.2
  refine hd g (List.mem_flatMap.2 ⟨l[i], List.mem_take_iff_getElem.2 ⟨i, by omega, rfl⟩, mem_ob.2 h1⟩) g (List.mem_append_left _ (mem_ob.2 h2)) rfl
theorem tagOf_at {l : List Value} (h : (l.flatMap ob).Nodup) {j g : Nat} (hj : j < l.length) (hg : l[j].ownBlock = some g) : tagOf l g = some j := by
  unfold tagOf
  rw [List.findIdx?_eq_some_iff_getElem]
  refine ⟨hj, by simpa using hg, fun i hi => ?_⟩
  simp only [decide_eq_true_eq]
  exact fun e => nodup_flat_ne h (Nat.lt_trans hi hj) hj hi e hg
theorem tag_high {l : List Value} {bb b : Nat} (h : ∀ v ∈ l, ∀ g ∈ ob v, g < bb) (hb : bb ≤ b) : tagOf l b = none := by
  match ht : tagOf l b with
  | none => rfl
  | some i =>
    obtain ⟨v, hv, e⟩ := tagOf_mem (l := l) (g := b) (by rw [ht]; exact fun e => by cases e)
    have := h v hv b (mem_ob.2 e)
    omega
section
variable {w w' : World} {E E' : TypeId} {s s' B : Nat} {l l' : List Value}
theorem OwnL.rows {mk : Nat → Nat → List Value} (h : OwnL E s B l w) (hs : ∀ j i, (mk j i).length = s) (hd : (l.flatMap ob).Nodup) : RowsG s mk E B l.length (vsOf l) (nsOf l) (fun _ => 0) (tagOf l) w := by
  refine ⟨hs, fun j hj => ?_, fun j hj g hg => ?_, fun g hg => ?_⟩
  · obtain ⟨A, n, c, xs, e, ho⟩ := h _ (List.getElem_mem hj)
    have e2 : nsOf l j = n := by rw [nsOf, vsOf_at hj, e]; rfl
    exact ⟨xs, by rw [vsOf_at hj, e2, marksG_zero, List.nil_append]; exact ho⟩
  · rw [vsOf_at hj] at hg
    exact tagOf_at hd hj hg
  · obtain ⟨v, hv, e⟩ := tagOf_mem hg
    obtain ⟨A, n, c, xs, _, ho⟩ := h v hv
    exact ho.lt g e
theorem OwnL.below (h : OwnL E s B l w) (hB : Below w.heap.size w w') : OwnL E s B l w' := fun v hv => by
  obtain ⟨A, n, c, xs, e, ho⟩ := h v hv
  exact ⟨A, n, c, xs, e, own_bel ho hB⟩
theorem OwnL.flat {B' : Nat} (h : OwnL E s B l w) (h' : OwnL E' s' B' l' w) (hE : E ≠ E') (hk : ∀ b, b < w.heap.size → tagOf l' b = none → w'.heap[b]? = w.heap[b]?) : OwnL E s B l w' := fun v hv => by
  obtain ⟨A, n, c, xs, e, ho⟩ := h v hv
  refine ⟨A, n, c, xs, e, own_same ho fun g hg => hk g (ho.lt g hg).2 ?_⟩
  match ht : tagOf l' g with
  | none => rfl
  | some i =>
    obtain ⟨v', hv', e'⟩ := tagOf_mem (l := l') (g := g) (by rw [ht]; exact fun e => by cases e)
    obtain ⟨_, _, _, _, _, ho'⟩ := h' v' hv'
    obtain ⟨c1, k1⟩ := own_type ho hg
    obtain ⟨c2, k2⟩ := own_type ho' e'
    rw [k1] at k2
    injection k2 with k2
    injection k2 with _ k2
    exact absurd k2 hE
theorem at_bag {b o : Nat} {v : Value} (h : w'.heap[b]? = w.heap[b]?) (hc : w.cell? ⟨b, o, none⟩ = some v) : w'.cell? ⟨b, o, none⟩ = some v := (World.cell?_of_block (a := ⟨b, o, none⟩) h).trans hc
theorem BagG.void {bb Bb j : Nat} {X : Nat → List Value} (h : BagG w bb Bb X) (hj : j < 21) (h0 : X j = []) : w.cell? ⟨bb, j, none⟩ = some (.slice none 0 0) := by
  obtain ⟨v, h1, h2, _⟩ := h.hd j hj
  rw [h1, h2 h0]
theorem BagG.full {bb Bb j : Nat} {X : Nat → List Value} (h : BagG w bb Bb X) (hj : j < 21) (h0 : X j ≠ []) : ∃ L c, Bb ≤ L ∧ w.cell? ⟨bb, j, none⟩ = some (.slice (some ⟨L, 0, none⟩) (X j).length c) ∧ ∀ i, i < (X j).length → w.cell? ⟨L, i, none⟩ = some (vsOf (X j) i) := by
  obtain ⟨v, h1, _, h3⟩ := h.hd j hj
  rcases h3.2 with ⟨_, e⟩ | ⟨g, cap, cur, rfl, hb, _⟩
  · exact absurd (List.length_eq_zero_iff.1 e) h0
  · exact ⟨g, cap, hb, h1, fun i hi => by rw [h3.cellAt i (by omega), vsOf_at hi, List.getElem?_eq_getElem hi]⟩
end

end Go.Proofs.YtfhfkbdaglegpaaGreatDoor
