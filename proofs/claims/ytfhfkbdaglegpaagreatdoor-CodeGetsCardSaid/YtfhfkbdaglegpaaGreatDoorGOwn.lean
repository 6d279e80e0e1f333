/- What was made lies in rows of its own, each in a block of its own. -/
import Derived.Laws.IdiomCopy
import Derived.Test.YtfhfkbdaglegpaaGreatDoorGKeep
import Derived.Test.YtfhfkbdaglegpaaGreatDoorGBase

set_option linter.unusedVariables false
set_option linter.unusedSimpArgs false

namespace Go.Proofs.YtfhfkbdaglegpaaGreatDoor
open Go.RowKit

/-- the blocks of a row, of rows -/
def ob (v : Value) : List Nat := v.ownBlock.toList
def obs (R : List (Value × Nat)) : List Nat := R.flatMap fun r => ob r.1
theorem mem_ob {v : Value} {g : Nat} : g ∈ ob v ↔ v.ownBlock = some g := by simp [ob, Option.mem_toList]
theorem obs_nil : obs [] = [] := rfl
theorem obs_cons (r : Value × Nat) (R : List (Value × Nat)) : obs (r :: R) = ob r.1 ++ obs R := by simp [obs]
theorem obs_app (R R' : List (Value × Nat)) : obs (R ++ R') = obs R ++ obs R' := by simp [obs]

section
variable {w w' : World} {e : TypeId} {size n : Nat} {v : Value} {xs : List Value}
theorem own_kept (h : w.ownsRow 0 e size v n xs) (hk : ∀ b ∈ ob v, w'.heap[b]? = w.heap[b]?) : w'.ownsRow 0 e size v n xs := by
  refine ⟨h.1, ?_⟩
  rcases h.2 with hn | ⟨g, cap, cur, rfl, hb, hgg, rest⟩
  · exact .inl hn
  · exact .inr ⟨g, cap, cur, rfl, hb, (hk g (mem_ob.2 rfl)).trans hgg, rest⟩
theorem own_lt (h : w.ownsRow 0 e size v n xs) : ∀ b ∈ ob v, b < w.heap.size := fun b hb => (h.lt b (mem_ob.1 hb)).2
theorem nodup_ranges {L L' : List Nat} {M : Nat} (h : L.Nodup) (h' : L'.Nodup) (hl : ∀ b ∈ L, b < M) (hl' : ∀ b ∈ L', M ≤ b) : (L ++ L').Nodup :=
  List.nodup_append.2 ⟨h, h', fun a ha b hb e => by have := hl a ha; have := hl' b hb; omega⟩
theorem ob_nodup (v : Value) : (ob v).Nodup := by unfold ob; cases v.ownBlock <;> simp
end

/-- the cells of a row of nodes, whose kids lie in the rows R (a node's own row first, then those in it) -/
def FoR (w : World) : List Value → Fo → List (Value × Nat) → Prop
  | vs, .nil, R => vs = [] ∧ R = []
  | vs, .cons k t n ks r, R => ∃ KA c vs' ys R1 R2, vs = .int .u8 k :: .string t :: .int .i64 n :: .slice KA ks.len c :: vs' ∧ (k < 256 ∧ t.size ≤ 9223372036854775807 ∧ isInt64 n) ∧
      w.ownsRow 0 55 4 (.slice KA ks.len c) ks.len ys ∧ FoR w ys ks R1 ∧ FoR w vs' r R2 ∧ R = (.slice KA ks.len c, ks.len) :: (R1 ++ R2)
section
variable {w w' : World}
theorem FoR.keep : ∀ {f : Fo} {vs : List Value} {R : List (Value × Nat)}, FoR w vs f R → (∀ b ∈ obs R, w'.heap[b]? = w.heap[b]?) → FoR w' vs f R := by
  intro f
  induction f with
  | nil => intro vs R h _; exact h
  | cons k t n ks r ihk ihr =>
    rintro vs R ⟨KA, c, vs', ys, R1, R2, rfl, h1, h2, h3, h4, rfl⟩ hk
    simp only [obs_cons, obs_app, List.mem_append] at hk
    exact ⟨KA, c, vs', ys, R1, R2, rfl, h1, own_kept h2 fun b hb => hk b (.inl hb), ihk h3 fun b hb => hk b (.inr (.inl hb)), ihr h4 fun b hb => hk b (.inr (.inr hb)), rfl⟩
theorem FoR.lt : ∀ {f : Fo} {vs : List Value} {R : List (Value × Nat)}, FoR w vs f R → ∀ b ∈ obs R, b < w.heap.size := by
  intro f
  induction f with
  | nil => rintro vs R ⟨_, rfl⟩ b hb; simp [obs_nil] at hb
  | cons k t n ks r ihk ihr =>
    rintro vs R ⟨KA, c, vs', ys, R1, R2, rfl, h1, h2, h3, h4, rfl⟩ b hb
    simp only [obs_cons, obs_app, List.mem_append] at hb
    rcases hb with hb | hb | hb
    · exact own_lt h2 b hb
    · exact ihk h3 b hb
    · exact ihr h4 b hb
theorem own_room {e n : Nat} {v : Value} {xs : List Value} {A : Option Addr} {c size : Nat} (h : w.ownsRow 0 e size v n xs) (hv : v = .slice A n c) : n ≤ c ∧ c ≤ 9223372036854775807 := by
  subst hv
  rcases h.2 with ⟨e1, e2⟩ | ⟨g, cap, cur, e1, _, _, hn, hc, _⟩
  · injection e1 with _ _ e3; omega
  · injection e1 with _ _ e3; unfold maxLen at hc; omega
theorem own_fo2 {S : Nat → Prop} {e c : Nat} {A : Option Addr} {vs : List Value} {f : Fo} (h : w.ownsRow 0 e 4 (.slice A f.len c) f.len vs) (hS : ∀ g ∈ ob (.slice A f.len c), S g) (hf : FoCells S w vs f) : FoIn S w A f := by
  rcases h.2 with ⟨e1, h0⟩ | ⟨g, cap, cur, e1, hb, hgg, hn, hc, _⟩
  · have : f = .nil := by cases f with
      | nil => rfl
      | cons => simp [Fo.len] at h0
    subst this
    exact trivial
  · injection e1 with e1 _ e3
    subst e1
    refine hf.at_ (fun b hS => hS) (hS g (mem_ob.2 rfl)) fun j u hu => ?_
    have := h.cells (g := g) rfl j u hu
    rwa [Addr.add_lit] at this
theorem FoR.cells {S : Nat → Prop} : ∀ {f : Fo} {vs : List Value} {R : List (Value × Nat)}, FoR w vs f R → (∀ b ∈ obs R, S b) → FoCells S w vs f := by
  intro f
  induction f with
  | nil => rintro vs R ⟨rfl, _⟩ _; rfl
  | cons k t n ks r ihk ihr =>
    rintro vs R ⟨KA, c, vs', ys, R1, R2, rfl, ⟨h1, h5, h6⟩, h2, h3, h4, rfl⟩ hS
    simp only [obs_cons, obs_app, List.mem_append] at hS
    obtain ⟨hn, hc⟩ := own_room h2 rfl
    exact ⟨KA, c, vs', rfl, h1, h5, h6, hn, hc, own_fo2 h2 (fun g hg => hS g (.inl hg)) (ihk h3 fun b hb => hS b (.inr (.inl hb))), ihr h4 fun b hb => hS b (.inr (.inr hb))⟩
theorem FoR.snoc {k : Nat} {t : ByteArray} {n : Int} {ks : Fo} {KA : Option Addr} {c : Nat} {ys : List Value} {R1 : List (Value × Nat)} (h1 : k < 256 ∧ t.size ≤ 9223372036854775807 ∧ isInt64 n)
    (h2 : w.ownsRow 0 55 4 (.slice KA ks.len c) ks.len ys) (h3 : FoR w ys ks R1) :
    ∀ {f : Fo} {vs : List Value} {R : List (Value × Nat)}, FoR w vs f R → FoR w (vs ++ [.int .u8 k, .string t, .int .i64 n, .slice KA ks.len c]) (f.app (.cons k t n ks .nil)) (R ++ (.slice KA ks.len c, ks.len) :: R1) := by
  intro f
  induction f with
  | nil => rintro vs R ⟨rfl, rfl⟩; exact ⟨KA, c, [], ys, R1, [], rfl, h1, h2, h3, ⟨rfl, rfl⟩, by simp⟩
  | cons k' t' n' ks' r _ ih =>
    rintro vs R ⟨KA', c', vs', ys', R1', R2', rfl, g1, g2, g3, g4, rfl⟩
    exact ⟨KA', c', _, ys', R1', _, rfl, g1, g2, g3, ih g4, by simp⟩
end

/-- a row of nodes with all that is in it: the blocks L -/
def NodesO (w : World) (A : Option Addr) (c : Nat) (f : Fo) (L : List Nat) : Prop :=
  ∃ vs R, w.ownsRow 0 55 4 (.slice A f.len c) f.len vs ∧ FoR w vs f R ∧ L = ob (.slice A f.len c) ++ obs R ∧ L.Nodup
/-- a row of cells: the blocks L -/
def RowO (e : TypeId) (w : World) (A : Option Addr) (c n : Nat) (xs : List Value) (L : List Nat) : Prop := w.ownsRow 0 e 1 (.slice A n c) n xs ∧ L = ob (.slice A n c)
section
variable {w w' : World} {A : Option Addr} {c : Nat} {f : Fo} {L : List Nat} {e : TypeId} {n : Nat} {xs : List Value}
theorem NodesO.keep (h : NodesO w A c f L) (hk : ∀ b ∈ L, w'.heap[b]? = w.heap[b]?) : NodesO w' A c f L := by
  obtain ⟨vs, R, h1, h2, rfl, h3⟩ := h
  exact ⟨vs, R, own_kept h1 fun b hb => hk b (by simp [hb]), h2.keep fun b hb => hk b (by simp [hb]), rfl, h3⟩
theorem NodesO.lt (h : NodesO w A c f L) : ∀ b ∈ L, b < w.heap.size := by
  obtain ⟨vs, R, h1, h2, rfl, h3⟩ := h
  intro b hb
  rcases List.mem_append.1 hb with hb | hb
  · exact own_lt h1 b hb
  · exact h2.lt b hb
theorem NodesO.nodup (h : NodesO w A c f L) : L.Nodup := by obtain ⟨_, _, _, _, _, h⟩ := h; exact h
theorem NodesO.fo {S : Nat → Prop} (h : NodesO w A c f L) (hS : ∀ b ∈ L, S b) : FoIn S w A f := by
  obtain ⟨vs, R, h1, h2, rfl, h3⟩ := h
  exact own_fo2 h1 (fun g hg => hS g (by simp [hg])) (h2.cells fun b hb => hS b (by simp [hb]))
theorem NodesO.zero : NodesO w none 0 .nil [] := ⟨[], [], ⟨rfl, .inl ⟨rfl, rfl⟩⟩, ⟨rfl, rfl⟩, rfl, List.nodup_nil⟩
theorem RowO.keep (h : RowO e w A c n xs L) (hk : ∀ b ∈ L, w'.heap[b]? = w.heap[b]?) : RowO e w' A c n xs L := by
  obtain ⟨h1, rfl⟩ := h
  exact ⟨own_kept h1 hk, rfl⟩
theorem RowO.lt (h : RowO e w A c n xs L) : ∀ b ∈ L, b < w.heap.size := by
  obtain ⟨h1, rfl⟩ := h
  exact own_lt h1
theorem RowO.nodup (h : RowO e w A c n xs L) : L.Nodup := by obtain ⟨_, rfl⟩ := h; exact ob_nodup _
theorem RowO.zero : RowO e w none 0 0 [] [] := ⟨⟨rfl, .inl ⟨rfl, rfl⟩⟩, rfl⟩
end

/-- a hunk, an edit, a patch whose rows are their own: the blocks L -/
def HkO (w : World) (x : Hh) (h : Hk) (L : List Nat) : Prop := ∃ L1 L2, RowO 9 w x.oA x.oc h.old.length (h.old.map .string) L1 ∧ RowO 9 w x.nA x.nc h.new.length (h.new.map .string) L2 ∧ L = L1 ++ L2
def EdO (w : World) (x : Eh) (e : Ed) (L : List Nat) : Prop := ∃ L1 L2 L3, RowO 3 w x.pA x.pc e.path.length (e.path.map (.int .i64)) L1 ∧ NodesO w x.oA x.oc e.old L2 ∧ NodesO w x.nA x.nc e.new L3 ∧ L = L1 ++ (L2 ++ L3)
def PtO (w : World) (x : Ph) (p : Pt) (L : List Nat) : Prop := ∃ L1 L2, HkO w x.h p.hunk L1 ∧ EdO w x.e p.edit L2 ∧ L = L1 ++ L2
section
variable {w w' : World} {L : List Nat}
theorem HkO.keep {x : Hh} {h : Hk} (a : HkO w x h L) (hk : ∀ b ∈ L, w'.heap[b]? = w.heap[b]?) : HkO w' x h L := by
  obtain ⟨L1, L2, h1, h2, rfl⟩ := a
  exact ⟨L1, L2, h1.keep fun b hb => hk b (by simp [hb]), h2.keep fun b hb => hk b (by simp [hb]), rfl⟩
theorem EdO.keep {x : Eh} {e : Ed} (a : EdO w x e L) (hk : ∀ b ∈ L, w'.heap[b]? = w.heap[b]?) : EdO w' x e L := by
  obtain ⟨L1, L2, L3, h1, h2, h3, rfl⟩ := a
  exact ⟨L1, L2, L3, h1.keep fun b hb => hk b (by simp [hb]), h2.keep fun b hb => hk b (by simp [hb]), h3.keep fun b hb => hk b (by simp [hb]), rfl⟩
theorem PtO.keep {x : Ph} {p : Pt} (a : PtO w x p L) (hk : ∀ b ∈ L, w'.heap[b]? = w.heap[b]?) : PtO w' x p L := by
  obtain ⟨L1, L2, h1, h2, rfl⟩ := a
  exact ⟨L1, L2, h1.keep fun b hb => hk b (by simp [hb]), h2.keep fun b hb => hk b (by simp [hb]), rfl⟩
theorem HkO.lt {x : Hh} {h : Hk} (a : HkO w x h L) : ∀ b ∈ L, b < w.heap.size := by
  obtain ⟨L1, L2, h1, h2, rfl⟩ := a
  intro b hb
  rcases List.mem_append.1 hb with hb | hb
  · exact h1.lt b hb
  · exact h2.lt b hb
theorem EdO.lt {x : Eh} {e : Ed} (a : EdO w x e L) : ∀ b ∈ L, b < w.heap.size := by
  obtain ⟨L1, L2, L3, h1, h2, h3, rfl⟩ := a
  intro b hb
  simp only [List.mem_append] at hb
  rcases hb with hb | hb | hb
  · exact h1.lt b hb
  · exact h2.lt b hb
  · exact h3.lt b hb
theorem PtO.lt {x : Ph} {p : Pt} (a : PtO w x p L) : ∀ b ∈ L, b < w.heap.size := by
  obtain ⟨L1, L2, h1, h2, rfl⟩ := a
  intro b hb
  rcases List.mem_append.1 hb with hb | hb
  · exact h1.lt b hb
  · exact h2.lt b hb
theorem HkO.zero : HkO w ⟨none, 0, none, 0⟩ Hk.zero [] := ⟨[], [], RowO.zero, RowO.zero, rfl⟩
theorem EdO.zero : EdO w ⟨none, 0, none, 0, none, 0⟩ Ed.zero [] := ⟨[], [], [], RowO.zero, NodesO.zero, NodesO.zero, rfl⟩
theorem PtO.hunk {x : Hh} {k : Nat} {f t : ByteArray} {h : Hk} (a : HkO w x h L) : PtO w ⟨x, ⟨none, 0, none, 0, none, 0⟩⟩ ⟨k, f, t, h, Ed.zero⟩ L := ⟨L, [], a, EdO.zero, by simp⟩
theorem PtO.edit {x : Eh} {k : Nat} {f t : ByteArray} {e : Ed} (a : EdO w x e L) : PtO w ⟨⟨none, 0, none, 0⟩, x⟩ ⟨k, f, t, Hk.zero, e⟩ L := ⟨[], L, HkO.zero, a, rfl⟩
theorem PtO.bare {k : Nat} {f t : ByteArray} : PtO w ⟨⟨none, 0, none, 0⟩, ⟨none, 0, none, 0, none, 0⟩⟩ ⟨k, f, t, Hk.zero, Ed.zero⟩ [] := ⟨[], [], HkO.zero, EdO.zero, rfl⟩
end

end Go.Proofs.YtfhfkbdaglegpaaGreatDoor

namespace Go.Proofs.YtfhfkbdaglegpaaGreatDoor
open Go.RowKit

/-- the cells of a block, from its head on -/
def Cells (w : World) (N : Nat) (vs : List Value) : Prop := ∀ j u, vs[j]? = some u → w.cell? ⟨N, j, none⟩ = some u
theorem Cells.of_eq {w w' : World} {N : Nat} {vs : List Value} (h : Cells w N vs) (he : ∀ o, w'.cell? ⟨N, o, none⟩ = w.cell? ⟨N, o, none⟩) : Cells w' N vs := fun j u hu => (he j).trans (h j u hu)
theorem keep_setCells (b : Nat) {P : Nat → Prop} (hP : ¬ P b) : ∀ (vs : List Value) (o : Nat) (w : World), Keep P w (w.setCells b o vs)
  | [], _, w => Keep.refl _ _
  | v :: r, o, w => Keep.trans ((Keep.refl P w).setCell (a := ⟨b, o, none⟩) hP v) (keep_setCells b hP r (o + 1) (w.setCell ⟨b, o, none⟩ v))
theorem size_setCells (b : Nat) : ∀ (vs : List Value) (o : Nat) (w : World), (w.setCells b o vs).heap.size = w.heap.size
  | [], _, _ => rfl
  | v :: r, o, w => by rw [World.setCells, size_setCells b r]; simp [World.setCell]
/-- cells stored one behind the other -/
theorem puts {w : World} {N : Nat} {us : List Value} (hu : Cells w N us) (o : Nat) (vs : List Value) (ho : o + vs.length ≤ us.length) :
    ∃ wF, wF = w.setCells N o vs ∧ Cells wF N (us.take o ++ vs ++ us.drop (o + vs.length)) ∧ (∀ M, M ≠ N → ∀ q, wF.cell? ⟨M, q, none⟩ = w.cell? ⟨M, q, none⟩) ∧ (∀ P : Nat → Prop, ¬ P N → Keep P w wF) ∧ (∀ a, wF.frozen? a = w.frozen? a) ∧ wF.heap.size = w.heap.size := by
  refine ⟨_, rfl, ?_, fun M hM q => World.cell?_setCells_out N vs o w ⟨M, q, none⟩ (fun e _ => absurd e hM), fun P hP => keep_setCells N hP vs o w, fun a => World.frozen?_setCells N vs o w a, size_setCells N vs o w⟩
  intro j u hj
  have hl : (us.take o).length = o := by simp; omega
  by_cases h1 : j < o
  · rw [World.cell?_setCells_out N vs o w ⟨N, j, none⟩ (fun _ _ => .inl h1)]
    rw [List.append_assoc, List.getElem?_append_left (by omega), List.getElem?_take, if_pos h1] at hj
    exact hu j u hj
  · by_cases h2 : j < o + vs.length
    · have h3 := World.cell?_setCells_in N vs o w (fun i hi => by
        have : us[o + i]? = some us[o + i] := List.getElem?_eq_getElem (by omega)
        rw [hu _ _ this]; rfl) (j - o) (by omega)
      rw [show o + (j - o) = j by omega] at h3
      rw [h3]
      rw [List.append_assoc, List.getElem?_append_right (by omega), hl, List.getElem?_append_left (by omega), List.getElem?_eq_getElem (by omega)] at hj
      exact hj
    · rw [World.cell?_setCells_out N vs o w ⟨N, j, none⟩ (fun _ _ => .inr (by show o + vs.length ≤ j; omega))]
      rw [List.append_assoc, List.getElem?_append_right (by omega), hl, List.getElem?_append_right (by omega), List.getElem?_drop] at hj
      rw [show o + vs.length + (j - o - vs.length) = j by omega] at hj
      exact hu j u hj

end Go.Proofs.YtfhfkbdaglegpaaGreatDoor
