/- Rows of named patches that are lent: twelve marks behind them. Printed by gen_lentnd.py. -/
import Derived.Laws.IdiomCopy
import Derived.Deep.CutBlock
import Derived.Deep.DeepCutAuto
import Derived.Test.YtfhfkbdaglegpaaGreatDoorGLent
import Derived.Test.YtfhfkbdaglegpaaGreatDoorGBase

set_option linter.unusedVariables false
set_option linter.unusedSimpArgs false

namespace Go.Proofs.YtfhfkbdaglegpaaGreatDoor
open Go.RowKit

section
variable {S S' : Nat → Prop} {w w' : World} {A : Option Addr} {c : Nat}
theorem LentStrs.keep {l : List ByteArray} (h : LentStrs S w A c l) (hk : ∀ b, S b → w'.heap[b]? = w.heap[b]?) : LentStrs S w' A c l := ⟨h.1.keep hk, h.2⟩
theorem LentInts.keep {l : List Int} (h : LentInts S w A c l) (hk : ∀ b, S b → w'.heap[b]? = w.heap[b]?) : LentInts S w' A c l := ⟨h.1.keep hk, h.2⟩
theorem LentFo.keep {f : Fo} (h : LentFo S w A c f) (hk : ∀ b, S b → w'.heap[b]? = w.heap[b]?) : LentFo S w' A c f := by
  obtain ⟨g, e, h1, h2, h3, h4⟩ := h
  exact ⟨g, e, h1, h2, h3, h4.keep h1 hk⟩
theorem LentHk.keep {x : Hh} {h : Hk} (a : LentHk S w x h) (hk : ∀ b, S b → w'.heap[b]? = w.heap[b]?) : LentHk S w' x h := ⟨a.at_, a.old.keep hk, a.new.keep hk⟩
theorem LentEd.keep {x : Eh} {e : Ed} (a : LentEd S w x e) (hk : ∀ b, S b → w'.heap[b]? = w.heap[b]?) : LentEd S w' x e := ⟨a.kind, a.path.keep hk, a.at_, a.far, a.frm, a.to, a.old.keep hk, a.new.keep hk⟩
theorem LentPt.keep {x : Ph} {p : Pt} (a : LentPt S w x p) (hk : ∀ b, S b → w'.heap[b]? = w.heap[b]?) : LentPt S w' x p := ⟨a.kind, a.file, a.text, a.hunk.keep hk, a.edit.keep hk⟩
/-- from the place o of block g on -/
def LentNdAt (S : Nat → Prop) (w : World) : Nat → Nat → List Nd → Prop
  | g, o, [] => ∀ i, i < 12 → w.cell? ⟨g, o + i * 15, none⟩ = some (.string (markT i)) ∧ w.cell? ⟨g, o + i * 15 + 1, none⟩ = some (.int .u8 0) ∧ w.cell? ⟨g, o + i * 15 + 2, none⟩ = some (.string ⟨#[]⟩) ∧ w.cell? ⟨g, o + i * 15 + 3, none⟩ = some (.string ⟨#[]⟩) ∧ w.cell? ⟨g, o + i * 15 + 4, none⟩ = some (.int .i64 0) ∧ w.cell? ⟨g, o + i * 15 + 5, none⟩ = some (.slice none 0 0) ∧ w.cell? ⟨g, o + i * 15 + 6, none⟩ = some (.slice none 0 0) ∧ w.cell? ⟨g, o + i * 15 + 7, none⟩ = some (.int .u8 0) ∧ w.cell? ⟨g, o + i * 15 + 8, none⟩ = some (.slice none 0 0) ∧ w.cell? ⟨g, o + i * 15 + 9, none⟩ = some (.int .i64 0) ∧ w.cell? ⟨g, o + i * 15 + 10, none⟩ = some (.int .i64 0) ∧ w.cell? ⟨g, o + i * 15 + 11, none⟩ = some (.string ⟨#[]⟩) ∧ w.cell? ⟨g, o + i * 15 + 12, none⟩ = some (.string ⟨#[]⟩) ∧ w.cell? ⟨g, o + i * 15 + 13, none⟩ = some (.slice none 0 0) ∧ w.cell? ⟨g, o + i * 15 + 14, none⟩ = some (.slice none 0 0)
  | g, o, d :: r => ∃ x : Ph, (w.cell? ⟨g, o, none⟩ = some (.string d.name) ∧ w.cell? ⟨g, o + 1, none⟩ = some (.int .u8 d.pt.kind) ∧ w.cell? ⟨g, o + 2, none⟩ = some (.string d.pt.file) ∧ w.cell? ⟨g, o + 3, none⟩ = some (.string d.pt.text) ∧ w.cell? ⟨g, o + 4, none⟩ = some (.int .i64 d.pt.hunk.at_) ∧ w.cell? ⟨g, o + 5, none⟩ = some (.slice x.h.oA d.pt.hunk.old.length x.h.oc) ∧ w.cell? ⟨g, o + 6, none⟩ = some (.slice x.h.nA d.pt.hunk.new.length x.h.nc) ∧ w.cell? ⟨g, o + 7, none⟩ = some (.int .u8 d.pt.edit.kind) ∧ w.cell? ⟨g, o + 8, none⟩ = some (.slice x.e.pA d.pt.edit.path.length x.e.pc) ∧ w.cell? ⟨g, o + 9, none⟩ = some (.int .i64 d.pt.edit.at_) ∧ w.cell? ⟨g, o + 10, none⟩ = some (.int .i64 d.pt.edit.far) ∧ w.cell? ⟨g, o + 11, none⟩ = some (.string d.pt.edit.frm) ∧ w.cell? ⟨g, o + 12, none⟩ = some (.string d.pt.edit.to) ∧ w.cell? ⟨g, o + 13, none⟩ = some (.slice x.e.oA d.pt.edit.old.len x.e.oc) ∧ w.cell? ⟨g, o + 14, none⟩ = some (.slice x.e.nA d.pt.edit.new.len x.e.nc)) ∧ d.name.size ≤ 9223372036854775807 ∧ LentPt S w x d.pt ∧ LentNdAt S w g (o + 15) r
def LentNds (S : Nat → Prop) (w : World) (A : Option Addr) (c : Nat) (l : List Nd) : Prop := ∃ g, A = some ⟨g, 0, none⟩ ∧ S g ∧ l.length + 12 ≤ c ∧ c ≤ 9223372036854775807 ∧ LentNdAt S w g 0 l
theorem LentNdAt.nd : ∀ {l : List Nd} {g o : Nat}, S g → LentNdAt S w g o l → NdIn S w (some ⟨g, o, none⟩) l
  | [], _, _, _, _ => trivial
  | _ :: _, g, o, hS, ⟨x, hc, hn, hp, hr⟩ => ⟨g, o, x, rfl, hS, hc, hn, hp.pt, LentNdAt.nd hS hr⟩
theorem LentNds.nd {l : List Nd} (h : LentNds S w A c l) : NdIn S w A l ∧ l.length ≤ c := by
  obtain ⟨g, rfl, h1, h2, h3, h4⟩ := h
  exact ⟨h4.nd h1, by omega⟩
theorem LentNdAt.keep : ∀ {l : List Nd} {g o : Nat}, S g → LentNdAt S w g o l → (∀ b, S b → w'.heap[b]? = w.heap[b]?) → LentNdAt S w' g o l
  | [], g, o, hS, h, hk => fun i hi => by
    obtain ⟨c0, c1, c2, c3, c4, c5, c6, c7, c8, c9, c10, c11, c12, c13, c14⟩ := h i hi
    have hb := hk g hS
    exact ⟨(World.cell?_of_block hb).trans c0, (World.cell?_of_block hb).trans c1, (World.cell?_of_block hb).trans c2, (World.cell?_of_block hb).trans c3, (World.cell?_of_block hb).trans c4, (World.cell?_of_block hb).trans c5, (World.cell?_of_block hb).trans c6, (World.cell?_of_block hb).trans c7, (World.cell?_of_block hb).trans c8, (World.cell?_of_block hb).trans c9, (World.cell?_of_block hb).trans c10, (World.cell?_of_block hb).trans c11, (World.cell?_of_block hb).trans c12, (World.cell?_of_block hb).trans c13, (World.cell?_of_block hb).trans c14⟩
  | _ :: _, g, o, hS, ⟨x, ⟨c0, c1, c2, c3, c4, c5, c6, c7, c8, c9, c10, c11, c12, c13, c14⟩, hn, hp, hr⟩, hk =>
    have hb := hk g hS
    ⟨x, ⟨(World.cell?_of_block hb).trans c0, (World.cell?_of_block hb).trans c1, (World.cell?_of_block hb).trans c2, (World.cell?_of_block hb).trans c3, (World.cell?_of_block hb).trans c4, (World.cell?_of_block hb).trans c5, (World.cell?_of_block hb).trans c6, (World.cell?_of_block hb).trans c7, (World.cell?_of_block hb).trans c8, (World.cell?_of_block hb).trans c9, (World.cell?_of_block hb).trans c10, (World.cell?_of_block hb).trans c11, (World.cell?_of_block hb).trans c12, (World.cell?_of_block hb).trans c13, (World.cell?_of_block hb).trans c14⟩, hn, hp.keep hk, LentNdAt.keep hS hr hk⟩
theorem LentNds.keep {l : List Nd} (h : LentNds S w A c l) (hk : ∀ b, S b → w'.heap[b]? = w.heap[b]?) : LentNds S w' A c l := by
  obtain ⟨g, e, h1, h2, h3, h4⟩ := h
  exact ⟨g, e, h1, h2, h3, h4.keep h1 hk⟩
end

end Go.Proofs.YtfhfkbdaglegpaaGreatDoor

namespace Go.Proofs.YtfhfkbdaglegpaaGreatDoor
open Go.RowKit

def CellsL (w : World) (N : Nat) (vs : List Value) : Prop := ∀ j u, vs[j]? = some u → w.cell? ⟨N, j, none⟩ = some u
theorem heap_setCellsL (b : Nat) {k : Nat} (hk : k ≠ b) : ∀ (vs : List Value) (o : Nat) (w : World), (w.setCells b o vs).heap[k]? = w.heap[k]?
  | [], _, _ => rfl
  | v :: r, o, w => by rw [World.setCells, heap_setCellsL b hk r, Below.heap_setCell _ _ _ k hk]
theorem size_setCellsL (b : Nat) : ∀ (vs : List Value) (o : Nat) (w : World), (w.setCells b o vs).heap.size = w.heap.size
  | [], _, _ => rfl
  | v :: r, o, w => by rw [World.setCells, size_setCellsL b r]; simp [World.setCell]
theorem below_setCellsL {B b : Nat} (hb : B ≤ b) : ∀ (vs : List Value) (o : Nat) {w w' : World}, Below B w w' → Below B w (w'.setCells b o vs)
  | [], _, _, _, h => h
  | v :: r, o, _, _, h => below_setCellsL hb r (o + 1) (h.setCell (p := ⟨b, o, none⟩) hb v)
theorem cellsL_put {w : World} {N : Nat} {us : List Value} (hu : CellsL w N us) (o : Nat) (vs : List Value) (ho : o + vs.length ≤ us.length) : CellsL (w.setCells N o vs) N (us.take o ++ vs ++ us.drop (o + vs.length)) := by
  intro j u hj
  have hl : (us.take o).length = o := by simp; omega
  by_cases h1 : j < o
  · rw [World.cell?_setCells_out N vs o w ⟨N, j, none⟩ (fun _ _ => .inl h1)]
    rw [List.append_assoc, List.getElem?_append_left (by omega), List.getElem?_take, if_pos h1] at hj
    exact hu j u hj
  · by_cases h2 : j < o + vs.length
    · have h3 := World.cell?_setCells_in N vs o w (fun i hi => by
        have : us[o + i]? = some us[o + i] := List.getElem?_eq_getElem (by omega)
        rw [hu _ _ this]; rfl) (j - o) (by omega)
      rw [show o + (j - o) = j by omega] at h3
      rw [h3]
      rw [List.append_assoc, List.getElem?_append_right (by omega), hl, List.getElem?_append_left (by omega), List.getElem?_eq_getElem (by omega)] at hj
      exact hj
    · rw [World.cell?_setCells_out N vs o w ⟨N, j, none⟩ (fun _ _ => .inr (by show o + vs.length ≤ j; omega))]
      rw [List.append_assoc, List.getElem?_append_right (by omega), hl, List.getElem?_append_right (by omega), List.getElem?_drop] at hj
      rw [show o + vs.length + (j - o - vs.length) = j by omega] at hj
      exact hu j u hj
theorem cellsL_other {w : World} {N M : Nat} {us : List Value} (hu : CellsL w M us) (hM : M ≠ N) (o : Nat) (vs : List Value) : CellsL (w.setCells N o vs) M us :=
  fun j u hj => (World.cell?_setCells_out N vs o w ⟨M, j, none⟩ (fun e _ => absurd e hM)).trans (hu j u hj)
/-- block N holds us, block N + 1 zs: both the call's own -/
structure BxL (w wx : World) (us zs : List Value) : Prop where
  c : CellsL wx w.heap.size us
  r : CellsL wx (w.heap.size + 1) zs
  fc : ∀ o, wx.frozen? ⟨w.heap.size, o, none⟩ = false
  fr : ∀ o, wx.frozen? ⟨w.heap.size + 1, o, none⟩ = false
  b : Below w.heap.size w wx
  z : w.heap.size + 2 ≤ wx.heap.size
section
variable {w wx w1 : World} {us zs : List Value}
theorem BxL.start (w : World) (cs ds : Array Value) (t u : TypeId) : BxL w ((w.alloc (.cells cs t)).alloc (.cells ds u)) cs.toList ds.toList :=
  ⟨fun j v hv => by rw [World.cell?_alloc2_first]; simpa using hv, fun j v hv => by rw [World.cell?_alloc2_new]; simpa using hv, fun o => World.frozen?_alloc2_first _ _ _ _, fun o => World.frozen?_alloc2_new _ _ _ _, below2 _ _, by simp⟩
theorem BxL.call (h : BxL w wx us zs) (hB : Below wx.heap.size wx w1) : BxL w w1 us zs := by
  have hz := h.z
  exact ⟨fun j v hv => (hB.cell (p := ⟨w.heap.size, j, none⟩) (by simp only; omega)).trans (h.c j v hv), fun j v hv => (hB.cell (p := ⟨w.heap.size + 1, j, none⟩) (by simp only; omega)).trans (h.r j v hv),
    fun o => (hB.frozen (p := ⟨w.heap.size, o, none⟩) (by simp only; omega)).trans (h.fc o), fun o => (hB.frozen (p := ⟨w.heap.size + 1, o, none⟩) (by simp only; omega)).trans (h.fr o), blw_up h.b hB, Nat.le_trans hz hB.size⟩
theorem BxL.put (h : BxL w wx us zs) (o : Nat) (vs : List Value) (ho : o + vs.length ≤ us.length) : BxL w (wx.setCells w.heap.size o vs) (us.take o ++ vs ++ us.drop (o + vs.length)) zs :=
  ⟨cellsL_put h.c o vs ho, cellsL_other h.r (by omega) o vs, fun q => by rw [World.frozen?_setCells]; exact h.fc q, fun q => by rw [World.frozen?_setCells]; exact h.fr q, below_setCellsL (Nat.le_refl _) vs o h.b, by rw [size_setCellsL]; exact h.z⟩
end

/-! ### what is lent stays so -/
section
variable {S S' : Nat → Prop} {w w' : World} {A : Option Addr} {c : Nat}
theorem LentRow.below {n : Nat} {e : TypeId} {vs : List Value} (h : LentRow S w A c n e vs) (hB : Below w.heap.size w w') : LentRow S w' A c n e vs := by
  obtain ⟨g, cs, h1, h2, h3, h4⟩ := h
  exact ⟨g, cs, h1, h2, (hB.block g (Array.getElem?_eq_some_iff.1 h3).1).trans h3, h4⟩
theorem LentAt.lt : ∀ {f : Fo} {g o : Nat}, LentAt S w g o f → g < w.heap.size
  | .nil, _, _, h => block_lt_of_cell (h 0 (by omega)).1
  | .cons _ _ _ _ _, _, _, ⟨_, _, c0, _⟩ => block_lt_of_cell c0
theorem LentAt.bound : ∀ {f : Fo} {g o : Nat}, LentAt S w g o f → LentAt (fun b => S b ∧ b < w.heap.size) w g o f
  | .nil, _, _, h => h
  | .cons k t n ks r, g, o, ⟨g', kc, c0, c1, c2, c3, h1, h2, h3, h4, h5, h6, h7, h8⟩ => ⟨g', kc, c0, c1, c2, c3, h1, h2, h3, h4, h5, ⟨h6, h7.lt⟩, LentAt.bound h7, LentAt.bound h8⟩
theorem LentFo.below {f : Fo} (h : LentFo S w A c f) (hB : Below w.heap.size w w') : LentFo S w' A c f := by
  obtain ⟨g, e, h1, h2, h3, h4⟩ := h
  exact ⟨g, e, h1, h2, h3, ((h4.bound.keep ⟨h1, h4.lt⟩ (fun b hb => hB.block b hb.2)).mono fun b hb => hb.1)⟩
theorem LentStrs.below {l : List ByteArray} (h : LentStrs S w A c l) (hB : Below w.heap.size w w') : LentStrs S w' A c l := ⟨h.1.below hB, h.2⟩
theorem LentInts.below {l : List Int} (h : LentInts S w A c l) (hB : Below w.heap.size w w') : LentInts S w' A c l := ⟨h.1.below hB, h.2⟩
theorem LentHk.below {x : Hh} {h : Hk} (a : LentHk S w x h) (hB : Below w.heap.size w w') : LentHk S w' x h := ⟨a.at_, a.old.below hB, a.new.below hB⟩
theorem LentEd.below {x : Eh} {e : Ed} (a : LentEd S w x e) (hB : Below w.heap.size w w') : LentEd S w' x e := ⟨a.kind, a.path.below hB, a.at_, a.far, a.frm, a.to, a.old.below hB, a.new.below hB⟩
theorem LentPt.below {x : Ph} {p : Pt} (a : LentPt S w x p) (hB : Below w.heap.size w w') : LentPt S w' x p := ⟨a.kind, a.file, a.text, a.hunk.below hB, a.edit.below hB⟩
theorem LentStrs.mono {l : List ByteArray} (h : LentStrs S w A c l) (hm : ∀ b, S b → S' b) : LentStrs S' w A c l := ⟨h.1.mono fun b _ hb => hm b hb, h.2⟩
theorem LentInts.mono {l : List Int} (h : LentInts S w A c l) (hm : ∀ b, S b → S' b) : LentInts S' w A c l := ⟨h.1.mono fun b _ hb => hm b hb, h.2⟩
theorem LentHk.mono {x : Hh} {h : Hk} (a : LentHk S w x h) (hm : ∀ b, S b → S' b) : LentHk S' w x h := ⟨a.at_, a.old.mono hm, a.new.mono hm⟩
theorem LentEd.mono {x : Eh} {e : Ed} (a : LentEd S w x e) (hm : ∀ b, S b → S' b) : LentEd S' w x e := ⟨a.kind, a.path.mono hm, a.at_, a.far, a.frm, a.to, a.old.mono hm, a.new.mono hm⟩
theorem LentPt.mono {x : Ph} {p : Pt} (a : LentPt S w x p) (hm : ∀ b, S b → S' b) : LentPt S' w x p := ⟨a.kind, a.file, a.text, a.hunk.mono hm, a.edit.mono hm⟩
end

end Go.Proofs.YtfhfkbdaglegpaaGreatDoor

namespace Go.Proofs.YtfhfkbdaglegpaaGreatDoor
open Go.RowKit

theorem BxL.putR {w wx : World} {us zs : List Value} (h : BxL w wx us zs) (o : Nat) (vs : List Value) (ho : o + vs.length ≤ zs.length) : BxL w (wx.setCells (w.heap.size + 1) o vs) us (zs.take o ++ vs ++ zs.drop (o + vs.length)) :=
  ⟨cellsL_other h.c (by omega) o vs, cellsL_put h.r o vs ho, fun q => by rw [World.frozen?_setCells]; exact h.fc q, fun q => by rw [World.frozen?_setCells]; exact h.fr q, below_setCellsL (by omega) vs o h.b, by rw [size_setCellsL]; exact h.z⟩

end Go.Proofs.YtfhfkbdaglegpaaGreatDoor

namespace Go.Proofs.YtfhfkbdaglegpaaGreatDoor
open Go.RowKit

end Go.Proofs.YtfhfkbdaglegpaaGreatDoor

namespace Go.Proofs.YtfhfkbdaglegpaaGreatDoor
open Go.RowKit

section
variable {S : Nat → Prop} {w w' : World} {A : Option Addr} {c g : Nat}
theorem LentFo.grown {f : Fo} (h : LentFo S w A c f) (hS : ∀ b, S b → b ≠ g) (hg : w.grownBy w' (some g)) : LentFo S w' A c f := by
  obtain ⟨g', e, h1, h2, h3, h4⟩ := h
  exact ⟨g', e, h1, h2, h3, ((h4.bound.keep ⟨h1, h4.lt⟩ (fun b hb => hg.block b hb.2 (fun e => hS b hb.1 (by injection e)))).mono fun b hb => hb.1)⟩
theorem LentCells.below (hB : Below w.heap.size w w') : ∀ {f : Fo} {vs : List Value}, LentCells S w vs f → LentCells S w' vs f
  | .nil, _, h => h
  | .cons _ _ _ _ _, _, ⟨KA, kc, vs', h1, h2, h3, h4, h5, h6⟩ => ⟨KA, kc, vs', h1, h2, h3, h4, h5.below hB, LentCells.below hB h6⟩
theorem LentCells.grown (hS : ∀ b, S b → b ≠ g) (hg : w.grownBy w' (some g)) : ∀ {f : Fo} {vs : List Value}, LentCells S w vs f → LentCells S w' vs f
  | .nil, _, h => h
  | .cons _ _ _ _ _, _, ⟨KA, kc, vs', h1, h2, h3, h4, h5, h6⟩ => ⟨KA, kc, vs', h1, h2, h3, h4, h5.grown hS hg, LentCells.grown hS hg h6⟩
end

end Go.Proofs.YtfhfkbdaglegpaaGreatDoor
