/- Rows of named patches in memory. Printed by gen_named.py. -/
import Derived.Laws.IdiomCopy
import Derived.Deep.CutBlock
import Derived.Deep.DeepCutAuto
import Derived.Test.YtjjaojnglnpgaaaGreatDoorLBase
import Derived.Test.YtjjaojnglnpgaaaGreatDoorLLent

set_option linter.unusedVariables false
set_option linter.unusedSimpArgs false

namespace Go.Proofs.YtjjaojnglnpgaaaGreatDoor
open Go.RowKit

structure Nd where
  name : ByteArray
  pt : Pt
/-- named patches lie one behind the other from the address on -/
def NdIn (S : Nat → Prop) (w : World) : Option Addr → List Nd → Prop
  | _, [] => True
  | A, d :: r => ∃ b o, ∃ x : Ph, A = some ⟨b, o, none⟩ ∧ S b ∧ (w.cell? ⟨b, o, none⟩ = some (.string d.name) ∧ w.cell? ⟨b, o + 1, none⟩ = some (.int .u8 d.pt.kind) ∧ w.cell? ⟨b, o + 2, none⟩ = some (.string d.pt.file) ∧ w.cell? ⟨b, o + 3, none⟩ = some (.string d.pt.text) ∧ w.cell? ⟨b, o + 4, none⟩ = some (.int .i64 d.pt.hunk.at_) ∧ w.cell? ⟨b, o + 5, none⟩ = some (.slice x.h.oA d.pt.hunk.old.length x.h.oc) ∧ w.cell? ⟨b, o + 6, none⟩ = some (.slice x.h.nA d.pt.hunk.new.length x.h.nc) ∧ w.cell? ⟨b, o + 7, none⟩ = some (.int .u8 d.pt.edit.kind) ∧ w.cell? ⟨b, o + 8, none⟩ = some (.slice x.e.pA d.pt.edit.path.length x.e.pc) ∧ w.cell? ⟨b, o + 9, none⟩ = some (.int .i64 d.pt.edit.at_) ∧ w.cell? ⟨b, o + 10, none⟩ = some (.int .i64 d.pt.edit.far) ∧ w.cell? ⟨b, o + 11, none⟩ = some (.string d.pt.edit.frm) ∧ w.cell? ⟨b, o + 12, none⟩ = some (.string d.pt.edit.to) ∧ w.cell? ⟨b, o + 13, none⟩ = some (.slice x.e.oA d.pt.edit.old.len x.e.oc) ∧ w.cell? ⟨b, o + 14, none⟩ = some (.slice x.e.nA d.pt.edit.new.len x.e.nc)) ∧
      d.name.size ≤ 9223372036854775807 ∧ PtIn S w x d.pt ∧ NdIn S w (some ⟨b, o + 15, none⟩) r
section
variable {S S' : Nat → Prop} {w w' : World}
theorem NdIn.keep : ∀ {l : List Nd} {A : Option Addr}, NdIn S w A l → (∀ b, S b → w'.heap[b]? = w.heap[b]?) → NdIn S w' A l := by
  intro l
  induction l with
  | nil => intro A _ _; exact trivial
  | cons d r ih =>
    rintro A ⟨b, o, x, rfl, hS, ⟨c0, c1, c2, c3, c4, c5, c6, c7, c8, c9, c10, c11, c12, c13, c14⟩, hn, hp, hr⟩ hk
    have hb := hk b hS
    exact ⟨b, o, x, rfl, hS, ⟨(World.cell?_of_block hb).trans c0, (World.cell?_of_block hb).trans c1, (World.cell?_of_block hb).trans c2, (World.cell?_of_block hb).trans c3, (World.cell?_of_block hb).trans c4, (World.cell?_of_block hb).trans c5, (World.cell?_of_block hb).trans c6, (World.cell?_of_block hb).trans c7, (World.cell?_of_block hb).trans c8, (World.cell?_of_block hb).trans c9, (World.cell?_of_block hb).trans c10, (World.cell?_of_block hb).trans c11, (World.cell?_of_block hb).trans c12, (World.cell?_of_block hb).trans c13, (World.cell?_of_block hb).trans c14⟩, hn, hp.keep hk, ih hr hk⟩
theorem NdIn.mono : ∀ {l : List Nd} {A : Option Addr}, NdIn S w A l → (∀ b, b < w.heap.size → S b → S' b) → NdIn S' w A l := by
  intro l
  induction l with
  | nil => intro A _ _; exact trivial
  | cons d r ih =>
    rintro A ⟨b, o, x, rfl, hS, hc, hn, hp, hr⟩ hm
    exact ⟨b, o, x, rfl, hm b (block_lt_of_cell hc.1) hS, hc, hn, hp.mono hm, ih hr hm⟩
theorem NdIn.below {l : List Nd} {A : Option Addr} (h : NdIn S w A l) (hb : Below w.heap.size w w') : NdIn S w' A l := by
  have h2 : NdIn (fun b => S b ∧ b < w.heap.size) w A l := h.mono fun b hlt hS => ⟨hS, hlt⟩
  exact (h2.keep (w' := w') fun b hS => hb.block b hS.2).mono fun b _ hS => hS.1
/-- the one at a place -/
theorem NdIn.at_ : ∀ {l : List Nd} {A : Option Addr} {i : Nat}, NdIn S w A l → (hi : i < l.length) → ∃ b o, ∃ x : Ph, ∃ d : Nd, A = some ⟨b, o, none⟩ ∧ l[i]? = some d ∧
    (w.cell? ⟨b, o + i * 15, none⟩ = some (.string d.name) ∧ w.cell? ⟨b, o + i * 15 + 1, none⟩ = some (.int .u8 d.pt.kind) ∧ w.cell? ⟨b, o + i * 15 + 2, none⟩ = some (.string d.pt.file) ∧ w.cell? ⟨b, o + i * 15 + 3, none⟩ = some (.string d.pt.text) ∧ w.cell? ⟨b, o + i * 15 + 4, none⟩ = some (.int .i64 d.pt.hunk.at_) ∧ w.cell? ⟨b, o + i * 15 + 5, none⟩ = some (.slice x.h.oA d.pt.hunk.old.length x.h.oc) ∧ w.cell? ⟨b, o + i * 15 + 6, none⟩ = some (.slice x.h.nA d.pt.hunk.new.length x.h.nc) ∧ w.cell? ⟨b, o + i * 15 + 7, none⟩ = some (.int .u8 d.pt.edit.kind) ∧ w.cell? ⟨b, o + i * 15 + 8, none⟩ = some (.slice x.e.pA d.pt.edit.path.length x.e.pc) ∧ w.cell? ⟨b, o + i * 15 + 9, none⟩ = some (.int .i64 d.pt.edit.at_) ∧ w.cell? ⟨b, o + i * 15 + 10, none⟩ = some (.int .i64 d.pt.edit.far) ∧ w.cell? ⟨b, o + i * 15 + 11, none⟩ = some (.string d.pt.edit.frm) ∧ w.cell? ⟨b, o + i * 15 + 12, none⟩ = some (.string d.pt.edit.to) ∧ w.cell? ⟨b, o + i * 15 + 13, none⟩ = some (.slice x.e.oA d.pt.edit.old.len x.e.oc) ∧ w.cell? ⟨b, o + i * 15 + 14, none⟩ = some (.slice x.e.nA d.pt.edit.new.len x.e.nc)) ∧ d.name.size ≤ 9223372036854775807 ∧ PtIn S w x d.pt := by
  intro l
  induction l with
  | nil => intro A i _ h; simp at h
  | cons d r ih =>
    rintro A i ⟨b, o, x, rfl, hS, hc, hn, hp, hr⟩ hi
    cases i with
    | zero => exact ⟨b, o, x, d, rfl, rfl, by simpa using hc, hn, hp⟩
    | succ i =>
      obtain ⟨b', o', x', d', hA, hd, hc', hn', hp'⟩ := ih hr (by simpa using hi)
      injection hA with hA
      injection hA with h1 h2
      subst h1
      subst h2
      have ho : o + 15 + i * 15 = o + (i + 1) * 15 := by omega
      rw [ho] at hc'
      exact ⟨b, o, x', d', rfl, by simpa using hd, hc', hn', hp'⟩
end

end Go.Proofs.YtjjaojnglnpgaaaGreatDoor

namespace Go.Proofs.YtjjaojnglnpgaaaGreatDoor
open Go.RowKit

section
variable {S S' : Nat → Prop} {w w' : World} {A : Option Addr} {c : Nat}
theorem LentStrs.keep {l : List ByteArray} (h : LentStrs S w A c l) (hk : ∀ b, S b → w'.heap[b]? = w.heap[b]?) : LentStrs S w' A c l := ⟨h.1.keep hk, h.2⟩
theorem LentInts.keep {l : List Int} (h : LentInts S w A c l) (hk : ∀ b, S b → w'.heap[b]? = w.heap[b]?) : LentInts S w' A c l := ⟨h.1.keep hk, h.2⟩
theorem LentFo.keep {f : Fo} (h : LentFo S w A c f) (hk : ∀ b, S b → w'.heap[b]? = w.heap[b]?) : LentFo S w' A c f := by
  obtain ⟨g, e, h1, h2, h3, h4⟩ := h
  exact ⟨g, e, h1, h2, h3, h4.keep h1 hk⟩
theorem LentHk.keep {x : Hh} {h : Hk} (a : LentHk S w x h) (hk : ∀ b, S b → w'.heap[b]? = w.heap[b]?) : LentHk S w' x h := ⟨a.at_, a.old.keep hk, a.new.keep hk⟩
theorem LentEd.keep {x : Eh} {e : Ed} (a : LentEd S w x e) (hk : ∀ b, S b → w'.heap[b]? = w.heap[b]?) : LentEd S w' x e := ⟨a.kind, a.path.keep hk, a.at_, a.far, a.frm, a.to, a.old.keep hk, a.new.keep hk⟩
theorem LentPt.keep {x : Ph} {p : Pt} (a : LentPt S w x p) (hk : ∀ b, S b → w'.heap[b]? = w.heap[b]?) : LentPt S w' x p := ⟨a.kind, a.file, a.text, a.hunk.keep hk, a.edit.keep hk⟩
/-- from the place o of block g on -/
def LentNdAt (S : Nat → Prop) (w : World) : Nat → Nat → List Nd → Prop
  | g, o, [] => ∀ i, i < 12 → w.cell? ⟨g, o + i * 15, none⟩ = some (.string (markT i)) ∧ w.cell? ⟨g, o + i * 15 + 1, none⟩ = some (.int .u8 0) ∧ w.cell? ⟨g, o + i * 15 + 2, none⟩ = some (.string ⟨#[]⟩) ∧ w.cell? ⟨g, o + i * 15 + 3, none⟩ = some (.string ⟨#[]⟩) ∧ w.cell? ⟨g, o + i * 15 + 4, none⟩ = some (.int .i64 0) ∧ w.cell? ⟨g, o + i * 15 + 5, none⟩ = some (.slice none 0 0) ∧ w.cell? ⟨g, o + i * 15 + 6, none⟩ = some (.slice none 0 0) ∧ w.cell? ⟨g, o + i * 15 + 7, none⟩ = some (.int .u8 0) ∧ w.cell? ⟨g, o + i * 15 + 8, none⟩ = some (.slice none 0 0) ∧ w.cell? ⟨g, o + i * 15 + 9, none⟩ = some (.int .i64 0) ∧ w.cell? ⟨g, o + i * 15 + 10, none⟩ = some (.int .i64 0) ∧ w.cell? ⟨g, o + i * 15 + 11, none⟩ = some (.string ⟨#[]⟩) ∧ w.cell? ⟨g, o + i * 15 + 12, none⟩ = some (.string ⟨#[]⟩) ∧ w.cell? ⟨g, o + i * 15 + 13, none⟩ = some (.slice none 0 0) ∧ w.cell? ⟨g, o + i * 15 + 14, none⟩ = some (.slice none 0 0)
  | g, o, d :: r => ∃ x : Ph, (w.cell? ⟨g, o, none⟩ = some (.string d.name) ∧ w.cell? ⟨g, o + 1, none⟩ = some (.int .u8 d.pt.kind) ∧ w.cell? ⟨g, o + 2, none⟩ = some (.string d.pt.file) ∧ w.cell? ⟨g, o + 3, none⟩ = some (.string d.pt.text) ∧ w.cell? ⟨g, o + 4, none⟩ = some (.int .i64 d.pt.hunk.at_) ∧ w.cell? ⟨g, o + 5, none⟩ = some (.slice x.h.oA d.pt.hunk.old.length x.h.oc) ∧ w.cell? ⟨g, o + 6, none⟩ = some (.slice x.h.nA d.pt.hunk.new.length x.h.nc) ∧ w.cell? ⟨g, o + 7, none⟩ = some (.int .u8 d.pt.edit.kind) ∧ w.cell? ⟨g, o + 8, none⟩ = some (.slice x.e.pA d.pt.edit.path.length x.e.pc) ∧ w.cell? ⟨g, o + 9, none⟩ = some (.int .i64 d.pt.edit.at_) ∧ w.cell? ⟨g, o + 10, none⟩ = some (.int .i64 d.pt.edit.far) ∧ w.cell? ⟨g, o + 11, none⟩ = some (.string d.pt.edit.frm) ∧ w.cell? ⟨g, o + 12, none⟩ = some (.string d.pt.edit.to) ∧ w.cell? ⟨g, o + 13, none⟩ = some (.slice x.e.oA d.pt.edit.old.len x.e.oc) ∧ w.cell? ⟨g, o + 14, none⟩ = some (.slice x.e.nA d.pt.edit.new.len x.e.nc)) ∧ d.name.size ≤ 9223372036854775807 ∧ LentPt S w x d.pt ∧ LentNdAt S w g (o + 15) r
def LentNds (S : Nat → Prop) (w : World) (A : Option Addr) (c : Nat) (l : List Nd) : Prop := ∃ g, A = some ⟨g, 0, none⟩ ∧ S g ∧ l.length + 12 ≤ c ∧ c ≤ 9223372036854775807 ∧ LentNdAt S w g 0 l
theorem LentNdAt.nd : ∀ {l : List Nd} {g o : Nat}, S g → LentNdAt S w g o l → NdIn S w (some ⟨g, o, none⟩) l
  | [], _, _, _, _ => trivial
  | _ :: _, g, o, hS, ⟨x, hc, hn, hp, hr⟩ => ⟨g, o, x, rfl, hS, hc, hn, hp.pt, LentNdAt.nd hS hr⟩
theorem LentNds.nd {l : List Nd} (h : LentNds S w A c l) : NdIn S w A l ∧ l.length ≤ c := by
  obtain ⟨g, rfl, h1, h2, h3, h4⟩ := h
  exact ⟨h4.nd h1, by omega⟩
theorem LentNdAt.keep : ∀ {l : List Nd} {g o : Nat}, S g → LentNdAt S w g o l → (∀ b, S b → w'.heap[b]? = w.heap[b]?) → LentNdAt S w' g o l
  | [], g, o, hS, h, hk => fun i hi => by
    obtain ⟨c0, c1, c2, c3, c4, c5, c6, c7, c8, c9, c10, c11, c12, c13, c14⟩ := h i hi
    have hb := hk g hS
    exact ⟨(World.cell?_of_block hb).trans c0, (World.cell?_of_block hb).trans c1, (World.cell?_of_block hb).trans c2, (World.cell?_of_block hb).trans c3, (World.cell?_of_block hb).trans c4, (World.cell?_of_block hb).trans c5, (World.cell?_of_block hb).trans c6, (World.cell?_of_block hb).trans c7, (World.cell?_of_block hb).trans c8, (World.cell?_of_block hb).trans c9, (World.cell?_of_block hb).trans c10, (World.cell?_of_block hb).trans c11, (World.cell?_of_block hb).trans c12, (World.cell?_of_block hb).trans c13, (World.cell?_of_block hb).trans c14⟩
  | _ :: _, g, o, hS, ⟨x, ⟨c0, c1, c2, c3, c4, c5, c6, c7, c8, c9, c10, c11, c12, c13, c14⟩, hn, hp, hr⟩, hk =>
    have hb := hk g hS
    ⟨x, ⟨(World.cell?_of_block hb).trans c0, (World.cell?_of_block hb).trans c1, (World.cell?_of_block hb).trans c2, (World.cell?_of_block hb).trans c3, (World.cell?_of_block hb).trans c4, (World.cell?_of_block hb).trans c5, (World.cell?_of_block hb).trans c6, (World.cell?_of_block hb).trans c7, (World.cell?_of_block hb).trans c8, (World.cell?_of_block hb).trans c9, (World.cell?_of_block hb).trans c10, (World.cell?_of_block hb).trans c11, (World.cell?_of_block hb).trans c12, (World.cell?_of_block hb).trans c13, (World.cell?_of_block hb).trans c14⟩, hn, hp.keep hk, LentNdAt.keep hS hr hk⟩
theorem LentNds.keep {l : List Nd} (h : LentNds S w A c l) (hk : ∀ b, S b → w'.heap[b]? = w.heap[b]?) : LentNds S w' A c l := by
  obtain ⟨g, e, h1, h2, h3, h4⟩ := h
  exact ⟨g, e, h1, h2, h3, h4.keep h1 hk⟩
end

end Go.Proofs.YtjjaojnglnpgaaaGreatDoor

namespace Go.Proofs.YtjjaojnglnpgaaaGreatDoor
open Go.RowKit

def CellsL (w : World) (N : Nat) (vs : List Value) : Prop := ∀ j u, vs[j]? = some u → w.cell? ⟨N, j, none⟩ = some u
theorem heap_setCellsL (b : Nat) {k : Nat} (hk : k ≠ b) : ∀ (vs : List Value) (o : Nat) (w : World), (w.setCells b o vs).heap[k]? = w.heap[k]?
  | [], _, _ => rfl
  | v :: r, o, w => by rw [World.setCells, heap_setCellsL b hk r, Below.heap_setCell _ _ _ k hk]
theorem size_setCellsL (b : Nat) : ∀ (vs : List Value) (o : Nat) (w : World), (w.setCells b o vs).heap.size = w.heap.size
  | [], _, _ => rfl
  | v :: r, o, w => by rw [World.setCells, size_setCellsL b r]; simp [World.setCell]
theorem below_setCellsL {B b : Nat} (hb : B ≤ b) : ∀ (vs : List Value) (o : Nat) {w w' : World}, Below B w w' → Below B w (w'.setCells b o vs)
  | [], _, _, _, h => h
  | v :: r, o, _, _, h => below_setCellsL hb r (o + 1) (h.setCell (p := ⟨b, o, none⟩) hb v)
theorem cellsL_put {w : World} {N : Nat} {us : List Value} (hu : CellsL w N us) (o : Nat) (vs : List Value) (ho : o + vs.length ≤ us.length) : CellsL (w.setCells N o vs) N (us.take o ++ vs ++ us.drop (o + vs.length)) := by
  intro j u hj
  have hl : (us.take o).length = o := by simp; omega
  by_cases h1 : j < o
  · rw [World.cell?_setCells_out N vs o w ⟨N, j, none⟩ (fun _ _ => .inl h1)]
    rw [List.append_assoc, List.getElem?_append_left (by omega), List.getElem?_take, if_pos h1] at hj
    exact hu j u hj
  · by_cases h2 : j < o + vs.length
    · have h3 := World.cell?_setCells_in N vs o w (fun i hi => by
        have : us[o + i]? = some us[o + i] := List.getElem?_eq_getElem (by omega)
        rw [hu _ _ this]; rfl) (j - o) (by omega)
      rw [show o + (j - o) = j by omega] at h3
      rw [h3]
      rw [List.append_assoc, List.getElem?_append_right (by omega), hl, List.getElem?_append_left (by omega), List.getElem?_eq_getElem (by omega)] at hj
      exact hj
    · rw [World.cell?_setCells_out N vs o w ⟨N, j, none⟩ (fun _ _ => .inr (by show o + vs.length ≤ j; omega))]
      rw [List.append_assoc, List.getElem?_append_right (by omega), hl, List.getElem?_append_right (by omega), List.getElem?_drop] at hj
      rw [show o + vs.length + (j - o - vs.length) = j by omega] at hj
      exact hu j u hj
theorem cellsL_other {w : World} {N M : Nat} {us : List Value} (hu : CellsL w M us) (hM : M ≠ N) (o : Nat) (vs : List Value) : CellsL (w.setCells N o vs) M us :=
  fun j u hj => (World.cell?_setCells_out N vs o w ⟨M, j, none⟩ (fun e _ => absurd e hM)).trans (hu j u hj)
/-- block N holds us, block N + 1 zs: both the call's own -/
structure BxL (w wx : World) (us zs : List Value) : Prop where
  c : CellsL wx w.heap.size us
  r : CellsL wx (w.heap.size + 1) zs
  fc : ∀ o, wx.frozen? ⟨w.heap.size, o, none⟩ = false
  fr : ∀ o, wx.frozen? ⟨w.heap.size + 1, o, none⟩ = false
  b : Below w.heap.size w wx
  z : w.heap.size + 2 ≤ wx.heap.size
section
variable {w wx w1 : World} {us zs : List Value}
theorem BxL.start (w : World) (cs ds : Array Value) (t u : TypeId) : BxL w ((w.alloc (.cells cs t)).alloc (.cells ds u)) cs.toList ds.toList :=
  ⟨fun j v hv => by rw [World.cell?_alloc2_first]; simpa using hv, fun j v hv => by rw [World.cell?_alloc2_new]; simpa using hv, fun o => World.frozen?_alloc2_first _ _ _ _, fun o => World.frozen?_alloc2_new _ _ _ _, below2 _ _, by simp⟩
theorem BxL.call (h : BxL w wx us zs) (hB : Below wx.heap.size wx w1) : BxL w w1 us zs := by
  have hz := h.z
  exact ⟨fun j v hv => (hB.cell (p := ⟨w.heap.size, j, none⟩) (by simp only; omega)).trans (h.c j v hv), fun j v hv => (hB.cell (p := ⟨w.heap.size + 1, j, none⟩) (by simp only; omega)).trans (h.r j v hv),
    fun o => (hB.frozen (p := ⟨w.heap.size, o, none⟩) (by simp only; omega)).trans (h.fc o), fun o => (hB.frozen (p := ⟨w.heap.size + 1, o, none⟩) (by simp only; omega)).trans (h.fr o), blw_up h.b hB, Nat.le_trans hz hB.size⟩
theorem BxL.put (h : BxL w wx us zs) (o : Nat) (vs : List Value) (ho : o + vs.length ≤ us.length) : BxL w (wx.setCells w.heap.size o vs) (us.take o ++ vs ++ us.drop (o + vs.length)) zs :=
  ⟨cellsL_put h.c o vs ho, cellsL_other h.r (by omega) o vs, fun q => by rw [World.frozen?_setCells]; exact h.fc q, fun q => by rw [World.frozen?_setCells]; exact h.fr q, below_setCellsL (Nat.le_refl _) vs o h.b, by rw [size_setCellsL]; exact h.z⟩
theorem BxL.res (h : BxL w wx us zs) (vs : List Value) (hl : vs.length = zs.length) : CellsL (wx.setCells (w.heap.size + 1) 0 vs) (w.heap.size + 1) vs ∧ Below w.heap.size w (wx.setCells (w.heap.size + 1) 0 vs) := by
  refine ⟨?_, below_setCellsL (by omega) vs 0 h.b⟩
  have := cellsL_put h.r 0 vs (by omega)
  rw [List.take_zero, List.nil_append, List.drop_eq_nil_of_le (by omega), List.append_nil] at this
  exact this
end

/-! ### what is lent stays so -/
section
variable {S S' : Nat → Prop} {w w' : World} {A : Option Addr} {c : Nat}
theorem LentRow.below {n : Nat} {e : TypeId} {vs : List Value} (h : LentRow S w A c n e vs) (hB : Below w.heap.size w w') : LentRow S w' A c n e vs := by
  obtain ⟨g, cs, h1, h2, h3, h4⟩ := h
  exact ⟨g, cs, h1, h2, (hB.block g (Array.getElem?_eq_some_iff.1 h3).1).trans h3, h4⟩
theorem LentAt.lt : ∀ {f : Fo} {g o : Nat}, LentAt S w g o f → g < w.heap.size
  | .nil, _, _, h => block_lt_of_cell (h 0 (by omega)).1
  | .cons _ _ _ _ _, _, _, ⟨_, _, c0, _⟩ => block_lt_of_cell c0
theorem LentAt.bound : ∀ {f : Fo} {g o : Nat}, LentAt S w g o f → LentAt (fun b => S b ∧ b < w.heap.size) w g o f
  | .nil, _, _, h => h
  | .cons k t n ks r, g, o, ⟨g', kc, c0, c1, c2, c3, h1, h2, h3, h4, h5, h6, h7, h8⟩ => ⟨g', kc, c0, c1, c2, c3, h1, h2, h3, h4, h5, ⟨h6, h7.lt⟩, LentAt.bound h7, LentAt.bound h8⟩
theorem LentFo.below {f : Fo} (h : LentFo S w A c f) (hB : Below w.heap.size w w') : LentFo S w' A c f := by
  obtain ⟨g, e, h1, h2, h3, h4⟩ := h
  exact ⟨g, e, h1, h2, h3, ((h4.bound.keep ⟨h1, h4.lt⟩ (fun b hb => hB.block b hb.2)).mono fun b hb => hb.1)⟩
theorem LentStrs.below {l : List ByteArray} (h : LentStrs S w A c l) (hB : Below w.heap.size w w') : LentStrs S w' A c l := ⟨h.1.below hB, h.2⟩
theorem LentInts.below {l : List Int} (h : LentInts S w A c l) (hB : Below w.heap.size w w') : LentInts S w' A c l := ⟨h.1.below hB, h.2⟩
theorem LentHk.below {x : Hh} {h : Hk} (a : LentHk S w x h) (hB : Below w.heap.size w w') : LentHk S w' x h := ⟨a.at_, a.old.below hB, a.new.below hB⟩
theorem LentEd.below {x : Eh} {e : Ed} (a : LentEd S w x e) (hB : Below w.heap.size w w') : LentEd S w' x e := ⟨a.kind, a.path.below hB, a.at_, a.far, a.frm, a.to, a.old.below hB, a.new.below hB⟩
theorem LentPt.below {x : Ph} {p : Pt} (a : LentPt S w x p) (hB : Below w.heap.size w w') : LentPt S w' x p := ⟨a.kind, a.file, a.text, a.hunk.below hB, a.edit.below hB⟩
theorem LentStrs.mono {l : List ByteArray} (h : LentStrs S w A c l) (hm : ∀ b, S b → S' b) : LentStrs S' w A c l := ⟨h.1.mono fun b _ hb => hm b hb, h.2⟩
theorem LentInts.mono {l : List Int} (h : LentInts S w A c l) (hm : ∀ b, S b → S' b) : LentInts S' w A c l := ⟨h.1.mono fun b _ hb => hm b hb, h.2⟩
theorem LentHk.mono {x : Hh} {h : Hk} (a : LentHk S w x h) (hm : ∀ b, S b → S' b) : LentHk S' w x h := ⟨a.at_, a.old.mono hm, a.new.mono hm⟩
theorem LentEd.mono {x : Eh} {e : Ed} (a : LentEd S w x e) (hm : ∀ b, S b → S' b) : LentEd S' w x e := ⟨a.kind, a.path.mono hm, a.at_, a.far, a.frm, a.to, a.old.mono hm, a.new.mono hm⟩
theorem LentPt.mono {x : Ph} {p : Pt} (a : LentPt S w x p) (hm : ∀ b, S b → S' b) : LentPt S' w x p := ⟨a.kind, a.file, a.text, a.hunk.mono hm, a.edit.mono hm⟩
end

end Go.Proofs.YtjjaojnglnpgaaaGreatDoor

namespace Go.Proofs.YtjjaojnglnpgaaaGreatDoor
open Go.RowKit

set_option maxHeartbeats 2000000 in
theorem markNode_any {n : Int} (h : 0 ≤ n ∧ n < 12) (w : World) : Calls Tryz.prog 147 #[.int .i64 1, .int .i64 n] w fun e w' => e = .returned (.agg #[.int .u8 0, .string ⟨#[]⟩, .int .i64 (8000024 + n), .slice none 0 0]) ∧ Below w.heap.size w w' := by
  go_enter Tryz.func147, Tryz.ntmps147
  go_wp2_with (go_at_call 144; (with_reducible refine (mark_any n h _).mono ?_); rintro e1 w1 ⟨rfl, rfl⟩)
  have hc := Lib.cell_of_heap (heap_alloc_new w (.cells #[.int .u8 0, .string ⟨#[]⟩, .int .i64 (8000024 + n), .slice none 0 0] 218))
  have c0 := hc 0
  have c1 := hc 1
  have c2 := hc 2
  have c3 := hc 3
  simp only [List.getElem?_toArray, List.getElem?_cons_zero, List.getElem?_cons_succ] at c0 c1 c2 c3
  refine bodyPost_ret (v := .agg #[.int .u8 0, .string ⟨#[]⟩, .int .i64 (8000024 + n), .slice none 0 0]) ?_ rfl ⟨rfl, below_alloc _ _⟩
  simp only [results, Tryz.results147]
  go_simp

abbrev LentCall (A : Option Addr) (c : Nat) (ks : Fo) (W : World) : Prop :=
  Calls Tryz.prog 168 #[.slice A ks.len c] W fun e w' => ∃ A' c', e = .returned (.slice A' ks.len c') ∧ LentFo (fun b => W.heap.size ≤ b) w' A' c' ks ∧ Below W.heap.size W w'
set_option maxHeartbeats 2000000 in
set_option maxRecDepth 100000 in
theorem lentNode_of {k : Nat} {t : ByteArray} {n : Int} {A : Option Addr} {c : Nat} {ks : Fo} {w : World} (hk : ∀ W, Below w.heap.size w W → LentCall A c ks W) :
    Calls Tryz.prog 210 #[.agg #[.int .u8 k, .string t, .int .i64 n, .slice A ks.len c]] w fun e w' => ∃ A' c', e = .returned (.agg #[.int .u8 k, .string t, .int .i64 n, .slice A' ks.len c']) ∧ LentFo (fun b => w.heap.size ≤ b) w' A' c' ks ∧ Below w.heap.size w w' := by
  have Hk := hide hk
  clear hk
  obtain ⟨W0, hW0⟩ : ∃ W0, W0 = (w.alloc (.cells #[.int .u8 k, .string t, .int .i64 n, .slice A ks.len c] 218)).alloc (.cells #[.int .u8 0, .string ⟨#[]⟩, .int .i64 0, .slice none 0 0] 218) := ⟨_, rfl⟩
  have hB0 : BxL w W0 [.int .u8 k, .string t, .int .i64 n, .slice A ks.len c] [.int .u8 0, .string ⟨#[]⟩, .int .i64 0, .slice none 0 0] := by rw [hW0]; exact BxL.start w #[.int .u8 k, .string t, .int .i64 n, .slice A ks.len c] #[.int .u8 0, .string ⟨#[]⟩, .int .i64 0, .slice none 0 0] _ _
  have HW0 := hide hW0
  clear hW0
  go_enter Tryz.func210, Tryz.ntmps210
  go_upto_region 1 with fail
  change Code.wp _ _ _ _ ((w.alloc (.cells #[.int .u8 k, .string t, .int .i64 n, .slice A ks.len c] 218)).alloc (.cells #[.int .u8 0, .string ⟨#[]⟩, .int .i64 0, .slice none 0 0] 218))
  rw [← HW0.out]
  clear HW0
  have b0 := hB0.c 0 _ rfl
  have b1 := hB0.c 1 _ rfl
  have b2 := hB0.c 2 _ rfl
  have b3 := hB0.c 3 _ rfl
  have HB0 := hide hB0
  clear hB0
  go_cut [] (fun wx => ∃ A1 c1, BxL w wx [.int .u8 k, .string t, .int .i64 n, .slice A1 ks.len c1] [.int .u8 0, .string ⟨#[]⟩, .int .i64 0, .slice none 0 0] ∧ LentFo (fun b => w.heap.size + 2 ≤ b) wx A1 c1 ks)
  case first =>
    go_wp2_with (go_at_call 168; (with_reducible refine (Hk.out _ HB0.out.b).mono ?_); rintro e1 w1 ⟨A1, c1, rfl, hL, hB⟩; have hC := HB0.out.call hB; have hz := hC.z; have d0 := hC.c 0 _ rfl; have d1 := hC.c 1 _ rfl; have d2 := hC.c 2 _ rfl; have d3 := hC.c 3 _ rfl; have hf := hC.fc; have HC := hide hC; have HL := hide hL; have HBB := hide hB; clear hC hL hB)
    go_meet
    exact ⟨_, _, HC.out.put 3 [.slice A1 ks.len c1] (by simp), ((HL.out.mono (S' := fun b => w.heap.size + 2 ≤ b) (fun b hb => Nat.le_trans HB0.out.z hb)).keep fun b hb => heap_setCellsL w.heap.size (by omega) [.slice A1 ks.len c1] 3 w1)⟩
  case rest =>
  obtain ⟨A1, c1, hB1, hl⟩ := hcut
  clear HB0 b0 b1 b2 b3
  have Hhl := hide hl
  clear hl
  go_upto_region 2 with fail
  have hl := Hhl.out
  clear Hhl
  have b0 := hB1.c 0 _ rfl
  have b1 := hB1.c 1 _ rfl
  have b2 := hB1.c 2 _ rfl
  have b3 := hB1.c 3 _ rfl
  have r0 := hB1.r 0 _ rfl
  have r1 := hB1.r 1 _ rfl
  have r2 := hB1.r 2 _ rfl
  have r3 := hB1.r 3 _ rfl
  have hfr := hB1.fr
  obtain ⟨hR, hBe⟩ := hB1.res [.int .u8 k, .string t, .int .i64 n, .slice A1 ks.len c1] rfl
  have hz := hB1.z
  have hlr := (hl.keep (w' := World.setCells wc (w.heap.size + 1) 0 [.int .u8 k, .string t, .int .i64 n, .slice A1 ks.len c1]) fun b hb => heap_setCellsL (w.heap.size + 1) (by omega) _ _ _)
  have Hhl := hide hlr
  clear hl hlr
  have HBe := hide hBe
  clear hB1 hBe
  obtain ⟨wF, hF⟩ : ∃ wF, wF = World.setCells wc (w.heap.size + 1) 0 [.int .u8 k, .string t, .int .i64 n, .slice A1 ks.len c1] := ⟨_, rfl⟩
  rw [← hF] at hR
  rw [← hF] at Hhl
  rw [← hF] at HBe
  simp only [World.setCells, Nat.reduceAdd] at hF
  have HR := hide hR
  have HF := hide hF
  clear hR hF
  go_wp2_with fail
  rw [← HF.out]
  clear HF
  have q0 := HR.out 0 _ rfl
  have q1 := HR.out 1 _ rfl
  have q2 := HR.out 2 _ rfl
  have q3 := HR.out 3 _ rfl
  refine bodyPost_ret (v := .agg #[.int .u8 k, .string t, .int .i64 n, .slice A1 ks.len c1]) ?_ rfl ⟨_, _, rfl, Hhl.mono fun b hb => by omega, HBe⟩
  simp only [results, Tryz.results210]
  go_simp

end Go.Proofs.YtjjaojnglnpgaaaGreatDoor

namespace Go.Proofs.YtjjaojnglnpgaaaGreatDoor
open Go.RowKit

section
variable {S : Nat → Prop} {w w' : World} {A : Option Addr} {c g : Nat}
theorem LentFo.grown {f : Fo} (h : LentFo S w A c f) (hS : ∀ b, S b → b ≠ g) (hg : w.grownBy w' (some g)) : LentFo S w' A c f := by
  obtain ⟨g', e, h1, h2, h3, h4⟩ := h
  exact ⟨g', e, h1, h2, h3, ((h4.bound.keep ⟨h1, h4.lt⟩ (fun b hb => hg.block b hb.2 (fun e => hS b hb.1 (by injection e)))).mono fun b hb => hb.1)⟩
theorem LentCells.below (hB : Below w.heap.size w w') : ∀ {f : Fo} {vs : List Value}, LentCells S w vs f → LentCells S w' vs f
  | .nil, _, h => h
  | .cons _ _ _ _ _, _, ⟨KA, kc, vs', h1, h2, h3, h4, h5, h6⟩ => ⟨KA, kc, vs', h1, h2, h3, h4, h5.below hB, LentCells.below hB h6⟩
theorem LentCells.grown (hS : ∀ b, S b → b ≠ g) (hg : w.grownBy w' (some g)) : ∀ {f : Fo} {vs : List Value}, LentCells S w vs f → LentCells S w' vs f
  | .nil, _, h => h
  | .cons _ _ _ _ _, _, ⟨KA, kc, vs', h1, h2, h3, h4, h5, h6⟩ => ⟨KA, kc, vs', h1, h2, h3, h4, h5.grown hS hg, LentCells.grown hS hg h6⟩
theorem four_at2 (w : World) (ob : Obj) (a b c d : Value) (t : TypeId) : ∀ ad, (some ⟨w.heap.size + 1, 0, none⟩ : Option Addr) = some ad → ∀ j u, [a, b, c, d][j]? = some u → ((w.alloc ob).alloc (.cells #[a, b, c, d] t)).cell? (ad.add j) = some u := by
  intro ad e j u hu
  injection e with e
  subst e
  rw [Addr.add_lit, Nat.zero_add, World.cell?_alloc2_new]
  simpa using hu
theorem four_at (w : World) (a b c d : Value) (t : TypeId) : ∀ ad, (some ⟨w.heap.size, 0, none⟩ : Option Addr) = some ad → ∀ j u, [a, b, c, d][j]? = some u → (w.alloc (.cells #[a, b, c, d] t)).cell? (ad.add j) = some u := by
  intro ad e j u hu
  injection e with e
  subst e
  rw [Addr.add_lit, Nat.zero_add, World.cell?_alloc_new]
  simpa using hu
end

set_option maxRecDepth 100000 in
set_option maxHeartbeats 4000000 in
theorem lentNodes_upto (N : Nat) : ∀ (S : Nat → Prop) (A : Option Addr) (c : Nat) (f : Fo) (w : World), f.cnt < N → FoIn S w A f → f.cnt ≤ 1099511627776 → LentCall A c f w := by
  induction N with
  | zero => intro _ _ _ _ _ h; omega
  | succ N ih =>
    intro S A c f w hN hf hM
    have hlen := Fo.len_le_cnt f
    have Hih := hide ih
    have HN := hide hN
    have Hf := hide hf
    have HM := hide hM
    obtain ⟨i0, hi, ia0, ia1, ia2⟩ := info_parts InfoNode
    clear ih hN hf
    have hlm : f.len ≤ 1099511627776 := by omega
    clear hlen hM
    show Calls Tryz.prog 168 #[.slice A f.len c] w fun e w' => ∃ A' c', e = .returned (.slice A' f.len c') ∧ LentFo (fun b => w.heap.size ≤ b) w' A' c' f ∧ Below w.heap.size w w'
    go_enter Tryz.func168, Tryz.ntmps168
    go_wp2_with (at_make; refine wpList_make_own _ rfl _ _ 39 rfl w.heap.size 218 i0 (.agg #[.int .u8 0, .string ByteArray.empty, .int .i64 0, .slice none 0 0]) 4 Tryz.underlying39 hi ia0 ia1 _ _ _ (f.len + 12) rfl rfl (by omega) (by rw [ia2]; omega) (by unfold maxLen; omega) (Nat.le_refl _) ?_; intro w1 hown hgrow; have HO1 := hide hown; have HB1 : Hid (Below w.heap.size w w1) := hide ((Below.refl _ _).grown hgrow (Nat.le_refl _) (fun k hk => by cases hk)); clear hown hgrow)
    go_loopw [4, 3] (fun i v wr => ∃ (q : Nat) (vs : List Value), q ≤ f.len ∧ i = .int .i64 q ∧ v = .slice (some ⟨w.heap.size, 0, none⟩) q (f.len + 12) ∧ Hid (wr.ownsRow w.heap.size 218 4 (.slice (some ⟨w.heap.size, 0, none⟩) q (f.len + 12)) q vs) ∧ Hid (LentCells (fun b => w.heap.size + 1 ≤ b) wr vs (f.take q)) ∧ Hid (Below w.heap.size w wr)) (fun i _ _ => f.len - (intOf i).toNat)
    case atStart => exact ⟨0, [], Nat.zero_le _, rfl, rfl, HO1, hide (by rw [lent_take_zero]; rfl), HB1⟩
    case round =>
      clear HO1 HB1
      obtain ⟨q, vs, hq, rfl, rfl, HO, HC, HB⟩ := hrel
      by_cases hlt : q < f.len
      · obtain ⟨b, o, KA, kc, k, t, n, ks, r, rfl, hd, c0, c1, c2, c3, e1, e2, e3, e4, e5, hks, hcn⟩ := (Hf.out.below HB.out).at_ hlt
        have Hd := hide hd
        have H3 := hide e3
        have HR : Hid (∀ W, Below wr.heap.size wr W → LentCall KA kc ks W) := hide fun W hW => Hih.out S KA kc ks W (by have := HN.out; omega) (hks.below hW) (by have := HM.out; omega)
        have hsz := HB.out.size
        have hcap := (own_cap12 HO.out).2.2.2
        clear hd e3 hks hcn
        go_wp2_with (first
          | (go_at_call 210; (with_reducible refine (lentNode_of HR.out).mono ?_); rintro e w1 ⟨A1, c1, rfl, hL, hB⟩; have HL := hide hL; have HW1 := hide hB; have hs1 := hB.size; clear hL hB)
          | (at_builtin; refine wpList_append_fits2 _ rfl _ _ 39 rfl w.heap.size 218 i0 4 Tryz.underlying39 hi ia1 w.heap.size q (f.len + 12) vs rfl (((own_stay HO.out HW1.out).alloc _).alloc _) (some ⟨w1.heap.size + 1, 0, none⟩) 1 1 [.int .u8 k, .string t, .int .i64 n, .slice A1 ks.len c1] rfl rfl (by intro h; cases h) (four_at2 _ _ _ _ _ _ _) (by intro u hu; simp at hu; rcases hu with rfl | rfl | rfl | rfl <;> rfl) (by omega) ?_; intro w2 hown2 hgrow2; have HO2 := hide hown2; have HG2 := hide hgrow2; clear hown2 hgrow2))
        have hBx : Below w.heap.size w ((w1.alloc (.cells #[.int .u8 k, .string t, .int .i64 n, .slice A1 ks.len c1] 218)).alloc (.cells #[.int .u8 k, .string t, .int .i64 n, .slice A1 ks.len c1] 218)) := (HB.out.trans (HW1.out.mono hsz)).trans ((below2 _ _).mono (by omega))
        have HB2 := hide (own_grown hBx (Nat.le_refl _) HG2.out)
        have HC2 : Hid (LentCells (fun b => w.heap.size + 1 ≤ b) w2 (vs ++ [.int .u8 k, .string t, .int .i64 n, .slice A1 ks.len c1]) (f.take (q + 1))) := hide (by
          rw [lent_take_next Hd.out]
          refine LentCells.snoc e1 e2 H3.out ?_ ?_
          · exact ((HL.out.mono (fun b hb => by have h9 : wr.heap.size ≤ b := hb; show w.heap.size + 1 ≤ b; omega)).below (below2 _ _)).grown (fun b hb => by omega) HG2.out
          · exact ((HC.out.below HW1.out).below (below2 _ _)).grown (fun b hb => by omega) HG2.out)
        clear hBx
        go_roundw
        case rel => exact ⟨q + 1, _, by omega, by go_num, rfl, HO2, HC2, HB2⟩
        case measure => simp [intOf]; omega
      · obtain rfl : q = f.len := by omega
        have HC0 : Hid (LentCells (fun b => w.heap.size + 1 ≤ b) wr vs f) := hide (by have := HC.out; rwa [lent_take_all] at this)
        clear HC hlt
        go_wp2_with fail
        go_loopw [6, 3] (fun i v wx => ∃ q : Nat, q ≤ 12 ∧ i = .int .i64 q ∧ v = .slice (some ⟨w.heap.size, 0, none⟩) (f.len + q) (f.len + 12) ∧ Hid (wx.ownsRow w.heap.size 218 4 (.slice (some ⟨w.heap.size, 0, none⟩) (f.len + q) (f.len + 12)) (f.len + q) (vs ++ ndMarks q)) ∧ Hid (LentCells (fun b => w.heap.size + 1 ≤ b) wx vs f) ∧ Hid (Below w.heap.size w wx)) (fun i _ _ => 12 - (intOf i).toNat)
        case atStart => exact ⟨0, by omega, rfl, rfl, hide (by have := HO.out; simpa [ndMarks] using this), HC0, HB⟩
        case round =>
          clear HO HC0 HB
          obtain ⟨q, hq, rfl, rfl, HO, HC, HB⟩ := hrel
          by_cases hlt : q < 12
          · have hq12 : (0 : Int) ≤ (q : Int) ∧ (q : Int) < 12 := by omega
            have Hm := hide (ndMarks_next q)
            have hsz := HB.out.size
            go_wp2_with (first
              | (go_at_call 147; (with_reducible refine (markNode_any hq12 _).mono ?_); rintro e1 w1 ⟨rfl, hB⟩; have HO1 := hide (own_stay HO.out hB); have HB1 := hide (HB.out.trans (hB.mono hsz)); have HC1 := hide (HC.out.below hB); clear hB)
              | (at_builtin; refine wpList_append_fits2 _ rfl _ _ 39 rfl w.heap.size 218 i0 4 Tryz.underlying39 hi ia1 w.heap.size (f.len + q) (f.len + 12) _ rfl (HO1.out.alloc _) (some ⟨w1.heap.size, 0, none⟩) 1 1 (ndMark q) rfl rfl (by intro h; cases h) (four_at _ _ _ _ _ _) (by intro u hu; simp [ndMark] at hu; rcases hu with rfl | rfl | rfl | rfl <;> rfl) (by omega) ?_; intro w2 hown2 hgrow2; have HO2 := hide hown2; have HB2 := hide (own_grown (HB1.out.alloc HB1.out.size _) (Nat.le_refl _) hgrow2); have HC2 := hide ((HC1.out.below (below_alloc _ _)).grown (fun b hb => by omega) hgrow2); clear hown2 hgrow2 HO1 HB1 HC1))
            go_roundw
            case rel => exact ⟨q + 1, by omega, by go_num, by rw [Nat.add_assoc], hide (by have h5 := HO2.out; rw [Nat.add_assoc] at h5; rw [Hm.out, ← List.append_assoc]; exact h5), HC2, HB2⟩
            case measure => simp [intOf]; omega
          · obtain rfl : q = 12 := by omega
            have hcap := own_cap12 HO.out
            go_wp2_with fail
            go_ret
            exact ⟨_, _, rfl, ⟨w.heap.size, rfl, Nat.le_refl _, hcap.1, hcap.2.1, (HC.out.at_ (own_cellAt HO.out)).mono (fun b hb => by show w.heap.size ≤ b; omega)⟩, HB.out⟩
theorem lentNodes_any {S : Nat → Prop} {A : Option Addr} {c : Nat} {f : Fo} {w : World} (h : FoIn S w A f) (hM : f.cnt ≤ 1099511627776) : LentCall A c f w := lentNodes_upto (f.cnt + 1) S A c f w (Nat.lt_succ_self _) h hM

end Go.Proofs.YtjjaojnglnpgaaaGreatDoor
