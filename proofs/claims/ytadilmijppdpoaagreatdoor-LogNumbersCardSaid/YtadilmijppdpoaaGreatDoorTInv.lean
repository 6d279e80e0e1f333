/- A node copied. Printed by gen_inv.py. -/
import Derived.Deep.RegionWith
import Derived.Laws.IdiomCopy
import Derived.Deep.RegionHeld
import Derived.Test.YtadilmijppdpoaaGreatDoorTKeep
import Derived.Test.YtadilmijppdpoaaGreatDoorTEdBase
import Derived.Test.YtadilmijppdpoaaGreatDoorTBase
import Derived.Test.YtadilmijppdpoaaGreatDoorTPatRight

set_option linter.unusedVariables false
set_option linter.unusedSimpArgs false

namespace Go.Proofs.YtadilmijppdpoaaGreatDoor
open Go.RowKit

/-- what a call of copied does -/
def Copied (S : Nat → Prop) (k : Nat) (t : ByteArray) (n : Int) (ks : Fo) (w : World) (e : Ending) (w' : World) : Prop :=
  ∃ KA c, e = .returned (.agg #[.int .u8 k, .string t, .int .i64 n, .slice KA ks.len c]) ∧ FoIn S w' KA ks ∧ ks.len ≤ c ∧ c ≤ 9223372036854775807 ∧ Below w.heap.size w w'
theorem own_top {w : World} {e : TypeId} {n : Nat} {v : Value} {vs : List Value} (h : w.ownsRow 0 e 4 v n vs) (hn : 0 < n) :
    ∃ R cap, v = .slice (some ⟨R, 0, none⟩) n cap ∧ (∀ j u, vs[j]? = some u → w.cell? ⟨R, 0 + j, none⟩ = some u) ∧ (∀ o, w.frozen? ⟨R, o, none⟩ = false) ∧ n ≤ cap ∧ cap ≤ 9223372036854775807 ∧ R < w.heap.size := by
  rcases h.2 with ⟨rfl, h0⟩ | ⟨g, cap, cur, rfl, hb, hgg, hnc, hcm, _⟩
  · omega
  · refine ⟨g, cap, rfl, fun j u hu => ?_, fun o => ?_, hnc, by unfold maxLen at hcm; omega, (Array.getElem?_eq_some_iff.mp hgg).1⟩
    · have := h.cells (g := g) rfl j u hu
      rwa [Addr.add_lit] at this
    · unfold World.frozen?
      rw [hgg]
      simp
theorem own_cap {w : World} {e : TypeId} {n : Nat} {v : Value} {vs : List Value} (h : w.ownsRow 0 e 4 v n vs) : ∃ A c, v = .slice A n c ∧ True ∧ n ≤ c ∧ c ≤ 9223372036854775807 := by
  rcases h.2 with ⟨rfl, h0⟩ | ⟨g, cap, cur, rfl, _, _, hnc, hcm, _⟩
  · have : n = 0 := by omega
    subst this
    exact ⟨none, 0, rfl, trivial, Nat.le_refl _, by omega⟩
  · exact ⟨_, _, rfl, trivial, hnc, by unfold maxLen at hcm; omega⟩
theorem fo_len0 {f : Fo} (h : f.len = 0) : f = .nil := by
  cases f with
  | nil => rfl
  | cons => simp [Fo.len] at h
theorem foB_len8 (f : Fo) : 8 * f.len ≤ (foB f).length := foB_len f

theorem heap4 (w : World) (R a b c d : Nat) (x y z u : Value) {k : Nat} (hk : k ≠ R) : ((((w.setCell ⟨R, a, none⟩ x).setCell ⟨R, b, none⟩ y).setCell ⟨R, c, none⟩ z).setCell ⟨R, d, none⟩ u).heap[k]? = w.heap[k]? := by
  rw [Below.heap_setCell _ _ _ k hk, Below.heap_setCell _ _ _ k hk, Below.heap_setCell _ _ _ k hk, Below.heap_setCell _ _ _ k hk]
theorem frozen4 (w : World) (R a b c d : Nat) (x y z u : Value) (q : Addr) : ((((w.setCell ⟨R, a, none⟩ x).setCell ⟨R, b, none⟩ y).setCell ⟨R, c, none⟩ z).setCell ⟨R, d, none⟩ u).frozen? q = w.frozen? q := by
  rw [World.frozen?_setCell, World.frozen?_setCell, World.frozen?_setCell, World.frozen?_setCell]
theorem other4 (w : World) (R p q : Nat) (x y z u : Value) (hq : q < p ∨ p + 4 ≤ q) : ((((w.setCell ⟨R, p, none⟩ x).setCell ⟨R, p + 1, none⟩ y).setCell ⟨R, p + 2, none⟩ z).setCell ⟨R, p + 3, none⟩ u).cell? ⟨R, q, none⟩ = w.cell? ⟨R, q, none⟩ := by
  rw [World.cell?_setCell_other _ _ _ _ (by simp <;> omega), World.cell?_setCell_other _ _ _ _ (by simp <;> omega), World.cell?_setCell_other _ _ _ _ (by simp <;> omega), World.cell?_setCell_other _ _ _ _ (by simp <;> omega)]
theorem same4 {w : World} {R p : Nat} {x y z u a b c d : Value} (h0 : w.cell? ⟨R, p, none⟩ = some a) (h1 : w.cell? ⟨R, p + 1, none⟩ = some b) (h2 : w.cell? ⟨R, p + 2, none⟩ = some c) (h3 : w.cell? ⟨R, p + 3, none⟩ = some d) :
    ((((w.setCell ⟨R, p, none⟩ x).setCell ⟨R, p + 1, none⟩ y).setCell ⟨R, p + 2, none⟩ z).setCell ⟨R, p + 3, none⟩ u).cell? ⟨R, p, none⟩ = some x ∧
    ((((w.setCell ⟨R, p, none⟩ x).setCell ⟨R, p + 1, none⟩ y).setCell ⟨R, p + 2, none⟩ z).setCell ⟨R, p + 3, none⟩ u).cell? ⟨R, p + 1, none⟩ = some y ∧
    ((((w.setCell ⟨R, p, none⟩ x).setCell ⟨R, p + 1, none⟩ y).setCell ⟨R, p + 2, none⟩ z).setCell ⟨R, p + 3, none⟩ u).cell? ⟨R, p + 2, none⟩ = some z ∧
    ((((w.setCell ⟨R, p, none⟩ x).setCell ⟨R, p + 1, none⟩ y).setCell ⟨R, p + 2, none⟩ z).setCell ⟨R, p + 3, none⟩ u).cell? ⟨R, p + 3, none⟩ = some u := by
  refine ⟨?_, ?_, ?_, ?_⟩
  · rw [World.cell?_setCell_other _ _ _ _ (by simp), World.cell?_setCell_other _ _ _ _ (by simp), World.cell?_setCell_other _ _ _ _ (by simp)]
    exact World.cell?_setCell_same _ _ _ h0
  · rw [World.cell?_setCell_other _ _ _ _ (by simp), World.cell?_setCell_other _ _ _ _ (by simp)]
    exact World.cell?_setCell_same _ _ _ ((World.cell?_setCell_other _ _ _ _ (by simp)).trans h1)
  · rw [World.cell?_setCell_other _ _ _ _ (by simp)]
    exact World.cell?_setCell_same _ _ _ ((World.cell?_setCell_other _ _ _ _ (by simp)).trans ((World.cell?_setCell_other _ _ _ _ (by simp)).trans h2))
  · exact World.cell?_setCell_same _ _ _ ((World.cell?_setCell_other _ _ _ _ (by simp)).trans ((World.cell?_setCell_other _ _ _ _ (by simp)).trans ((World.cell?_setCell_other _ _ _ _ (by simp)).trans h3)))
theorem FoIn.keep2 {S : Nat → Prop} {w w' : World} {A : Option Addr} {f : Fo} (h : FoIn S w A f) (hk : ∀ b, S b → w'.heap[b]? = w.heap[b]?) : FoIn S w' A f := h.keep hk
theorem TopIn.put4 {S : Nat → Prop} {w : World} {R o i p k : Nat} {t : ByteArray} {n : Int} {ks r f : Fo} {KA : Option Addr} {c : Nat} (h : TopIn S w R o f) (hd : f.drop i = .cons k t n ks r) (hi : i < f.len) (hS : ∀ b, S b → b ≠ R)
    (h4 : ks.len ≤ c) (h5 : c ≤ 9223372036854775807) (h6 : FoIn S w KA ks) (hp : p = o + i * 4) :
    TopIn S ((((w.setCell ⟨R, p, none⟩ (.int .u8 k)).setCell ⟨R, p + 1, none⟩ (.string t)).setCell ⟨R, p + 2, none⟩ (.int .i64 n)).setCell ⟨R, p + 3, none⟩ (.slice KA ks.len c)) R o f := by
  subst hp
  obtain ⟨KA', c', k', t', n', kk, r', hd', d0, d1, d2, d3, _⟩ := h.at_ hi
  obtain ⟨s0, s1, s2, s3⟩ := same4 (x := .int .u8 k) (y := .string t) (z := .int .i64 n) (u := .slice KA ks.len c) d0 d1 d2 d3
  exact h.set (fun b hb _ => heap4 w R _ _ _ _ _ _ _ _ (hS b hb)) h4 h5 (h6.keep fun b hb => heap4 w R _ _ _ _ _ _ _ _ (hS b hb)) hd (fun q hq => other4 w R _ q _ _ _ _ hq) s0 s1 s2 s3

end Go.Proofs.YtadilmijppdpoaaGreatDoor

namespace Go.Proofs.YtadilmijppdpoaaGreatDoor
open Go.RowKit

/-! ### rows of nodes -/
theorem own_foS {S : Nat → Prop} {n : Nat} {w : World} {v : Value} {vs : List Value} {f : Fo} (h : w.ownsRow 0 46 4 v n vs) (hB : ∀ g, v.ownBlock = some g → S g) (hf : FoCells (fun b => S b ∧ v.ownBlock ≠ some b) w vs f) (hn : n = f.len) :
    ∃ A c, v = .slice A f.len c ∧ FoIn S w A f ∧ f.len ≤ c ∧ c ≤ 9223372036854775807 := by
  subst hn
  rcases h.2 with ⟨rfl, h0⟩ | ⟨g, cap, cur, rfl, hb, hgg, hn, hc, _⟩
  · have : f = .nil := by cases f with
      | nil => rfl
      | cons => simp [Fo.len] at h0
    subst this
    exact ⟨none, 0, rfl, trivial, Nat.le_refl _, by omega⟩
  · refine ⟨_, _, rfl, hf.at_ (fun b hS => hS.1) (hB g rfl) (fun j u hu => ?_), hn, by unfold maxLen at hc; omega⟩
    have := h.cells (g := g) rfl j u hu
    rwa [Addr.add_lit] at this
theorem cell_four_new2 (w : World) (ob : Obj) (a b c d : Value) (t : TypeId) : ∀ j u, [a, b, c, d][j]? = some u → ((w.alloc ob).alloc (.cells #[a, b, c, d] t)).cell? ((⟨w.heap.size + 1, 0, none⟩ : Addr).add j) = some u := by
  intro j u hu
  rw [Addr.add_lit, Nat.zero_add, World.cell?_alloc2_new]
  simpa using hu
theorem own_below {e : TypeId} {size n : Nat} {w w' : World} {v : Value} {xs : List Value} (h : w.ownsRow 0 e size v n xs) (hl : ∀ g, v.ownBlock = some g → g < w.heap.size) (hB : Below w.heap.size w w') : w'.ownsRow 0 e size v n xs := by
  refine ⟨h.1, ?_⟩
  rcases h.2 with ⟨rfl, h0⟩ | ⟨g, cap, cur, rfl, hb, hg, hr⟩
  · exact .inl ⟨rfl, h0⟩
  · exact .inr ⟨g, cap, cur, rfl, hb, (hB.block g (hl g rfl)).trans hg, hr⟩
theorem Fo.take_next : ∀ {f : Fo} {i k : Nat} {t : ByteArray} {n : Int} {ks r : Fo}, f.drop i = .cons k t n ks r → f.take (i + 1) = (f.take i).app (.cons k t n ks .nil) := by
  intro f
  induction f with
  | nil => intro i k t n ks r h; cases i <;> cases h
  | cons k' t' n' ks' r' _ ih =>
    intro i k t n ks r h
    cases i with
    | zero => cases h; cases r' <;> rfl
    | succ i => simp only [Fo.take, Fo.app]; rw [← ih (i := i) h]
theorem Fo.take_whole : ∀ f : Fo, f.take f.len = f := by
  intro f
  induction f with
  | nil => rfl
  | cons k t n ks r _ ih => simp only [Fo.len, Fo.take, ih]
theorem drop_foB : ∀ {f : Fo} {i k : Nat} {t : ByteArray} {n : Int} {ks r : Fo}, f.drop i = .cons k t n ks r → (foB ks).length ≤ (foB f).length := by
  intro f
  induction f with
  | nil => intro i k t n ks r h; cases i <;> cases h
  | cons k' t' n' ks' r' _ ih =>
    intro i k t n ks r h
    cases i with
    | zero => cases h; simp [foB]; omega
    | succ i => have := ih (i := i) h; simp [foB]; omega

end Go.Proofs.YtadilmijppdpoaaGreatDoor

namespace Go.Proofs.YtadilmijppdpoaaGreatDoor
open Go.RowKit

/-- blocks N and N + 1 are a call's own boxes; everything else that is there is kept -/
abbrev Apart (N : Nat) (w w' : World) : Prop := Keep (fun b => b < w.heap.size ∧ b ≠ N ∧ b ≠ N + 1) w w'
abbrev Free (S : Nat → Prop) (N : Nat) : Nat → Prop := fun b => S b ∧ b ≠ N ∧ b ≠ N + 1
section
variable {S : Nat → Prop} {N : Nat} {w w' w'' : World} {A : Option Addr}
theorem Apart.refl (N : Nat) (w : World) : Apart N w w := Keep.refl _ _
theorem Apart.below (h : Apart N w w') (hB : Below w'.heap.size w' w'') : Apart N w w'' := Keep.trans h (Keep.of_below hB fun _ hk => Nat.lt_of_lt_of_le hk.1 h.size)
theorem Apart.set (h : Apart N w w') {a : Addr} (ha : a.block = N ∨ a.block = N + 1) (u : Value) : Apart N w (w'.setCell a u) :=
  Keep.setCell h (fun hk => by rcases ha with e | e; exact hk.2.1 e; exact hk.2.2 e) u
theorem Rd.apart {xs : List Value} (h : Rd (Free S N) w A xs) (hl : Apart N w w') : Rd (Free S N) w' A xs :=
  ((h.mono (S' := fun b => (b < w.heap.size ∧ b ≠ N ∧ b ≠ N + 1) ∧ S b) fun _ h1 h2 => ⟨⟨h1, h2.2⟩, h2.1⟩).keep (fun b hb => hl.block b hb.1)).mono fun _ _ h => ⟨h.2, h.1.2⟩
theorem IntsIn.apart {l : List Int} (h : IntsIn (Free S N) w A l) (hl : Apart N w w') : IntsIn (Free S N) w' A l := ⟨h.1.apart hl, h.2⟩
theorem StrsIn.apart {l : List ByteArray} (h : StrsIn (Free S N) w A l) (hl : Apart N w w') : StrsIn (Free S N) w' A l := ⟨h.1.apart hl, h.2⟩
theorem FoIn.apart {f : Fo} (h : FoIn (Free S N) w A f) (hl : Apart N w w') : FoIn (Free S N) w' A f :=
  ((h.mono (S' := fun b => (b < w.heap.size ∧ b ≠ N ∧ b ≠ N + 1) ∧ S b) fun _ h1 h2 => ⟨⟨h1, h2.2⟩, h2.1⟩).keep (fun b hb => hl.block b hb.1)).mono fun _ _ h => ⟨h.2, h.1.2⟩
theorem HkIn.apart {x : Hh} {h : Hk} (a : HkIn (Free S N) w x h) (hl : Apart N w w') : HkIn (Free S N) w' x h := ⟨a.at_, a.old.apart hl, a.new.apart hl, a.oc, a.nc⟩
theorem EdIn.apart {x : Eh} {e : Ed} (a : EdIn (Free S N) w x e) (hl : Apart N w w') : EdIn (Free S N) w' x e :=
  ⟨a.kind, a.path.apart hl, a.at_, a.far, a.frm, a.to, a.old.apart hl, a.new.apart hl, a.pc, a.oc, a.nc⟩
end

/-- the cells of a block, from its head on -/
def Cells (w : World) (N : Nat) (vs : List Value) : Prop := ∀ j u, vs[j]? = some u → w.cell? ⟨N, j, none⟩ = some u
theorem Cells.of_eq {w w' : World} {N : Nat} {vs : List Value} (h : Cells w N vs) (he : ∀ o, w'.cell? ⟨N, o, none⟩ = w.cell? ⟨N, o, none⟩) : Cells w' N vs := fun j u hu => (he j).trans (h j u hu)
theorem keep_setCells (b : Nat) {P : Nat → Prop} (hP : ¬ P b) : ∀ (vs : List Value) (o : Nat) (w : World), Keep P w (w.setCells b o vs)
  | [], _, w => Keep.refl _ _
  | v :: r, o, w => Keep.trans ((Keep.refl P w).setCell (a := ⟨b, o, none⟩) hP v) (keep_setCells b hP r (o + 1) (w.setCell ⟨b, o, none⟩ v))
theorem size_setCells (b : Nat) : ∀ (vs : List Value) (o : Nat) (w : World), (w.setCells b o vs).heap.size = w.heap.size
  | [], _, _ => rfl
  | v :: r, o, w => by rw [World.setCells, size_setCells b r]; simp [World.setCell]
/-- cells stored one behind the other -/
theorem puts {w : World} {N : Nat} {us : List Value} (hu : Cells w N us) (o : Nat) (vs : List Value) (ho : o + vs.length ≤ us.length) :
    ∃ wF, wF = w.setCells N o vs ∧ Cells wF N (us.take o ++ vs ++ us.drop (o + vs.length)) ∧ (∀ M, M ≠ N → ∀ q, wF.cell? ⟨M, q, none⟩ = w.cell? ⟨M, q, none⟩) ∧ (∀ P : Nat → Prop, ¬ P N → Keep P w wF) ∧ (∀ a, wF.frozen? a = w.frozen? a) ∧ wF.heap.size = w.heap.size := by
  refine ⟨_, rfl, ?_, fun M hM q => World.cell?_setCells_out N vs o w ⟨M, q, none⟩ (fun e _ => absurd e hM), fun P hP => keep_setCells N hP vs o w, fun a => World.frozen?_setCells N vs o w a, size_setCells N vs o w⟩
  intro j u hj
  have hl : (us.take o).length = o := by simp; omega
  by_cases h1 : j < o
  · rw [World.cell?_setCells_out N vs o w ⟨N, j, none⟩ (fun _ _ => .inl h1)]
    rw [List.append_assoc, List.getElem?_append_left (by omega), List.getElem?_take, if_pos h1] at hj
    exact hu j u hj
  · by_cases h2 : j < o + vs.length
    · have h3 := World.cell?_setCells_in N vs o w (fun i hi => by
        have : us[o + i]? = some us[o + i] := List.getElem?_eq_getElem (by omega)
        rw [hu _ _ this]; rfl) (j - o) (by omega)
      rw [show o + (j - o) = j by omega] at h3
      rw [h3]
      rw [List.append_assoc, List.getElem?_append_right (by omega), hl, List.getElem?_append_left (by omega), List.getElem?_eq_getElem (by omega)] at hj
      exact hj
    · rw [World.cell?_setCells_out N vs o w ⟨N, j, none⟩ (fun _ _ => .inr (by show o + vs.length ≤ j; omega))]
      rw [List.append_assoc, List.getElem?_append_right (by omega), hl, List.getElem?_append_right (by omega), List.getElem?_drop] at hj
      rw [show o + vs.length + (j - o - vs.length) = j by omega] at hj
      exact hu j u hj
theorem cells_first (w : World) (cs ds : Array Value) (t u : TypeId) : Cells ((w.alloc (.cells cs t)).alloc (.cells ds u)) w.heap.size cs.toList := fun j v hv => by
  rw [World.cell?_alloc2_first]; simpa using hv
theorem cells_second (w : World) (o : Obj) (ds : Array Value) (u : TypeId) : Cells ((w.alloc o).alloc (.cells ds u)) (w.heap.size + 1) ds.toList := fun j v hv => by
  rw [World.cell?_alloc2_new]; simpa using hv

theorem cells_first_drew (w : World) (cs ds : Array Value) (t u : TypeId) : Cells ((w.alloc (.cells cs t)).alloc (.cells ds u)).drew w.heap.size cs.toList := cells_first w cs ds t u
theorem cells_second_drew (w : World) (o : Obj) (ds : Array Value) (u : TypeId) : Cells ((w.alloc o).alloc (.cells ds u)).drew (w.heap.size + 1) ds.toList := cells_second w o ds u
theorem Apart.puts {N M : Nat} {w w' wF : World} (h : Apart N w w') (hk : ∀ P : Nat → Prop, ¬ P M → Keep P w' wF) (hM : M = N ∨ M = N + 1) : Apart N w wF :=
  Keep.trans h (Keep.mono (hk (fun b => b ≠ N ∧ b ≠ N + 1) (fun h => by rcases hM with e | e; exact h.1 e; exact h.2 e)) (fun _ hb => hb.2))

end Go.Proofs.YtadilmijppdpoaaGreatDoor

namespace Go.Proofs.YtadilmijppdpoaaGreatDoor
open Go.RowKit

theorem Apart.drewn {N : Nat} {w w' : World} (h : Apart N w w') : Apart N w w'.drew := Keep.drew h
theorem edRight_yes {S : Nat → Prop} {x : Eh} {e : Ed} {w : World} (he : EdIn S w x e) (htab : TabOk w) (hsum : e.frm.size + e.to.size ≤ 9223372036854775807) (hok : EdOk e) :
    Calls Tryz.prog 30 #[.agg #[.int .u8 e.kind, .slice x.pA e.path.length x.pc, .int .i64 e.at_, .int .i64 e.far, .string e.frm, .string e.to, .slice x.oA e.old.len x.oc, .slice x.nA e.new.len x.nc]] w fun e1 w' => e1 = .returned (.bool true) ∧ Below w.heap.size w w' := by
  refine (edRight_any he htab hsum).mono ?_
  rintro e1 w' ⟨⟨b, rfl, hb⟩, hB⟩
  exact ⟨by rw [hb.mpr hok], hB⟩

end Go.Proofs.YtadilmijppdpoaaGreatDoor

namespace Go.Proofs.YtadilmijppdpoaaGreatDoor
open Go.RowKit

end Go.Proofs.YtadilmijppdpoaaGreatDoor

namespace Go.Proofs.YtadilmijppdpoaaGreatDoor
open Go.RowKit

end Go.Proofs.YtadilmijppdpoaaGreatDoor

namespace Go.Proofs.YtadilmijppdpoaaGreatDoor
open Go.RowKit

end Go.Proofs.YtadilmijppdpoaaGreatDoor

namespace Go.Proofs.YtadilmijppdpoaaGreatDoor
open Go.RowKit

end Go.Proofs.YtadilmijppdpoaaGreatDoor

namespace Go.Proofs.YtadilmijppdpoaaGreatDoor
open Go.RowKit

end Go.Proofs.YtadilmijppdpoaaGreatDoor

namespace Go.Proofs.YtadilmijppdpoaaGreatDoor
open Go.RowKit

def Ed.inv (e : Ed) : Ed :=
  if e.kind = 5 then ⟨5, e.path, e.far, e.at_, e.to, e.frm, e.old, e.new⟩
  else if e.kind = 2 then ⟨3, e.path, e.at_, e.far, e.to, e.frm, e.new, e.old⟩
  else if e.kind = 3 then ⟨2, e.path, e.at_, e.far, e.to, e.frm, e.new, e.old⟩
  else ⟨e.kind, e.path, e.at_, e.far, e.to, e.frm, e.new, e.old⟩
end Go.Proofs.YtadilmijppdpoaaGreatDoor

namespace Go.Proofs.YtadilmijppdpoaaGreatDoor
open Go.RowKit

end Go.Proofs.YtadilmijppdpoaaGreatDoor

namespace Go.Proofs.YtadilmijppdpoaaGreatDoor
open Go.RowKit

end Go.Proofs.YtadilmijppdpoaaGreatDoor

namespace Go.Proofs.YtadilmijppdpoaaGreatDoor
open Go.RowKit

end Go.Proofs.YtadilmijppdpoaaGreatDoor

namespace Go.Proofs.YtadilmijppdpoaaGreatDoor
open Go.RowKit

def Pt.inv (p : Pt) : Pt :=
  if p.kind = 1 then ⟨2, p.file, p.text, p.hunk, p.edit⟩
  else if p.kind = 2 then ⟨1, p.file, p.text, p.hunk, p.edit⟩
  else if p.kind = 3 then ⟨3, p.file, p.text, ⟨p.hunk.at_, p.hunk.new, p.hunk.old⟩, p.edit⟩
  else ⟨p.kind, p.file, p.text, p.hunk, p.edit.inv⟩
theorem EdOk.inv {e : Ed} (h : EdOk e) : EdOk e.inv := by
  obtain ⟨kd, path, at_, far, frm, tto, old, new⟩ := e
  obtain ⟨hp, h | h | h | h | h⟩ := h
  · obtain ⟨rfl, h1, h2, h3, h4, h5, h6, h7, h8⟩ := h
    exact ⟨hp, .inl ⟨rfl, h1, h2, h4, h3, h5, h7, h6, fun e => h8 e.symm⟩⟩
  · obtain ⟨rfl, h1, h2, h3, h4, h5, h6⟩ := h
    exact ⟨hp, .inr (.inr (.inl ⟨rfl, h1, h3, h2, h4, h5, h6⟩))⟩
  · obtain ⟨rfl, h1, h2, h3, h4, h5, h6⟩ := h
    exact ⟨hp, .inr (.inl ⟨rfl, h1, h3, h2, h4, h5, h6⟩)⟩
  · obtain ⟨rfl, h1, h2, h3, h4, h5, h6, h7, h8⟩ := h
    exact ⟨hp, .inr (.inr (.inr (.inl ⟨rfl, h1, h2, h4, h3, h5, h7, h6, fun e => h8 e.symm⟩)))⟩
  · obtain ⟨rfl, h1, h2, h3, h4, h5, h6, h7⟩ := h
    exact ⟨hp, .inr (.inr (.inr (.inr ⟨rfl, h2, h1, h3, h5, h4, fun e => h6 e.symm, h7⟩)))⟩
theorem PtOk.inv {p : Pt} (h : PtOk p) : PtOk p.inv := by
  obtain ⟨kd, file, text, hunk, edit⟩ := p
  obtain ⟨hf, ⟨hk | hk, h1, h2⟩ | ⟨hk, h1, h2, h3, h4, h5, h6, h7⟩ | ⟨hk, h1, h2, h3⟩⟩ := h
  · simp only at hk; subst hk
    exact ⟨hf, .inl ⟨.inr rfl, h1, h2⟩⟩
  · simp only at hk; subst hk
    exact ⟨hf, .inl ⟨.inl rfl, h1, h2⟩⟩
  · simp only at hk; subst hk
    exact ⟨hf, .inr (.inl ⟨rfl, h1, h2, h3, h4, h6, h5, fun e => h7 e.symm⟩)⟩
  · simp only at hk; subst hk
    exact ⟨hf, .inr (.inr ⟨rfl, h1, h2, h3.inv⟩)⟩
theorem edB_inv {e : Ed} : (edB e.inv).length = (edB e).length := by
  have h8 : ∀ n : Int, (num8 n).length = 8 := fun n => rfl
  unfold Ed.inv
  split
  · simp only [edB, List.length_cons, List.length_append, h8]; omega
  · split
    · simp only [edB, List.length_cons, List.length_append, h8]; omega
    · split
      · simp only [edB, List.length_cons, List.length_append, h8]; omega
      · simp only [edB, List.length_cons, List.length_append, h8]; omega
theorem ptB_inv {p : Pt} (h : PtOk p) : (ptB p.inv).length = (ptB p).length := by
  have h8 : ∀ n : Int, (num8 n).length = 8 := fun n => rfl
  obtain ⟨kd, file, text, hunk, edit⟩ := p
  obtain ⟨hf, ⟨hk | hk, _⟩ | ⟨hk, _⟩ | ⟨hk, _⟩⟩ := h
  · simp only at hk; subst hk; rfl
  · simp only at hk; subst hk; rfl
  · simp only at hk; subst hk
    show (ptB ⟨3, file, text, ⟨hunk.at_, hunk.new, hunk.old⟩, edit⟩).length = _
    simp only [ptB, if_true, List.length_cons, List.length_append, h8]; omega
  · simp only at hk; subst hk
    show (ptB ⟨4, file, text, hunk, edit.inv⟩).length = _
    have e3 : ¬ (4 = 3) := by omega
    simp only [ptB, if_neg e3, if_true, List.length_cons, List.length_append, edB_inv]
theorem txts_len8 (l : List ByteArray) : 8 * l.length ≤ (txtsB l).length := by
  have h8 : ∀ n : Int, (num8 n).length = 8 := fun n => rfl
  have : ∀ l : List ByteArray, 8 * l.length ≤ ((l.map txtB).flatten).length := by
    intro l
    induction l with
    | nil => exact Nat.zero_le _
    | cons s l ih => simp only [List.map_cons, List.flatten_cons, List.length_append, txtB, h8, List.length_cons]; omega
  have := this l
  simp only [txtsB, List.length_append]
  omega
theorem path_len8 (l : List Int) : 8 * l.length ≤ (pathB l).length := by
  have h8 : ∀ n : Int, (num8 n).length = 8 := fun n => rfl
  have : ∀ l : List Int, 8 * l.length ≤ ((l.map num8).flatten).length := by
    intro l
    induction l with
    | nil => exact Nat.zero_le _
    | cons s l ih => simp only [List.map_cons, List.flatten_cons, List.length_append, h8, List.length_cons]; omega
  have := this l
  simp only [pathB, List.length_append]
  omega
end Go.Proofs.YtadilmijppdpoaaGreatDoor
