/- What is lent: rows with twelve marks in the spare room behind them. The predicates, and what follows from them. -/
import Derived.Lib.Builder
import Derived.OwnWalk
import Derived.Test.YtfhfkbdaglegpaaGreatDoorProg
import Derived.Lib.SliceRun
import Derived.Test.YtfhfkbdaglegpaaGreatDoorGBase
import Derived.Test.YtfhfkbdaglegpaaGreatDoorGKeep

set_option linter.unusedVariables false
set_option linter.unusedSimpArgs false

namespace Go.Proofs.YtfhfkbdaglegpaaGreatDoor
open Go.RowKit

/-- the mark of a place in a row of numbers, in one of texts -/
def markN (i : Nat) : Int := 8000024 + i
def markT (i : Nat) : ByteArray := ⟨#[35, 1, 0, 0, 47, UInt8.ofNat i, 0, 0]⟩
def marksN : List Int := (List.range 12).map markN
def marksT : List ByteArray := (List.range 12).map markT
section
variable {S S' : Nat → Prop} {w w' : World} {A : Option Addr} {c : Nat}
/-- a block that holds these cells from its beginning on, with room for n and twelve -/
def LentRow (S : Nat → Prop) (w : World) (A : Option Addr) (c n : Nat) (e : TypeId) (vs : List Value) : Prop :=
  ∃ (g : Nat) (cs : Array Value), A = some ⟨g, 0, none⟩ ∧ S g ∧ w.heap[g]? = some (.cells cs e) ∧ n + 12 ≤ c ∧ c ≤ 9223372036854775807 ∧ ∀ (j : Nat) (u : Value), vs[j]? = some u → cs[j]? = some u
theorem LentRow.keep {n : Nat} {e : TypeId} {vs : List Value} (h : LentRow S w A c n e vs) (hk : ∀ b, S b → w'.heap[b]? = w.heap[b]?) : LentRow S w' A c n e vs := by
  obtain ⟨g, cs, h1, h2, h3, h4⟩ := h
  exact ⟨g, cs, h1, h2, (hk g h2).trans h3, h4⟩
theorem LentRow.mono {n : Nat} {e : TypeId} {vs : List Value} (h : LentRow S w A c n e vs) (hm : ∀ b, b < w.heap.size → S b → S' b) : LentRow S' w A c n e vs := by
  obtain ⟨g, cs, h1, h2, h3, h4⟩ := h
  exact ⟨g, cs, h1, hm g (Array.getElem?_eq_some_iff.1 h3).1 h2, h3, h4⟩
theorem LentRow.rd {n : Nat} {e : TypeId} {vs us : List Value} (h : LentRow S w A c n e (vs ++ us)) : Rd S w A vs := by
  obtain ⟨g, cs, h1, h2, h3, _, _, h6⟩ := h
  refine .inr ⟨g, 0, h1, h2, fun j u hu => ?_⟩
  rw [Nat.zero_add, Lib.cell_of_heap h3]
  exact h6 j u (by rw [List.getElem?_append_left (List.getElem?_eq_some_iff.1 hu).1]; exact hu)
theorem LentRow.at_ {n : Nat} {e : TypeId} {vs : List Value} (h : LentRow S w A c n e vs) {j : Nat} (hj : j < vs.length) : ∃ g, A = some ⟨g, 0, none⟩ ∧ w.cell? ⟨g, j, none⟩ = some vs[j] := by
  obtain ⟨g, cs, h1, _, h3, _, _, h6⟩ := h
  exact ⟨g, h1, by rw [Lib.cell_of_heap h3]; exact h6 j _ (List.getElem?_eq_getElem hj)⟩

def LentStrs (S : Nat → Prop) (w : World) (A : Option Addr) (c : Nat) (l : List ByteArray) : Prop :=
  LentRow S w A c l.length 9 ((l ++ marksT).map .string) ∧ (∀ s ∈ l, s.size ≤ 9223372036854775807) ∧ l.length ≤ 9223372036854775807
def LentInts (S : Nat → Prop) (w : World) (A : Option Addr) (c : Nat) (l : List Int) : Prop :=
  LentRow S w A c l.length 3 ((l ++ marksN).map (fun n => Value.int .i64 n)) ∧ (∀ n ∈ l, isInt64 n) ∧ l.length ≤ 9223372036854775807
theorem LentStrs.strs {l : List ByteArray} (h : LentStrs S w A c l) : StrsIn S w A l := by
  obtain ⟨h1, h2, h3⟩ := h
  rw [List.map_append] at h1
  exact ⟨h1.rd, h2, h3⟩
theorem LentInts.ints {l : List Int} (h : LentInts S w A c l) : IntsIn S w A l := by
  obtain ⟨h1, h2, h3⟩ := h
  rw [List.map_append] at h1
  exact ⟨h1.rd, h2, h3⟩

/-- nodes from the place o of block g on, their kids lent too; twelve marks behind them -/
def LentAt (S : Nat → Prop) (w : World) : Nat → Nat → Fo → Prop
  | g, o, .nil => ∀ i, i < 12 → w.cell? ⟨g, o + i * 4, none⟩ = some (.int .u8 0) ∧ w.cell? ⟨g, o + i * 4 + 1, none⟩ = some (.string ⟨#[]⟩) ∧ w.cell? ⟨g, o + i * 4 + 2, none⟩ = some (.int .i64 (markN i)) ∧ w.cell? ⟨g, o + i * 4 + 3, none⟩ = some (.slice none 0 0)
  | g, o, .cons k t n ks r => ∃ g' kc, w.cell? ⟨g, o, none⟩ = some (.int .u8 k) ∧ w.cell? ⟨g, o + 1, none⟩ = some (.string t) ∧ w.cell? ⟨g, o + 2, none⟩ = some (.int .i64 n) ∧ w.cell? ⟨g, o + 3, none⟩ = some (.slice (some ⟨g', 0, none⟩) ks.len kc) ∧
      k < 256 ∧ t.size ≤ 9223372036854775807 ∧ isInt64 n ∧ ks.len + 12 ≤ kc ∧ kc ≤ 9223372036854775807 ∧ S g' ∧ LentAt S w g' 0 ks ∧ LentAt S w g (o + 4) r
/-- a row of nodes that is lent -/
def LentFo (S : Nat → Prop) (w : World) (A : Option Addr) (c : Nat) (f : Fo) : Prop := ∃ g, A = some ⟨g, 0, none⟩ ∧ S g ∧ f.len + 12 ≤ c ∧ c ≤ 9223372036854775807 ∧ LentAt S w g 0 f
theorem LentAt.fo : ∀ {f : Fo} {g o : Nat}, S g → LentAt S w g o f → FoIn S w (some ⟨g, o, none⟩) f
  | .nil, _, _, _, _ => trivial
  | .cons k t n ks r, g, o, hS, ⟨g', kc, c0, c1, c2, c3, h1, h2, h3, h4, h5, h6, h7, h8⟩ =>
    ⟨g, o, some ⟨g', 0, none⟩, kc, rfl, hS, c0, c1, c2, c3, h1, h2, h3, by omega, h5, LentAt.fo h6 h7, LentAt.fo hS h8⟩
theorem LentFo.fo {f : Fo} (h : LentFo S w A c f) : FoIn S w A f ∧ f.len ≤ c := by
  obtain ⟨g, rfl, h1, h2, h3, h4⟩ := h
  exact ⟨h4.fo h1, by omega⟩
theorem LentAt.keep : ∀ {f : Fo} {g o : Nat}, S g → LentAt S w g o f → (∀ b, S b → w'.heap[b]? = w.heap[b]?) → LentAt S w' g o f
  | .nil, g, o, hS, h, hk => fun i hi => by
    obtain ⟨h1, h2, h3, h4⟩ := h i hi
    have hb := hk g hS
    exact ⟨(World.cell?_of_block hb).trans h1, (World.cell?_of_block hb).trans h2, (World.cell?_of_block hb).trans h3, (World.cell?_of_block hb).trans h4⟩
  | .cons k t n ks r, g, o, hS, ⟨g', kc, c0, c1, c2, c3, h1, h2, h3, h4, h5, h6, h7, h8⟩, hk =>
    have hb := hk g hS
    ⟨g', kc, (World.cell?_of_block hb).trans c0, (World.cell?_of_block hb).trans c1, (World.cell?_of_block hb).trans c2, (World.cell?_of_block hb).trans c3, h1, h2, h3, h4, h5, h6, LentAt.keep h6 h7 hk, LentAt.keep hS h8 hk⟩

/-! ### hunks, edits, patches -/
structure LentHk (S : Nat → Prop) (w : World) (x : Hh) (h : Hk) : Prop where
  at_ : isInt64 h.at_
  old : LentStrs S w x.oA x.oc h.old
  new : LentStrs S w x.nA x.nc h.new
structure LentEd (S : Nat → Prop) (w : World) (x : Eh) (e : Ed) : Prop where
  kind : e.kind < 256
  path : LentInts S w x.pA x.pc e.path
  at_ : isInt64 e.at_
  far : isInt64 e.far
  frm : e.frm.size ≤ 9223372036854775807
  to : e.to.size ≤ 9223372036854775807
  old : LentFo S w x.oA x.oc e.old
  new : LentFo S w x.nA x.nc e.new
structure LentPt (S : Nat → Prop) (w : World) (x : Ph) (p : Pt) : Prop where
  kind : p.kind < 256
  file : p.file.size ≤ 9223372036854775807
  text : p.text.size ≤ 9223372036854775807
  hunk : LentHk S w x.h p.hunk
  edit : LentEd S w x.e p.edit
theorem LentRow.cap {n : Nat} {e : TypeId} {vs : List Value} (h : LentRow S w A c n e vs) : n ≤ c ∧ c ≤ 9223372036854775807 := by
  obtain ⟨_, _, _, _, _, h4, h5, _⟩ := h
  exact ⟨by omega, h5⟩
theorem LentHk.hk {x : Hh} {h : Hk} (a : LentHk S w x h) : HkIn S w x h := ⟨a.at_, a.old.strs, a.new.strs, a.old.1.cap, a.new.1.cap⟩
theorem LentEd.ed {x : Eh} {e : Ed} (a : LentEd S w x e) : EdIn S w x e := by
  obtain ⟨_, _, _, _, h4, _⟩ := a.old
  obtain ⟨_, _, _, _, h5, _⟩ := a.new
  exact ⟨a.kind, a.path.ints, a.at_, a.far, a.frm, a.to, a.old.fo.1, a.new.fo.1, a.path.1.cap, ⟨a.old.fo.2, h4⟩, ⟨a.new.fo.2, h5⟩⟩
theorem LentPt.pt {x : Ph} {p : Pt} (a : LentPt S w x p) : PtIn S w x p := ⟨a.kind, a.file, a.text, a.hunk.hk, a.edit.ed⟩
end

end Go.Proofs.YtfhfkbdaglegpaaGreatDoor

namespace Go.Proofs.YtfhfkbdaglegpaaGreatDoor
open Go.RowKit

theorem wpList_append_fits2 {P : Program} (w : World) {ops : Array Oper} {rest : List Oper} {o : Oper} {a : Act} {Q : Exit → Act → World → Prop}
    (hg : o.guard = none) (s x : Operand) (t : TypeId) (hop : o.op = Op.call { callee := Callee.builtin Builtin.append, args := #[s, x], argTypes := #[t, t] })
    (base : Nat) (e : TypeId) (i : TypeInfo) (size : Nat) (h1 : P.underlying t = some (.slice e)) (h2 : P.info? e = some i) (h4 : i.size = size)
    (g k cap : Nat) (xs : List Value) (hs : a.eval s = .slice (some ⟨g, 0, none⟩) k cap) (hown : w.ownsRow base e size (.slice (some ⟨g, 0, none⟩) k cap) k xs) (ao : Option Addr) (m c : Nat) (news : List Value) (hx : a.eval x = .slice ao m c) (hn : news.length = m * size)
    (hnone : ao = none → m = 0) (hc : ∀ ad, ao = some ad → ∀ j u, news[j]? = some u → w.cell? (ad.add j) = some u) (h1c : ∀ u ∈ news, u.oneCell' = true) (b1 : k + m ≤ cap)
    (hK : ∀ w', w'.ownsRow base e size (.slice (some ⟨g, 0, none⟩) (k + m) cap) (k + m) (xs ++ news) → w.grownBy w' (some g) → wpList P ops Q rest (a.put o.dst (.slice (some ⟨g, 0, none⟩) (k + m) cap)) w') :
    wpList P ops Q (o :: rest) a w := by
  cases ao with
  | some ad => exact wpList_append_fits w hg s x t hop base e i size h1 h2 h4 g k cap xs hs hown ad m c news hx hn (hc ad rfl) h1c b1 hK
  | none =>
    obtain rfl := hnone rfl
    have hnews : news = [] := List.eq_nil_of_length_eq_zero (by simpa using hn)
    subst hnews
    refine wpList_plain hg fun K hK' => ?_
    have hrun := run_append_none (P := P) (c0 := c) h1 h2 hown o.type
    unfold Oper.wp
    simp [execOp, hop, resolve, invoke, builtin, hs, hx, hrun, Result.andThen]
    exact hK' _ _ (by simpa using hK w (by simpa using hown) (World.grownBy.refl _ _))

section
variable {S S' : Nat → Prop} {w w' : World} {base g cap n : Nat} {e : TypeId} {size : Nat} {xs : List Value}
theorem own_grown (hB : Below w.heap.size w w') (hg : w.heap.size ≤ g) {w2 : World} (h : w'.grownBy w2 (some g)) : Below w.heap.size w w2 := hB.grown h hB.size (fun k hk => by injection hk with hk; omega)
theorem own_stay (h : w.ownsRow base e size (.slice (some ⟨g, 0, none⟩) n cap) n xs) (hB : Below w.heap.size w w') : w'.ownsRow base e size (.slice (some ⟨g, 0, none⟩) n cap) n xs := by
  refine ⟨h.1, ?_⟩
  rcases h.2 with ⟨e1, h0⟩ | ⟨g', cap', cur, e1, hbg, hg, hr⟩
  · exact .inl ⟨e1, h0⟩
  · exact .inr ⟨g', cap', cur, e1, hbg, (hB.block g' (Array.getElem?_eq_some_iff.1 hg).1).trans hg, hr⟩
/-- an own row, the twelve marks in it -/
theorem lentRow_own {vs : List Value} (h : w.ownsRow base e 1 (.slice (some ⟨g, 0, none⟩) (n + 12) cap) (n + 12) vs) (hS : S g) : LentRow S w (some ⟨g, 0, none⟩) cap n e vs := by
  rcases h.2 with ⟨e1, _⟩ | ⟨g', cap', cur, e1, _, hg, h1, h2, h3, h4⟩
  · cases e1
  · injection e1 with e1 _ e2
    injection e1 with e1
    injection e1 with e1
    subst e1 e2
    refine ⟨g, cur, rfl, hS, hg, h1, by unfold maxLen at h2; omega, fun j u hu => ?_⟩
    rw [← h4, List.getElem?_take] at hu
    split at hu
    · simpa using hu
    · cases hu
theorem own_cap12 (h : w.ownsRow base e size (.slice (some ⟨g, 0, none⟩) n cap) n xs) : n ≤ cap ∧ cap ≤ 9223372036854775807 ∧ base ≤ g ∧ g < w.heap.size := by
  rcases h.2 with ⟨e1, _⟩ | ⟨g', cap', cur, e1, hb, hg, h1, h2, _⟩
  · cases e1
  · injection e1 with e1 _ e2
    injection e1 with e1
    injection e1 with e1
    subst e1 e2
    exact ⟨h1, by unfold maxLen at h2; omega, hb, (Array.getElem?_eq_some_iff.1 hg).1⟩

/-! ### cells of nodes, their kids lent -/
def ndMark (i : Nat) : List Value := [.int .u8 0, .string ⟨#[]⟩, .int .i64 (markN i), .slice none 0 0]
def ndMarks (j : Nat) : List Value := (List.range j).flatMap ndMark
theorem ndMarks_next (j : Nat) : ndMarks (j + 1) = ndMarks j ++ ndMark j := by simp [ndMarks, List.range_succ]
theorem ndMarks_len (j : Nat) : (ndMarks j).length = j * 4 := by
  induction j with
  | zero => rfl
  | succ j ih => rw [ndMarks_next, List.length_append, ih]; simp [ndMark]; omega
theorem ndMarks_at {i r : Nat} {u : Value} (hr : r < 4) : ∀ {j : Nat}, i < j → (ndMark i)[r]? = some u → (ndMarks j)[i * 4 + r]? = some u := by
  intro j
  induction j with
  | zero => intro h; omega
  | succ j ih =>
    intro h hu
    rw [ndMarks_next]
    rcases Nat.lt_or_ge i j with h2 | h2
    · rw [List.getElem?_append_left (by rw [ndMarks_len]; omega)]
      exact ih h2 hu
    · obtain rfl : i = j := by omega
      rw [List.getElem?_append_right (by rw [ndMarks_len]; omega), ndMarks_len, show i * 4 + r - i * 4 = r by omega]
      exact hu
def LentCells (S : Nat → Prop) (w : World) : List Value → Fo → Prop
  | vs, .nil => vs = []
  | vs, .cons k t n ks r => ∃ KA kc vs', vs = .int .u8 k :: .string t :: .int .i64 n :: .slice KA ks.len kc :: vs' ∧ k < 256 ∧ t.size ≤ 9223372036854775807 ∧ isInt64 n ∧ LentFo S w KA kc ks ∧ LentCells S w vs' r
theorem LentFo.keepA {A : Option Addr} {c : Nat} {f : Fo} (h : LentFo S w A c f) (hk : ∀ b, S b → w'.heap[b]? = w.heap[b]?) : LentFo S w' A c f := by
  obtain ⟨g, e, h1, h2, h3, h4⟩ := h
  exact ⟨g, e, h1, h2, h3, h4.keep h1 hk⟩
theorem LentAt.mono : ∀ {f : Fo} {g o : Nat}, LentAt S w g o f → (∀ b, S b → S' b) → LentAt S' w g o f
  | .nil, _, _, h, _ => h
  | .cons k t n ks r, g, o, ⟨g', kc, c0, c1, c2, c3, h1, h2, h3, h4, h5, h6, h7, h8⟩, hm => ⟨g', kc, c0, c1, c2, c3, h1, h2, h3, h4, h5, hm _ h6, LentAt.mono h7 hm, LentAt.mono h8 hm⟩
theorem LentFo.mono {A : Option Addr} {c : Nat} {f : Fo} (h : LentFo S w A c f) (hm : ∀ b, S b → S' b) : LentFo S' w A c f := by
  obtain ⟨g, e, h1, h2, h3, h4⟩ := h
  exact ⟨g, e, hm _ h1, h2, h3, h4.mono hm⟩
theorem LentCells.keep (hk : ∀ b, S b → w'.heap[b]? = w.heap[b]?) : ∀ {f : Fo} {vs : List Value}, LentCells S w vs f → LentCells S w' vs f
  | .nil, _, h => h
  | .cons _ _ _ _ _, _, ⟨KA, kc, vs', h1, h2, h3, h4, h5, h6⟩ => ⟨KA, kc, vs', h1, h2, h3, h4, h5.keepA hk, LentCells.keep hk h6⟩
theorem LentCells.snoc {k : Nat} {t : ByteArray} {m : Int} {ks : Fo} {KA : Option Addr} {c : Nat} (h1 : k < 256) (h2 : t.size ≤ 9223372036854775807) (h3 : isInt64 m) (h4 : LentFo S w KA c ks) :
    ∀ {f : Fo} {vs : List Value}, LentCells S w vs f → LentCells S w (vs ++ [.int .u8 k, .string t, .int .i64 m, .slice KA ks.len c]) (f.app (.cons k t m ks .nil))
  | .nil, _, h => by have h' : _ = [] := h; subst h'; exact ⟨KA, c, [], rfl, h1, h2, h3, h4, rfl⟩
  | .cons _ _ _ _ _, _, ⟨KA', kc', vs', g1, g2, g3, g4, g5, g6⟩ => by subst g1; exact ⟨KA', kc', _, rfl, g2, g3, g4, g5, LentCells.snoc h1 h2 h3 h4 g6⟩
theorem LentCells.at_ : ∀ {f : Fo} {vs : List Value} {o : Nat}, LentCells S w vs f → (∀ j u, (vs ++ ndMarks 12)[j]? = some u → w.cell? ⟨g, o + j, none⟩ = some u) → LentAt S w g o f
  | .nil, _, o, h, hc => by
    have h' : _ = [] := h
    subst h'
    intro i hi
    have key : ∀ (r : Nat) u, r < 4 → (ndMark i)[r]? = some u → w.cell? ⟨g, o + i * 4 + r, none⟩ = some u := fun r u hr hu => by
      have := hc (i * 4 + r) u (by rw [List.nil_append]; exact ndMarks_at hr hi hu)
      rwa [← Nat.add_assoc] at this
    exact ⟨key 0 _ (by omega) rfl, key 1 _ (by omega) rfl, key 2 _ (by omega) rfl, key 3 _ (by omega) rfl⟩
  | .cons k t n ks r, _, o, ⟨KA, kc, vs', h1, h2, h3, h4, h5, h6⟩, hc => by
    subst h1
    obtain ⟨g', rfl, a1, a2, a3, a4⟩ := h5
    refine ⟨g', kc, hc 0 _ rfl, hc 1 _ rfl, hc 2 _ rfl, hc 3 _ rfl, h2, h3, h4, a2, a3, a1, a4, LentCells.at_ h6 fun j u hu => ?_⟩
    have := hc (j + 4) u (by simpa using hu)
    rwa [show o + (j + 4) = o + 4 + j by omega] at this
end

end Go.Proofs.YtfhfkbdaglegpaaGreatDoor

namespace Go.Proofs.YtfhfkbdaglegpaaGreatDoor
open Go.RowKit

theorem run_bytes_strA {S : Nat → Prop} (w : World) (A : Option Addr) (c : Nat) (l : List UInt8) (hb : BytesIn S w A l) :
    (convert 36 9 (.slice A l.length c)).run Tryz.prog w = .ok (.string ⟨l.toArray⟩) w := by
  rcases hb.1 with h | ⟨b, o, rfl, _, hc⟩
  · have : l = [] := by simpa [bytesV] using h
    subst this
    show (convert 36 9 (.slice A 0 c)).run Tryz.prog w = _
    rw [run_convert_bytes_string w 36 9 5 A 0 c Tryz.underlying36 Tryz.underlying5 Tryz.underlying9]
    cases A <;> simp [Conv.bytesToString, loadCells, loadCellsFrom]
    all_goals rfl
  · refine run_convert_bytes_back w _ _ _ ⟨b, o, none⟩ c l Tryz.underlying36 Tryz.underlying5 Tryz.underlying9 (fun j hj => ?_)
    rw [Addr.add_lit]
    exact hc j _ (by simp [bytesV, hj])

end Go.Proofs.YtfhfkbdaglegpaaGreatDoor

namespace Go.Proofs.YtfhfkbdaglegpaaGreatDoor
open Go.RowKit

section
variable {S : Nat → Prop} {w : World} {A : Option Addr} {xs : List Value}
theorem rd_none {α : Type} {l : List α} {f : α → Value} (h : Rd S w A (l.map f)) : A = none → l.length = 0 := by
  intro e
  rcases h with h | ⟨b, o, e2, _⟩
  · simpa using h
  · rw [e] at e2; cases e2
theorem rd_add (h : Rd S w A xs) : ∀ ad, A = some ad → ∀ j u, xs[j]? = some u → w.cell? (ad.add j) = some u := by
  intro ad e j u hu
  rcases h with h | ⟨b, o, e2, _, hc⟩
  · subst h; simp at hu
  · rw [e] at e2
    injection e2 with e2
    subst e2
    rw [Addr.add_lit]
    exact hc j u hu
theorem one_cells {α : Type} {f : α → Value} (l : List α) (h : ∀ x, (f x).oneCell' = true) : ∀ u ∈ l.map f, u.oneCell' = true := by
  intro u hu
  obtain ⟨x, _, rfl⟩ := List.mem_map.1 hu
  exact h x
theorem one_new (w : World) (a : Value) (t : TypeId) : ∀ ad, (some ⟨w.heap.size, 0, none⟩ : Option Addr) = some ad → ∀ j u, [a][j]? = some u → (w.alloc (.cells #[a] t)).cell? (ad.add j) = some u := by
  intro ad e j u hu
  injection e with e
  subst e
  rw [Addr.add_lit, Nat.zero_add, Lib.cell_of_heap (heap_alloc_new w _)]
  simpa using hu
end
end Go.Proofs.YtfhfkbdaglegpaaGreatDoor
