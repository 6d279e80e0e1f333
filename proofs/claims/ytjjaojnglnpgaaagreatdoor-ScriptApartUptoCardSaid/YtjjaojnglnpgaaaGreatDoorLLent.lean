/- What is lent: rows with twelve marks in the spare room behind them. The predicates, and what follows from them. -/
import Derived.Lib.Builder
import Derived.Test.YtjjaojnglnpgaaaGreatDoorProg
import Derived.Lib.SliceRun
import Derived.OwnWalk
import Derived.Test.YtjjaojnglnpgaaaGreatDoorLBase
import Derived.Test.YtjjaojnglnpgaaaGreatDoorLKeep

set_option linter.unusedVariables false
set_option linter.unusedSimpArgs false

namespace Go.Proofs.YtjjaojnglnpgaaaGreatDoor
open Go.RowKit

/-- the mark of a place in a row of numbers, in one of texts -/
def markN (i : Nat) : Int := 8000024 + i
def markT (i : Nat) : ByteArray := ⟨#[35, 1, 0, 0, 47, UInt8.ofNat i, 0, 0]⟩
def marksN : List Int := (List.range 12).map markN
def marksT : List ByteArray := (List.range 12).map markT
theorem marksN_len : marksN.length = 12 := by simp [marksN]
theorem marksT_len : marksT.length = 12 := by simp [marksT]

section
variable {S S' : Nat → Prop} {w w' : World} {A : Option Addr} {c : Nat}
/-- a block that holds these cells from its beginning on, with room for n and twelve -/
def LentRow (S : Nat → Prop) (w : World) (A : Option Addr) (c n : Nat) (e : TypeId) (vs : List Value) : Prop :=
  ∃ (g : Nat) (cs : Array Value), A = some ⟨g, 0, none⟩ ∧ S g ∧ w.heap[g]? = some (.cells cs e) ∧ n + 12 ≤ c ∧ c ≤ 9223372036854775807 ∧ ∀ (j : Nat) (u : Value), vs[j]? = some u → cs[j]? = some u
theorem LentRow.keep {n : Nat} {e : TypeId} {vs : List Value} (h : LentRow S w A c n e vs) (hk : ∀ b, S b → w'.heap[b]? = w.heap[b]?) : LentRow S w' A c n e vs := by
  obtain ⟨g, cs, h1, h2, h3, h4⟩ := h
  exact ⟨g, cs, h1, h2, (hk g h2).trans h3, h4⟩
theorem LentRow.mono {n : Nat} {e : TypeId} {vs : List Value} (h : LentRow S w A c n e vs) (hm : ∀ b, b < w.heap.size → S b → S' b) : LentRow S' w A c n e vs := by
  obtain ⟨g, cs, h1, h2, h3, h4⟩ := h
  exact ⟨g, cs, h1, hm g (Array.getElem?_eq_some_iff.1 h3).1 h2, h3, h4⟩
theorem LentRow.rd {n : Nat} {e : TypeId} {vs us : List Value} (h : LentRow S w A c n e (vs ++ us)) : Rd S w A vs := by
  obtain ⟨g, cs, h1, h2, h3, _, _, h6⟩ := h
  refine .inr ⟨g, 0, h1, h2, fun j u hu => ?_⟩
  rw [Nat.zero_add, Lib.cell_of_heap h3]
  exact h6 j u (by rw [List.getElem?_append_left (List.getElem?_eq_some_iff.1 hu).1]; exact hu)
theorem LentRow.at_ {n : Nat} {e : TypeId} {vs : List Value} (h : LentRow S w A c n e vs) {j : Nat} (hj : j < vs.length) : ∃ g, A = some ⟨g, 0, none⟩ ∧ w.cell? ⟨g, j, none⟩ = some vs[j] := by
  obtain ⟨g, cs, h1, _, h3, _, _, h6⟩ := h
  exact ⟨g, h1, by rw [Lib.cell_of_heap h3]; exact h6 j _ (List.getElem?_eq_getElem hj)⟩

def LentStrs (S : Nat → Prop) (w : World) (A : Option Addr) (c : Nat) (l : List ByteArray) : Prop :=
  LentRow S w A c l.length 9 ((l ++ marksT).map .string) ∧ (∀ s ∈ l, s.size ≤ 9223372036854775807) ∧ l.length ≤ 9223372036854775807
def LentInts (S : Nat → Prop) (w : World) (A : Option Addr) (c : Nat) (l : List Int) : Prop :=
  LentRow S w A c l.length 3 ((l ++ marksN).map (fun n => Value.int .i64 n)) ∧ (∀ n ∈ l, isInt64 n) ∧ l.length ≤ 9223372036854775807
theorem LentStrs.strs {l : List ByteArray} (h : LentStrs S w A c l) : StrsIn S w A l := by
  obtain ⟨h1, h2, h3⟩ := h
  rw [List.map_append] at h1
  exact ⟨h1.rd, h2, h3⟩
theorem LentInts.ints {l : List Int} (h : LentInts S w A c l) : IntsIn S w A l := by
  obtain ⟨h1, h2, h3⟩ := h
  rw [List.map_append] at h1
  exact ⟨h1.rd, h2, h3⟩

/-- nodes from the place o of block g on, their kids lent too; twelve marks behind them -/
def LentAt (S : Nat → Prop) (w : World) : Nat → Nat → Fo → Prop
  | g, o, .nil => ∀ i, i < 12 → w.cell? ⟨g, o + i * 4, none⟩ = some (.int .u8 0) ∧ w.cell? ⟨g, o + i * 4 + 1, none⟩ = some (.string ⟨#[]⟩) ∧ w.cell? ⟨g, o + i * 4 + 2, none⟩ = some (.int .i64 (markN i)) ∧ w.cell? ⟨g, o + i * 4 + 3, none⟩ = some (.slice none 0 0)
  | g, o, .cons k t n ks r => ∃ g' kc, w.cell? ⟨g, o, none⟩ = some (.int .u8 k) ∧ w.cell? ⟨g, o + 1, none⟩ = some (.string t) ∧ w.cell? ⟨g, o + 2, none⟩ = some (.int .i64 n) ∧ w.cell? ⟨g, o + 3, none⟩ = some (.slice (some ⟨g', 0, none⟩) ks.len kc) ∧
      k < 256 ∧ t.size ≤ 9223372036854775807 ∧ isInt64 n ∧ ks.len + 12 ≤ kc ∧ kc ≤ 9223372036854775807 ∧ S g' ∧ LentAt S w g' 0 ks ∧ LentAt S w g (o + 4) r
/-- a row of nodes that is lent -/
def LentFo (S : Nat → Prop) (w : World) (A : Option Addr) (c : Nat) (f : Fo) : Prop := ∃ g, A = some ⟨g, 0, none⟩ ∧ S g ∧ f.len + 12 ≤ c ∧ c ≤ 9223372036854775807 ∧ LentAt S w g 0 f
theorem LentAt.fo : ∀ {f : Fo} {g o : Nat}, S g → LentAt S w g o f → FoIn S w (some ⟨g, o, none⟩) f
  | .nil, _, _, _, _ => trivial
  | .cons k t n ks r, g, o, hS, ⟨g', kc, c0, c1, c2, c3, h1, h2, h3, h4, h5, h6, h7, h8⟩ =>
    ⟨g, o, some ⟨g', 0, none⟩, kc, rfl, hS, c0, c1, c2, c3, h1, h2, h3, by omega, h5, LentAt.fo h6 h7, LentAt.fo hS h8⟩
theorem LentFo.fo {f : Fo} (h : LentFo S w A c f) : FoIn S w A f ∧ f.len ≤ c := by
  obtain ⟨g, rfl, h1, h2, h3, h4⟩ := h
  exact ⟨h4.fo h1, by omega⟩
theorem LentAt.keep : ∀ {f : Fo} {g o : Nat}, S g → LentAt S w g o f → (∀ b, S b → w'.heap[b]? = w.heap[b]?) → LentAt S w' g o f
  | .nil, g, o, hS, h, hk => fun i hi => by
    obtain ⟨h1, h2, h3, h4⟩ := h i hi
    have hb := hk g hS
    exact ⟨(World.cell?_of_block hb).trans h1, (World.cell?_of_block hb).trans h2, (World.cell?_of_block hb).trans h3, (World.cell?_of_block hb).trans h4⟩
  | .cons k t n ks r, g, o, hS, ⟨g', kc, c0, c1, c2, c3, h1, h2, h3, h4, h5, h6, h7, h8⟩, hk =>
    have hb := hk g hS
    ⟨g', kc, (World.cell?_of_block hb).trans c0, (World.cell?_of_block hb).trans c1, (World.cell?_of_block hb).trans c2, (World.cell?_of_block hb).trans c3, h1, h2, h3, h4, h5, h6, LentAt.keep h6 h7 hk, LentAt.keep hS h8 hk⟩

/-! ### hunks, edits, patches -/
structure LentHk (S : Nat → Prop) (w : World) (x : Hh) (h : Hk) : Prop where
  at_ : isInt64 h.at_
  old : LentStrs S w x.oA x.oc h.old
  new : LentStrs S w x.nA x.nc h.new
structure LentEd (S : Nat → Prop) (w : World) (x : Eh) (e : Ed) : Prop where
  kind : e.kind < 256
  path : LentInts S w x.pA x.pc e.path
  at_ : isInt64 e.at_
  far : isInt64 e.far
  frm : e.frm.size ≤ 9223372036854775807
  to : e.to.size ≤ 9223372036854775807
  old : LentFo S w x.oA x.oc e.old
  new : LentFo S w x.nA x.nc e.new
structure LentPt (S : Nat → Prop) (w : World) (x : Ph) (p : Pt) : Prop where
  kind : p.kind < 256
  file : p.file.size ≤ 9223372036854775807
  text : p.text.size ≤ 9223372036854775807
  hunk : LentHk S w x.h p.hunk
  edit : LentEd S w x.e p.edit
theorem LentRow.cap {n : Nat} {e : TypeId} {vs : List Value} (h : LentRow S w A c n e vs) : n ≤ c ∧ c ≤ 9223372036854775807 := by
  obtain ⟨_, _, _, _, _, h4, h5, _⟩ := h
  exact ⟨by omega, h5⟩
theorem LentHk.hk {x : Hh} {h : Hk} (a : LentHk S w x h) : HkIn S w x h := ⟨a.at_, a.old.strs, a.new.strs, a.old.1.cap, a.new.1.cap⟩
theorem LentEd.ed {x : Eh} {e : Ed} (a : LentEd S w x e) : EdIn S w x e := by
  obtain ⟨_, _, _, _, h4, _⟩ := a.old
  obtain ⟨_, _, _, _, h5, _⟩ := a.new
  exact ⟨a.kind, a.path.ints, a.at_, a.far, a.frm, a.to, a.old.fo.1, a.new.fo.1, a.path.1.cap, ⟨a.old.fo.2, h4⟩, ⟨a.new.fo.2, h5⟩⟩
theorem LentPt.pt {x : Ph} {p : Pt} (a : LentPt S w x p) : PtIn S w x p := ⟨a.kind, a.file, a.text, a.hunk.hk, a.edit.ed⟩
end

end Go.Proofs.YtjjaojnglnpgaaaGreatDoor

namespace Go.Proofs.YtjjaojnglnpgaaaGreatDoor
open Go.RowKit

theorem run_bytes_strA {S : Nat → Prop} (w : World) (A : Option Addr) (c : Nat) (l : List UInt8) (hb : BytesIn S w A l) :
    (convert 44 9 (.slice A l.length c)).run Tryz.prog w = .ok (.string ⟨l.toArray⟩) w := by
  rcases hb.1 with h | ⟨b, o, rfl, _, hc⟩
  · have : l = [] := by simpa [bytesV] using h
    subst this
    show (convert 44 9 (.slice A 0 c)).run Tryz.prog w = _
    rw [run_convert_bytes_string w 44 9 5 A 0 c Tryz.underlying44 Tryz.underlying5 Tryz.underlying9]
    cases A <;> simp [Conv.bytesToString, loadCells, loadCellsFrom]
    all_goals rfl
  · refine run_convert_bytes_back w _ _ _ ⟨b, o, none⟩ c l Tryz.underlying44 Tryz.underlying5 Tryz.underlying9 (fun j hj => ?_)
    rw [Addr.add_lit]
    exact hc j _ (by simp [bytesV, hj])

theorem mark_conv (n : Int) (h : 0 ≤ n ∧ n < 12) (w : World) : (convert 44 9 (.slice (some ⟨w.heap.size, 0, none⟩) 8 8)).run Tryz.prog (w.alloc (.cells #[.int .u8 35, .int .u8 1, .int .u8 0, .int .u8 0, .int .u8 47, .int .u8 n, .int .u8 0, .int .u8 0] 5)) =
    .ok (.string (markT n.toNat)) (w.alloc (.cells #[.int .u8 35, .int .u8 1, .int .u8 0, .int .u8 0, .int .u8 47, .int .u8 n, .int .u8 0, .int .u8 0] 5)) := by
  have hb : BytesIn (fun _ => True) (w.alloc (.cells #[.int .u8 35, .int .u8 1, .int .u8 0, .int .u8 0, .int .u8 47, .int .u8 n, .int .u8 0, .int .u8 0] 5)) (some ⟨w.heap.size, 0, none⟩) [35, 1, 0, 0, 47, UInt8.ofNat n.toNat, 0, 0] := by
    have e : ((UInt8.ofNat n.toNat).toNat : Int) = n := by rw [UInt8.toNat_ofNat']; omega
    refine ⟨.inr ⟨w.heap.size, 0, rfl, trivial, fun j u hu => ?_⟩, by simp only [List.length_cons, List.length_nil]; omega⟩
    rw [Nat.zero_add, Lib.cell_of_heap (heap_alloc_new w _)]
    match j, hu with
    | 0, hu => exact hu
    | 1, hu => exact hu
    | 2, hu => exact hu
    | 3, hu => exact hu
    | 4, hu => exact hu
    | 5, hu => have hu' : some (Value.int .u8 ((UInt8.ofNat n.toNat).toNat : Int)) = some u := hu; rw [e] at hu'; exact hu'
    | 6, hu => exact hu
    | 7, hu => exact hu
    | j + 8, hu => simp [bytesV] at hu
  exact run_bytes_strA _ (some ⟨w.heap.size, 0, none⟩) 8 [35, 1, 0, 0, 47, UInt8.ofNat n.toNat, 0, 0] hb

set_option maxRecDepth 100000 in
set_option maxHeartbeats 4000000 in
theorem markText_any (n : Int) (h : 0 ≤ n ∧ n < 12) (w : World) : Calls Tryz.prog 127 #[.int .i64 1, .int .i64 n] w fun e w' => e = .returned (.string (markT n.toNat)) ∧ Below w.heap.size w w' := by
  have hcv := mark_conv n h w
  have h' : n = 0 ∨ n = 1 ∨ n = 2 ∨ n = 3 ∨ n = 4 ∨ n = 5 ∨ n = 6 ∨ n = 7 ∨ n = 8 ∨ n = 9 ∨ n = 10 ∨ n = 11 := by omega
  clear h
  rcases h' with rfl | rfl | rfl | rfl | rfl | rfl | rfl | rfl | rfl | rfl | rfl | rfl
  all_goals
    go_enter Tryz.func127, Tryz.ntmps127
    go_wp2_with fail
    go_ret
    exact ⟨rfl, below_alloc _ _⟩

end Go.Proofs.YtjjaojnglnpgaaaGreatDoor

namespace Go.Proofs.YtjjaojnglnpgaaaGreatDoor
open Go.RowKit

theorem wpList_append_fits2 {P : Program} (w : World) {ops : Array Oper} {rest : List Oper} {o : Oper} {a : Act} {Q : Exit → Act → World → Prop}
    (hg : o.guard = none) (s x : Operand) (t : TypeId) (hop : o.op = Op.call { callee := Callee.builtin Builtin.append, args := #[s, x], argTypes := #[t, t] })
    (base : Nat) (e : TypeId) (i : TypeInfo) (size : Nat) (h1 : P.underlying t = some (.slice e)) (h2 : P.info? e = some i) (h4 : i.size = size)
    (g k cap : Nat) (xs : List Value) (hs : a.eval s = .slice (some ⟨g, 0, none⟩) k cap) (hown : w.ownsRow base e size (.slice (some ⟨g, 0, none⟩) k cap) k xs) (ao : Option Addr) (m c : Nat) (news : List Value) (hx : a.eval x = .slice ao m c) (hn : news.length = m * size)
    (hnone : ao = none → m = 0) (hc : ∀ ad, ao = some ad → ∀ j u, news[j]? = some u → w.cell? (ad.add j) = some u) (h1c : ∀ u ∈ news, u.oneCell' = true) (b1 : k + m ≤ cap)
    (hK : ∀ w', w'.ownsRow base e size (.slice (some ⟨g, 0, none⟩) (k + m) cap) (k + m) (xs ++ news) → w.grownBy w' (some g) → wpList P ops Q rest (a.put o.dst (.slice (some ⟨g, 0, none⟩) (k + m) cap)) w') :
    wpList P ops Q (o :: rest) a w := by
  cases ao with
  | some ad => exact wpList_append_fits w hg s x t hop base e i size h1 h2 h4 g k cap xs hs hown ad m c news hx hn (hc ad rfl) h1c b1 hK
  | none =>
    obtain rfl := hnone rfl
    have hnews : news = [] := List.eq_nil_of_length_eq_zero (by simpa using hn)
    subst hnews
    refine wpList_plain hg fun K hK' => ?_
    have hrun := run_append_none (P := P) (c0 := c) h1 h2 hown o.type
    unfold Oper.wp
    simp [execOp, hop, resolve, invoke, builtin, hs, hx, hrun, Result.andThen]
    exact hK' _ _ (by simpa using hK w (by simpa using hown) (World.grownBy.refl _ _))

section
variable {S S' : Nat → Prop} {w w' : World} {base g cap n : Nat} {e : TypeId} {size : Nat} {xs : List Value}
theorem own_grown (hB : Below w.heap.size w w') (hg : w.heap.size ≤ g) {w2 : World} (h : w'.grownBy w2 (some g)) : Below w.heap.size w w2 := hB.grown h hB.size (fun k hk => by injection hk with hk; omega)
theorem own_stay (h : w.ownsRow base e size (.slice (some ⟨g, 0, none⟩) n cap) n xs) (hB : Below w.heap.size w w') : w'.ownsRow base e size (.slice (some ⟨g, 0, none⟩) n cap) n xs := by
  refine ⟨h.1, ?_⟩
  rcases h.2 with ⟨e1, h0⟩ | ⟨g', cap', cur, e1, hbg, hg, hr⟩
  · exact .inl ⟨e1, h0⟩
  · exact .inr ⟨g', cap', cur, e1, hbg, (hB.block g' (Array.getElem?_eq_some_iff.1 hg).1).trans hg, hr⟩
/-- an own row, the twelve marks in it -/
theorem lentRow_own {vs : List Value} (h : w.ownsRow base e 1 (.slice (some ⟨g, 0, none⟩) (n + 12) cap) (n + 12) vs) (hS : S g) : LentRow S w (some ⟨g, 0, none⟩) cap n e vs := by
  rcases h.2 with ⟨e1, _⟩ | ⟨g', cap', cur, e1, _, hg, h1, h2, h3, h4⟩
  · cases e1
  · injection e1 with e1 _ e2
    injection e1 with e1
    injection e1 with e1
    subst e1 e2
    refine ⟨g, cur, rfl, hS, hg, h1, by unfold maxLen at h2; omega, fun j u hu => ?_⟩
    rw [← h4, List.getElem?_take] at hu
    split at hu
    · simpa using hu
    · cases hu
theorem own_cellAt (h : w.ownsRow base e size (.slice (some ⟨g, 0, none⟩) n cap) n xs) : ∀ j u, xs[j]? = some u → w.cell? ⟨g, 0 + j, none⟩ = some u := by
  intro j u hu
  have := h.cells (g := g) rfl j u hu
  rwa [Addr.add_lit] at this
theorem own_cap12 (h : w.ownsRow base e size (.slice (some ⟨g, 0, none⟩) n cap) n xs) : n ≤ cap ∧ cap ≤ 9223372036854775807 ∧ base ≤ g ∧ g < w.heap.size := by
  rcases h.2 with ⟨e1, _⟩ | ⟨g', cap', cur, e1, hb, hg, h1, h2, _⟩
  · cases e1
  · injection e1 with e1 _ e2
    injection e1 with e1
    injection e1 with e1
    subst e1 e2
    exact ⟨h1, by unfold maxLen at h2; omega, hb, (Array.getElem?_eq_some_iff.1 hg).1⟩

/-! ### cells of nodes, their kids lent -/
def ndMark (i : Nat) : List Value := [.int .u8 0, .string ⟨#[]⟩, .int .i64 (markN i), .slice none 0 0]
def ndMarks (j : Nat) : List Value := (List.range j).flatMap ndMark
theorem ndMarks_next (j : Nat) : ndMarks (j + 1) = ndMarks j ++ ndMark j := by simp [ndMarks, List.range_succ]
theorem ndMarks_len (j : Nat) : (ndMarks j).length = j * 4 := by
  induction j with
  | zero => rfl
  | succ j ih => rw [ndMarks_next, List.length_append, ih]; simp [ndMark]; omega
theorem ndMarks_at {i r : Nat} {u : Value} (hr : r < 4) : ∀ {j : Nat}, i < j → (ndMark i)[r]? = some u → (ndMarks j)[i * 4 + r]? = some u := by
  intro j
  induction j with
  | zero => intro h; omega
  | succ j ih =>
    intro h hu
    rw [ndMarks_next]
    rcases Nat.lt_or_ge i j with h2 | h2
    · rw [List.getElem?_append_left (by rw [ndMarks_len]; omega)]
      exact ih h2 hu
    · obtain rfl : i = j := by omega
      rw [List.getElem?_append_right (by rw [ndMarks_len]; omega), ndMarks_len, show i * 4 + r - i * 4 = r by omega]
      exact hu
def LentCells (S : Nat → Prop) (w : World) : List Value → Fo → Prop
  | vs, .nil => vs = []
  | vs, .cons k t n ks r => ∃ KA kc vs', vs = .int .u8 k :: .string t :: .int .i64 n :: .slice KA ks.len kc :: vs' ∧ k < 256 ∧ t.size ≤ 9223372036854775807 ∧ isInt64 n ∧ LentFo S w KA kc ks ∧ LentCells S w vs' r
theorem LentFo.keepA {A : Option Addr} {c : Nat} {f : Fo} (h : LentFo S w A c f) (hk : ∀ b, S b → w'.heap[b]? = w.heap[b]?) : LentFo S w' A c f := by
  obtain ⟨g, e, h1, h2, h3, h4⟩ := h
  exact ⟨g, e, h1, h2, h3, h4.keep h1 hk⟩
theorem LentAt.mono : ∀ {f : Fo} {g o : Nat}, LentAt S w g o f → (∀ b, S b → S' b) → LentAt S' w g o f
  | .nil, _, _, h, _ => h
  | .cons k t n ks r, g, o, ⟨g', kc, c0, c1, c2, c3, h1, h2, h3, h4, h5, h6, h7, h8⟩, hm => ⟨g', kc, c0, c1, c2, c3, h1, h2, h3, h4, h5, hm _ h6, LentAt.mono h7 hm, LentAt.mono h8 hm⟩
theorem LentFo.mono {A : Option Addr} {c : Nat} {f : Fo} (h : LentFo S w A c f) (hm : ∀ b, S b → S' b) : LentFo S' w A c f := by
  obtain ⟨g, e, h1, h2, h3, h4⟩ := h
  exact ⟨g, e, hm _ h1, h2, h3, h4.mono hm⟩
theorem LentCells.keep (hk : ∀ b, S b → w'.heap[b]? = w.heap[b]?) : ∀ {f : Fo} {vs : List Value}, LentCells S w vs f → LentCells S w' vs f
  | .nil, _, h => h
  | .cons _ _ _ _ _, _, ⟨KA, kc, vs', h1, h2, h3, h4, h5, h6⟩ => ⟨KA, kc, vs', h1, h2, h3, h4, h5.keepA hk, LentCells.keep hk h6⟩
theorem LentCells.snoc {k : Nat} {t : ByteArray} {m : Int} {ks : Fo} {KA : Option Addr} {c : Nat} (h1 : k < 256) (h2 : t.size ≤ 9223372036854775807) (h3 : isInt64 m) (h4 : LentFo S w KA c ks) :
    ∀ {f : Fo} {vs : List Value}, LentCells S w vs f → LentCells S w (vs ++ [.int .u8 k, .string t, .int .i64 m, .slice KA ks.len c]) (f.app (.cons k t m ks .nil))
  | .nil, _, h => by have h' : _ = [] := h; subst h'; exact ⟨KA, c, [], rfl, h1, h2, h3, h4, rfl⟩
  | .cons _ _ _ _ _, _, ⟨KA', kc', vs', g1, g2, g3, g4, g5, g6⟩ => by subst g1; exact ⟨KA', kc', _, rfl, g2, g3, g4, g5, LentCells.snoc h1 h2 h3 h4 g6⟩
theorem LentCells.at_ : ∀ {f : Fo} {vs : List Value} {o : Nat}, LentCells S w vs f → (∀ j u, (vs ++ ndMarks 12)[j]? = some u → w.cell? ⟨g, o + j, none⟩ = some u) → LentAt S w g o f
  | .nil, _, o, h, hc => by
    have h' : _ = [] := h
    subst h'
    intro i hi
    have key : ∀ (r : Nat) u, r < 4 → (ndMark i)[r]? = some u → w.cell? ⟨g, o + i * 4 + r, none⟩ = some u := fun r u hr hu => by
      have := hc (i * 4 + r) u (by rw [List.nil_append]; exact ndMarks_at hr hi hu)
      rwa [← Nat.add_assoc] at this
    exact ⟨key 0 _ (by omega) rfl, key 1 _ (by omega) rfl, key 2 _ (by omega) rfl, key 3 _ (by omega) rfl⟩
  | .cons k t n ks r, _, o, ⟨KA, kc, vs', h1, h2, h3, h4, h5, h6⟩, hc => by
    subst h1
    obtain ⟨g', rfl, a1, a2, a3, a4⟩ := h5
    refine ⟨g', kc, hc 0 _ rfl, hc 1 _ rfl, hc 2 _ rfl, hc 3 _ rfl, h2, h3, h4, a2, a3, a1, a4, LentCells.at_ h6 fun j u hu => ?_⟩
    have := hc (j + 4) u (by simpa using hu)
    rwa [show o + (j + 4) = o + 4 + j by omega] at this
theorem lent_take_next : ∀ {f : Fo} {i k : Nat} {t : ByteArray} {n : Int} {ks r : Fo}, f.drop i = .cons k t n ks r → f.take (i + 1) = (f.take i).app (.cons k t n ks .nil) := by
  intro f
  induction f with
  | nil => intro i k t n ks r h; cases i <;> cases h
  | cons k' t' n' ks' r' _ ih =>
    intro i k t n ks r h
    cases i with
    | zero => cases h; cases r' <;> rfl
    | succ i => simp only [Fo.take, Fo.app]; rw [← ih (i := i) h]
theorem lent_take_all : ∀ f : Fo, f.take f.len = f := by
  intro f
  induction f with
  | nil => rfl
  | cons k t n ks r _ ih => simp only [Fo.len, Fo.take, ih]
theorem lent_take_zero (f : Fo) : f.take 0 = .nil := by cases f <;> rfl
theorem fo_cnt_at : ∀ {f : Fo} {i k : Nat} {t : ByteArray} {n : Int} {ks r : Fo}, f.drop i = .cons k t n ks r → ks.cnt < f.cnt := by
  intro f
  induction f with
  | nil => intro i k t n ks r h; cases i <;> cases h
  | cons k' t' n' ks' r' _ ih =>
    intro i k t n ks r h
    cases i with
    | zero => cases h; simp [Fo.cnt]; omega
    | succ i => have := ih (i := i) h; simp [Fo.cnt]; omega
end

end Go.Proofs.YtjjaojnglnpgaaaGreatDoor

namespace Go.Proofs.YtjjaojnglnpgaaaGreatDoor
open Go.RowKit

section
variable {S : Nat → Prop} {w : World} {A : Option Addr} {xs : List Value}
theorem rd_none {α : Type} {l : List α} {f : α → Value} (h : Rd S w A (l.map f)) : A = none → l.length = 0 := by
  intro e
  rcases h with h | ⟨b, o, e2, _⟩
  · simpa using h
  · rw [e] at e2; cases e2
theorem rd_add (h : Rd S w A xs) : ∀ ad, A = some ad → ∀ j u, xs[j]? = some u → w.cell? (ad.add j) = some u := by
  intro ad e j u hu
  rcases h with h | ⟨b, o, e2, _, hc⟩
  · subst h; simp at hu
  · rw [e] at e2
    injection e2 with e2
    subst e2
    rw [Addr.add_lit]
    exact hc j u hu
theorem one_cells {α : Type} {f : α → Value} (l : List α) (h : ∀ x, (f x).oneCell' = true) : ∀ u ∈ l.map f, u.oneCell' = true := by
  intro u hu
  obtain ⟨x, _, rfl⟩ := List.mem_map.1 hu
  exact h x
theorem one_new (w : World) (a : Value) (t : TypeId) : ∀ ad, (some ⟨w.heap.size, 0, none⟩ : Option Addr) = some ad → ∀ j u, [a][j]? = some u → (w.alloc (.cells #[a] t)).cell? (ad.add j) = some u := by
  intro ad e j u hu
  injection e with e
  subst e
  rw [Addr.add_lit, Nat.zero_add, Lib.cell_of_heap (heap_alloc_new w _)]
  simpa using hu
end
theorem mark_any (n : Int) (h : 0 ≤ n ∧ n < 12) (w : World) : Calls Tryz.prog 144 #[.int .i64 1, .int .i64 n] w fun e w' => e = .returned (.int .i64 (8000024 + n)) ∧ w = w' := by
  go_enter Tryz.func144, Tryz.ntmps144
  go_wp2_with fail
  go_ret
  exact ⟨by simp <;> omega, rfl⟩
theorem markT_at {n : Int} (h : 0 ≤ n ∧ n < 12) (w : World) : Calls Tryz.prog 127 #[.int .i64 1, .int .i64 n] w fun e w' => e = .returned (.string (markT n.toNat)) ∧ Below w.heap.size w w' := markText_any n h w
theorem markN_at {n : Int} (h : 0 ≤ n ∧ n < 12) (w : World) : Calls Tryz.prog 144 #[.int .i64 1, .int .i64 n] w fun e w' => e = .returned (.int .i64 (8000024 + n)) ∧ Below w.heap.size w w' :=
  (mark_any n h w).mono fun _ _ ⟨h1, h2⟩ => ⟨h1, h2 ▸ Below.refl _ _⟩
theorem marks_nextTexts {q : Nat} (h : q < 12) : (marksT.take (q + 1)).map Value.string = (marksT.take q).map Value.string ++ [.string (markT (q : Int).toNat)] := by
  have e : marksT[q]'(by rw [marksT_len]; omega) = markT q := by simp [marksT]
  rw [List.take_succ_eq_append_getElem (by rw [marksT_len]; omega), List.map_append, e]
  rfl
theorem marks_nextInts {q : Nat} (h : q < 12) : (marksN.take (q + 1)).map (fun n => Value.int .i64 n) = (marksN.take q).map (fun n => Value.int .i64 n) ++ [.int .i64 (8000024 + (q : Int))] := by
  have e : marksN[q]'(by rw [marksN_len]; omega) = markN q := by simp [marksN]
  rw [List.take_succ_eq_append_getElem (by rw [marksN_len]; omega), List.map_append, e]
  rfl

set_option maxHeartbeats 4000000 in
set_option maxRecDepth 100000 in
theorem lentTexts_any {S : Nat → Prop} {A : Option Addr} {c : Nat} {l : List ByteArray} {w : World} (h : StrsIn S w A l) (hl : l.length ≤ 1099511627776) :
    Calls Tryz.prog 54 #[.slice A l.length c] w fun e w' => ∃ A' c', e = .returned (.slice A' l.length c') ∧ LentStrs (fun b => w.heap.size ≤ b) w' A' c' l ∧ Below w.heap.size w w' := by
  have H := hide h
  obtain ⟨i0, hi, ia0, ia1, ia2⟩ := info_parts InfosomeStr
  clear h
  go_enter Tryz.func54, Tryz.ntmps54
  go_wp2_with (first
    | (at_make; refine wpList_make_own _ rfl _ _ 34 rfl w.heap.size 9 i0 (.string ByteArray.empty) 1 Tryz.underlying34 hi ia0 ia1 _ _ _ (l.length + 12) rfl rfl (by omega) (by rw [ia2]; omega) (by unfold maxLen; omega) (Nat.le_refl _) ?_; intro w1 hown hgrow; have HO1 := hide hown; have HB1 : Hid (Below w.heap.size w w1) := hide ((Below.refl _ _).grown hgrow (Nat.le_refl _) (fun k hk => by cases hk)); clear hown hgrow)
    | (at_builtin; refine wpList_append_fits2 _ rfl _ _ 34 rfl w.heap.size 9 i0 1 Tryz.underlying34 hi ia1 w.heap.size 0 (l.length + 12) [] rfl HO1.out A l.length c (l.map Value.string) rfl (by simp) (rd_none (H.out.below HB1.out).1) (rd_add (H.out.below HB1.out).1) (one_cells _ (fun _ => rfl)) (by omega) ?_; intro w2 hown2 hgrow2; have HO2 := hide hown2; have HB2 := hide (own_grown HB1.out (Nat.le_refl _) hgrow2); clear hown2 hgrow2 HO1 HB1))
  have HO3 : Hid (w2.ownsRow w.heap.size 9 1 (.slice (some ⟨w.heap.size, 0, none⟩) l.length (l.length + 12)) l.length (l.map Value.string ++ (marksT.take 0).map Value.string)) := hide (by have := HO2.out; simpa using this)
  clear HO2
  go_loopw [4, 3] (fun i v wr => ∃ q : Nat, q ≤ 12 ∧ i = .int .i64 q ∧ v = .slice (some ⟨w.heap.size, 0, none⟩) (l.length + q) (l.length + 12) ∧ Hid (wr.ownsRow w.heap.size 9 1 (.slice (some ⟨w.heap.size, 0, none⟩) (l.length + q) (l.length + 12)) (l.length + q) (l.map Value.string ++ (marksT.take q).map Value.string)) ∧ Hid (Below w.heap.size w wr)) (fun i _ _ => 12 - (intOf i).toNat)
  case atStart => exact ⟨0, by omega, rfl, rfl, HO3, HB2⟩
  case round =>
    clear HO3 HB2
    obtain ⟨q, hq, rfl, rfl, HO, HB⟩ := hrel
    by_cases hlt : q < 12
    · have hq12 : (0 : Int) ≤ (q : Int) ∧ (q : Int) < 12 := by omega
      have Hm := hide (marks_nextTexts hlt)
      have hsz := HB.out.size
      go_wp2_with (first
        | (go_at_call 127; (with_reducible refine (markT_at hq12 _).mono ?_); rintro e1 w1 ⟨rfl, hB⟩; have HO1 := hide (own_stay HO.out hB); have HB1 := hide (HB.out.trans (hB.mono hsz)); clear hB)
        | (at_builtin; refine wpList_append_fits2 _ rfl _ _ 34 rfl w.heap.size 9 i0 1 Tryz.underlying34 hi ia1 w.heap.size (l.length + q) (l.length + 12) _ rfl (HO1.out.alloc _) (some ⟨w1.heap.size, 0, none⟩) 1 1 [.string (markT (q : Int).toNat)] rfl rfl (by intro h; cases h) (one_new _ _ _) (by intro u hu; simp at hu; subst hu; rfl) (by omega) ?_; intro w2 hown2 hgrow2; have HO2 := hide hown2; have HB2 := hide (own_grown (HB1.out.alloc HB1.out.size _) (Nat.le_refl _) hgrow2); clear hown2 hgrow2 HO1 HB1))
      go_roundw
      case rel => exact ⟨q + 1, by omega, by go_num, by rw [Nat.add_assoc], hide (by have h5 := HO2.out; rw [Nat.add_assoc] at h5; rw [Hm.out]; simpa using h5), HB2⟩
      case measure => simp [intOf]; omega
    · obtain rfl : q = 12 := by omega
      have hcap := own_cap12 HO.out
      go_wp2_with fail
      go_ret
      refine ⟨_, _, rfl, ⟨?_, H.out.2⟩, HB.out⟩
      have h5 := HO.out
      rw [List.take_of_length_le (by rw [marksT_len]; omega), ← List.map_append] at h5
      exact lentRow_own h5 (Nat.le_refl _)

set_option maxHeartbeats 4000000 in
set_option maxRecDepth 100000 in
theorem lentInts_any {S : Nat → Prop} {A : Option Addr} {c : Nat} {l : List Int} {w : World} (h : IntsIn S w A l) (hl : l.length ≤ 1099511627776) :
    Calls Tryz.prog 167 #[.slice A l.length c] w fun e w' => ∃ A' c', e = .returned (.slice A' l.length c') ∧ LentInts (fun b => w.heap.size ≤ b) w' A' c' l ∧ Below w.heap.size w w' := by
  have H := hide h
  obtain ⟨i0, hi, ia0, ia1, ia2⟩ := info_parts InfosomeInt
  clear h
  go_enter Tryz.func167, Tryz.ntmps167
  go_wp2_with (first
    | (at_make; refine wpList_make_own _ rfl _ _ 38 rfl w.heap.size 3 i0 (.int .i64 0) 1 Tryz.underlying38 hi ia0 ia1 _ _ _ (l.length + 12) rfl rfl (by omega) (by rw [ia2]; omega) (by unfold maxLen; omega) (Nat.le_refl _) ?_; intro w1 hown hgrow; have HO1 := hide hown; have HB1 : Hid (Below w.heap.size w w1) := hide ((Below.refl _ _).grown hgrow (Nat.le_refl _) (fun k hk => by cases hk)); clear hown hgrow)
    | (at_builtin; refine wpList_append_fits2 _ rfl _ _ 38 rfl w.heap.size 3 i0 1 Tryz.underlying38 hi ia1 w.heap.size 0 (l.length + 12) [] rfl HO1.out A l.length c (l.map (fun n => Value.int .i64 n)) rfl (by simp) (rd_none (H.out.below HB1.out).1) (rd_add (H.out.below HB1.out).1) (one_cells _ (fun _ => rfl)) (by omega) ?_; intro w2 hown2 hgrow2; have HO2 := hide hown2; have HB2 := hide (own_grown HB1.out (Nat.le_refl _) hgrow2); clear hown2 hgrow2 HO1 HB1))
  have HO3 : Hid (w2.ownsRow w.heap.size 3 1 (.slice (some ⟨w.heap.size, 0, none⟩) l.length (l.length + 12)) l.length (l.map (fun n => Value.int .i64 n) ++ (marksN.take 0).map (fun n => Value.int .i64 n))) := hide (by have := HO2.out; simpa using this)
  clear HO2
  go_loopw [4, 3] (fun i v wr => ∃ q : Nat, q ≤ 12 ∧ i = .int .i64 q ∧ v = .slice (some ⟨w.heap.size, 0, none⟩) (l.length + q) (l.length + 12) ∧ Hid (wr.ownsRow w.heap.size 3 1 (.slice (some ⟨w.heap.size, 0, none⟩) (l.length + q) (l.length + 12)) (l.length + q) (l.map (fun n => Value.int .i64 n) ++ (marksN.take q).map (fun n => Value.int .i64 n))) ∧ Hid (Below w.heap.size w wr)) (fun i _ _ => 12 - (intOf i).toNat)
  case atStart => exact ⟨0, by omega, rfl, rfl, HO3, HB2⟩
  case round =>
    clear HO3 HB2
    obtain ⟨q, hq, rfl, rfl, HO, HB⟩ := hrel
    by_cases hlt : q < 12
    · have hq12 : (0 : Int) ≤ (q : Int) ∧ (q : Int) < 12 := by omega
      have Hm := hide (marks_nextInts hlt)
      have hsz := HB.out.size
      go_wp2_with (first
        | (go_at_call 144; (with_reducible refine (markN_at hq12 _).mono ?_); rintro e1 w1 ⟨rfl, hB⟩; have HO1 := hide (own_stay HO.out hB); have HB1 := hide (HB.out.trans (hB.mono hsz)); clear hB)
        | (at_builtin; refine wpList_append_fits2 _ rfl _ _ 38 rfl w.heap.size 3 i0 1 Tryz.underlying38 hi ia1 w.heap.size (l.length + q) (l.length + 12) _ rfl (HO1.out.alloc _) (some ⟨w1.heap.size, 0, none⟩) 1 1 [.int .i64 (8000024 + (q : Int))] rfl rfl (by intro h; cases h) (one_new _ _ _) (by intro u hu; simp at hu; subst hu; rfl) (by omega) ?_; intro w2 hown2 hgrow2; have HO2 := hide hown2; have HB2 := hide (own_grown (HB1.out.alloc HB1.out.size _) (Nat.le_refl _) hgrow2); clear hown2 hgrow2 HO1 HB1))
      go_roundw
      case rel => exact ⟨q + 1, by omega, by go_num, by rw [Nat.add_assoc], hide (by have h5 := HO2.out; rw [Nat.add_assoc] at h5; rw [Hm.out]; simpa using h5), HB2⟩
      case measure => simp [intOf]; omega
    · obtain rfl : q = 12 := by omega
      have hcap := own_cap12 HO.out
      go_wp2_with fail
      go_ret
      refine ⟨_, _, rfl, ⟨?_, H.out.2⟩, HB.out⟩
      have h5 := HO.out
      rw [List.take_of_length_le (by rw [marksN_len]; omega), ← List.map_append] at h5
      exact lentRow_own h5 (Nat.le_refl _)

end Go.Proofs.YtjjaojnglnpgaaaGreatDoor
