/- What is kept, rows of the call's own, cells of nodes: what the walks of several packages share. -/
import Derived.Test.YtfhfkbdaglegpaaGreatDoorProg
import Derived.OwnWalk
import Derived.Laws.AppendOwn
import Derived.Laws.OwnMore
import Derived.Laws.IdiomStrings
import Derived.Laws.Append
import Derived.Lib.AppendStr
import Derived.Test.YtfhfkbdaglegpaaGreatDoorGBase

set_option linter.unusedVariables false
set_option linter.unusedSimpArgs false

namespace Go.Proofs.YtfhfkbdaglegpaaGreatDoor
open Go.RowKit

/-- nothing in the blocks of P is turned -/
structure Keep (P : Nat → Prop) (w w' : World) : Prop where
  os : w'.os = w.os
  tape : w'.tape = w.tape
  output : w'.output = w.output
  size : w.heap.size ≤ w'.heap.size
  block : ∀ k, P k → w'.heap[k]? = w.heap[k]?
section
variable {P P' : Nat → Prop} {w w' w'' : World}
theorem Keep.refl (P : Nat → Prop) (w : World) : Keep P w w := ⟨rfl, rfl, rfl, Nat.le_refl _, fun _ _ => rfl⟩
theorem Keep.trans (h : Keep P w w') (h' : Keep P w' w'') : Keep P w w'' := ⟨h'.os.trans h.os, h'.tape.trans h.tape, h'.output.trans h.output, Nat.le_trans h.size h'.size, fun k hk => (h'.block k hk).trans (h.block k hk)⟩
theorem Keep.mono (h : Keep P' w w') (hp : ∀ k, P k → P' k) : Keep P w w' := ⟨h.os, h.tape, h.output, h.size, fun k hk => h.block k (hp k hk)⟩
theorem Keep.drew (h : Keep P w w') : Keep P w w'.drew := ⟨h.os, h.tape, h.output, h.size, h.block⟩
theorem Keep.drewN (h : Keep P w w') (n : Nat) : Keep P w (w'.drewN n) := ⟨h.os, h.tape, h.output, h.size, h.block⟩
theorem Keep.alloc (h : Keep P w w') (hp : ∀ k, P k → k < w.heap.size) (o : Obj) : Keep P w (w'.alloc o) :=
  h.trans ⟨rfl, rfl, rfl, by simp, fun k hk => Below.heap_alloc w' o k (Nat.lt_of_lt_of_le (hp k hk) h.size)⟩
theorem Keep.setCell (h : Keep P w w') {a : Addr} (ha : ¬ P a.block) (u : Value) : Keep P w (w'.setCell a u) :=
  h.trans ⟨rfl, rfl, rfl, by simp [World.setCell], fun k hk => Below.heap_setCell w' a u k (fun e => ha (e ▸ hk))⟩
theorem Keep.grown (h : Keep P w w') {row : Option Nat} (hg : w'.grownBy w'' row) (hp : ∀ k, P k → k < w.heap.size) (hr : ∀ k, row = some k → ¬ P k) : Keep P w w'' :=
  h.trans ⟨hg.os, hg.tape, hg.output, hg.size, fun k hk => hg.block k (Nat.lt_of_lt_of_le (hp k hk) h.size) (fun e => hr k e.symm hk)⟩
theorem Keep.cell (h : Keep P w w') {a : Addr} (ha : P a.block) : w'.cell? a = w.cell? a := World.cell?_of_block (h.block _ ha)
theorem Keep.frozen (h : Keep P w w') {a : Addr} (ha : P a.block) : w'.frozen? a = w.frozen? a := World.frozen?_of_block (h.block _ ha)
theorem Keep.box (h : Keep P w w') {N : Nat} (hN : P N) : (∀ o, w'.cell? ⟨N, o, none⟩ = w.cell? ⟨N, o, none⟩) ∧ (∀ o, w'.frozen? ⟨N, o, none⟩ = w.frozen? ⟨N, o, none⟩) := ⟨fun o => h.cell (a := ⟨N, o, none⟩) hN, fun o => h.frozen (a := ⟨N, o, none⟩) hN⟩
theorem Keep.below {B : Nat} (h : Keep (fun k => k < B) w w') : Below B w w' := ⟨h.os, h.tape, h.output, h.size, h.block⟩
theorem Keep.of_below {B : Nat} (h : Below B w w') (hp : ∀ k, P k → k < B) : Keep P w w' := ⟨h.os, h.tape, h.output, h.size, fun k hk => h.block k (hp k hk)⟩
end

section
variable {Q : Program} (w : World)
/-- a row that is appended to stays in its block, or goes into a new one -/
theorem append_where (t ty e : TypeId) (i : TypeInfo) (z : Value) (size bytes : Nat) (ht : Q.underlying t = some (.slice e)) (hi : Q.info? e = some i) (hz : i.zero = some z)
    (hsize : i.size = size) (hby : i.bytes = bytes) (v : Value) (n : Nat) (xs : List Value) (hown : w.ownsRow 0 e size v n xs)
    (a : Addr) (m c : Nat) (news : List Value) (hl : news.length = m * size) (hnews : ∀ j u, news[j]? = some u → w.cell? (a.add j) = some u) (h1 : ∀ u ∈ news, u.oneCell' = true)
    (h63 : n + m ≤ maxLen) (hbytes : (n + m) * bytes ≤ 140737488355328) (v' : Value) (w' : World) (hrun : (Builtin.append_ #[t, t] ty #[v, .slice (some a) m c]).run Q w = .ok v' w') :
    v'.ownBlock = v.ownBlock ∨ v'.ownBlock = some w.heap.size := by
  subst hsize
  subst hby
  have hm : n + m ≤ 9223372036854775807 := by simp only [maxLen] at h63; omega
  rcases hown.2 with ⟨rfl, rfl⟩ | ⟨g, cap, cur, rfl, _, hg, hnc, hcm, hcs, htake⟩
  · by_cases h0 : m = 0
    · subst h0
      have hn : news = [] := List.eq_nil_of_length_eq_zero (by simpa using hl)
      have hr : (Builtin.append_ #[t, t] ty #[.slice none 0 0, .slice (some a) 0 c]).run Q w = .ok (.slice none 0 0) w := by
        simp [Builtin.append_, run_underlying ht, sizeOf, typeInfo, hi, Builtin.lenOf, Builtin.firstCells, loadCells, loadCellsFrom]
      rw [hr] at hrun
      injection hrun with e1 e2
      subst e1
      exact .inl rfl
    · have hr := run_append_nil (P := Q) w t ty e i z ht hi hz a m c news hl hnews (by omega) (by omega) (by have := hbytes; simp only [Nat.zero_add] at this; omega)
      rw [hr] at hrun
      injection hrun with e1 e2
      subst e1
      exact .inr rfl
  · by_cases hroom : n + m ≤ cap
    · have hfit : n * i.size + news.length ≤ cur.size := by rw [hl, hcs, ← Nat.add_mul]; exact Nat.mul_le_mul_right _ hroom
      have hr := run_append_room (P := Q) w t ty e i ht hi g n cap cur hg a m c news hl hnews h1 hroom hfit
      rw [hr] at hrun
      injection hrun with e1 e2
      subst e1
      exact .inl rfl
    · have hr := run_append_grow (P := Q) w t ty e i z ht hi hz ⟨g, 0, none⟩ n cap xs hown.1 (hown.cells (g := g) rfl) a m c news hl hnews (by omega) (by omega) (growslice_fits (by omega) hbytes)
      rw [hr] at hrun
      injection hrun with e1 e2
      subst e1
      exact .inr rfl
/-- an append to a row of the call's own, in a walk; and where it goes -/
theorem wpList_append_own2 {ops : Array Oper} {rest : List Oper} {o : Oper} {a : Act} {K0 : Exit → Act → World → Prop} (hgd : o.guard = none) (s x : Operand) (t : TypeId)
    (ho : o.op = .call { callee := .builtin .append, args := #[s, x], argTypes := #[t, t] })
    (e : TypeId) (i : TypeInfo) (z : Value) (size bytes : Nat) (ht : Q.underlying t = some (.slice e)) (hi : Q.info? e = some i) (hz : i.zero = some z)
    (hsize : i.size = size) (hby : i.bytes = bytes) (hzs : z.cells.size = size) (hsz : 0 < size)
    (v : Value) (n : Nat) (xs : List Value) (hs : a.eval s = v) (hown : w.ownsRow 0 e size v n xs)
    (ad : Addr) (m c : Nat) (news : List Value) (hx : a.eval x = .slice (some ad) m c) (hl : news.length = m * size) (hnews : ∀ j u, news[j]? = some u → w.cell? (ad.add j) = some u) (h1 : ∀ u ∈ news, u.oneCell' = true)
    (h63 : n + m ≤ maxLen) (hbytes : (n + m) * bytes ≤ 140737488355328)
    (h : ∀ v' w', w'.ownsRow 0 e size v' (n + m) (xs ++ news) → w.grownBy w' v.ownBlock → (v' = .slice none 0 0 ↔ v = .slice none 0 0 ∧ m = 0) → (v'.ownBlock = v.ownBlock ∨ v'.ownBlock = some w.heap.size) →
      wpList Q ops K0 rest (a.put o.dst v') w') : wpList Q ops K0 (o :: rest) a w := by
  refine wpList_plain hgd fun K hK' => ?_
  obtain ⟨v', w', hr, h2, h3, h4⟩ := run_append_own (P := Q) w 0 t o.type e i z size bytes ht hi hz hsize hby hzs hsz v n xs hown ad m c news hl hnews h1 h63 hbytes (Nat.zero_le _)
  have h5 := append_where w t o.type e i z size bytes ht hi hz hsize hby v n xs hown ad m c news hl hnews h1 h63 hbytes v' w' hr
  unfold Oper.wp
  simp [execOp, ho, resolve, invoke, builtin, hs, hx, hr, Result.andThen]
  exact hK' _ _ (h v' w' h2 h3 h4 h5)
end

theorem own_shape {w : World} {B e size n : Nat} {v : Value} {xs : List Value} (h : w.ownsRow B e size v n xs) : ∃ A c, v = .slice A n c := by
  rcases h.2 with ⟨rfl, rfl⟩ | ⟨g, cap, cur, rfl, _⟩
  · exact ⟨_, _, rfl⟩
  · exact ⟨_, _, rfl⟩
/-- the cells of a row that the call made -/
theorem own_rd {S : Nat → Prop} {e n : Nat} {w : World} {v : Value} {xs : List Value} (h : w.ownsRow 0 e 1 v n xs) (hne : ∀ g, v.ownBlock = some g → S g) : ∃ A c, v = .slice A n c ∧ Rd S w A xs ∧ n ≤ c ∧ c ≤ 9223372036854775807 := by
  rcases h.2 with ⟨rfl, rfl⟩ | ⟨g, cap, cur, rfl, hb, hgg, hn, hc, _⟩
  · have : xs = [] := List.eq_nil_of_length_eq_zero (by simpa using h.1)
    subst this
    exact ⟨_, _, rfl, .inl rfl, Nat.le_refl _, by omega⟩
  · refine ⟨_, _, rfl, .inr ⟨g, 0, rfl, hne g rfl, fun j u hu => ?_⟩, hn, by unfold maxLen at hc; omega⟩
    have := h.cells (g := g) rfl j u hu
    rwa [Addr.add_lit] at this
theorem InfosomeInt : (Tryz.prog.info? 3).map (fun i => (i.zero, i.size, i.bytes)) = some (some (.int .i64 0), 1, 8) := by kernel_rfl
theorem InfosomeStr : (Tryz.prog.info? 9).map (fun i => (i.zero, i.size, i.bytes)) = some (some (.string ByteArray.empty), 1, 16) := by kernel_rfl
/-- the cells of a row of nodes -/
def FoCells (S : Nat → Prop) (w : World) : List Value → Fo → Prop
  | vs, .nil => vs = []
  | vs, .cons k t n ks r => ∃ KA c vs', vs = .int .u8 k :: .string t :: .int .i64 n :: .slice KA ks.len c :: vs' ∧ k < 256 ∧ t.size ≤ 9223372036854775807 ∧ isInt64 n ∧ ks.len ≤ c ∧ c ≤ 9223372036854775807 ∧ FoIn S w KA ks ∧ FoCells S w vs' r
theorem FoCells.keep {S S' : Nat → Prop} {w w' : World} (hk : ∀ b, b < w.heap.size → S b → w'.heap[b]? = w.heap[b]?) (hm : ∀ b, b < w.heap.size → S b → S' b) : ∀ {f : Fo} {vs : List Value}, FoCells S w vs f → FoCells S' w' vs f := by
  intro f
  induction f with
  | nil => intro vs h; exact h
  | cons k t n ks r _ ih =>
    rintro vs ⟨KA, c, vs', rfl, h1, h2, h3, h4, h5, h6, h7⟩
    exact ⟨KA, c, vs', rfl, h1, h2, h3, h4, h5, ((h6.mono (S' := fun b => b < w.heap.size ∧ S b) fun b hb hS => ⟨hb, hS⟩).keep fun b hb => hk b hb.1 hb.2).mono fun b _ hb => hm b hb.1 hb.2, ih h7⟩
theorem FoCells.snoc {S : Nat → Prop} {w : World} {k : Nat} {t : ByteArray} {n : Int} {ks : Fo} {KA : Option Addr} {c : Nat} (h1 : k < 256) (h2 : t.size ≤ 9223372036854775807) (h3 : isInt64 n) (h4 : ks.len ≤ c) (h5 : c ≤ 9223372036854775807) (h6 : FoIn S w KA ks) :
    ∀ {f : Fo} {vs : List Value}, FoCells S w vs f → FoCells S w (vs ++ [.int .u8 k, .string t, .int .i64 n, .slice KA ks.len c]) (f.app (.cons k t n ks .nil)) := by
  intro f
  induction f with
  | nil => intro vs h; subst h; exact ⟨KA, c, [], rfl, h1, h2, h3, h4, h5, h6, rfl⟩
  | cons k' t' n' ks' r _ ih =>
    rintro vs ⟨KA', c', vs', rfl, g1, g2, g3, g4, g5, g6, g7⟩
    exact ⟨KA', c', _, rfl, g1, g2, g3, g4, g5, g6, ih g7⟩
theorem InfoNode : (Tryz.prog.info? 55).map (fun i => (i.zero, i.size, i.bytes)) = some (some (.agg #[.int .u8 0, .string ByteArray.empty, .int .i64 0, .slice none 0 0]), 4, 56) := by kernel_rfl

theorem FoCells.at_ {S S' : Nat → Prop} {w : World} (hm : ∀ b, S b → S' b) : ∀ {f : Fo} {vs : List Value} {b o : Nat}, FoCells S w vs f → S' b → (∀ j u, vs[j]? = some u → w.cell? ⟨b, o + j, none⟩ = some u) → FoIn S' w (some ⟨b, o, none⟩) f := by
  intro f
  induction f with
  | nil => intro vs b o _ _ _; exact trivial
  | cons k t n ks r _ ih =>
    rintro vs b o ⟨KA, c, vs', rfl, g1, g2, g3, g4, g5, g6, g7⟩ hb hc
    exact ⟨b, o, KA, c, rfl, hb, hc 0 _ rfl, hc 1 _ rfl, hc 2 _ rfl, hc 3 _ rfl, g1, g2, g3, g4, g5, g6.mono fun b _ hS => hm b hS, ih g7 hb (fun j u hu => by
      have := hc (j + 4) u hu
      rwa [show o + (j + 4) = o + 4 + j by omega] at this)⟩

end Go.Proofs.YtfhfkbdaglegpaaGreatDoor

namespace Go.Proofs.YtfhfkbdaglegpaaGreatDoor
open Go.RowKit

section
variable {P : Program} {T e : TypeId} {z : Value} {size bytes : Nat}
/-- nothing is appended -/
theorem run_append_none {w : World} {base n c0 : Nat} {v : Value} {xs : List Value} {i0 : TypeInfo} (ht : P.underlying T = some (.slice e)) (hi : P.info? e = some i0) (hown : w.ownsRow base e size v n xs) (ty : TypeId) :
    (Builtin.append_ #[T, T] ty #[v, .slice none 0 c0]).run P w = .ok v w := by
  obtain ⟨A, c, rfl⟩ := own_shape hown
  have hnc : n ≤ c := by
    rcases hown.2 with ⟨e1, rfl⟩ | ⟨g, cap, cur, e1, _, _, hc, _⟩
    · exact Nat.zero_le _
    · injection e1 with _ _ e1; omega
  rcases A with _ | ⟨b, o, p⟩
  · have hn0 : n = 0 := by
      rcases hown.2 with ⟨_, h⟩ | ⟨g, cap, cur, e1, _⟩
      · exact h
      · cases e1
    subst hn0
    simp [Builtin.append_, run_underlying ht, sizeOf, typeInfo, hi, Builtin.lenOf, Builtin.firstCells, loadCells, loadCellsFrom, hnc]
  · simp [Builtin.append_, run_underlying ht, sizeOf, typeInfo, hi, Builtin.lenOf, Builtin.firstCells, loadCells, storeCells, hnc]
end

end Go.Proofs.YtfhfkbdaglegpaaGreatDoor

namespace Go.Proofs.YtfhfkbdaglegpaaGreatDoor
open Go.RowKit

section
variable {P : Program} {w : World} {ops : Array Oper} {rest : List Oper} {o : Oper} {a : Act} {K0 : Exit → Act → World → Prop}
/-- in place, or in a new block -/
def Went (w w' : World) (v v' : Value) (n m : Nat) : Prop := (∃ A c, v = .slice A n c ∧ v' = .slice A (n + m) c) ∨ v'.ownBlock = some w.heap.size ∧ ∀ k, k < w.heap.size → w'.heap[k]? = w.heap[k]?
theorem went_of (base : Nat) (t ty e : TypeId) (i : TypeInfo) (z : Value) (size bytes : Nat) (ht : P.underlying t = some (.slice e)) (hi : P.info? e = some i) (hz : i.zero = some z)
    (hsize : i.size = size) (hby : i.bytes = bytes) (v : Value) (n : Nat) (xs : List Value) (hown : w.ownsRow base e size v n xs)
    (a : Addr) (m c : Nat) (news : List Value) (hl : news.length = m * size) (hnews : ∀ j u, news[j]? = some u → w.cell? (a.add j) = some u) (h1 : ∀ u ∈ news, u.oneCell' = true)
    (h63 : n + m ≤ maxLen) (hbytes : (n + m) * bytes ≤ 140737488355328) (v' : Value) (w' : World) (hrun : (Builtin.append_ #[t, t] ty #[v, .slice (some a) m c]).run P w = .ok v' w') :
    Went w w' v v' n m := by
  subst hsize
  subst hby
  have hm : n + m ≤ 9223372036854775807 := by simp only [maxLen] at h63; omega
  rcases hown.2 with ⟨rfl, rfl⟩ | ⟨g, cap, cur, rfl, _, hg, hnc, hcm, hcs, htake⟩
  · by_cases h0 : m = 0
    · subst h0
      have hn : news = [] := List.eq_nil_of_length_eq_zero (by simpa using hl)
      have hr : (Builtin.append_ #[t, t] ty #[.slice none 0 0, .slice (some a) 0 c]).run P w = .ok (.slice none 0 0) w := by
        simp [Builtin.append_, run_underlying ht, sizeOf, typeInfo, hi, Builtin.lenOf, Builtin.firstCells, loadCells, loadCellsFrom]
      rw [hr] at hrun
      injection hrun with e1 e2
      subst e1
      exact .inl ⟨none, 0, rfl, rfl⟩
    · have hr := run_append_nil (P := P) w t ty e i z ht hi hz a m c news hl hnews (by omega) (by omega) (by have := hbytes; simp only [Nat.zero_add] at this; omega)
      rw [hr] at hrun
      injection hrun with e1 e2
      subst e1
      exact .inr ⟨rfl, fun k hk => by rw [← e2]; exact heap_alloc_old w.drew _ hk⟩
  · by_cases hroom : n + m ≤ cap
    · have hfit : n * i.size + news.length ≤ cur.size := by rw [hl, hcs, ← Nat.add_mul]; exact Nat.mul_le_mul_right _ hroom
      have hr := run_append_room (P := P) w t ty e i ht hi g n cap cur hg a m c news hl hnews h1 hroom hfit
      rw [hr] at hrun
      injection hrun with e1 e2
      subst e1
      exact .inl ⟨_, _, rfl, rfl⟩
    · have hr := run_append_grow (P := P) w t ty e i z ht hi hz ⟨g, 0, none⟩ n cap xs hown.1 (hown.cells (g := g) rfl) a m c news hl hnews (by omega) (by omega) (growslice_fits (by omega) hbytes)
      rw [hr] at hrun
      injection hrun with e1 e2
      subst e1
      exact .inr ⟨rfl, fun k hk => by rw [← e2]; exact heap_alloc_old w.drew _ hk⟩
/-- an append in a walk, whatever is appended -/
theorem wpList_row (hgd : o.guard = none) (s x : Operand) (t : TypeId)
    (ho : o.op = .call { callee := .builtin .append, args := #[s, x], argTypes := #[t, t] })
    (base : Nat) (e : TypeId) {z : Value} {size bytes : Nat} (ht : P.underlying t = some (.slice e)) (hI : (P.info? e).map (fun i => (i.zero, i.size, i.bytes)) = some (some z, size, bytes)) (hzs : z.cells.size = size) (hsz : 0 < size)
    (v : Value) (n : Nat) (xs : List Value) (hs : a.eval s = v) (hown : w.ownsRow base e size v n xs)
    (B : Option Addr) (m c : Nat) (news : List Value) (hx : a.eval x = .slice B m c) (hB : B = none → m = 0) (hl : news.length = m * size) (hnews : ∀ ad, B = some ad → ∀ j u, news[j]? = some u → w.cell? (ad.add j) = some u) (h1 : ∀ u ∈ news, u.oneCell' = true)
    (h63 : n + m ≤ maxLen) (hbytes : (n + m) * bytes ≤ 140737488355328) (hbase : base ≤ w.heap.size)
    (h : ∀ v' w', w'.ownsRow base e size v' (n + m) (xs ++ news) → w.grownBy w' v.ownBlock → Went w w' v v' n m → wpList P ops K0 rest (a.put o.dst v') w') : wpList P ops K0 (o :: rest) a w := by
  obtain ⟨i, hi, hz, hsize, hby⟩ := info_parts hI
  refine wpList_plain hgd fun K hK' => ?_
  have key : ∃ v' w', (Builtin.append_ #[t, t] o.type #[v, .slice B m c]).run P w = .ok v' w' ∧ w'.ownsRow base e size v' (n + m) (xs ++ news) ∧ w.grownBy w' v.ownBlock ∧ Went w w' v v' n m := by
    rcases B with _ | ad
    · have hm := hB rfl
      subst hm
      have hu : news = [] := List.length_eq_zero_iff.1 (by simpa using hl)
      subst hu
      obtain ⟨A, c', rfl⟩ := own_shape hown
      exact ⟨_, w, run_append_none ht hi hown _, by simpa using hown, World.grownBy.refl _ _, .inl ⟨A, c', rfl, rfl⟩⟩
    · obtain ⟨v', w', hr, h2, h3, h4⟩ := run_append_own (P := P) w base t o.type e i z size bytes ht hi hz hsize hby hzs hsz v n xs hown ad m c news hl (hnews ad rfl) h1 h63 hbytes hbase
      exact ⟨v', w', hr, h2, h3, went_of base t o.type e i z size bytes ht hi hz hsize hby v n xs hown ad m c news hl (hnews ad rfl) h1 h63 hbytes v' w' hr⟩
  obtain ⟨v', w', hr, h2, h3, h5⟩ := key
  unfold Oper.wp
  simp [execOp, ho, resolve, invoke, builtin, hs, hx, hr, Result.andThen]
  exact hK' _ _ (h v' w' h2 h3 h5)
end

end Go.Proofs.YtfhfkbdaglegpaaGreatDoor
