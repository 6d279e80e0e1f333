/- What is kept, rows of the call's own, cells of nodes: what the walks of several packages share. -/
import Derived.Test.YtjjaojnglnpgaaaGreatDoorProg
import Derived.OwnWalk
import Derived.Laws.AppendOwn
import Derived.Laws.OwnMore
import Derived.Laws.IdiomStrings
import Derived.Laws.Append
import Derived.Lib.AppendStr
import Derived.Laws.IdiomCopy
import Derived.Test.YtjjaojnglnpgaaaGreatDoorLBase

set_option linter.unusedVariables false
set_option linter.unusedSimpArgs false

namespace Go.Proofs.YtjjaojnglnpgaaaGreatDoor
open Go.RowKit

/-- nothing in the blocks of P is turned -/
structure Keep (P : Nat → Prop) (w w' : World) : Prop where
  os : w'.os = w.os
  tape : w'.tape = w.tape
  output : w'.output = w.output
  size : w.heap.size ≤ w'.heap.size
  block : ∀ k, P k → w'.heap[k]? = w.heap[k]?
section
variable {P P' : Nat → Prop} {w w' w'' : World}
theorem Keep.refl (P : Nat → Prop) (w : World) : Keep P w w := ⟨rfl, rfl, rfl, Nat.le_refl _, fun _ _ => rfl⟩
theorem Keep.trans (h : Keep P w w') (h' : Keep P w' w'') : Keep P w w'' := ⟨h'.os.trans h.os, h'.tape.trans h.tape, h'.output.trans h.output, Nat.le_trans h.size h'.size, fun k hk => (h'.block k hk).trans (h.block k hk)⟩
theorem Keep.mono (h : Keep P' w w') (hp : ∀ k, P k → P' k) : Keep P w w' := ⟨h.os, h.tape, h.output, h.size, fun k hk => h.block k (hp k hk)⟩
theorem Keep.drew (h : Keep P w w') : Keep P w w'.drew := ⟨h.os, h.tape, h.output, h.size, h.block⟩
theorem Keep.drewN (h : Keep P w w') (n : Nat) : Keep P w (w'.drewN n) := ⟨h.os, h.tape, h.output, h.size, h.block⟩
theorem Keep.alloc (h : Keep P w w') (hp : ∀ k, P k → k < w.heap.size) (o : Obj) : Keep P w (w'.alloc o) :=
  h.trans ⟨rfl, rfl, rfl, by simp, fun k hk => Below.heap_alloc w' o k (Nat.lt_of_lt_of_le (hp k hk) h.size)⟩
theorem Keep.setCell (h : Keep P w w') {a : Addr} (ha : ¬ P a.block) (u : Value) : Keep P w (w'.setCell a u) :=
  h.trans ⟨rfl, rfl, rfl, by simp [World.setCell], fun k hk => Below.heap_setCell w' a u k (fun e => ha (e ▸ hk))⟩
theorem Keep.grown (h : Keep P w w') {row : Option Nat} (hg : w'.grownBy w'' row) (hp : ∀ k, P k → k < w.heap.size) (hr : ∀ k, row = some k → ¬ P k) : Keep P w w'' :=
  h.trans ⟨hg.os, hg.tape, hg.output, hg.size, fun k hk => hg.block k (Nat.lt_of_lt_of_le (hp k hk) h.size) (fun e => hr k e.symm hk)⟩
theorem Keep.cell (h : Keep P w w') {a : Addr} (ha : P a.block) : w'.cell? a = w.cell? a := World.cell?_of_block (h.block _ ha)
theorem Keep.frozen (h : Keep P w w') {a : Addr} (ha : P a.block) : w'.frozen? a = w.frozen? a := World.frozen?_of_block (h.block _ ha)
theorem Keep.box (h : Keep P w w') {N : Nat} (hN : P N) : (∀ o, w'.cell? ⟨N, o, none⟩ = w.cell? ⟨N, o, none⟩) ∧ (∀ o, w'.frozen? ⟨N, o, none⟩ = w.frozen? ⟨N, o, none⟩) := ⟨fun o => h.cell (a := ⟨N, o, none⟩) hN, fun o => h.frozen (a := ⟨N, o, none⟩) hN⟩
theorem Keep.below {B : Nat} (h : Keep (fun k => k < B) w w') : Below B w w' := ⟨h.os, h.tape, h.output, h.size, h.block⟩
theorem Keep.of_below {B : Nat} (h : Below B w w') (hp : ∀ k, P k → k < B) : Keep P w w' := ⟨h.os, h.tape, h.output, h.size, fun k hk => h.block k (hp k hk)⟩
end

section
variable {Q : Program} (w : World)
/-- a row that is appended to stays in its block, or goes into a new one -/
theorem append_where (t ty e : TypeId) (i : TypeInfo) (z : Value) (size bytes : Nat) (ht : Q.underlying t = some (.slice e)) (hi : Q.info? e = some i) (hz : i.zero = some z)
    (hsize : i.size = size) (hby : i.bytes = bytes) (v : Value) (n : Nat) (xs : List Value) (hown : w.ownsRow 0 e size v n xs)
    (a : Addr) (m c : Nat) (news : List Value) (hl : news.length = m * size) (hnews : ∀ j u, news[j]? = some u → w.cell? (a.add j) = some u) (h1 : ∀ u ∈ news, u.oneCell' = true)
    (h63 : n + m ≤ maxLen) (hbytes : (n + m) * bytes ≤ 140737488355328) (v' : Value) (w' : World) (hrun : (Builtin.append_ #[t, t] ty #[v, .slice (some a) m c]).run Q w = .ok v' w') :
    v'.ownBlock = v.ownBlock ∨ v'.ownBlock = some w.heap.size := by
  subst hsize
  subst hby
  have hm : n + m ≤ 9223372036854775807 := by simp only [maxLen] at h63; omega
  rcases hown.2 with ⟨rfl, rfl⟩ | ⟨g, cap, cur, rfl, _, hg, hnc, hcm, hcs, htake⟩
  · by_cases h0 : m = 0
    · subst h0
      have hn : news = [] := List.eq_nil_of_length_eq_zero (by simpa using hl)
      have hr : (Builtin.append_ #[t, t] ty #[.slice none 0 0, .slice (some a) 0 c]).run Q w = .ok (.slice none 0 0) w := by
        simp [Builtin.append_, run_underlying ht, sizeOf, typeInfo, hi, Builtin.lenOf, Builtin.firstCells, loadCells, loadCellsFrom]
      rw [hr] at hrun
      injection hrun with e1 e2
      subst e1
      exact .inl rfl
    · have hr := run_append_nil (P := Q) w t ty e i z ht hi hz a m c news hl hnews (by omega) (by omega) (by have := hbytes; simp only [Nat.zero_add] at this; omega)
      rw [hr] at hrun
      injection hrun with e1 e2
      subst e1
      exact .inr rfl
  · by_cases hroom : n + m ≤ cap
    · have hfit : n * i.size + news.length ≤ cur.size := by rw [hl, hcs, ← Nat.add_mul]; exact Nat.mul_le_mul_right _ hroom
      have hr := run_append_room (P := Q) w t ty e i ht hi g n cap cur hg a m c news hl hnews h1 hroom hfit
      rw [hr] at hrun
      injection hrun with e1 e2
      subst e1
      exact .inl rfl
    · have hr := run_append_grow (P := Q) w t ty e i z ht hi hz ⟨g, 0, none⟩ n cap xs hown.1 (hown.cells (g := g) rfl) a m c news hl hnews (by omega) (by omega) (growslice_fits (by omega) hbytes)
      rw [hr] at hrun
      injection hrun with e1 e2
      subst e1
      exact .inr rfl
/-- an append to a row of the call's own, in a walk; and where it goes -/
theorem wpList_append_own2 {ops : Array Oper} {rest : List Oper} {o : Oper} {a : Act} {K0 : Exit → Act → World → Prop} (hgd : o.guard = none) (s x : Operand) (t : TypeId)
    (ho : o.op = .call { callee := .builtin .append, args := #[s, x], argTypes := #[t, t] })
    (e : TypeId) (i : TypeInfo) (z : Value) (size bytes : Nat) (ht : Q.underlying t = some (.slice e)) (hi : Q.info? e = some i) (hz : i.zero = some z)
    (hsize : i.size = size) (hby : i.bytes = bytes) (hzs : z.cells.size = size) (hsz : 0 < size)
    (v : Value) (n : Nat) (xs : List Value) (hs : a.eval s = v) (hown : w.ownsRow 0 e size v n xs)
    (ad : Addr) (m c : Nat) (news : List Value) (hx : a.eval x = .slice (some ad) m c) (hl : news.length = m * size) (hnews : ∀ j u, news[j]? = some u → w.cell? (ad.add j) = some u) (h1 : ∀ u ∈ news, u.oneCell' = true)
    (h63 : n + m ≤ maxLen) (hbytes : (n + m) * bytes ≤ 140737488355328)
    (h : ∀ v' w', w'.ownsRow 0 e size v' (n + m) (xs ++ news) → w.grownBy w' v.ownBlock → (v' = .slice none 0 0 ↔ v = .slice none 0 0 ∧ m = 0) → (v'.ownBlock = v.ownBlock ∨ v'.ownBlock = some w.heap.size) →
      wpList Q ops K0 rest (a.put o.dst v') w') : wpList Q ops K0 (o :: rest) a w := by
  refine wpList_plain hgd fun K hK' => ?_
  obtain ⟨v', w', hr, h2, h3, h4⟩ := run_append_own (P := Q) w 0 t o.type e i z size bytes ht hi hz hsize hby hzs hsz v n xs hown ad m c news hl hnews h1 h63 hbytes (Nat.zero_le _)
  have h5 := append_where w t o.type e i z size bytes ht hi hz hsize hby v n xs hown ad m c news hl hnews h1 h63 hbytes v' w' hr
  unfold Oper.wp
  simp [execOp, ho, resolve, invoke, builtin, hs, hx, hr, Result.andThen]
  exact hK' _ _ (h v' w' h2 h3 h4 h5)
end

theorem own_shape {w : World} {B e size n : Nat} {v : Value} {xs : List Value} (h : w.ownsRow B e size v n xs) : ∃ A c, v = .slice A n c := by
  rcases h.2 with ⟨rfl, rfl⟩ | ⟨g, cap, cur, rfl, _⟩
  · exact ⟨_, _, rfl⟩
  · exact ⟨_, _, rfl⟩
/-- the cells of a row that the call made -/
theorem own_rd {S : Nat → Prop} {e n : Nat} {w : World} {v : Value} {xs : List Value} (h : w.ownsRow 0 e 1 v n xs) (hne : ∀ g, v.ownBlock = some g → S g) : ∃ A c, v = .slice A n c ∧ Rd S w A xs ∧ n ≤ c ∧ c ≤ 9223372036854775807 := by
  rcases h.2 with ⟨rfl, rfl⟩ | ⟨g, cap, cur, rfl, hb, hgg, hn, hc, _⟩
  · have : xs = [] := List.eq_nil_of_length_eq_zero (by simpa using h.1)
    subst this
    exact ⟨_, _, rfl, .inl rfl, Nat.le_refl _, by omega⟩
  · refine ⟨_, _, rfl, .inr ⟨g, 0, rfl, hne g rfl, fun j u hu => ?_⟩, hn, by unfold maxLen at hc; omega⟩
    have := h.cells (g := g) rfl j u hu
    rwa [Addr.add_lit] at this
theorem InfosomeInt : (Tryz.prog.info? 3).map (fun i => (i.zero, i.size, i.bytes)) = some (some (.int .i64 0), 1, 8) := by kernel_rfl
theorem InfosomeStr : (Tryz.prog.info? 9).map (fun i => (i.zero, i.size, i.bytes)) = some (some (.string ByteArray.empty), 1, 16) := by kernel_rfl
/-- the cells of a row of nodes -/
def FoCells (S : Nat → Prop) (w : World) : List Value → Fo → Prop
  | vs, .nil => vs = []
  | vs, .cons k t n ks r => ∃ KA c vs', vs = .int .u8 k :: .string t :: .int .i64 n :: .slice KA ks.len c :: vs' ∧ k < 256 ∧ t.size ≤ 9223372036854775807 ∧ isInt64 n ∧ ks.len ≤ c ∧ c ≤ 9223372036854775807 ∧ FoIn S w KA ks ∧ FoCells S w vs' r
theorem FoCells.keep {S S' : Nat → Prop} {w w' : World} (hk : ∀ b, b < w.heap.size → S b → w'.heap[b]? = w.heap[b]?) (hm : ∀ b, b < w.heap.size → S b → S' b) : ∀ {f : Fo} {vs : List Value}, FoCells S w vs f → FoCells S' w' vs f := by
  intro f
  induction f with
  | nil => intro vs h; exact h
  | cons k t n ks r _ ih =>
    rintro vs ⟨KA, c, vs', rfl, h1, h2, h3, h4, h5, h6, h7⟩
    exact ⟨KA, c, vs', rfl, h1, h2, h3, h4, h5, ((h6.mono (S' := fun b => b < w.heap.size ∧ S b) fun b hb hS => ⟨hb, hS⟩).keep fun b hb => hk b hb.1 hb.2).mono fun b _ hb => hm b hb.1 hb.2, ih h7⟩
theorem FoCells.snoc {S : Nat → Prop} {w : World} {k : Nat} {t : ByteArray} {n : Int} {ks : Fo} {KA : Option Addr} {c : Nat} (h1 : k < 256) (h2 : t.size ≤ 9223372036854775807) (h3 : isInt64 n) (h4 : ks.len ≤ c) (h5 : c ≤ 9223372036854775807) (h6 : FoIn S w KA ks) :
    ∀ {f : Fo} {vs : List Value}, FoCells S w vs f → FoCells S w (vs ++ [.int .u8 k, .string t, .int .i64 n, .slice KA ks.len c]) (f.app (.cons k t n ks .nil)) := by
  intro f
  induction f with
  | nil => intro vs h; subst h; exact ⟨KA, c, [], rfl, h1, h2, h3, h4, h5, h6, rfl⟩
  | cons k' t' n' ks' r _ ih =>
    rintro vs ⟨KA', c', vs', rfl, g1, g2, g3, g4, g5, g6, g7⟩
    exact ⟨KA', c', _, rfl, g1, g2, g3, g4, g5, g6, ih g7⟩
theorem InfoNode : (Tryz.prog.info? 218).map (fun i => (i.zero, i.size, i.bytes)) = some (some (.agg #[.int .u8 0, .string ByteArray.empty, .int .i64 0, .slice none 0 0]), 4, 56) := by kernel_rfl

theorem FoCells.at_ {S S' : Nat → Prop} {w : World} (hm : ∀ b, S b → S' b) : ∀ {f : Fo} {vs : List Value} {b o : Nat}, FoCells S w vs f → S' b → (∀ j u, vs[j]? = some u → w.cell? ⟨b, o + j, none⟩ = some u) → FoIn S' w (some ⟨b, o, none⟩) f := by
  intro f
  induction f with
  | nil => intro vs b o _ _ _; exact trivial
  | cons k t n ks r _ ih =>
    rintro vs b o ⟨KA, c, vs', rfl, g1, g2, g3, g4, g5, g6, g7⟩ hb hc
    exact ⟨b, o, KA, c, rfl, hb, hc 0 _ rfl, hc 1 _ rfl, hc 2 _ rfl, hc 3 _ rfl, g1, g2, g3, g4, g5, g6.mono fun b _ hS => hm b hS, ih g7 hb (fun j u hu => by
      have := hc (j + 4) u hu
      rwa [show o + (j + 4) = o + 4 + j by omega] at this)⟩

end Go.Proofs.YtjjaojnglnpgaaaGreatDoor

namespace Go.Proofs.YtjjaojnglnpgaaaGreatDoor
open Go.RowKit

section
variable {P : Program} {T e : TypeId} {z : Value} {size bytes : Nat}
/-- nothing is appended -/
theorem run_append_none {w : World} {base n c0 : Nat} {v : Value} {xs : List Value} {i0 : TypeInfo} (ht : P.underlying T = some (.slice e)) (hi : P.info? e = some i0) (hown : w.ownsRow base e size v n xs) (ty : TypeId) :
    (Builtin.append_ #[T, T] ty #[v, .slice none 0 c0]).run P w = .ok v w := by
  obtain ⟨A, c, rfl⟩ := own_shape hown
  have hnc : n ≤ c := by
    rcases hown.2 with ⟨e1, rfl⟩ | ⟨g, cap, cur, e1, _, _, hc, _⟩
    · exact Nat.zero_le _
    · injection e1 with _ _ e1; omega
  rcases A with _ | ⟨b, o, p⟩
  · have hn0 : n = 0 := by
      rcases hown.2 with ⟨_, h⟩ | ⟨g, cap, cur, e1, _⟩
      · exact h
      · cases e1
    subst hn0
    simp [Builtin.append_, run_underlying ht, sizeOf, typeInfo, hi, Builtin.lenOf, Builtin.firstCells, loadCells, loadCellsFrom, hnc]
  · simp [Builtin.append_, run_underlying ht, sizeOf, typeInfo, hi, Builtin.lenOf, Builtin.firstCells, loadCells, storeCells, hnc]
theorem row_step {w : World} {base n m cB : Nat} {v : Value} {xs us : List Value} {B : Option Addr} (ht : P.underlying T = some (.slice e)) (hI : (P.info? e).map (fun i => (i.zero, i.size, i.bytes)) = some (some z, size, bytes)) (hz : z.cells.size = size) (h0 : 0 < size)
    (hown : w.ownsRow base e size v n xs) (hB : B = none → m = 0) (hlen : us.length = m * size) (hone : ∀ u ∈ us, u.oneCell' = true) (hc : ∀ a, B = some a → ∀ j u, us[j]? = some u → w.cell? (a.add j) = some u)
    (hbase : base ≤ w.heap.size) (hmax : n + m ≤ maxLen) (hl : (n + m) * bytes ≤ 140737488355328) (ty : TypeId) :
    ∃ v' w', (Builtin.append_ #[T, T] ty #[v, .slice B m cB]).run P w = .ok v' w' ∧ w'.ownsRow base e size v' (n + m) (xs ++ us) ∧ Below base w w' := by
  obtain ⟨i0, hi, hz0, hz1, hz2⟩ := info_parts hI
  rcases B with _ | a
  · have hm := hB rfl
    subst hm
    have hu : us = [] := List.length_eq_zero_iff.1 (by simpa using hlen)
    subst hu
    exact ⟨v, w, run_append_none ht hi hown ty, by simpa using hown, Below.refl _ _⟩
  · obtain ⟨v', w', hrun, hown', hgr, _⟩ := run_append_own (P := P) w base T ty e i0 z size bytes ht hi hz0 hz1 hz2 hz h0 v n xs hown a m cB us hlen (hc a rfl) hone hmax hl hbase
    exact ⟨v', w', hrun, hown', (Below.refl _ _).grown hgr hbase (fun k hk => (hown.lt k hk).1)⟩
end

end Go.Proofs.YtjjaojnglnpgaaaGreatDoor

namespace Go.Proofs.YtjjaojnglnpgaaaGreatDoor
open Go.RowKit

section
variable {P : Program} {w : World} {ops : Array Oper} {rest : List Oper} {o : Oper} {a : Act} {K0 : Exit → Act → World → Prop}
/-- in place, or in a new block -/
def Went (w w' : World) (v v' : Value) (n m : Nat) : Prop := (∃ A c, v = .slice A n c ∧ v' = .slice A (n + m) c) ∨ v'.ownBlock = some w.heap.size ∧ ∀ k, k < w.heap.size → w'.heap[k]? = w.heap[k]?
theorem went_of (base : Nat) (t ty e : TypeId) (i : TypeInfo) (z : Value) (size bytes : Nat) (ht : P.underlying t = some (.slice e)) (hi : P.info? e = some i) (hz : i.zero = some z)
    (hsize : i.size = size) (hby : i.bytes = bytes) (v : Value) (n : Nat) (xs : List Value) (hown : w.ownsRow base e size v n xs)
    (a : Addr) (m c : Nat) (news : List Value) (hl : news.length = m * size) (hnews : ∀ j u, news[j]? = some u → w.cell? (a.add j) = some u) (h1 : ∀ u ∈ news, u.oneCell' = true)
    (h63 : n + m ≤ maxLen) (hbytes : (n + m) * bytes ≤ 140737488355328) (v' : Value) (w' : World) (hrun : (Builtin.append_ #[t, t] ty #[v, .slice (some a) m c]).run P w = .ok v' w') :
    Went w w' v v' n m := by
  subst hsize
  subst hby
  have hm : n + m ≤ 9223372036854775807 := by simp only [maxLen] at h63; omega
  rcases hown.2 with ⟨rfl, rfl⟩ | ⟨g, cap, cur, rfl, _, hg, hnc, hcm, hcs, htake⟩
  · by_cases h0 : m = 0
    · subst h0
      have hn : news = [] := List.eq_nil_of_length_eq_zero (by simpa using hl)
      have hr : (Builtin.append_ #[t, t] ty #[.slice none 0 0, .slice (some a) 0 c]).run P w = .ok (.slice none 0 0) w := by
        simp [Builtin.append_, run_underlying ht, sizeOf, typeInfo, hi, Builtin.lenOf, Builtin.firstCells, loadCells, loadCellsFrom]
      rw [hr] at hrun
      injection hrun with e1 e2
      subst e1
      exact .inl ⟨none, 0, rfl, rfl⟩
    · have hr := run_append_nil (P := P) w t ty e i z ht hi hz a m c news hl hnews (by omega) (by omega) (by have := hbytes; simp only [Nat.zero_add] at this; omega)
      rw [hr] at hrun
      injection hrun with e1 e2
      subst e1
      exact .inr ⟨rfl, fun k hk => by rw [← e2]; exact heap_alloc_old w.drew _ hk⟩
  · by_cases hroom : n + m ≤ cap
    · have hfit : n * i.size + news.length ≤ cur.size := by rw [hl, hcs, ← Nat.add_mul]; exact Nat.mul_le_mul_right _ hroom
      have hr := run_append_room (P := P) w t ty e i ht hi g n cap cur hg a m c news hl hnews h1 hroom hfit
      rw [hr] at hrun
      injection hrun with e1 e2
      subst e1
      exact .inl ⟨_, _, rfl, rfl⟩
    · have hr := run_append_grow (P := P) w t ty e i z ht hi hz ⟨g, 0, none⟩ n cap xs hown.1 (hown.cells (g := g) rfl) a m c news hl hnews (by omega) (by omega) (growslice_fits (by omega) hbytes)
      rw [hr] at hrun
      injection hrun with e1 e2
      subst e1
      exact .inr ⟨rfl, fun k hk => by rw [← e2]; exact heap_alloc_old w.drew _ hk⟩
/-- an append in a walk, whatever is appended -/
theorem wpList_row (hgd : o.guard = none) (s x : Operand) (t : TypeId)
    (ho : o.op = .call { callee := .builtin .append, args := #[s, x], argTypes := #[t, t] })
    (base : Nat) (e : TypeId) {z : Value} {size bytes : Nat} (ht : P.underlying t = some (.slice e)) (hI : (P.info? e).map (fun i => (i.zero, i.size, i.bytes)) = some (some z, size, bytes)) (hzs : z.cells.size = size) (hsz : 0 < size)
    (v : Value) (n : Nat) (xs : List Value) (hs : a.eval s = v) (hown : w.ownsRow base e size v n xs)
    (B : Option Addr) (m c : Nat) (news : List Value) (hx : a.eval x = .slice B m c) (hB : B = none → m = 0) (hl : news.length = m * size) (hnews : ∀ ad, B = some ad → ∀ j u, news[j]? = some u → w.cell? (ad.add j) = some u) (h1 : ∀ u ∈ news, u.oneCell' = true)
    (h63 : n + m ≤ maxLen) (hbytes : (n + m) * bytes ≤ 140737488355328) (hbase : base ≤ w.heap.size)
    (h : ∀ v' w', w'.ownsRow base e size v' (n + m) (xs ++ news) → w.grownBy w' v.ownBlock → Went w w' v v' n m → wpList P ops K0 rest (a.put o.dst v') w') : wpList P ops K0 (o :: rest) a w := by
  obtain ⟨i, hi, hz, hsize, hby⟩ := info_parts hI
  refine wpList_plain hgd fun K hK' => ?_
  have key : ∃ v' w', (Builtin.append_ #[t, t] o.type #[v, .slice B m c]).run P w = .ok v' w' ∧ w'.ownsRow base e size v' (n + m) (xs ++ news) ∧ w.grownBy w' v.ownBlock ∧ Went w w' v v' n m := by
    rcases B with _ | ad
    · have hm := hB rfl
      subst hm
      have hu : news = [] := List.length_eq_zero_iff.1 (by simpa using hl)
      subst hu
      obtain ⟨A, c', rfl⟩ := own_shape hown
      exact ⟨_, w, run_append_none ht hi hown _, by simpa using hown, World.grownBy.refl _ _, .inl ⟨A, c', rfl, rfl⟩⟩
    · obtain ⟨v', w', hr, h2, h3, h4⟩ := run_append_own (P := P) w base t o.type e i z size bytes ht hi hz hsize hby hzs hsz v n xs hown ad m c news hl (hnews ad rfl) h1 h63 hbytes hbase
      exact ⟨v', w', hr, h2, h3, went_of base t o.type e i z size bytes ht hi hz hsize hby v n xs hown ad m c news hl (hnews ad rfl) h1 h63 hbytes v' w' hr⟩
  obtain ⟨v', w', hr, h2, h3, h5⟩ := key
  unfold Oper.wp
  simp [execOp, ho, resolve, invoke, builtin, hs, hx, hr, Result.andThen]
  exact hK' _ _ (h v' w' h2 h3 h5)
end

end Go.Proofs.YtjjaojnglnpgaaaGreatDoor

namespace Go.Proofs.YtjjaojnglnpgaaaGreatDoor
open Go.RowKit

/-- the blocks of a row, of rows -/
def ob (v : Value) : List Nat := v.ownBlock.toList
def obs (R : List (Value × Nat)) : List Nat := R.flatMap fun r => ob r.1
theorem mem_ob {v : Value} {g : Nat} : g ∈ ob v ↔ v.ownBlock = some g := by simp [ob, Option.mem_toList]
theorem obs_nil : obs [] = [] := rfl
theorem obs_cons (r : Value × Nat) (R : List (Value × Nat)) : obs (r :: R) = ob r.1 ++ obs R := by simp [obs]
theorem obs_app (R R' : List (Value × Nat)) : obs (R ++ R') = obs R ++ obs R' := by simp [obs]

section
variable {w w' : World} {e : TypeId} {size n : Nat} {v : Value} {xs : List Value}
theorem own_kept (h : w.ownsRow 0 e size v n xs) (hk : ∀ b ∈ ob v, w'.heap[b]? = w.heap[b]?) : w'.ownsRow 0 e size v n xs := by
  refine ⟨h.1, ?_⟩
  rcases h.2 with hn | ⟨g, cap, cur, rfl, hb, hgg, rest⟩
  · exact .inl hn
  · exact .inr ⟨g, cap, cur, rfl, hb, (hk g (mem_ob.2 rfl)).trans hgg, rest⟩
theorem own_lt (h : w.ownsRow 0 e size v n xs) : ∀ b ∈ ob v, b < w.heap.size := fun b hb => (h.lt b (mem_ob.1 hb)).2
theorem nodup_ranges {L L' : List Nat} {M : Nat} (h : L.Nodup) (h' : L'.Nodup) (hl : ∀ b ∈ L, b < M) (hl' : ∀ b ∈ L', M ≤ b) : (L ++ L').Nodup :=
  List.nodup_append.2 ⟨h, h', fun a ha b hb e => by have := hl a ha; have := hl' b hb; omega⟩
theorem ob_nodup (v : Value) : (ob v).Nodup := by unfold ob; cases v.ownBlock <;> simp
end

/-- the cells of a row of nodes, whose kids lie in the rows R (a node's own row first, then those in it) -/
def FoR (w : World) : List Value → Fo → List (Value × Nat) → Prop
  | vs, .nil, R => vs = [] ∧ R = []
  | vs, .cons k t n ks r, R => ∃ KA c vs' ys R1 R2, vs = .int .u8 k :: .string t :: .int .i64 n :: .slice KA ks.len c :: vs' ∧ (k < 256 ∧ t.size ≤ 9223372036854775807 ∧ isInt64 n) ∧
      w.ownsRow 0 218 4 (.slice KA ks.len c) ks.len ys ∧ FoR w ys ks R1 ∧ FoR w vs' r R2 ∧ R = (.slice KA ks.len c, ks.len) :: (R1 ++ R2)
section
variable {w w' : World}
theorem FoR.keep : ∀ {f : Fo} {vs : List Value} {R : List (Value × Nat)}, FoR w vs f R → (∀ b ∈ obs R, w'.heap[b]? = w.heap[b]?) → FoR w' vs f R := by
  intro f
  induction f with
  | nil => intro vs R h _; exact h
  | cons k t n ks r ihk ihr =>
    rintro vs R ⟨KA, c, vs', ys, R1, R2, rfl, h1, h2, h3, h4, rfl⟩ hk
    simp only [obs_cons, obs_app, List.mem_append] at hk
    exact ⟨KA, c, vs', ys, R1, R2, rfl, h1, own_kept h2 fun b hb => hk b (.inl hb), ihk h3 fun b hb => hk b (.inr (.inl hb)), ihr h4 fun b hb => hk b (.inr (.inr hb)), rfl⟩
theorem FoR.lt : ∀ {f : Fo} {vs : List Value} {R : List (Value × Nat)}, FoR w vs f R → ∀ b ∈ obs R, b < w.heap.size := by
  intro f
  induction f with
  | nil => rintro vs R ⟨_, rfl⟩ b hb; simp [obs_nil] at hb
  | cons k t n ks r ihk ihr =>
    rintro vs R ⟨KA, c, vs', ys, R1, R2, rfl, h1, h2, h3, h4, rfl⟩ b hb
    simp only [obs_cons, obs_app, List.mem_append] at hb
    rcases hb with hb | hb | hb
    · exact own_lt h2 b hb
    · exact ihk h3 b hb
    · exact ihr h4 b hb
theorem own_room {e n : Nat} {v : Value} {xs : List Value} {A : Option Addr} {c size : Nat} (h : w.ownsRow 0 e size v n xs) (hv : v = .slice A n c) : n ≤ c ∧ c ≤ 9223372036854775807 := by
  subst hv
  rcases h.2 with ⟨e1, e2⟩ | ⟨g, cap, cur, e1, _, _, hn, hc, _⟩
  · injection e1 with _ _ e3; omega
  · injection e1 with _ _ e3; unfold maxLen at hc; omega
theorem own_rows {S : Nat → Prop} {e n c : Nat} {A : Option Addr} {xs : List Value} (h : w.ownsRow 0 e 1 (.slice A n c) n xs) (hS : ∀ g ∈ ob (.slice A n c), S g) : Rd S w A xs := by
  obtain ⟨A', c', e1, h1, _⟩ := own_rd (S := S) h fun g hg => hS g (mem_ob.2 hg)
  injection e1 with e1
  exact e1 ▸ h1
theorem own_fo2 {S : Nat → Prop} {e c : Nat} {A : Option Addr} {vs : List Value} {f : Fo} (h : w.ownsRow 0 e 4 (.slice A f.len c) f.len vs) (hS : ∀ g ∈ ob (.slice A f.len c), S g) (hf : FoCells S w vs f) : FoIn S w A f := by
  rcases h.2 with ⟨e1, h0⟩ | ⟨g, cap, cur, e1, hb, hgg, hn, hc, _⟩
  · have : f = .nil := by cases f with
      | nil => rfl
      | cons => simp [Fo.len] at h0
    subst this
    exact trivial
  · injection e1 with e1 _ e3
    subst e1
    refine hf.at_ (fun b hS => hS) (hS g (mem_ob.2 rfl)) fun j u hu => ?_
    have := h.cells (g := g) rfl j u hu
    rwa [Addr.add_lit] at this
theorem FoR.cells {S : Nat → Prop} : ∀ {f : Fo} {vs : List Value} {R : List (Value × Nat)}, FoR w vs f R → (∀ b ∈ obs R, S b) → FoCells S w vs f := by
  intro f
  induction f with
  | nil => rintro vs R ⟨rfl, _⟩ _; rfl
  | cons k t n ks r ihk ihr =>
    rintro vs R ⟨KA, c, vs', ys, R1, R2, rfl, ⟨h1, h5, h6⟩, h2, h3, h4, rfl⟩ hS
    simp only [obs_cons, obs_app, List.mem_append] at hS
    obtain ⟨hn, hc⟩ := own_room h2 rfl
    exact ⟨KA, c, vs', rfl, h1, h5, h6, hn, hc, own_fo2 h2 (fun g hg => hS g (.inl hg)) (ihk h3 fun b hb => hS b (.inr (.inl hb))), ihr h4 fun b hb => hS b (.inr (.inr hb))⟩
theorem FoR.snoc {k : Nat} {t : ByteArray} {n : Int} {ks : Fo} {KA : Option Addr} {c : Nat} {ys : List Value} {R1 : List (Value × Nat)} (h1 : k < 256 ∧ t.size ≤ 9223372036854775807 ∧ isInt64 n)
    (h2 : w.ownsRow 0 218 4 (.slice KA ks.len c) ks.len ys) (h3 : FoR w ys ks R1) :
    ∀ {f : Fo} {vs : List Value} {R : List (Value × Nat)}, FoR w vs f R → FoR w (vs ++ [.int .u8 k, .string t, .int .i64 n, .slice KA ks.len c]) (f.app (.cons k t n ks .nil)) (R ++ (.slice KA ks.len c, ks.len) :: R1) := by
  intro f
  induction f with
  | nil => rintro vs R ⟨rfl, rfl⟩; exact ⟨KA, c, [], ys, R1, [], rfl, h1, h2, h3, ⟨rfl, rfl⟩, by simp⟩
  | cons k' t' n' ks' r _ ih =>
    rintro vs R ⟨KA', c', vs', ys', R1', R2', rfl, g1, g2, g3, g4, rfl⟩
    exact ⟨KA', c', _, ys', R1', _, rfl, g1, g2, g3, ih g4, by simp⟩
end

/-- a row of nodes with all that is in it: the blocks L -/
def NodesO (w : World) (A : Option Addr) (c : Nat) (f : Fo) (L : List Nat) : Prop :=
  ∃ vs R, w.ownsRow 0 218 4 (.slice A f.len c) f.len vs ∧ FoR w vs f R ∧ L = ob (.slice A f.len c) ++ obs R ∧ L.Nodup
/-- a row of cells: the blocks L -/
def RowO (e : TypeId) (w : World) (A : Option Addr) (c n : Nat) (xs : List Value) (L : List Nat) : Prop := w.ownsRow 0 e 1 (.slice A n c) n xs ∧ L = ob (.slice A n c)
section
variable {w w' : World} {A : Option Addr} {c : Nat} {f : Fo} {L : List Nat} {e : TypeId} {n : Nat} {xs : List Value}
theorem NodesO.keep (h : NodesO w A c f L) (hk : ∀ b ∈ L, w'.heap[b]? = w.heap[b]?) : NodesO w' A c f L := by
  obtain ⟨vs, R, h1, h2, rfl, h3⟩ := h
  exact ⟨vs, R, own_kept h1 fun b hb => hk b (by simp [hb]), h2.keep fun b hb => hk b (by simp [hb]), rfl, h3⟩
theorem NodesO.lt (h : NodesO w A c f L) : ∀ b ∈ L, b < w.heap.size := by
  obtain ⟨vs, R, h1, h2, rfl, h3⟩ := h
  intro b hb
  rcases List.mem_append.1 hb with hb | hb
  · exact own_lt h1 b hb
  · exact h2.lt b hb
theorem NodesO.nodup (h : NodesO w A c f L) : L.Nodup := by obtain ⟨_, _, _, _, _, h⟩ := h; exact h
theorem NodesO.fo {S : Nat → Prop} (h : NodesO w A c f L) (hS : ∀ b ∈ L, S b) : FoIn S w A f := by
  obtain ⟨vs, R, h1, h2, rfl, h3⟩ := h
  exact own_fo2 h1 (fun g hg => hS g (by simp [hg])) (h2.cells fun b hb => hS b (by simp [hb]))
theorem NodesO.zero : NodesO w none 0 .nil [] := ⟨[], [], ⟨rfl, .inl ⟨rfl, rfl⟩⟩, ⟨rfl, rfl⟩, rfl, List.nodup_nil⟩
theorem RowO.keep (h : RowO e w A c n xs L) (hk : ∀ b ∈ L, w'.heap[b]? = w.heap[b]?) : RowO e w' A c n xs L := by
  obtain ⟨h1, rfl⟩ := h
  exact ⟨own_kept h1 hk, rfl⟩
theorem RowO.lt (h : RowO e w A c n xs L) : ∀ b ∈ L, b < w.heap.size := by
  obtain ⟨h1, rfl⟩ := h
  exact own_lt h1
theorem RowO.nodup (h : RowO e w A c n xs L) : L.Nodup := by obtain ⟨_, rfl⟩ := h; exact ob_nodup _
theorem RowO.zero : RowO e w none 0 0 [] [] := ⟨⟨rfl, .inl ⟨rfl, rfl⟩⟩, rfl⟩
end

/-- a hunk, an edit, a patch whose rows are their own: the blocks L -/
def HkO (w : World) (x : Hh) (h : Hk) (L : List Nat) : Prop := ∃ L1 L2, RowO 9 w x.oA x.oc h.old.length (h.old.map .string) L1 ∧ RowO 9 w x.nA x.nc h.new.length (h.new.map .string) L2 ∧ L = L1 ++ L2
def EdO (w : World) (x : Eh) (e : Ed) (L : List Nat) : Prop := ∃ L1 L2 L3, RowO 3 w x.pA x.pc e.path.length (e.path.map (.int .i64)) L1 ∧ NodesO w x.oA x.oc e.old L2 ∧ NodesO w x.nA x.nc e.new L3 ∧ L = L1 ++ (L2 ++ L3)
def PtO (w : World) (x : Ph) (p : Pt) (L : List Nat) : Prop := ∃ L1 L2, HkO w x.h p.hunk L1 ∧ EdO w x.e p.edit L2 ∧ L = L1 ++ L2
section
variable {w w' : World} {L : List Nat}
theorem HkO.keep {x : Hh} {h : Hk} (a : HkO w x h L) (hk : ∀ b ∈ L, w'.heap[b]? = w.heap[b]?) : HkO w' x h L := by
  obtain ⟨L1, L2, h1, h2, rfl⟩ := a
  exact ⟨L1, L2, h1.keep fun b hb => hk b (by simp [hb]), h2.keep fun b hb => hk b (by simp [hb]), rfl⟩
theorem EdO.keep {x : Eh} {e : Ed} (a : EdO w x e L) (hk : ∀ b ∈ L, w'.heap[b]? = w.heap[b]?) : EdO w' x e L := by
  obtain ⟨L1, L2, L3, h1, h2, h3, rfl⟩ := a
  exact ⟨L1, L2, L3, h1.keep fun b hb => hk b (by simp [hb]), h2.keep fun b hb => hk b (by simp [hb]), h3.keep fun b hb => hk b (by simp [hb]), rfl⟩
theorem PtO.keep {x : Ph} {p : Pt} (a : PtO w x p L) (hk : ∀ b ∈ L, w'.heap[b]? = w.heap[b]?) : PtO w' x p L := by
  obtain ⟨L1, L2, h1, h2, rfl⟩ := a
  exact ⟨L1, L2, h1.keep fun b hb => hk b (by simp [hb]), h2.keep fun b hb => hk b (by simp [hb]), rfl⟩
theorem HkO.lt {x : Hh} {h : Hk} (a : HkO w x h L) : ∀ b ∈ L, b < w.heap.size := by
  obtain ⟨L1, L2, h1, h2, rfl⟩ := a
  intro b hb
  rcases List.mem_append.1 hb with hb | hb
  · exact h1.lt b hb
  · exact h2.lt b hb
theorem EdO.lt {x : Eh} {e : Ed} (a : EdO w x e L) : ∀ b ∈ L, b < w.heap.size := by
  obtain ⟨L1, L2, L3, h1, h2, h3, rfl⟩ := a
  intro b hb
  simp only [List.mem_append] at hb
  rcases hb with hb | hb | hb
  · exact h1.lt b hb
  · exact h2.lt b hb
  · exact h3.lt b hb
theorem PtO.lt {x : Ph} {p : Pt} (a : PtO w x p L) : ∀ b ∈ L, b < w.heap.size := by
  obtain ⟨L1, L2, h1, h2, rfl⟩ := a
  intro b hb
  rcases List.mem_append.1 hb with hb | hb
  · exact h1.lt b hb
  · exact h2.lt b hb
theorem HkO.zero : HkO w ⟨none, 0, none, 0⟩ Hk.zero [] := ⟨[], [], RowO.zero, RowO.zero, rfl⟩
theorem EdO.zero : EdO w ⟨none, 0, none, 0, none, 0⟩ Ed.zero [] := ⟨[], [], [], RowO.zero, NodesO.zero, NodesO.zero, rfl⟩
theorem PtO.hunk {x : Hh} {k : Nat} {f t : ByteArray} {h : Hk} (a : HkO w x h L) : PtO w ⟨x, ⟨none, 0, none, 0, none, 0⟩⟩ ⟨k, f, t, h, Ed.zero⟩ L := ⟨L, [], a, EdO.zero, by simp⟩
theorem PtO.edit {x : Eh} {k : Nat} {f t : ByteArray} {e : Ed} (a : EdO w x e L) : PtO w ⟨⟨none, 0, none, 0⟩, x⟩ ⟨k, f, t, Hk.zero, e⟩ L := ⟨[], L, HkO.zero, a, rfl⟩
theorem PtO.bare {k : Nat} {f t : ByteArray} : PtO w ⟨⟨none, 0, none, 0⟩, ⟨none, 0, none, 0, none, 0⟩⟩ ⟨k, f, t, Hk.zero, Ed.zero⟩ [] := ⟨[], [], HkO.zero, EdO.zero, rfl⟩
end

end Go.Proofs.YtjjaojnglnpgaaaGreatDoor

namespace Go.Proofs.YtjjaojnglnpgaaaGreatDoor
open Go.RowKit

/-- the cells of a block, from its head on -/
def Cells (w : World) (N : Nat) (vs : List Value) : Prop := ∀ j u, vs[j]? = some u → w.cell? ⟨N, j, none⟩ = some u
theorem Cells.of_eq {w w' : World} {N : Nat} {vs : List Value} (h : Cells w N vs) (he : ∀ o, w'.cell? ⟨N, o, none⟩ = w.cell? ⟨N, o, none⟩) : Cells w' N vs := fun j u hu => (he j).trans (h j u hu)
theorem keep_setCells (b : Nat) {P : Nat → Prop} (hP : ¬ P b) : ∀ (vs : List Value) (o : Nat) (w : World), Keep P w (w.setCells b o vs)
  | [], _, w => Keep.refl _ _
  | v :: r, o, w => Keep.trans ((Keep.refl P w).setCell (a := ⟨b, o, none⟩) hP v) (keep_setCells b hP r (o + 1) (w.setCell ⟨b, o, none⟩ v))
theorem size_setCells (b : Nat) : ∀ (vs : List Value) (o : Nat) (w : World), (w.setCells b o vs).heap.size = w.heap.size
  | [], _, _ => rfl
  | v :: r, o, w => by rw [World.setCells, size_setCells b r]; simp [World.setCell]
/-- cells stored one behind the other -/
theorem puts {w : World} {N : Nat} {us : List Value} (hu : Cells w N us) (o : Nat) (vs : List Value) (ho : o + vs.length ≤ us.length) :
    ∃ wF, wF = w.setCells N o vs ∧ Cells wF N (us.take o ++ vs ++ us.drop (o + vs.length)) ∧ (∀ M, M ≠ N → ∀ q, wF.cell? ⟨M, q, none⟩ = w.cell? ⟨M, q, none⟩) ∧ (∀ P : Nat → Prop, ¬ P N → Keep P w wF) ∧ (∀ a, wF.frozen? a = w.frozen? a) ∧ wF.heap.size = w.heap.size := by
  refine ⟨_, rfl, ?_, fun M hM q => World.cell?_setCells_out N vs o w ⟨M, q, none⟩ (fun e _ => absurd e hM), fun P hP => keep_setCells N hP vs o w, fun a => World.frozen?_setCells N vs o w a, size_setCells N vs o w⟩
  intro j u hj
  have hl : (us.take o).length = o := by simp; omega
  by_cases h1 : j < o
  · rw [World.cell?_setCells_out N vs o w ⟨N, j, none⟩ (fun _ _ => .inl h1)]
    rw [List.append_assoc, List.getElem?_append_left (by omega), List.getElem?_take, if_pos h1] at hj
    exact hu j u hj
  · by_cases h2 : j < o + vs.length
    · have h3 := World.cell?_setCells_in N vs o w (fun i hi => by
        have : us[o + i]? = some us[o + i] := List.getElem?_eq_getElem (by omega)
        rw [hu _ _ this]; rfl) (j - o) (by omega)
      rw [show o + (j - o) = j by omega] at h3
      rw [h3]
      rw [List.append_assoc, List.getElem?_append_right (by omega), hl, List.getElem?_append_left (by omega), List.getElem?_eq_getElem (by omega)] at hj
      exact hj
    · rw [World.cell?_setCells_out N vs o w ⟨N, j, none⟩ (fun _ _ => .inr (by show o + vs.length ≤ j; omega))]
      rw [List.append_assoc, List.getElem?_append_right (by omega), hl, List.getElem?_append_right (by omega), List.getElem?_drop] at hj
      rw [show o + vs.length + (j - o - vs.length) = j by omega] at hj
      exact hu j u hj

end Go.Proofs.YtjjaojnglnpgaaaGreatDoor
