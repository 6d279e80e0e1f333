/- The writer of bytes: its row of bytes in memory; put, number, text. -/
import Derived.Test.YthaoldnlleilfaaDoorProg
import Derived.OwnWalk
import Derived.Laws.AppendOwn
import Derived.Laws.OwnMore
import Derived.Laws.IdiomStrings
import Derived.Test.YthaoldnlleilfaaDoorCBase

set_option linter.unusedVariables false
set_option linter.unusedSimpArgs false

namespace Go.Proofs.YthaoldnlleilfaaDoor
open Go.RowKit

/-- nothing in the blocks of P is turned -/
structure Keep (P : Nat → Prop) (w w' : World) : Prop where
  os : w'.os = w.os
  tape : w'.tape = w.tape
  output : w'.output = w.output
  size : w.heap.size ≤ w'.heap.size
  block : ∀ k, P k → w'.heap[k]? = w.heap[k]?
section
variable {P P' : Nat → Prop} {w w' w'' : World}
theorem Keep.refl (P : Nat → Prop) (w : World) : Keep P w w := ⟨rfl, rfl, rfl, Nat.le_refl _, fun _ _ => rfl⟩
theorem Keep.trans (h : Keep P w w') (h' : Keep P w' w'') : Keep P w w'' := ⟨h'.os.trans h.os, h'.tape.trans h.tape, h'.output.trans h.output, Nat.le_trans h.size h'.size, fun k hk => (h'.block k hk).trans (h.block k hk)⟩
theorem Keep.mono (h : Keep P' w w') (hp : ∀ k, P k → P' k) : Keep P w w' := ⟨h.os, h.tape, h.output, h.size, fun k hk => h.block k (hp k hk)⟩
theorem Keep.drew (h : Keep P w w') : Keep P w w'.drew := ⟨h.os, h.tape, h.output, h.size, h.block⟩
theorem Keep.drewN (h : Keep P w w') (n : Nat) : Keep P w (w'.drewN n) := ⟨h.os, h.tape, h.output, h.size, h.block⟩
theorem Keep.alloc (h : Keep P w w') (hp : ∀ k, P k → k < w.heap.size) (o : Obj) : Keep P w (w'.alloc o) :=
  h.trans ⟨rfl, rfl, rfl, by simp, fun k hk => Below.heap_alloc w' o k (Nat.lt_of_lt_of_le (hp k hk) h.size)⟩
theorem Keep.setCell (h : Keep P w w') {a : Addr} (ha : ¬ P a.block) (u : Value) : Keep P w (w'.setCell a u) :=
  h.trans ⟨rfl, rfl, rfl, by simp [World.setCell], fun k hk => Below.heap_setCell w' a u k (fun e => ha (e ▸ hk))⟩
theorem Keep.grown (h : Keep P w w') {row : Option Nat} (hg : w'.grownBy w'' row) (hp : ∀ k, P k → k < w.heap.size) (hr : ∀ k, row = some k → ¬ P k) : Keep P w w'' :=
  h.trans ⟨hg.os, hg.tape, hg.output, hg.size, fun k hk => hg.block k (Nat.lt_of_lt_of_le (hp k hk) h.size) (fun e => hr k e.symm hk)⟩
theorem Keep.cell (h : Keep P w w') {a : Addr} (ha : P a.block) : w'.cell? a = w.cell? a := World.cell?_of_block (h.block _ ha)
theorem Keep.frozen (h : Keep P w w') {a : Addr} (ha : P a.block) : w'.frozen? a = w.frozen? a := World.frozen?_of_block (h.block _ ha)
theorem Keep.box (h : Keep P w w') {N : Nat} (hN : P N) : (∀ o, w'.cell? ⟨N, o, none⟩ = w.cell? ⟨N, o, none⟩) ∧ (∀ o, w'.frozen? ⟨N, o, none⟩ = w.frozen? ⟨N, o, none⟩) := ⟨fun o => h.cell (a := ⟨N, o, none⟩) hN, fun o => h.frozen (a := ⟨N, o, none⟩) hN⟩
theorem Keep.below {B : Nat} (h : Keep (fun k => k < B) w w') : Below B w w' := ⟨h.os, h.tape, h.output, h.size, h.block⟩
theorem Keep.of_below {B : Nat} (h : Below B w w') (hp : ∀ k, P k → k < B) : Keep P w w' := ⟨h.os, h.tape, h.output, h.size, fun k hk => h.block k (hp k hk)⟩
end

section
variable {Q : Program} (w : World)
/-- a row that is appended to stays in its block, or goes into a new one -/
theorem append_where (t ty e : TypeId) (i : TypeInfo) (z : Value) (size bytes : Nat) (ht : Q.underlying t = some (.slice e)) (hi : Q.info? e = some i) (hz : i.zero = some z)
    (hsize : i.size = size) (hby : i.bytes = bytes) (v : Value) (n : Nat) (xs : List Value) (hown : w.ownsRow 0 e size v n xs)
    (a : Addr) (m c : Nat) (news : List Value) (hl : news.length = m * size) (hnews : ∀ j u, news[j]? = some u → w.cell? (a.add j) = some u) (h1 : ∀ u ∈ news, u.oneCell' = true)
    (h63 : n + m ≤ maxLen) (hbytes : (n + m) * bytes ≤ 140737488355328) (v' : Value) (w' : World) (hrun : (Builtin.append_ #[t, t] ty #[v, .slice (some a) m c]).run Q w = .ok v' w') :
    v'.ownBlock = v.ownBlock ∨ v'.ownBlock = some w.heap.size := by
  subst hsize
  subst hby
  have hm : n + m ≤ 9223372036854775807 := by simp only [maxLen] at h63; omega
  rcases hown.2 with ⟨rfl, rfl⟩ | ⟨g, cap, cur, rfl, _, hg, hnc, hcm, hcs, htake⟩
  · by_cases h0 : m = 0
    · subst h0
      have hn : news = [] := List.eq_nil_of_length_eq_zero (by simpa using hl)
      have hr : (Builtin.append_ #[t, t] ty #[.slice none 0 0, .slice (some a) 0 c]).run Q w = .ok (.slice none 0 0) w := by
        simp [Builtin.append_, run_underlying ht, sizeOf, typeInfo, hi, Builtin.lenOf, Builtin.firstCells, loadCells, loadCellsFrom]
      rw [hr] at hrun
      injection hrun with e1 e2
      subst e1
      exact .inl rfl
    · have hr := run_append_nil (P := Q) w t ty e i z ht hi hz a m c news hl hnews (by omega) (by omega) (by have := hbytes; simp only [Nat.zero_add] at this; omega)
      rw [hr] at hrun
      injection hrun with e1 e2
      subst e1
      exact .inr rfl
  · by_cases hroom : n + m ≤ cap
    · have hfit : n * i.size + news.length ≤ cur.size := by rw [hl, hcs, ← Nat.add_mul]; exact Nat.mul_le_mul_right _ hroom
      have hr := run_append_room (P := Q) w t ty e i ht hi g n cap cur hg a m c news hl hnews h1 hroom hfit
      rw [hr] at hrun
      injection hrun with e1 e2
      subst e1
      exact .inl rfl
    · have hr := run_append_grow (P := Q) w t ty e i z ht hi hz ⟨g, 0, none⟩ n cap xs hown.1 (hown.cells (g := g) rfl) a m c news hl hnews (by omega) (by omega) (growslice_fits (by omega) hbytes)
      rw [hr] at hrun
      injection hrun with e1 e2
      subst e1
      exact .inr rfl
/-- an append to a row of the call's own, in a walk; and where it goes -/
theorem wpList_append_own2 {ops : Array Oper} {rest : List Oper} {o : Oper} {a : Act} {K0 : Exit → Act → World → Prop} (hgd : o.guard = none) (s x : Operand) (t : TypeId)
    (ho : o.op = .call { callee := .builtin .append, args := #[s, x], argTypes := #[t, t] })
    (e : TypeId) (i : TypeInfo) (z : Value) (size bytes : Nat) (ht : Q.underlying t = some (.slice e)) (hi : Q.info? e = some i) (hz : i.zero = some z)
    (hsize : i.size = size) (hby : i.bytes = bytes) (hzs : z.cells.size = size) (hsz : 0 < size)
    (v : Value) (n : Nat) (xs : List Value) (hs : a.eval s = v) (hown : w.ownsRow 0 e size v n xs)
    (ad : Addr) (m c : Nat) (news : List Value) (hx : a.eval x = .slice (some ad) m c) (hl : news.length = m * size) (hnews : ∀ j u, news[j]? = some u → w.cell? (ad.add j) = some u) (h1 : ∀ u ∈ news, u.oneCell' = true)
    (h63 : n + m ≤ maxLen) (hbytes : (n + m) * bytes ≤ 140737488355328)
    (h : ∀ v' w', w'.ownsRow 0 e size v' (n + m) (xs ++ news) → w.grownBy w' v.ownBlock → (v' = .slice none 0 0 ↔ v = .slice none 0 0 ∧ m = 0) → (v'.ownBlock = v.ownBlock ∨ v'.ownBlock = some w.heap.size) →
      wpList Q ops K0 rest (a.put o.dst v') w') : wpList Q ops K0 (o :: rest) a w := by
  refine wpList_plain hgd fun K hK' => ?_
  obtain ⟨v', w', hr, h2, h3, h4⟩ := run_append_own (P := Q) w 0 t o.type e i z size bytes ht hi hz hsize hby hzs hsz v n xs hown ad m c news hl hnews h1 h63 hbytes (Nat.zero_le _)
  have h5 := append_where w t o.type e i z size bytes ht hi hz hsize hby v n xs hown ad m c news hl hnews h1 h63 hbytes v' w' hr
  unfold Oper.wp
  simp [execOp, ho, resolve, invoke, builtin, hs, hx, hr, Result.andThen]
  exact hK' _ _ (h v' w' h2 h3 h4 h5)
end

/-- block wb holds a writer that has written the bytes l; none of the blocks P is its -/
def Buf (P : Nat → Prop) (wb : Nat) (w : World) (l : List UInt8) : Prop :=
  ∃ v, w.cell? ⟨wb, 0, none⟩ = some v ∧ w.frozen? ⟨wb, 0, none⟩ = false ∧ ¬ P wb ∧ (∀ k, P k → k < w.heap.size) ∧ w.ownsRow 0 5 1 v l.length (bytesV l) ∧
    (∀ g, v.ownBlock = some g → g ≠ wb ∧ ¬ P g) ∧ (v = .slice none 0 0 ∨ l ≠ [])
abbrev lid : Nat := 1099511627776

theorem grownBy_setCell (w : World) (a : Addr) (u : Value) : w.grownBy (w.setCell a u) (some a.block) :=
  ⟨rfl, rfl, rfl, by simp [World.setCell], fun k _ hne => Below.heap_setCell w a u k (fun e => hne (by rw [e]))⟩
theorem bytesV_app (l m : List UInt8) : bytesV (l ++ m) = bytesV l ++ bytesV m := by simp [bytesV]
theorem bytesV_len (l : List UInt8) : (bytesV l).length = l.length := by simp [bytesV]
theorem own_shape {w : World} {B e size n : Nat} {v : Value} {xs : List Value} (h : w.ownsRow B e size v n xs) : ∃ A c, v = .slice A n c := by
  rcases h.2 with ⟨rfl, rfl⟩ | ⟨g, cap, cur, rfl, _⟩
  · exact ⟨_, _, rfl⟩
  · exact ⟨_, _, rfl⟩
section
variable {P P' : Nat → Prop} {wb : Nat} {w : World} {l : List UInt8}
theorem Buf.lt (h : Buf P wb w l) : wb < w.heap.size := by
  obtain ⟨v, h0, _⟩ := h
  exact World.block_lt_of_cell? _ _ h0
theorem Buf.lts (h : Buf P wb w l) : ∀ k, P k → k < w.heap.size := by
  obtain ⟨v, _, _, _, h3, _⟩ := h
  exact h3
theorem Buf.mono (h : Buf P' wb w l) (hp : ∀ k, P k → P' k) : Buf P wb w l := by
  obtain ⟨v, h0, h1, h2, h3, h4, h5, h6⟩ := h
  exact ⟨v, h0, h1, fun a => h2 (hp _ a), fun k hk => h3 k (hp k hk), h4, fun g hg => ⟨(h5 g hg).1, fun a => (h5 g hg).2 (hp g a)⟩, h6⟩
theorem Buf.alloc (h : Buf P wb w l) (o : Obj) : Buf P wb (w.alloc o) l := by
  have hlt := h.lt
  obtain ⟨v, h0, h1, h2, h3, h4, h5, h6⟩ := h
  have hb := below_alloc w o
  exact ⟨v, (hb.cell (p := ⟨wb, 0, none⟩) hlt).trans h0, (hb.frozen (p := ⟨wb, 0, none⟩) hlt).trans h1, h2, fun k hk => Nat.lt_of_lt_of_le (h3 k hk) hb.size, h4.alloc o, h5, h6⟩
/-- a new block is protected too -/
theorem Buf.box (h : Buf P wb w l) (o : Obj) : Buf (fun k => P k ∨ k = w.heap.size) wb (w.alloc o) l := by
  have hlt := h.lt
  have ha := h.alloc o
  obtain ⟨v, h0, h1, h2, h3, h4, h5, h6⟩ := h
  obtain ⟨v', a0, a1, a2, a3, a4, a5, a6⟩ := ha
  have hv : v' = v := by
    have hb := (below_alloc w o).cell (p := ⟨wb, 0, none⟩) hlt
    rw [a0, h0] at hb
    injection hb
  subst hv
  refine ⟨v', a0, a1, fun e => e.elim a2 (fun e => by omega), fun k hk => hk.elim (a3 k) (fun e => by subst e; simp), a4, fun g hg => ⟨(a5 g hg).1, fun e => e.elim (a5 g hg).2 (fun e => ?_)⟩, a6⟩
  have := (h4.lt g hg).2
  omega
theorem Buf.drew (h : Buf P wb w l) : Buf P wb w.drew l := h
theorem Buf.drewN (h : Buf P wb w l) (n : Nat) : Buf P wb (w.drewN n) l := h
end

theorem Tryu8 : (Tryd.prog.info? 5).map (fun i => (i.zero, i.size, i.bytes)) = some (some (.int .u8 0), 1, 1) := by kernel_rfl

set_option maxHeartbeats 1000000 in
set_option maxRecDepth 1000000 in
theorem put_any {P : Nat → Prop} {wb : Nat} {w : World} {l news : List UInt8} {b o c : Nat} (h : Buf P wb w l) (hn : ∀ j u, (bytesV news)[j]? = some u → w.cell? ((⟨b, o, none⟩ : Addr).add j) = some u) (hlen : l.length + news.length ≤ lid) :
    Calls Tryd.prog 39 #[.pointer (some ⟨wb, 0, none⟩), .slice (some ⟨b, o, none⟩) news.length c] w fun e w' => e = .returned (.tuple #[]) ∧ Buf P wb w' (l ++ news) ∧ Keep P w w' := by
  have hlt := h.lt
  obtain ⟨v, h0, hf, hB, hP, hown, hne, hnil0⟩ := h
  obtain ⟨i0, hi, hz0, hz1, hz2⟩ := info_parts Tryu8
  have Hown := hide hown
  have Hn := hide hn
  obtain ⟨A, c0, rfl⟩ := own_shape hown
  have Hne := hide hne
  have Hnil := hide hnil0
  have HP := hide hP
  have HBn := hide hB
  have Hlo := hide hown.lt
  clear hown hn hne hnil0 hP hB
  go_enter Tryd.func39, Tryd.ntmps39
  go_wp2_with (at_builtin; refine wpList_append_own2 _ rfl _ _ 33 rfl 5 i0 (.int .u8 0) 1 1 Tryd.underlying33 hi hz0 hz1 hz2 rfl (by decide) _ l.length (bytesV l) rfl Hown.out ⟨b, o, none⟩ news.length c (bytesV news) rfl (by simp [bytesV]) Hn.out (by intro u hu; simp [bytesV] at hu; obtain ⟨x, _, rfl⟩ := hu; rfl) (by unfold maxLen; simp only [lid] at hlen; omega) (by simp only [lid] at hlen; omega) ?_)
  intro v' w1 hown' hgrow hnil hown2
  have k0 := hgrow.cell h0 (fun e => (Hne.out _ e.symm).1 rfl)
  have k1 := (World.frozen?_of_block (a := ⟨wb, 0, none⟩) (hgrow.block wb hlt (fun e => (Hne.out _ e.symm).1 rfl))).trans hf
  obtain ⟨A', c', rfl⟩ := own_shape hown'
  have Hgrow := hide hgrow
  have Hown' := hide hown'
  have Hnil' := hide hnil
  have Hown2 := hide hown2
  clear hown' hgrow hnil hown2
  go_wp2
  go_end0
  have hne' : (Value.slice A' (l.length + news.length) c').ownBlock ≠ some wb := by
    intro e
    by_cases h0' : l.length + news.length = 0
    · have hl : l = [] := List.eq_nil_of_length_eq_zero (by omega)
      have hn' : news = [] := List.eq_nil_of_length_eq_zero (by omega)
      have hv := Hnil.out.resolve_right (fun hn => hn hl)
      have h1 := Hnil'.out
      subst hl
      subst hn'
      simp only [Value.slice.injEq] at hv
      rw [h1.mpr ⟨⟨hv.1, rfl, hv.2.2⟩, rfl⟩] at e
      cases e
    · have hc := Hown'.out.cells e 0
      obtain ⟨x, hx⟩ : ∃ x, (bytesV l ++ bytesV news)[0]? = some (.int .u8 x) := by
        rw [← bytesV_app]
        cases hq : l ++ news with
        | nil => rw [← List.length_append, hq] at h0'; exact absurd rfl h0'
        | cons c r => exact ⟨_, rfl⟩
      have := hc _ hx
      rw [show ((⟨wb, 0, none⟩ : Addr).add 0) = ⟨wb, 0, none⟩ from rfl, k0] at this
      cases this
  have hown2 : ∀ g, (Value.slice A' (l.length + news.length) c').ownBlock = some g → g ≠ wb ∧ ¬ P g := by
    intro g hg
    refine ⟨fun e => hne' (by rw [hg, e]), fun hp => ?_⟩
    rcases Hown2.out with e | e
    · rw [hg] at e
      exact (Hne.out g e.symm).2 hp
    · rw [hg] at e
      injection e with e
      have := HP.out g hp
      omega
  have hB1 : Keep P w w1 := (Keep.refl P w).grown Hgrow.out HP.out (fun k hk => (Hne.out k hk).2)
  refine ⟨rfl, ⟨_, World.cell?_setCell_same _ _ _ k0, ?_, HBn.out, fun k hk => Nat.lt_of_lt_of_le (HP.out k hk) (hB1.setCell (a := ⟨wb, 0, none⟩) HBn.out _).size, ?_, hown2, ?_⟩, hB1.setCell HBn.out _⟩
  · rw [World.frozen?_setCell]; exact k1
  · rw [bytesV_app, List.length_append]
    exact Hown'.out.kept (grownBy_setCell _ _ _) (.inr hne')
  · by_cases h0' : l ++ news = []
    · have hl : l = [] := (List.append_eq_nil_iff.mp h0').1
      have hn' : news = [] := (List.append_eq_nil_iff.mp h0').2
      have hv := Hnil.out.resolve_right (fun hn => hn hl)
      have h1 := Hnil'.out
      subst hl
      subst hn'
      simp only [Value.slice.injEq] at hv
      exact .inl (h1.mpr ⟨⟨hv.1, rfl, hv.2.2⟩, rfl⟩)
    · exact .inr h0'

/-! ### a number -/
theorem byte_new (w : World) (e : TypeId) (x : UInt8) (c : Int) (hx : c = (x.toNat : Int)) :
    ∀ j u, (bytesV [x])[j]? = some u → (w.alloc (.cells #[.int .u8 c] e)).cell? ((⟨w.heap.size, 0, none⟩ : Addr).add j) = some u := by
  subst hx
  exact cell_one_new w (.int .u8 x.toNat) e
theorem num8_at (n : Int) (j : Nat) (hj : j < 8) : IntKind.u64.wrap n / 2 ^ (56 - 8 * j) % 256 = (((num8 n)[j]'hj).toNat : Int) := by
  have hw : IntKind.u64.wrap n = n % 18446744073709551616 := by simp [IntKind.wrap, IntKind.bits, IntKind.signed]
  rw [hw]
  match j, hj with
  | 0, _ => simp [num8]; omega
  | 1, _ => simp [num8]; omega
  | 2, _ => simp [num8]; omega
  | 3, _ => simp [num8]; omega
  | 4, _ => simp [num8]; omega
  | 5, _ => simp [num8]; omega
  | 6, _ => simp [num8]; omega
  | 7, _ => simp [num8]; omega
theorem num8_next (n : Int) (j : Nat) (hj : j < 8) : (num8 n).take (j + 1) = (num8 n).take j ++ [(num8 n)[j]'hj] := by
  rw [List.take_succ_eq_append_getElem]; rfl
set_option maxHeartbeats 1000000 in
set_option maxRecDepth 1000000 in
theorem number_put {P : Nat → Prop} {wb : Nat} {w : World} {l : List UInt8} {n : Int} (h : Buf P wb w l) (hn : is63 n) (hlen : l.length + 8 ≤ lid) :
    Calls Tryd.prog 41 #[.pointer (some ⟨wb, 0, none⟩), .int .i64 n] w fun e w' => e = .returned (.tuple #[]) ∧ Buf P wb w' (l ++ num8 n) ∧ Keep P w w' := by
  have H := hide h
  unfold is63 at hn
  clear h
  go_enter Tryd.func41, Tryd.ntmps41
  go_wp2_with fail
  go_loopw [4] (fun s wr => ∃ j : Nat, j ≤ 8 ∧ s = .int .i64 (56 - 8 * (j : Int)) ∧ Hid (Buf P wb wr (l ++ (num8 n).take j)) ∧ Hid (Keep P w wr)) (fun s _ => (intOf s + 8).toNat)
  case atStart => exact ⟨0, by omega, rfl, hide (by simpa using H.out), hide (Keep.refl _ _)⟩
  case round =>
    obtain ⟨j, hj, rfl, HB, HW⟩ := hrel
    by_cases hlt : j < 8
    · go_wp2_with (go_at_call 39; refine (put_any (news := [(num8 n)[j]'hlt]) (HB.out.alloc _) (byte_new _ _ _ _ (num8_at n j hlt)) (by simp [num8_len]; omega)).mono ?_; rintro e w1 ⟨rfl, hb, hB⟩; have HB1 := hide hb; have HW1 := hide (HW.out.trans (((Keep.refl _ _).alloc HB.out.lts _).trans hB)); clear hb hB)
      go_roundw
      case rel => exact ⟨j + 1, by omega, by go_num, hide (by rw [num8_next n j hlt, ← List.append_assoc]; exact HB1.out), HW1⟩
      case measure => simp [intOf]; omega
    · go_wp2_with fail
      go_end0
      have hj8 : j = 8 := by omega
      subst hj8
      exact ⟨rfl, by have := HB.out; rwa [List.take_of_length_le (by rw [num8_len]; omega)] at this, HW.out⟩

end Go.Proofs.YthaoldnlleilfaaDoor
