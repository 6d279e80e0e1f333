/- script.Show: the chapter's example. -/
import Derived.Deep.RegionWith
import Derived.Deep.DeepCutAuto
import Derived.Test.YtjjaojnglnpgaaaGreatDoorLHas
import Derived.Test.YtjjaojnglnpgaaaGreatDoorLScrBare0
import Derived.Test.YtjjaojnglnpgaaaGreatDoorLTell

set_option linter.unusedVariables false
set_option linter.unusedSimpArgs false

namespace Go.Proofs.YtjjaojnglnpgaaaGreatDoor
open Go.RowKit

theorem look9 {w : World} {b : Nat} (hT : WaysAt w b) : (Instr.lookup 100 (.map (some b)) (.int .u8 9) true).run Tryz.prog w = .ok (.tuple #[.agg #[.string { data := #[105, 109, 112, 111, 114, 116] }, .func (.func 111) #[] #[]], .bool true]) w := look_any (p := (9, kwImport)) hT (by simp [kwL])
theorem upon_look9 {o : Oper} {a : Act} {K' : Act → World → Prop} {Q : Exit → Act → World → Prop} {w : World} {b : Nat} (hT : WaysAt w b) (h : K' (a.put o.dst (.tuple #[.agg #[.string { data := #[105, 109, 112, 111, 114, 116] }, .func (.func 111) #[] #[]], .bool true])) w) :
    Oper.upon Tryz.prog o a K' Q (((Instr.lookup 100 (.map (some b)) (.int .u8 9) true).run Tryz.prog w).andThen fun v w' => .ok (.value v) w') := by
  have hl : (Instr.lookup 100 (.map (some b)) (.int .u8 9) true).run Tryz.prog w = .ok (.tuple #[.agg #[.string { data := #[105, 109, 112, 111, 114, 116] }, .func (.func 111) #[] #[]], .bool true]) w := look_any (p := (9, kwImport)) hT (by simp [kwL])
  rw [hl]
  exact h
/-- the command: import r, of no bytes -/
abbrev impV : List Value := (.int .u8 9) :: (.string { data := #[114] }) :: zeroL.drop 2
/-- the command's box, the way's word, while the line is made -/
structure ShowAt (w wx : World) (b : Nat) : Prop where
  below : Below w.heap.size w wx
  box : wx.rangeAt w.heap.size 0 impV
  word : wx.cell? ⟨b, 0, none⟩ = some (.string { data := #[105, 109, 112, 111, 114, 116] })
  lt : w.heap.size < wx.heap.size
theorem ShowAt.next {w wx w' : World} {b : Nat} (h : ShowAt w wx b) (hb : Below wx.heap.size wx w') : ShowAt w w' b :=
  ⟨h.below.trans (hb.mono (Nat.le_of_lt h.lt)), fun j v hv => (hb.cell (p := ⟨w.heap.size, 0 + j, none⟩) h.lt).trans (h.box j v hv), (hb.cell (p := ⟨b, 0, none⟩) (block_lt_of_cell h.word)).trans h.word, Nat.lt_of_lt_of_le h.lt hb.size⟩
theorem ShowAt.set {w wx : World} {b : Nat} (h : ShowAt w wx b) {a : Addr} (h1 : w.heap.size < a.block) (h2 : b ≠ a.block) (u : Value) : ShowAt w (wx.setCell a u) b :=
  ⟨h.below.setCell (Nat.le_of_lt h1) u, fun j v hv => (World.cell?_setCell_other _ _ _ _ (by intro e; subst e; exact absurd h1 (Nat.lt_irrefl _))).trans (h.box j v hv), (World.cell?_setCell_other _ _ _ _ (by intro e; subst e; exact h2 rfl)).trans h.word, by simpa using h.lt⟩
theorem InfoStrS : (Tryz.prog.info? 9).map (fun i => (i.zero, i.size, i.bytes)) = some (some (.string ByteArray.empty), 1, 16) := by kernel_rfl
/-- what the line's last part leaves as it is -/
abbrev ShowS (W : World) (r0 : Nat) (w' : World) : Prop := Keep (fun k => k < W.heap.size ∧ k ≠ r0 ∧ k ≠ r0 + 1) W w'
theorem show_S {W x y : World} {r0 : Nat} (h : ShowS W r0 x) (hb : Below x.heap.size x y) : ShowS W r0 y := Keep.trans h (Keep.of_below hb fun k hk => Nat.lt_of_lt_of_le hk.1 h.size)
theorem show_Sg {W x y : World} {r0 : Nat} (h : ShowS W r0 x) (hg : x.grownBy y (some r0)) : ShowS W r0 y := Keep.grown h hg (fun k hk => hk.1) (fun k hk hp => by injection hk with hk; exact hp.2.1 hk.symm)
theorem show_Ss {W x : World} {r0 : Nat} (h : ShowS W r0 x) (u : Value) : ShowS W r0 (x.setCell ⟨r0 + 1, 0, none⟩ u) := Keep.setCell h (fun hp => hp.2.2 rfl) u
theorem spelled_nil (w : World) : Calls Tryz.prog 46 #[.slice none 0 0] w fun e w' => e = .returned (.string { data := #[45] }) ∧ Below w.heap.size w w' := spelled_any (S := fun _ => True) (A := none) (c := 0) (l := []) ⟨.nil, Nat.zero_le _⟩ (Nat.zero_le _)
theorem joined_imp {w : World} {B c : Nat} {A : Option Addr} (ho : w.ownsRow B 9 1 (.slice A 3 c) 3 [.string { data := #[105, 109, 112, 111, 114, 116] }, .string { data := #[114] }, .string { data := #[45] }]) :
    Calls Tryz.prog 47 #[.slice A 3 c] w fun e w' => e = .returned (.string { data := #[105, 109, 112, 111, 114, 116, 32, 114, 32, 45] }) ∧ Below w.heap.size w w' :=
  joined_any (ws := [{ data := #[105, 109, 112, 111, 114, 116] }, { data := #[114] }, { data := #[45] }]) ho rfl (by decide) (by decide) (by decide)
theorem row_step2 {P : Program} {T e : TypeId} {z : Value} {size bytes : Nat} {w : World} {base n m cB q : Nat} {v : Value} {xs us : List Value} {B : Option Addr} (ht : P.underlying T = some (.slice e)) (hI : (P.info? e).map (fun i => (i.zero, i.size, i.bytes)) = some (some z, size, bytes)) (hz : z.cells.size = size) (h0 : 0 < size)
    (hown : w.ownsRow base e size v n xs) (hB : B = none → m = 0) (hlen : us.length = m * size) (hone : ∀ u ∈ us, u.oneCell' = true) (hc : ∀ a, B = some a → ∀ j u, us[j]? = some u → w.cell? (a.add j) = some u)
    (hbase : base ≤ w.heap.size) (hmax : n + m ≤ maxLen) (hl : (n + m) * bytes ≤ 140737488355328) (hq : ∀ g ∈ ob v, g ≠ q) (hqw : q < w.heap.size) (ty : TypeId) :
    ∃ v' w', (Builtin.append_ #[T, T] ty #[v, .slice B m cB]).run P w = .ok v' w' ∧ w'.ownsRow base e size v' (n + m) (xs ++ us) ∧ w.grownBy w' v.ownBlock ∧ ∀ g ∈ ob v', g ≠ q := by
  obtain ⟨i0, hi, hz0, hz1, hz2⟩ := info_parts hI
  rcases B with _ | a
  · have hm := hB rfl
    subst hm
    have hu : us = [] := List.length_eq_zero_iff.1 (by simpa using hlen)
    subst hu
    exact ⟨v, w, run_append_none ht hi hown ty, by simpa using hown, ⟨rfl, rfl, rfl, Nat.le_refl _, fun _ _ _ => rfl⟩, hq⟩
  · obtain ⟨v', w', hrun, hown', hgr, hrest⟩ := run_append_own (P := P) w base T ty e i0 z size bytes ht hi hz0 hz1 hz2 hz h0 v n xs hown a m cB us hlen (hc a rfl) hone hmax hl hbase
    refine ⟨v', w', hrun, hown', hgr, fun g hg => ?_⟩
    have hw := went_of base T ty e i0 z size bytes ht hi hz0 hz1 hz2 v n xs hown a m cB us hlen (hc a rfl) hone hmax hl v' w' hrun
    rcases hw with ⟨A, c, e1, e2⟩ | ⟨h, _⟩
    · rw [e2, ob_same A (n + m) n c, ← e1] at hg
      exact hq g hg
    · rw [ob, h] at hg
      simp at hg
      omega
theorem show_A {w X w2 : World} {v : Value} {t : TypeId} (hX : X.rangeAt w.heap.size 0 impV) (hXB : Below w.heap.size w X) (hlt : w.heap.size < X.heap.size) (hB : Below X.heap.size X w2) :
    ShowAt w (w2.alloc (.cells #[.string { data := #[105, 109, 112, 111, 114, 116] }, v] t)) w2.heap.size := by
  have hz := hB.size
  have hb2 := below_alloc w2 (.cells #[.string { data := #[105, 109, 112, 111, 114, 116] }, v] t)
  refine ⟨(hXB.trans (hB.mono (Nat.le_of_lt hlt))).trans (hb2.mono (by omega)), fun j u hu => ?_, by rw [Lib.cell_of_heap (heap_alloc_new w2 _)]; rfl, by simp; omega⟩
  exact (hb2.cell (p := ⟨w.heap.size, 0 + j, none⟩) (by show w.heap.size < _; omega)).trans ((hB.cell (p := ⟨w.heap.size, 0 + j, none⟩) hlt).trans (hX j u hu))
theorem show_B {w X w2 : World} {z v : Value} (hX : X.rangeAt w.heap.size 0 impV) (hXB : Below w.heap.size w X) (hlt : w.heap.size + 1 < X.heap.size) (hB : Below X.heap.size X w2) (hz : X.cell? ⟨w.heap.size + 1, 0, none⟩ = some z) :
    ShowAt w ((w2.setCell ⟨w.heap.size + 1, 0, none⟩ (.string { data := #[105, 109, 112, 111, 114, 116] })).setCell ⟨w.heap.size + 1, 1, none⟩ v) (w.heap.size + 1) := by
  have hs := hB.size
  have hc : w2.cell? ⟨w.heap.size + 1, 0, none⟩ = some z := (hB.cell (p := ⟨w.heap.size + 1, 0, none⟩) hlt).trans hz
  refine ⟨((hXB.trans (hB.mono (by omega))).setCell (p := ⟨w.heap.size + 1, 0, none⟩) (Nat.le_succ _) _).setCell (p := ⟨w.heap.size + 1, 1, none⟩) (Nat.le_succ _) _, fun j u hu => ?_, ?_, by simp; omega⟩
  · rw [World.cell?_setCell_other _ _ _ _ (by intro e; injection e with e; omega), World.cell?_setCell_other _ _ _ _ (by intro e; injection e with e; omega)]
    exact (hB.cell (p := ⟨w.heap.size, 0 + j, none⟩) (by show w.heap.size < _; omega)).trans (hX j u hu)
  · rw [World.cell?_setCell_other _ _ _ _ (by simp)]
    exact World.cell?_setCell_same _ _ _ hc
theorem cell_new1 (w : World) (o : Obj) (v0 v1 : Value) (t : TypeId) : ((w.alloc o).alloc (.cells #[v0, v1] t)).cell? ⟨w.heap.size + 1, 0, none⟩ = some v0 := by
  rw [Lib.cell_of_heap (heap_at (by simp))]
  rfl
theorem range_drewN {w : World} {b o n : Nat} {cs : List Value} (h : w.rangeAt b o cs) : (w.drewN n).rangeAt b o cs := h
theorem range_drew {w : World} {b o : Nat} {cs : List Value} (h : w.rangeAt b o cs) : w.drew.rangeAt b o cs := h
theorem own_two2 (w : World) (x y : Value) (o : Obj) {B : Nat} (hB : B ≤ w.heap.size) :
    ((w.alloc (.cells #[x, y] 9)).alloc o).ownsRow B 9 1 (.slice (some ⟨w.heap.size, 0, none⟩) 2 2) 2 [x, y] := by
  have h : (w.alloc (.cells #[x, y] 9)).ownsRow B 9 1 (.slice (some ⟨w.heap.size, 0, none⟩) 2 2) 2 [x, y] := World.ownsRow_lit w #[x, y] 2 hB (by decide) rfl
  exact own_upto h fun b hb => (below_alloc _ o).block b (own_blocks h b hb).2
theorem word_r : isWord { data := #[114] } = true := by
  have h : (ByteArray.toList { data := #[114] }).isEmpty = false := by
    rw [Bool.eq_false_iff, ne_eq, List.isEmpty_iff, size_nil]
    decide
  unfold isWord
  rw [h]
  decide
theorem set_same {w : World} {a : Addr} {u v : Value} (h : w.cell? a = some u) : (w.setCell a v).cell? a = some v := World.cell?_setCell_same _ _ _ h
theorem has_9 (w : World) : Calls Tryz.prog 41 #[.int .u8 9] w fun e w' => e = .returned (.tuple #[.bool false, .bool false, .bool false, .bool false, .bool true]) ∧ Below w.heap.size w w' := by
  refine (has_any 9 w).mono ?_
  rintro e w' ⟨rfl, h⟩
  exact ⟨rfl, h⟩
set_option maxHeartbeats 16000000 in
set_option maxRecDepth 1000000 in
theorem show_import (w : World) : Calls Tryz.prog 15 #[.agg #[.int .u8 9, .string { data := #[114] }, .string { data := #[] }, .string { data := #[] }, .string { data := #[] }, .int .u8 0, .string { data := #[] }, .string { data := #[] }, .int .i64 0, .slice none 0 0, .slice none 0 0, .int .u8 0, .slice none 0 0, .int .i64 0, .int .i64 0, .string { data := #[] }, .string { data := #[] }, .slice none 0 0, .slice none 0 0, .slice none 0 0]] w fun e w' => e = .returned (.string { data := #[105, 109, 112, 111, 114, 116, 32, 114, 32, 45] }) ∧ Below w.heap.size w w' := by
  have hB := below_alloc w (.cells impV.toArray 46)
  have HB := hide hB
  clear hB
  go_enter Tryz.func15, Tryz.ntmps15
  go_upto_region 1 with fail
  go_cut [3, 4] (fun p q wx => ∃ b : Nat, p = .pointer (some ⟨b, 0, none⟩) ∧ q = .bool true ∧ ShowAt w wx b)
  case first =>
    go_region_with (go_at_call 40; (with_reducible refine (ways_any _).mono ?_); rintro e2 w2 ⟨rfl, hT, hB⟩; have hc0 := hB.cell (p := ⟨w.heap.size, 0, none⟩) (by simp <;> omega); have hc1 := hB.cell (p := ⟨w.heap.size + 1, 0, none⟩); have hc2 := hB.cell (p := ⟨w.heap.size + 1, 1, none⟩); have hf1 := hB.frozen (p := ⟨w.heap.size + 1, 0, none⟩); have hf2 := hB.frozen (p := ⟨w.heap.size + 1, 1, none⟩); simp at hc1 hc2 hf1 hf2; have hlk := look9 hT; have hlk2 := (fun o => look9 (World.ownsMap.alloc hT o)); simp at hlk hlk2; have hlt2 : w.heap.size < w2.heap.size := (by have h := hB.size; simp at h; omega); have hne2 : ¬ w.heap.size = w2.heap.size := (by omega); have HT := hide hT; have HB2 := hide hB; clear hT hB)
    all_goals (try simp only [Act.put, List.getElem_toArray, List.getElem_cons_zero, List.getElem_cons_succ, List.setIfInBounds_toArray, List.set_cons_zero, List.set_cons_succ])
    all_goals go_wp2_with fail
    all_goals go_meet
    all_goals
      first
        | exact ⟨_, rfl, rfl, show_A (by first | exact new_range w impV _ | exact range_drew (new_range w impV _) | exact range_drewN (new_range w impV _)) (by first | exact HB.out | exact HB.out.drew | exact blw_drewN HB.out _) (by simp) HB2.out⟩
        | exact ⟨_, rfl, rfl, show_B (by first | exact World.rangeAt_alloc (new_range w impV _) _ | exact range_drew (World.rangeAt_alloc (new_range w impV _) _) | exact World.rangeAt_alloc (range_drew (new_range w impV _)) _) (by first | exact HB.out.alloc (by simp) _ | exact (HB.out.alloc (by simp) _).drew | exact HB.out.drew.alloc (by simp) _) (by simp) HB2.out (cell_new1 _ _ _ _ _)⟩
  case rest =>
  obtain ⟨b3, rfl, rfl, hA⟩ := hcut
  have HA := hide hA
  have k0 : wc.cell? ⟨w.heap.size, 0, none⟩ = some (.int .u8 9) := hA.box 0 _ rfl
  clear hA
  go_upto_region 3 with (go_at_call 41; (with_reducible refine (has_9 _).mono ?_); rintro e2 w2 ⟨rfl, hB2⟩; have HA2 := hide (HA.out.next hB2); clear hB2)
  have q1 : w2.cell? ⟨w.heap.size, 1, none⟩ = some (.string { data := #[114] }) := HA2.out.box 1 _ rfl
  have qb : w2.cell? ⟨b3, 0, none⟩ = some (.string { data := #[105, 109, 112, 111, 114, 116] }) := HA2.out.word
  have HA4 : Hid (ShowAt w ((w2.alloc (.cells #[.string { data := #[105, 109, 112, 111, 114, 116] }, .string { data := #[114] }] 9)).alloc (.cells #[.slice (some ⟨w2.heap.size, 0, none⟩) 2 2] 34)) b3) := hide ((HA2.out.next (below_alloc _ _)).next (below_alloc _ _))
  have HO4 : Hid (((w2.alloc (.cells #[.string { data := #[105, 109, 112, 111, 114, 116] }, .string { data := #[114] }] 9)).alloc (.cells #[.slice (some ⟨w2.heap.size, 0, none⟩) 2 2] 34)).ownsRow w.heap.size 9 1 (.slice (some ⟨w2.heap.size, 0, none⟩) 2 2) 2 [.string { data := #[105, 109, 112, 111, 114, 116] }, .string { data := #[114] }]) := hide (own_two2 _ _ _ _ (Nat.le_of_lt HA2.out.lt))
  have HP4 : Hid (((w2.alloc (.cells #[.string { data := #[105, 109, 112, 111, 114, 116] }, .string { data := #[114] }] 9)).alloc (.cells #[.slice (some ⟨w2.heap.size, 0, none⟩) 2 2] 34)).cell? ⟨w2.heap.size + 1, 0, none⟩ = some (.slice (some ⟨w2.heap.size, 0, none⟩) 2 2)) := hide (by rw [Lib.cell_of_heap (heap_at (by simp))]; rfl)
  have HF4 : Hid (((w2.alloc (.cells #[.string { data := #[105, 109, 112, 111, 114, 116] }, .string { data := #[114] }] 9)).alloc (.cells #[.slice (some ⟨w2.heap.size, 0, none⟩) 2 2] 34)).frozen? ⟨w2.heap.size + 1, 0, none⟩ = false) := hide (by unfold World.frozen?; rw [heap_at (by simp)]; rfl)
  have HZ4 : Hid (((w2.alloc (.cells #[.string { data := #[105, 109, 112, 111, 114, 116] }, .string { data := #[114] }] 9)).alloc (.cells #[.slice (some ⟨w2.heap.size, 0, none⟩) 2 2] 34)).heap.size = w2.heap.size + 1 + 1) := hide (by simp)
  have hz2 := HA2.out.lt
  go_upto_region 4 with fail
  generalize (w2.alloc (.cells #[.string { data := #[105, 109, 112, 111, 114, 116] }, .string { data := #[114] }] 9)).alloc (.cells #[.slice (some ⟨w2.heap.size, 0, none⟩) 2 2] 34) = W4 at HA4 HO4 HP4 HF4 HZ4 ⊢
  clear k0 q1 qb HA HA2
  have k1 : W4.cell? ⟨w.heap.size, 1, none⟩ = some (.string { data := #[114] }) := HA4.out.box 1 _ rfl
  have k2 : W4.cell? ⟨w.heap.size, 2, none⟩ = some (.string { data := #[] }) := HA4.out.box 2 _ rfl
  have k3 : W4.cell? ⟨w.heap.size, 3, none⟩ = some (.string { data := #[] }) := HA4.out.box 3 _ rfl
  have k4 : W4.cell? ⟨w.heap.size, 4, none⟩ = some (.string { data := #[] }) := HA4.out.box 4 _ rfl
  have k5 : W4.cell? ⟨w.heap.size, 5, none⟩ = some (.int .u8 0) := HA4.out.box 5 _ rfl
  have k6 : W4.cell? ⟨w.heap.size, 6, none⟩ = some (.string { data := #[] }) := HA4.out.box 6 _ rfl
  have k7 : W4.cell? ⟨w.heap.size, 7, none⟩ = some (.string { data := #[] }) := HA4.out.box 7 _ rfl
  have k8 : W4.cell? ⟨w.heap.size, 8, none⟩ = some (.int .i64 0) := HA4.out.box 8 _ rfl
  have k9 : W4.cell? ⟨w.heap.size, 9, none⟩ = some (.slice none 0 0) := HA4.out.box 9 _ rfl
  have k10 : W4.cell? ⟨w.heap.size, 10, none⟩ = some (.slice none 0 0) := HA4.out.box 10 _ rfl
  have k11 : W4.cell? ⟨w.heap.size, 11, none⟩ = some (.int .u8 0) := HA4.out.box 11 _ rfl
  have k12 : W4.cell? ⟨w.heap.size, 12, none⟩ = some (.slice none 0 0) := HA4.out.box 12 _ rfl
  have k13 : W4.cell? ⟨w.heap.size, 13, none⟩ = some (.int .i64 0) := HA4.out.box 13 _ rfl
  have k14 : W4.cell? ⟨w.heap.size, 14, none⟩ = some (.int .i64 0) := HA4.out.box 14 _ rfl
  have k15 : W4.cell? ⟨w.heap.size, 15, none⟩ = some (.string { data := #[] }) := HA4.out.box 15 _ rfl
  have k16 : W4.cell? ⟨w.heap.size, 16, none⟩ = some (.string { data := #[] }) := HA4.out.box 16 _ rfl
  have k17 : W4.cell? ⟨w.heap.size, 17, none⟩ = some (.slice none 0 0) := HA4.out.box 17 _ rfl
  have k18 : W4.cell? ⟨w.heap.size, 18, none⟩ = some (.slice none 0 0) := HA4.out.box 18 _ rfl
  have k19 : W4.cell? ⟨w.heap.size, 19, none⟩ = some (.slice none 0 0) := HA4.out.box 19 _ rfl
  go_upto_region 5 with (first
    | (go_at_call 42; (with_reducible refine (word_any _ _).mono ?_); rintro e3 w3 ⟨rfl, rfl⟩; rw [word_r])
    | (go_at_call 43; (with_reducible refine (bare_zero _).mono ?_); rintro e5 w5 ⟨rfl, hB5⟩; have HB5 := hide hB5; have HA5 := hide (HA4.out.next hB5); have n19 : w5.cell? ⟨w.heap.size, 19, none⟩ = some (.slice none 0 0) := HA5.out.box 19 _ rfl; clear hB5))
  have hmf : ∀ (fn : Fn) (first cap : Array Value) (w : World), (Instr.makeFunc fn first cap).run Tryz.prog w = .ok (.func fn first cap) w := fun _ _ _ _ => rfl
  have hz3 : w2.heap.size + 1 < w3.heap.size := by have := HZ4.out; omega
  have hz5 := HB5.out.size
  have HA6 : Hid (ShowAt w (w5.alloc (.cells #[.bool true] 4)) b3) := hide (HA5.out.next (below_alloc _ _))
  have HBW : Below w3.heap.size w3 (w5.alloc (.cells #[.bool true] 4)) := HB5.out.trans ((below_alloc _ _).mono HB5.out.size)
  have HO6 : Hid ((w5.alloc (.cells #[.bool true] 4)).ownsRow w.heap.size 9 1 (.slice (some ⟨w2.heap.size, 0, none⟩) 2 2) 2 [.string { data := #[105, 109, 112, 111, 114, 116] }, .string { data := #[114] }]) := hide (own_upto HO4.out fun b hb => HBW.block b (own_blocks HO4.out b hb).2)
  have p6 : (w5.alloc (.cells #[.bool true] 4)).cell? ⟨w2.heap.size + 1, 0, none⟩ = some (.slice (some ⟨w2.heap.size, 0, none⟩) 2 2) := (HBW.cell (p := ⟨w2.heap.size + 1, 0, none⟩) hz3).trans HP4.out
  have pf6 : (w5.alloc (.cells #[.bool true] 4)).frozen? ⟨w2.heap.size + 1, 0, none⟩ = false := (HBW.frozen (p := ⟨w2.heap.size + 1, 0, none⟩) hz3).trans HF4.out
  have r6 : (w5.alloc (.cells #[.bool true] 4)).cell? ⟨w5.heap.size, 0, none⟩ = some (.bool true) := by rw [Lib.cell_of_heap (heap_alloc_new w5 _)]; rfl
  have rf6 : (w5.alloc (.cells #[.bool true] 4)).frozen? ⟨w5.heap.size, 0, none⟩ = false := by unfold World.frozen?; rw [heap_alloc_new]; rfl
  have hz6 : (w5.alloc (.cells #[.bool true] 4)).heap.size = w5.heap.size + 1 := by simp
  have HZ6 := hide hz6
  clear n19 HBW hz6 k1 k2 k3 k4 k5 k6 k7 k8 k9 k10 k11 k12 k13 k14 k15 k16 k17 k18 k19
  generalize w5.alloc (.cells #[.bool true] 4) = W6 at HA6 HO6 p6 pf6 r6 rf6 HZ6 ⊢
  have j2 : W6.cell? ⟨w.heap.size, 2, none⟩ = some (.string { data := #[] }) := HA6.out.box 2 _ rfl
  have j3 : W6.cell? ⟨w.heap.size, 3, none⟩ = some (.string { data := #[] }) := HA6.out.box 3 _ rfl
  have j4 : W6.cell? ⟨w.heap.size, 4, none⟩ = some (.string { data := #[] }) := HA6.out.box 4 _ rfl
  have j19 : W6.cell? ⟨w.heap.size, 19, none⟩ = some (.slice none 0 0) := HA6.out.box 19 _ rfl
  have hne1 : ¬ w.heap.size = w5.heap.size := by have := HA4.out.lt; omega
  have hne2 : ¬ w2.heap.size + 1 = w5.heap.size := by omega
  obtain ⟨R, hR⟩ : ∃ R, R = w5.heap.size := ⟨_, rfl⟩
  rw [← hR] at r6 rf6 hne1 hne2 ⊢
  have HR := hide hR
  clear hR
  go_upto_region 14 with (go_at_call 44; (with_reducible refine (put_no (by first | exact r6 | exact set_same r6 | exact set_same (set_same r6)) (by first | exact rf6 | exact (World.frozen?_setCell _ _ _ _).trans rf6 | exact (World.frozen?_setCell _ _ _ _).trans ((World.frozen?_setCell _ _ _ _).trans rf6))).mono ?_); rintro e7 w7 ⟨rfl, hw7⟩; rw [show (true && decide ((ByteArray.mk #[]).size = 0)) = true from rfl] at hw7; rw [hw7]; clear hw7)
  have hA7 : Below w.heap.size w (((W6.setCell ⟨R, 0, none⟩ (.bool true)).setCell ⟨R, 0, none⟩ (.bool true)).setCell ⟨R, 0, none⟩ (.bool true)) := ((HA6.out.below.setCell (p := ⟨R, 0, none⟩) (by show w.heap.size ≤ R; have := HR.out; omega) _).setCell (p := ⟨R, 0, none⟩) (by show w.heap.size ≤ R; have := HR.out; omega) _).setCell (p := ⟨R, 0, none⟩) (by show w.heap.size ≤ R; have := HR.out; omega) _
  have HB7 := hide hA7
  have hne : ∀ (o : Nat) (X : World) (v : Value), X.cell? ⟨w.heap.size, o, none⟩ = some v → (X.setCell ⟨R, 0, none⟩ (.bool true)).cell? ⟨w.heap.size, o, none⟩ = some v := fun o X v h => cell_set_ne h (by intro e; injection e with e; omega)
  have hne3 : ∀ (X : World) (v : Value), X.cell? ⟨w2.heap.size + 1, 0, none⟩ = some v → (X.setCell ⟨R, 0, none⟩ (.bool true)).cell? ⟨w2.heap.size + 1, 0, none⟩ = some v := fun X v h => cell_set_ne h (by intro e; injection e with e; omega)
  have j7 := hne _ _ _ (hne _ _ _ (hne _ _ _ j19))
  have p7 := hne3 _ _ (hne3 _ _ (hne3 _ _ p6))
  have r7 : (((W6.setCell ⟨R, 0, none⟩ (.bool true)).setCell ⟨R, 0, none⟩ (.bool true)).setCell ⟨R, 0, none⟩ (.bool true)).cell? ⟨R, 0, none⟩ = some (.bool true) := set_same (set_same (set_same r6))
  have pf7 : (((W6.setCell ⟨R, 0, none⟩ (.bool true)).setCell ⟨R, 0, none⟩ (.bool true)).setCell ⟨R, 0, none⟩ (.bool true)).frozen? ⟨w2.heap.size + 1, 0, none⟩ = false := by rw [World.frozen?_setCell, World.frozen?_setCell, World.frozen?_setCell]; exact pf6
  have hO7 : (((W6.setCell ⟨R, 0, none⟩ (.bool true)).setCell ⟨R, 0, none⟩ (.bool true)).setCell ⟨R, 0, none⟩ (.bool true)).ownsRow w.heap.size 9 1 (.slice (some ⟨w2.heap.size, 0, none⟩) 2 2) 2 [.string { data := #[105, 109, 112, 111, 114, 116] }, .string { data := #[114] }] := own_upto HO6.out fun b hb => by
    have hb : b = w2.heap.size := by simp [ob, Value.ownBlock] at hb; omega
    have := HR.out
    rw [Below.heap_setCell _ _ _ _ (by show b ≠ R; omega), Below.heap_setCell _ _ _ _ (by show b ≠ R; omega), Below.heap_setCell _ _ _ _ (by show b ≠ R; omega)]
  have hz7 : (((W6.setCell ⟨R, 0, none⟩ (.bool true)).setCell ⟨R, 0, none⟩ (.bool true)).setCell ⟨R, 0, none⟩ (.bool true)).heap.size = R + 1 := by have h1 := HZ6.out; have h2 := HR.out; simp; omega
  have hRw : w2.heap.size + 1 < R := by have := HR.out; omega
  clear hne hne3 j2 j3 j4 j19 p6 pf6 r6 rf6 hA7 hne1 hne2 hz3 hz5
  generalize ((W6.setCell ⟨R, 0, none⟩ (.bool true)).setCell ⟨R, 0, none⟩ (.bool true)).setCell ⟨R, 0, none⟩ (.bool true) = W7 at HB7 j7 p7 r7 pf7 hO7 hz7 ⊢
  have hS7 : ShowS W7 w2.heap.size W7.drew := (Keep.refl _ W7).drew
  have hO0 : W7.drew.ownsRow w.heap.size 9 1 (.slice (some ⟨w2.heap.size, 0, none⟩) 2 2) 2 [.string { data := #[105, 109, 112, 111, 114, 116] }, .string { data := #[114] }] := hO7
  have hP0 : W7.drew.cell? ⟨w2.heap.size + 1, 0, none⟩ = some (.slice (some ⟨w2.heap.size, 0, none⟩) 2 2) := p7
  have hPf0 : W7.drew.frozen? ⟨w2.heap.size + 1, 0, none⟩ = false := pf7
  refine wp_region_held_drew (S := ShowS W7 w2.heap.size) (by kernel_rfl) hS7 (fun hS0 => ?_)
  generalize W7.drew = wD at hS0 hO0 hP0 hPf0 ⊢
  clear hS7 hO7 p7 pf7
  refine tk (v := ?_) 1 hS0 ?_ ?_
  rotate_left
  · intro w' hSw
    first | (go_simp; done) | (go_simp; with_reducible rfl)
  try simp only [List.set_cons_zero, List.set_cons_succ]
  refine tk (v := ?_) 2 hS0 ?_ ?_
  rotate_left
  · intro w' hSw
    have hc' := (Keep.cell hSw (a := ⟨w.heap.size, 19, none⟩) ⟨by show w.heap.size < _; omega, by show ¬ w.heap.size = _; omega, by show ¬ w.heap.size = _; omega⟩).trans j7
    first | (go_simp; done) | (go_simp; with_reducible rfl)
  try simp only [List.set_cons_zero, List.set_cons_succ]
  refine wpAnyH_ready (rs := [0, 3]) (by kernel_rfl) (by simp) ?_
  refine AllReadyH.cons rfl (fun K hK => ?_) ?_
  · go_simp
    go_wp2_with fail
    refine hK.out _ _ hS0 (fun hHeld1 => ?_)
    clear hK K
    try simp only [Act.put, List.getElem_toArray, List.getElem_cons_zero, List.getElem_cons_succ, List.setIfInBounds_toArray, List.set_cons_zero, List.set_cons_succ]
    refine wpAnyH_ready (rs := [3]) (by kernel_rfl) (by simp) ?_
    refine AllReadyH.cons rfl (fun K hK => ?_) AllReadyH.nil
    go_simp
    go_wp2_with (go_at_call 46; (with_reducible refine (spelled_nil _).mono ?_); rintro e2 v2 ⟨rfl, hB2⟩)
    have hS2 := show_S hS0 hB2
    have hO2 := own_upto hO0 fun b hb => hB2.block b (own_blocks hO0 b hb).2
    have hP2 : v2.cell? ⟨w2.heap.size + 1, 0, none⟩ = some (.slice (some ⟨w2.heap.size, 0, none⟩) 2 2) := (hB2.cell (p := ⟨w2.heap.size + 1, 0, none⟩) (block_lt_of_cell hP0)).trans hP0
    have hPf2 : v2.frozen? ⟨w2.heap.size + 1, 0, none⟩ = false := (hB2.frozen (p := ⟨w2.heap.size + 1, 0, none⟩) (block_lt_of_cell hP0)).trans hPf0
    refine hK.out _ _ hS2 (fun hHeld2 => ?_)
    clear hK K
    try simp only [Act.put, List.getElem_toArray, List.getElem_cons_zero, List.getElem_cons_succ, List.setIfInBounds_toArray, List.set_cons_zero, List.set_cons_succ]
    refine wpAnyH_ready (rs := [4]) (by kernel_rfl) (by simp) ?_
    refine AllReadyH.cons rfl (fun K hK => ?_) AllReadyH.nil
    go_simp
    go_wp2_with fail
    have hB3 := below_alloc v2 (.cells #[.string { data := #[45] }] 9)
    have hS3 := show_S hS2 hB3
    have hO3 := own_upto hO2 fun b hb => hB3.block b (own_blocks hO2 b hb).2
    have hP3 : (v2.alloc (.cells #[.string { data := #[45] }] 9)).cell? ⟨w2.heap.size + 1, 0, none⟩ = some (.slice (some ⟨w2.heap.size, 0, none⟩) 2 2) := (hB3.cell (p := ⟨w2.heap.size + 1, 0, none⟩) (block_lt_of_cell hP2)).trans hP2
    have hPf3 : (v2.alloc (.cells #[.string { data := #[45] }] 9)).frozen? ⟨w2.heap.size + 1, 0, none⟩ = false := (hB3.frozen (p := ⟨w2.heap.size + 1, 0, none⟩) (block_lt_of_cell hP2)).trans hPf2
    refine hK.out _ _ hS3 (fun hHeld3 => ?_)
    clear hK K
    try simp only [Act.put, List.getElem_toArray, List.getElem_cons_zero, List.getElem_cons_succ, List.setIfInBounds_toArray, List.set_cons_zero, List.set_cons_succ]
    refine wpAnyH_ready (rs := [5]) (by kernel_rfl) (by simp) ?_
    refine AllReadyH.cons rfl (fun K hK => ?_) AllReadyH.nil
    obtain ⟨v', w9, hrun, hO4, hg4, hw9⟩ := row_step2 (q := w2.heap.size + 1) (P := Tryz.prog) (T := 34) (us := [.string { data := #[45] }]) (B := some ⟨v2.heap.size, 0, none⟩) (m := 1) (cB := 1) Tryz.underlying34 InfoStrS rfl (by decide) hO3 (fun e => by cases e) rfl (by intro u hu; simp at hu; subst hu; rfl) (fun ad e => by injection e with e; subst e; intro j u hu; rw [Addr.add_lit, Nat.zero_add, Lib.cell_of_heap (heap_alloc_new v2 _)]; simpa using hu) (Nat.le_trans (by omega) (Keep.size hS3)) (by decide) (by decide) (by intro g hg; simp [ob, Value.ownBlock] at hg; omega) (block_lt_of_cell hP3) 34
    refine step_append_ran (v1 := .slice (some ⟨w2.heap.size, 0, none⟩) 2 2) (v2 := .slice (some ⟨v2.heap.size, 0, none⟩) 1 1) rfl _ _ _ rfl (by rfl) (by rfl) hrun ?_
    have hS4 := show_Sg hS3 hg4
    have hP4 : ∃ z, w9.cell? ⟨w2.heap.size + 1, 0, none⟩ = some z := ⟨_, (World.cell?_of_block (a := ⟨w2.heap.size + 1, 0, none⟩) (hg4.block (w2.heap.size + 1) (block_lt_of_cell hP3) (by intro e; injection e with e; exact Nat.succ_ne_self w2.heap.size e))).trans hP3⟩
    have hPf4 : w9.frozen? ⟨w2.heap.size + 1, 0, none⟩ = false := (World.frozen?_of_block (a := ⟨w2.heap.size + 1, 0, none⟩) (hg4.block (w2.heap.size + 1) (block_lt_of_cell hP3) (by intro e; injection e with e; exact Nat.succ_ne_self w2.heap.size e))).trans hPf3
    have hO4 : w9.ownsRow w.heap.size 9 1 v' 3 [.string { data := #[105, 109, 112, 111, 114, 116] }, .string { data := #[114] }, .string { data := #[45] }] := hO4
    obtain ⟨A9, c9, rfl⟩ := own_shape hO4
    have hne9 : ∀ b ∈ ob (.slice A9 3 c9), b ≠ w2.heap.size + 1 := fun b hb => hw9 b hb
    refine hK.out _ _ hS4 (fun hHeld4 => ?_)
    clear hK K
    try simp only [Act.put, List.getElem_toArray, List.getElem_cons_zero, List.getElem_cons_succ, List.setIfInBounds_toArray, List.set_cons_zero, List.set_cons_succ]
    refine wpAnyH_ready (rs := [6]) (by kernel_rfl) (by simp) ?_
    refine AllReadyH.cons rfl (fun K hK => ?_) AllReadyH.nil
    obtain ⟨z5, hz5⟩ := hP4
    go_simp
    go_wp2_with fail
    have hS5 := show_Ss hS4 (.slice A9 3 c9)
    have hO5 := own_upto hO4 (w' := w9.setCell ⟨w2.heap.size + 1, 0, none⟩ (.slice A9 3 c9)) fun b hb => Below.heap_setCell _ _ _ _ (hne9 b hb)
    have hP5 := set_same (v := .slice A9 3 c9) hz5
    refine hK.out _ _ hS5 (fun hHeld5 => ?_)
    clear hK K
    try simp only [Act.put, List.getElem_toArray, List.getElem_cons_zero, List.getElem_cons_succ, List.setIfInBounds_toArray, List.set_cons_zero, List.set_cons_succ]
    refine wpAnyH_done (by kernel_rfl) ?_ _
    try simp only [Act.put, List.getElem_toArray, List.getElem_cons_zero, List.getElem_cons_succ, List.setIfInBounds_toArray, List.set_cons_zero, List.set_cons_succ]
    have hr6 := (Keep.cell hS5 (a := ⟨R, 0, none⟩) ⟨by show R < _; omega, by show ¬ R = _; omega, by show ¬ R = _; omega⟩).trans r7
    have hz6 := Keep.size hS5
    have hb6 : Below w.heap.size w (w9.setCell ⟨w2.heap.size + 1, 0, none⟩ (.slice A9 3 c9)) := HB7.out.trans (Keep.below (Keep.mono hS5 fun k hk => ⟨by omega, by omega, by omega⟩))
    have HJ := hide (joined_imp hO5)
    have HX6 := hide hb6
    generalize w9.setCell ⟨w2.heap.size + 1, 0, none⟩ (.slice A9 3 c9) = wZ at hP5 hr6 HJ HX6 hz6 ⊢
    clear hO5
    go_wp2_with (go_at_call 47; (with_reducible refine HJ.out.mono ?_); rintro e6 x6 ⟨rfl, hB6⟩; have HY6 := hide hB6; clear hB6)
    go_ret
    exact ⟨rfl, HX6.out.trans (HY6.out.mono (Nat.le_trans (by omega) hz6))⟩
  refine AllReadyH.cons rfl (fun K hK => ?_) AllReadyH.nil
  · go_simp
    go_wp2_with (go_at_call 46; (with_reducible refine (spelled_nil _).mono ?_); rintro e7 v7 ⟨rfl, hB7⟩)
    have hS7 := show_S hS0 hB7
    have hO7 := own_upto hO0 fun b hb => hB7.block b (own_blocks hO0 b hb).2
    have hP7 : v7.cell? ⟨w2.heap.size + 1, 0, none⟩ = some (.slice (some ⟨w2.heap.size, 0, none⟩) 2 2) := (hB7.cell (p := ⟨w2.heap.size + 1, 0, none⟩) (block_lt_of_cell hP0)).trans hP0
    have hPf7 : v7.frozen? ⟨w2.heap.size + 1, 0, none⟩ = false := (hB7.frozen (p := ⟨w2.heap.size + 1, 0, none⟩) (block_lt_of_cell hP0)).trans hPf0
    refine hK.out _ _ hS7 (fun hHeld7 => ?_)
    clear hK K
    try simp only [Act.put, List.getElem_toArray, List.getElem_cons_zero, List.getElem_cons_succ, List.setIfInBounds_toArray, List.set_cons_zero, List.set_cons_succ]
    refine wpAnyH_ready (rs := [0, 4]) (by kernel_rfl) (by simp) ?_
    refine AllReadyH.cons rfl (fun K hK => ?_) ?_
    · go_simp
      go_wp2_with fail
      refine hK.out _ _ hS7 (fun hHeld8 => ?_)
      clear hK K
      try simp only [Act.put, List.getElem_toArray, List.getElem_cons_zero, List.getElem_cons_succ, List.setIfInBounds_toArray, List.set_cons_zero, List.set_cons_succ]
      refine wpAnyH_ready (rs := [4]) (by kernel_rfl) (by simp) ?_
      refine AllReadyH.cons rfl (fun K hK => ?_) AllReadyH.nil
      go_simp
      go_wp2_with fail
      have hB9 := below_alloc v7 (.cells #[.string { data := #[45] }] 9)
      have hS9 := show_S hS7 hB9
      have hO9 := own_upto hO7 fun b hb => hB9.block b (own_blocks hO7 b hb).2
      have hP9 : (v7.alloc (.cells #[.string { data := #[45] }] 9)).cell? ⟨w2.heap.size + 1, 0, none⟩ = some (.slice (some ⟨w2.heap.size, 0, none⟩) 2 2) := (hB9.cell (p := ⟨w2.heap.size + 1, 0, none⟩) (block_lt_of_cell hP7)).trans hP7
      have hPf9 : (v7.alloc (.cells #[.string { data := #[45] }] 9)).frozen? ⟨w2.heap.size + 1, 0, none⟩ = false := (hB9.frozen (p := ⟨w2.heap.size + 1, 0, none⟩) (block_lt_of_cell hP7)).trans hPf7
      refine hK.out _ _ hS9 (fun hHeld9 => ?_)
      clear hK K
      try simp only [Act.put, List.getElem_toArray, List.getElem_cons_zero, List.getElem_cons_succ, List.setIfInBounds_toArray, List.set_cons_zero, List.set_cons_succ]
      refine wpAnyH_ready (rs := [5]) (by kernel_rfl) (by simp) ?_
      refine AllReadyH.cons rfl (fun K hK => ?_) AllReadyH.nil
      obtain ⟨v', w9, hrun, hO10, hg10, hw9⟩ := row_step2 (q := w2.heap.size + 1) (P := Tryz.prog) (T := 34) (us := [.string { data := #[45] }]) (B := some ⟨v7.heap.size, 0, none⟩) (m := 1) (cB := 1) Tryz.underlying34 InfoStrS rfl (by decide) hO9 (fun e => by cases e) rfl (by intro u hu; simp at hu; subst hu; rfl) (fun ad e => by injection e with e; subst e; intro j u hu; rw [Addr.add_lit, Nat.zero_add, Lib.cell_of_heap (heap_alloc_new v7 _)]; simpa using hu) (Nat.le_trans (by omega) (Keep.size hS9)) (by decide) (by decide) (by intro g hg; simp [ob, Value.ownBlock] at hg; omega) (block_lt_of_cell hP9) 34
      refine step_append_ran (v1 := .slice (some ⟨w2.heap.size, 0, none⟩) 2 2) (v2 := .slice (some ⟨v7.heap.size, 0, none⟩) 1 1) rfl _ _ _ rfl (by rfl) (by rfl) hrun ?_
      have hS10 := show_Sg hS9 hg10
      have hP10 : ∃ z, w9.cell? ⟨w2.heap.size + 1, 0, none⟩ = some z := ⟨_, (World.cell?_of_block (a := ⟨w2.heap.size + 1, 0, none⟩) (hg10.block (w2.heap.size + 1) (block_lt_of_cell hP9) (by intro e; injection e with e; exact Nat.succ_ne_self w2.heap.size e))).trans hP9⟩
      have hPf10 : w9.frozen? ⟨w2.heap.size + 1, 0, none⟩ = false := (World.frozen?_of_block (a := ⟨w2.heap.size + 1, 0, none⟩) (hg10.block (w2.heap.size + 1) (block_lt_of_cell hP9) (by intro e; injection e with e; exact Nat.succ_ne_self w2.heap.size e))).trans hPf9
      have hO10 : w9.ownsRow w.heap.size 9 1 v' 3 [.string { data := #[105, 109, 112, 111, 114, 116] }, .string { data := #[114] }, .string { data := #[45] }] := hO10
      obtain ⟨A9, c9, rfl⟩ := own_shape hO10
      have hne9 : ∀ b ∈ ob (.slice A9 3 c9), b ≠ w2.heap.size + 1 := fun b hb => hw9 b hb
      refine hK.out _ _ hS10 (fun hHeld10 => ?_)
      clear hK K
      try simp only [Act.put, List.getElem_toArray, List.getElem_cons_zero, List.getElem_cons_succ, List.setIfInBounds_toArray, List.set_cons_zero, List.set_cons_succ]
      refine wpAnyH_ready (rs := [6]) (by kernel_rfl) (by simp) ?_
      refine AllReadyH.cons rfl (fun K hK => ?_) AllReadyH.nil
      obtain ⟨z11, hz11⟩ := hP10
      go_simp
      go_wp2_with fail
      have hS11 := show_Ss hS10 (.slice A9 3 c9)
      have hO11 := own_upto hO10 (w' := w9.setCell ⟨w2.heap.size + 1, 0, none⟩ (.slice A9 3 c9)) fun b hb => Below.heap_setCell _ _ _ _ (hne9 b hb)
      have hP11 := set_same (v := .slice A9 3 c9) hz11
      refine hK.out _ _ hS11 (fun hHeld11 => ?_)
      clear hK K
      try simp only [Act.put, List.getElem_toArray, List.getElem_cons_zero, List.getElem_cons_succ, List.setIfInBounds_toArray, List.set_cons_zero, List.set_cons_succ]
      refine wpAnyH_done (by kernel_rfl) ?_ _
      try simp only [Act.put, List.getElem_toArray, List.getElem_cons_zero, List.getElem_cons_succ, List.setIfInBounds_toArray, List.set_cons_zero, List.set_cons_succ]
      have hr12 := (Keep.cell hS11 (a := ⟨R, 0, none⟩) ⟨by show R < _; omega, by show ¬ R = _; omega, by show ¬ R = _; omega⟩).trans r7
      have hz12 := Keep.size hS11
      have hb12 : Below w.heap.size w (w9.setCell ⟨w2.heap.size + 1, 0, none⟩ (.slice A9 3 c9)) := HB7.out.trans (Keep.below (Keep.mono hS11 fun k hk => ⟨by omega, by omega, by omega⟩))
      have HJ := hide (joined_imp hO11)
      have HX12 := hide hb12
      generalize w9.setCell ⟨w2.heap.size + 1, 0, none⟩ (.slice A9 3 c9) = wZ at hP11 hr12 HJ HX12 hz12 ⊢
      clear hO11
      go_wp2_with (go_at_call 47; (with_reducible refine HJ.out.mono ?_); rintro e12 x12 ⟨rfl, hB12⟩; have HY12 := hide hB12; clear hB12)
      go_ret
      exact ⟨rfl, HX12.out.trans (HY12.out.mono (Nat.le_trans (by omega) hz12))⟩
    refine AllReadyH.cons rfl (fun K hK => ?_) AllReadyH.nil
    · go_simp
      go_wp2_with fail
      have hB13 := below_alloc v7 (.cells #[.string { data := #[45] }] 9)
      have hS13 := show_S hS7 hB13
      have hO13 := own_upto hO7 fun b hb => hB13.block b (own_blocks hO7 b hb).2
      have hP13 : (v7.alloc (.cells #[.string { data := #[45] }] 9)).cell? ⟨w2.heap.size + 1, 0, none⟩ = some (.slice (some ⟨w2.heap.size, 0, none⟩) 2 2) := (hB13.cell (p := ⟨w2.heap.size + 1, 0, none⟩) (block_lt_of_cell hP7)).trans hP7
      have hPf13 : (v7.alloc (.cells #[.string { data := #[45] }] 9)).frozen? ⟨w2.heap.size + 1, 0, none⟩ = false := (hB13.frozen (p := ⟨w2.heap.size + 1, 0, none⟩) (block_lt_of_cell hP7)).trans hPf7
      refine hK.out _ _ hS13 (fun hHeld13 => ?_)
      clear hK K
      try simp only [Act.put, List.getElem_toArray, List.getElem_cons_zero, List.getElem_cons_succ, List.setIfInBounds_toArray, List.set_cons_zero, List.set_cons_succ]
      refine wpAnyH_ready (rs := [0]) (by kernel_rfl) (by simp) ?_
      refine AllReadyH.cons rfl (fun K hK => ?_) AllReadyH.nil
      go_simp
      go_wp2_with fail
      refine hK.out _ _ hS13 (fun hHeld14 => ?_)
      clear hK K
      try simp only [Act.put, List.getElem_toArray, List.getElem_cons_zero, List.getElem_cons_succ, List.setIfInBounds_toArray, List.set_cons_zero, List.set_cons_succ]
      refine wpAnyH_ready (rs := [5]) (by kernel_rfl) (by simp) ?_
      refine AllReadyH.cons rfl (fun K hK => ?_) AllReadyH.nil
      obtain ⟨v', w9, hrun, hO15, hg15, hw9⟩ := row_step2 (q := w2.heap.size + 1) (P := Tryz.prog) (T := 34) (us := [.string { data := #[45] }]) (B := some ⟨v7.heap.size, 0, none⟩) (m := 1) (cB := 1) Tryz.underlying34 InfoStrS rfl (by decide) hO13 (fun e => by cases e) rfl (by intro u hu; simp at hu; subst hu; rfl) (fun ad e => by injection e with e; subst e; intro j u hu; rw [Addr.add_lit, Nat.zero_add, Lib.cell_of_heap (heap_alloc_new v7 _)]; simpa using hu) (Nat.le_trans (by omega) (Keep.size hS13)) (by decide) (by decide) (by intro g hg; simp [ob, Value.ownBlock] at hg; omega) (block_lt_of_cell hP13) 34
      refine step_append_ran (v1 := .slice (some ⟨w2.heap.size, 0, none⟩) 2 2) (v2 := .slice (some ⟨v7.heap.size, 0, none⟩) 1 1) rfl _ _ _ rfl (by rfl) (by rfl) hrun ?_
      have hS15 := show_Sg hS13 hg15
      have hP15 : ∃ z, w9.cell? ⟨w2.heap.size + 1, 0, none⟩ = some z := ⟨_, (World.cell?_of_block (a := ⟨w2.heap.size + 1, 0, none⟩) (hg15.block (w2.heap.size + 1) (block_lt_of_cell hP13) (by intro e; injection e with e; exact Nat.succ_ne_self w2.heap.size e))).trans hP13⟩
      have hPf15 : w9.frozen? ⟨w2.heap.size + 1, 0, none⟩ = false := (World.frozen?_of_block (a := ⟨w2.heap.size + 1, 0, none⟩) (hg15.block (w2.heap.size + 1) (block_lt_of_cell hP13) (by intro e; injection e with e; exact Nat.succ_ne_self w2.heap.size e))).trans hPf13
      have hO15 : w9.ownsRow w.heap.size 9 1 v' 3 [.string { data := #[105, 109, 112, 111, 114, 116] }, .string { data := #[114] }, .string { data := #[45] }] := hO15
      obtain ⟨A9, c9, rfl⟩ := own_shape hO15
      have hne9 : ∀ b ∈ ob (.slice A9 3 c9), b ≠ w2.heap.size + 1 := fun b hb => hw9 b hb
      refine hK.out _ _ hS15 (fun hHeld15 => ?_)
      clear hK K
      try simp only [Act.put, List.getElem_toArray, List.getElem_cons_zero, List.getElem_cons_succ, List.setIfInBounds_toArray, List.set_cons_zero, List.set_cons_succ]
      refine wpAnyH_ready (rs := [6]) (by kernel_rfl) (by simp) ?_
      refine AllReadyH.cons rfl (fun K hK => ?_) AllReadyH.nil
      obtain ⟨z16, hz16⟩ := hP15
      go_simp
      go_wp2_with fail
      have hS16 := show_Ss hS15 (.slice A9 3 c9)
      have hO16 := own_upto hO15 (w' := w9.setCell ⟨w2.heap.size + 1, 0, none⟩ (.slice A9 3 c9)) fun b hb => Below.heap_setCell _ _ _ _ (hne9 b hb)
      have hP16 := set_same (v := .slice A9 3 c9) hz16
      refine hK.out _ _ hS16 (fun hHeld16 => ?_)
      clear hK K
      try simp only [Act.put, List.getElem_toArray, List.getElem_cons_zero, List.getElem_cons_succ, List.setIfInBounds_toArray, List.set_cons_zero, List.set_cons_succ]
      refine wpAnyH_done (by kernel_rfl) ?_ _
      try simp only [Act.put, List.getElem_toArray, List.getElem_cons_zero, List.getElem_cons_succ, List.setIfInBounds_toArray, List.set_cons_zero, List.set_cons_succ]
      have hr17 := (Keep.cell hS16 (a := ⟨R, 0, none⟩) ⟨by show R < _; omega, by show ¬ R = _; omega, by show ¬ R = _; omega⟩).trans r7
      have hz17 := Keep.size hS16
      have hb17 : Below w.heap.size w (w9.setCell ⟨w2.heap.size + 1, 0, none⟩ (.slice A9 3 c9)) := HB7.out.trans (Keep.below (Keep.mono hS16 fun k hk => ⟨by omega, by omega, by omega⟩))
      have HJ := hide (joined_imp hO16)
      have HX17 := hide hb17
      generalize w9.setCell ⟨w2.heap.size + 1, 0, none⟩ (.slice A9 3 c9) = wZ at hP16 hr17 HJ HX17 hz17 ⊢
      clear hO16
      go_wp2_with (go_at_call 47; (with_reducible refine HJ.out.mono ?_); rintro e17 x17 ⟨rfl, hB17⟩; have HY17 := hide hB17; clear hB17)
      go_ret
      exact ⟨rfl, HX17.out.trans (HY17.out.mono (Nat.le_trans (by omega) hz17))⟩

end Go.Proofs.YtjjaojnglnpgaaaGreatDoor
