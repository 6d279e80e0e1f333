/- For every two answers, clerestorylaw31.ScriptApart returns true and its arguments read as they did. Conditions: the arguments together are of bulk at most 1048576; the seven listed package variables hold what their initialisers lay. -/
import Derived.WideKeyArgs
import Derived.RowKit
import Derived.Lib.LaidTab
import Derived.Lib.LaidU8
import Derived.Shelf.Vars
import Derived.OpenShut
import Derived.Test.YtjjaojnglnpgaaaGreatDoorCards
import Derived.ProofKit
import Derived.JoinedCond
import Derived.Deep.DeepHandedRow
import Derived.Deep.DeepWitnessRowRef
import Derived.Test.YtjjaojnglnpgaaaGreatDoorLApartP
import Derived.Test.YtjjaojnglnpgaaaGreatDoorLCard
import Derived.Test.YtjjaojnglnpgaaaGreatDoorLScrAwake
import Derived.Test.YtjjaojnglnpgaaaGreatDoorLScrCardBase

set_option linter.unusedVariables false
set_option linter.unusedSimpArgs false

namespace Go.Proofs.YtjjaojnglnpgaaaGreatDoor
open Go.RowKit

theorem txt_list (s : ByteArray) : s.toList = s.data.toList := by
  rw [ByteArray.toList_eq]
set_option maxHeartbeats 8000000 in
set_option maxRecDepth 1000000 in
theorem scriptApart_of {S S' : Nat → Prop} {x y : Ah} {a b : An} {w : World} (ha : AnIn S w x a) (hb : AnIn S' w y b) (ht : PowTab w) (hka : a.bulk ≤ 1048576) (hkb : b.bulk ≤ 1048576) (haw : (∀ W, Below w.heap.size w W → Calls Tryz.prog 9 #[] W fun e w' => e = .returned (.bool true) ∧ Below W.heap.size W w')) :
    Calls Tryz.prog 7 #[.agg #[.int .i64 a.err, .slice x.nA a.names.length x.nc, .string a.text, .slice x.bA a.bytes.length x.bc], .agg #[.int .i64 b.err, .slice y.nA b.names.length y.nc, .string b.text, .slice y.bA b.bytes.length y.bc]] w fun e w' => e = .returned (.bool true) ∧ Below w.heap.size w w' := by
  obtain ⟨k1, k2, k3⟩ := sum_le_bulk a
  obtain ⟨k4, k5, k6⟩ := sum_le_bulk b
  have hnl := names_len a.names
  have hnm := names_len b.names
  have hka2 : a.bulk ≤ 1099511627776 := by omega
  have hkb2 : b.bulk ≤ 1099511627776 := by omega
  obtain ⟨W0, hW0⟩ : ∃ W0, W0 = (w.alloc (.cells #[.int .i64 a.err, .slice x.nA a.names.length x.nc, .string a.text, .slice x.bA a.bytes.length x.bc] 53)).alloc (.cells #[.int .i64 b.err, .slice y.nA b.names.length y.nc, .string b.text, .slice y.bA b.bytes.length y.bc] 53) := ⟨_, rfl⟩
  have hb0 : Below w.heap.size w W0 := by rw [hW0]; exact (below_alloc _ _).trans ((below_alloc _ _).mono (by simp))
  have hbx : BxL w W0 [.int .i64 a.err, .slice x.nA a.names.length x.nc, .string a.text, .slice x.bA a.bytes.length x.bc] [.int .i64 b.err, .slice y.nA b.names.length y.nc, .string b.text, .slice y.bA b.bytes.length y.bc] := by rw [hW0]; exact BxL.start w #[.int .i64 a.err, .slice x.nA a.names.length x.nc, .string a.text, .slice x.bA a.bytes.length x.bc] #[.int .i64 b.err, .slice y.nA b.names.length y.nc, .string b.text, .slice y.bA b.bytes.length y.bc] _ _
  have hbc : ∀ j v, [.int .i64 a.err, .slice x.nA a.names.length x.nc, .string a.text, .slice x.bA a.bytes.length x.bc][j]? = some v → ∀ W, Below W0.heap.size W0 W → W.cell? ⟨w.heap.size, j, none⟩ = some v := fun j v hj W hB => by
    have h0 : W0.cell? ⟨w.heap.size, j, none⟩ = some v := hbx.c j v hj
    exact (World.cell?_of_block (hB.block _ (block_lt_of_cell h0))).trans h0
  have hbd : ∀ j v, [.int .i64 b.err, .slice y.nA b.names.length y.nc, .string b.text, .slice y.bA b.bytes.length y.bc][j]? = some v → ∀ W, Below W0.heap.size W0 W → W.cell? ⟨w.heap.size + 1, j, none⟩ = some v := fun j v hj W hB => by
    have h0 : W0.cell? ⟨w.heap.size + 1, j, none⟩ = some v := hbx.r j v hj
    exact (World.cell?_of_block (hB.block _ (block_lt_of_cell h0))).trans h0
  have c0 := hbc 0 _ rfl
  have c1 := hbc 1 _ rfl
  have c2 := hbc 2 _ rfl
  have c3 := hbc 3 _ rfl
  have d0 := hbd 0 _ rfl
  have d1 := hbd 1 _ rfl
  have d2 := hbd 2 _ rfl
  have d3 := hbd 3 _ rfl
  clear hbc hbd
  have Ha := hide (ha.below hb0)
  have Hb := hide (hb.below hb0)
  have Htab := hide (ht.below hb0)
  have HAw0 := hide (haw W0 hb0)
  have Hb0 := hide hb0
  have HW0 := hide hW0
  clear ha hb ht hb0 hW0 haw hbx
  go_enter Tryz.func7, Tryz.ntmps7
  go_upto_region 1 with fail
  change Code.wp _ _ _ _ ((w.alloc (.cells #[.int .i64 a.err, .slice x.nA a.names.length x.nc, .string a.text, .slice x.bA a.bytes.length x.bc] 53)).alloc (.cells #[.int .i64 b.err, .slice y.nA b.names.length y.nc, .string b.text, .slice y.bA b.bytes.length y.bc] 53))
  rw [← HW0.out]
  clear HW0
  go_upto_region 3 with (go_at_call 9; (with_reducible refine HAw0.out.mono ?_); rintro e1 w1 ⟨rfl, hB1⟩)
  have g0 := c0 w1 hB1
  have g1 := c1 w1 hB1
  have g2 := c2 w1 hB1
  have g3 := c3 w1 hB1
  have h0 := d0 w1 hB1
  have h1 := d1 w1 hB1
  have h2 := d2 w1 hB1
  have h3 := d3 w1 hB1
  have HB1 := hide hB1
  clear hB1
  go_quiet ((first
    | (go_at_call 18; (with_reducible refine (textsOf_any (Ha.out.names.below (blw_drewN HB1.out _))).mono ?_); rintro e2 w2 ⟨rfl, rfl⟩; exact ⟨rfl, _, rfl⟩)
    | (go_at_call 18; (with_reducible refine (textsOf_any (Hb.out.names.below (blw_drewN HB1.out _))).mono ?_); rintro e2 w2 ⟨rfl, rfl⟩; exact ⟨rfl, _, rfl⟩)))
  generalize decide (20000 < wrap64 ((a.text.size : Int) + (a.bytes.length : Int) + (b.text.size : Int) + (b.bytes.length : Int) + wrap64 (8 * wrap64 (cnt a.names 2500 (a.names.length : Int) + cnt b.names 2500 (b.names.length : Int))))) = bb
  have hBq : Below W0.heap.size W0 (w1.drewN nq) := blw_drewN HB1.out _
  clear g0 g1 g2 g3 h0 h1 h2 h3 HB1
  generalize w1.drewN nq = Wq at hBq ⊢
  rcases bb with _ | _
  · go_upto_region 5 with fail
    have HBq := hide hBq
    go_cut [5, 6] (fun v u wx => v = .string ⟨a.line.toArray⟩ ∧ u = .string ⟨b.line.toArray⟩ ∧ Below W0.heap.size W0 wx)
    case first =>
      have hr1 : Below W0.heap.size W0 Wq.drew := blw_drewN hBq 1
      refine wp_region_held_drew (S := Below W0.heap.size W0) (by kernel_rfl) hr1 (fun hHeld => ?_)
      generalize Wq.drew = wD at hHeld ⊢
      refine tk (v := ?_) 0 hHeld ?_ ?_
      rotate_left
      · intro w' hSw
        have b0 := c0 w' hSw
        have b1 := c1 w' hSw
        have b2 := c2 w' hSw
        have b3 := c3 w' hSw
        first | (go_simp; done) | (go_simp; with_reducible rfl)
      try simp only [List.set_cons_zero, List.set_cons_succ]
      refine tk (v := ?_) 2 hHeld ?_ ?_
      rotate_left
      · intro w' hSw
        have b0 := d0 w' hSw
        have b1 := d1 w' hSw
        have b2 := d2 w' hSw
        have b3 := d3 w' hSw
        first | (go_simp; done) | (go_simp; with_reducible rfl)
      try simp only [List.set_cons_zero, List.set_cons_succ]
      refine wpAnyH_ready (rs := [1]) (by kernel_rfl) (by simp) ?_
      refine AllReadyH.cons rfl (fun K hK => ?_) AllReadyH.nil
      go_simp
      go_wp2_with (go_at_call 20; (with_reducible refine (tell_any (Ha.out.below hHeld) (Htab.out.below hHeld) hka2).mono ?_); rintro e4 w4 ⟨rfl, hB4⟩)
      have hA1 := hHeld.trans (hB4.mono hHeld.size)
      refine hK.out _ _ hA1 (fun _ => ?_)
      clear hK K
      try simp only [Act.put, List.getElem_toArray, List.getElem_cons_zero, List.getElem_cons_succ, List.setIfInBounds_toArray, List.set_cons_zero, List.set_cons_succ]
      refine wpAnyH_ready (rs := [3]) (by kernel_rfl) (by simp) ?_
      refine AllReadyH.cons rfl (fun K hK => ?_) AllReadyH.nil
      go_simp
      go_wp2_with (go_at_call 20; (with_reducible refine (tell_any (Hb.out.below hA1) (Htab.out.below hA1) hkb2).mono ?_); rintro e5 w5 ⟨rfl, hB5⟩)
      have hA2 := hA1.trans (hB5.mono hA1.size)
      refine hK.out _ _ hA2 (fun _ => ?_)
      clear hK K
      try simp only [Act.put, List.getElem_toArray, List.getElem_cons_zero, List.getElem_cons_succ, List.setIfInBounds_toArray, List.set_cons_zero, List.set_cons_succ]
      refine tk (v := ?_) 4 hA2 ?_ ?_
      rotate_left
      · intro w' hSw
        first | (go_simp; done) | (go_simp; with_reducible rfl)
      try simp only [List.set_cons_zero, List.set_cons_succ]
      refine tk (v := ?_) 5 hA2 ?_ ?_
      rotate_left
      · intro w' hSw
        first | (go_simp; done) | (go_simp; with_reducible rfl)
      try simp only [List.set_cons_zero, List.set_cons_succ]
      refine wpAnyH_done (by kernel_rfl) ?_ _
      try simp only [Act.put, List.getElem_toArray, List.getElem_cons_zero, List.getElem_cons_succ, List.setIfInBounds_toArray, List.set_cons_zero, List.set_cons_succ]
      go_wp2_with fail
      go_meet
      exact ⟨rfl, rfl, hA2⟩
    case rest =>
    obtain ⟨rfl, rfl, hBc⟩ := hcut
    clear hBq HBq
    have g0 := c0 wc hBc
    have h0 := d0 wc hBc
    by_cases hea : a.err = 0 ∧ b.err = 0
    · obtain ⟨e1, e2⟩ := hea
      go_upto_region 8 with fail
      have HB := hide hBc
      clear hBc g0 h0
      have hn1 : a.names.length ≤ 1048576 := by omega
      have hn2 : b.names.length ≤ 1048576 := by omega
      go_upto_region 9 with fail
      have E1 := hide e1
      have E2 := hide e2
      clear e1 e2
      go_loopg [7] (a.names.length + b.names.length) (fun g i wr => ∃ q : Nat, q ≤ a.names.length + b.names.length ∧ g = a.names.length + b.names.length - q ∧ i = .int .i64 q ∧ Hid (Below W0.heap.size W0 wr) ∧ Hid (∀ s ∈ (a.names ++ b.names).take q, goodN s))
      case atStart => exact ⟨0, by omega, by omega, rfl, HB, hide (by simp)⟩
      case round =>
        obtain ⟨q, hq, hgq, rfl, HBr, HG⟩ := hrel
        clear HB
        have g1 := c1 wr HBr.out
        have h1 := d1 wr HBr.out
        have hn3 : ((a.names.length + b.names.length : Nat) : Int) = (a.names.length : Int) + (b.names.length : Int) := by omega
        by_cases hlt : q < a.names.length + b.names.length
        · go_upto_region 11 with fail
          have hr2 : Below wr.heap.size wr wr.drew := blw_drewN (Below.refl _ _) 1
          refine wp_region_held_drew (S := Below wr.heap.size wr) (by kernel_rfl) hr2 (fun hHeld => ?_)
          generalize wr.drew = wD at hHeld ⊢
          have hsD := hHeld.size
          refine tk (v := ?_) 1 hHeld ?_ ?_
          rotate_left
          · intro w' hSw
            first | (go_simp; done) | (go_simp; with_reducible rfl)
          try simp only [List.set_cons_zero, List.set_cons_succ]
          refine tk (v := ?_) 2 hHeld ?_ ?_
          rotate_left
          · intro w' hSw
            have b0 := c1 w' (HBr.out.trans (hSw.mono HBr.out.size))
            first | (go_simp; done) | (go_simp; with_reducible rfl)
          try simp only [List.set_cons_zero, List.set_cons_succ]
          refine tk (v := ?_) 4 hHeld ?_ ?_
          rotate_left
          · intro w' hSw
            first | (go_simp; done) | (go_simp; with_reducible rfl)
          try simp only [List.set_cons_zero, List.set_cons_succ]
          refine tk (v := ?_) 5 hHeld ?_ ?_
          rotate_left
          · intro w' hSw
            have b0 := d1 w' (HBr.out.trans (hSw.mono HBr.out.size))
            first | (go_simp; done) | (go_simp; with_reducible rfl)
          try simp only [List.set_cons_zero, List.set_cons_succ]
          refine wpAnyH_ready (rs := [0]) (by kernel_rfl) (by simp) ?_
          refine AllReadyH.cons rfl (fun K hK => ?_) AllReadyH.nil
          go_simp
          go_wp2_with fail
          have hO0 : (wD.alloc (.cells #[] 9)).ownsRow wr.heap.size 9 1 (.slice (some ⟨wD.heap.size, 0, none⟩) 0 0) 0 [] := ⟨rfl, .inr ⟨wD.heap.size, 0, #[], rfl, hsD, heap_alloc_new wD _, Nat.le_refl _, by decide, rfl, rfl⟩⟩
          have hH2 : Below wr.heap.size wr (wD.alloc (.cells #[] 9)) := hHeld.alloc (by omega) _
          refine hK.out _ _ hH2 (fun _ => ?_)
          clear hK K
          try simp only [Act.put, List.getElem_toArray, List.getElem_cons_zero, List.getElem_cons_succ, List.setIfInBounds_toArray, List.set_cons_zero, List.set_cons_succ]
          have hBa := HBr.out.trans (hH2.mono HBr.out.size)
          have hnm := (Ha.out.below hBa).names
          obtain ⟨v5, w5, hrun5, hown5, hB5⟩ := row_step (P := Tryz.prog) (T := 34) (us := a.names.map .string) (B := x.nA) (m := a.names.length) (cB := x.nc) Tryz.underlying34 InfoStrT rfl (by decide) hO0 (rd_none hnm.1) (by simp) (one_cells _ (fun _ => rfl)) (rd_add hnm.1) hH2.size (by unfold maxLen; omega) (by omega) 34
          refine wpAnyH_ready (rs := [3]) (by kernel_rfl) (by simp) ?_
          refine AllReadyH.cons rfl (fun K hK => ?_) AllReadyH.nil
          refine step_append_ran (v1 := .slice (some ⟨wD.heap.size, 0, none⟩) 0 0) (v2 := .slice x.nA a.names.length x.nc) rfl _ _ _ rfl (by rfl) (by rfl) hrun5 ?_
          have hH3 := hH2.trans hB5
          refine hK.out _ _ hH3 (fun _ => ?_)
          clear hK K
          try simp only [Act.put, List.getElem_toArray, List.getElem_cons_zero, List.getElem_cons_succ, List.setIfInBounds_toArray, List.set_cons_zero, List.set_cons_succ]
          have hBb := HBr.out.trans (hH3.mono HBr.out.size)
          have hnn := (Hb.out.below hBb).names
          obtain ⟨v6, w6, hrun6, hown6, hB6⟩ := row_step (P := Tryz.prog) (T := 34) (us := b.names.map .string) (B := y.nA) (m := b.names.length) (cB := y.nc) Tryz.underlying34 InfoStrT rfl (by decide) hown5 (rd_none hnn.1) (by simp) (one_cells _ (fun _ => rfl)) (rd_add hnn.1) hH3.size (by unfold maxLen; omega) (by omega) 34
          refine wpAnyH_ready (rs := [6]) (by kernel_rfl) (by simp) ?_
          refine AllReadyH.cons rfl (fun K hK => ?_) AllReadyH.nil
          refine step_append_ran (v1 := v5) (v2 := .slice y.nA b.names.length y.nc) rfl _ _ _ rfl (by rfl) (by rfl) hrun6 ?_
          have hH4 := hH3.trans hB6
          refine hK.out _ _ hH4 (fun _ => ?_)
          clear hK K
          try simp only [Act.put, List.getElem_toArray, List.getElem_cons_zero, List.getElem_cons_succ, List.setIfInBounds_toArray, List.set_cons_zero, List.set_cons_succ]
          refine tk (v := ?_) 7 hH4 ?_ ?_
          rotate_left
          · intro w' hSw
            first | (go_simp; done) | (go_simp; with_reducible rfl)
          try simp only [List.set_cons_zero, List.set_cons_succ]
          refine wpAnyH_done (by kernel_rfl) ?_ _
          try simp only [Act.put, List.getElem_toArray, List.getElem_cons_zero, List.getElem_cons_succ, List.setIfInBounds_toArray, List.set_cons_zero, List.set_cons_succ]
          rw [Nat.zero_add, List.nil_append] at hown6
          obtain ⟨g, cap, rfl⟩ : ∃ g cap, v6 = .slice (some ⟨g, 0, none⟩) (a.names.length + b.names.length) cap := by
            rcases hown6.2 with ⟨_, e⟩ | ⟨g, cap, cur, e, _⟩
            · omega
            · exact ⟨g, cap, e⟩
          have hcell := hown6.cellAt q (by omega)
          obtain ⟨s, hs⟩ : ∃ s, (a.names ++ b.names)[q]? = some s := ⟨_, List.getElem?_eq_getElem (by simpa using hlt)⟩
          rw [← List.map_append, List.getElem?_map, hs] at hcell
          simp only [Option.map_some] at hcell
          have HB6 := hide (HBr.out.trans (hH4.mono HBr.out.size))
          have Hs := hide hs
          clear hrun5 hown5 hB5 hH2 hH3 hHeld hrun6 hown6 hB6 hH4 hO0 hBa hBb hnm hnn hr2 hs
          go_wp2_with (go_at_call 28; (with_reducible refine (contains32_any (s := s)).mono ?_); rintro e7 w7 ⟨⟨b7, rfl, hb7⟩, rfl⟩; have Hb7 := hide hb7; clear hb7)
          all_goals first
            | (go_ret; exact ⟨rfl, Hb0.out.trans (HB6.out.mono Hb0.out.size)⟩)
            | skip
          rename_i n1 n2 n3 n4 n5
          go_roundg (a.names.length + b.names.length - (q + 1))
          case measure => omega
          have hg : goodN s := by
            obtain ⟨⟨⟨⟨_, _⟩, _⟩, _⟩, hb⟩ := n5
            have hb7 := Hb7.out
            rw [hb] at hb7
            have hl : ∀ l : List UInt8, s.toList ≠ l → s.data.toList ≠ l := fun l h e => h (by rw [txt_list]; exact e)
            exact ⟨hl _ n1, hl _ n2, hl _ n3, hl _ n4, fun h => by simpa using hb7.2 h⟩
          refine ⟨q + 1, by omega, by omega, by simp, HB6, hide ?_⟩
          rw [List.take_add_one, Hs.out]
          intro z hz
          rcases List.mem_append.1 hz with hz | hz
          · exact HG.out z hz
          · simp at hz
            subst hz
            exact hg
        · have hqe : q = a.names.length + b.names.length := by omega
          have g0 := c0 wr HBr.out
          have g2 := c2 wr HBr.out
          have g3 := c3 wr HBr.out
          have h0 := d0 wr HBr.out
          have h2 := d2 wr HBr.out
          have h3 := d3 wr HBr.out
          have hge : ¬ ((q : Int) < (a.names.length : Int) + (b.names.length : Int)) := by omega
          have Hqe := hide hqe
          have Hlt := hide hlt
          clear hqe hlt
          go_wp2_with (go_at_call 29; (with_reducible refine (sameAnswer_any (Ha.out.below HBr.out) (Hb.out.below HBr.out)).mono ?_); rintro e6 w6 ⟨⟨bs, rfl, hbs⟩, hB6⟩; have Hbs := hide hbs; have HB6 := hide hB6; clear hbs hB6)
          go_ret
          refine ⟨?_, Hb0.out.trans ((HBr.out.trans (HB6.out.mono HBr.out.size)).mono Hb0.out.size)⟩
          have hbs := Hbs.out
          have hG := HG.out
          rw [Hqe.out, List.take_of_length_le (by simp)] at hG
          have hli : a.line = b.line ↔ bs = true := by
            rw [hbs]
            exact ⟨fun h => line_inj E1.out E2.out (fun s hs => hG s (by simp [hs])) (fun s hs => hG s (by simp [hs])) h, fun h => by rw [h]⟩
          have hv : ((a.line == b.line) == bs) = true := by rw [beq_iff_eq, Bool.eq_iff_iff, beq_iff_eq, hli]
          exact congrArg (fun b => Ending.returned (Value.bool b)) hv
    · have Hiff := hide (line_err_iff hea)
      have Hea := hide hea
      have HB := hide hBc
      clear hBc hea
      have hX : ((⟨a.line.toArray⟩ : ByteArray).toList == (⟨b.line.toArray⟩ : ByteArray).toList) = (a.err == b.err) := by
        rw [Bool.eq_iff_iff, beq_iff_eq, beq_iff_eq, tl_eq, ← Hiff.out]
        constructor
        · intro h
          have h := congrArg (fun s : ByteArray => s.data.toList) h
          simpa using h
        · intro h
          rw [h]
      have hpr : ∀ W, Calls Tryz.prog 27 #[.string ⟨a.line.toArray⟩, .string { data := #[101, 114, 114, 111, 114, 32] }] W fun e w' => e = .returned (.bool (decide (¬ a.err = 0))) ∧ W = w' := fun W => by
        refine (hasPrefix_any (s := ⟨a.line.toArray⟩) (p := { data := #[101, 114, 114, 111, 114, 32] }) (w := W)).mono ?_
        · rintro e w' ⟨⟨b, rfl, hb⟩, rfl⟩
          refine ⟨?_, rfl⟩
          have h2 := line_pre a
          have h3 : (b = true) ↔ ¬ a.err = 0 := by
            rw [hb, ← h2]
            exact Iff.of_eq (by simp [kwError])
          congr 2
          rw [Bool.eq_iff_iff, h3, decide_eq_true_iff]
      generalize (⟨a.line.toArray⟩ : ByteArray) = X at hX hpr ⊢
      generalize (⟨b.line.toArray⟩ : ByteArray) = Y at hX ⊢
      have hd : ((X.toList == Y.toList) == (a.err == b.err)) = true := by rw [hX]; simp
      clear hX
      by_cases hae : a.err = 0
      · have hbe : ¬ b.err = 0 := fun e => Hea.out ⟨hae, e⟩
        have Hpre : Hid (∀ W, Calls Tryz.prog 27 #[.string X, .string { data := #[101, 114, 114, 111, 114, 32] }] W fun e w' => e = .returned (.bool false) ∧ W = w') := hide fun W => by
          have h := hpr W
          rw [decide_eq_false (by simp [hae])] at h
          exact h
        rw [hae] at hd
        clear hpr
        go_upto_region 7 with fail
        go_quiet ((go_at_call 27; (with_reducible refine (Hpre.out _).mono ?_); rintro e2 w2 ⟨rfl, rfl⟩; exact ⟨rfl, _, rfl⟩))
        go_wp2_with fail
        go_ret
        exact ⟨rfl, Hb0.out.trans ((blw_drewN HB.out _).mono Hb0.out.size)⟩
      · have Hpre : Hid (∀ W, Calls Tryz.prog 27 #[.string X, .string { data := #[101, 114, 114, 111, 114, 32] }] W fun e w' => e = .returned (.bool true) ∧ W = w') := hide fun W => by
          have h := hpr W
          rw [decide_eq_true (by simp [hae])] at h
          exact h
        clear hpr
        go_upto_region 7 with fail
        go_quiet ((go_at_call 27; (with_reducible refine (Hpre.out _).mono ?_); rintro e2 w2 ⟨rfl, rfl⟩; exact ⟨rfl, _, rfl⟩))
        go_wp2_with fail
        go_ret
        refine ⟨by simp [hae], Hb0.out.trans ((blw_drewN HB.out _).mono Hb0.out.size)⟩
  · go_wp2_with fail
    go_ret
    exact ⟨rfl, Hb0.out.trans (hBq.mono Hb0.out.size)⟩

end Go.Proofs.YtjjaojnglnpgaaaGreatDoor

namespace Go.Proofs.YtjjaojnglnpgaaaGreatDoor
open Go.RowKit Go.ChangeShapes Go.WideShapes

theorem u_bool : Tryz.prog.underlying 4 = some .bool := by kernel_rfl
theorem laid_out : laidOutB Tryz.prog = true := by kernel_rfl
theorem r_ans : Tryz.prog.readableRec 53 = true := by kernel_rfl
theorem l_ans : (53 : TypeId) < Tryz.prog.types.size := of_decide_eq_true (by kernel_rfl)
theorem u_tab : Tryz.prog.underlying 314 = some (.array 256 5) := by kernel_rfl
theorem c_tab : Tryz.prog.cellsOf 314 = 256 := by kernel_rfl
theorem g_tab : Tryz.prog.globalNamed "strings.asciiSpace" = some 5 := by kernel_rfl
theorem gt_tab : (Tryz.prog.globals[5]?).map (·.type) = some 314 := by kernel_rfl
theorem tab_data : (Rows.laid_strings_asciiSpace : DataW Unit) = Lib.tabData .u8 Lib.asciiSpaceTab := by kernel_rfl
theorem u_u64 : Tryz.prog.underlying 192 = some (.int .u64) := by kernel_rfl
theorem c_u64 : Tryz.prog.cellsOf 192 = 1 := by kernel_rfl
theorem u_pow : Tryz.prog.underlying 336 = some (.array 20 192) := by kernel_rfl
theorem c_pow : Tryz.prog.cellsOf 336 = 20 := by kernel_rfl
theorem g_pow : Tryz.prog.globalNamed "internal/strconv.uint64pow10" = some 4 := by kernel_rfl
theorem gt_pow : (Tryz.prog.globals[4]?).map (·.type) = some 336 := by kernel_rfl
theorem pow_data : (Rows.laid_internal_strconv_uint64pow10 : DataW Unit) = Lib.tabData .u64 Lib.pow10Tab := by kernel_rfl
theorem laid_list {W : World} (h : laidMetH Tryz.prog Rows.scriptApartUptoRow.laid W) : laidMet Tryz.prog [("math/bits.deBruijn32tab", Rows.laid_math_bits_deBruijn32tab), ("math/bits.deBruijn64tab", Rows.laid_math_bits_deBruijn64tab), ("internal/strconv.uint64pow10", Rows.laid_internal_strconv_uint64pow10), ("unicode/utf8.acceptRanges", Rows.laid_unicode_utf8_acceptRanges), ("unicode.White_Space", Rows.laid_unicode_White_Space), ("strings.asciiSpace", Rows.laid_strings_asciiSpace), ("unicode/utf8.first", Rows.laid_unicode_utf8_first)] W := h
theorem tab_ok {W : World} (h : laidMetH Tryz.prog Rows.scriptApartUptoRow.laid W) : TabOk W := by
  obtain ⟨g', t', cs, fuel, p, hg', ht', hvar, hd⟩ := Lib.laidMet.reads (laid_list h) (.tail _ (.tail _ (.tail _ (.tail _ (.tail _ (.head _))))))
  obtain rfl := Option.some.inj (g_tab.symm.trans hg')
  obtain rfl := Option.some.inj (gt_tab.symm.trans ht')
  rw [tab_data] at hd
  have hc := Lib.cells_of_tab u_tab u_u8 c_u8 c_tab hd
  have hT : Lib.TabIs Tryz.prog W "strings.asciiSpace" .u8 Lib.asciiSpaceTab := by
    unfold Lib.TabIs
    rw [hvar, ← hc]
  exact ⟨block_lt_of_cell (hT.cell g_tab 0 (of_decide_eq_true (by kernel_rfl))), hT⟩
theorem pow_ok {W : World} (h : laidMetH Tryz.prog Rows.scriptApartUptoRow.laid W) : PowTab W := by
  obtain ⟨g', t', cs, fuel, p, hg', ht', hvar, hd⟩ := Lib.laidMet.reads (laid_list h) (.tail _ (.tail _ (.head _)))
  obtain rfl := Option.some.inj (g_pow.symm.trans hg')
  obtain rfl := Option.some.inj (gt_pow.symm.trans ht')
  rw [pow_data] at hd
  have hc := Lib.cells_of_tab u_pow u_u64 c_u64 c_pow hd
  have hT : Lib.TabIs Tryz.prog W "internal/strconv.uint64pow10" .u64 Lib.pow10Tab := by
    unfold Lib.TabIs
    rw [hvar, ← hc]
  exact ⟨block_lt_of_cell (hT.cell g_pow 0 (of_decide_eq_true (by kernel_rfl))), hT⟩
theorem max_ok {W : World} (h : W.ShapedOpen Tryz.prog) : MaxOkS W := by
  obtain ⟨m, hm⟩ := cell_of_shapedOpen_int (g := 0) (t := 3) (zero := #[.int .i64 0]) (k := .i64) h (of_decide_eq_true (by kernel_rfl)) (by kernel_rfl) rfl (by kernel_rfl) (by kernel_rfl) (by kernel_rfl)
  exact ⟨block_lt_of_cell hm, m, hm⟩


set_option maxRecDepth 100000 in
theorem apart31_contract (H : Type) (enc : TypeId × Value → H) (W : World) (base : Nat) (args : Array Value) (ds gs : List (DataW H)) (before : List MemPlace)
    (hval0 : ∀ (j : Nat) t v, Tryz.f7.params[j]? = some t → args[j]? = some v → Value.okWide Tryz.prog W .any base t v)
    (hW0 : DataW.Whole enc Tryz.prog Tryz.f7.params.toList Rows.scriptApartSpec.vars false W args.toList ds gs before)
    (hk : Rows.uptoSmall H (ds ++ gs) = true) (hL : laidMetH Tryz.prog Rows.scriptApartUptoRow.laid W) (hS : W.ShapedOpen Tryz.prog) :
    Calls Tryz.prog 7 args W fun e W' => ∃ v, e = .returned v ∧ Rows.scriptApartSpec.post enc Tryz.prog Tryz.f7 false true false false W args v W' := by
  have hW := hW0
  have hval := hval0
  obtain ⟨p, q, hA0, hV, rfl, _, _⟩ := hW0
  have hA : DataW.TrodAll enc Tryz.prog W 0 (fun _ => true) true Tryz.f7.params.toList args.toList ds p := hA0
  rw [Tryz.params7] at hA hval
  obtain ⟨v0, v1, d0, d1, p0, p1, rfl, rfl, rfl, h0, h1⟩ := trodAll_two hA
  obtain ⟨rfl, rfl⟩ := trodVars_none hV
  obtain ⟨cs, rfl, _⟩ := okWide_struct Tryz.underlying53 (hval 0 _ v0 rfl rfl)
  obtain ⟨ys, rfl, _⟩ := okWide_struct Tryz.underlying53 (hval 1 _ v1 rfl rfl)
  obtain ⟨m0, f0⟩ := h0
  obtain ⟨m1, f1⟩ := h1
  obtain ⟨x, a, ecs, ha, hbk⟩ := an_in f0
  obtain ⟨y, b, eds, hb, hbk2⟩ := an_in f1
  have ecs' : cs = _ := Array.toList_inj.mp ecs
  have eds' : ys = _ := Array.toList_inj.mp eds
  subst ecs' eds'
  have hbulk : Rows.uptoBulkAll ([d0, d1] ++ ([] : List (DataW H))) ≤ 1048576 := of_decide_eq_true hk
  simp only [List.append_nil, Rows.uptoBulkAll] at hbulk
  dsimp only at hbk hbk2
  refine (scriptApart_of ha hb (pow_ok hL) (by omega) (by omega) (fun W1 hW1 => awake31_any ((max_ok hS).below hW1) ((tab_ok hL).below hW1) ((pow_ok hL).below hW1))).mono fun e W' ⟨he, hB⟩ => ?_
  subst he
  have hlt := hW.lt
  have hs0 : ∀ z ∈ p0, W.sameAt W' z := fun z hz => hB.same (hlt z (by simp [hz]))
  have hs1 : ∀ z ∈ p1, W.sameAt W' z := fun z hz => hB.same (hlt z (by simp [hz]))
  have hold : ∀ z ∈ p0 ++ p1 ++ [], (fun b => decide (b < W.heap.size)) z.block = true := fun z hz => by simpa using hlt z hz
  refine ⟨_, rfl, _, _, _, [], p0 ++ p1, [], hW, trodAll_mk1 (shut_bool u_bool true), trodAll_mk2 (Go.WideElems.Trod_stays laid_out r_ans l_ans ⟨m0, f0⟩ hs0 (fun z hz => hold z (by simp [hz]))) (Go.WideElems.Trod_stays laid_out r_ans l_ans ⟨m1, f1⟩ hs1 (fun z hz => hold z (by simp [hz]))), rfl, hB.frame _, fun h => by cases h⟩

end Go.Proofs.YtjjaojnglnpgaaaGreatDoor

namespace Go.Proofs.YtjjaojnglnpgaaaGreatDoor

set_option maxRecDepth 1000000
theorem scriptApart_c1 : Tryz.prog.inPlace 7 = Rows.scriptApartUptoRow.inPlace := by kernel_rfl
theorem scriptApart_c2 : Tryz.prog.unfollowed 7 = Rows.scriptApartUptoRow.unfollowed := by kernel_rfl
theorem scriptApart_c3 : Tryz.prog.recurses 7 = Rows.scriptApartUptoRow.recurses := by kernel_rfl
theorem scriptApart_c4 : Tryz.prog.varsNamed 7 = Rows.scriptApartUptoRow.named := by kernel_rfl
theorem scriptApart_closed : joinedFacts Tryz.prog 7 Tryz.f7 (Rows.OpenSpec.upto Rows.scriptApartSpec).bare Rows.scriptApartUptoRow = true := by
  unfold joinedFacts
  rw [scriptApart_c1, scriptApart_c2, scriptApart_c3, scriptApart_c4]
  kernel_rfl

end Go.Proofs.YtjjaojnglnpgaaaGreatDoor

namespace Go.Proofs.YtjjaojnglnpgaaaGreatDoor
open Go.RowKit Go.ChangeShapes Go.WideShapes

set_option maxRecDepth 100000 in
theorem scriptApart_reads (os : Os) {H : Type} (enc : TypeId × Value → H) : (DataW.whole enc Tryz.prog ((laidWorld os).forCall (fun _ _ => 0) ⟨#[], #[.agg #[.int .i64 0, .slice none 0 0, .string { data := #[] }, .slice none 0 0], .agg #[.int .i64 0, .slice none 0 0, .string { data := #[] }, .slice none 0 0]], []⟩).memory Tryz.f7.params.toList Rows.scriptApartSpec.vars false #[.agg #[.int .i64 0, .slice none 0 0, .string { data := #[] }, .slice none 0 0], .agg #[.int .i64 0, .slice none 0 0, .string { data := #[] }, .slice none 0 0]].toList 8).map (fun x => (x.1, x.2.1)) = some ([.agg [.lit (.int .i64 0), .nil, .lit (.string []), .nil], .agg [.lit (.int .i64 0), .nil, .lit (.string []), .nil]], []) := by kernel_rfl
set_option maxRecDepth 100000 in
theorem scriptApart_lifted (os : Os) (started : os.Started) (H : Type) (enc : TypeId × Value → H) (F : Stop.Interp) :
    ReturnsInHanded {} Tryz.checked os 7 .any ((Rows.OpenSpec.upto Rows.scriptApartSpec).preRow enc Tryz.prog Tryz.f7 Rows.scriptApartUptoRow.domain false Rows.scriptApartUptoRow.laid) (((Rows.OpenSpec.upto Rows.scriptApartSpec).at F).post enc Tryz.prog Tryz.f7 false true false false) := by
  obtain ⟨⟨x1, x2, x3⟩, hx, hx1⟩ := Option.map_eq_some_iff.1 (scriptApart_reads os enc)
  simp only [Prod.mk.injEq] at hx1
  obtain ⟨rfl, rfl⟩ := hx1
  refine returnsInHanded_of_row (C := Tryz.checked) (s := Rows.OpenSpec.upto Rows.scriptApartSpec) own_knob started (by kernel_rfl) Tryz.func7
    (witness_row_atRef (enc := enc) (C := Tryz.checked) false (laidWorld os) #[.agg #[.int .i64 0, .slice none 0 0, .string { data := #[] }, .slice none 0 0], .agg #[.int .i64 0, .slice none 0 0, .string { data := #[] }, .slice none 0 0]] rfl (by kernel_rfl) (by kernel_rfl) (by kernel_rfl)
      (OpenSpec.preRow_of_cond 8 hx (by kernel_rfl) (fun k hk => by cases hk; kernel_rfl) (by kernel_rfl) (laid_met os _))) ?_
  intro W base args ds gs before hval hW _ hcond _ hL hS _
  exact apart31_contract H enc W base args ds gs before hval hW (hcond _ rfl) hL hS
set_option maxRecDepth 100000 in
theorem scriptApart_saidUpto : Rows.ScriptApartUptoSaid :=
  OpenClaim.holds_of_cond 7 Tryz.f7 rfl rfl rfl rfl rfl rfl rfl ⟨rfl, rfl, rfl, rfl, rfl⟩ rfl rfl rfl rfl rfl (by kernel_rfl) Tryz.func7 scriptApart_closed
    (of_decide_eq_true (by kernel_rfl)) (by unfold Func.isWrapper; first | (rw [if_pos (by decide +kernel)]; kernel_rfl) | (rw [if_neg (by decide +kernel)]; exact ⟨rfl, rfl⟩))
    (fun os started H enc _ F => by rw [OpenClaim.pre_eq_preRow]; exact scriptApart_lifted os started H enc F)
theorem scriptApart_plain (f : FuncId) (fn : Func) (hf : Tryz.pinned.checked.prog.funcNamed "clerestory/clerestorylaw31.ScriptApart" = some f) (hfn : Tryz.pinned.checked.prog.funcs[f]? = some fn) :
    true = Tryz.pinned.checked.prog.looks [] ∧ ∀ (j : Nat) t, fn.params[j]? = some t → Tryz.pinned.checked.prog.wantsStandIn t = false := by
  obtain rfl : f = 7 := Option.some.inj ((show Tryz.prog.funcNamed "clerestory/clerestorylaw31.ScriptApart" = some 7 by kernel_rfl).symm.trans hf) |>.symm
  obtain rfl : fn = Tryz.f7 := (Option.some.inj (Tryz.func7.symm.trans hfn)).symm
  refine ⟨by kernel_rfl, fun j t ht => ?_⟩
  rw [Tryz.params7] at ht
  have hm := Array.mem_of_getElem? ht
  simp only [List.mem_toArray, List.mem_cons, List.not_mem_nil, or_false] at hm
  rcases hm with rfl | rfl
  · exact (show Tryz.prog.wantsStandIn 53 = false by kernel_rfl)
  · exact (show Tryz.prog.wantsStandIn 53 = false by kernel_rfl)
theorem scriptApart_cardUpto : Rows.ScriptApartUptoCardSaid :=
  Claim7.holds_tied_plain_at .later [] _ _ _ _ scriptApart_saidUpto (fun _ h => by cases h) (by kernel_rfl) (fun _ h => by cases h) scriptApartUpto_row_tie rfl ⟨rfl, rfl⟩ (by kernel_rfl) rfl scriptApart_plain (by kernel_rfl)

end Go.Proofs.YtjjaojnglnpgaaaGreatDoor
