/- LogNumbers: its walk. Printed by gen_nums.py. -/
import Derived.Test.YtadilmijppdpoaaGreatDoorTNums0

set_option linter.unusedVariables false
set_option linter.unusedSimpArgs false

namespace Go.Proofs.YtadilmijppdpoaaGreatDoor
open Go.RowKit

set_option maxHeartbeats 16000000 in
set_option maxRecDepth 1000000 in
theorem nums_any {w : World} (htab : TabOk w) (hpow : TabP w.heap.size w) :
    Calls Tryz.prog 4 #[] w fun e w' => e = .returned (.bool true) ∧ Below w.heap.size w w' := by
  have HT := hide htab
  have HP := hide hpow
  have HTT := hide (fun (W : World) (hW : Below w.heap.size w W) => And.intro (HT.out.below hW) ((HP.out.below hW).up hW.size))
  clear htab hpow
  go_enter Tryz.func4, Tryz.ntmps4
  go_upto_region 5 with fail
  go_cut [1, 2, 3, 4, 5] (fun p x n q i wx => p = .pointer (some ⟨w.heap.size + 1, 0, none⟩) ∧ x = .pointer (some ⟨w.heap.size + 3, 0, none⟩) ∧ n = .slice (some ⟨w.heap.size + 4, 0, none⟩) 9 9 ∧ q = .slice (some ⟨w.heap.size + 9, 0, none⟩) 5 5 ∧ i = .int .i64 0 ∧ NumsIn w wx)
  case first =>
    go_wp2_with fail
    go_meet
    exact ⟨rfl, rfl, rfl, rfl, rfl, nums_start w rfl rfl rfl rfl rfl rfl rfl rfl rfl rfl rfl⟩
  case rest =>
  obtain ⟨rfl, rfl, rfl, rfl, rfl, hN⟩ := hcut
  have HN0 := hide hN
  clear hN
  go_wp2_with fail
  go_loopg [5] 9 (fun g i wr => ∃ q : Nat, q ≤ 9 ∧ g = 9 - q ∧ i = .int .i64 q ∧ Hid (NumsIn w wr))
  case atStart => exact ⟨0, by omega, by omega, rfl, HN0⟩
  case round =>
  clear HN0
  obtain ⟨q, hq, hg, rfl, HN⟩ := hrel
  by_cases hlt : q < 9
  · go_wp2_with fail
    go_loopg [6] 5 (fun g i wx => ∃ r : Nat, r ≤ 5 ∧ g = 5 - r ∧ i = .int .i64 r ∧ Hid (NumsIn w wx))
    case atStart => exact ⟨0, by omega, by omega, rfl, HN⟩
    case round =>
    clear HN
    obtain ⟨r, hr, hg2, rfl, HN⟩ := hrel
    by_cases hlt2 : r < 5
    · go_wp2_with fail
      go_loopg [7] 7 (fun g i wy => ∃ t : Nat, t ≤ 7 ∧ g = 7 - t ∧ i = .int .u8 t ∧ Hid (NumsIn w wy))
      case atStart => exact ⟨0, by omega, by omega, rfl, HN⟩
      case round =>
      clear HN
      obtain ⟨t, ht, hg3, rfl, HN⟩ := hrel
      by_cases hlt3 : t < 7
      · obtain ⟨m, hm, him⟩ := HN.out.n q hlt
        obtain ⟨A, p, c, hp, hpi, hp3, hpc, hpc2⟩ := HN.out.p r hlt2
        obtain ⟨KX, cX, x0, x1, x2, x3, hkx, hcx, hcx2⟩ := fx_cells HN.out.x
        have Him := hide him
        have Hpi := hide hpi
        have Hkx := hide hkx
        clear him hpi hkx
        go_upto_region 14 with fail
        go_cut [8, 29, 35] (fun v a b wx => ∃ E : Nat, v = .pointer (some ⟨E, 0, none⟩) ∧ a = .bool (decide ((q : Int) < 9)) ∧ b = .bool (decide ((r : Int) < 5)) ∧ EdAt wx E 0 ∧ NumsIn w wx)
        case first =>
          go_region_held (fun w' => w'.cell? ⟨w.heap.size + 9, r, none⟩ = some (.slice A p.length c) ∧ w'.cell? ⟨w.heap.size + 4, q, none⟩ = some (.int .i64 m) ∧ w'.cell? ⟨w.heap.size + 1, 0, none⟩ = some (.int .u8 11) ∧ w'.cell? ⟨w.heap.size + 1, 1, none⟩ = some (.string ⟨#[]⟩) ∧ w'.cell? ⟨w.heap.size + 1, 2, none⟩ = some (.int .i64 0) ∧ w'.cell? ⟨w.heap.size + 1, 3, none⟩ = some (.slice KX 1 cX)) (go_keep) (fail)
          all_goals go_wp2_with fail
          all_goals go_meet
          all_goals
            clear hm hp x0 x1 x2 x3
            refine ⟨_, rfl, by simp <;> omega, by simp <;> omega, ?_, HN.out.below (two_objs wr _ _).2.2⟩
            first
              | exact edAt_first (two_objs wr _ _).2.1 (two_objs wr _ _).1 (two_objs wr _ _).2.2 (by omega) Him.out Hpi.out hp3 hpc hpc2 Hkx.out hcx hcx2
              | exact edAt_first (two_objs wr _ _).1 (two_objs wr _ _).2.1 (two_objs wr _ _).2.2 (by omega) Him.out Hpi.out hp3 hpc hpc2 Hkx.out hcx hcx2
        case rest =>
        clear hm hp x0 x1 x2 x3 Hkx hcx hcx2 Hpi HN
        obtain ⟨E, rfl, rfl, rfl, hE, hN⟩ := hcut
        have HN := hide hN
        obtain ⟨m, hm, him⟩ := HN.out.n q hlt
        obtain ⟨A, p, c, hp, hpi, hp3, hpc, hpc2⟩ := HN.out.p r hlt2
        obtain ⟨KX, cX, x0, x1, x2, x3, hkx, hcx, hcx2⟩ := fx_cells HN.out.x
        obtain ⟨KY, cY, y0, y1, y2, y3, hky, hcy, hcy2⟩ := fy_cells HN.out.y
        obtain ⟨xe, e, e0, e1, e2, e3, e4, e5, e6, e7, hee, het⟩ := hE
        simp only [Nat.zero_add] at e1 e2 e3 e4 e5 e6 e7
        have Him := hide him
        have Hpi := hide hpi
        have Hkx := hide hkx
        have Hky := hide hky
        have Hee := hide hee
        have Het := hide het
        clear him hpi hkx hky hee het hN
        go_upto_region 15 with fail
        go_cut [9, 29, 35] (fun v a b wx => ∃ B : Nat, v = .slice (some ⟨B, 0, none⟩) 5 5 ∧ a = .bool (decide ((q : Int) < 9)) ∧ b = .bool (decide ((r : Int) < 5)) ∧ (∀ n, n < 5 → EdAt wx B (n * 8)) ∧ NumsIn w wx)
        case first =>
          have hlow : ∀ {p : Addr} {v : Value}, wc.cell? p = some v → ∀ W, Below wc.heap.size wc W → W.cell? p = some v := fun h W hW => (World.cell?_of_block (hW.block _ (block_lt_of_cell h))).trans h
          replace hm := hlow hm
          replace hp := hlow hp
          replace x0 := hlow x0
          replace x1 := hlow x1
          replace x2 := hlow x2
          replace x3 := hlow x3
          replace y0 := hlow y0
          replace y1 := hlow y1
          replace y2 := hlow y2
          replace y3 := hlow y3
          replace e0 := hlow e0
          replace e1 := hlow e1
          replace e2 := hlow e2
          replace e3 := hlow e3
          replace e4 := hlow e4
          replace e5 := hlow e5
          replace e6 := hlow e6
          replace e7 := hlow e7
          clear hlow
          have hd1 : Below wc.heap.size wc wc.drew := blw_drewN (Below.refl _ _) 1
          refine wp_region_held_drew (S := Below wc.heap.size wc) (by kernel_rfl) hd1 (fun hHeld => ?_)
          generalize wc.drew = wD at hHeld ⊢
          refine tk (v := ?_) 0 hHeld ?_ ?_
          rotate_left
          · intro w' hSw
            first | (go_simp; done) | (go_simp; with_reducible rfl)
          try simp only [List.set_cons_zero, List.set_cons_succ]
          refine tk (v := ?_) 1 hHeld ?_ ?_
          rotate_left
          · intro w' hSw
            first | (go_simp; done) | (go_simp; with_reducible rfl)
          try simp only [List.set_cons_zero, List.set_cons_succ]
          refine tk (v := ?_) 2 hHeld ?_ ?_
          rotate_left
          · intro w' hSw
            first | (go_simp; done) | (go_simp; with_reducible rfl)
          try simp only [List.set_cons_zero, List.set_cons_succ]
          refine tk (v := ?_) 3 hHeld ?_ ?_
          rotate_left
          · intro w' hSw
            first | (go_simp; done) | (go_simp; with_reducible rfl)
          try simp only [List.set_cons_zero, List.set_cons_succ]
          refine tk (v := ?_) 4 hHeld ?_ ?_
          rotate_left
          · intro w' hSw
            first | (go_simp; done) | (go_simp; with_reducible rfl)
          try simp only [List.set_cons_zero, List.set_cons_succ]
          refine tk (v := ?_) 5 hHeld ?_ ?_
          rotate_left
          · intro w' hSw
            first | (go_simp; done) | (go_simp; with_reducible rfl)
          try simp only [List.set_cons_zero, List.set_cons_succ]
          refine tk (v := ?_) 6 hHeld ?_ ?_
          rotate_left
          · intro w' hSw
            first | (go_simp; done) | (go_simp; with_reducible rfl)
          try simp only [List.set_cons_zero, List.set_cons_succ]
          refine tk (v := ?_) 7 hHeld ?_ ?_
          rotate_left
          · intro w' hSw
            first | (go_simp; done) | (go_simp; with_reducible rfl)
          try simp only [List.set_cons_zero, List.set_cons_succ]
          refine tk (v := ?_) 8 hHeld ?_ ?_
          rotate_left
          · intro w' hSw
            first | (go_simp; done) | (go_simp; with_reducible rfl)
          try simp only [List.set_cons_zero, List.set_cons_succ]
          refine tk (v := ?_) 9 hHeld ?_ ?_
          rotate_left
          · intro w' hSw
            first | (go_simp; done) | (go_simp; with_reducible rfl)
          try simp only [List.set_cons_zero, List.set_cons_succ]
          refine tk (v := ?_) 10 hHeld ?_ ?_
          rotate_left
          · intro w' hSw
            first | (go_simp; done) | (go_simp; with_reducible rfl)
          try simp only [List.set_cons_zero, List.set_cons_succ]
          refine tk (v := ?_) 13 hHeld ?_ ?_
          rotate_left
          · intro w' hSw
            first | (go_simp; done) | (go_simp; with_reducible rfl)
          try simp only [List.set_cons_zero, List.set_cons_succ]
          refine tk (v := ?_) 14 hHeld ?_ ?_
          rotate_left
          · intro w' hSw
            first | (go_simp; done) | (go_simp; with_reducible rfl)
          try simp only [List.set_cons_zero, List.set_cons_succ]
          refine tk (v := ?_) 15 hHeld ?_ ?_
          rotate_left
          · intro w' hSw
            first | (go_simp; done) | (go_simp; with_reducible rfl)
          try simp only [List.set_cons_zero, List.set_cons_succ]
          refine tk (v := ?_) 16 hHeld ?_ ?_
          rotate_left
          · intro w' hSw
            first | (go_simp; done) | (go_simp; with_reducible rfl)
          try simp only [List.set_cons_zero, List.set_cons_succ]
          refine tk (v := ?_) 17 hHeld ?_ ?_
          rotate_left
          · intro w' hSw
            first | (go_simp; done) | (go_simp; with_reducible rfl)
          try simp only [List.set_cons_zero, List.set_cons_succ]
          refine tk (v := ?_) 18 hHeld ?_ ?_
          rotate_left
          · intro w' hSw
            first | (go_simp; done) | (go_simp; with_reducible rfl)
          try simp only [List.set_cons_zero, List.set_cons_succ]
          refine tk (v := ?_) 20 hHeld ?_ ?_
          rotate_left
          · intro w' hSw
            first | (go_simp; done) | (go_simp; with_reducible rfl)
          try simp only [List.set_cons_zero, List.set_cons_succ]
          refine tk (v := ?_) 23 hHeld ?_ ?_
          rotate_left
          · intro w' hSw
            first | (go_simp; done) | (go_simp; with_reducible rfl)
          try simp only [List.set_cons_zero, List.set_cons_succ]
          refine tk (v := ?_) 24 hHeld ?_ ?_
          rotate_left
          · intro w' hSw
            first | (go_simp; done) | (go_simp; with_reducible rfl)
          try simp only [List.set_cons_zero, List.set_cons_succ]
          refine tk (v := ?_) 25 hHeld ?_ ?_
          rotate_left
          · intro w' hSw
            first | (go_simp; done) | (go_simp; with_reducible rfl)
          try simp only [List.set_cons_zero, List.set_cons_succ]
          refine tk (v := ?_) 26 hHeld ?_ ?_
          rotate_left
          · intro w' hSw
            first | (go_simp; done) | (go_simp; with_reducible rfl)
          try simp only [List.set_cons_zero, List.set_cons_succ]
          refine tk (v := ?_) 27 hHeld ?_ ?_
          rotate_left
          · intro w' hSw
            first | (go_simp; done) | (go_simp; with_reducible rfl)
          try simp only [List.set_cons_zero, List.set_cons_succ]
          refine tk (v := ?_) 28 hHeld ?_ ?_
          rotate_left
          · intro w' hSw
            first | (go_simp; done) | (go_simp; with_reducible rfl)
          try simp only [List.set_cons_zero, List.set_cons_succ]
          refine tk (v := ?_) 29 hHeld ?_ ?_
          rotate_left
          · intro w' hSw
            first | (go_simp; done) | (go_simp; with_reducible rfl)
          try simp only [List.set_cons_zero, List.set_cons_succ]
          refine tk (v := ?_) 30 hHeld ?_ ?_
          rotate_left
          · intro w' hSw
            first | (go_simp; done) | (go_simp; with_reducible rfl)
          try simp only [List.set_cons_zero, List.set_cons_succ]
          refine tk (v := ?_) 31 hHeld ?_ ?_
          rotate_left
          · intro w' hSw
            first | (go_simp; done) | (go_simp; with_reducible rfl)
          try simp only [List.set_cons_zero, List.set_cons_succ]
          refine tk (v := ?_) 32 hHeld ?_ ?_
          rotate_left
          · intro w' hSw
            first | (go_simp; done) | (go_simp; with_reducible rfl)
          try simp only [List.set_cons_zero, List.set_cons_succ]
          refine tk (v := ?_) 33 hHeld ?_ ?_
          rotate_left
          · intro w' hSw
            first | (go_simp; done) | (go_simp; with_reducible rfl)
          try simp only [List.set_cons_zero, List.set_cons_succ]
          refine tk (v := ?_) 34 hHeld ?_ ?_
          rotate_left
          · intro w' hSw
            first | (go_simp; done) | (go_simp; with_reducible rfl)
          try simp only [List.set_cons_zero, List.set_cons_succ]
          refine tk (v := ?_) 35 hHeld ?_ ?_
          rotate_left
          · intro w' hSw
            first | (go_simp; done) | (go_simp; with_reducible rfl)
          try simp only [List.set_cons_zero, List.set_cons_succ]
          refine tk (v := ?_) 36 hHeld ?_ ?_
          rotate_left
          · intro w' hSw
            first | (go_simp; done) | (go_simp; with_reducible rfl)
          try simp only [List.set_cons_zero, List.set_cons_succ]
          refine tk (v := ?_) 37 hHeld ?_ ?_
          rotate_left
          · intro w' hSw
            first | (go_simp; done) | (go_simp; with_reducible rfl)
          try simp only [List.set_cons_zero, List.set_cons_succ]
          refine tk (v := ?_) 38 hHeld ?_ ?_
          rotate_left
          · intro w' hSw
            first | (go_simp; done) | (go_simp; with_reducible rfl)
          try simp only [List.set_cons_zero, List.set_cons_succ]
          have hDm : ∀ q ∈ D15, q = (11, 65) ∨ q = (12, 66) ∨ q = (19, 73) ∨ q = (21, 75) ∨ q = (22, 76) ∨ q = (39, 93) ∨ q = (40, 94) ∨ q = (41, 95) ∨ q = (42, 9) := fun q hq => by simpa only [D15, List.mem_cons, List.not_mem_nil, or_false] using hq
          refine loose_from D15 (V15 KX KY cX cY t p.length c A m xe e) (fun w w' => Below w.heap.size w w') hHeld ?hT ?hs ?hend
          case hT =>
            intro q hq w1 w2 v hT hV
            rcases hDm q hq with rfl | rfl | rfl | rfl | rfl | rfl | rfl | rfl | rfl
            · obtain ⟨b, e1, q⟩ := hV
              exact ⟨b, e1, heap_stay hT q⟩
            · obtain ⟨b, e1, q⟩ := hV
              exact ⟨b, e1, heap_stay hT q⟩
            · obtain ⟨b, e1, q⟩ := hV
              exact ⟨b, e1, heap_stay hT q⟩
            · obtain ⟨b, e1, q⟩ := hV
              exact ⟨b, e1, heap_stay hT q⟩
            · obtain ⟨b, b', e1, q, q'⟩ := hV
              exact ⟨b, b', e1, heap_stay hT q, heap_stay hT q'⟩
            · obtain ⟨b, e1, q⟩ := hV
              exact ⟨b, e1, heap_stay hT q⟩
            · obtain ⟨b, e1, q⟩ := hV
              exact ⟨b, e1, heap_stay hT q⟩
            · obtain ⟨B, b1, b2, b3, b4, e1, q0, q1, q2, q3, q4⟩ := hV
              exact ⟨B, b1, b2, b3, b4, e1, heap_stay hT q0, heap_stay hT q1, heap_stay hT q2, heap_stay hT q3, heap_stay hT q4⟩
            · obtain ⟨B, b1, b2, b3, b4, e1, q0, q1, q2, q3, q4⟩ := hV
              exact ⟨B, b1, b2, b3, b4, e1, heap_stay hT q0, heap_stay hT q1, heap_stay hT q2, heap_stay hT q3, heap_stay hT q4⟩
          case hs =>
            clear hm hp x0 x1 x2 x3 y0 y1 y2 y3 e0 e1 e2 e3 e4 e5 e6 e7
            intro q hq
            rcases hDm q hq with rfl | rfl | rfl | rfl | rfl | rfl | rfl | rfl | rfl
            · clear hDm hHeld
              try clear hq
              simp only [LooseOp, List.getElem?_toArray, List.getElem?_cons_succ, List.getElem?_cons_zero]
              refine ⟨trivial, fun ev w1 hS hcon hfar hdep => ?_⟩
              have s64 : ev (.tmp 64) = .agg #[.int .u8 5, .string ⟨#[]⟩, .int .i64 0, .slice KY 2 cY] := hfar 64 _ (by kernel_rfl) rfl
              clear hfar hdep
              have hS2 := fun o => blw_up hS (below_alloc w1 o)
              exact ⟨_, _, run_yrow (by rfl) s64 _, hS2 _, below_alloc _ _, ⟨_, rfl, heap_alloc_new _ _⟩⟩
            · clear hDm hHeld
              try clear hq
              simp only [LooseOp, List.getElem?_toArray, List.getElem?_cons_succ, List.getElem?_cons_zero]
              refine ⟨trivial, fun ev w1 hS hcon hfar hdep => ?_⟩
              have s55 : ev (.tmp 55) = .int .u8 t := hfar 55 _ (by kernel_rfl) rfl
              have s59 : ev (.tmp 59) = .slice A p.length c := hfar 59 _ (by kernel_rfl) rfl
              have s63 : ev (.tmp 63) = .int .i64 m := hfar 63 _ (by kernel_rfl) rfl
              obtain ⟨b, e65, q0⟩ := hdep 11 65 (by kernel_rfl)
              clear hfar hdep
              have hS2 := hS
              exact ⟨_, _, run_b12 (by rfl) s55 s59 s63 e65 _, hS, Below.refl _ _, ⟨_, rfl, q0⟩⟩
            · clear hDm hHeld
              try clear hq
              simp only [LooseOp, List.getElem?_toArray, List.getElem?_cons_succ, List.getElem?_cons_zero]
              refine ⟨trivial, fun ev w1 hS hcon hfar hdep => ?_⟩
              have s72 : ev (.tmp 72) = .agg #[.int .u8 11, .string ⟨#[]⟩, .int .i64 0, .slice KX 1 cX] := hfar 72 _ (by kernel_rfl) rfl
              clear hfar hdep
              have hS2 := fun o => blw_up hS (below_alloc w1 o)
              exact ⟨_, _, run_xrow (by rfl) s72 _, hS2 _, below_alloc _ _, ⟨_, rfl, heap_alloc_new _ _⟩⟩
            · clear hDm hHeld
              try clear hq
              simp only [LooseOp, List.getElem?_toArray, List.getElem?_cons_succ, List.getElem?_cons_zero]
              refine ⟨trivial, fun ev w1 hS hcon hfar hdep => ?_⟩
              have s74 : ev (.tmp 74) = .agg #[.int .u8 5, .string ⟨#[]⟩, .int .i64 0, .slice KY 2 cY] := hfar 74 _ (by kernel_rfl) rfl
              clear hfar hdep
              have hS2 := fun o => blw_up hS (below_alloc w1 o)
              exact ⟨_, _, run_yrow (by rfl) s74 _, hS2 _, below_alloc _ _, ⟨_, rfl, heap_alloc_new _ _⟩⟩
            · clear hDm hHeld
              try clear hq
              simp only [LooseOp, List.getElem?_toArray, List.getElem?_cons_succ, List.getElem?_cons_zero]
              refine ⟨trivial, fun ev w1 hS hcon hfar hdep => ?_⟩
              have s67 : ev (.tmp 67) = .int .u8 t := hfar 67 _ (by kernel_rfl) rfl
              have s71 : ev (.tmp 71) = .slice A p.length c := hfar 71 _ (by kernel_rfl) rfl
              obtain ⟨b, e73, q0⟩ := hdep 19 73 (by kernel_rfl)
              obtain ⟨b', e75, q1⟩ := hdep 21 75 (by kernel_rfl)
              clear hfar hdep
              have hS2 := hS
              exact ⟨_, _, run_b22 (by rfl) s67 s71 e73 e75 _, hS, Below.refl _ _, ⟨_, _, rfl, q0, q1⟩⟩
            · clear hDm hHeld
              try clear hq
              simp only [LooseOp, List.getElem?_toArray, List.getElem?_cons_succ, List.getElem?_cons_zero]
              refine ⟨trivial, fun ev w1 hS hcon hfar hdep => ?_⟩
              have s92 : ev (.tmp 92) = .agg #[.int .u8 5, .string ⟨#[]⟩, .int .i64 0, .slice KY 2 cY] := hfar 92 _ (by kernel_rfl) rfl
              clear hfar hdep
              have hS2 := fun o => blw_up hS (below_alloc w1 o)
              exact ⟨_, _, run_yrow (by rfl) s92 _, hS2 _, below_alloc _ _, ⟨_, rfl, heap_alloc_new _ _⟩⟩
            · clear hDm hHeld
              try clear hq
              simp only [LooseOp, List.getElem?_toArray, List.getElem?_cons_succ, List.getElem?_cons_zero]
              refine ⟨trivial, fun ev w1 hS hcon hfar hdep => ?_⟩
              have s83 : ev (.tmp 83) = .int .u8 t := hfar 83 _ (by kernel_rfl) rfl
              have s87 : ev (.tmp 87) = .slice A p.length c := hfar 87 _ (by kernel_rfl) rfl
              have s91 : ev (.tmp 91) = .int .i64 m := hfar 91 _ (by kernel_rfl) rfl
              obtain ⟨b, e93, q0⟩ := hdep 39 93 (by kernel_rfl)
              clear hfar hdep
              have hS2 := hS
              exact ⟨_, _, run_b40 (by rfl) hcon s83 s87 s91 e93 _, hS, Below.refl _ _, ⟨_, rfl, q0⟩⟩
            · clear hDm hHeld
              try clear hq
              simp only [LooseOp, List.getElem?_toArray, List.getElem?_cons_succ, List.getElem?_cons_zero]
              refine ⟨trivial, fun ev w1 hS hcon hfar hdep => ?_⟩
              have s54 : ev (.tmp 54) = .agg #[.int .u8 e.kind, .slice xe.pA e.path.length xe.pc, .int .i64 e.at_, .int .i64 e.far, .string e.frm, .string e.to, .slice xe.oA e.old.len xe.oc, .slice xe.nA e.new.len xe.nc] := hfar 54 _ (by kernel_rfl) rfl
              have s82 : ev (.tmp 82) = .agg #[.int .u8 t, .slice A p.length c, .int .i64 0, .int .i64 0, .string ⟨#[97]⟩, .string ⟨#[108, 111, 110, 103, 95, 110, 97, 109, 101]⟩, .slice none 0 0, .slice none 0 0] := hfar 82 _ (by kernel_rfl) rfl
              obtain ⟨b1, e66, q1⟩ := hdep 12 66 (by kernel_rfl)
              obtain ⟨b2, b3, e76, q2, q3⟩ := hdep 22 76 (by kernel_rfl)
              obtain ⟨b4, e94, q4⟩ := hdep 40 94 (by kernel_rfl)
              clear hfar hdep
              have hS2 := fun o => blw_up hS (below_alloc w1 o)
              exact ⟨_, _, run_r41 (by rfl) s54 e66 e76 s82 e94 _, hS2 _, below_alloc _ _, ⟨_, _, _, _, _, rfl, heap_alloc_new _ _, heap_stay (below_alloc _ _) q1, heap_stay (below_alloc _ _) q2, heap_stay (below_alloc _ _) q3, heap_stay (below_alloc _ _) q4⟩⟩
            · clear hDm hHeld
              try clear hq
              simp only [LooseOp, List.getElem?_toArray, List.getElem?_cons_succ, List.getElem?_cons_zero]
              refine ⟨trivial, fun ev w1 hS hcon hfar hdep => ?_⟩
              obtain ⟨B, b1, b2, b3, b4, e95, q0⟩ := hdep 41 95 (by kernel_rfl)
              clear hfar hdep
              have hS2 := hS
              exact ⟨_, _, run_a42 (by rfl) e95 _, hS, Below.refl _ _, ⟨_, _, _, _, _, rfl, q0⟩⟩
          case hend =>
            clear hm hp x0 x1 x2 x3 y0 y1 y2 y3 e0 e1 e2 e3 e4 e5 e6 e7
            intro vals w1 hS hV
            obtain ⟨B, b1, b2, b3, b4, e42, q0, q1, q2, q3, q4⟩ := hV (42, 9) (by simp [D15])
            have HS := hide hS
            have Q0 := hide q0
            have Q1 := hide q1
            have Q2 := hide q2
            have Q3 := hide q3
            have Q4 := hide q4
            clear hV hS q0 q1 q2 q3 q4 hHeld hDm
            simp only [looseSet, D15, List.foldl_cons, List.foldl_nil, List.set_cons_zero, List.set_cons_succ]
            rw [e42]
            clear e42
            generalize vals 11 = z11, vals 12 = z12, vals 19 = z19, vals 21 = z21, vals 22 = z22, vals 39 = z39, vals 40 = z40, vals 41 = z41
            go_wp2_with fail
            go_meet
            exact ⟨_, rfl, by simp <;> omega, by simp <;> omega, eds_row Q0.out Q1.out Q2.out Q3.out Q4.out HS.out Hee.out Het.out (by omega) Him.out Hpi.out hp3 hpc hpc2 Hkx.out hcx hcx2 Hky.out hcy hcy2, HN.out.below HS.out⟩
        case rest =>
        clear hm hp x0 x1 x2 x3 y0 y1 y2 y3 e0 e1 e2 e3 e4 e5 e6 e7 Him Hpi Hkx Hky Hee Het hcx hcx2 hcy hcy2 hpc hpc2 hp3 HN
        obtain ⟨B, rfl, rfl, rfl, hEs, hN⟩ := hcut
        have HN := hide hN
        have HE := hide hEs
        clear hN hEs
        go_wp2_with fail
        go_loopg [10] 5 (fun g i wz => ∃ n : Nat, n ≤ 5 ∧ g = 5 - n ∧ i = .int .i64 n ∧ Hid (NumsIn w wz) ∧ Hid (∀ n, n < 5 → EdAt wz B (n * 8)))
        case atStart => exact ⟨0, by omega, by omega, rfl, HN, HE⟩
        case round =>
        clear HN HE
        obtain ⟨n, hn, hg4, rfl, HN, HE⟩ := hrel
        by_cases hlt4 : n < 5
        · obtain ⟨xe, e, e0, e1, e2, e3, e4, e5, e6, e7, hee, het⟩ := HE.out n hlt4
          have Hee := hide hee
          have Het := hide het
          clear hee het
          have HBn : Hid (Below w.heap.size w (wr.alloc (.cells #[.string ⟨#[110]⟩, .int .u8 4, .string ⟨#[102, 46, 49]⟩, .string ⟨#[]⟩, .int .i64 0, .slice none 0 0, .slice none 0 0, .int .u8 e.kind, .slice xe.pA e.path.length xe.pc, .int .i64 e.at_, .int .i64 e.far, .string e.frm, .string e.to, .slice xe.oA e.old.len xe.oc, .slice xe.nA e.new.len xe.nc] 39))) := hide (blw_up HN.out.b (below_alloc _ _))
          have HC : Hid (Calls Tryz.prog 3 #[.slice (some ⟨wr.heap.size, 0, none⟩) 1 1] (wr.alloc (.cells #[.string ⟨#[110]⟩, .int .u8 4, .string ⟨#[102, 46, 49]⟩, .string ⟨#[]⟩, .int .i64 0, .slice none 0 0, .slice none 0 0, .int .u8 e.kind, .slice xe.pA e.path.length xe.pc, .int .i64 e.at_, .int .i64 e.far, .string e.frm, .string e.to, .slice xe.oA e.old.len xe.oc, .slice xe.nA e.new.len xe.nc] 39)) fun en w' => en = .returned (.bool true) ∧ Below (wr.alloc (.cells #[.string ⟨#[110]⟩, .int .u8 4, .string ⟨#[102, 46, 49]⟩, .string ⟨#[]⟩, .int .i64 0, .slice none 0 0, .slice none 0 0, .int .u8 e.kind, .slice xe.pA e.path.length xe.pc, .int .i64 e.at_, .int .i64 e.far, .string e.frm, .string e.to, .slice xe.oA e.old.len xe.oc, .slice xe.nA e.new.len xe.nc] 39)).heap.size (wr.alloc (.cells #[.string ⟨#[110]⟩, .int .u8 4, .string ⟨#[102, 46, 49]⟩, .string ⟨#[]⟩, .int .i64 0, .slice none 0 0, .slice none 0 0, .int .u8 e.kind, .slice xe.pA e.path.length xe.pc, .int .i64 e.at_, .int .i64 e.far, .string e.frm, .string e.to, .slice xe.oA e.old.len xe.oc, .slice xe.nA e.new.len xe.nc] 39)) w') :=
            hide (tells_few (S := All) (l := [nd1 e]) (nd1_in Hee.out) (by simp) (nd1_tiny Het.out) (HTT.out _ HBn.out).1 (HTT.out _ HBn.out).2)
          generalize hbq : decide ((q : Int) < 9) = bq
          generalize hbr : decide ((r : Int) < 5) = br
          replace hbq := hide hbq
          replace hbr := hide hbr
          go_wp2_with (go_at_call 3; (with_reducible refine HC.out.mono ?_); rintro e1 w1 ⟨rfl, hB⟩; have HB1 := hide (blw_up (below_alloc wr _) hB); clear hB)
          replace hbq := hbq.out
          replace hbr := hbr.out
          subst hbq hbr
          go_roundg (5 - (n + 1))
          case measure => omega
          case rel => exact ⟨n + 1, by omega, rfl, by go_num, hide (HN.out.below HB1.out), hide (fun n hn => (HE.out n hn).below HB1.out)⟩
        · go_wp2_with fail
          go_roundg (7 - (t + 1))
          case measure => omega
          case rel => exact ⟨t + 1, by omega, rfl, by go_num, HN⟩
      · go_wp2_with fail
        go_loopg [11] 6 (fun g i wz => ∃ s : Nat, s ≤ 6 ∧ g = 6 - s ∧ i = .int .u8 s ∧ Hid (NumsIn w wz))
        case atStart => exact ⟨0, by omega, by omega, rfl, HN⟩
        case round =>
        clear HN
        obtain ⟨s, hs, hg4, rfl, HN⟩ := hrel
        by_cases hlt4 : s < 6
        · obtain ⟨m, hm, him⟩ := HN.out.n q hlt
          have Him := hide him
          clear him
          have HBn : Hid (Below wr.heap.size wr ((wr.alloc (.cells #[.string ⟨#[97, 10]⟩] 9)).alloc (.cells #[.string ⟨#[]⟩, .int .u8 s, .string ⟨#[102]⟩, .string ⟨#[116, 101, 120, 116]⟩, .int .i64 0, .slice none 0 0, .slice none 0 0, .int .u8 0, .slice none 0 0, .int .i64 0, .int .i64 0, .string ⟨#[]⟩, .string ⟨#[]⟩, .slice none 0 0, .slice none 0 0,
              .string ⟨#[32]⟩, .int .u8 s, .string ⟨#[102]⟩, .string ⟨#[]⟩, .int .i64 0, .slice none 0 0, .slice none 0 0, .int .u8 0, .slice none 0 0, .int .i64 0, .int .i64 0, .string ⟨#[]⟩, .string ⟨#[]⟩, .slice none 0 0, .slice none 0 0,
              .string ⟨#[120]⟩, .int .u8 s, .string ⟨#[102]⟩, .string ⟨#[]⟩, .int .i64 m, .slice (some ⟨wr.heap.size, 0, none⟩) 1 1, .slice none 0 0, .int .u8 0, .slice none 0 0, .int .i64 0, .int .i64 0, .string ⟨#[]⟩, .string ⟨#[]⟩, .slice none 0 0, .slice none 0 0] 39))) := hide (blw_up (below_alloc _ _) (below_alloc _ _))
          have HBw := hide (HN.out.b.trans (HBn.out.mono HN.out.b.size))
          have HC : Hid (Calls Tryz.prog 3 #[.slice (some ⟨wr.heap.size + 1, 0, none⟩) 3 3] ((wr.alloc (.cells #[.string ⟨#[97, 10]⟩] 9)).alloc (.cells #[.string ⟨#[]⟩, .int .u8 s, .string ⟨#[102]⟩, .string ⟨#[116, 101, 120, 116]⟩, .int .i64 0, .slice none 0 0, .slice none 0 0, .int .u8 0, .slice none 0 0, .int .i64 0, .int .i64 0, .string ⟨#[]⟩, .string ⟨#[]⟩, .slice none 0 0, .slice none 0 0,
              .string ⟨#[32]⟩, .int .u8 s, .string ⟨#[102]⟩, .string ⟨#[]⟩, .int .i64 0, .slice none 0 0, .slice none 0 0, .int .u8 0, .slice none 0 0, .int .i64 0, .int .i64 0, .string ⟨#[]⟩, .string ⟨#[]⟩, .slice none 0 0, .slice none 0 0,
              .string ⟨#[120]⟩, .int .u8 s, .string ⟨#[102]⟩, .string ⟨#[]⟩, .int .i64 m, .slice (some ⟨wr.heap.size, 0, none⟩) 1 1, .slice none 0 0, .int .u8 0, .slice none 0 0, .int .i64 0, .int .i64 0, .string ⟨#[]⟩, .string ⟨#[]⟩, .slice none 0 0, .slice none 0 0] 39)) fun en w' => en = .returned (.bool true) ∧ Below ((wr.alloc (.cells #[.string ⟨#[97, 10]⟩] 9)).alloc (.cells #[.string ⟨#[]⟩, .int .u8 s, .string ⟨#[102]⟩, .string ⟨#[116, 101, 120, 116]⟩, .int .i64 0, .slice none 0 0, .slice none 0 0, .int .u8 0, .slice none 0 0, .int .i64 0, .int .i64 0, .string ⟨#[]⟩, .string ⟨#[]⟩, .slice none 0 0, .slice none 0 0,
              .string ⟨#[32]⟩, .int .u8 s, .string ⟨#[102]⟩, .string ⟨#[]⟩, .int .i64 0, .slice none 0 0, .slice none 0 0, .int .u8 0, .slice none 0 0, .int .i64 0, .int .i64 0, .string ⟨#[]⟩, .string ⟨#[]⟩, .slice none 0 0, .slice none 0 0,
              .string ⟨#[120]⟩, .int .u8 s, .string ⟨#[102]⟩, .string ⟨#[]⟩, .int .i64 m, .slice (some ⟨wr.heap.size, 0, none⟩) 1 1, .slice none 0 0, .int .u8 0, .slice none 0 0, .int .i64 0, .int .i64 0, .string ⟨#[]⟩, .string ⟨#[]⟩, .slice none 0 0, .slice none 0 0] 39)).heap.size ((wr.alloc (.cells #[.string ⟨#[97, 10]⟩] 9)).alloc (.cells #[.string ⟨#[]⟩, .int .u8 s, .string ⟨#[102]⟩, .string ⟨#[116, 101, 120, 116]⟩, .int .i64 0, .slice none 0 0, .slice none 0 0, .int .u8 0, .slice none 0 0, .int .i64 0, .int .i64 0, .string ⟨#[]⟩, .string ⟨#[]⟩, .slice none 0 0, .slice none 0 0,
              .string ⟨#[32]⟩, .int .u8 s, .string ⟨#[102]⟩, .string ⟨#[]⟩, .int .i64 0, .slice none 0 0, .slice none 0 0, .int .u8 0, .slice none 0 0, .int .i64 0, .int .i64 0, .string ⟨#[]⟩, .string ⟨#[]⟩, .slice none 0 0, .slice none 0 0,
              .string ⟨#[120]⟩, .int .u8 s, .string ⟨#[102]⟩, .string ⟨#[]⟩, .int .i64 m, .slice (some ⟨wr.heap.size, 0, none⟩) 1 1, .slice none 0 0, .int .u8 0, .slice none 0 0, .int .i64 0, .int .i64 0, .string ⟨#[]⟩, .string ⟨#[]⟩, .slice none 0 0, .slice none 0 0] 39)) w') :=
            hide (tells_few (S := All) (l := nd3 s m) (nd3_in (by omega) Him.out) (by simp [nd3]) nd3_tiny (HTT.out _ HBw.out).1 (HTT.out _ HBw.out).2)
          generalize hbq : decide ((q : Int) < 9) = bq
          generalize hbr : decide ((r : Int) < 5) = br
          replace hbq := hide hbq
          replace hbr := hide hbr
          go_wp2_with (go_at_call 3; (with_reducible refine HC.out.mono ?_); rintro e1 w1 ⟨rfl, hB⟩; have HB1 := hide (blw_up HBn.out hB); clear hB)
          replace hbq := hbq.out
          replace hbr := hbr.out
          subst hbq hbr
          go_roundg (6 - (s + 1))
          case measure => omega
          case rel => exact ⟨s + 1, by omega, rfl, by go_num, hide (HN.out.below HB1.out)⟩
        · go_wp2_with fail
          go_roundg (5 - (r + 1))
          case measure => omega
          case rel => exact ⟨r + 1, by omega, rfl, by go_num, HN⟩
    · go_wp2_with fail
      go_roundg (9 - (q + 1))
      case measure => omega
      case rel => exact ⟨q + 1, by omega, rfl, by go_num, HN⟩
  · have H0 : Hid (∀ W, Below w.heap.size w W → Calls Tryz.prog 3 #[.slice none 0 0] W fun e w' => e = .returned (.bool true) ∧ Below W.heap.size W w') := hide fun W hW => tells_few (S := All) (A := none) (c := 0) (l := []) trivial (by simp) (by simp) (HTT.out _ hW).1 (HTT.out _ hW).2
    go_wp2_with (first
      | (go_at_call 3; (with_reducible refine (H0.out _ HN.out.b).mono ?_); rintro e1 w1 ⟨rfl, hB⟩; have HB1 := hide (HN.out.b.trans (hB.mono HN.out.b.size)); clear hB)
      | (go_at_call 6; (with_reducible refine (awake_any (HTT.out _ HB1.out).1 (HTT.out _ HB1.out).2).mono ?_); rintro e2 w2 ⟨rfl, hB⟩; have HB2 := hide (HB1.out.trans (hB.mono HB1.out.size)); clear hB))
    go_ret
    exact ⟨rfl, HB2.out⟩

end Go.Proofs.YtadilmijppdpoaaGreatDoor
