/- CodeNumbers: a node, and the patches that it goes through. Printed by gen_nbs.py. -/
import Derived.Deep.AppendLies
import Derived.Test.YtfhfkbdaglegpaaGreatDoorTNb
import Derived.Test.YtfhfkbdaglegpaaGreatDoorTKeep
import Derived.Test.YtfhfkbdaglegpaaGreatDoorTLentB
import Derived.Test.YtfhfkbdaglegpaaGreatDoorTPuts

set_option linter.unusedVariables false
set_option linter.unusedSimpArgs false

namespace Go.Proofs.YtfhfkbdaglegpaaGreatDoor
open Go.RowKit

theorem node24_any {w : World} {k : Int} {t : ByteArray} {n : Int} {A : Option Addr} {l c : Nat} :
    Calls Tryz.prog 23 #[.int .u8 k, .string t, .int .i64 n, .slice A l c] w fun e w' => e = .returned (.agg #[.int .u8 k, .string t, .int .i64 n, .slice A l c]) ∧ Below w.heap.size w w' := by
  go_enter Tryz.func23, Tryz.ntmps23
  go_wp2_with fail
  refine bodyPost_ret (v := .agg #[.int .u8 k, .string t, .int .i64 n, .slice A l c]) ?_ rfl ?_
  · simp only [results, Tryz.results23]
    go_simp
  · exact ⟨rfl, below_alloc _ _⟩
def PSome (w : World) (R : Nat) : Prop := ∃ l : List (Ph × Pt), l.length = 10 ∧ (∀ q ∈ l, GoodP w q) ∧ ∀ j v, (l.flatMap fun q => ptCells q.1 q.2)[j]? = some v → w.cell? ⟨R, j, none⟩ = some v
theorem PSome.below {w w' : World} {R : Nat} (h : PSome w R) (hB : Below w.heap.size w w') : PSome w' R := by
  obtain ⟨l, h0, h1, h2⟩ := h
  exact ⟨l, h0, fun q hq => (h1 q hq).below hB, fun j v hj => (hB.cell (p := ⟨R, j, none⟩) (block_lt_of_cell (h2 j v hj))).trans (h2 j v hj)⟩
theorem wp_name {P : Program} {c : Code} {Q : Exit → Act → World → Prop} {a : Act} {w : World} (h : ∀ W, W = w → Code.wp P c Q a W) : Code.wp P c Q a w := h w rfl
theorem cell_of_stay {w w' : World} {b : Nat} {cs : Array Value} {T : TypeId} {fz : Nat × Nat} (hB : Below w.heap.size w w') (h : w.heap[b]? = some (.cells cs T fz)) (j : Nat) (v : Value) (hj : cs[j]? = some v) : w'.cell? ⟨b, j, none⟩ = some v := by
  rw [Lib.cell_of_heap (nb_stay hB h)]
  exact hj
theorem InfoPt : (Tryz.prog.info? 32).map (fun i => (i.zero, i.size, i.bytes)) = some (some (.agg #[.int .u8 0, .string ⟨#[]⟩, .string ⟨#[]⟩, .int .i64 0, .slice none 0 0, .slice none 0 0, .int .u8 0, .slice none 0 0, .int .i64 0, .int .i64 0, .string ⟨#[]⟩, .string ⟨#[]⟩, .slice none 0 0, .slice none 0 0]), 14, 224) := by kernel_rfl
set_option maxHeartbeats 8000000 in
set_option maxRecDepth 1000000 in
theorem some_any {w : World} : Calls Tryz.prog 20 #[] w fun e w' => Below w.heap.size w w' ∧ ∃ R c, e = .returned (.slice (some ⟨R, 0, none⟩) 10 c) ∧ PSome w' R := by
  go_enter Tryz.func20, Tryz.ntmps20
  go_upto_region 3 with (first
    | (go_at_call 23; (with_reducible refine (node24_any (k := 20)).mono ?_); rintro e w1 ⟨rfl, hB1⟩)
    | (go_at_call 23; (with_reducible refine (node24_any (k := 22)).mono ?_); rintro e w2 ⟨rfl, hB2⟩)
    | (go_at_call 23; (with_reducible refine (node24_any (k := 25)).mono ?_); rintro e w3 ⟨rfl, hB3⟩)
    | (go_at_call 23; (with_reducible refine (node24_any (k := 24)).mono ?_); rintro e w4 ⟨rfl, hB4⟩)
    | (go_at_call 23; (with_reducible refine (node24_any (k := 11)).mono ?_); rintro e w5 ⟨rfl, hB5⟩)
    | (go_at_call 23; (with_reducible refine (node24_any (k := 5)).mono ?_); rintro e w6 ⟨rfl, hB6⟩))
  refine wp_name ?_
  intro WX hWX
  have hWB : Below w6.heap.size w6 WX := by rw [hWX]; exact below_alloc _ _
  have ky := heap_alloc_new w6 (.cells #[.int .u8 5, .string ⟨#[]⟩, .int .i64 0, .slice (some ⟨w5.heap.size + 1, 0, none⟩) 2 2] 55)
  rw [← hWX] at ky
  clear hWX
  have kx := nb_stay (hB6.trans (hWB.mono hB6.size)) (nb_stay (below_alloc _ _) (heap_alloc_new w5 (.cells #[.int .u8 11, .string ⟨#[]⟩, .int .i64 0, .slice (some ⟨w4.heap.size, 0, none⟩) 1 1] 55)))
  have kxr := nb_stay (hB6.trans (hWB.mono hB6.size)) (heap_alloc_new (w5.alloc (.cells #[.int .u8 11, .string ⟨#[]⟩, .int .i64 0, .slice (some ⟨w4.heap.size, 0, none⟩) 1 1] 55)) (.cells #[.int .u8 11, .string ⟨#[]⟩, .int .i64 0, .slice (some ⟨w4.heap.size, 0, none⟩) 1 1, .int .u8 11, .string ⟨#[]⟩, .int .i64 0, .slice (some ⟨w4.heap.size, 0, none⟩) 1 1] 55))
  rw [World.size_alloc] at kxr
  have hW5 : Below w5.heap.size w5 WX := blw_up (below2 _ _) (hB6.trans (hWB.mono hB6.size))
  have k3 := nb_stay (hB5.trans (hW5.mono hB5.size)) (heap_alloc_new w4 (.cells #[.int .u8 24, .string ⟨#[43]⟩, .int .i64 0, .slice (some ⟨w3.heap.size, 0, none⟩) 2 2] 55))
  have hW4 : Below w4.heap.size w4 WX := blw_up (below_alloc _ _) (hB5.trans (hW5.mono hB5.size))
  have k2 := nb_stay (hB4.trans (hW4.mono hB4.size)) (heap_alloc_new w3 (.cells #[.int .u8 20, .string ⟨#[]⟩, .int .i64 9223372036854775807, .slice none 0 0, .int .u8 25, .string ⟨#[102]⟩, .int .i64 0, .slice (some ⟨w2.heap.size, 0, none⟩) 1 1] 55))
  have hW3 : Below w3.heap.size w3 WX := blw_up (below_alloc _ _) (hB4.trans (hW4.mono hB4.size))
  have k1 := nb_stay (hB3.trans (hW3.mono hB3.size)) (heap_alloc_new w2 (.cells #[.int .u8 22, .string ⟨#[97]⟩, .int .i64 0, .slice none 0 0] 55))
  have hW2 : Below w2.heap.size w2 WX := blw_up (below_alloc _ _) (hB3.trans (hW3.mono hB3.size))
  have hW0 : Below w.heap.size w WX := blw_up hB1 (blw_up hB2 hW2)
  have HK := hide (six_nodes k1 k2 k3 kxr)
  have HW := hide hW0
  clear hB1 hB2 hB3 hB4 hB5 hB6 hW5 hW4 hW3 hW2 hW0 hWB k1 k2 k3 kxr
  have KX := hide kx
  have KY := hide ky
  clear kx ky
  go_upto_region 4 with fail
  refine wp_name ?_
  intro WZ hWZ
  obtain ⟨q0, q1, q2, q3, hB, hs⟩ := nb_four hWZ
  clear hWZ
  have HP := hide (five_pts q0 q1 q2)
  have HR := hide q3
  have HZ := hide hB
  have HK2 := hide (And.intro (HK.out.1.below hB) (HK.out.2.below hB))
  have kx := nb_stay hB KX.out
  have ky := nb_stay hB KY.out
  have HX0 := hide (HW.out.trans (hB.mono HW.out.size))
  have HW0 := hide HW.out.size
  clear hs
  have Hsz := hide (Nat.le_trans HW.out.size hB.size)
  clear q0 q1 q2 q3 hB KX KY HK HW
  have x1_0 : ∀ o0, (WZ.alloc o0).cell? ⟨w5.heap.size, 0, none⟩ = some (.int .u8 11) := fun o0 => cell_of_stay (nb_below [o0] WZ).1 kx 0 _ rfl
  have x1_1 : ∀ o0, (WZ.alloc o0).cell? ⟨w5.heap.size, 1, none⟩ = some (.string ⟨#[]⟩) := fun o0 => cell_of_stay (nb_below [o0] WZ).1 kx 1 _ rfl
  have x1_2 : ∀ o0, (WZ.alloc o0).cell? ⟨w5.heap.size, 2, none⟩ = some (.int .i64 0) := fun o0 => cell_of_stay (nb_below [o0] WZ).1 kx 2 _ rfl
  have x1_3 : ∀ o0, (WZ.alloc o0).cell? ⟨w5.heap.size, 3, none⟩ = some (.slice (some ⟨w4.heap.size, 0, none⟩) 1 1) := fun o0 => cell_of_stay (nb_below [o0] WZ).1 kx 3 _ rfl
  have x5_0 : ∀ o0 o1 o2 o3 o4, (((((WZ.alloc o0).alloc o1).alloc o2).alloc o3).alloc o4).cell? ⟨w5.heap.size, 0, none⟩ = some (.int .u8 11) := fun o0 o1 o2 o3 o4 => cell_of_stay (nb_below [o0, o1, o2, o3, o4] WZ).1 kx 0 _ rfl
  have x5_1 : ∀ o0 o1 o2 o3 o4, (((((WZ.alloc o0).alloc o1).alloc o2).alloc o3).alloc o4).cell? ⟨w5.heap.size, 1, none⟩ = some (.string ⟨#[]⟩) := fun o0 o1 o2 o3 o4 => cell_of_stay (nb_below [o0, o1, o2, o3, o4] WZ).1 kx 1 _ rfl
  have x5_2 : ∀ o0 o1 o2 o3 o4, (((((WZ.alloc o0).alloc o1).alloc o2).alloc o3).alloc o4).cell? ⟨w5.heap.size, 2, none⟩ = some (.int .i64 0) := fun o0 o1 o2 o3 o4 => cell_of_stay (nb_below [o0, o1, o2, o3, o4] WZ).1 kx 2 _ rfl
  have x5_3 : ∀ o0 o1 o2 o3 o4, (((((WZ.alloc o0).alloc o1).alloc o2).alloc o3).alloc o4).cell? ⟨w5.heap.size, 3, none⟩ = some (.slice (some ⟨w4.heap.size, 0, none⟩) 1 1) := fun o0 o1 o2 o3 o4 => cell_of_stay (nb_below [o0, o1, o2, o3, o4] WZ).1 kx 3 _ rfl
  have y3_0 : ∀ o0 o1 o2, (((WZ.alloc o0).alloc o1).alloc o2).cell? ⟨w6.heap.size, 0, none⟩ = some (.int .u8 5) := fun o0 o1 o2 => cell_of_stay (nb_below [o0, o1, o2] WZ).1 ky 0 _ rfl
  have y3_1 : ∀ o0 o1 o2, (((WZ.alloc o0).alloc o1).alloc o2).cell? ⟨w6.heap.size, 1, none⟩ = some (.string ⟨#[]⟩) := fun o0 o1 o2 => cell_of_stay (nb_below [o0, o1, o2] WZ).1 ky 1 _ rfl
  have y3_2 : ∀ o0 o1 o2, (((WZ.alloc o0).alloc o1).alloc o2).cell? ⟨w6.heap.size, 2, none⟩ = some (.int .i64 0) := fun o0 o1 o2 => cell_of_stay (nb_below [o0, o1, o2] WZ).1 ky 2 _ rfl
  have y3_3 : ∀ o0 o1 o2, (((WZ.alloc o0).alloc o1).alloc o2).cell? ⟨w6.heap.size, 3, none⟩ = some (.slice (some ⟨w5.heap.size + 1, 0, none⟩) 2 2) := fun o0 o1 o2 => cell_of_stay (nb_below [o0, o1, o2] WZ).1 ky 3 _ rfl
  have y6_0 : ∀ o0 o1 o2 o3 o4 o5, ((((((WZ.alloc o0).alloc o1).alloc o2).alloc o3).alloc o4).alloc o5).cell? ⟨w6.heap.size, 0, none⟩ = some (.int .u8 5) := fun o0 o1 o2 o3 o4 o5 => cell_of_stay (nb_below [o0, o1, o2, o3, o4, o5] WZ).1 ky 0 _ rfl
  have y6_1 : ∀ o0 o1 o2 o3 o4 o5, ((((((WZ.alloc o0).alloc o1).alloc o2).alloc o3).alloc o4).alloc o5).cell? ⟨w6.heap.size, 1, none⟩ = some (.string ⟨#[]⟩) := fun o0 o1 o2 o3 o4 o5 => cell_of_stay (nb_below [o0, o1, o2, o3, o4, o5] WZ).1 ky 1 _ rfl
  have y6_2 : ∀ o0 o1 o2 o3 o4 o5, ((((((WZ.alloc o0).alloc o1).alloc o2).alloc o3).alloc o4).alloc o5).cell? ⟨w6.heap.size, 2, none⟩ = some (.int .i64 0) := fun o0 o1 o2 o3 o4 o5 => cell_of_stay (nb_below [o0, o1, o2, o3, o4, o5] WZ).1 ky 2 _ rfl
  have y6_3 : ∀ o0 o1 o2 o3 o4 o5, ((((((WZ.alloc o0).alloc o1).alloc o2).alloc o3).alloc o4).alloc o5).cell? ⟨w6.heap.size, 3, none⟩ = some (.slice (some ⟨w5.heap.size + 1, 0, none⟩) 2 2) := fun o0 o1 o2 o3 o4 o5 => cell_of_stay (nb_below [o0, o1, o2, o3, o4, o5] WZ).1 ky 3 _ rfl
  have y8_0 : ∀ o0 o1 o2 o3 o4 o5 o6 o7, ((((((((WZ.alloc o0).alloc o1).alloc o2).alloc o3).alloc o4).alloc o5).alloc o6).alloc o7).cell? ⟨w6.heap.size, 0, none⟩ = some (.int .u8 5) := fun o0 o1 o2 o3 o4 o5 o6 o7 => cell_of_stay (nb_below [o0, o1, o2, o3, o4, o5, o6, o7] WZ).1 ky 0 _ rfl
  have y8_1 : ∀ o0 o1 o2 o3 o4 o5 o6 o7, ((((((((WZ.alloc o0).alloc o1).alloc o2).alloc o3).alloc o4).alloc o5).alloc o6).alloc o7).cell? ⟨w6.heap.size, 1, none⟩ = some (.string ⟨#[]⟩) := fun o0 o1 o2 o3 o4 o5 o6 o7 => cell_of_stay (nb_below [o0, o1, o2, o3, o4, o5, o6, o7] WZ).1 ky 1 _ rfl
  have y8_2 : ∀ o0 o1 o2 o3 o4 o5 o6 o7, ((((((((WZ.alloc o0).alloc o1).alloc o2).alloc o3).alloc o4).alloc o5).alloc o6).alloc o7).cell? ⟨w6.heap.size, 2, none⟩ = some (.int .i64 0) := fun o0 o1 o2 o3 o4 o5 o6 o7 => cell_of_stay (nb_below [o0, o1, o2, o3, o4, o5, o6, o7] WZ).1 ky 2 _ rfl
  have y8_3 : ∀ o0 o1 o2 o3 o4 o5 o6 o7, ((((((((WZ.alloc o0).alloc o1).alloc o2).alloc o3).alloc o4).alloc o5).alloc o6).alloc o7).cell? ⟨w6.heap.size, 3, none⟩ = some (.slice (some ⟨w5.heap.size + 1, 0, none⟩) 2 2) := fun o0 o1 o2 o3 o4 o5 o6 o7 => cell_of_stay (nb_below [o0, o1, o2, o3, o4, o5, o6, o7] WZ).1 ky 3 _ rfl
  go_upto_region 5 with fail
  clear x1_0 x1_1 x1_2 x1_3 x5_0 x5_1 x5_2 x5_3 y3_0 y3_1 y3_2 y3_3 y6_0 y6_1 y6_2 y6_3 y8_0 y8_1 y8_2 y8_3
  refine wp_name ?_
  intro WE hWE
  obtain ⟨⟨e0, e1, e2, e3, e4, e5, e6, e7, e8, e9⟩, hB⟩ := nb_ten hWE
  clear hWE
  have HE := hide (five_eds (HK2.out.1.below hB) (HK2.out.2.below hB) e0 e1 e2 e3 e4 e5 e6 e7 e8)
  have HEc := hide (fun j => Lib.cell_of_heap e9 j)
  have HO := hide (own_here (n := 5) (size := 14) (base := w.heap.size) (xs := (fiveQ WX.heap.size (WX.heap.size + 1) (WX.heap.size + 1 + 1)).flatMap fun q => ptCells q.1 q.2) (nb_stay hB HR.out) (Nat.le_trans HW0.out (by omega)) (by unfold maxLen; omega) rfl rfl)
  have HE2 := hide (eds_cells e9 (l := edsQ WZ.heap.size (WZ.heap.size + 1) (WZ.heap.size + 1 + 1) (WZ.heap.size + 1 + 1 + 1) (WZ.heap.size + 1 + 1 + 1 + 1) (WZ.heap.size + 1 + 1 + 1 + 1 + 1) (WZ.heap.size + 1 + 1 + 1 + 1 + 1 + 1) (WZ.heap.size + 1 + 1 + 1 + 1 + 1 + 1 + 1) (WZ.heap.size + 1 + 1 + 1 + 1 + 1 + 1 + 1 + 1)) rfl HE.out)
  have HL : Hid (∃ l : List (Ph × Pt), l.length = 5 + 0 ∧ (∀ q ∈ l, GoodP WE q) ∧ WE.ownsRow w.heap.size 32 14 (.slice (some ⟨WX.heap.size + 1 + 1 + 1, 0, none⟩) 5 5) (5 + 0) (l.flatMap fun q => ptCells q.1 q.2)) := hide ⟨_, rfl, fun q hq => (HP.out q hq).below hB, HO.out⟩
  have HWE := hide (HX0.out.trans (hB.mono Hsz.out))
  clear e0 e1 e2 e3 e4 e5 e6 e7 e8 e9 hB HE HEc HO HP HR HK2 HX0 Hsz HW0
  generalize WX.heap.size + 1 + 1 + 1 = RB at HL ⊢
  generalize WZ.heap.size + 1 + 1 + 1 + 1 + 1 + 1 + 1 + 1 + 1 = EB at HE2 ⊢
  go_wp2_with fail
  go_loopg [3, 5] 5 (fun g v k wx => ∃ r : Nat, r ≤ 5 ∧ g = 5 - r ∧ k = .int .i64 r ∧ Hid (Below WE.heap.size WE wx) ∧ Hid (∃ l : List (Ph × Pt), l.length = 5 + r ∧ (∀ q ∈ l, GoodP WE q) ∧ wx.ownsRow w.heap.size 32 14 v (5 + r) (l.flatMap fun q => ptCells q.1 q.2)) ∧ Hid (∀ g, v.ownBlock = some g → WE.heap.size ≤ g ∨ v = .slice (some ⟨g, 0, none⟩) (5 + r) (5 + r)))
  case atStart => exact ⟨0, by omega, by omega, rfl, hide (Below.refl _ _), HL, hide fun g hg => by (have e : RB = g := by simpa [Value.ownBlock] using hg); subst e; exact .inr rfl⟩
  case round =>
  clear HL
  obtain ⟨r, hr, hg, rfl, HB, HL, HV⟩ := hrel
  obtain ⟨l, hl, hgood, hown⟩ := HL.out
  obtain ⟨Av, cv, rfl⟩ := own_shape hown
  have Hg := hide hgood
  have Ho := hide hown
  clear HL hgood hown
  have hz := HB.out.size
  have hz2 : w.heap.size ≤ wr.heap.size := Nat.le_trans HWE.out.size hz
  by_cases hlt : r < 5
  · obtain ⟨q, hq, hge⟩ := HE2.out r hlt
    have HQ := hide hge
    have hc : ∀ j v, (edCells q.1 q.2)[j]? = some v → wr.cell? ⟨EB, r * 8 + j, none⟩ = some v := fun j v hj => (HB.out.cell (p := ⟨EB, r * 8 + j, none⟩) (block_lt_of_cell (hq j v hj))).trans (hq j v hj)
    have e0 : wr.cell? ⟨EB, r * 8, none⟩ = some (.int .u8 q.2.kind) := hc 0 _ rfl
    have e1 : wr.cell? ⟨EB, r * 8 + 1, none⟩ = some (.slice q.1.pA q.2.path.length q.1.pc) := hc 1 _ rfl
    have e2 : wr.cell? ⟨EB, r * 8 + 2, none⟩ = some (.int .i64 q.2.at_) := hc 2 _ rfl
    have e3 : wr.cell? ⟨EB, r * 8 + 3, none⟩ = some (.int .i64 q.2.far) := hc 3 _ rfl
    have e4 : wr.cell? ⟨EB, r * 8 + 4, none⟩ = some (.string q.2.frm) := hc 4 _ rfl
    have e5 : wr.cell? ⟨EB, r * 8 + 5, none⟩ = some (.string q.2.to) := hc 5 _ rfl
    have e6 : wr.cell? ⟨EB, r * 8 + 6, none⟩ = some (.slice q.1.oA q.2.old.len q.1.oc) := hc 6 _ rfl
    have e7 : wr.cell? ⟨EB, r * 8 + 7, none⟩ = some (.slice q.1.nA q.2.new.len q.1.nc) := hc 7 _ rfl
    clear hq hge hc
    go_wp2_with (at_builtin; refine wpList_row rfl _ _ 49 rfl w.heap.size 32 Tryz.underlying49 InfoPt rfl (by decide) _ (5 + r) _ rfl (Ho.out.alloc _) (some ⟨wr.heap.size, 0, none⟩) 1 1 (ptCells ⟨⟨none, 0, none, 0⟩, q.1⟩ ⟨4, sMain, noTxt, Hk.zero, q.2⟩) rfl (by simp) rfl (fun ad e => by injection e with e; subst e; exact fun j u hu => cells_newL wr hu) (by simp [Value.oneCell', ptCells]) (by unfold maxLen; omega) (by omega) (Nat.le_trans hz2 (by simp)) ?_)
    intro v' w' hown' hgr hwent
    have hap := app_below hgr hwent (Ho.out.alloc _) hown' HV.out (by omega) (Nat.le_trans hz (by simp))
    have HO2 := hide hown'
    have HV2 := hide hap.2
    have HB2 := hide (HB.out.trans ((below_alloc wr _).mono hz |>.trans hap.1))
    clear hown' hgr hwent hap e0 e1 e2 e3 e4 e5 e6 e7
    go_wp2_with fail
    go_roundg (5 - (r + 1))
    case measure => omega
    case rel =>
      refine ⟨r + 1, by omega, rfl, by go_num, HB2, hide ⟨l ++ [(⟨⟨none, 0, none, 0⟩, q.1⟩, ⟨4, sMain, noTxt, Hk.zero, q.2⟩)], by rw [List.length_append, hl]; rfl, fun q' hq' => ?_, ?_⟩, hide fun g hg => .inl (HV2.out g hg)⟩
      · rcases List.mem_append.1 hq' with h | h
        · exact Hg.out q' h
        · rw [List.mem_singleton] at h
          subst h
          exact HQ.out.pt
      · rw [List.flatMap_append, List.flatMap_singleton]
        exact HO2.out
  · have e : r = 5 := by omega
    subst e
    obtain ⟨g, cap, e1, hg1, hg2⟩ := World.ownsRow.form Ho.out (by omega)
    injection e1 with e1 e2 e3
    subst e1
    go_wp2_with fail
    have hPS : PSome wr g := ⟨l, hl, fun q hq => (Hg.out q hq).below HB.out, fun j v hj => by rw [World.ownsRow.cellAt Ho.out j (by have h1 := Ho.out.1; have h2 := (List.getElem?_eq_some_iff.1 hj).1; omega)]; exact hj⟩
    have hBB := blw_up HWE.out HB.out
    refine bodyPost_ret (v := .slice (some ⟨g, 0, none⟩) 10 cv) ?_ rfl ?_
    · simp only [results, Tryz.results20]
      go_simp
    · exact ⟨hBB, g, ⟨cv, rfl⟩, hPS⟩

end Go.Proofs.YtfhfkbdaglegpaaGreatDoor

namespace Go.Proofs.YtfhfkbdaglegpaaGreatDoor
open Go.RowKit

theorem copy_own {S : Nat → Prop} {w : World} {A : Option Addr} {n c : Nat} {l : List UInt8} (hb : BytesIn S w A l) (hn : l.length = n) (hlen : n ≤ lid) :
    Calls Tryz.prog 22 #[.slice A n c] w fun e w' => ∃ v, e = .returned v ∧ Own8 w.heap.size w' v l ∧ Below w.heap.size w w' := by
  subst hn
  refine (copyBytes_any hb hlen).mono ?_
  rintro e w' ⟨v, rfl, h, hg, hB⟩
  refine ⟨v, rfl, ⟨h.1, ?_⟩, hB⟩
  rcases h.2 with hh | ⟨g, cap, cur, rfl, _, h2⟩
  · exact .inl hh
  · exact .inr ⟨g, cap, cur, rfl, hg g rfl, h2⟩
theorem wpList_unguard {P : Program} {ops : Array Oper} {rest : List Oper} {dst : Option Tmp} {op : Op} {type : TypeId} {pos : String} {after : Array Edge} {g : Option (Nat × Bool)} {a : Act} {w : World} {Q : Exit → Act → World → Prop}
    (hw : Region.wanted ⟨dst, op, type, pos, after, g⟩ (yielded ops a.tmps) = true) (h : wpList P ops Q (⟨dst, op, type, pos, after, none⟩ :: rest) a w) : wpList P ops Q (⟨dst, op, type, pos, after, g⟩ :: rest) a w := by
  unfold wpList at h ⊢
  rw [if_pos hw]
  rw [if_pos (by simp [Region.wanted])] at h
  exact h
theorem xor_byte (a b : Int) : ∃ z : UInt8, bits .xor .u8 a b = (z.toNat : Int) := by
  refine ⟨UInt8.ofNat ((BitVec.ofInt 8 a ^^^ BitVec.ofInt 8 b).toNat), ?_⟩
  have h := (BitVec.ofInt 8 a ^^^ BitVec.ofInt 8 b).isLt
  show IntKind.u8.wrap ((BitVec.ofInt 8 a ^^^ BitVec.ofInt 8 b).toNat : Int) = _
  generalize (BitVec.ofInt 8 a ^^^ BitVec.ofInt 8 b).toNat = m at h ⊢
  simp [IntKind.wrap, IntKind.bits, IntKind.signed]
theorem set_bytes {w WS : World} {B g j cap : Nat} {L : List UInt8} {z : UInt8} (ho : Own8 B w (.slice (some ⟨g, 0, none⟩) L.length cap) L) (hW : WS = (w.setCell ⟨g, j, none⟩ (.int .u8 (z.toNat : Int))).drew) :
    ∃ M : List UInt8, M.length = L.length ∧ BytesIn AnyB WS (some ⟨g, 0, none⟩) M ∧ L.length ≤ cap ∧ cap ≤ 9223372036854775807 := by
  have h1 := (World.ownsRow.stored ho j (.int .u8 (z.toNat : Int))).1
  have e : (bytesV L).set j (.int .u8 (z.toNat : Int)) = bytesV (L.set j z) := by simp [bytesV, List.map_set]
  rw [e] at h1
  have h2 : Own8 B WS (.slice (some ⟨g, 0, none⟩) L.length cap) (L.set j z) := by
    rw [hW]
    unfold Own8
    rw [List.length_set]
    exact h1
  obtain ⟨A, c, e2, h3, h4, h5⟩ := h2.bytes (S := AnyB) (fun _ _ => trivial)
  injection e2 with e2 e3 e4
  subst e2 e4
  exact ⟨L.set j z, List.length_set, h3, by rwa [List.length_set] at h4, h5⟩
theorem put_ok {w : World} {q : Ph × Pt} (h : GoodP w q) (htab : TabOk w) : Calls Tryz.prog 9 #[.agg #[.int .u8 q.2.kind, .string q.2.file, .string q.2.text, .int .i64 q.2.hunk.at_, .slice q.1.h.oA q.2.hunk.old.length q.1.h.oc, .slice q.1.h.nA q.2.hunk.new.length q.1.h.nc, .int .u8 q.2.edit.kind, .slice q.1.e.pA q.2.edit.path.length q.1.e.pc, .int .i64 q.2.edit.at_, .int .i64 q.2.edit.far, .string q.2.edit.frm, .string q.2.edit.to, .slice q.1.e.oA q.2.edit.old.len q.1.e.oc, .slice q.1.e.nA q.2.edit.new.len q.1.e.nc]] w fun e w' => Below w.heap.size w w' ∧ ∃ A c, e = .returned (.tuple #[.slice A (ptB q.2).length c, .int .i64 0]) ∧ Own8 w.heap.size w' (.slice A (ptB q.2).length c) (ptB q.2) := by
  refine (put_own h.1 htab (by have := h.2.2.2; omega) (Nat.le_trans h.2.2.1 (by decide))).mono ?_
  rintro e w' ⟨hB, ⟨_, v, rfl, ho⟩ | ⟨hno, _⟩⟩
  · obtain ⟨A, c, rfl⟩ := ho.shape
    exact ⟨hB, A, c, rfl, ho⟩
  · exact absurd h.2.1 hno
theorem put24_ok {w : World} {q : Ph × Pt} (h : GoodP w q) : Calls Tryz.prog 10 #[.agg #[.int .u8 q.2.kind, .string q.2.file, .string q.2.text, .int .i64 q.2.hunk.at_, .slice q.1.h.oA q.2.hunk.old.length q.1.h.oc, .slice q.1.h.nA q.2.hunk.new.length q.1.h.nc, .int .u8 q.2.edit.kind, .slice q.1.e.pA q.2.edit.path.length q.1.e.pc, .int .i64 q.2.edit.at_, .int .i64 q.2.edit.far, .string q.2.edit.frm, .string q.2.edit.to, .slice q.1.e.oA q.2.edit.old.len q.1.e.oc, .slice q.1.e.nA q.2.edit.new.len q.1.e.nc]] w fun e w' => Below w.heap.size w w' ∧ ∃ A c, e = .returned (.tuple #[.slice A (ptB q.2).length c, .int .i64 0]) ∧ Own8 w.heap.size w' (.slice A (ptB q.2).length c) (ptB q.2) := by
  refine (put24_any h.1 (Nat.le_trans h.2.2.1 (by decide))).mono ?_
  rintro e w' ⟨hB, ⟨_, v, rfl, ho⟩ | ⟨hno, _⟩⟩
  · obtain ⟨A, c, rfl⟩ := ho.shape
    exact ⟨hB, A, c, rfl, ho⟩
  · exact absurd h.2.1 hno

/-! ### nodes within one another -/
def DeepAt (w : World) (DB m : Nat) : Prop := ∃ (k : Nat) (t : ByteArray) (nn : Int) (ks : Fo) (KA : Option Addr) (c : Nat), deepFo m = .cons k t nn ks .nil ∧ w.heap[DB]? = some (.cells #[.int .u8 k, .string t, .int .i64 nn, .slice KA ks.len c] 55) ∧
  k < 256 ∧ t.size ≤ 9223372036854775807 ∧ isInt64 nn ∧ ks.len ≤ c ∧ c ≤ 9223372036854775807 ∧ FoIn (fun b => b ≠ DB) w KA ks
theorem deep_fo_size : ∀ m, (foB (deepFo m)).length = 26 * m + 25
  | 0 => by
    unfold deepFo
    rw [foB_size]
    rfl
  | m + 1 => by
    unfold deepFo
    rw [foB_size, deep_fo_size m]
    show 25 + 1 + (26 * m + 25) + 0 = _
    omega
theorem deep_cnt : ∀ m, (deepFo m).cnt = m + 1
  | 0 => rfl
  | m + 1 => by
    unfold deepFo
    simp only [Fo.cnt, deep_cnt m]
    omega
theorem deep_size (m : Nat) : (ptB (deepPt m)).length = 26 * m + 92 := by
  have h1 := pathB_rows []
  have h2 := nodes_len .nil
  have h3 := nodes_len (deepFo m)
  rw [deep_fo_size] at h3
  rw [List.length_nil] at h1
  have h4 : (foB .nil).length = 0 := rfl
  have h8 : (ptB (deepPt m)).length = 1 + (8 + 1) + (1 + (pathB []).length + 16 + 8 + 8 + (nodesB .nil).length + (nodesB (deepFo m)).length) := by
    show (ptB ⟨4, ⟨#[97]⟩, noTxt, Hk.zero, ⟨2, [], 0, 0, noTxt, noTxt, .nil, deepFo m⟩⟩).length = _
    unfold ptB edB
    simp only [if_neg (show ¬ (4 : Nat) = 3 by omega), if_pos, List.length_cons, List.length_append, n8, txt_len]
    show 8 + 1 + ((pathB []).length + (8 + (8 + (8 + 0 + (8 + 0 + ((nodesB .nil).length + (nodesB (deepFo m)).length))))) + 1) + 1 = _
    omega
  omega
theorem deep_row {w W : World} {m NB : Nat} {k : Nat} {t : ByteArray} {nn : Int} {ks : Fo} {KA : Option Addr} {c : Nat} {S : Nat → Prop} {T : TypeId} {fz : Nat × Nat} (he : deepFo m = .cons k t nn ks .nil) (hk : k < 256) (ht : t.size ≤ 9223372036854775807) (hn : isInt64 nn) (hc : ks.len ≤ c) (hc2 : c ≤ 9223372036854775807) (hf : FoIn S w KA ks) (hB : Below w.heap.size w W)
    (hr : W.heap[NB]? = some (.cells #[.int .u8 k, .string t, .int .i64 nn, .slice KA ks.len c] T fz)) (hS : S NB) : FoIn S W (some ⟨NB, 0, none⟩) (deepFo m) := by
  rw [he]
  have hx := Lib.cell_of_heap hr
  exact ⟨NB, 0, KA, c, rfl, hS, hx 0, hx 1, hx 2, hx 3, hk, ht, hn, hc, hc2, hf.below hB, trivial⟩
theorem deep_in {w : World} {NB m : Nat} (h : FoIn AnyB w (some ⟨NB, 0, none⟩) (deepFo m)) : PtIn AnyB w ⟨⟨none, 0, none, 0⟩, ⟨none, 0, none, 0, some ⟨NB, 0, none⟩, 1⟩⟩ (deepPt m) := by
  obtain ⟨i0, _⟩ := z64s
  have hz := patZero_in (S := AnyB) (w := w)
  exact ⟨by show (4 : Nat) < 256; omega, by show (1 : Nat) ≤ _; omega, by show (0 : Nat) ≤ _; omega, hz.hunk, ⟨by show (2 : Nat) < 256; omega, hz.edit.path, i0, i0, by show (0 : Nat) ≤ _; omega, by show (0 : Nat) ≤ _; omega, trivial, h, ⟨by show (0 : Nat) ≤ 0; omega, by show (0 : Nat) ≤ _; omega⟩, ⟨by show (0 : Nat) ≤ 0; omega, by show (0 : Nat) ≤ _; omega⟩, ⟨by show (deepFo m).len ≤ 1; rw [deep_len]; omega, by show (1 : Nat) ≤ _; omega⟩⟩⟩
theorem deep_put {w : World} {NB m : Nat} (h : FoIn AnyB w (some ⟨NB, 0, none⟩) (deepFo m)) (hm : m ≤ 42) (htab : TabOk w) : Calls Tryz.prog 9 #[.agg #[.int .u8 4, .string ⟨#[97]⟩, .string ⟨#[]⟩, .int .i64 0, .slice none 0 0, .slice none 0 0, .int .u8 2, .slice none 0 0, .int .i64 0, .int .i64 0, .string ⟨#[]⟩, .string ⟨#[]⟩, .slice none 0 0, .slice (some ⟨NB, 0, none⟩) 1 1]] w fun e w' => Below w.heap.size w w' ∧
    ((m < 40 ∧ ∃ A c, e = .returned (.tuple #[.slice A (ptB (deepPt m)).length c, .int .i64 0]) ∧ Own8 w.heap.size w' (.slice A (ptB (deepPt m)).length c) (ptB (deepPt m))) ∨ (¬ m < 40 ∧ e = .returned (.tuple #[.slice none 0 0, .int .i64 4]))) := by
  have h1 := put_own (deep_in h) htab (by show (0 : Nat) + 0 ≤ _; omega) (by rw [deep_size]; unfold lid; omega)
  have e : (deepPt m).edit.new.len = 1 := deep_len m
  rw [e] at h1
  refine Calls.mono (show Calls Tryz.prog 9 #[.agg #[.int .u8 4, .string ⟨#[97]⟩, .string ⟨#[]⟩, .int .i64 0, .slice none 0 0, .slice none 0 0, .int .u8 2, .slice none 0 0, .int .i64 0, .int .i64 0, .string ⟨#[]⟩, .string ⟨#[]⟩, .slice none 0 0, .slice (some ⟨NB, 0, none⟩) 1 1]] w _ from h1) ?_
  rintro e w' ⟨hB, ⟨ho, v, rfl, hv⟩ | ⟨ho, rfl⟩⟩
  · obtain ⟨A, c, rfl⟩ := hv.shape
    exact ⟨hB, .inl ⟨deep_ok.1 ho, A, c, rfl, hv⟩⟩
  · exact ⟨hB, .inr ⟨fun hh => ho (deep_ok.2 hh), rfl⟩⟩
theorem deep_puts {w : World} {NB m : Nat} (h : FoIn AnyB w (some ⟨NB, 0, none⟩) (deepFo m)) (hm : m ≤ 42) (htab : TabOk w) : Calls Tryz.prog 3 #[.agg #[.int .u8 4, .string ⟨#[97]⟩, .string ⟨#[]⟩, .int .i64 0, .slice none 0 0, .slice none 0 0, .int .u8 2, .slice none 0 0, .int .i64 0, .int .i64 0, .string ⟨#[]⟩, .string ⟨#[]⟩, .slice none 0 0, .slice (some ⟨NB, 0, none⟩) 1 1]] w fun e w' => e = .returned (.bool true) ∧ Below w.heap.size w w' := by
  have h1 := codePuts_any (deep_in h) htab (by show (0 : Nat) + 0 ≤ _; omega) (by rw [deep_size]; omega) (by show (0 : Nat) ≤ _; omega) (by show (0 : Nat) ≤ _; omega) (by show (0 : Nat) ≤ _; omega) (by show (0 : Nat) ≤ _; omega) (by show (deepFo m).cnt ≤ _; rw [deep_cnt]; omega)
  have e : (deepPt m).edit.new.len = 1 := deep_len m
  rw [e] at h1
  exact h1
theorem zero_puts {w : World} (htab : TabOk w) : Calls Tryz.prog 3 #[.agg #[.int .u8 0, .string ⟨#[]⟩, .string ⟨#[]⟩, .int .i64 0, .slice none 0 0, .slice none 0 0, .int .u8 0, .slice none 0 0, .int .i64 0, .int .i64 0, .string ⟨#[]⟩, .string ⟨#[]⟩, .slice none 0 0, .slice none 0 0]] w fun e w' => e = .returned (.bool true) ∧ Below w.heap.size w w' :=
  codePuts_any (S := AnyB) (p := Pt.zero) (x := ⟨⟨none, 0, none, 0⟩, zEh⟩) patZero_in htab (by decide) (by decide) (by decide) (by decide) (by decide) (by decide) (by decide)
theorem ab_puts {w : World} (htab : TabOk w) : Calls Tryz.prog 3 #[.agg #[.int .u8 1, .string ⟨#[97, 32, 98]⟩, .string ⟨#[]⟩, .int .i64 0, .slice none 0 0, .slice none 0 0, .int .u8 0, .slice none 0 0, .int .i64 0, .int .i64 0, .string ⟨#[]⟩, .string ⟨#[]⟩, .slice none 0 0, .slice none 0 0]] w fun e w' => e = .returned (.bool true) ∧ Below w.heap.size w w' :=
  codePuts_any (S := AnyB) (p := ⟨1, ⟨#[97, 32, 98]⟩, noTxt, Hk.zero, Ed.zero⟩) (x := ⟨⟨none, 0, none, 0⟩, zEh⟩) ⟨by decide, by decide, by decide, patZero_in.hunk, patZero_in.edit⟩ htab (by decide) (by decide) (by decide) (by decide) (by decide) (by decide) (by decide)
theorem deep_next {w W W' : World} {DB m NB : Nat} {k : Nat} {t : ByteArray} {nn : Int} {ks : Fo} {KA : Option Addr} {c : Nat} {T : TypeId} {fz : Nat × Nat} (he : deepFo m = .cons k t nn ks .nil) (hd : w.heap[DB]? = some (.cells #[.int .u8 k, .string t, .int .i64 nn, .slice KA ks.len c] 55))
    (hk : k < 256) (ht : t.size ≤ 9223372036854775807) (hn : isInt64 nn) (hc : ks.len ≤ c) (hc2 : c ≤ 9223372036854775807) (hf : FoIn (fun b => b ≠ DB) w KA ks) (hB : Below w.heap.size w W) (hr : W.heap[NB]? = some (.cells #[.int .u8 k, .string t, .int .i64 nn, .slice KA ks.len c] T fz)) (hNB : w.heap.size ≤ NB)
    (hW : W' = (((W.setCell ⟨DB, 0, none⟩ (.int .u8 23)).setCell ⟨DB, 1, none⟩ (.string ⟨#[45]⟩)).setCell ⟨DB, 2, none⟩ (.int .i64 0)).setCell ⟨DB, 3, none⟩ (.slice (some ⟨NB, 0, none⟩) 1 1)) : DeepAt W' DB (m + 1) := by
  have hlt : DB < w.heap.size := (Array.getElem?_eq_some_iff.1 hd).1
  have hne : NB ≠ DB := by omega
  have h0 := nb_stay hB hd
  have h1 := heap_setCell_same W DB 0 _ _ (.int .u8 23) h0
  have h2 := heap_setCell_same _ DB 1 _ _ (.string ⟨#[45]⟩) h1
  have h3 := heap_setCell_same _ DB 2 _ _ (.int .i64 0) h2
  have h4 := heap_setCell_same _ DB 3 _ _ (.slice (some ⟨NB, 0, none⟩) 1 1) h3
  rw [← hW] at h4
  have hoth : ∀ b, b ≠ DB → W'.heap[b]? = W.heap[b]? := fun b hb => by
    rw [hW, Below.heap_setCell _ _ _ _ hb, Below.heap_setCell _ _ _ _ hb, Below.heap_setCell _ _ _ _ hb, Below.heap_setCell _ _ _ _ hb]
  obtain ⟨i0, _⟩ := z64s
  have hfo : FoIn (fun b => b ≠ DB) W (some ⟨NB, 0, none⟩) (deepFo m) := deep_row he hk ht hn hc hc2 hf hB hr hne
  refine ⟨23, ⟨#[45]⟩, 0, deepFo m, some ⟨NB, 0, none⟩, 1, rfl, ?_, by omega, by decide, i0, by rw [deep_len]; omega, by omega, hfo.keep hoth⟩
  rw [h4, deep_len]
  rfl
theorem own_some {B n : Nat} {w : World} {v : Value} {l : List UInt8} (h : Own8 B w v l) (hn : l.length = n) : ∃ A c, v = .slice A n c ∧ BytesIn AnyB w A l ∧ n ≤ c ∧ c ≤ 9223372036854775807 := by
  subst hn
  exact h.bytes fun _ _ => trivial
theorem own_this {B n c : Nat} {A : Option Addr} {w : World} {l : List UInt8} (h : Own8 B w (.slice A n c) l) (hn : l.length = n) : BytesIn AnyB w A l ∧ n ≤ c ∧ c ≤ 9223372036854775807 := by
  obtain ⟨A1, c1, e, h1, h2, h3⟩ := own_some h hn
  cases e
  exact ⟨h1, h2, h3⟩
def l26 : List UInt8 := [23, 0, 0, 0, 0, 0, 0, 0, 1, 45, 0, 0, 0, 0, 0, 0, 0, 0, 0, 0, 0, 0, 0, 0, 0, 1]
theorem l26_own {w : World} {cs : Array Value} (h : cs.toList = bytesV l26) : Own8 w.heap.size (w.alloc (.cells cs 5)) (.slice (some ⟨w.heap.size, 0, none⟩) 26 26) l26 := by
  have hz : cs.size = 26 * 1 := by
    have : cs.toList.length = 26 := by rw [h]; rfl
    simpa using this
  have h1 := World.ownsRow_lit (base := w.heap.size) (e := 5) (size := 1) w cs 26 (Nat.le_refl _) (by unfold maxLen; omega) hz
  rw [h] at h1
  exact h1
theorem gets_nil {w : World} (htab : TabOk w) : Calls Tryz.prog 21 #[.slice none 0 0] w fun e w' => e = .returned (.bool true) ∧ Below w.heap.size w w' :=
  gets_any (S := AnyB) (l := []) ⟨.inl rfl, Nat.zero_le _⟩ rfl (Nat.le_refl _) (Nat.zero_le _) (Nat.zero_le _) htab
def l17 : List UInt8 := List.replicate 17 0
theorem own17 {w : World} {B : Nat} {v : Value} (h : w.ownsRow B 5 1 v 17 (madeCells (Value.int .u8 0).cells (17 * 1)).toList) : Own8 B w v l17 := by
  have e : (madeCells (Value.int .u8 0).cells (17 * 1)).toList = bytesV l17 := by
    show (madeCells #[Value.int .u8 0] 17).toList = _
    rw [toList_madeCells_one]
    rfl
  rw [e] at h
  exact h
/-- bytes appended to an own row, in a walk -/
theorem wpList_own8b {ops : Array Oper} {rest : List Oper} {o : Oper} {a : Act} {K0 : Exit → Act → World → Prop} {w : World} (hgd : o.guard = none) (s x : Operand)
    (ho : o.op = .call { callee := .builtin .append, args := #[s, x], argTypes := #[36, 36] })
    {S : Nat → Prop} (B : Nat) (v : Value) (A : Option Addr) (m c : Nat) (l l2 : List UInt8) (hs : a.eval s = v) (hown : Own8 B w v l) (hx : a.eval x = .slice A m c) (h2 : BytesIn S w A l2) (hm : l2.length = m) (hlen : l.length + m ≤ lidB) (hB : B ≤ w.heap.size)
    (h : ∀ v' w', Own8 B w' v' (l ++ l2) → Below B w w' → wpList Tryz.prog ops K0 rest (a.put o.dst v') w') : wpList Tryz.prog ops K0 (o :: rest) a w := by
  subst hm
  have hA : A = none → l2.length = 0 := by
    rintro rfl
    rcases h2.1 with h | ⟨b, o, h, _⟩
    · have : l2 = [] := by simpa [bytesV] using h
      rw [this]
      rfl
    · cases h
  have hc : ∀ ad, A = some ad → ∀ j u, (bytesV l2)[j]? = some u → w.cell? (ad.add j) = some u := by
    rintro ad rfl j u hu
    rcases h2.1 with h | ⟨b, o, h, _, hc⟩
    · rw [h] at hu; simp at hu
    · injection h with h
      subst h
      rw [Addr.add_lit]
      exact hc j u hu
  refine wpList_row hgd s x 36 ho B 5 Tryz.underlying36 Tryu8b rfl (by decide) v l.length (bytesV l) hs hown A l2.length c (bytesV l2) hx hA (by simp [bytesV]) hc (by intro u hu; simp [bytesV] at hu; obtain ⟨y, _, rfl⟩ := hu; rfl) (by unfold maxLen; simp only [lidB] at hlen; omega) (by simp only [lidB] at hlen; omega) hB fun v' w' h3 hg _ => h v' w' ?_ ((Below.refl _ _).grown hg hB fun k hk => (World.ownsRow.lt hown k hk).1)
  unfold Own8
  rw [bytesV_app8, List.length_append]
  exact h3

end Go.Proofs.YtfhfkbdaglegpaaGreatDoor
