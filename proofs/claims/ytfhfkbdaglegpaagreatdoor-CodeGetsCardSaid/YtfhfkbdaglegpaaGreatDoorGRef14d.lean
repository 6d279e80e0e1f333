/- When is an edit right, as the document tells (ref14.Right)? The fourth kind, and all. Printed by gen_ref14.py. -/
import Derived.Deep.RegionHeld
import Derived.Test.YtfhfkbdaglegpaaGreatDoorGRef14
import Derived.Test.YtfhfkbdaglegpaaGreatDoorGBase

set_option linter.unusedVariables false
set_option linter.unusedSimpArgs false

namespace Go.Proofs.YtfhfkbdaglegpaaGreatDoor
open Go.RowKit

theorem ret_yes {f : Nat} {args : Array Value} {w : World} {P : Prop} {Q : World → Prop} (h : Calls Tryz.prog f args w fun e w' => RetB P e ∧ Q w') (hp : P) : Calls Tryz.prog f args w fun e w' => e = .returned (.bool true) ∧ Q w' :=
  h.mono fun _ _ ⟨⟨_, e, hb⟩, hq⟩ => ⟨by rw [e, hb.2 hp], hq⟩
theorem ret_no {f : Nat} {args : Array Value} {w : World} {P : Prop} {Q : World → Prop} (h : Calls Tryz.prog f args w fun e w' => RetB P e ∧ Q w') (hp : ¬ P) : Calls Tryz.prog f args w fun e w' => e = .returned (.bool false) ∧ Q w' :=
  h.mono fun _ _ ⟨⟨b, e, hb⟩, hq⟩ => ⟨by cases b with | false => exact e | true => exact absurd (hb.1 rfl) hp, hq⟩
theorem part_is {f : Fo} (h : PartOk f) : ∃ k t n ks, f = .cons k t n ks .nil := by
  match f, h with
  | .cons k t n ks .nil, _ => exact ⟨k, t, n, ks, rfl⟩

set_option maxHeartbeats 4000000 in
set_option maxRecDepth 100000 in
theorem edRight14_4a {S : Nat → Prop} {x : Eh} {e : Ed} {w : World} (he : EdIn S w x e) (h0 : ¬ ({ e with kind := 4 } : Ed) = ⟨4, e.path, 0, 0, ⟨#[]⟩, ⟨#[]⟩, e.old, e.new⟩) :
    Calls Tryz.prog 60 #[.agg #[.int .u8 4, .slice x.pA e.path.length x.pc, .int .i64 e.at_, .int .i64 e.far, .string e.frm, .string e.to, .slice x.oA e.old.len x.oc, .slice x.nA e.new.len x.nc]] w fun e1 w' => RetB (EdOk { e with kind := 4 }) e1 ∧ Below w.heap.size w w' := by
  have Hh := hide (And.intro h0 trivial)
  clear h0
  have H := hide he
  obtain ⟨W0, hW0⟩ : ∃ W0, W0 = w.alloc (.cells #[.int .u8 4, .slice x.pA e.path.length x.pc, .int .i64 e.at_, .int .i64 e.far, .string e.frm, .string e.to, .slice x.oA e.old.len x.oc, .slice x.nA e.new.len x.nc] 30) := ⟨_, rfl⟩
  have hcl0 : CellsL W0 w.heap.size [.int .u8 4, .slice x.pA e.path.length x.pc, .int .i64 e.at_, .int .i64 e.far, .string e.frm, .string e.to, .slice x.oA e.old.len x.oc, .slice x.nA e.new.len x.nc] := fun j u hu => by rw [hW0, Lib.cell_of_heap (heap_alloc_new w _)]; simpa using hu
  have hBB : Below w.heap.size w W0 := by rw [hW0]; exact below_alloc _ _
  have HB0 := hide hBB
  have HW0 := hide hW0
  have hlp := Nat.le_trans he.pc.1 he.pc.2
  have b0 := hcl0 0 _ rfl
  have b1 := hcl0 1 _ rfl
  have b2 := hcl0 2 _ rfl
  have b3 := hcl0 3 _ rfl
  have b4 := hcl0 4 _ rfl
  have b5 := hcl0 5 _ rfl
  have b6 := hcl0 6 _ rfl
  have b7 := hcl0 7 _ rfl
  clear he hW0 hcl0 hBB
  go_enter Tryz.func60, Tryz.ntmps60
  go_upto_region 1 with fail
  change Code.wp _ _ _ _ (w.alloc (.cells #[.int .u8 4, .slice x.pA e.path.length x.pc, .int .i64 e.at_, .int .i64 e.far, .string e.frm, .string e.to, .slice x.oA e.old.len x.oc, .slice x.nA e.new.len x.nc] 30))
  rw [← HW0.out]
  go_wp2_with fail
  go_loopw [3] (fun i wr => ∃ q : Nat, q ≤ e.path.length ∧ i = .int .i64 q ∧ wr = W0 ∧ Hid (∀ j, (h : j < e.path.length) → j < q → Number e.path[j])) (fun i _ => e.path.length - (intOf i).toNat)
  case atStart => exact ⟨0, Nat.zero_le _, rfl, rfl, hide (fun j _ h => absurd h (by omega))⟩
  case round =>
  obtain ⟨q, hq, rfl, rfl, Hall⟩ := hrel
  by_cases hlt : q < e.path.length
  · obtain ⟨b, o, hpa, hc⟩ := (H.out.path.below HB0.out).1.at_ (j := q) (by simpa using hlt)
    simp only [List.getElem_map] at hc
    rw [hpa] at b1
    have Hpa := hide hpa
    clear hpa
    obtain ⟨m, hm⟩ : ∃ m, m = e.path[q] := ⟨_, rfl⟩
    rw [← hm] at hc
    have Hm := hide hm
    clear hm
    go_wp2_with (go_at_call 122; (with_reducible refine (number14_any m _).mono ?_); rintro e1 w1 ⟨⟨_ | _, rfl, hb⟩, rfl⟩ <;> (have Hb := hide hb; clear hb))
    · go_ret
      refine ⟨RetB.no (fun h => ?_), HB0.out⟩
      have h1 := h.1 _ (List.getElem_mem hlt)
      rw [← Hm.out] at h1
      exact absurd (Hb.out.2 h1) (by decide)
    · go_roundw
      case rel => exact ⟨q + 1, by omega, by go_num, by first | trivial | rfl, hide (fun j h hj => by
        rcases Nat.lt_or_ge j q with h2 | h2
        · exact Hall.out j h h2
        · obtain rfl : j = q := by omega
          rw [← Hm.out]
          exact Hb.out.1 (by first | rfl | trivial))⟩
      case measure => simp [intOf]; omega
  have Hpath : Hid (∀ n ∈ e.path, Number n) := hide (fun n hn => by
    obtain ⟨j, hj, rfl⟩ := List.getElem_of_mem hn
    exact Hall.out j hj (by omega))
  clear Hall
  obtain ⟨W1, hW1⟩ : ∃ W1, W1 = World.alloc wr (.cells #[.int .u8 4, .slice x.pA e.path.length x.pc, .int .i64 0, .int .i64 0, .string ⟨#[]⟩, .string ⟨#[]⟩, .slice none 0 0, .slice none 0 0] 30) := ⟨_, rfl⟩
  have hB1 : BxL w W1 [.int .u8 4, .slice x.pA e.path.length x.pc, .int .i64 e.at_, .int .i64 e.far, .string e.frm, .string e.to, .slice x.oA e.old.len x.oc, .slice x.nA e.new.len x.nc] [.int .u8 4, .slice x.pA e.path.length x.pc, .int .i64 0, .int .i64 0, .string ⟨#[]⟩, .string ⟨#[]⟩, .slice none 0 0, .slice none 0 0] := by rw [hW1, HW0.out]; exact BxL.start w #[.int .u8 4, .slice x.pA e.path.length x.pc, .int .i64 e.at_, .int .i64 e.far, .string e.frm, .string e.to, .slice x.oA e.old.len x.oc, .slice x.nA e.new.len x.nc] #[.int .u8 4, .slice x.pA e.path.length x.pc, .int .i64 0, .int .i64 0, .string ⟨#[]⟩, .string ⟨#[]⟩, .slice none 0 0, .slice none 0 0] _ _
  have hz0 : wr.heap.size = w.heap.size + 1 := by rw [HW0.out]; simp
  have HW1 := hide hW1
  clear hW1
  go_upto_region 7 with fail
  change Code.wp _ _ _ _ (World.alloc wr (.cells #[.int .u8 4, .slice x.pA e.path.length x.pc, .int .i64 0, .int .i64 0, .string ⟨#[]⟩, .string ⟨#[]⟩, .slice none 0 0, .slice none 0 0] 30))
  rw [← HW1.out]
  clear b0 b1 b2 b3 b4 b5 b6 b7 HW1 HW0
  clear hz0
  have b0 := hB1.c 0 _ rfl
  have b1 := hB1.c 1 _ rfl
  have b2 := hB1.c 2 _ rfl
  have b3 := hB1.c 3 _ rfl
  have b4 := hB1.c 4 _ rfl
  have b5 := hB1.c 5 _ rfl
  have b6 := hB1.c 6 _ rfl
  have b7 := hB1.c 7 _ rfl
  have r0 := hB1.r 0 _ rfl
  have r1 := hB1.r 1 _ rfl
  have r2 := hB1.r 2 _ rfl
  have r3 := hB1.r 3 _ rfl
  have r4 := hB1.r 4 _ rfl
  have r5 := hB1.r 5 _ rfl
  have r6 := hB1.r 6 _ rfl
  have r7 := hB1.r 7 _ rfl
  have fr := hB1.fr
  have HB1 := hide hB1
  clear hB1 HB0
  go_upto_region 23 with fail
  have hBa := HB1.out.putR 6 [.slice x.oA e.old.len x.oc] (by simp)
  obtain ⟨wa, hFa⟩ : ∃ wa, wa = World.setCells W1 (w.heap.size + 1) 6 [.slice x.oA e.old.len x.oc] := ⟨_, rfl⟩
  rw [← hFa] at hBa
  simp only [World.setCells] at hFa
  rw [← hFa]
  replace hBa : BxL w wa [.int .u8 4, .slice x.pA e.path.length x.pc, .int .i64 e.at_, .int .i64 e.far, .string e.frm, .string e.to, .slice x.oA e.old.len x.oc, .slice x.nA e.new.len x.nc] [.int .u8 4, .slice x.pA e.path.length x.pc, .int .i64 0, .int .i64 0, .string ⟨#[]⟩, .string ⟨#[]⟩, .slice x.oA e.old.len x.oc, .slice none 0 0] := hBa
  have HBa := hide hBa
  clear hBa hFa
  have hBb := HBa.out.putR 7 [.slice x.nA e.new.len x.nc] (by simp)
  obtain ⟨wb, hFb⟩ : ∃ wb, wb = World.setCells wa (w.heap.size + 1) 7 [.slice x.nA e.new.len x.nc] := ⟨_, rfl⟩
  rw [← hFb] at hBb
  simp only [World.setCells] at hFb
  rw [← hFb]
  replace hBb : BxL w wb [.int .u8 4, .slice x.pA e.path.length x.pc, .int .i64 e.at_, .int .i64 e.far, .string e.frm, .string e.to, .slice x.oA e.old.len x.oc, .slice x.nA e.new.len x.nc] [.int .u8 4, .slice x.pA e.path.length x.pc, .int .i64 0, .int .i64 0, .string ⟨#[]⟩, .string ⟨#[]⟩, .slice x.oA e.old.len x.oc, .slice x.nA e.new.len x.nc] := hBb
  have HBb := hide hBb
  clear hBb hFb
  clear b0 r0 b1 r1 b2 r2 b3 r3 b4 r4 b5 r5 b6 r6 b7 r7 fr HB1
  clear HBa
  have HBa0 := HBb
  clear HBb
  have hBq := HBa0.out
  have b0 := hBq.c 0 _ rfl
  have b1 := hBq.c 1 _ rfl
  have b2 := hBq.c 2 _ rfl
  have b3 := hBq.c 3 _ rfl
  have b4 := hBq.c 4 _ rfl
  have b5 := hBq.c 5 _ rfl
  have b6 := hBq.c 6 _ rfl
  have b7 := hBq.c 7 _ rfl
  have r0 := hBq.r 0 _ rfl
  have r1 := hBq.r 1 _ rfl
  have r2 := hBq.r 2 _ rfl
  have r3 := hBq.r 3 _ rfl
  have r4 := hBq.r 4 _ rfl
  have r5 := hBq.r 5 _ rfl
  have r6 := hBq.r 6 _ rfl
  have r7 := hBq.r 7 _ rfl
  have hNb : w.heap.size < wb.heap.size := block_lt_of_cell b0
  have hNr : w.heap.size + 1 < wb.heap.size := block_lt_of_cell r0
  have HBb0 := hBq.b
  have HBbh := hide HBb0
  clear hBq HBb0
  have HBb0 := HBbh.out
  clear HBbh HBa0
  have HSm : Hid (∀ W, Below wb.heap.size wb W → Calls Tryz.prog 44 #[.agg #[.int .u8 4, .slice x.pA e.path.length x.pc, .int .i64 e.at_, .int .i64 e.far, .string e.frm, .string e.to, .slice x.oA e.old.len x.oc, .slice x.nA e.new.len x.nc], .agg #[.int .u8 4, .slice x.pA e.path.length x.pc, .int .i64 0, .int .i64 0, .string ⟨#[]⟩, .string ⟨#[]⟩, .slice x.oA e.old.len x.oc, .slice x.nA e.new.len x.nc]] W fun e1 w' => e1 = .returned (.bool false) ∧ Below W.heap.size W w') :=
    hide fun W h9 => (fun hW => ret_no (sameEdit_any (a := { e with kind := 4 }) (b := ⟨4, e.path, 0, 0, ⟨#[]⟩, ⟨#[]⟩, e.old, e.new⟩) (x := x) (y := ⟨x.pA, x.pc, x.oA, x.oc, x.nA, x.nc⟩) ⟨(by show 4 < 256; omega), H.out.path.below hW, H.out.at_, H.out.far, H.out.frm, H.out.to, H.out.old.below hW, H.out.new.below hW, H.out.pc, H.out.oc, H.out.nc⟩ ⟨(by show 4 < 256; omega), H.out.path.below hW, (by show isInt64 0; unfold isInt64; omega), (by show isInt64 0; unfold isInt64; omega), (by show (0 : Nat) ≤ _; omega), (by show (0 : Nat) ≤ _; omega), (H.out.old.below hW), (H.out.new.below hW), H.out.pc, H.out.oc, H.out.nc⟩) Hh.out.1) (blw_up HBb0 h9)
  have hd1 : Below wb.heap.size wb wb.drew := blw_drewN (Below.refl _ _) 1
  refine wp_region_held_drew (S := Below wb.heap.size wb) (by kernel_rfl) hd1 (fun hHeld => ?_)
  generalize wb.drew = wD at hHeld ⊢
  refine tk (v := ?_) 0 hHeld ?_ ?_
  rotate_left
  · intro w' hSw
    have f0 := (hSw.cell (p := ⟨w.heap.size, 0, none⟩) hNb).trans b0
    have f1 := (hSw.cell (p := ⟨w.heap.size, 1, none⟩) hNb).trans b1
    have f2 := (hSw.cell (p := ⟨w.heap.size, 2, none⟩) hNb).trans b2
    have f3 := (hSw.cell (p := ⟨w.heap.size, 3, none⟩) hNb).trans b3
    have f4 := (hSw.cell (p := ⟨w.heap.size, 4, none⟩) hNb).trans b4
    have f5 := (hSw.cell (p := ⟨w.heap.size, 5, none⟩) hNb).trans b5
    have f6 := (hSw.cell (p := ⟨w.heap.size, 6, none⟩) hNb).trans b6
    have f7 := (hSw.cell (p := ⟨w.heap.size, 7, none⟩) hNb).trans b7
    first | (go_simp; done) | (go_simp; with_reducible rfl)
  try simp only [List.set_cons_zero, List.set_cons_succ]
  refine tk (v := ?_) 1 hHeld ?_ ?_
  rotate_left
  · intro w' hSw
    have f0 := (hSw.cell (p := ⟨w.heap.size + 1, 0, none⟩) hNr).trans r0
    have f1 := (hSw.cell (p := ⟨w.heap.size + 1, 1, none⟩) hNr).trans r1
    have f2 := (hSw.cell (p := ⟨w.heap.size + 1, 2, none⟩) hNr).trans r2
    have f3 := (hSw.cell (p := ⟨w.heap.size + 1, 3, none⟩) hNr).trans r3
    have f4 := (hSw.cell (p := ⟨w.heap.size + 1, 4, none⟩) hNr).trans r4
    have f5 := (hSw.cell (p := ⟨w.heap.size + 1, 5, none⟩) hNr).trans r5
    have f6 := (hSw.cell (p := ⟨w.heap.size + 1, 6, none⟩) hNr).trans r6
    have f7 := (hSw.cell (p := ⟨w.heap.size + 1, 7, none⟩) hNr).trans r7
    first | (go_simp; done) | (go_simp; with_reducible rfl)
  try simp only [List.set_cons_zero, List.set_cons_succ]
  refine wpAnyH_ready (rs := [2]) (by kernel_rfl) (by simp) ?_
  refine AllReadyH.cons rfl (fun K hK => ?_) AllReadyH.nil
  go_simp
  go_wp2_with (go_at_call 44; (with_reducible refine (HSm.out _ hHeld).mono ?_); rintro e1 w1 ⟨rfl, hB1⟩)
  replace hHeld := hHeld.trans (hB1.mono hHeld.size)
  refine hK.out _ _ hHeld (fun _ => ?_)
  clear hK K hB1
  try simp only [Act.put, List.getElem_toArray, List.getElem_cons_zero, List.getElem_cons_succ, List.setIfInBounds_toArray, List.set_cons_zero, List.set_cons_succ]
  refine tk (v := ?_) 3 hHeld ?_ ?_
  rotate_left
  · intro w' hSw
    first | (go_simp; done) | (go_simp; with_reducible rfl)
  try simp only [List.set_cons_zero, List.set_cons_succ]
  refine tn 4 hHeld ?_
  try simp only [List.set_cons_zero, List.set_cons_succ]
  refine tn 5 hHeld ?_
  try simp only [List.set_cons_zero, List.set_cons_succ]
  refine tn 6 hHeld ?_
  try simp only [List.set_cons_zero, List.set_cons_succ]
  refine tn 7 hHeld ?_
  try simp only [List.set_cons_zero, List.set_cons_succ]
  refine tk (v := ?_) 8 hHeld ?_ ?_
  rotate_left
  · intro w' hSw
    first | (go_simp; done) | (go_simp; with_reducible rfl)
  try simp only [List.set_cons_zero, List.set_cons_succ]
  refine tk (v := ?_) 9 hHeld ?_ ?_
  rotate_left
  · intro w' hSw
    first | (go_simp; done) | (go_simp; with_reducible rfl)
  try simp only [List.set_cons_zero, List.set_cons_succ]
  refine tn 10 hHeld ?_
  try simp only [List.set_cons_zero, List.set_cons_succ]
  refine tn 11 hHeld ?_
  try simp only [List.set_cons_zero, List.set_cons_succ]
  refine tn 12 hHeld ?_
  try simp only [List.set_cons_zero, List.set_cons_succ]
  refine tk (v := ?_) 13 hHeld ?_ ?_
  rotate_left
  · intro w' hSw
    first | (go_simp; done) | (go_simp; with_reducible rfl)
  try simp only [List.set_cons_zero, List.set_cons_succ]
  refine tk (v := ?_) 14 hHeld ?_ ?_
  rotate_left
  · intro w' hSw
    first | (go_simp; done) | (go_simp; with_reducible rfl)
  try simp only [List.set_cons_zero, List.set_cons_succ]
  refine tn 15 hHeld ?_
  try simp only [List.set_cons_zero, List.set_cons_succ]
  refine tn 16 hHeld ?_
  try simp only [List.set_cons_zero, List.set_cons_succ]
  refine tn 17 hHeld ?_
  try simp only [List.set_cons_zero, List.set_cons_succ]
  refine tk (v := ?_) 18 hHeld ?_ ?_
  rotate_left
  · intro w' hSw
    first | (go_simp; done) | (go_simp; with_reducible rfl)
  try simp only [List.set_cons_zero, List.set_cons_succ]
  refine tk (v := ?_) 19 hHeld ?_ ?_
  rotate_left
  · intro w' hSw
    first | (go_simp; done) | (go_simp; with_reducible rfl)
  try simp only [List.set_cons_zero, List.set_cons_succ]
  refine tn 20 hHeld ?_
  try simp only [List.set_cons_zero, List.set_cons_succ]
  refine tn 21 hHeld ?_
  try simp only [List.set_cons_zero, List.set_cons_succ]
  refine tn 22 hHeld ?_
  try simp only [List.set_cons_zero, List.set_cons_succ]
  refine tn 23 hHeld ?_
  try simp only [List.set_cons_zero, List.set_cons_succ]
  refine tn 24 hHeld ?_
  try simp only [List.set_cons_zero, List.set_cons_succ]
  refine tn 25 hHeld ?_
  try simp only [List.set_cons_zero, List.set_cons_succ]
  refine tn 26 hHeld ?_
  try simp only [List.set_cons_zero, List.set_cons_succ]
  refine tn 27 hHeld ?_
  try simp only [List.set_cons_zero, List.set_cons_succ]
  refine tn 28 hHeld ?_
  try simp only [List.set_cons_zero, List.set_cons_succ]
  refine tn 29 hHeld ?_
  try simp only [List.set_cons_zero, List.set_cons_succ]
  refine tk (v := ?_) 30 hHeld ?_ ?_
  rotate_left
  · intro w' hSw
    first | (go_simp; done) | (go_simp; with_reducible rfl)
  try simp only [List.set_cons_zero, List.set_cons_succ]
  refine tk (v := ?_) 31 hHeld ?_ ?_
  rotate_left
  · intro w' hSw
    first | (go_simp; done) | (go_simp; with_reducible rfl)
  try simp only [List.set_cons_zero, List.set_cons_succ]
  have HBe : Hid (Below w.heap.size w _) := hide (blw_up HBb0 hHeld)
  refine wpAnyH_done (by kernel_rfl) ?_ _
  try simp only [Act.put, List.getElem_toArray, List.getElem_cons_zero, List.getElem_cons_succ, List.setIfInBounds_toArray, List.set_cons_zero, List.set_cons_succ]
  go_wp2_with fail
  go_ret
  exact ⟨RetB.no (fun h => by have h9 := edOk14_4.1 h; have h8 := Hh.out; exact h8.1 h9.2.1), HBe.out⟩

set_option maxHeartbeats 4000000 in
set_option maxRecDepth 100000 in
theorem edRight14_4b {S : Nat → Prop} {x : Eh} {e : Ed} {w : World} (he : EdIn S w x e) (h0 : ({ e with kind := 4 } : Ed) = ⟨4, e.path, 0, 0, ⟨#[]⟩, ⟨#[]⟩, e.old, e.new⟩) (h1 : e.path = []) :
    Calls Tryz.prog 60 #[.agg #[.int .u8 4, .slice x.pA e.path.length x.pc, .int .i64 e.at_, .int .i64 e.far, .string e.frm, .string e.to, .slice x.oA e.old.len x.oc, .slice x.nA e.new.len x.nc]] w fun e1 w' => RetB (EdOk { e with kind := 4 }) e1 ∧ Below w.heap.size w w' := by
  have Hh := hide (And.intro h0 (And.intro h1 trivial))
  clear h0 h1
  have H := hide he
  obtain ⟨W0, hW0⟩ : ∃ W0, W0 = w.alloc (.cells #[.int .u8 4, .slice x.pA e.path.length x.pc, .int .i64 e.at_, .int .i64 e.far, .string e.frm, .string e.to, .slice x.oA e.old.len x.oc, .slice x.nA e.new.len x.nc] 30) := ⟨_, rfl⟩
  have hcl0 : CellsL W0 w.heap.size [.int .u8 4, .slice x.pA e.path.length x.pc, .int .i64 e.at_, .int .i64 e.far, .string e.frm, .string e.to, .slice x.oA e.old.len x.oc, .slice x.nA e.new.len x.nc] := fun j u hu => by rw [hW0, Lib.cell_of_heap (heap_alloc_new w _)]; simpa using hu
  have hBB : Below w.heap.size w W0 := by rw [hW0]; exact below_alloc _ _
  have HB0 := hide hBB
  have HW0 := hide hW0
  have hlp := Nat.le_trans he.pc.1 he.pc.2
  have b0 := hcl0 0 _ rfl
  have b1 := hcl0 1 _ rfl
  have b2 := hcl0 2 _ rfl
  have b3 := hcl0 3 _ rfl
  have b4 := hcl0 4 _ rfl
  have b5 := hcl0 5 _ rfl
  have b6 := hcl0 6 _ rfl
  have b7 := hcl0 7 _ rfl
  clear he hW0 hcl0 hBB
  go_enter Tryz.func60, Tryz.ntmps60
  go_upto_region 1 with fail
  change Code.wp _ _ _ _ (w.alloc (.cells #[.int .u8 4, .slice x.pA e.path.length x.pc, .int .i64 e.at_, .int .i64 e.far, .string e.frm, .string e.to, .slice x.oA e.old.len x.oc, .slice x.nA e.new.len x.nc] 30))
  rw [← HW0.out]
  go_wp2_with fail
  go_loopw [3] (fun i wr => ∃ q : Nat, q ≤ e.path.length ∧ i = .int .i64 q ∧ wr = W0 ∧ Hid (∀ j, (h : j < e.path.length) → j < q → Number e.path[j])) (fun i _ => e.path.length - (intOf i).toNat)
  case atStart => exact ⟨0, Nat.zero_le _, rfl, rfl, hide (fun j _ h => absurd h (by omega))⟩
  case round =>
  obtain ⟨q, hq, rfl, rfl, Hall⟩ := hrel
  by_cases hlt : q < e.path.length
  · obtain ⟨b, o, hpa, hc⟩ := (H.out.path.below HB0.out).1.at_ (j := q) (by simpa using hlt)
    simp only [List.getElem_map] at hc
    rw [hpa] at b1
    have Hpa := hide hpa
    clear hpa
    obtain ⟨m, hm⟩ : ∃ m, m = e.path[q] := ⟨_, rfl⟩
    rw [← hm] at hc
    have Hm := hide hm
    clear hm
    go_wp2_with (go_at_call 122; (with_reducible refine (number14_any m _).mono ?_); rintro e1 w1 ⟨⟨_ | _, rfl, hb⟩, rfl⟩ <;> (have Hb := hide hb; clear hb))
    · go_ret
      refine ⟨RetB.no (fun h => ?_), HB0.out⟩
      have h1 := h.1 _ (List.getElem_mem hlt)
      rw [← Hm.out] at h1
      exact absurd (Hb.out.2 h1) (by decide)
    · go_roundw
      case rel => exact ⟨q + 1, by omega, by go_num, by first | trivial | rfl, hide (fun j h hj => by
        rcases Nat.lt_or_ge j q with h2 | h2
        · exact Hall.out j h h2
        · obtain rfl : j = q := by omega
          rw [← Hm.out]
          exact Hb.out.1 (by first | rfl | trivial))⟩
      case measure => simp [intOf]; omega
  have Hpath : Hid (∀ n ∈ e.path, Number n) := hide (fun n hn => by
    obtain ⟨j, hj, rfl⟩ := List.getElem_of_mem hn
    exact Hall.out j hj (by omega))
  clear Hall
  obtain ⟨W1, hW1⟩ : ∃ W1, W1 = World.alloc wr (.cells #[.int .u8 4, .slice x.pA e.path.length x.pc, .int .i64 0, .int .i64 0, .string ⟨#[]⟩, .string ⟨#[]⟩, .slice none 0 0, .slice none 0 0] 30) := ⟨_, rfl⟩
  have hB1 : BxL w W1 [.int .u8 4, .slice x.pA e.path.length x.pc, .int .i64 e.at_, .int .i64 e.far, .string e.frm, .string e.to, .slice x.oA e.old.len x.oc, .slice x.nA e.new.len x.nc] [.int .u8 4, .slice x.pA e.path.length x.pc, .int .i64 0, .int .i64 0, .string ⟨#[]⟩, .string ⟨#[]⟩, .slice none 0 0, .slice none 0 0] := by rw [hW1, HW0.out]; exact BxL.start w #[.int .u8 4, .slice x.pA e.path.length x.pc, .int .i64 e.at_, .int .i64 e.far, .string e.frm, .string e.to, .slice x.oA e.old.len x.oc, .slice x.nA e.new.len x.nc] #[.int .u8 4, .slice x.pA e.path.length x.pc, .int .i64 0, .int .i64 0, .string ⟨#[]⟩, .string ⟨#[]⟩, .slice none 0 0, .slice none 0 0] _ _
  have hz0 : wr.heap.size = w.heap.size + 1 := by rw [HW0.out]; simp
  have HW1 := hide hW1
  clear hW1
  go_upto_region 7 with fail
  change Code.wp _ _ _ _ (World.alloc wr (.cells #[.int .u8 4, .slice x.pA e.path.length x.pc, .int .i64 0, .int .i64 0, .string ⟨#[]⟩, .string ⟨#[]⟩, .slice none 0 0, .slice none 0 0] 30))
  rw [← HW1.out]
  clear b0 b1 b2 b3 b4 b5 b6 b7 HW1 HW0
  clear hz0
  have b0 := hB1.c 0 _ rfl
  have b1 := hB1.c 1 _ rfl
  have b2 := hB1.c 2 _ rfl
  have b3 := hB1.c 3 _ rfl
  have b4 := hB1.c 4 _ rfl
  have b5 := hB1.c 5 _ rfl
  have b6 := hB1.c 6 _ rfl
  have b7 := hB1.c 7 _ rfl
  have r0 := hB1.r 0 _ rfl
  have r1 := hB1.r 1 _ rfl
  have r2 := hB1.r 2 _ rfl
  have r3 := hB1.r 3 _ rfl
  have r4 := hB1.r 4 _ rfl
  have r5 := hB1.r 5 _ rfl
  have r6 := hB1.r 6 _ rfl
  have r7 := hB1.r 7 _ rfl
  have fr := hB1.fr
  have HB1 := hide hB1
  clear hB1 HB0
  go_upto_region 23 with fail
  have hBa := HB1.out.putR 6 [.slice x.oA e.old.len x.oc] (by simp)
  obtain ⟨wa, hFa⟩ : ∃ wa, wa = World.setCells W1 (w.heap.size + 1) 6 [.slice x.oA e.old.len x.oc] := ⟨_, rfl⟩
  rw [← hFa] at hBa
  simp only [World.setCells] at hFa
  rw [← hFa]
  replace hBa : BxL w wa [.int .u8 4, .slice x.pA e.path.length x.pc, .int .i64 e.at_, .int .i64 e.far, .string e.frm, .string e.to, .slice x.oA e.old.len x.oc, .slice x.nA e.new.len x.nc] [.int .u8 4, .slice x.pA e.path.length x.pc, .int .i64 0, .int .i64 0, .string ⟨#[]⟩, .string ⟨#[]⟩, .slice x.oA e.old.len x.oc, .slice none 0 0] := hBa
  have HBa := hide hBa
  clear hBa hFa
  have hBb := HBa.out.putR 7 [.slice x.nA e.new.len x.nc] (by simp)
  obtain ⟨wb, hFb⟩ : ∃ wb, wb = World.setCells wa (w.heap.size + 1) 7 [.slice x.nA e.new.len x.nc] := ⟨_, rfl⟩
  rw [← hFb] at hBb
  simp only [World.setCells] at hFb
  rw [← hFb]
  replace hBb : BxL w wb [.int .u8 4, .slice x.pA e.path.length x.pc, .int .i64 e.at_, .int .i64 e.far, .string e.frm, .string e.to, .slice x.oA e.old.len x.oc, .slice x.nA e.new.len x.nc] [.int .u8 4, .slice x.pA e.path.length x.pc, .int .i64 0, .int .i64 0, .string ⟨#[]⟩, .string ⟨#[]⟩, .slice x.oA e.old.len x.oc, .slice x.nA e.new.len x.nc] := hBb
  have HBb := hide hBb
  clear hBb hFb
  clear b0 r0 b1 r1 b2 r2 b3 r3 b4 r4 b5 r5 b6 r6 b7 r7 fr HB1
  clear HBa
  have HBa0 := HBb
  clear HBb
  have hBq := HBa0.out
  have b0 := hBq.c 0 _ rfl
  have b1 := hBq.c 1 _ rfl
  have b2 := hBq.c 2 _ rfl
  have b3 := hBq.c 3 _ rfl
  have b4 := hBq.c 4 _ rfl
  have b5 := hBq.c 5 _ rfl
  have b6 := hBq.c 6 _ rfl
  have b7 := hBq.c 7 _ rfl
  have r0 := hBq.r 0 _ rfl
  have r1 := hBq.r 1 _ rfl
  have r2 := hBq.r 2 _ rfl
  have r3 := hBq.r 3 _ rfl
  have r4 := hBq.r 4 _ rfl
  have r5 := hBq.r 5 _ rfl
  have r6 := hBq.r 6 _ rfl
  have r7 := hBq.r 7 _ rfl
  have hNb : w.heap.size < wb.heap.size := block_lt_of_cell b0
  have hNr : w.heap.size + 1 < wb.heap.size := block_lt_of_cell r0
  have HBb0 := hBq.b
  have HBbh := hide HBb0
  clear hBq HBb0
  have HBb0 := HBbh.out
  clear HBbh HBa0
  have HSm : Hid (∀ W, Below wb.heap.size wb W → Calls Tryz.prog 44 #[.agg #[.int .u8 4, .slice x.pA e.path.length x.pc, .int .i64 e.at_, .int .i64 e.far, .string e.frm, .string e.to, .slice x.oA e.old.len x.oc, .slice x.nA e.new.len x.nc], .agg #[.int .u8 4, .slice x.pA e.path.length x.pc, .int .i64 0, .int .i64 0, .string ⟨#[]⟩, .string ⟨#[]⟩, .slice x.oA e.old.len x.oc, .slice x.nA e.new.len x.nc]] W fun e1 w' => e1 = .returned (.bool true) ∧ Below W.heap.size W w') :=
    hide fun W h9 => (fun hW => ret_yes (sameEdit_any (a := { e with kind := 4 }) (b := ⟨4, e.path, 0, 0, ⟨#[]⟩, ⟨#[]⟩, e.old, e.new⟩) (x := x) (y := ⟨x.pA, x.pc, x.oA, x.oc, x.nA, x.nc⟩) ⟨(by show 4 < 256; omega), H.out.path.below hW, H.out.at_, H.out.far, H.out.frm, H.out.to, H.out.old.below hW, H.out.new.below hW, H.out.pc, H.out.oc, H.out.nc⟩ ⟨(by show 4 < 256; omega), H.out.path.below hW, (by show isInt64 0; unfold isInt64; omega), (by show isInt64 0; unfold isInt64; omega), (by show (0 : Nat) ≤ _; omega), (by show (0 : Nat) ≤ _; omega), (H.out.old.below hW), (H.out.new.below hW), H.out.pc, H.out.oc, H.out.nc⟩) Hh.out.1) (blw_up HBb0 h9)
  have hgt : decide ((0 : Int) < (e.path.length : Int)) = false := by rw [Hh.out.2.1]; rfl
  have hgt2 : decide (0 < e.path.length) = false := by rw [Hh.out.2.1]; rfl
  have hd1 : Below wb.heap.size wb wb.drew := blw_drewN (Below.refl _ _) 1
  refine wp_region_held_drew (S := Below wb.heap.size wb) (by kernel_rfl) hd1 (fun hHeld => ?_)
  generalize wb.drew = wD at hHeld ⊢
  refine tk (v := ?_) 0 hHeld ?_ ?_
  rotate_left
  · intro w' hSw
    have f0 := (hSw.cell (p := ⟨w.heap.size, 0, none⟩) hNb).trans b0
    have f1 := (hSw.cell (p := ⟨w.heap.size, 1, none⟩) hNb).trans b1
    have f2 := (hSw.cell (p := ⟨w.heap.size, 2, none⟩) hNb).trans b2
    have f3 := (hSw.cell (p := ⟨w.heap.size, 3, none⟩) hNb).trans b3
    have f4 := (hSw.cell (p := ⟨w.heap.size, 4, none⟩) hNb).trans b4
    have f5 := (hSw.cell (p := ⟨w.heap.size, 5, none⟩) hNb).trans b5
    have f6 := (hSw.cell (p := ⟨w.heap.size, 6, none⟩) hNb).trans b6
    have f7 := (hSw.cell (p := ⟨w.heap.size, 7, none⟩) hNb).trans b7
    first | (go_simp; done) | (go_simp; with_reducible rfl)
  try simp only [List.set_cons_zero, List.set_cons_succ]
  refine tk (v := ?_) 1 hHeld ?_ ?_
  rotate_left
  · intro w' hSw
    have f0 := (hSw.cell (p := ⟨w.heap.size + 1, 0, none⟩) hNr).trans r0
    have f1 := (hSw.cell (p := ⟨w.heap.size + 1, 1, none⟩) hNr).trans r1
    have f2 := (hSw.cell (p := ⟨w.heap.size + 1, 2, none⟩) hNr).trans r2
    have f3 := (hSw.cell (p := ⟨w.heap.size + 1, 3, none⟩) hNr).trans r3
    have f4 := (hSw.cell (p := ⟨w.heap.size + 1, 4, none⟩) hNr).trans r4
    have f5 := (hSw.cell (p := ⟨w.heap.size + 1, 5, none⟩) hNr).trans r5
    have f6 := (hSw.cell (p := ⟨w.heap.size + 1, 6, none⟩) hNr).trans r6
    have f7 := (hSw.cell (p := ⟨w.heap.size + 1, 7, none⟩) hNr).trans r7
    first | (go_simp; done) | (go_simp; with_reducible rfl)
  try simp only [List.set_cons_zero, List.set_cons_succ]
  refine wpAnyH_ready (rs := [2]) (by kernel_rfl) (by simp) ?_
  refine AllReadyH.cons rfl (fun K hK => ?_) AllReadyH.nil
  go_simp
  go_wp2_with (go_at_call 44; (with_reducible refine (HSm.out _ hHeld).mono ?_); rintro e1 w1 ⟨rfl, hB1⟩)
  replace hHeld := hHeld.trans (hB1.mono hHeld.size)
  refine hK.out _ _ hHeld (fun _ => ?_)
  clear hK K hB1
  try simp only [Act.put, List.getElem_toArray, List.getElem_cons_zero, List.getElem_cons_succ, List.setIfInBounds_toArray, List.set_cons_zero, List.set_cons_succ]
  refine tk (v := ?_) 3 hHeld ?_ ?_
  rotate_left
  · intro w' hSw
    first | (go_simp; done) | (go_simp; with_reducible rfl)
  try simp only [List.set_cons_zero, List.set_cons_succ]
  refine tk (v := ?_) 4 hHeld ?_ ?_
  rotate_left
  · intro w' hSw
    first | (go_simp; done) | (go_simp; with_reducible rfl)
  try simp only [List.set_cons_zero, List.set_cons_succ]
  refine tk (v := ?_) 5 hHeld ?_ ?_
  rotate_left
  · intro w' hSw
    have f1 := (hSw.cell (p := ⟨w.heap.size, 1, none⟩) hNb).trans b1
    first | (go_simp; done) | (go_simp; with_reducible rfl)
  try simp only [List.set_cons_zero, List.set_cons_succ]
  refine tk (v := ?_) 6 hHeld ?_ ?_
  rotate_left
  · intro w' hSw
    first | (go_simp; done) | (go_simp; with_reducible rfl)
  try simp only [List.set_cons_zero, List.set_cons_succ]
  refine tk (v := ?_) 7 hHeld ?_ ?_
  rotate_left
  · intro w' hSw
    first | (go_simp; done) | (go_simp; with_reducible rfl)
  try simp only [List.set_cons_zero, List.set_cons_succ]
  refine tk (v := ?_) 8 hHeld ?_ ?_
  rotate_left
  · intro w' hSw
    first | (go_simp; done) | (go_simp; with_reducible rfl)
  try simp only [List.set_cons_zero, List.set_cons_succ]
  refine tk (v := ?_) 9 hHeld ?_ ?_
  rotate_left
  · intro w' hSw
    first | (go_simp; done) | (go_simp; with_reducible rfl)
  try simp only [List.set_cons_zero, List.set_cons_succ]
  refine tn 10 hHeld ?_
  try simp only [List.set_cons_zero, List.set_cons_succ]
  refine tn 11 hHeld ?_
  try simp only [List.set_cons_zero, List.set_cons_succ]
  refine tn 12 hHeld ?_
  try simp only [List.set_cons_zero, List.set_cons_succ]
  refine tk (v := ?_) 13 hHeld ?_ ?_
  rotate_left
  · intro w' hSw
    first | (go_simp; done) | (go_simp; with_reducible rfl)
  try simp only [List.set_cons_zero, List.set_cons_succ]
  refine tk (v := ?_) 14 hHeld ?_ ?_
  rotate_left
  · intro w' hSw
    first | (go_simp; done) | (go_simp; with_reducible rfl)
  try simp only [List.set_cons_zero, List.set_cons_succ]
  refine tn 15 hHeld ?_
  try simp only [List.set_cons_zero, List.set_cons_succ]
  refine tn 16 hHeld ?_
  try simp only [List.set_cons_zero, List.set_cons_succ]
  refine tn 17 hHeld ?_
  try simp only [List.set_cons_zero, List.set_cons_succ]
  refine tk (v := ?_) 18 hHeld ?_ ?_
  rotate_left
  · intro w' hSw
    first | (go_simp; done) | (go_simp; with_reducible rfl)
  try simp only [List.set_cons_zero, List.set_cons_succ]
  refine tk (v := ?_) 19 hHeld ?_ ?_
  rotate_left
  · intro w' hSw
    first | (go_simp; done) | (go_simp; with_reducible rfl)
  try simp only [List.set_cons_zero, List.set_cons_succ]
  refine tn 20 hHeld ?_
  try simp only [List.set_cons_zero, List.set_cons_succ]
  refine tn 21 hHeld ?_
  try simp only [List.set_cons_zero, List.set_cons_succ]
  refine tn 22 hHeld ?_
  try simp only [List.set_cons_zero, List.set_cons_succ]
  refine tn 23 hHeld ?_
  try simp only [List.set_cons_zero, List.set_cons_succ]
  refine tn 24 hHeld ?_
  try simp only [List.set_cons_zero, List.set_cons_succ]
  refine tn 25 hHeld ?_
  try simp only [List.set_cons_zero, List.set_cons_succ]
  refine tn 26 hHeld ?_
  try simp only [List.set_cons_zero, List.set_cons_succ]
  refine tn 27 hHeld ?_
  try simp only [List.set_cons_zero, List.set_cons_succ]
  refine tn 28 hHeld ?_
  try simp only [List.set_cons_zero, List.set_cons_succ]
  refine tn 29 hHeld ?_
  try simp only [List.set_cons_zero, List.set_cons_succ]
  refine tk (v := ?_) 30 hHeld ?_ ?_
  rotate_left
  · intro w' hSw
    first | (go_simp; done) | (go_simp; with_reducible rfl)
  try simp only [List.set_cons_zero, List.set_cons_succ]
  refine tk (v := ?_) 31 hHeld ?_ ?_
  rotate_left
  · intro w' hSw
    first | (go_simp; done) | (go_simp; with_reducible rfl)
  try simp only [List.set_cons_zero, List.set_cons_succ]
  have HBe : Hid (Below w.heap.size w _) := hide (blw_up HBb0 hHeld)
  refine wpAnyH_done (by kernel_rfl) ?_ _
  try simp only [Act.put, List.getElem_toArray, List.getElem_cons_zero, List.getElem_cons_succ, List.setIfInBounds_toArray, List.set_cons_zero, List.set_cons_succ]
  go_wp2_with fail
  go_ret
  exact ⟨RetB.no (fun h => by have h9 := edOk14_4.1 h; have h8 := Hh.out; exact h9.2.2.1 h8.2.1), HBe.out⟩

set_option maxHeartbeats 4000000 in
set_option maxRecDepth 100000 in
theorem edRight14_4c {S : Nat → Prop} {x : Eh} {e : Ed} {w : World} (he : EdIn S w x e) (h0 : ({ e with kind := 4 } : Ed) = ⟨4, e.path, 0, 0, ⟨#[]⟩, ⟨#[]⟩, e.old, e.new⟩) (h1 : e.path ≠ []) (h2 : ¬ PartOk e.old) :
    Calls Tryz.prog 60 #[.agg #[.int .u8 4, .slice x.pA e.path.length x.pc, .int .i64 e.at_, .int .i64 e.far, .string e.frm, .string e.to, .slice x.oA e.old.len x.oc, .slice x.nA e.new.len x.nc]] w fun e1 w' => RetB (EdOk { e with kind := 4 }) e1 ∧ Below w.heap.size w w' := by
  have Hh := hide (And.intro h0 (And.intro h1 (And.intro h2 trivial)))
  clear h0 h1 h2
  have H := hide he
  obtain ⟨W0, hW0⟩ : ∃ W0, W0 = w.alloc (.cells #[.int .u8 4, .slice x.pA e.path.length x.pc, .int .i64 e.at_, .int .i64 e.far, .string e.frm, .string e.to, .slice x.oA e.old.len x.oc, .slice x.nA e.new.len x.nc] 30) := ⟨_, rfl⟩
  have hcl0 : CellsL W0 w.heap.size [.int .u8 4, .slice x.pA e.path.length x.pc, .int .i64 e.at_, .int .i64 e.far, .string e.frm, .string e.to, .slice x.oA e.old.len x.oc, .slice x.nA e.new.len x.nc] := fun j u hu => by rw [hW0, Lib.cell_of_heap (heap_alloc_new w _)]; simpa using hu
  have hBB : Below w.heap.size w W0 := by rw [hW0]; exact below_alloc _ _
  have HB0 := hide hBB
  have HW0 := hide hW0
  have hlp := Nat.le_trans he.pc.1 he.pc.2
  have b0 := hcl0 0 _ rfl
  have b1 := hcl0 1 _ rfl
  have b2 := hcl0 2 _ rfl
  have b3 := hcl0 3 _ rfl
  have b4 := hcl0 4 _ rfl
  have b5 := hcl0 5 _ rfl
  have b6 := hcl0 6 _ rfl
  have b7 := hcl0 7 _ rfl
  clear he hW0 hcl0 hBB
  go_enter Tryz.func60, Tryz.ntmps60
  go_upto_region 1 with fail
  change Code.wp _ _ _ _ (w.alloc (.cells #[.int .u8 4, .slice x.pA e.path.length x.pc, .int .i64 e.at_, .int .i64 e.far, .string e.frm, .string e.to, .slice x.oA e.old.len x.oc, .slice x.nA e.new.len x.nc] 30))
  rw [← HW0.out]
  go_wp2_with fail
  go_loopw [3] (fun i wr => ∃ q : Nat, q ≤ e.path.length ∧ i = .int .i64 q ∧ wr = W0 ∧ Hid (∀ j, (h : j < e.path.length) → j < q → Number e.path[j])) (fun i _ => e.path.length - (intOf i).toNat)
  case atStart => exact ⟨0, Nat.zero_le _, rfl, rfl, hide (fun j _ h => absurd h (by omega))⟩
  case round =>
  obtain ⟨q, hq, rfl, rfl, Hall⟩ := hrel
  by_cases hlt : q < e.path.length
  · obtain ⟨b, o, hpa, hc⟩ := (H.out.path.below HB0.out).1.at_ (j := q) (by simpa using hlt)
    simp only [List.getElem_map] at hc
    rw [hpa] at b1
    have Hpa := hide hpa
    clear hpa
    obtain ⟨m, hm⟩ : ∃ m, m = e.path[q] := ⟨_, rfl⟩
    rw [← hm] at hc
    have Hm := hide hm
    clear hm
    go_wp2_with (go_at_call 122; (with_reducible refine (number14_any m _).mono ?_); rintro e1 w1 ⟨⟨_ | _, rfl, hb⟩, rfl⟩ <;> (have Hb := hide hb; clear hb))
    · go_ret
      refine ⟨RetB.no (fun h => ?_), HB0.out⟩
      have h1 := h.1 _ (List.getElem_mem hlt)
      rw [← Hm.out] at h1
      exact absurd (Hb.out.2 h1) (by decide)
    · go_roundw
      case rel => exact ⟨q + 1, by omega, by go_num, by first | trivial | rfl, hide (fun j h hj => by
        rcases Nat.lt_or_ge j q with h2 | h2
        · exact Hall.out j h h2
        · obtain rfl : j = q := by omega
          rw [← Hm.out]
          exact Hb.out.1 (by first | rfl | trivial))⟩
      case measure => simp [intOf]; omega
  have Hpath : Hid (∀ n ∈ e.path, Number n) := hide (fun n hn => by
    obtain ⟨j, hj, rfl⟩ := List.getElem_of_mem hn
    exact Hall.out j hj (by omega))
  clear Hall
  obtain ⟨W1, hW1⟩ : ∃ W1, W1 = World.alloc wr (.cells #[.int .u8 4, .slice x.pA e.path.length x.pc, .int .i64 0, .int .i64 0, .string ⟨#[]⟩, .string ⟨#[]⟩, .slice none 0 0, .slice none 0 0] 30) := ⟨_, rfl⟩
  have hB1 : BxL w W1 [.int .u8 4, .slice x.pA e.path.length x.pc, .int .i64 e.at_, .int .i64 e.far, .string e.frm, .string e.to, .slice x.oA e.old.len x.oc, .slice x.nA e.new.len x.nc] [.int .u8 4, .slice x.pA e.path.length x.pc, .int .i64 0, .int .i64 0, .string ⟨#[]⟩, .string ⟨#[]⟩, .slice none 0 0, .slice none 0 0] := by rw [hW1, HW0.out]; exact BxL.start w #[.int .u8 4, .slice x.pA e.path.length x.pc, .int .i64 e.at_, .int .i64 e.far, .string e.frm, .string e.to, .slice x.oA e.old.len x.oc, .slice x.nA e.new.len x.nc] #[.int .u8 4, .slice x.pA e.path.length x.pc, .int .i64 0, .int .i64 0, .string ⟨#[]⟩, .string ⟨#[]⟩, .slice none 0 0, .slice none 0 0] _ _
  have hz0 : wr.heap.size = w.heap.size + 1 := by rw [HW0.out]; simp
  have HW1 := hide hW1
  clear hW1
  go_upto_region 7 with fail
  change Code.wp _ _ _ _ (World.alloc wr (.cells #[.int .u8 4, .slice x.pA e.path.length x.pc, .int .i64 0, .int .i64 0, .string ⟨#[]⟩, .string ⟨#[]⟩, .slice none 0 0, .slice none 0 0] 30))
  rw [← HW1.out]
  clear b0 b1 b2 b3 b4 b5 b6 b7 HW1 HW0
  clear hz0
  have b0 := hB1.c 0 _ rfl
  have b1 := hB1.c 1 _ rfl
  have b2 := hB1.c 2 _ rfl
  have b3 := hB1.c 3 _ rfl
  have b4 := hB1.c 4 _ rfl
  have b5 := hB1.c 5 _ rfl
  have b6 := hB1.c 6 _ rfl
  have b7 := hB1.c 7 _ rfl
  have r0 := hB1.r 0 _ rfl
  have r1 := hB1.r 1 _ rfl
  have r2 := hB1.r 2 _ rfl
  have r3 := hB1.r 3 _ rfl
  have r4 := hB1.r 4 _ rfl
  have r5 := hB1.r 5 _ rfl
  have r6 := hB1.r 6 _ rfl
  have r7 := hB1.r 7 _ rfl
  have fr := hB1.fr
  have HB1 := hide hB1
  clear hB1 HB0
  go_upto_region 23 with fail
  have hBa := HB1.out.putR 6 [.slice x.oA e.old.len x.oc] (by simp)
  obtain ⟨wa, hFa⟩ : ∃ wa, wa = World.setCells W1 (w.heap.size + 1) 6 [.slice x.oA e.old.len x.oc] := ⟨_, rfl⟩
  rw [← hFa] at hBa
  simp only [World.setCells] at hFa
  rw [← hFa]
  replace hBa : BxL w wa [.int .u8 4, .slice x.pA e.path.length x.pc, .int .i64 e.at_, .int .i64 e.far, .string e.frm, .string e.to, .slice x.oA e.old.len x.oc, .slice x.nA e.new.len x.nc] [.int .u8 4, .slice x.pA e.path.length x.pc, .int .i64 0, .int .i64 0, .string ⟨#[]⟩, .string ⟨#[]⟩, .slice x.oA e.old.len x.oc, .slice none 0 0] := hBa
  have HBa := hide hBa
  clear hBa hFa
  have hBb := HBa.out.putR 7 [.slice x.nA e.new.len x.nc] (by simp)
  obtain ⟨wb, hFb⟩ : ∃ wb, wb = World.setCells wa (w.heap.size + 1) 7 [.slice x.nA e.new.len x.nc] := ⟨_, rfl⟩
  rw [← hFb] at hBb
  simp only [World.setCells] at hFb
  rw [← hFb]
  replace hBb : BxL w wb [.int .u8 4, .slice x.pA e.path.length x.pc, .int .i64 e.at_, .int .i64 e.far, .string e.frm, .string e.to, .slice x.oA e.old.len x.oc, .slice x.nA e.new.len x.nc] [.int .u8 4, .slice x.pA e.path.length x.pc, .int .i64 0, .int .i64 0, .string ⟨#[]⟩, .string ⟨#[]⟩, .slice x.oA e.old.len x.oc, .slice x.nA e.new.len x.nc] := hBb
  have HBb := hide hBb
  clear hBb hFb
  clear b0 r0 b1 r1 b2 r2 b3 r3 b4 r4 b5 r5 b6 r6 b7 r7 fr HB1
  clear HBa
  have HBa0 := HBb
  clear HBb
  have hBq := HBa0.out
  have b0 := hBq.c 0 _ rfl
  have b1 := hBq.c 1 _ rfl
  have b2 := hBq.c 2 _ rfl
  have b3 := hBq.c 3 _ rfl
  have b4 := hBq.c 4 _ rfl
  have b5 := hBq.c 5 _ rfl
  have b6 := hBq.c 6 _ rfl
  have b7 := hBq.c 7 _ rfl
  have r0 := hBq.r 0 _ rfl
  have r1 := hBq.r 1 _ rfl
  have r2 := hBq.r 2 _ rfl
  have r3 := hBq.r 3 _ rfl
  have r4 := hBq.r 4 _ rfl
  have r5 := hBq.r 5 _ rfl
  have r6 := hBq.r 6 _ rfl
  have r7 := hBq.r 7 _ rfl
  have hNb : w.heap.size < wb.heap.size := block_lt_of_cell b0
  have hNr : w.heap.size + 1 < wb.heap.size := block_lt_of_cell r0
  have HBb0 := hBq.b
  have HBbh := hide HBb0
  clear hBq HBb0
  have HBb0 := HBbh.out
  clear HBbh HBa0
  have HSm : Hid (∀ W, Below wb.heap.size wb W → Calls Tryz.prog 44 #[.agg #[.int .u8 4, .slice x.pA e.path.length x.pc, .int .i64 e.at_, .int .i64 e.far, .string e.frm, .string e.to, .slice x.oA e.old.len x.oc, .slice x.nA e.new.len x.nc], .agg #[.int .u8 4, .slice x.pA e.path.length x.pc, .int .i64 0, .int .i64 0, .string ⟨#[]⟩, .string ⟨#[]⟩, .slice x.oA e.old.len x.oc, .slice x.nA e.new.len x.nc]] W fun e1 w' => e1 = .returned (.bool true) ∧ Below W.heap.size W w') :=
    hide fun W h9 => (fun hW => ret_yes (sameEdit_any (a := { e with kind := 4 }) (b := ⟨4, e.path, 0, 0, ⟨#[]⟩, ⟨#[]⟩, e.old, e.new⟩) (x := x) (y := ⟨x.pA, x.pc, x.oA, x.oc, x.nA, x.nc⟩) ⟨(by show 4 < 256; omega), H.out.path.below hW, H.out.at_, H.out.far, H.out.frm, H.out.to, H.out.old.below hW, H.out.new.below hW, H.out.pc, H.out.oc, H.out.nc⟩ ⟨(by show 4 < 256; omega), H.out.path.below hW, (by show isInt64 0; unfold isInt64; omega), (by show isInt64 0; unfold isInt64; omega), (by show (0 : Nat) ≤ _; omega), (by show (0 : Nat) ≤ _; omega), (H.out.old.below hW), (H.out.new.below hW), H.out.pc, H.out.oc, H.out.nc⟩) Hh.out.1) (blw_up HBb0 h9)
  have hgt : decide ((0 : Int) < (e.path.length : Int)) = true := by have := list_pos14.1 Hh.out.2.1; simpa using this
  have hgt2 : decide (0 < e.path.length) = true := by have := list_pos14.1 Hh.out.2.1; simp; omega
  have HPo : Hid (∀ W, Below wb.heap.size wb W → Calls Tryz.prog 124 #[.slice x.oA e.old.len x.oc] W fun e1 w' => e1 = .returned (.bool false) ∧ Below W.heap.size W w') := hide fun W h9 => ret_no (part14_any (H.out.old.below (blw_up HBb0 h9)) (Nat.le_trans H.out.oc.1 H.out.oc.2)) Hh.out.2.2.1
  have hd1 : Below wb.heap.size wb wb.drew := blw_drewN (Below.refl _ _) 1
  refine wp_region_held_drew (S := Below wb.heap.size wb) (by kernel_rfl) hd1 (fun hHeld => ?_)
  generalize wb.drew = wD at hHeld ⊢
  refine tk (v := ?_) 0 hHeld ?_ ?_
  rotate_left
  · intro w' hSw
    have f0 := (hSw.cell (p := ⟨w.heap.size, 0, none⟩) hNb).trans b0
    have f1 := (hSw.cell (p := ⟨w.heap.size, 1, none⟩) hNb).trans b1
    have f2 := (hSw.cell (p := ⟨w.heap.size, 2, none⟩) hNb).trans b2
    have f3 := (hSw.cell (p := ⟨w.heap.size, 3, none⟩) hNb).trans b3
    have f4 := (hSw.cell (p := ⟨w.heap.size, 4, none⟩) hNb).trans b4
    have f5 := (hSw.cell (p := ⟨w.heap.size, 5, none⟩) hNb).trans b5
    have f6 := (hSw.cell (p := ⟨w.heap.size, 6, none⟩) hNb).trans b6
    have f7 := (hSw.cell (p := ⟨w.heap.size, 7, none⟩) hNb).trans b7
    first | (go_simp; done) | (go_simp; with_reducible rfl)
  try simp only [List.set_cons_zero, List.set_cons_succ]
  refine tk (v := ?_) 1 hHeld ?_ ?_
  rotate_left
  · intro w' hSw
    have f0 := (hSw.cell (p := ⟨w.heap.size + 1, 0, none⟩) hNr).trans r0
    have f1 := (hSw.cell (p := ⟨w.heap.size + 1, 1, none⟩) hNr).trans r1
    have f2 := (hSw.cell (p := ⟨w.heap.size + 1, 2, none⟩) hNr).trans r2
    have f3 := (hSw.cell (p := ⟨w.heap.size + 1, 3, none⟩) hNr).trans r3
    have f4 := (hSw.cell (p := ⟨w.heap.size + 1, 4, none⟩) hNr).trans r4
    have f5 := (hSw.cell (p := ⟨w.heap.size + 1, 5, none⟩) hNr).trans r5
    have f6 := (hSw.cell (p := ⟨w.heap.size + 1, 6, none⟩) hNr).trans r6
    have f7 := (hSw.cell (p := ⟨w.heap.size + 1, 7, none⟩) hNr).trans r7
    first | (go_simp; done) | (go_simp; with_reducible rfl)
  try simp only [List.set_cons_zero, List.set_cons_succ]
  refine wpAnyH_ready (rs := [2]) (by kernel_rfl) (by simp) ?_
  refine AllReadyH.cons rfl (fun K hK => ?_) AllReadyH.nil
  go_simp
  go_wp2_with (go_at_call 44; (with_reducible refine (HSm.out _ hHeld).mono ?_); rintro e1 w1 ⟨rfl, hB1⟩)
  replace hHeld := hHeld.trans (hB1.mono hHeld.size)
  refine hK.out _ _ hHeld (fun _ => ?_)
  clear hK K hB1
  try simp only [Act.put, List.getElem_toArray, List.getElem_cons_zero, List.getElem_cons_succ, List.setIfInBounds_toArray, List.set_cons_zero, List.set_cons_succ]
  refine tk (v := ?_) 3 hHeld ?_ ?_
  rotate_left
  · intro w' hSw
    first | (go_simp; done) | (go_simp; with_reducible rfl)
  try simp only [List.set_cons_zero, List.set_cons_succ]
  refine tk (v := ?_) 4 hHeld ?_ ?_
  rotate_left
  · intro w' hSw
    first | (go_simp; done) | (go_simp; with_reducible rfl)
  try simp only [List.set_cons_zero, List.set_cons_succ]
  refine tk (v := ?_) 5 hHeld ?_ ?_
  rotate_left
  · intro w' hSw
    have f1 := (hSw.cell (p := ⟨w.heap.size, 1, none⟩) hNb).trans b1
    first | (go_simp; done) | (go_simp; with_reducible rfl)
  try simp only [List.set_cons_zero, List.set_cons_succ]
  refine tk (v := ?_) 6 hHeld ?_ ?_
  rotate_left
  · intro w' hSw
    first | (go_simp; done) | (go_simp; with_reducible rfl)
  try simp only [List.set_cons_zero, List.set_cons_succ]
  refine tk (v := ?_) 7 hHeld ?_ ?_
  rotate_left
  · intro w' hSw
    first | (go_simp; done) | (go_simp; with_reducible rfl)
  try simp only [List.set_cons_zero, List.set_cons_succ]
  refine tk (v := ?_) 8 hHeld ?_ ?_
  rotate_left
  · intro w' hSw
    first | (go_simp; done) | (go_simp; with_reducible rfl)
  try simp only [List.set_cons_zero, List.set_cons_succ]
  refine tk (v := ?_) 9 hHeld ?_ ?_
  rotate_left
  · intro w' hSw
    first | (go_simp; done) | (go_simp; with_reducible rfl)
  try simp only [List.set_cons_zero, List.set_cons_succ]
  refine tk (v := ?_) 10 hHeld ?_ ?_
  rotate_left
  · intro w' hSw
    first | (go_simp; done) | (go_simp; with_reducible rfl)
  try simp only [List.set_cons_zero, List.set_cons_succ]
  refine tk (v := ?_) 11 hHeld ?_ ?_
  rotate_left
  · intro w' hSw
    have f6 := (hSw.cell (p := ⟨w.heap.size, 6, none⟩) hNb).trans b6
    first | (go_simp; done) | (go_simp; with_reducible rfl)
  try simp only [List.set_cons_zero, List.set_cons_succ]
  refine wpAnyH_ready (rs := [12]) (by kernel_rfl) (by simp) ?_
  refine AllReadyH.cons rfl (fun K hK => ?_) AllReadyH.nil
  go_simp
  go_wp2_with (go_at_call 124; (with_reducible refine (HPo.out _ hHeld).mono ?_); rintro e1 w2 ⟨rfl, hB1⟩)
  replace hHeld := hHeld.trans (hB1.mono hHeld.size)
  refine hK.out _ _ hHeld (fun _ => ?_)
  clear hK K hB1
  try simp only [Act.put, List.getElem_toArray, List.getElem_cons_zero, List.getElem_cons_succ, List.setIfInBounds_toArray, List.set_cons_zero, List.set_cons_succ]
  refine tk (v := ?_) 13 hHeld ?_ ?_
  rotate_left
  · intro w' hSw
    first | (go_simp; done) | (go_simp; with_reducible rfl)
  try simp only [List.set_cons_zero, List.set_cons_succ]
  refine tk (v := ?_) 14 hHeld ?_ ?_
  rotate_left
  · intro w' hSw
    first | (go_simp; done) | (go_simp; with_reducible rfl)
  try simp only [List.set_cons_zero, List.set_cons_succ]
  refine tn 15 hHeld ?_
  try simp only [List.set_cons_zero, List.set_cons_succ]
  refine tn 16 hHeld ?_
  try simp only [List.set_cons_zero, List.set_cons_succ]
  refine tn 17 hHeld ?_
  try simp only [List.set_cons_zero, List.set_cons_succ]
  refine tk (v := ?_) 18 hHeld ?_ ?_
  rotate_left
  · intro w' hSw
    first | (go_simp; done) | (go_simp; with_reducible rfl)
  try simp only [List.set_cons_zero, List.set_cons_succ]
  refine tk (v := ?_) 19 hHeld ?_ ?_
  rotate_left
  · intro w' hSw
    first | (go_simp; done) | (go_simp; with_reducible rfl)
  try simp only [List.set_cons_zero, List.set_cons_succ]
  refine tn 20 hHeld ?_
  try simp only [List.set_cons_zero, List.set_cons_succ]
  refine tn 21 hHeld ?_
  try simp only [List.set_cons_zero, List.set_cons_succ]
  refine tn 22 hHeld ?_
  try simp only [List.set_cons_zero, List.set_cons_succ]
  refine tn 23 hHeld ?_
  try simp only [List.set_cons_zero, List.set_cons_succ]
  refine tn 24 hHeld ?_
  try simp only [List.set_cons_zero, List.set_cons_succ]
  refine tn 25 hHeld ?_
  try simp only [List.set_cons_zero, List.set_cons_succ]
  refine tn 26 hHeld ?_
  try simp only [List.set_cons_zero, List.set_cons_succ]
  refine tn 27 hHeld ?_
  try simp only [List.set_cons_zero, List.set_cons_succ]
  refine tn 28 hHeld ?_
  try simp only [List.set_cons_zero, List.set_cons_succ]
  refine tn 29 hHeld ?_
  try simp only [List.set_cons_zero, List.set_cons_succ]
  refine tk (v := ?_) 30 hHeld ?_ ?_
  rotate_left
  · intro w' hSw
    first | (go_simp; done) | (go_simp; with_reducible rfl)
  try simp only [List.set_cons_zero, List.set_cons_succ]
  refine tk (v := ?_) 31 hHeld ?_ ?_
  rotate_left
  · intro w' hSw
    first | (go_simp; done) | (go_simp; with_reducible rfl)
  try simp only [List.set_cons_zero, List.set_cons_succ]
  have HBe : Hid (Below w.heap.size w _) := hide (blw_up HBb0 hHeld)
  refine wpAnyH_done (by kernel_rfl) ?_ _
  try simp only [Act.put, List.getElem_toArray, List.getElem_cons_zero, List.getElem_cons_succ, List.setIfInBounds_toArray, List.set_cons_zero, List.set_cons_succ]
  go_wp2_with fail
  go_ret
  exact ⟨RetB.no (fun h => by have h9 := edOk14_4.1 h; have h8 := Hh.out; exact h8.2.2.1 h9.2.2.2.1), HBe.out⟩

set_option maxHeartbeats 4000000 in
set_option maxRecDepth 100000 in
theorem edRight14_4d {S : Nat → Prop} {x : Eh} {e : Ed} {w : World} (he : EdIn S w x e) (h0 : ({ e with kind := 4 } : Ed) = ⟨4, e.path, 0, 0, ⟨#[]⟩, ⟨#[]⟩, e.old, e.new⟩) (h1 : e.path ≠ []) (h2 : PartOk e.old) (h3 : ¬ PartOk e.new) :
    Calls Tryz.prog 60 #[.agg #[.int .u8 4, .slice x.pA e.path.length x.pc, .int .i64 e.at_, .int .i64 e.far, .string e.frm, .string e.to, .slice x.oA e.old.len x.oc, .slice x.nA e.new.len x.nc]] w fun e1 w' => RetB (EdOk { e with kind := 4 }) e1 ∧ Below w.heap.size w w' := by
  have Hh := hide (And.intro h0 (And.intro h1 (And.intro h2 h3)))
  clear h0 h1 h2 h3
  have H := hide he
  obtain ⟨W0, hW0⟩ : ∃ W0, W0 = w.alloc (.cells #[.int .u8 4, .slice x.pA e.path.length x.pc, .int .i64 e.at_, .int .i64 e.far, .string e.frm, .string e.to, .slice x.oA e.old.len x.oc, .slice x.nA e.new.len x.nc] 30) := ⟨_, rfl⟩
  have hcl0 : CellsL W0 w.heap.size [.int .u8 4, .slice x.pA e.path.length x.pc, .int .i64 e.at_, .int .i64 e.far, .string e.frm, .string e.to, .slice x.oA e.old.len x.oc, .slice x.nA e.new.len x.nc] := fun j u hu => by rw [hW0, Lib.cell_of_heap (heap_alloc_new w _)]; simpa using hu
  have hBB : Below w.heap.size w W0 := by rw [hW0]; exact below_alloc _ _
  have HB0 := hide hBB
  have HW0 := hide hW0
  have hlp := Nat.le_trans he.pc.1 he.pc.2
  have b0 := hcl0 0 _ rfl
  have b1 := hcl0 1 _ rfl
  have b2 := hcl0 2 _ rfl
  have b3 := hcl0 3 _ rfl
  have b4 := hcl0 4 _ rfl
  have b5 := hcl0 5 _ rfl
  have b6 := hcl0 6 _ rfl
  have b7 := hcl0 7 _ rfl
  clear he hW0 hcl0 hBB
  go_enter Tryz.func60, Tryz.ntmps60
  go_upto_region 1 with fail
  change Code.wp _ _ _ _ (w.alloc (.cells #[.int .u8 4, .slice x.pA e.path.length x.pc, .int .i64 e.at_, .int .i64 e.far, .string e.frm, .string e.to, .slice x.oA e.old.len x.oc, .slice x.nA e.new.len x.nc] 30))
  rw [← HW0.out]
  go_wp2_with fail
  go_loopw [3] (fun i wr => ∃ q : Nat, q ≤ e.path.length ∧ i = .int .i64 q ∧ wr = W0 ∧ Hid (∀ j, (h : j < e.path.length) → j < q → Number e.path[j])) (fun i _ => e.path.length - (intOf i).toNat)
  case atStart => exact ⟨0, Nat.zero_le _, rfl, rfl, hide (fun j _ h => absurd h (by omega))⟩
  case round =>
  obtain ⟨q, hq, rfl, rfl, Hall⟩ := hrel
  by_cases hlt : q < e.path.length
  · obtain ⟨b, o, hpa, hc⟩ := (H.out.path.below HB0.out).1.at_ (j := q) (by simpa using hlt)
    simp only [List.getElem_map] at hc
    rw [hpa] at b1
    have Hpa := hide hpa
    clear hpa
    obtain ⟨m, hm⟩ : ∃ m, m = e.path[q] := ⟨_, rfl⟩
    rw [← hm] at hc
    have Hm := hide hm
    clear hm
    go_wp2_with (go_at_call 122; (with_reducible refine (number14_any m _).mono ?_); rintro e1 w1 ⟨⟨_ | _, rfl, hb⟩, rfl⟩ <;> (have Hb := hide hb; clear hb))
    · go_ret
      refine ⟨RetB.no (fun h => ?_), HB0.out⟩
      have h1 := h.1 _ (List.getElem_mem hlt)
      rw [← Hm.out] at h1
      exact absurd (Hb.out.2 h1) (by decide)
    · go_roundw
      case rel => exact ⟨q + 1, by omega, by go_num, by first | trivial | rfl, hide (fun j h hj => by
        rcases Nat.lt_or_ge j q with h2 | h2
        · exact Hall.out j h h2
        · obtain rfl : j = q := by omega
          rw [← Hm.out]
          exact Hb.out.1 (by first | rfl | trivial))⟩
      case measure => simp [intOf]; omega
  have Hpath : Hid (∀ n ∈ e.path, Number n) := hide (fun n hn => by
    obtain ⟨j, hj, rfl⟩ := List.getElem_of_mem hn
    exact Hall.out j hj (by omega))
  clear Hall
  obtain ⟨W1, hW1⟩ : ∃ W1, W1 = World.alloc wr (.cells #[.int .u8 4, .slice x.pA e.path.length x.pc, .int .i64 0, .int .i64 0, .string ⟨#[]⟩, .string ⟨#[]⟩, .slice none 0 0, .slice none 0 0] 30) := ⟨_, rfl⟩
  have hB1 : BxL w W1 [.int .u8 4, .slice x.pA e.path.length x.pc, .int .i64 e.at_, .int .i64 e.far, .string e.frm, .string e.to, .slice x.oA e.old.len x.oc, .slice x.nA e.new.len x.nc] [.int .u8 4, .slice x.pA e.path.length x.pc, .int .i64 0, .int .i64 0, .string ⟨#[]⟩, .string ⟨#[]⟩, .slice none 0 0, .slice none 0 0] := by rw [hW1, HW0.out]; exact BxL.start w #[.int .u8 4, .slice x.pA e.path.length x.pc, .int .i64 e.at_, .int .i64 e.far, .string e.frm, .string e.to, .slice x.oA e.old.len x.oc, .slice x.nA e.new.len x.nc] #[.int .u8 4, .slice x.pA e.path.length x.pc, .int .i64 0, .int .i64 0, .string ⟨#[]⟩, .string ⟨#[]⟩, .slice none 0 0, .slice none 0 0] _ _
  have hz0 : wr.heap.size = w.heap.size + 1 := by rw [HW0.out]; simp
  have HW1 := hide hW1
  clear hW1
  go_upto_region 7 with fail
  change Code.wp _ _ _ _ (World.alloc wr (.cells #[.int .u8 4, .slice x.pA e.path.length x.pc, .int .i64 0, .int .i64 0, .string ⟨#[]⟩, .string ⟨#[]⟩, .slice none 0 0, .slice none 0 0] 30))
  rw [← HW1.out]
  clear b0 b1 b2 b3 b4 b5 b6 b7 HW1 HW0
  clear hz0
  have b0 := hB1.c 0 _ rfl
  have b1 := hB1.c 1 _ rfl
  have b2 := hB1.c 2 _ rfl
  have b3 := hB1.c 3 _ rfl
  have b4 := hB1.c 4 _ rfl
  have b5 := hB1.c 5 _ rfl
  have b6 := hB1.c 6 _ rfl
  have b7 := hB1.c 7 _ rfl
  have r0 := hB1.r 0 _ rfl
  have r1 := hB1.r 1 _ rfl
  have r2 := hB1.r 2 _ rfl
  have r3 := hB1.r 3 _ rfl
  have r4 := hB1.r 4 _ rfl
  have r5 := hB1.r 5 _ rfl
  have r6 := hB1.r 6 _ rfl
  have r7 := hB1.r 7 _ rfl
  have fr := hB1.fr
  have HB1 := hide hB1
  clear hB1 HB0
  go_upto_region 23 with fail
  have hBa := HB1.out.putR 6 [.slice x.oA e.old.len x.oc] (by simp)
  obtain ⟨wa, hFa⟩ : ∃ wa, wa = World.setCells W1 (w.heap.size + 1) 6 [.slice x.oA e.old.len x.oc] := ⟨_, rfl⟩
  rw [← hFa] at hBa
  simp only [World.setCells] at hFa
  rw [← hFa]
  replace hBa : BxL w wa [.int .u8 4, .slice x.pA e.path.length x.pc, .int .i64 e.at_, .int .i64 e.far, .string e.frm, .string e.to, .slice x.oA e.old.len x.oc, .slice x.nA e.new.len x.nc] [.int .u8 4, .slice x.pA e.path.length x.pc, .int .i64 0, .int .i64 0, .string ⟨#[]⟩, .string ⟨#[]⟩, .slice x.oA e.old.len x.oc, .slice none 0 0] := hBa
  have HBa := hide hBa
  clear hBa hFa
  have hBb := HBa.out.putR 7 [.slice x.nA e.new.len x.nc] (by simp)
  obtain ⟨wb, hFb⟩ : ∃ wb, wb = World.setCells wa (w.heap.size + 1) 7 [.slice x.nA e.new.len x.nc] := ⟨_, rfl⟩
  rw [← hFb] at hBb
  simp only [World.setCells] at hFb
  rw [← hFb]
  replace hBb : BxL w wb [.int .u8 4, .slice x.pA e.path.length x.pc, .int .i64 e.at_, .int .i64 e.far, .string e.frm, .string e.to, .slice x.oA e.old.len x.oc, .slice x.nA e.new.len x.nc] [.int .u8 4, .slice x.pA e.path.length x.pc, .int .i64 0, .int .i64 0, .string ⟨#[]⟩, .string ⟨#[]⟩, .slice x.oA e.old.len x.oc, .slice x.nA e.new.len x.nc] := hBb
  have HBb := hide hBb
  clear hBb hFb
  clear b0 r0 b1 r1 b2 r2 b3 r3 b4 r4 b5 r5 b6 r6 b7 r7 fr HB1
  clear HBa
  have HBa0 := HBb
  clear HBb
  have hBq := HBa0.out
  have b0 := hBq.c 0 _ rfl
  have b1 := hBq.c 1 _ rfl
  have b2 := hBq.c 2 _ rfl
  have b3 := hBq.c 3 _ rfl
  have b4 := hBq.c 4 _ rfl
  have b5 := hBq.c 5 _ rfl
  have b6 := hBq.c 6 _ rfl
  have b7 := hBq.c 7 _ rfl
  have r0 := hBq.r 0 _ rfl
  have r1 := hBq.r 1 _ rfl
  have r2 := hBq.r 2 _ rfl
  have r3 := hBq.r 3 _ rfl
  have r4 := hBq.r 4 _ rfl
  have r5 := hBq.r 5 _ rfl
  have r6 := hBq.r 6 _ rfl
  have r7 := hBq.r 7 _ rfl
  have hNb : w.heap.size < wb.heap.size := block_lt_of_cell b0
  have hNr : w.heap.size + 1 < wb.heap.size := block_lt_of_cell r0
  have HBb0 := hBq.b
  have HBbh := hide HBb0
  clear hBq HBb0
  have HBb0 := HBbh.out
  clear HBbh HBa0
  have HSm : Hid (∀ W, Below wb.heap.size wb W → Calls Tryz.prog 44 #[.agg #[.int .u8 4, .slice x.pA e.path.length x.pc, .int .i64 e.at_, .int .i64 e.far, .string e.frm, .string e.to, .slice x.oA e.old.len x.oc, .slice x.nA e.new.len x.nc], .agg #[.int .u8 4, .slice x.pA e.path.length x.pc, .int .i64 0, .int .i64 0, .string ⟨#[]⟩, .string ⟨#[]⟩, .slice x.oA e.old.len x.oc, .slice x.nA e.new.len x.nc]] W fun e1 w' => e1 = .returned (.bool true) ∧ Below W.heap.size W w') :=
    hide fun W h9 => (fun hW => ret_yes (sameEdit_any (a := { e with kind := 4 }) (b := ⟨4, e.path, 0, 0, ⟨#[]⟩, ⟨#[]⟩, e.old, e.new⟩) (x := x) (y := ⟨x.pA, x.pc, x.oA, x.oc, x.nA, x.nc⟩) ⟨(by show 4 < 256; omega), H.out.path.below hW, H.out.at_, H.out.far, H.out.frm, H.out.to, H.out.old.below hW, H.out.new.below hW, H.out.pc, H.out.oc, H.out.nc⟩ ⟨(by show 4 < 256; omega), H.out.path.below hW, (by show isInt64 0; unfold isInt64; omega), (by show isInt64 0; unfold isInt64; omega), (by show (0 : Nat) ≤ _; omega), (by show (0 : Nat) ≤ _; omega), (H.out.old.below hW), (H.out.new.below hW), H.out.pc, H.out.oc, H.out.nc⟩) Hh.out.1) (blw_up HBb0 h9)
  have hgt : decide ((0 : Int) < (e.path.length : Int)) = true := by have := list_pos14.1 Hh.out.2.1; simpa using this
  have hgt2 : decide (0 < e.path.length) = true := by have := list_pos14.1 Hh.out.2.1; simp; omega
  have HPo : Hid (∀ W, Below wb.heap.size wb W → Calls Tryz.prog 124 #[.slice x.oA e.old.len x.oc] W fun e1 w' => e1 = .returned (.bool true) ∧ Below W.heap.size W w') := hide fun W h9 => ret_yes (part14_any (H.out.old.below (blw_up HBb0 h9)) (Nat.le_trans H.out.oc.1 H.out.oc.2)) Hh.out.2.2.1
  have HPn : Hid (∀ W, Below wb.heap.size wb W → Calls Tryz.prog 124 #[.slice x.nA e.new.len x.nc] W fun e1 w' => e1 = .returned (.bool false) ∧ Below W.heap.size W w') := hide fun W h9 => ret_no (part14_any (H.out.new.below (blw_up HBb0 h9)) (Nat.le_trans H.out.nc.1 H.out.nc.2)) Hh.out.2.2.2
  have hd1 : Below wb.heap.size wb wb.drew := blw_drewN (Below.refl _ _) 1
  refine wp_region_held_drew (S := Below wb.heap.size wb) (by kernel_rfl) hd1 (fun hHeld => ?_)
  generalize wb.drew = wD at hHeld ⊢
  refine tk (v := ?_) 0 hHeld ?_ ?_
  rotate_left
  · intro w' hSw
    have f0 := (hSw.cell (p := ⟨w.heap.size, 0, none⟩) hNb).trans b0
    have f1 := (hSw.cell (p := ⟨w.heap.size, 1, none⟩) hNb).trans b1
    have f2 := (hSw.cell (p := ⟨w.heap.size, 2, none⟩) hNb).trans b2
    have f3 := (hSw.cell (p := ⟨w.heap.size, 3, none⟩) hNb).trans b3
    have f4 := (hSw.cell (p := ⟨w.heap.size, 4, none⟩) hNb).trans b4
    have f5 := (hSw.cell (p := ⟨w.heap.size, 5, none⟩) hNb).trans b5
    have f6 := (hSw.cell (p := ⟨w.heap.size, 6, none⟩) hNb).trans b6
    have f7 := (hSw.cell (p := ⟨w.heap.size, 7, none⟩) hNb).trans b7
    first | (go_simp; done) | (go_simp; with_reducible rfl)
  try simp only [List.set_cons_zero, List.set_cons_succ]
  refine tk (v := ?_) 1 hHeld ?_ ?_
  rotate_left
  · intro w' hSw
    have f0 := (hSw.cell (p := ⟨w.heap.size + 1, 0, none⟩) hNr).trans r0
    have f1 := (hSw.cell (p := ⟨w.heap.size + 1, 1, none⟩) hNr).trans r1
    have f2 := (hSw.cell (p := ⟨w.heap.size + 1, 2, none⟩) hNr).trans r2
    have f3 := (hSw.cell (p := ⟨w.heap.size + 1, 3, none⟩) hNr).trans r3
    have f4 := (hSw.cell (p := ⟨w.heap.size + 1, 4, none⟩) hNr).trans r4
    have f5 := (hSw.cell (p := ⟨w.heap.size + 1, 5, none⟩) hNr).trans r5
    have f6 := (hSw.cell (p := ⟨w.heap.size + 1, 6, none⟩) hNr).trans r6
    have f7 := (hSw.cell (p := ⟨w.heap.size + 1, 7, none⟩) hNr).trans r7
    first | (go_simp; done) | (go_simp; with_reducible rfl)
  try simp only [List.set_cons_zero, List.set_cons_succ]
  refine wpAnyH_ready (rs := [2]) (by kernel_rfl) (by simp) ?_
  refine AllReadyH.cons rfl (fun K hK => ?_) AllReadyH.nil
  go_simp
  go_wp2_with (go_at_call 44; (with_reducible refine (HSm.out _ hHeld).mono ?_); rintro e1 w1 ⟨rfl, hB1⟩)
  replace hHeld := hHeld.trans (hB1.mono hHeld.size)
  refine hK.out _ _ hHeld (fun _ => ?_)
  clear hK K hB1
  try simp only [Act.put, List.getElem_toArray, List.getElem_cons_zero, List.getElem_cons_succ, List.setIfInBounds_toArray, List.set_cons_zero, List.set_cons_succ]
  refine tk (v := ?_) 3 hHeld ?_ ?_
  rotate_left
  · intro w' hSw
    first | (go_simp; done) | (go_simp; with_reducible rfl)
  try simp only [List.set_cons_zero, List.set_cons_succ]
  refine tk (v := ?_) 4 hHeld ?_ ?_
  rotate_left
  · intro w' hSw
    first | (go_simp; done) | (go_simp; with_reducible rfl)
  try simp only [List.set_cons_zero, List.set_cons_succ]
  refine tk (v := ?_) 5 hHeld ?_ ?_
  rotate_left
  · intro w' hSw
    have f1 := (hSw.cell (p := ⟨w.heap.size, 1, none⟩) hNb).trans b1
    first | (go_simp; done) | (go_simp; with_reducible rfl)
  try simp only [List.set_cons_zero, List.set_cons_succ]
  refine tk (v := ?_) 6 hHeld ?_ ?_
  rotate_left
  · intro w' hSw
    first | (go_simp; done) | (go_simp; with_reducible rfl)
  try simp only [List.set_cons_zero, List.set_cons_succ]
  refine tk (v := ?_) 7 hHeld ?_ ?_
  rotate_left
  · intro w' hSw
    first | (go_simp; done) | (go_simp; with_reducible rfl)
  try simp only [List.set_cons_zero, List.set_cons_succ]
  refine tk (v := ?_) 8 hHeld ?_ ?_
  rotate_left
  · intro w' hSw
    first | (go_simp; done) | (go_simp; with_reducible rfl)
  try simp only [List.set_cons_zero, List.set_cons_succ]
  refine tk (v := ?_) 9 hHeld ?_ ?_
  rotate_left
  · intro w' hSw
    first | (go_simp; done) | (go_simp; with_reducible rfl)
  try simp only [List.set_cons_zero, List.set_cons_succ]
  refine tk (v := ?_) 10 hHeld ?_ ?_
  rotate_left
  · intro w' hSw
    first | (go_simp; done) | (go_simp; with_reducible rfl)
  try simp only [List.set_cons_zero, List.set_cons_succ]
  refine tk (v := ?_) 11 hHeld ?_ ?_
  rotate_left
  · intro w' hSw
    have f6 := (hSw.cell (p := ⟨w.heap.size, 6, none⟩) hNb).trans b6
    first | (go_simp; done) | (go_simp; with_reducible rfl)
  try simp only [List.set_cons_zero, List.set_cons_succ]
  refine wpAnyH_ready (rs := [12]) (by kernel_rfl) (by simp) ?_
  refine AllReadyH.cons rfl (fun K hK => ?_) AllReadyH.nil
  go_simp
  go_wp2_with (go_at_call 124; (with_reducible refine (HPo.out _ hHeld).mono ?_); rintro e1 w2 ⟨rfl, hB1⟩)
  replace hHeld := hHeld.trans (hB1.mono hHeld.size)
  refine hK.out _ _ hHeld (fun _ => ?_)
  clear hK K hB1
  try simp only [Act.put, List.getElem_toArray, List.getElem_cons_zero, List.getElem_cons_succ, List.setIfInBounds_toArray, List.set_cons_zero, List.set_cons_succ]
  refine tk (v := ?_) 13 hHeld ?_ ?_
  rotate_left
  · intro w' hSw
    first | (go_simp; done) | (go_simp; with_reducible rfl)
  try simp only [List.set_cons_zero, List.set_cons_succ]
  refine tk (v := ?_) 14 hHeld ?_ ?_
  rotate_left
  · intro w' hSw
    first | (go_simp; done) | (go_simp; with_reducible rfl)
  try simp only [List.set_cons_zero, List.set_cons_succ]
  refine tk (v := ?_) 15 hHeld ?_ ?_
  rotate_left
  · intro w' hSw
    first | (go_simp; done) | (go_simp; with_reducible rfl)
  try simp only [List.set_cons_zero, List.set_cons_succ]
  refine tk (v := ?_) 16 hHeld ?_ ?_
  rotate_left
  · intro w' hSw
    have f7 := (hSw.cell (p := ⟨w.heap.size, 7, none⟩) hNb).trans b7
    first | (go_simp; done) | (go_simp; with_reducible rfl)
  try simp only [List.set_cons_zero, List.set_cons_succ]
  refine wpAnyH_ready (rs := [17]) (by kernel_rfl) (by simp) ?_
  refine AllReadyH.cons rfl (fun K hK => ?_) AllReadyH.nil
  go_simp
  go_wp2_with (go_at_call 124; (with_reducible refine (HPn.out _ hHeld).mono ?_); rintro e1 w3 ⟨rfl, hB1⟩)
  replace hHeld := hHeld.trans (hB1.mono hHeld.size)
  refine hK.out _ _ hHeld (fun _ => ?_)
  clear hK K hB1
  try simp only [Act.put, List.getElem_toArray, List.getElem_cons_zero, List.getElem_cons_succ, List.setIfInBounds_toArray, List.set_cons_zero, List.set_cons_succ]
  refine tk (v := ?_) 18 hHeld ?_ ?_
  rotate_left
  · intro w' hSw
    first | (go_simp; done) | (go_simp; with_reducible rfl)
  try simp only [List.set_cons_zero, List.set_cons_succ]
  refine tk (v := ?_) 19 hHeld ?_ ?_
  rotate_left
  · intro w' hSw
    first | (go_simp; done) | (go_simp; with_reducible rfl)
  try simp only [List.set_cons_zero, List.set_cons_succ]
  refine tn 20 hHeld ?_
  try simp only [List.set_cons_zero, List.set_cons_succ]
  refine tn 21 hHeld ?_
  try simp only [List.set_cons_zero, List.set_cons_succ]
  refine tn 22 hHeld ?_
  try simp only [List.set_cons_zero, List.set_cons_succ]
  refine tn 23 hHeld ?_
  try simp only [List.set_cons_zero, List.set_cons_succ]
  refine tn 24 hHeld ?_
  try simp only [List.set_cons_zero, List.set_cons_succ]
  refine tn 25 hHeld ?_
  try simp only [List.set_cons_zero, List.set_cons_succ]
  refine tn 26 hHeld ?_
  try simp only [List.set_cons_zero, List.set_cons_succ]
  refine tn 27 hHeld ?_
  try simp only [List.set_cons_zero, List.set_cons_succ]
  refine tn 28 hHeld ?_
  try simp only [List.set_cons_zero, List.set_cons_succ]
  refine tn 29 hHeld ?_
  try simp only [List.set_cons_zero, List.set_cons_succ]
  refine tk (v := ?_) 30 hHeld ?_ ?_
  rotate_left
  · intro w' hSw
    first | (go_simp; done) | (go_simp; with_reducible rfl)
  try simp only [List.set_cons_zero, List.set_cons_succ]
  refine tk (v := ?_) 31 hHeld ?_ ?_
  rotate_left
  · intro w' hSw
    first | (go_simp; done) | (go_simp; with_reducible rfl)
  try simp only [List.set_cons_zero, List.set_cons_succ]
  have HBe : Hid (Below w.heap.size w _) := hide (blw_up HBb0 hHeld)
  refine wpAnyH_done (by kernel_rfl) ?_ _
  try simp only [Act.put, List.getElem_toArray, List.getElem_cons_zero, List.getElem_cons_succ, List.setIfInBounds_toArray, List.set_cons_zero, List.set_cons_succ]
  go_wp2_with fail
  go_ret
  exact ⟨RetB.no (fun h => by have h9 := edOk14_4.1 h; have h8 := Hh.out; exact h8.2.2.2 h9.2.2.2.2.1), HBe.out⟩

set_option maxHeartbeats 4000000 in
set_option maxRecDepth 100000 in
theorem edRight14_4e {S : Nat → Prop} {x : Eh} {e : Ed} {w : World} (he : EdIn S w x e) (h0 : ({ e with kind := 4 } : Ed) = ⟨4, e.path, 0, 0, ⟨#[]⟩, ⟨#[]⟩, e.old, e.new⟩) (h1 : e.path ≠ []) (h2 : PartOk e.old) (h3 : PartOk e.new) :
    Calls Tryz.prog 60 #[.agg #[.int .u8 4, .slice x.pA e.path.length x.pc, .int .i64 e.at_, .int .i64 e.far, .string e.frm, .string e.to, .slice x.oA e.old.len x.oc, .slice x.nA e.new.len x.nc]] w fun e1 w' => RetB (EdOk { e with kind := 4 }) e1 ∧ Below w.heap.size w w' := by
  have Hh := hide (And.intro h0 (And.intro h1 (And.intro h2 h3)))
  clear h0 h1 h2 h3
  have H := hide he
  obtain ⟨W0, hW0⟩ : ∃ W0, W0 = w.alloc (.cells #[.int .u8 4, .slice x.pA e.path.length x.pc, .int .i64 e.at_, .int .i64 e.far, .string e.frm, .string e.to, .slice x.oA e.old.len x.oc, .slice x.nA e.new.len x.nc] 30) := ⟨_, rfl⟩
  have hcl0 : CellsL W0 w.heap.size [.int .u8 4, .slice x.pA e.path.length x.pc, .int .i64 e.at_, .int .i64 e.far, .string e.frm, .string e.to, .slice x.oA e.old.len x.oc, .slice x.nA e.new.len x.nc] := fun j u hu => by rw [hW0, Lib.cell_of_heap (heap_alloc_new w _)]; simpa using hu
  have hBB : Below w.heap.size w W0 := by rw [hW0]; exact below_alloc _ _
  have HB0 := hide hBB
  have HW0 := hide hW0
  have hlp := Nat.le_trans he.pc.1 he.pc.2
  have b0 := hcl0 0 _ rfl
  have b1 := hcl0 1 _ rfl
  have b2 := hcl0 2 _ rfl
  have b3 := hcl0 3 _ rfl
  have b4 := hcl0 4 _ rfl
  have b5 := hcl0 5 _ rfl
  have b6 := hcl0 6 _ rfl
  have b7 := hcl0 7 _ rfl
  clear he hW0 hcl0 hBB
  go_enter Tryz.func60, Tryz.ntmps60
  go_upto_region 1 with fail
  change Code.wp _ _ _ _ (w.alloc (.cells #[.int .u8 4, .slice x.pA e.path.length x.pc, .int .i64 e.at_, .int .i64 e.far, .string e.frm, .string e.to, .slice x.oA e.old.len x.oc, .slice x.nA e.new.len x.nc] 30))
  rw [← HW0.out]
  go_wp2_with fail
  go_loopw [3] (fun i wr => ∃ q : Nat, q ≤ e.path.length ∧ i = .int .i64 q ∧ wr = W0 ∧ Hid (∀ j, (h : j < e.path.length) → j < q → Number e.path[j])) (fun i _ => e.path.length - (intOf i).toNat)
  case atStart => exact ⟨0, Nat.zero_le _, rfl, rfl, hide (fun j _ h => absurd h (by omega))⟩
  case round =>
  obtain ⟨q, hq, rfl, rfl, Hall⟩ := hrel
  by_cases hlt : q < e.path.length
  · obtain ⟨b, o, hpa, hc⟩ := (H.out.path.below HB0.out).1.at_ (j := q) (by simpa using hlt)
    simp only [List.getElem_map] at hc
    rw [hpa] at b1
    have Hpa := hide hpa
    clear hpa
    obtain ⟨m, hm⟩ : ∃ m, m = e.path[q] := ⟨_, rfl⟩
    rw [← hm] at hc
    have Hm := hide hm
    clear hm
    go_wp2_with (go_at_call 122; (with_reducible refine (number14_any m _).mono ?_); rintro e1 w1 ⟨⟨_ | _, rfl, hb⟩, rfl⟩ <;> (have Hb := hide hb; clear hb))
    · go_ret
      refine ⟨RetB.no (fun h => ?_), HB0.out⟩
      have h1 := h.1 _ (List.getElem_mem hlt)
      rw [← Hm.out] at h1
      exact absurd (Hb.out.2 h1) (by decide)
    · go_roundw
      case rel => exact ⟨q + 1, by omega, by go_num, by first | trivial | rfl, hide (fun j h hj => by
        rcases Nat.lt_or_ge j q with h2 | h2
        · exact Hall.out j h h2
        · obtain rfl : j = q := by omega
          rw [← Hm.out]
          exact Hb.out.1 (by first | rfl | trivial))⟩
      case measure => simp [intOf]; omega
  have Hpath : Hid (∀ n ∈ e.path, Number n) := hide (fun n hn => by
    obtain ⟨j, hj, rfl⟩ := List.getElem_of_mem hn
    exact Hall.out j hj (by omega))
  clear Hall
  obtain ⟨W1, hW1⟩ : ∃ W1, W1 = World.alloc wr (.cells #[.int .u8 4, .slice x.pA e.path.length x.pc, .int .i64 0, .int .i64 0, .string ⟨#[]⟩, .string ⟨#[]⟩, .slice none 0 0, .slice none 0 0] 30) := ⟨_, rfl⟩
  have hB1 : BxL w W1 [.int .u8 4, .slice x.pA e.path.length x.pc, .int .i64 e.at_, .int .i64 e.far, .string e.frm, .string e.to, .slice x.oA e.old.len x.oc, .slice x.nA e.new.len x.nc] [.int .u8 4, .slice x.pA e.path.length x.pc, .int .i64 0, .int .i64 0, .string ⟨#[]⟩, .string ⟨#[]⟩, .slice none 0 0, .slice none 0 0] := by rw [hW1, HW0.out]; exact BxL.start w #[.int .u8 4, .slice x.pA e.path.length x.pc, .int .i64 e.at_, .int .i64 e.far, .string e.frm, .string e.to, .slice x.oA e.old.len x.oc, .slice x.nA e.new.len x.nc] #[.int .u8 4, .slice x.pA e.path.length x.pc, .int .i64 0, .int .i64 0, .string ⟨#[]⟩, .string ⟨#[]⟩, .slice none 0 0, .slice none 0 0] _ _
  have hz0 : wr.heap.size = w.heap.size + 1 := by rw [HW0.out]; simp
  have HW1 := hide hW1
  clear hW1
  go_upto_region 7 with fail
  change Code.wp _ _ _ _ (World.alloc wr (.cells #[.int .u8 4, .slice x.pA e.path.length x.pc, .int .i64 0, .int .i64 0, .string ⟨#[]⟩, .string ⟨#[]⟩, .slice none 0 0, .slice none 0 0] 30))
  rw [← HW1.out]
  clear b0 b1 b2 b3 b4 b5 b6 b7 HW1 HW0
  clear hz0
  have b0 := hB1.c 0 _ rfl
  have b1 := hB1.c 1 _ rfl
  have b2 := hB1.c 2 _ rfl
  have b3 := hB1.c 3 _ rfl
  have b4 := hB1.c 4 _ rfl
  have b5 := hB1.c 5 _ rfl
  have b6 := hB1.c 6 _ rfl
  have b7 := hB1.c 7 _ rfl
  have r0 := hB1.r 0 _ rfl
  have r1 := hB1.r 1 _ rfl
  have r2 := hB1.r 2 _ rfl
  have r3 := hB1.r 3 _ rfl
  have r4 := hB1.r 4 _ rfl
  have r5 := hB1.r 5 _ rfl
  have r6 := hB1.r 6 _ rfl
  have r7 := hB1.r 7 _ rfl
  have fr := hB1.fr
  have HB1 := hide hB1
  clear hB1 HB0
  go_upto_region 23 with fail
  have hBa := HB1.out.putR 6 [.slice x.oA e.old.len x.oc] (by simp)
  obtain ⟨wa, hFa⟩ : ∃ wa, wa = World.setCells W1 (w.heap.size + 1) 6 [.slice x.oA e.old.len x.oc] := ⟨_, rfl⟩
  rw [← hFa] at hBa
  simp only [World.setCells] at hFa
  rw [← hFa]
  replace hBa : BxL w wa [.int .u8 4, .slice x.pA e.path.length x.pc, .int .i64 e.at_, .int .i64 e.far, .string e.frm, .string e.to, .slice x.oA e.old.len x.oc, .slice x.nA e.new.len x.nc] [.int .u8 4, .slice x.pA e.path.length x.pc, .int .i64 0, .int .i64 0, .string ⟨#[]⟩, .string ⟨#[]⟩, .slice x.oA e.old.len x.oc, .slice none 0 0] := hBa
  have HBa := hide hBa
  clear hBa hFa
  have hBb := HBa.out.putR 7 [.slice x.nA e.new.len x.nc] (by simp)
  obtain ⟨wb, hFb⟩ : ∃ wb, wb = World.setCells wa (w.heap.size + 1) 7 [.slice x.nA e.new.len x.nc] := ⟨_, rfl⟩
  rw [← hFb] at hBb
  simp only [World.setCells] at hFb
  rw [← hFb]
  replace hBb : BxL w wb [.int .u8 4, .slice x.pA e.path.length x.pc, .int .i64 e.at_, .int .i64 e.far, .string e.frm, .string e.to, .slice x.oA e.old.len x.oc, .slice x.nA e.new.len x.nc] [.int .u8 4, .slice x.pA e.path.length x.pc, .int .i64 0, .int .i64 0, .string ⟨#[]⟩, .string ⟨#[]⟩, .slice x.oA e.old.len x.oc, .slice x.nA e.new.len x.nc] := hBb
  have HBb := hide hBb
  clear hBb hFb
  clear b0 r0 b1 r1 b2 r2 b3 r3 b4 r4 b5 r5 b6 r6 b7 r7 fr HB1
  clear HBa
  have HBa0 := HBb
  clear HBb
  have hBq := HBa0.out
  have b0 := hBq.c 0 _ rfl
  have b1 := hBq.c 1 _ rfl
  have b2 := hBq.c 2 _ rfl
  have b3 := hBq.c 3 _ rfl
  have b4 := hBq.c 4 _ rfl
  have b5 := hBq.c 5 _ rfl
  have b6 := hBq.c 6 _ rfl
  have b7 := hBq.c 7 _ rfl
  have r0 := hBq.r 0 _ rfl
  have r1 := hBq.r 1 _ rfl
  have r2 := hBq.r 2 _ rfl
  have r3 := hBq.r 3 _ rfl
  have r4 := hBq.r 4 _ rfl
  have r5 := hBq.r 5 _ rfl
  have r6 := hBq.r 6 _ rfl
  have r7 := hBq.r 7 _ rfl
  have hNb : w.heap.size < wb.heap.size := block_lt_of_cell b0
  have hNr : w.heap.size + 1 < wb.heap.size := block_lt_of_cell r0
  have HBb0 := hBq.b
  have HBbh := hide HBb0
  clear hBq HBb0
  have HBb0 := HBbh.out
  clear HBbh HBa0
  have HSm : Hid (∀ W, Below wb.heap.size wb W → Calls Tryz.prog 44 #[.agg #[.int .u8 4, .slice x.pA e.path.length x.pc, .int .i64 e.at_, .int .i64 e.far, .string e.frm, .string e.to, .slice x.oA e.old.len x.oc, .slice x.nA e.new.len x.nc], .agg #[.int .u8 4, .slice x.pA e.path.length x.pc, .int .i64 0, .int .i64 0, .string ⟨#[]⟩, .string ⟨#[]⟩, .slice x.oA e.old.len x.oc, .slice x.nA e.new.len x.nc]] W fun e1 w' => e1 = .returned (.bool true) ∧ Below W.heap.size W w') :=
    hide fun W h9 => (fun hW => ret_yes (sameEdit_any (a := { e with kind := 4 }) (b := ⟨4, e.path, 0, 0, ⟨#[]⟩, ⟨#[]⟩, e.old, e.new⟩) (x := x) (y := ⟨x.pA, x.pc, x.oA, x.oc, x.nA, x.nc⟩) ⟨(by show 4 < 256; omega), H.out.path.below hW, H.out.at_, H.out.far, H.out.frm, H.out.to, H.out.old.below hW, H.out.new.below hW, H.out.pc, H.out.oc, H.out.nc⟩ ⟨(by show 4 < 256; omega), H.out.path.below hW, (by show isInt64 0; unfold isInt64; omega), (by show isInt64 0; unfold isInt64; omega), (by show (0 : Nat) ≤ _; omega), (by show (0 : Nat) ≤ _; omega), (H.out.old.below hW), (H.out.new.below hW), H.out.pc, H.out.oc, H.out.nc⟩) Hh.out.1) (blw_up HBb0 h9)
  have hgt : decide ((0 : Int) < (e.path.length : Int)) = true := by have := list_pos14.1 Hh.out.2.1; simpa using this
  have hgt2 : decide (0 < e.path.length) = true := by have := list_pos14.1 Hh.out.2.1; simp; omega
  have HPo : Hid (∀ W, Below wb.heap.size wb W → Calls Tryz.prog 124 #[.slice x.oA e.old.len x.oc] W fun e1 w' => e1 = .returned (.bool true) ∧ Below W.heap.size W w') := hide fun W h9 => ret_yes (part14_any (H.out.old.below (blw_up HBb0 h9)) (Nat.le_trans H.out.oc.1 H.out.oc.2)) Hh.out.2.2.1
  have HPn : Hid (∀ W, Below wb.heap.size wb W → Calls Tryz.prog 124 #[.slice x.nA e.new.len x.nc] W fun e1 w' => e1 = .returned (.bool true) ∧ Below W.heap.size W w') := hide fun W h9 => ret_yes (part14_any (H.out.new.below (blw_up HBb0 h9)) (Nat.le_trans H.out.nc.1 H.out.nc.2)) Hh.out.2.2.2
  obtain ⟨ko, t1, m1, ks1, eo⟩ := part_is Hh.out.2.2.1
  obtain ⟨kn, t2, m2, ks2, en⟩ := part_is Hh.out.2.2.2
  have ho := H.out.old.below HBb0
  have hn := H.out.new.below HBb0
  rw [eo] at ho
  rw [en] at hn
  obtain ⟨ob, oo, KA1, kc1, eoA, _, o0, o1, o2, o3, p1, p2, p3, p4, p5, hk1, _⟩ := ho
  obtain ⟨nb, no, KA2, kc2, enA, _, n0, n1, n2, n3, q1, q2, q3, q4, q5, hk2, _⟩ := hn
  have hlo : e.old.len = 1 := by rw [eo]; rfl
  have hln : e.new.len = 1 := by rw [en]; rfl
  obtain ⟨bb, hbb⟩ : ∃ bb : Bool, bb = true ↔ e.old = e.new := by
    by_cases h : e.old = e.new
    · exact ⟨true, by simp [h]⟩
    · exact ⟨false, by simp [h]⟩
  have Hbb := hide hbb
  have HSn : Hid (∀ W, Below wb.heap.size wb W → Calls Tryz.prog 125 #[.agg #[.int .u8 ko, .string t1, .int .i64 m1, .slice KA1 ks1.len kc1], .agg #[.int .u8 kn, .string t2, .int .i64 m2, .slice KA2 ks2.len kc2]] W fun e1 w' => e1 = .returned (.bool bb) ∧ Below W.heap.size W w') :=
    hide fun W h9 => (sameNode_any (hk1.below h9) (hk2.below h9) (by omega) (by omega)).mono fun _ _ ⟨⟨b, e1, hb⟩, hq⟩ => ⟨by
      have : b = bb := by
        rw [Bool.eq_iff_iff, hb, hbb, eo, en]
        simp
      rw [e1, this], hq⟩
  have hNo := block_lt_of_cell o0
  have hNn := block_lt_of_cell n0
  have Hx := hide (And.intro eoA enA)
  rw [hlo, eoA] at b6
  rw [hln, enA] at b7
  rw [hlo] at HPo HSm
  rw [hln] at HPn HSm
  rw [eoA] at HPo HSm
  rw [enA] at HPn HSm
  rw [eoA, hlo] at r6
  rw [enA, hln] at r7
  have Hle := hide (And.intro hlo hln)
  have Heo := hide (And.intro eo en)
  clear hbb hk1 hk2 p3 q3 eoA enA hlo hln eo en
  have hd1 : Below wb.heap.size wb wb.drew := blw_drewN (Below.refl _ _) 1
  refine wp_region_held_drew (S := Below wb.heap.size wb) (by kernel_rfl) hd1 (fun hHeld => ?_)
  generalize wb.drew = wD at hHeld ⊢
  refine tk (v := ?_) 0 hHeld ?_ ?_
  rotate_left
  · intro w' hSw
    have f0 := (hSw.cell (p := ⟨w.heap.size, 0, none⟩) hNb).trans b0
    have f1 := (hSw.cell (p := ⟨w.heap.size, 1, none⟩) hNb).trans b1
    have f2 := (hSw.cell (p := ⟨w.heap.size, 2, none⟩) hNb).trans b2
    have f3 := (hSw.cell (p := ⟨w.heap.size, 3, none⟩) hNb).trans b3
    have f4 := (hSw.cell (p := ⟨w.heap.size, 4, none⟩) hNb).trans b4
    have f5 := (hSw.cell (p := ⟨w.heap.size, 5, none⟩) hNb).trans b5
    have f6 := (hSw.cell (p := ⟨w.heap.size, 6, none⟩) hNb).trans b6
    have f7 := (hSw.cell (p := ⟨w.heap.size, 7, none⟩) hNb).trans b7
    first | (go_simp; done) | (go_simp; with_reducible rfl)
  try simp only [List.set_cons_zero, List.set_cons_succ]
  refine tk (v := ?_) 1 hHeld ?_ ?_
  rotate_left
  · intro w' hSw
    have f0 := (hSw.cell (p := ⟨w.heap.size + 1, 0, none⟩) hNr).trans r0
    have f1 := (hSw.cell (p := ⟨w.heap.size + 1, 1, none⟩) hNr).trans r1
    have f2 := (hSw.cell (p := ⟨w.heap.size + 1, 2, none⟩) hNr).trans r2
    have f3 := (hSw.cell (p := ⟨w.heap.size + 1, 3, none⟩) hNr).trans r3
    have f4 := (hSw.cell (p := ⟨w.heap.size + 1, 4, none⟩) hNr).trans r4
    have f5 := (hSw.cell (p := ⟨w.heap.size + 1, 5, none⟩) hNr).trans r5
    have f6 := (hSw.cell (p := ⟨w.heap.size + 1, 6, none⟩) hNr).trans r6
    have f7 := (hSw.cell (p := ⟨w.heap.size + 1, 7, none⟩) hNr).trans r7
    first | (go_simp; done) | (go_simp; with_reducible rfl)
  try simp only [List.set_cons_zero, List.set_cons_succ]
  refine wpAnyH_ready (rs := [2]) (by kernel_rfl) (by simp) ?_
  refine AllReadyH.cons rfl (fun K hK => ?_) AllReadyH.nil
  go_simp
  go_wp2_with (go_at_call 44; (with_reducible refine (HSm.out _ hHeld).mono ?_); rintro e1 w1 ⟨rfl, hB1⟩)
  replace hHeld := hHeld.trans (hB1.mono hHeld.size)
  refine hK.out _ _ hHeld (fun _ => ?_)
  clear hK K hB1
  try simp only [Act.put, List.getElem_toArray, List.getElem_cons_zero, List.getElem_cons_succ, List.setIfInBounds_toArray, List.set_cons_zero, List.set_cons_succ]
  refine tk (v := ?_) 3 hHeld ?_ ?_
  rotate_left
  · intro w' hSw
    first | (go_simp; done) | (go_simp; with_reducible rfl)
  try simp only [List.set_cons_zero, List.set_cons_succ]
  refine tk (v := ?_) 4 hHeld ?_ ?_
  rotate_left
  · intro w' hSw
    first | (go_simp; done) | (go_simp; with_reducible rfl)
  try simp only [List.set_cons_zero, List.set_cons_succ]
  refine tk (v := ?_) 5 hHeld ?_ ?_
  rotate_left
  · intro w' hSw
    have f1 := (hSw.cell (p := ⟨w.heap.size, 1, none⟩) hNb).trans b1
    first | (go_simp; done) | (go_simp; with_reducible rfl)
  try simp only [List.set_cons_zero, List.set_cons_succ]
  refine tk (v := ?_) 6 hHeld ?_ ?_
  rotate_left
  · intro w' hSw
    first | (go_simp; done) | (go_simp; with_reducible rfl)
  try simp only [List.set_cons_zero, List.set_cons_succ]
  refine tk (v := ?_) 7 hHeld ?_ ?_
  rotate_left
  · intro w' hSw
    first | (go_simp; done) | (go_simp; with_reducible rfl)
  try simp only [List.set_cons_zero, List.set_cons_succ]
  refine tk (v := ?_) 8 hHeld ?_ ?_
  rotate_left
  · intro w' hSw
    first | (go_simp; done) | (go_simp; with_reducible rfl)
  try simp only [List.set_cons_zero, List.set_cons_succ]
  refine tk (v := ?_) 9 hHeld ?_ ?_
  rotate_left
  · intro w' hSw
    first | (go_simp; done) | (go_simp; with_reducible rfl)
  try simp only [List.set_cons_zero, List.set_cons_succ]
  refine tk (v := ?_) 10 hHeld ?_ ?_
  rotate_left
  · intro w' hSw
    first | (go_simp; done) | (go_simp; with_reducible rfl)
  try simp only [List.set_cons_zero, List.set_cons_succ]
  refine tk (v := ?_) 11 hHeld ?_ ?_
  rotate_left
  · intro w' hSw
    have f6 := (hSw.cell (p := ⟨w.heap.size, 6, none⟩) hNb).trans b6
    first | (go_simp; done) | (go_simp; with_reducible rfl)
  try simp only [List.set_cons_zero, List.set_cons_succ]
  refine wpAnyH_ready (rs := [12]) (by kernel_rfl) (by simp) ?_
  refine AllReadyH.cons rfl (fun K hK => ?_) AllReadyH.nil
  go_simp
  go_wp2_with (go_at_call 124; (with_reducible refine (HPo.out _ hHeld).mono ?_); rintro e1 w2 ⟨rfl, hB1⟩)
  replace hHeld := hHeld.trans (hB1.mono hHeld.size)
  refine hK.out _ _ hHeld (fun _ => ?_)
  clear hK K hB1
  try simp only [Act.put, List.getElem_toArray, List.getElem_cons_zero, List.getElem_cons_succ, List.setIfInBounds_toArray, List.set_cons_zero, List.set_cons_succ]
  refine tk (v := ?_) 13 hHeld ?_ ?_
  rotate_left
  · intro w' hSw
    first | (go_simp; done) | (go_simp; with_reducible rfl)
  try simp only [List.set_cons_zero, List.set_cons_succ]
  refine tk (v := ?_) 14 hHeld ?_ ?_
  rotate_left
  · intro w' hSw
    first | (go_simp; done) | (go_simp; with_reducible rfl)
  try simp only [List.set_cons_zero, List.set_cons_succ]
  refine tk (v := ?_) 15 hHeld ?_ ?_
  rotate_left
  · intro w' hSw
    first | (go_simp; done) | (go_simp; with_reducible rfl)
  try simp only [List.set_cons_zero, List.set_cons_succ]
  refine tk (v := ?_) 16 hHeld ?_ ?_
  rotate_left
  · intro w' hSw
    have f7 := (hSw.cell (p := ⟨w.heap.size, 7, none⟩) hNb).trans b7
    first | (go_simp; done) | (go_simp; with_reducible rfl)
  try simp only [List.set_cons_zero, List.set_cons_succ]
  refine wpAnyH_ready (rs := [17]) (by kernel_rfl) (by simp) ?_
  refine AllReadyH.cons rfl (fun K hK => ?_) AllReadyH.nil
  go_simp
  go_wp2_with (go_at_call 124; (with_reducible refine (HPn.out _ hHeld).mono ?_); rintro e1 w3 ⟨rfl, hB1⟩)
  replace hHeld := hHeld.trans (hB1.mono hHeld.size)
  refine hK.out _ _ hHeld (fun _ => ?_)
  clear hK K hB1
  try simp only [Act.put, List.getElem_toArray, List.getElem_cons_zero, List.getElem_cons_succ, List.setIfInBounds_toArray, List.set_cons_zero, List.set_cons_succ]
  refine tk (v := ?_) 18 hHeld ?_ ?_
  rotate_left
  · intro w' hSw
    first | (go_simp; done) | (go_simp; with_reducible rfl)
  try simp only [List.set_cons_zero, List.set_cons_succ]
  refine tk (v := ?_) 19 hHeld ?_ ?_
  rotate_left
  · intro w' hSw
    first | (go_simp; done) | (go_simp; with_reducible rfl)
  try simp only [List.set_cons_zero, List.set_cons_succ]
  refine tk (v := ?_) 20 hHeld ?_ ?_
  rotate_left
  · intro w' hSw
    first | (go_simp; done) | (go_simp; with_reducible rfl)
  try simp only [List.set_cons_zero, List.set_cons_succ]
  refine tk (v := ?_) 21 hHeld ?_ ?_
  rotate_left
  · intro w' hSw
    have f6 := (hSw.cell (p := ⟨w.heap.size, 6, none⟩) hNb).trans b6
    first | (go_simp; done) | (go_simp; with_reducible rfl)
  try simp only [List.set_cons_zero, List.set_cons_succ]
  refine tk (v := ?_) 22 hHeld ?_ ?_
  rotate_left
  · intro w' hSw
    first | (go_simp; done) | (go_simp; with_reducible rfl)
  try simp only [List.set_cons_zero, List.set_cons_succ]
  refine tk (v := ?_) 23 hHeld ?_ ?_
  rotate_left
  · intro w' hSw
    have g0 := (hSw.cell (p := ⟨ob, oo, none⟩) hNo).trans o0
    have g1 := (hSw.cell (p := ⟨ob, oo + 1, none⟩) hNo).trans o1
    have g2 := (hSw.cell (p := ⟨ob, oo + 2, none⟩) hNo).trans o2
    have g3 := (hSw.cell (p := ⟨ob, oo + 3, none⟩) hNo).trans o3
    first | (go_simp; done) | (go_simp; with_reducible rfl)
  try simp only [List.set_cons_zero, List.set_cons_succ]
  refine tk (v := ?_) 24 hHeld ?_ ?_
  rotate_left
  · intro w' hSw
    first | (go_simp; done) | (go_simp; with_reducible rfl)
  try simp only [List.set_cons_zero, List.set_cons_succ]
  refine tk (v := ?_) 25 hHeld ?_ ?_
  rotate_left
  · intro w' hSw
    have f7 := (hSw.cell (p := ⟨w.heap.size, 7, none⟩) hNb).trans b7
    first | (go_simp; done) | (go_simp; with_reducible rfl)
  try simp only [List.set_cons_zero, List.set_cons_succ]
  refine tk (v := ?_) 26 hHeld ?_ ?_
  rotate_left
  · intro w' hSw
    first | (go_simp; done) | (go_simp; with_reducible rfl)
  try simp only [List.set_cons_zero, List.set_cons_succ]
  refine tk (v := ?_) 27 hHeld ?_ ?_
  rotate_left
  · intro w' hSw
    have g0 := (hSw.cell (p := ⟨nb, no, none⟩) hNn).trans n0
    have g1 := (hSw.cell (p := ⟨nb, no + 1, none⟩) hNn).trans n1
    have g2 := (hSw.cell (p := ⟨nb, no + 2, none⟩) hNn).trans n2
    have g3 := (hSw.cell (p := ⟨nb, no + 3, none⟩) hNn).trans n3
    first | (go_simp; done) | (go_simp; with_reducible rfl)
  try simp only [List.set_cons_zero, List.set_cons_succ]
  refine wpAnyH_ready (rs := [28]) (by kernel_rfl) (by simp) ?_
  refine AllReadyH.cons rfl (fun K hK => ?_) AllReadyH.nil
  go_simp
  go_wp2_with (go_at_call 125; (with_reducible refine (HSn.out _ hHeld).mono ?_); rintro e1 w4 ⟨rfl, hB1⟩)
  replace hHeld := hHeld.trans (hB1.mono hHeld.size)
  refine hK.out _ _ hHeld (fun _ => ?_)
  clear hK K hB1
  try simp only [Act.put, List.getElem_toArray, List.getElem_cons_zero, List.getElem_cons_succ, List.setIfInBounds_toArray, List.set_cons_zero, List.set_cons_succ]
  refine tk (v := ?_) 29 hHeld ?_ ?_
  rotate_left
  · intro w' hSw
    first | (go_simp; done) | (go_simp; with_reducible rfl)
  try simp only [List.set_cons_zero, List.set_cons_succ]
  refine tk (v := ?_) 30 hHeld ?_ ?_
  rotate_left
  · intro w' hSw
    first | (go_simp; done) | (go_simp; with_reducible rfl)
  try simp only [List.set_cons_zero, List.set_cons_succ]
  refine tk (v := ?_) 31 hHeld ?_ ?_
  rotate_left
  · intro w' hSw
    first | (go_simp; done) | (go_simp; with_reducible rfl)
  try simp only [List.set_cons_zero, List.set_cons_succ]
  have HBe : Hid (Below w.heap.size w _) := hide (blw_up HBb0 hHeld)
  refine wpAnyH_done (by kernel_rfl) ?_ _
  try simp only [Act.put, List.getElem_toArray, List.getElem_cons_zero, List.getElem_cons_succ, List.setIfInBounds_toArray, List.set_cons_zero, List.set_cons_succ]
  go_wp2_with fail
  go_ret
  refine ⟨RetB.mk ?_, HBe.out⟩
  rw [edOk14_4]
  have h8 := Hh.out
  have h7 := Hpath.out
  clear HSm HPo HPn HSn H Hx
  rcases hb9 : bb with _ | _
  · exact ⟨fun _ => ⟨h7, h8.1, h8.2.1, h8.2.2.1, h8.2.2.2, fun h => by have h9 := Hbb.out.2 h; rw [hb9] at h9; cases h9⟩, fun _ => rfl⟩
  · exact ⟨fun h => (by cases h), fun h => absurd (Hbb.out.1 hb9) h.2.2.2.2.2⟩

theorem edRight14_any {S : Nat → Prop} {x : Eh} {e : Ed} {w : World} (he : EdIn S w x e) :
    Calls Tryz.prog 60 #[.agg #[.int .u8 e.kind, .slice x.pA e.path.length x.pc, .int .i64 e.at_, .int .i64 e.far, .string e.frm, .string e.to, .slice x.oA e.old.len x.oc, .slice x.nA e.new.len x.nc]] w fun e1 w' => RetB (EdOk e) e1 ∧ Below w.heap.size w w' := by
  obtain ⟨kd, path, at_, far, frm, tto, old, new⟩ := e
  by_cases h1 : kd = 1
  · subst h1; exact edRight14_1 he
  by_cases h2 : kd = 2
  · subst h2; exact edRight14_2 he
  by_cases h3 : kd = 3
  · subst h3; exact edRight14_3 he
  by_cases h5 : kd = 5
  · subst h5; exact edRight14_5 he
  by_cases h4 : kd = 4
  · subst h4
    by_cases g0 : (⟨4, path, at_, far, frm, tto, old, new⟩ : Ed) = ⟨4, path, 0, 0, ⟨#[]⟩, ⟨#[]⟩, old, new⟩
    · by_cases g1 : path = []
      · exact edRight14_4b he g0 g1
      by_cases g2 : PartOk old
      · by_cases g3 : PartOk new
        · exact edRight14_4e he g0 g1 g2 g3
        · exact edRight14_4d he g0 g1 g2 g3
      · exact edRight14_4c he g0 g1 g2
    · exact edRight14_4a he g0
  exact edRight14_0 he h1 h2 h3 h4 h5

end Go.Proofs.YtfhfkbdaglegpaaGreatDoor
