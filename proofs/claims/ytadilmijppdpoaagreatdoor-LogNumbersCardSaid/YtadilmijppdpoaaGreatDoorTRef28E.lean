/- The words of an edit, as the document tells (ref28.edit). Printed by gen_ref28.py. -/
import Derived.Deep.RegionHeld
import Derived.Test.YtadilmijppdpoaaGreatDoorTRef28
import Derived.Test.YtadilmijppdpoaaGreatDoorTRef14
import Derived.Test.YtadilmijppdpoaaGreatDoorTBase

set_option linter.unusedVariables false
set_option linter.unusedSimpArgs false

namespace Go.Proofs.YtadilmijppdpoaaGreatDoor
open Go.RowKit

theorem cnt_nodes : ∀ f : Fo, cntNodes f = f.cnt
  | .nil => rfl
  | .cons k t n ks r => by simp only [cntNodes, Fo.cnt, cnt_nodes ks, cnt_nodes r]
theorem size28_part {S : Nat → Prop} {A : Option Addr} {c : Nat} {f : Fo} {w : World} (h : FoIn S w A f) (hp : PartOk f) (hc : f.cnt ≤ 1099511627776) (htab : TabP w.heap.size w) {z : ByteArray} (hz : (sizesN f).map itoaS = [z]) :
    Calls Tryz.prog 43 #[.slice A 1 c] w fun e w' => e = .returned (.string z) ∧ Below w.heap.size w w' := by
  match f, hp, hz with
  | .cons k t n ks .nil, _, hz =>
    simp only [Fo.cnt] at hc
    have h1 := cnt_nodes ks
    have e : itoaS ((1 + cntNodes ks : Nat) : Int) = z := by simpa [sizesN] using hz
    have := Fo.len_le_cnt ks
    rw [← e]
    exact size28_any h (by omega) (by omega) htab
theorem part_size {f : Fo} (hp : PartOk f) (hc : f.cnt ≤ 1099511627776) : ∃ z : ByteArray, (sizesN f).map itoaS = [z] ∧ z.size ≤ 21 ∧ f.len = 1 := by
  match f, hp with
  | .cons k t n ks .nil, _ =>
    simp only [Fo.cnt] at hc
    have h1 := cnt_nodes ks
    exact ⟨_, rfl, itoaS_size (by unfold isInt64; omega), rfl⟩
theorem join3 (a b c : ByteArray) : joinS [a, b, c] = a ++ ⟨#[32]⟩ ++ b ++ ⟨#[32]⟩ ++ c := by simp only [joinS, ByteArray.append_assoc]
theorem join4 (a b c d : ByteArray) : joinS [a, b, c, d] = a ++ ⟨#[32]⟩ ++ b ++ ⟨#[32]⟩ ++ c ++ ⟨#[32]⟩ ++ d := by simp only [joinS, ByteArray.append_assoc]

set_option maxHeartbeats 4000000 in
set_option maxRecDepth 100000 in
theorem edit28_1 {S : Nat → Prop} {x : Eh} {e : Ed} {w : World} (he : EdIn S w x e) (hpl : e.path.length ≤ 1099511627776) (htab : TabP w.heap.size w) (hf : e.frm.size ≤ 24) (ht : e.to.size ≤ 24) :
    Calls Tryz.prog 21 #[.agg #[.int .u8 1, .slice x.pA e.path.length x.pc, .int .i64 e.at_, .int .i64 e.far, .string e.frm, .string e.to, .slice x.oA e.old.len x.oc, .slice x.nA e.new.len x.nc]] w fun e1 w' => e1 = .returned (.tuple #[.string (wordS 1), .string (joinS ([dotS e.path, e.frm, e.to]))]) ∧ Below w.heap.size w w' := by
  have H := hide he
  have HT := hide htab
  have hTB : ∀ W, Below w.heap.size w W → TabP W.heap.size W := fun W hW => (HT.out.below hW).up hW.size
  have HTB := hide hTB
  obtain ⟨W0, hW0⟩ : ∃ W0, W0 = w.alloc (.cells #[.int .u8 1, .slice x.pA e.path.length x.pc, .int .i64 e.at_, .int .i64 e.far, .string e.frm, .string e.to, .slice x.oA e.old.len x.oc, .slice x.nA e.new.len x.nc] 35) := ⟨_, rfl⟩
  have hcl0 : CellsL W0 w.heap.size [.int .u8 1, .slice x.pA e.path.length x.pc, .int .i64 e.at_, .int .i64 e.far, .string e.frm, .string e.to, .slice x.oA e.old.len x.oc, .slice x.nA e.new.len x.nc] := fun j u hu => by rw [hW0, Lib.cell_of_heap (heap_alloc_new w _)]; simpa using hu
  have hBB : Below w.heap.size w W0 := by rw [hW0]; exact below_alloc _ _
  have HB0 := hide hBB
  have HW0 := hide hW0
  have b0 := hcl0 0 _ rfl
  have b1 := hcl0 1 _ rfl
  have b2 := hcl0 2 _ rfl
  have b3 := hcl0 3 _ rfl
  have b4 := hcl0 4 _ rfl
  have b5 := hcl0 5 _ rfl
  have b6 := hcl0 6 _ rfl
  have b7 := hcl0 7 _ rfl
  have hNb : w.heap.size < W0.heap.size := block_lt_of_cell b0
  obtain ⟨a, ha⟩ : ∃ a, a = itoaS e.at_ := ⟨_, rfl⟩
  have hsa : a.size ≤ 21 := by rw [ha]; exact itoaS_size he.at_
  have Ha := hide ha
  obtain ⟨d, hd⟩ : ∃ d, d = dotS e.path := ⟨_, rfl⟩
  have hsd : d.size ≤ 22 * e.path.length + 1 := by rw [hd]; have := dotS_fit he.path.2.1 e.path.length; rwa [List.take_length] at this
  have Hd := hide hd
  have HA : Hid (∀ W, Below w.heap.size w W → Calls Tryz.prog 20 #[.int .i64 e.at_] W fun e1 w' => e1 = .returned (.string a) ∧ Below W.heap.size W w') := hide fun W hW => by rw [ha]; exact itoa_any H.out.at_ (HTB.out W hW)
  have z0 : ¬ 9223372036854775807 < d.size + 1 := by omega
  have z1 : ¬ 9223372036854775807 < d.size + 1 + e.frm.size := by omega
  have z2 : ¬ 9223372036854775807 < d.size + 1 + e.frm.size + 1 := by omega
  have z3 : ¬ 9223372036854775807 < d.size + 1 + e.frm.size + 1 + e.to.size := by omega
  clear he htab hTB hW0 hcl0 hBB ha hd
  go_enter Tryz.func21, Tryz.ntmps21
  go_upto_region 1 with fail
  change Code.wp _ _ _ _ (w.alloc (.cells #[.int .u8 1, .slice x.pA e.path.length x.pc, .int .i64 e.at_, .int .i64 e.far, .string e.frm, .string e.to, .slice x.oA e.old.len x.oc, .slice x.nA e.new.len x.nc] 35))
  rw [← HW0.out]
  clear HW0
  go_upto_region 4 with (go_at_call 20; (with_reducible refine (HA.out _ HB0.out).mono ?_); rintro e1 wc ⟨rfl, hB⟩; have HBc := hide (HB0.out.trans (hB.mono HB0.out.size)); replace b0 := (hB.cell (p := ⟨w.heap.size, 0, none⟩) hNb).trans b0; replace b1 := (hB.cell (p := ⟨w.heap.size, 1, none⟩) hNb).trans b1; replace b2 := (hB.cell (p := ⟨w.heap.size, 2, none⟩) hNb).trans b2; replace b3 := (hB.cell (p := ⟨w.heap.size, 3, none⟩) hNb).trans b3; replace b4 := (hB.cell (p := ⟨w.heap.size, 4, none⟩) hNb).trans b4; replace b5 := (hB.cell (p := ⟨w.heap.size, 5, none⟩) hNb).trans b5; replace b6 := (hB.cell (p := ⟨w.heap.size, 6, none⟩) hNb).trans b6; replace b7 := (hB.cell (p := ⟨w.heap.size, 7, none⟩) hNb).trans b7; replace hNb := Nat.lt_of_lt_of_le hNb hB.size; clear hB)
  have HP : Hid (∀ W, Below wc.heap.size wc W → Calls Tryz.prog 42 #[.slice x.pA e.path.length x.pc] W fun e1 w' => e1 = .returned (.string d) ∧ Below W.heap.size W w') := hide fun W hW => by
    rw [Hd.out]
    have h9 := HBc.out.trans (hW.mono HBc.out.size)
    exact path28_any (H.out.path.below h9) hpl (HTB.out W h9)
  have Hz := hide (And.intro trivial trivial)
  clear HB0 HA
  have hd1 : Below wc.heap.size wc wc.drew := blw_drewN (Below.refl _ _) 1
  refine wp_region_held_drew (S := Below wc.heap.size wc) (by kernel_rfl) hd1 (fun hHeld => ?_)
  generalize wc.drew = wD at hHeld ⊢
  refine tk (v := ?_) 0 hHeld ?_ ?_
  rotate_left
  · intro w' hSw
    first | (go_simp; done) | (go_simp; with_reducible rfl)
  try simp only [List.set_cons_zero, List.set_cons_succ]
  refine tk (v := ?_) 1 hHeld ?_ ?_
  rotate_left
  · intro w' hSw
    have f1 := (hSw.cell (p := ⟨w.heap.size, 1, none⟩) hNb).trans b1
    first | (go_simp; done) | (go_simp; with_reducible rfl)
  try simp only [List.set_cons_zero, List.set_cons_succ]
  refine tk (v := ?_) 4 hHeld ?_ ?_
  rotate_left
  · intro w' hSw
    first | (go_simp; done) | (go_simp; with_reducible rfl)
  try simp only [List.set_cons_zero, List.set_cons_succ]
  refine tk (v := ?_) 5 hHeld ?_ ?_
  rotate_left
  · intro w' hSw
    have f4 := (hSw.cell (p := ⟨w.heap.size, 4, none⟩) hNb).trans b4
    first | (go_simp; done) | (go_simp; with_reducible rfl)
  try simp only [List.set_cons_zero, List.set_cons_succ]
  refine tk (v := ?_) 8 hHeld ?_ ?_
  rotate_left
  · intro w' hSw
    first | (go_simp; done) | (go_simp; with_reducible rfl)
  try simp only [List.set_cons_zero, List.set_cons_succ]
  refine tk (v := ?_) 9 hHeld ?_ ?_
  rotate_left
  · intro w' hSw
    have f5 := (hSw.cell (p := ⟨w.heap.size, 5, none⟩) hNb).trans b5
    first | (go_simp; done) | (go_simp; with_reducible rfl)
  try simp only [List.set_cons_zero, List.set_cons_succ]
  refine wpAnyH_ready (rs := [2]) (by kernel_rfl) (by simp) ?_
  refine AllReadyH.cons rfl (fun K hK => ?_) AllReadyH.nil
  go_simp
  go_wp2_with (go_at_call 42; (with_reducible refine (HP.out _ hHeld).mono ?_); rintro e1 w1 ⟨rfl, hB1⟩)
  replace hHeld := hHeld.trans (hB1.mono hHeld.size)
  refine hK.out _ _ hHeld (fun _ => ?_)
  clear hK K hB1
  try simp only [Act.put, List.getElem_toArray, List.getElem_cons_zero, List.getElem_cons_succ, List.setIfInBounds_toArray, List.set_cons_zero, List.set_cons_succ]
  refine tk (v := ?_) 3 hHeld ?_ ?_
  rotate_left
  · intro w' hSw
    first | (go_simp; done) | (go_simp; with_reducible rfl)
  try simp only [List.set_cons_zero, List.set_cons_succ]
  refine tk (v := ?_) 6 hHeld ?_ ?_
  rotate_left
  · intro w' hSw
    first | (go_simp; done) | (go_simp; with_reducible rfl)
  try simp only [List.set_cons_zero, List.set_cons_succ]
  refine tk (v := ?_) 7 hHeld ?_ ?_
  rotate_left
  · intro w' hSw
    first | (go_simp; done) | (go_simp; with_reducible rfl)
  try simp only [List.set_cons_zero, List.set_cons_succ]
  refine tk (v := ?_) 10 hHeld ?_ ?_
  rotate_left
  · intro w' hSw
    first | (go_simp; done) | (go_simp; with_reducible rfl)
  try simp only [List.set_cons_zero, List.set_cons_succ]
  refine tk (v := ?_) 11 hHeld ?_ ?_
  rotate_left
  · intro w' hSw
    first | (go_simp; done) | (go_simp; with_reducible rfl)
  try simp only [List.set_cons_zero, List.set_cons_succ]
  refine tk (v := ?_) 12 hHeld ?_ ?_
  rotate_left
  · intro w' hSw
    first | (go_simp; done) | (go_simp; with_reducible rfl)
  try simp only [List.set_cons_zero, List.set_cons_succ]
  have HBe : Hid (Below w.heap.size w _) := hide (HBc.out.trans (hHeld.mono HBc.out.size))
  refine wpAnyH_done (by kernel_rfl) ?_ _
  try simp only [Act.put, List.getElem_toArray, List.getElem_cons_zero, List.getElem_cons_succ, List.setIfInBounds_toArray, List.set_cons_zero, List.set_cons_succ]
  go_wp2_with fail
  go_ret2
  refine ⟨?_, HBe.out⟩
  rw [← Hd.out, join3]
  rfl

set_option maxHeartbeats 4000000 in
set_option maxRecDepth 100000 in
theorem edit28_2 {S : Nat → Prop} {x : Eh} {e : Ed} {w : World} (he : EdIn S w x e) (hpl : e.path.length ≤ 1099511627776) (htab : TabP w.heap.size w) (hn : PartOk e.new) (hzn : e.new.cnt ≤ 1099511627776) :
    Calls Tryz.prog 21 #[.agg #[.int .u8 2, .slice x.pA e.path.length x.pc, .int .i64 e.at_, .int .i64 e.far, .string e.frm, .string e.to, .slice x.oA e.old.len x.oc, .slice x.nA e.new.len x.nc]] w fun e1 w' => e1 = .returned (.tuple #[.string (wordS 2), .string (joinS (dotS e.path :: itoaS e.at_ :: (sizesN e.new).map itoaS))]) ∧ Below w.heap.size w w' := by
  have H := hide he
  have HT := hide htab
  have hTB : ∀ W, Below w.heap.size w W → TabP W.heap.size W := fun W hW => (HT.out.below hW).up hW.size
  have HTB := hide hTB
  obtain ⟨zn, ezn, hsn, hln⟩ := part_size hn hzn
  obtain ⟨W0, hW0⟩ : ∃ W0, W0 = w.alloc (.cells #[.int .u8 2, .slice x.pA e.path.length x.pc, .int .i64 e.at_, .int .i64 e.far, .string e.frm, .string e.to, .slice x.oA e.old.len x.oc, .slice x.nA e.new.len x.nc] 35) := ⟨_, rfl⟩
  have hcl0 : CellsL W0 w.heap.size [.int .u8 2, .slice x.pA e.path.length x.pc, .int .i64 e.at_, .int .i64 e.far, .string e.frm, .string e.to, .slice x.oA e.old.len x.oc, .slice x.nA e.new.len x.nc] := fun j u hu => by rw [hW0, Lib.cell_of_heap (heap_alloc_new w _)]; simpa using hu
  have hBB : Below w.heap.size w W0 := by rw [hW0]; exact below_alloc _ _
  have HB0 := hide hBB
  have HW0 := hide hW0
  have b0 := hcl0 0 _ rfl
  have b1 := hcl0 1 _ rfl
  have b2 := hcl0 2 _ rfl
  have b3 := hcl0 3 _ rfl
  have b4 := hcl0 4 _ rfl
  have b5 := hcl0 5 _ rfl
  have b6 := hcl0 6 _ rfl
  have b7 := hcl0 7 _ rfl
  have hNb : w.heap.size < W0.heap.size := block_lt_of_cell b0
  obtain ⟨a, ha⟩ : ∃ a, a = itoaS e.at_ := ⟨_, rfl⟩
  have hsa : a.size ≤ 21 := by rw [ha]; exact itoaS_size he.at_
  have Ha := hide ha
  obtain ⟨d, hd⟩ : ∃ d, d = dotS e.path := ⟨_, rfl⟩
  have hsd : d.size ≤ 22 * e.path.length + 1 := by rw [hd]; have := dotS_fit he.path.2.1 e.path.length; rwa [List.take_length] at this
  have Hd := hide hd
  have HA : Hid (∀ W, Below w.heap.size w W → Calls Tryz.prog 20 #[.int .i64 e.at_] W fun e1 w' => e1 = .returned (.string a) ∧ Below W.heap.size W w') := hide fun W hW => by rw [ha]; exact itoa_any H.out.at_ (HTB.out W hW)
  have z0 : ¬ 9223372036854775807 < d.size + 1 := by omega
  have z1 : ¬ 9223372036854775807 < d.size + 1 + a.size := by omega
  have z2 : ¬ 9223372036854775807 < d.size + 1 + a.size + 1 := by omega
  have z3 : ¬ 9223372036854775807 < d.size + 1 + a.size + 1 + zn.size := by omega
  clear he htab hTB hW0 hcl0 hBB ha hd
  rw [hln] at b7
  clear hln
  go_enter Tryz.func21, Tryz.ntmps21
  go_upto_region 1 with fail
  change Code.wp _ _ _ _ (w.alloc (.cells #[.int .u8 2, .slice x.pA e.path.length x.pc, .int .i64 e.at_, .int .i64 e.far, .string e.frm, .string e.to, .slice x.oA e.old.len x.oc, .slice x.nA e.new.len x.nc] 35))
  rw [← HW0.out]
  clear HW0
  go_upto_region 6 with (go_at_call 20; (with_reducible refine (HA.out _ HB0.out).mono ?_); rintro e1 wc ⟨rfl, hB⟩; have HBc := hide (HB0.out.trans (hB.mono HB0.out.size)); replace b0 := (hB.cell (p := ⟨w.heap.size, 0, none⟩) hNb).trans b0; replace b1 := (hB.cell (p := ⟨w.heap.size, 1, none⟩) hNb).trans b1; replace b2 := (hB.cell (p := ⟨w.heap.size, 2, none⟩) hNb).trans b2; replace b3 := (hB.cell (p := ⟨w.heap.size, 3, none⟩) hNb).trans b3; replace b4 := (hB.cell (p := ⟨w.heap.size, 4, none⟩) hNb).trans b4; replace b5 := (hB.cell (p := ⟨w.heap.size, 5, none⟩) hNb).trans b5; replace b6 := (hB.cell (p := ⟨w.heap.size, 6, none⟩) hNb).trans b6; replace b7 := (hB.cell (p := ⟨w.heap.size, 7, none⟩) hNb).trans b7; replace hNb := Nat.lt_of_lt_of_le hNb hB.size; clear hB)
  have HP : Hid (∀ W, Below wc.heap.size wc W → Calls Tryz.prog 42 #[.slice x.pA e.path.length x.pc] W fun e1 w' => e1 = .returned (.string d) ∧ Below W.heap.size W w') := hide fun W hW => by
    rw [Hd.out]
    have h9 := HBc.out.trans (hW.mono HBc.out.size)
    exact path28_any (H.out.path.below h9) hpl (HTB.out W h9)
  have HZn : Hid (∀ W, Below wc.heap.size wc W → Calls Tryz.prog 43 #[.slice x.nA 1 x.nc] W fun e1 w' => e1 = .returned (.string zn) ∧ Below W.heap.size W w') := hide fun W hW => by
    have h9 := HBc.out.trans (hW.mono HBc.out.size)
    exact size28_part (H.out.new.below h9) hn hzn (HTB.out W h9) ezn
  have Hz := hide (And.intro ezn trivial)
  clear HB0 HA ezn
  have hd1 : Below wc.heap.size wc wc.drew := blw_drewN (Below.refl _ _) 1
  refine wp_region_held_drew (S := Below wc.heap.size wc) (by kernel_rfl) hd1 (fun hHeld => ?_)
  generalize wc.drew = wD at hHeld ⊢
  refine tk (v := ?_) 0 hHeld ?_ ?_
  rotate_left
  · intro w' hSw
    first | (go_simp; done) | (go_simp; with_reducible rfl)
  try simp only [List.set_cons_zero, List.set_cons_succ]
  refine tk (v := ?_) 1 hHeld ?_ ?_
  rotate_left
  · intro w' hSw
    have f1 := (hSw.cell (p := ⟨w.heap.size, 1, none⟩) hNb).trans b1
    first | (go_simp; done) | (go_simp; with_reducible rfl)
  try simp only [List.set_cons_zero, List.set_cons_succ]
  refine tk (v := ?_) 4 hHeld ?_ ?_
  rotate_left
  · intro w' hSw
    first | (go_simp; done) | (go_simp; with_reducible rfl)
  try simp only [List.set_cons_zero, List.set_cons_succ]
  refine tk (v := ?_) 7 hHeld ?_ ?_
  rotate_left
  · intro w' hSw
    first | (go_simp; done) | (go_simp; with_reducible rfl)
  try simp only [List.set_cons_zero, List.set_cons_succ]
  refine tk (v := ?_) 8 hHeld ?_ ?_
  rotate_left
  · intro w' hSw
    have f7 := (hSw.cell (p := ⟨w.heap.size, 7, none⟩) hNb).trans b7
    first | (go_simp; done) | (go_simp; with_reducible rfl)
  try simp only [List.set_cons_zero, List.set_cons_succ]
  refine wpAnyH_ready (rs := [2]) (by kernel_rfl) (by simp) ?_
  refine AllReadyH.cons rfl (fun K hK => ?_) AllReadyH.nil
  go_simp
  go_wp2_with (go_at_call 42; (with_reducible refine (HP.out _ hHeld).mono ?_); rintro e1 w1 ⟨rfl, hB1⟩)
  replace hHeld := hHeld.trans (hB1.mono hHeld.size)
  refine hK.out _ _ hHeld (fun _ => ?_)
  clear hK K hB1
  try simp only [Act.put, List.getElem_toArray, List.getElem_cons_zero, List.getElem_cons_succ, List.setIfInBounds_toArray, List.set_cons_zero, List.set_cons_succ]
  refine tk (v := ?_) 3 hHeld ?_ ?_
  rotate_left
  · intro w' hSw
    first | (go_simp; done) | (go_simp; with_reducible rfl)
  try simp only [List.set_cons_zero, List.set_cons_succ]
  refine tk (v := ?_) 5 hHeld ?_ ?_
  rotate_left
  · intro w' hSw
    first | (go_simp; done) | (go_simp; with_reducible rfl)
  try simp only [List.set_cons_zero, List.set_cons_succ]
  refine tk (v := ?_) 6 hHeld ?_ ?_
  rotate_left
  · intro w' hSw
    first | (go_simp; done) | (go_simp; with_reducible rfl)
  try simp only [List.set_cons_zero, List.set_cons_succ]
  refine wpAnyH_ready (rs := [9]) (by kernel_rfl) (by simp) ?_
  refine AllReadyH.cons rfl (fun K hK => ?_) AllReadyH.nil
  go_simp
  go_wp2_with (go_at_call 43; (with_reducible refine (HZn.out _ hHeld).mono ?_); rintro e1 w1 ⟨rfl, hB1⟩)
  replace hHeld := hHeld.trans (hB1.mono hHeld.size)
  refine hK.out _ _ hHeld (fun _ => ?_)
  clear hK K hB1
  try simp only [Act.put, List.getElem_toArray, List.getElem_cons_zero, List.getElem_cons_succ, List.setIfInBounds_toArray, List.set_cons_zero, List.set_cons_succ]
  refine tk (v := ?_) 10 hHeld ?_ ?_
  rotate_left
  · intro w' hSw
    first | (go_simp; done) | (go_simp; with_reducible rfl)
  try simp only [List.set_cons_zero, List.set_cons_succ]
  refine tk (v := ?_) 11 hHeld ?_ ?_
  rotate_left
  · intro w' hSw
    first | (go_simp; done) | (go_simp; with_reducible rfl)
  try simp only [List.set_cons_zero, List.set_cons_succ]
  refine tk (v := ?_) 12 hHeld ?_ ?_
  rotate_left
  · intro w' hSw
    first | (go_simp; done) | (go_simp; with_reducible rfl)
  try simp only [List.set_cons_zero, List.set_cons_succ]
  have HBe : Hid (Below w.heap.size w _) := hide (HBc.out.trans (hHeld.mono HBc.out.size))
  refine wpAnyH_done (by kernel_rfl) ?_ _
  try simp only [Act.put, List.getElem_toArray, List.getElem_cons_zero, List.getElem_cons_succ, List.setIfInBounds_toArray, List.set_cons_zero, List.set_cons_succ]
  go_wp2_with fail
  go_ret2
  refine ⟨?_, HBe.out⟩
  rw [← Hd.out, Hz.out.1, ← Ha.out, join3]
  rfl

set_option maxHeartbeats 4000000 in
set_option maxRecDepth 100000 in
theorem edit28_3 {S : Nat → Prop} {x : Eh} {e : Ed} {w : World} (he : EdIn S w x e) (hpl : e.path.length ≤ 1099511627776) (htab : TabP w.heap.size w) (ho : PartOk e.old) (hzo : e.old.cnt ≤ 1099511627776) :
    Calls Tryz.prog 21 #[.agg #[.int .u8 3, .slice x.pA e.path.length x.pc, .int .i64 e.at_, .int .i64 e.far, .string e.frm, .string e.to, .slice x.oA e.old.len x.oc, .slice x.nA e.new.len x.nc]] w fun e1 w' => e1 = .returned (.tuple #[.string (wordS 3), .string (joinS (dotS e.path :: itoaS e.at_ :: (sizesN e.old).map itoaS))]) ∧ Below w.heap.size w w' := by
  have H := hide he
  have HT := hide htab
  have hTB : ∀ W, Below w.heap.size w W → TabP W.heap.size W := fun W hW => (HT.out.below hW).up hW.size
  have HTB := hide hTB
  obtain ⟨zo, ezo, hso, hlo⟩ := part_size ho hzo
  obtain ⟨W0, hW0⟩ : ∃ W0, W0 = w.alloc (.cells #[.int .u8 3, .slice x.pA e.path.length x.pc, .int .i64 e.at_, .int .i64 e.far, .string e.frm, .string e.to, .slice x.oA e.old.len x.oc, .slice x.nA e.new.len x.nc] 35) := ⟨_, rfl⟩
  have hcl0 : CellsL W0 w.heap.size [.int .u8 3, .slice x.pA e.path.length x.pc, .int .i64 e.at_, .int .i64 e.far, .string e.frm, .string e.to, .slice x.oA e.old.len x.oc, .slice x.nA e.new.len x.nc] := fun j u hu => by rw [hW0, Lib.cell_of_heap (heap_alloc_new w _)]; simpa using hu
  have hBB : Below w.heap.size w W0 := by rw [hW0]; exact below_alloc _ _
  have HB0 := hide hBB
  have HW0 := hide hW0
  have b0 := hcl0 0 _ rfl
  have b1 := hcl0 1 _ rfl
  have b2 := hcl0 2 _ rfl
  have b3 := hcl0 3 _ rfl
  have b4 := hcl0 4 _ rfl
  have b5 := hcl0 5 _ rfl
  have b6 := hcl0 6 _ rfl
  have b7 := hcl0 7 _ rfl
  have hNb : w.heap.size < W0.heap.size := block_lt_of_cell b0
  obtain ⟨a, ha⟩ : ∃ a, a = itoaS e.at_ := ⟨_, rfl⟩
  have hsa : a.size ≤ 21 := by rw [ha]; exact itoaS_size he.at_
  have Ha := hide ha
  obtain ⟨d, hd⟩ : ∃ d, d = dotS e.path := ⟨_, rfl⟩
  have hsd : d.size ≤ 22 * e.path.length + 1 := by rw [hd]; have := dotS_fit he.path.2.1 e.path.length; rwa [List.take_length] at this
  have Hd := hide hd
  have HA : Hid (∀ W, Below w.heap.size w W → Calls Tryz.prog 20 #[.int .i64 e.at_] W fun e1 w' => e1 = .returned (.string a) ∧ Below W.heap.size W w') := hide fun W hW => by rw [ha]; exact itoa_any H.out.at_ (HTB.out W hW)
  have z0 : ¬ 9223372036854775807 < d.size + 1 := by omega
  have z1 : ¬ 9223372036854775807 < d.size + 1 + a.size := by omega
  have z2 : ¬ 9223372036854775807 < d.size + 1 + a.size + 1 := by omega
  have z3 : ¬ 9223372036854775807 < d.size + 1 + a.size + 1 + zo.size := by omega
  clear he htab hTB hW0 hcl0 hBB ha hd
  rw [hlo] at b6
  clear hlo
  go_enter Tryz.func21, Tryz.ntmps21
  go_upto_region 1 with fail
  change Code.wp _ _ _ _ (w.alloc (.cells #[.int .u8 3, .slice x.pA e.path.length x.pc, .int .i64 e.at_, .int .i64 e.far, .string e.frm, .string e.to, .slice x.oA e.old.len x.oc, .slice x.nA e.new.len x.nc] 35))
  rw [← HW0.out]
  clear HW0
  go_upto_region 8 with (go_at_call 20; (with_reducible refine (HA.out _ HB0.out).mono ?_); rintro e1 wc ⟨rfl, hB⟩; have HBc := hide (HB0.out.trans (hB.mono HB0.out.size)); replace b0 := (hB.cell (p := ⟨w.heap.size, 0, none⟩) hNb).trans b0; replace b1 := (hB.cell (p := ⟨w.heap.size, 1, none⟩) hNb).trans b1; replace b2 := (hB.cell (p := ⟨w.heap.size, 2, none⟩) hNb).trans b2; replace b3 := (hB.cell (p := ⟨w.heap.size, 3, none⟩) hNb).trans b3; replace b4 := (hB.cell (p := ⟨w.heap.size, 4, none⟩) hNb).trans b4; replace b5 := (hB.cell (p := ⟨w.heap.size, 5, none⟩) hNb).trans b5; replace b6 := (hB.cell (p := ⟨w.heap.size, 6, none⟩) hNb).trans b6; replace b7 := (hB.cell (p := ⟨w.heap.size, 7, none⟩) hNb).trans b7; replace hNb := Nat.lt_of_lt_of_le hNb hB.size; clear hB)
  have HP : Hid (∀ W, Below wc.heap.size wc W → Calls Tryz.prog 42 #[.slice x.pA e.path.length x.pc] W fun e1 w' => e1 = .returned (.string d) ∧ Below W.heap.size W w') := hide fun W hW => by
    rw [Hd.out]
    have h9 := HBc.out.trans (hW.mono HBc.out.size)
    exact path28_any (H.out.path.below h9) hpl (HTB.out W h9)
  have HZo : Hid (∀ W, Below wc.heap.size wc W → Calls Tryz.prog 43 #[.slice x.oA 1 x.oc] W fun e1 w' => e1 = .returned (.string zo) ∧ Below W.heap.size W w') := hide fun W hW => by
    have h9 := HBc.out.trans (hW.mono HBc.out.size)
    exact size28_part (H.out.old.below h9) ho hzo (HTB.out W h9) ezo
  have Hz := hide (And.intro ezo trivial)
  clear HB0 HA ezo
  have hd1 : Below wc.heap.size wc wc.drew := blw_drewN (Below.refl _ _) 1
  refine wp_region_held_drew (S := Below wc.heap.size wc) (by kernel_rfl) hd1 (fun hHeld => ?_)
  generalize wc.drew = wD at hHeld ⊢
  refine tk (v := ?_) 0 hHeld ?_ ?_
  rotate_left
  · intro w' hSw
    first | (go_simp; done) | (go_simp; with_reducible rfl)
  try simp only [List.set_cons_zero, List.set_cons_succ]
  refine tk (v := ?_) 1 hHeld ?_ ?_
  rotate_left
  · intro w' hSw
    have f1 := (hSw.cell (p := ⟨w.heap.size, 1, none⟩) hNb).trans b1
    first | (go_simp; done) | (go_simp; with_reducible rfl)
  try simp only [List.set_cons_zero, List.set_cons_succ]
  refine tk (v := ?_) 4 hHeld ?_ ?_
  rotate_left
  · intro w' hSw
    first | (go_simp; done) | (go_simp; with_reducible rfl)
  try simp only [List.set_cons_zero, List.set_cons_succ]
  refine tk (v := ?_) 7 hHeld ?_ ?_
  rotate_left
  · intro w' hSw
    first | (go_simp; done) | (go_simp; with_reducible rfl)
  try simp only [List.set_cons_zero, List.set_cons_succ]
  refine tk (v := ?_) 8 hHeld ?_ ?_
  rotate_left
  · intro w' hSw
    have f6 := (hSw.cell (p := ⟨w.heap.size, 6, none⟩) hNb).trans b6
    first | (go_simp; done) | (go_simp; with_reducible rfl)
  try simp only [List.set_cons_zero, List.set_cons_succ]
  refine wpAnyH_ready (rs := [2]) (by kernel_rfl) (by simp) ?_
  refine AllReadyH.cons rfl (fun K hK => ?_) AllReadyH.nil
  go_simp
  go_wp2_with (go_at_call 42; (with_reducible refine (HP.out _ hHeld).mono ?_); rintro e1 w1 ⟨rfl, hB1⟩)
  replace hHeld := hHeld.trans (hB1.mono hHeld.size)
  refine hK.out _ _ hHeld (fun _ => ?_)
  clear hK K hB1
  try simp only [Act.put, List.getElem_toArray, List.getElem_cons_zero, List.getElem_cons_succ, List.setIfInBounds_toArray, List.set_cons_zero, List.set_cons_succ]
  refine tk (v := ?_) 3 hHeld ?_ ?_
  rotate_left
  · intro w' hSw
    first | (go_simp; done) | (go_simp; with_reducible rfl)
  try simp only [List.set_cons_zero, List.set_cons_succ]
  refine tk (v := ?_) 5 hHeld ?_ ?_
  rotate_left
  · intro w' hSw
    first | (go_simp; done) | (go_simp; with_reducible rfl)
  try simp only [List.set_cons_zero, List.set_cons_succ]
  refine tk (v := ?_) 6 hHeld ?_ ?_
  rotate_left
  · intro w' hSw
    first | (go_simp; done) | (go_simp; with_reducible rfl)
  try simp only [List.set_cons_zero, List.set_cons_succ]
  refine wpAnyH_ready (rs := [9]) (by kernel_rfl) (by simp) ?_
  refine AllReadyH.cons rfl (fun K hK => ?_) AllReadyH.nil
  go_simp
  go_wp2_with (go_at_call 43; (with_reducible refine (HZo.out _ hHeld).mono ?_); rintro e1 w1 ⟨rfl, hB1⟩)
  replace hHeld := hHeld.trans (hB1.mono hHeld.size)
  refine hK.out _ _ hHeld (fun _ => ?_)
  clear hK K hB1
  try simp only [Act.put, List.getElem_toArray, List.getElem_cons_zero, List.getElem_cons_succ, List.setIfInBounds_toArray, List.set_cons_zero, List.set_cons_succ]
  refine tk (v := ?_) 10 hHeld ?_ ?_
  rotate_left
  · intro w' hSw
    first | (go_simp; done) | (go_simp; with_reducible rfl)
  try simp only [List.set_cons_zero, List.set_cons_succ]
  refine tk (v := ?_) 11 hHeld ?_ ?_
  rotate_left
  · intro w' hSw
    first | (go_simp; done) | (go_simp; with_reducible rfl)
  try simp only [List.set_cons_zero, List.set_cons_succ]
  refine tk (v := ?_) 12 hHeld ?_ ?_
  rotate_left
  · intro w' hSw
    first | (go_simp; done) | (go_simp; with_reducible rfl)
  try simp only [List.set_cons_zero, List.set_cons_succ]
  have HBe : Hid (Below w.heap.size w _) := hide (HBc.out.trans (hHeld.mono HBc.out.size))
  refine wpAnyH_done (by kernel_rfl) ?_ _
  try simp only [Act.put, List.getElem_toArray, List.getElem_cons_zero, List.getElem_cons_succ, List.setIfInBounds_toArray, List.set_cons_zero, List.set_cons_succ]
  go_wp2_with fail
  go_ret2
  refine ⟨?_, HBe.out⟩
  rw [← Hd.out, Hz.out.1, ← Ha.out, join3]
  rfl

set_option maxHeartbeats 4000000 in
set_option maxRecDepth 100000 in
theorem edit28_4 {S : Nat → Prop} {x : Eh} {e : Ed} {w : World} (he : EdIn S w x e) (hpl : e.path.length ≤ 1099511627776) (htab : TabP w.heap.size w) (ho : PartOk e.old) (hzo : e.old.cnt ≤ 1099511627776) (hn : PartOk e.new) (hzn : e.new.cnt ≤ 1099511627776) :
    Calls Tryz.prog 21 #[.agg #[.int .u8 4, .slice x.pA e.path.length x.pc, .int .i64 e.at_, .int .i64 e.far, .string e.frm, .string e.to, .slice x.oA e.old.len x.oc, .slice x.nA e.new.len x.nc]] w fun e1 w' => e1 = .returned (.tuple #[.string (wordS 4), .string (joinS (dotS e.path :: ((sizesN e.old).map itoaS ++ (sizesN e.new).map itoaS)))]) ∧ Below w.heap.size w w' := by
  have H := hide he
  have HT := hide htab
  have hTB : ∀ W, Below w.heap.size w W → TabP W.heap.size W := fun W hW => (HT.out.below hW).up hW.size
  have HTB := hide hTB
  obtain ⟨zo, ezo, hso, hlo⟩ := part_size ho hzo
  obtain ⟨zn, ezn, hsn, hln⟩ := part_size hn hzn
  obtain ⟨W0, hW0⟩ : ∃ W0, W0 = w.alloc (.cells #[.int .u8 4, .slice x.pA e.path.length x.pc, .int .i64 e.at_, .int .i64 e.far, .string e.frm, .string e.to, .slice x.oA e.old.len x.oc, .slice x.nA e.new.len x.nc] 35) := ⟨_, rfl⟩
  have hcl0 : CellsL W0 w.heap.size [.int .u8 4, .slice x.pA e.path.length x.pc, .int .i64 e.at_, .int .i64 e.far, .string e.frm, .string e.to, .slice x.oA e.old.len x.oc, .slice x.nA e.new.len x.nc] := fun j u hu => by rw [hW0, Lib.cell_of_heap (heap_alloc_new w _)]; simpa using hu
  have hBB : Below w.heap.size w W0 := by rw [hW0]; exact below_alloc _ _
  have HB0 := hide hBB
  have HW0 := hide hW0
  have b0 := hcl0 0 _ rfl
  have b1 := hcl0 1 _ rfl
  have b2 := hcl0 2 _ rfl
  have b3 := hcl0 3 _ rfl
  have b4 := hcl0 4 _ rfl
  have b5 := hcl0 5 _ rfl
  have b6 := hcl0 6 _ rfl
  have b7 := hcl0 7 _ rfl
  have hNb : w.heap.size < W0.heap.size := block_lt_of_cell b0
  obtain ⟨a, ha⟩ : ∃ a, a = itoaS e.at_ := ⟨_, rfl⟩
  have hsa : a.size ≤ 21 := by rw [ha]; exact itoaS_size he.at_
  have Ha := hide ha
  obtain ⟨d, hd⟩ : ∃ d, d = dotS e.path := ⟨_, rfl⟩
  have hsd : d.size ≤ 22 * e.path.length + 1 := by rw [hd]; have := dotS_fit he.path.2.1 e.path.length; rwa [List.take_length] at this
  have Hd := hide hd
  have HA : Hid (∀ W, Below w.heap.size w W → Calls Tryz.prog 20 #[.int .i64 e.at_] W fun e1 w' => e1 = .returned (.string a) ∧ Below W.heap.size W w') := hide fun W hW => by rw [ha]; exact itoa_any H.out.at_ (HTB.out W hW)
  have z0 : ¬ 9223372036854775807 < d.size + 1 := by omega
  have z1 : ¬ 9223372036854775807 < d.size + 1 + zo.size := by omega
  have z2 : ¬ 9223372036854775807 < d.size + 1 + zo.size + 1 := by omega
  have z3 : ¬ 9223372036854775807 < d.size + 1 + zo.size + 1 + zn.size := by omega
  clear he htab hTB hW0 hcl0 hBB ha hd
  rw [hlo] at b6
  clear hlo
  rw [hln] at b7
  clear hln
  go_enter Tryz.func21, Tryz.ntmps21
  go_upto_region 1 with fail
  change Code.wp _ _ _ _ (w.alloc (.cells #[.int .u8 4, .slice x.pA e.path.length x.pc, .int .i64 e.at_, .int .i64 e.far, .string e.frm, .string e.to, .slice x.oA e.old.len x.oc, .slice x.nA e.new.len x.nc] 35))
  rw [← HW0.out]
  clear HW0
  go_upto_region 10 with (go_at_call 20; (with_reducible refine (HA.out _ HB0.out).mono ?_); rintro e1 wc ⟨rfl, hB⟩; have HBc := hide (HB0.out.trans (hB.mono HB0.out.size)); replace b0 := (hB.cell (p := ⟨w.heap.size, 0, none⟩) hNb).trans b0; replace b1 := (hB.cell (p := ⟨w.heap.size, 1, none⟩) hNb).trans b1; replace b2 := (hB.cell (p := ⟨w.heap.size, 2, none⟩) hNb).trans b2; replace b3 := (hB.cell (p := ⟨w.heap.size, 3, none⟩) hNb).trans b3; replace b4 := (hB.cell (p := ⟨w.heap.size, 4, none⟩) hNb).trans b4; replace b5 := (hB.cell (p := ⟨w.heap.size, 5, none⟩) hNb).trans b5; replace b6 := (hB.cell (p := ⟨w.heap.size, 6, none⟩) hNb).trans b6; replace b7 := (hB.cell (p := ⟨w.heap.size, 7, none⟩) hNb).trans b7; replace hNb := Nat.lt_of_lt_of_le hNb hB.size; clear hB)
  have HP : Hid (∀ W, Below wc.heap.size wc W → Calls Tryz.prog 42 #[.slice x.pA e.path.length x.pc] W fun e1 w' => e1 = .returned (.string d) ∧ Below W.heap.size W w') := hide fun W hW => by
    rw [Hd.out]
    have h9 := HBc.out.trans (hW.mono HBc.out.size)
    exact path28_any (H.out.path.below h9) hpl (HTB.out W h9)
  have HZo : Hid (∀ W, Below wc.heap.size wc W → Calls Tryz.prog 43 #[.slice x.oA 1 x.oc] W fun e1 w' => e1 = .returned (.string zo) ∧ Below W.heap.size W w') := hide fun W hW => by
    have h9 := HBc.out.trans (hW.mono HBc.out.size)
    exact size28_part (H.out.old.below h9) ho hzo (HTB.out W h9) ezo
  have HZn : Hid (∀ W, Below wc.heap.size wc W → Calls Tryz.prog 43 #[.slice x.nA 1 x.nc] W fun e1 w' => e1 = .returned (.string zn) ∧ Below W.heap.size W w') := hide fun W hW => by
    have h9 := HBc.out.trans (hW.mono HBc.out.size)
    exact size28_part (H.out.new.below h9) hn hzn (HTB.out W h9) ezn
  have Hz := hide (And.intro ezo ezn)
  clear HB0 HA ezo ezn
  have hd1 : Below wc.heap.size wc wc.drew := blw_drewN (Below.refl _ _) 1
  refine wp_region_held_drew (S := Below wc.heap.size wc) (by kernel_rfl) hd1 (fun hHeld => ?_)
  generalize wc.drew = wD at hHeld ⊢
  refine tk (v := ?_) 0 hHeld ?_ ?_
  rotate_left
  · intro w' hSw
    first | (go_simp; done) | (go_simp; with_reducible rfl)
  try simp only [List.set_cons_zero, List.set_cons_succ]
  refine tk (v := ?_) 1 hHeld ?_ ?_
  rotate_left
  · intro w' hSw
    have f1 := (hSw.cell (p := ⟨w.heap.size, 1, none⟩) hNb).trans b1
    first | (go_simp; done) | (go_simp; with_reducible rfl)
  try simp only [List.set_cons_zero, List.set_cons_succ]
  refine tk (v := ?_) 4 hHeld ?_ ?_
  rotate_left
  · intro w' hSw
    first | (go_simp; done) | (go_simp; with_reducible rfl)
  try simp only [List.set_cons_zero, List.set_cons_succ]
  refine tk (v := ?_) 5 hHeld ?_ ?_
  rotate_left
  · intro w' hSw
    have f6 := (hSw.cell (p := ⟨w.heap.size, 6, none⟩) hNb).trans b6
    first | (go_simp; done) | (go_simp; with_reducible rfl)
  try simp only [List.set_cons_zero, List.set_cons_succ]
  refine tk (v := ?_) 9 hHeld ?_ ?_
  rotate_left
  · intro w' hSw
    first | (go_simp; done) | (go_simp; with_reducible rfl)
  try simp only [List.set_cons_zero, List.set_cons_succ]
  refine tk (v := ?_) 10 hHeld ?_ ?_
  rotate_left
  · intro w' hSw
    have f7 := (hSw.cell (p := ⟨w.heap.size, 7, none⟩) hNb).trans b7
    first | (go_simp; done) | (go_simp; with_reducible rfl)
  try simp only [List.set_cons_zero, List.set_cons_succ]
  refine wpAnyH_ready (rs := [2]) (by kernel_rfl) (by simp) ?_
  refine AllReadyH.cons rfl (fun K hK => ?_) AllReadyH.nil
  go_simp
  go_wp2_with (go_at_call 42; (with_reducible refine (HP.out _ hHeld).mono ?_); rintro e1 w1 ⟨rfl, hB1⟩)
  replace hHeld := hHeld.trans (hB1.mono hHeld.size)
  refine hK.out _ _ hHeld (fun _ => ?_)
  clear hK K hB1
  try simp only [Act.put, List.getElem_toArray, List.getElem_cons_zero, List.getElem_cons_succ, List.setIfInBounds_toArray, List.set_cons_zero, List.set_cons_succ]
  refine tk (v := ?_) 3 hHeld ?_ ?_
  rotate_left
  · intro w' hSw
    first | (go_simp; done) | (go_simp; with_reducible rfl)
  try simp only [List.set_cons_zero, List.set_cons_succ]
  refine wpAnyH_ready (rs := [6]) (by kernel_rfl) (by simp) ?_
  refine AllReadyH.cons rfl (fun K hK => ?_) AllReadyH.nil
  go_simp
  go_wp2_with (go_at_call 43; (with_reducible refine (HZo.out _ hHeld).mono ?_); rintro e1 w1 ⟨rfl, hB1⟩)
  replace hHeld := hHeld.trans (hB1.mono hHeld.size)
  refine hK.out _ _ hHeld (fun _ => ?_)
  clear hK K hB1
  try simp only [Act.put, List.getElem_toArray, List.getElem_cons_zero, List.getElem_cons_succ, List.setIfInBounds_toArray, List.set_cons_zero, List.set_cons_succ]
  refine tk (v := ?_) 7 hHeld ?_ ?_
  rotate_left
  · intro w' hSw
    first | (go_simp; done) | (go_simp; with_reducible rfl)
  try simp only [List.set_cons_zero, List.set_cons_succ]
  refine tk (v := ?_) 8 hHeld ?_ ?_
  rotate_left
  · intro w' hSw
    first | (go_simp; done) | (go_simp; with_reducible rfl)
  try simp only [List.set_cons_zero, List.set_cons_succ]
  refine wpAnyH_ready (rs := [11]) (by kernel_rfl) (by simp) ?_
  refine AllReadyH.cons rfl (fun K hK => ?_) AllReadyH.nil
  go_simp
  go_wp2_with (go_at_call 43; (with_reducible refine (HZn.out _ hHeld).mono ?_); rintro e1 w1 ⟨rfl, hB1⟩)
  replace hHeld := hHeld.trans (hB1.mono hHeld.size)
  refine hK.out _ _ hHeld (fun _ => ?_)
  clear hK K hB1
  try simp only [Act.put, List.getElem_toArray, List.getElem_cons_zero, List.getElem_cons_succ, List.setIfInBounds_toArray, List.set_cons_zero, List.set_cons_succ]
  refine tk (v := ?_) 12 hHeld ?_ ?_
  rotate_left
  · intro w' hSw
    first | (go_simp; done) | (go_simp; with_reducible rfl)
  try simp only [List.set_cons_zero, List.set_cons_succ]
  refine tk (v := ?_) 13 hHeld ?_ ?_
  rotate_left
  · intro w' hSw
    first | (go_simp; done) | (go_simp; with_reducible rfl)
  try simp only [List.set_cons_zero, List.set_cons_succ]
  refine tk (v := ?_) 14 hHeld ?_ ?_
  rotate_left
  · intro w' hSw
    first | (go_simp; done) | (go_simp; with_reducible rfl)
  try simp only [List.set_cons_zero, List.set_cons_succ]
  have HBe : Hid (Below w.heap.size w _) := hide (HBc.out.trans (hHeld.mono HBc.out.size))
  refine wpAnyH_done (by kernel_rfl) ?_ _
  try simp only [Act.put, List.getElem_toArray, List.getElem_cons_zero, List.getElem_cons_succ, List.setIfInBounds_toArray, List.set_cons_zero, List.set_cons_succ]
  go_wp2_with fail
  go_ret2
  refine ⟨?_, HBe.out⟩
  rw [← Hd.out, Hz.out.1, Hz.out.2, List.singleton_append, join3]
  rfl

set_option maxHeartbeats 4000000 in
set_option maxRecDepth 100000 in
theorem edit28_5 {S : Nat → Prop} {x : Eh} {e : Ed} {w : World} (he : EdIn S w x e) (hpl : e.path.length ≤ 1099511627776) (htab : TabP w.heap.size w) (ho : PartOk e.old) (hzo : e.old.cnt ≤ 1099511627776) :
    Calls Tryz.prog 21 #[.agg #[.int .u8 5, .slice x.pA e.path.length x.pc, .int .i64 e.at_, .int .i64 e.far, .string e.frm, .string e.to, .slice x.oA e.old.len x.oc, .slice x.nA e.new.len x.nc]] w fun e1 w' => e1 = .returned (.tuple #[.string (wordS 5), .string (joinS (dotS e.path :: itoaS e.at_ :: itoaS e.far :: (sizesN e.old).map itoaS))]) ∧ Below w.heap.size w w' := by
  have H := hide he
  have HT := hide htab
  have hTB : ∀ W, Below w.heap.size w W → TabP W.heap.size W := fun W hW => (HT.out.below hW).up hW.size
  have HTB := hide hTB
  obtain ⟨zo, ezo, hso, hlo⟩ := part_size ho hzo
  obtain ⟨W0, hW0⟩ : ∃ W0, W0 = w.alloc (.cells #[.int .u8 5, .slice x.pA e.path.length x.pc, .int .i64 e.at_, .int .i64 e.far, .string e.frm, .string e.to, .slice x.oA e.old.len x.oc, .slice x.nA e.new.len x.nc] 35) := ⟨_, rfl⟩
  have hcl0 : CellsL W0 w.heap.size [.int .u8 5, .slice x.pA e.path.length x.pc, .int .i64 e.at_, .int .i64 e.far, .string e.frm, .string e.to, .slice x.oA e.old.len x.oc, .slice x.nA e.new.len x.nc] := fun j u hu => by rw [hW0, Lib.cell_of_heap (heap_alloc_new w _)]; simpa using hu
  have hBB : Below w.heap.size w W0 := by rw [hW0]; exact below_alloc _ _
  have HB0 := hide hBB
  have HW0 := hide hW0
  have b0 := hcl0 0 _ rfl
  have b1 := hcl0 1 _ rfl
  have b2 := hcl0 2 _ rfl
  have b3 := hcl0 3 _ rfl
  have b4 := hcl0 4 _ rfl
  have b5 := hcl0 5 _ rfl
  have b6 := hcl0 6 _ rfl
  have b7 := hcl0 7 _ rfl
  have hNb : w.heap.size < W0.heap.size := block_lt_of_cell b0
  obtain ⟨a, ha⟩ : ∃ a, a = itoaS e.at_ := ⟨_, rfl⟩
  have hsa : a.size ≤ 21 := by rw [ha]; exact itoaS_size he.at_
  have Ha := hide ha
  obtain ⟨d, hd⟩ : ∃ d, d = dotS e.path := ⟨_, rfl⟩
  have hsd : d.size ≤ 22 * e.path.length + 1 := by rw [hd]; have := dotS_fit he.path.2.1 e.path.length; rwa [List.take_length] at this
  have Hd := hide hd
  have HA : Hid (∀ W, Below w.heap.size w W → Calls Tryz.prog 20 #[.int .i64 e.at_] W fun e1 w' => e1 = .returned (.string a) ∧ Below W.heap.size W w') := hide fun W hW => by rw [ha]; exact itoa_any H.out.at_ (HTB.out W hW)
  obtain ⟨r, hr⟩ : ∃ r, r = itoaS e.far := ⟨_, rfl⟩
  have hsr : r.size ≤ 21 := by rw [hr]; exact itoaS_size he.far
  have Hr := hide hr
  have z0 : ¬ 9223372036854775807 < d.size + 1 := by omega
  have z1 : ¬ 9223372036854775807 < d.size + 1 + a.size := by omega
  have z2 : ¬ 9223372036854775807 < d.size + 1 + a.size + 1 := by omega
  have z3 : ¬ 9223372036854775807 < d.size + 1 + a.size + 1 + r.size := by omega
  have z4 : ¬ 9223372036854775807 < d.size + 1 + a.size + 1 + r.size + 1 := by omega
  have z5 : ¬ 9223372036854775807 < d.size + 1 + a.size + 1 + r.size + 1 + zo.size := by omega
  clear he htab hTB hW0 hcl0 hBB ha hd hr
  rw [hlo] at b6
  clear hlo
  go_enter Tryz.func21, Tryz.ntmps21
  go_upto_region 1 with fail
  change Code.wp _ _ _ _ (w.alloc (.cells #[.int .u8 5, .slice x.pA e.path.length x.pc, .int .i64 e.at_, .int .i64 e.far, .string e.frm, .string e.to, .slice x.oA e.old.len x.oc, .slice x.nA e.new.len x.nc] 35))
  rw [← HW0.out]
  clear HW0
  go_upto_region 11 with (go_at_call 20; (with_reducible refine (HA.out _ HB0.out).mono ?_); rintro e1 wc ⟨rfl, hB⟩; have HBc := hide (HB0.out.trans (hB.mono HB0.out.size)); replace b0 := (hB.cell (p := ⟨w.heap.size, 0, none⟩) hNb).trans b0; replace b1 := (hB.cell (p := ⟨w.heap.size, 1, none⟩) hNb).trans b1; replace b2 := (hB.cell (p := ⟨w.heap.size, 2, none⟩) hNb).trans b2; replace b3 := (hB.cell (p := ⟨w.heap.size, 3, none⟩) hNb).trans b3; replace b4 := (hB.cell (p := ⟨w.heap.size, 4, none⟩) hNb).trans b4; replace b5 := (hB.cell (p := ⟨w.heap.size, 5, none⟩) hNb).trans b5; replace b6 := (hB.cell (p := ⟨w.heap.size, 6, none⟩) hNb).trans b6; replace b7 := (hB.cell (p := ⟨w.heap.size, 7, none⟩) hNb).trans b7; replace hNb := Nat.lt_of_lt_of_le hNb hB.size; clear hB)
  have HP : Hid (∀ W, Below wc.heap.size wc W → Calls Tryz.prog 42 #[.slice x.pA e.path.length x.pc] W fun e1 w' => e1 = .returned (.string d) ∧ Below W.heap.size W w') := hide fun W hW => by
    rw [Hd.out]
    have h9 := HBc.out.trans (hW.mono HBc.out.size)
    exact path28_any (H.out.path.below h9) hpl (HTB.out W h9)
  have HFar : Hid (∀ W, Below wc.heap.size wc W → Calls Tryz.prog 20 #[.int .i64 e.far] W fun e1 w' => e1 = .returned (.string r) ∧ Below W.heap.size W w') := hide fun W hW => by
    rw [Hr.out]
    exact itoa_any H.out.far (HTB.out W (HBc.out.trans (hW.mono HBc.out.size)))
  have HZo : Hid (∀ W, Below wc.heap.size wc W → Calls Tryz.prog 43 #[.slice x.oA 1 x.oc] W fun e1 w' => e1 = .returned (.string zo) ∧ Below W.heap.size W w') := hide fun W hW => by
    have h9 := HBc.out.trans (hW.mono HBc.out.size)
    exact size28_part (H.out.old.below h9) ho hzo (HTB.out W h9) ezo
  have Hz := hide (And.intro ezo trivial)
  clear HB0 HA ezo
  have hd1 : Below wc.heap.size wc wc.drew := blw_drewN (Below.refl _ _) 1
  refine wp_region_held_drew (S := Below wc.heap.size wc) (by kernel_rfl) hd1 (fun hHeld => ?_)
  generalize wc.drew = wD at hHeld ⊢
  refine tk (v := ?_) 0 hHeld ?_ ?_
  rotate_left
  · intro w' hSw
    first | (go_simp; done) | (go_simp; with_reducible rfl)
  try simp only [List.set_cons_zero, List.set_cons_succ]
  refine tk (v := ?_) 1 hHeld ?_ ?_
  rotate_left
  · intro w' hSw
    have f1 := (hSw.cell (p := ⟨w.heap.size, 1, none⟩) hNb).trans b1
    first | (go_simp; done) | (go_simp; with_reducible rfl)
  try simp only [List.set_cons_zero, List.set_cons_succ]
  refine tk (v := ?_) 4 hHeld ?_ ?_
  rotate_left
  · intro w' hSw
    first | (go_simp; done) | (go_simp; with_reducible rfl)
  try simp only [List.set_cons_zero, List.set_cons_succ]
  refine tk (v := ?_) 7 hHeld ?_ ?_
  rotate_left
  · intro w' hSw
    first | (go_simp; done) | (go_simp; with_reducible rfl)
  try simp only [List.set_cons_zero, List.set_cons_succ]
  refine tk (v := ?_) 8 hHeld ?_ ?_
  rotate_left
  · intro w' hSw
    have f3 := (hSw.cell (p := ⟨w.heap.size, 3, none⟩) hNb).trans b3
    first | (go_simp; done) | (go_simp; with_reducible rfl)
  try simp only [List.set_cons_zero, List.set_cons_succ]
  refine tk (v := ?_) 12 hHeld ?_ ?_
  rotate_left
  · intro w' hSw
    first | (go_simp; done) | (go_simp; with_reducible rfl)
  try simp only [List.set_cons_zero, List.set_cons_succ]
  refine tk (v := ?_) 13 hHeld ?_ ?_
  rotate_left
  · intro w' hSw
    have f6 := (hSw.cell (p := ⟨w.heap.size, 6, none⟩) hNb).trans b6
    first | (go_simp; done) | (go_simp; with_reducible rfl)
  try simp only [List.set_cons_zero, List.set_cons_succ]
  refine wpAnyH_ready (rs := [2]) (by kernel_rfl) (by simp) ?_
  refine AllReadyH.cons rfl (fun K hK => ?_) AllReadyH.nil
  go_simp
  go_wp2_with (go_at_call 42; (with_reducible refine (HP.out _ hHeld).mono ?_); rintro e1 w1 ⟨rfl, hB1⟩)
  replace hHeld := hHeld.trans (hB1.mono hHeld.size)
  refine hK.out _ _ hHeld (fun _ => ?_)
  clear hK K hB1
  try simp only [Act.put, List.getElem_toArray, List.getElem_cons_zero, List.getElem_cons_succ, List.setIfInBounds_toArray, List.set_cons_zero, List.set_cons_succ]
  refine tk (v := ?_) 3 hHeld ?_ ?_
  rotate_left
  · intro w' hSw
    first | (go_simp; done) | (go_simp; with_reducible rfl)
  try simp only [List.set_cons_zero, List.set_cons_succ]
  refine tk (v := ?_) 5 hHeld ?_ ?_
  rotate_left
  · intro w' hSw
    first | (go_simp; done) | (go_simp; with_reducible rfl)
  try simp only [List.set_cons_zero, List.set_cons_succ]
  refine tk (v := ?_) 6 hHeld ?_ ?_
  rotate_left
  · intro w' hSw
    first | (go_simp; done) | (go_simp; with_reducible rfl)
  try simp only [List.set_cons_zero, List.set_cons_succ]
  refine wpAnyH_ready (rs := [9]) (by kernel_rfl) (by simp) ?_
  refine AllReadyH.cons rfl (fun K hK => ?_) AllReadyH.nil
  go_simp
  go_wp2_with (go_at_call 20; (with_reducible refine (HFar.out _ hHeld).mono ?_); rintro e1 w1 ⟨rfl, hB1⟩)
  replace hHeld := hHeld.trans (hB1.mono hHeld.size)
  refine hK.out _ _ hHeld (fun _ => ?_)
  clear hK K hB1
  try simp only [Act.put, List.getElem_toArray, List.getElem_cons_zero, List.getElem_cons_succ, List.setIfInBounds_toArray, List.set_cons_zero, List.set_cons_succ]
  refine tk (v := ?_) 10 hHeld ?_ ?_
  rotate_left
  · intro w' hSw
    first | (go_simp; done) | (go_simp; with_reducible rfl)
  try simp only [List.set_cons_zero, List.set_cons_succ]
  refine tk (v := ?_) 11 hHeld ?_ ?_
  rotate_left
  · intro w' hSw
    first | (go_simp; done) | (go_simp; with_reducible rfl)
  try simp only [List.set_cons_zero, List.set_cons_succ]
  refine wpAnyH_ready (rs := [14]) (by kernel_rfl) (by simp) ?_
  refine AllReadyH.cons rfl (fun K hK => ?_) AllReadyH.nil
  go_simp
  go_wp2_with (go_at_call 43; (with_reducible refine (HZo.out _ hHeld).mono ?_); rintro e1 w1 ⟨rfl, hB1⟩)
  replace hHeld := hHeld.trans (hB1.mono hHeld.size)
  refine hK.out _ _ hHeld (fun _ => ?_)
  clear hK K hB1
  try simp only [Act.put, List.getElem_toArray, List.getElem_cons_zero, List.getElem_cons_succ, List.setIfInBounds_toArray, List.set_cons_zero, List.set_cons_succ]
  refine tk (v := ?_) 15 hHeld ?_ ?_
  rotate_left
  · intro w' hSw
    first | (go_simp; done) | (go_simp; with_reducible rfl)
  try simp only [List.set_cons_zero, List.set_cons_succ]
  refine tk (v := ?_) 16 hHeld ?_ ?_
  rotate_left
  · intro w' hSw
    first | (go_simp; done) | (go_simp; with_reducible rfl)
  try simp only [List.set_cons_zero, List.set_cons_succ]
  refine tk (v := ?_) 17 hHeld ?_ ?_
  rotate_left
  · intro w' hSw
    first | (go_simp; done) | (go_simp; with_reducible rfl)
  try simp only [List.set_cons_zero, List.set_cons_succ]
  have HBe : Hid (Below w.heap.size w _) := hide (HBc.out.trans (hHeld.mono HBc.out.size))
  refine wpAnyH_done (by kernel_rfl) ?_ _
  try simp only [Act.put, List.getElem_toArray, List.getElem_cons_zero, List.getElem_cons_succ, List.setIfInBounds_toArray, List.set_cons_zero, List.set_cons_succ]
  go_wp2_with fail
  go_ret2
  refine ⟨?_, HBe.out⟩
  rw [← Hd.out, Hz.out.1, ← Ha.out, ← Hr.out, join4]
  rfl

end Go.Proofs.YtadilmijppdpoaaGreatDoor
