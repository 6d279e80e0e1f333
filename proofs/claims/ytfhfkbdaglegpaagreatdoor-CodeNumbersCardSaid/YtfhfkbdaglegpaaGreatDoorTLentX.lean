/- Hunks and edits are lent (kit.LentHunk, kit.LentEdit). Printed by gen_lentx.py. -/
import Derived.Deep.CutBlock
import Derived.Deep.DeepCutAuto
import Derived.Test.YtfhfkbdaglegpaaGreatDoorTLentB
import Derived.Test.YtfhfkbdaglegpaaGreatDoorTBase

set_option linter.unusedVariables false
set_option linter.unusedSimpArgs false

namespace Go.Proofs.YtfhfkbdaglegpaaGreatDoor
open Go.RowKit

set_option maxHeartbeats 4000000 in
set_option maxRecDepth 100000 in
theorem lentHunk_any {S : Nat → Prop} {x : Hh} {h : Hk} {w : World} (a : HkIn S w x h) (h1 : h.old.length ≤ 1099511627776) (h2 : h.new.length ≤ 1099511627776) :
    Calls Tryz.prog 26 #[.agg #[.int .i64 h.at_, .slice x.oA h.old.length x.oc, .slice x.nA h.new.length x.nc]] w fun e w' => ∃ y : Hh, e = .returned (.agg #[.int .i64 h.at_, .slice y.oA h.old.length y.oc, .slice y.nA h.new.length y.nc]) ∧ LentHk (fun b => w.heap.size ≤ b) w' y h ∧ Below w.heap.size w w' := by
  have H := hide a
  have hat := hide a.at_
  clear a
  obtain ⟨W0, hW0⟩ : ∃ W0, W0 = (w.alloc (.cells #[.int .i64 h.at_, .slice x.oA h.old.length x.oc, .slice x.nA h.new.length x.nc] 25)).alloc (.cells #[.int .i64 0, .slice none 0 0, .slice none 0 0] 25) := ⟨_, rfl⟩
  have hB0 : BxL w W0 [.int .i64 h.at_, .slice x.oA h.old.length x.oc, .slice x.nA h.new.length x.nc] [.int .i64 0, .slice none 0 0, .slice none 0 0] := by rw [hW0]; exact BxL.start w #[.int .i64 h.at_, .slice x.oA h.old.length x.oc, .slice x.nA h.new.length x.nc] #[.int .i64 0, .slice none 0 0, .slice none 0 0] _ _
  have HW0 := hide hW0
  clear hW0
  go_enter Tryz.func26, Tryz.ntmps26
  go_upto_region 1 with fail
  change Code.wp _ _ _ _ ((w.alloc (.cells #[.int .i64 h.at_, .slice x.oA h.old.length x.oc, .slice x.nA h.new.length x.nc] 25)).alloc (.cells #[.int .i64 0, .slice none 0 0, .slice none 0 0] 25))
  rw [← HW0.out]
  clear HW0
  have b0 := hB0.c 0 _ rfl
  have b1 := hB0.c 1 _ rfl
  have b2 := hB0.c 2 _ rfl
  have HB0 := hide hB0
  clear hB0
  go_cut [] (fun wx => ∃ A1 c1, BxL w wx [.int .i64 h.at_, .slice A1 h.old.length c1, .slice x.nA h.new.length x.nc] [.int .i64 0, .slice none 0 0, .slice none 0 0] ∧ LentStrs (fun b => w.heap.size + 2 ≤ b) wx A1 c1 h.old)
  case first =>
    go_wp2_with (go_at_call 47; (with_reducible refine (lentTexts_any (H.out.old.below HB0.out.b) h1).mono ?_); rintro e1 w1 ⟨A1, c1, rfl, hL, hB⟩; have hC := HB0.out.call hB; have hz := hC.z; have d0 := hC.c 0 _ rfl; have d1 := hC.c 1 _ rfl; have d2 := hC.c 2 _ rfl; have hf := hC.fc; have HC := hide hC; have HL := hide hL; have HBB := hide hB; clear hC hL hB)
    go_meet
    exact ⟨_, _, HC.out.put 1 [.slice A1 h.old.length c1] (by simp), ((HL.out.mono (S' := fun b => w.heap.size + 2 ≤ b) (fun b hb => Nat.le_trans HB0.out.z hb)).keep fun b hb => heap_setCellsL w.heap.size (by omega) [.slice A1 h.old.length c1] 1 w1)⟩
  case rest =>
  obtain ⟨A1, c1, hB1, hl⟩ := hcut
  clear HB0 b0 b1 b2
  have Hhl := hide hl
  clear hl
  go_upto_region 2 with fail
  have hl := Hhl.out
  clear Hhl
  have b0 := hB1.c 0 _ rfl
  have b1 := hB1.c 1 _ rfl
  have b2 := hB1.c 2 _ rfl
  have HB1 := hide hB1
  clear hB1
  go_cut [] (fun wx => ∃ A2 c2, BxL w wx [.int .i64 h.at_, .slice A1 h.old.length c1, .slice A2 h.new.length c2] [.int .i64 0, .slice none 0 0, .slice none 0 0] ∧ LentStrs (fun b => w.heap.size + 2 ≤ b) wx A1 c1 h.old ∧ LentStrs (fun b => w.heap.size + 2 ≤ b) wx A2 c2 h.new)
  case first =>
    go_wp2_with (go_at_call 47; (with_reducible refine (lentTexts_any (H.out.new.below HB1.out.b) h2).mono ?_); rintro e1 w1 ⟨A2, c2, rfl, hL, hB⟩; have hC := HB1.out.call hB; have hz := hC.z; have d0 := hC.c 0 _ rfl; have d1 := hC.c 1 _ rfl; have d2 := hC.c 2 _ rfl; have hf := hC.fc; have HC := hide hC; have HL := hide hL; have HBB := hide hB; clear hC hL hB)
    go_meet
    exact ⟨_, _, HC.out.put 2 [.slice A2 h.new.length c2] (by simp), ((hl.below HBB.out).keep fun b hb => heap_setCellsL w.heap.size (by omega) [.slice A2 h.new.length c2] 2 w1), ((HL.out.mono (S' := fun b => w.heap.size + 2 ≤ b) (fun b hb => Nat.le_trans HB1.out.z hb)).keep fun b hb => heap_setCellsL w.heap.size (by omega) [.slice A2 h.new.length c2] 2 w1)⟩
  case rest =>
  obtain ⟨A2, c2, hB2, hl, hm⟩ := hcut
  clear HB1 b0 b1 b2
  have Hhl := hide hl
  clear hl
  have Hhm := hide hm
  clear hm
  go_upto_region 3 with fail
  have hl := Hhl.out
  clear Hhl
  have hm := Hhm.out
  clear Hhm
  have b0 := hB2.c 0 _ rfl
  have b1 := hB2.c 1 _ rfl
  have b2 := hB2.c 2 _ rfl
  have r0 := hB2.r 0 _ rfl
  have r1 := hB2.r 1 _ rfl
  have r2 := hB2.r 2 _ rfl
  have hfr := hB2.fr
  obtain ⟨hR, hBe⟩ := hB2.res [.int .i64 h.at_, .slice A1 h.old.length c1, .slice A2 h.new.length c2] rfl
  have hz := hB2.z
  have hlr := (hl.keep (w' := World.setCells wc (w.heap.size + 1) 0 [.int .i64 h.at_, .slice A1 h.old.length c1, .slice A2 h.new.length c2]) fun b hb => heap_setCellsL (w.heap.size + 1) (by omega) _ _ _)
  have Hhl := hide hlr
  clear hl hlr
  have hmr := (hm.keep (w' := World.setCells wc (w.heap.size + 1) 0 [.int .i64 h.at_, .slice A1 h.old.length c1, .slice A2 h.new.length c2]) fun b hb => heap_setCellsL (w.heap.size + 1) (by omega) _ _ _)
  have Hhm := hide hmr
  clear hm hmr
  have HBe := hide hBe
  clear hB2 hBe
  obtain ⟨wF, hF⟩ : ∃ wF, wF = World.setCells wc (w.heap.size + 1) 0 [.int .i64 h.at_, .slice A1 h.old.length c1, .slice A2 h.new.length c2] := ⟨_, rfl⟩
  rw [← hF] at hR
  rw [← hF] at Hhl
  rw [← hF] at Hhm
  rw [← hF] at HBe
  simp only [World.setCells, Nat.reduceAdd] at hF
  have HR := hide hR
  have HF := hide hF
  clear hR hF
  go_wp2_with fail
  rw [← HF.out]
  clear HF
  have q0 := HR.out 0 _ rfl
  have q1 := HR.out 1 _ rfl
  have q2 := HR.out 2 _ rfl
  refine bodyPost_ret (v := .agg #[.int .i64 h.at_, .slice A1 h.old.length c1, .slice A2 h.new.length c2]) ?_ rfl ⟨⟨A1, c1, A2, c2⟩, rfl, ⟨hat.out, Hhl.mono fun b hb => by omega, Hhm.mono fun b hb => by omega⟩, HBe⟩
  simp only [results, Tryz.results26]
  go_simp

set_option maxHeartbeats 4000000 in
set_option maxRecDepth 100000 in
theorem lentEdit_any {S : Nat → Prop} {x : Eh} {p : Ed} {w : World} (a : EdIn S w x p) (h1 : p.path.length ≤ 1099511627776) (h2 : p.old.cnt ≤ 1099511627776) (h3 : p.new.cnt ≤ 1099511627776) :
    Calls Tryz.prog 27 #[.agg #[.int .u8 p.kind, .slice x.pA p.path.length x.pc, .int .i64 p.at_, .int .i64 p.far, .string p.frm, .string p.to, .slice x.oA p.old.len x.oc, .slice x.nA p.new.len x.nc]] w fun e w' => ∃ y : Eh, e = .returned (.agg #[.int .u8 p.kind, .slice y.pA p.path.length y.pc, .int .i64 p.at_, .int .i64 p.far, .string p.frm, .string p.to, .slice y.oA p.old.len y.oc, .slice y.nA p.new.len y.nc]) ∧ LentEd (fun b => w.heap.size ≤ b) w' y p ∧ Below w.heap.size w w' := by
  have H := hide a
  clear a
  obtain ⟨W0, hW0⟩ : ∃ W0, W0 = (w.alloc (.cells #[.int .u8 p.kind, .slice x.pA p.path.length x.pc, .int .i64 p.at_, .int .i64 p.far, .string p.frm, .string p.to, .slice x.oA p.old.len x.oc, .slice x.nA p.new.len x.nc] 30)).alloc (.cells #[.int .u8 0, .slice none 0 0, .int .i64 0, .int .i64 0, .string ⟨#[]⟩, .string ⟨#[]⟩, .slice none 0 0, .slice none 0 0] 30) := ⟨_, rfl⟩
  have hB0 : BxL w W0 [.int .u8 p.kind, .slice x.pA p.path.length x.pc, .int .i64 p.at_, .int .i64 p.far, .string p.frm, .string p.to, .slice x.oA p.old.len x.oc, .slice x.nA p.new.len x.nc] [.int .u8 0, .slice none 0 0, .int .i64 0, .int .i64 0, .string ⟨#[]⟩, .string ⟨#[]⟩, .slice none 0 0, .slice none 0 0] := by rw [hW0]; exact BxL.start w #[.int .u8 p.kind, .slice x.pA p.path.length x.pc, .int .i64 p.at_, .int .i64 p.far, .string p.frm, .string p.to, .slice x.oA p.old.len x.oc, .slice x.nA p.new.len x.nc] #[.int .u8 0, .slice none 0 0, .int .i64 0, .int .i64 0, .string ⟨#[]⟩, .string ⟨#[]⟩, .slice none 0 0, .slice none 0 0] _ _
  have HW0 := hide hW0
  clear hW0
  go_enter Tryz.func27, Tryz.ntmps27
  go_upto_region 1 with fail
  change Code.wp _ _ _ _ ((w.alloc (.cells #[.int .u8 p.kind, .slice x.pA p.path.length x.pc, .int .i64 p.at_, .int .i64 p.far, .string p.frm, .string p.to, .slice x.oA p.old.len x.oc, .slice x.nA p.new.len x.nc] 30)).alloc (.cells #[.int .u8 0, .slice none 0 0, .int .i64 0, .int .i64 0, .string ⟨#[]⟩, .string ⟨#[]⟩, .slice none 0 0, .slice none 0 0] 30))
  rw [← HW0.out]
  clear HW0
  have b0 := hB0.c 0 _ rfl
  have b1 := hB0.c 1 _ rfl
  have b2 := hB0.c 2 _ rfl
  have b3 := hB0.c 3 _ rfl
  have b4 := hB0.c 4 _ rfl
  have b5 := hB0.c 5 _ rfl
  have b6 := hB0.c 6 _ rfl
  have b7 := hB0.c 7 _ rfl
  have HB0 := hide hB0
  clear hB0
  go_cut [] (fun wx => ∃ A1 c1, BxL w wx [.int .u8 p.kind, .slice A1 p.path.length c1, .int .i64 p.at_, .int .i64 p.far, .string p.frm, .string p.to, .slice x.oA p.old.len x.oc, .slice x.nA p.new.len x.nc] [.int .u8 0, .slice none 0 0, .int .i64 0, .int .i64 0, .string ⟨#[]⟩, .string ⟨#[]⟩, .slice none 0 0, .slice none 0 0] ∧ LentInts (fun b => w.heap.size + 2 ≤ b) wx A1 c1 p.path)
  case first =>
    go_wp2_with (go_at_call 48; (with_reducible refine (lentInts_any (H.out.path.below HB0.out.b) h1).mono ?_); rintro e1 w1 ⟨A1, c1, rfl, hL, hB⟩; have hC := HB0.out.call hB; have hz := hC.z; have d0 := hC.c 0 _ rfl; have d1 := hC.c 1 _ rfl; have d2 := hC.c 2 _ rfl; have d3 := hC.c 3 _ rfl; have d4 := hC.c 4 _ rfl; have d5 := hC.c 5 _ rfl; have d6 := hC.c 6 _ rfl; have d7 := hC.c 7 _ rfl; have hf := hC.fc; have HC := hide hC; have HL := hide hL; have HBB := hide hB; clear hC hL hB)
    go_meet
    exact ⟨_, _, HC.out.put 1 [.slice A1 p.path.length c1] (by simp), ((HL.out.mono (S' := fun b => w.heap.size + 2 ≤ b) (fun b hb => Nat.le_trans HB0.out.z hb)).keep fun b hb => heap_setCellsL w.heap.size (by omega) [.slice A1 p.path.length c1] 1 w1)⟩
  case rest =>
  obtain ⟨A1, c1, hB1, hl⟩ := hcut
  clear HB0 b0 b1 b2 b3 b4 b5 b6 b7
  have Hhl := hide hl
  clear hl
  go_upto_region 2 with fail
  have hl := Hhl.out
  clear Hhl
  have b0 := hB1.c 0 _ rfl
  have b1 := hB1.c 1 _ rfl
  have b2 := hB1.c 2 _ rfl
  have b3 := hB1.c 3 _ rfl
  have b4 := hB1.c 4 _ rfl
  have b5 := hB1.c 5 _ rfl
  have b6 := hB1.c 6 _ rfl
  have b7 := hB1.c 7 _ rfl
  have HB1 := hide hB1
  clear hB1
  go_cut [] (fun wx => ∃ A2 c2, BxL w wx [.int .u8 p.kind, .slice A1 p.path.length c1, .int .i64 p.at_, .int .i64 p.far, .string p.frm, .string p.to, .slice A2 p.old.len c2, .slice x.nA p.new.len x.nc] [.int .u8 0, .slice none 0 0, .int .i64 0, .int .i64 0, .string ⟨#[]⟩, .string ⟨#[]⟩, .slice none 0 0, .slice none 0 0] ∧ LentInts (fun b => w.heap.size + 2 ≤ b) wx A1 c1 p.path ∧ LentFo (fun b => w.heap.size + 2 ≤ b) wx A2 c2 p.old)
  case first =>
    go_wp2_with (go_at_call 49; (with_reducible refine (lentNodes_any (H.out.old.below HB1.out.b) h2).mono ?_); rintro e1 w1 ⟨A2, c2, rfl, hL, hB⟩; have hC := HB1.out.call hB; have hz := hC.z; have d0 := hC.c 0 _ rfl; have d1 := hC.c 1 _ rfl; have d2 := hC.c 2 _ rfl; have d3 := hC.c 3 _ rfl; have d4 := hC.c 4 _ rfl; have d5 := hC.c 5 _ rfl; have d6 := hC.c 6 _ rfl; have d7 := hC.c 7 _ rfl; have hf := hC.fc; have HC := hide hC; have HL := hide hL; have HBB := hide hB; clear hC hL hB)
    go_meet
    exact ⟨_, _, HC.out.put 6 [.slice A2 p.old.len c2] (by simp), ((hl.below HBB.out).keep fun b hb => heap_setCellsL w.heap.size (by omega) [.slice A2 p.old.len c2] 6 w1), ((HL.out.mono (S' := fun b => w.heap.size + 2 ≤ b) (fun b hb => Nat.le_trans HB1.out.z hb)).keep fun b hb => heap_setCellsL w.heap.size (by omega) [.slice A2 p.old.len c2] 6 w1)⟩
  case rest =>
  obtain ⟨A2, c2, hB2, hl, hm⟩ := hcut
  clear HB1 b0 b1 b2 b3 b4 b5 b6 b7
  have Hhl := hide hl
  clear hl
  have Hhm := hide hm
  clear hm
  go_upto_region 3 with fail
  have hl := Hhl.out
  clear Hhl
  have hm := Hhm.out
  clear Hhm
  have b0 := hB2.c 0 _ rfl
  have b1 := hB2.c 1 _ rfl
  have b2 := hB2.c 2 _ rfl
  have b3 := hB2.c 3 _ rfl
  have b4 := hB2.c 4 _ rfl
  have b5 := hB2.c 5 _ rfl
  have b6 := hB2.c 6 _ rfl
  have b7 := hB2.c 7 _ rfl
  have HB2 := hide hB2
  clear hB2
  go_cut [] (fun wx => ∃ A3 c3, BxL w wx [.int .u8 p.kind, .slice A1 p.path.length c1, .int .i64 p.at_, .int .i64 p.far, .string p.frm, .string p.to, .slice A2 p.old.len c2, .slice A3 p.new.len c3] [.int .u8 0, .slice none 0 0, .int .i64 0, .int .i64 0, .string ⟨#[]⟩, .string ⟨#[]⟩, .slice none 0 0, .slice none 0 0] ∧ LentInts (fun b => w.heap.size + 2 ≤ b) wx A1 c1 p.path ∧ LentFo (fun b => w.heap.size + 2 ≤ b) wx A2 c2 p.old ∧ LentFo (fun b => w.heap.size + 2 ≤ b) wx A3 c3 p.new)
  case first =>
    go_wp2_with (go_at_call 49; (with_reducible refine (lentNodes_any (H.out.new.below HB2.out.b) h3).mono ?_); rintro e1 w1 ⟨A3, c3, rfl, hL, hB⟩; have hC := HB2.out.call hB; have hz := hC.z; have d0 := hC.c 0 _ rfl; have d1 := hC.c 1 _ rfl; have d2 := hC.c 2 _ rfl; have d3 := hC.c 3 _ rfl; have d4 := hC.c 4 _ rfl; have d5 := hC.c 5 _ rfl; have d6 := hC.c 6 _ rfl; have d7 := hC.c 7 _ rfl; have hf := hC.fc; have HC := hide hC; have HL := hide hL; have HBB := hide hB; clear hC hL hB)
    go_meet
    exact ⟨_, _, HC.out.put 7 [.slice A3 p.new.len c3] (by simp), ((hl.below HBB.out).keep fun b hb => heap_setCellsL w.heap.size (by omega) [.slice A3 p.new.len c3] 7 w1), ((hm.below HBB.out).keep fun b hb => heap_setCellsL w.heap.size (by omega) [.slice A3 p.new.len c3] 7 w1), ((HL.out.mono (S' := fun b => w.heap.size + 2 ≤ b) (fun b hb => Nat.le_trans HB2.out.z hb)).keep fun b hb => heap_setCellsL w.heap.size (by omega) [.slice A3 p.new.len c3] 7 w1)⟩
  case rest =>
  obtain ⟨A3, c3, hB3, hl, hm, hn⟩ := hcut
  clear HB2 b0 b1 b2 b3 b4 b5 b6 b7
  have Hhl := hide hl
  clear hl
  have Hhm := hide hm
  clear hm
  have Hhn := hide hn
  clear hn
  go_upto_region 4 with fail
  have hl := Hhl.out
  clear Hhl
  have hm := Hhm.out
  clear Hhm
  have hn := Hhn.out
  clear Hhn
  have b0 := hB3.c 0 _ rfl
  have b1 := hB3.c 1 _ rfl
  have b2 := hB3.c 2 _ rfl
  have b3 := hB3.c 3 _ rfl
  have b4 := hB3.c 4 _ rfl
  have b5 := hB3.c 5 _ rfl
  have b6 := hB3.c 6 _ rfl
  have b7 := hB3.c 7 _ rfl
  have r0 := hB3.r 0 _ rfl
  have r1 := hB3.r 1 _ rfl
  have r2 := hB3.r 2 _ rfl
  have r3 := hB3.r 3 _ rfl
  have r4 := hB3.r 4 _ rfl
  have r5 := hB3.r 5 _ rfl
  have r6 := hB3.r 6 _ rfl
  have r7 := hB3.r 7 _ rfl
  have hfr := hB3.fr
  obtain ⟨hR, hBe⟩ := hB3.res [.int .u8 p.kind, .slice A1 p.path.length c1, .int .i64 p.at_, .int .i64 p.far, .string p.frm, .string p.to, .slice A2 p.old.len c2, .slice A3 p.new.len c3] rfl
  have hz := hB3.z
  have hlr := (hl.keep (w' := World.setCells wc (w.heap.size + 1) 0 [.int .u8 p.kind, .slice A1 p.path.length c1, .int .i64 p.at_, .int .i64 p.far, .string p.frm, .string p.to, .slice A2 p.old.len c2, .slice A3 p.new.len c3]) fun b hb => heap_setCellsL (w.heap.size + 1) (by omega) _ _ _)
  have Hhl := hide hlr
  clear hl hlr
  have hmr := (hm.keep (w' := World.setCells wc (w.heap.size + 1) 0 [.int .u8 p.kind, .slice A1 p.path.length c1, .int .i64 p.at_, .int .i64 p.far, .string p.frm, .string p.to, .slice A2 p.old.len c2, .slice A3 p.new.len c3]) fun b hb => heap_setCellsL (w.heap.size + 1) (by omega) _ _ _)
  have Hhm := hide hmr
  clear hm hmr
  have hnr := (hn.keep (w' := World.setCells wc (w.heap.size + 1) 0 [.int .u8 p.kind, .slice A1 p.path.length c1, .int .i64 p.at_, .int .i64 p.far, .string p.frm, .string p.to, .slice A2 p.old.len c2, .slice A3 p.new.len c3]) fun b hb => heap_setCellsL (w.heap.size + 1) (by omega) _ _ _)
  have Hhn := hide hnr
  clear hn hnr
  have HBe := hide hBe
  clear hB3 hBe
  obtain ⟨wF, hF⟩ : ∃ wF, wF = World.setCells wc (w.heap.size + 1) 0 [.int .u8 p.kind, .slice A1 p.path.length c1, .int .i64 p.at_, .int .i64 p.far, .string p.frm, .string p.to, .slice A2 p.old.len c2, .slice A3 p.new.len c3] := ⟨_, rfl⟩
  rw [← hF] at hR
  rw [← hF] at Hhl
  rw [← hF] at Hhm
  rw [← hF] at Hhn
  rw [← hF] at HBe
  simp only [World.setCells, Nat.reduceAdd] at hF
  have HR := hide hR
  have HF := hide hF
  clear hR hF
  go_wp2_with fail
  rw [← HF.out]
  clear HF
  have q0 := HR.out 0 _ rfl
  have q1 := HR.out 1 _ rfl
  have q2 := HR.out 2 _ rfl
  have q3 := HR.out 3 _ rfl
  have q4 := HR.out 4 _ rfl
  have q5 := HR.out 5 _ rfl
  have q6 := HR.out 6 _ rfl
  have q7 := HR.out 7 _ rfl
  refine bodyPost_ret (v := .agg #[.int .u8 p.kind, .slice A1 p.path.length c1, .int .i64 p.at_, .int .i64 p.far, .string p.frm, .string p.to, .slice A2 p.old.len c2, .slice A3 p.new.len c3]) ?_ rfl ⟨⟨A1, c1, A2, c2, A3, c3⟩, rfl, ⟨H.out.kind, Hhl.mono fun b hb => by omega, H.out.at_, H.out.far, H.out.frm, H.out.to, Hhm.mono fun b hb => by omega, Hhn.mono fun b hb => by omega⟩, HBe⟩
  simp only [results, Tryz.results27]
  go_simp

end Go.Proofs.YtfhfkbdaglegpaaGreatDoor

namespace Go.Proofs.YtfhfkbdaglegpaaGreatDoor
open Go.RowKit

set_option maxHeartbeats 4000000 in
set_option maxRecDepth 100000 in
theorem lentPatch_any {S : Nat → Prop} {x : Ph} {p : Pt} {w : World} (a : PtIn S w x p) (h1 : p.hunk.old.length ≤ 1099511627776) (h2 : p.hunk.new.length ≤ 1099511627776) (h3 : p.edit.path.length ≤ 1099511627776) (h4 : p.edit.old.cnt ≤ 1099511627776) (h5 : p.edit.new.cnt ≤ 1099511627776) :
    Calls Tryz.prog 8 #[.agg #[.int .u8 p.kind, .string p.file, .string p.text, .int .i64 p.hunk.at_, .slice x.h.oA p.hunk.old.length x.h.oc, .slice x.h.nA p.hunk.new.length x.h.nc, .int .u8 p.edit.kind, .slice x.e.pA p.edit.path.length x.e.pc, .int .i64 p.edit.at_, .int .i64 p.edit.far, .string p.edit.frm, .string p.edit.to, .slice x.e.oA p.edit.old.len x.e.oc, .slice x.e.nA p.edit.new.len x.e.nc]] w fun e w' => ∃ y : Ph, e = .returned (.agg #[.int .u8 p.kind, .string p.file, .string p.text, .int .i64 p.hunk.at_, .slice y.h.oA p.hunk.old.length y.h.oc, .slice y.h.nA p.hunk.new.length y.h.nc, .int .u8 p.edit.kind, .slice y.e.pA p.edit.path.length y.e.pc, .int .i64 p.edit.at_, .int .i64 p.edit.far, .string p.edit.frm, .string p.edit.to, .slice y.e.oA p.edit.old.len y.e.oc, .slice y.e.nA p.edit.new.len y.e.nc]) ∧ LentPt (fun b => w.heap.size ≤ b) w' y p ∧ Below w.heap.size w w' := by
  have H := hide a
  clear a
  obtain ⟨W0, hW0⟩ : ∃ W0, W0 = (w.alloc (.cells #[.int .u8 p.kind, .string p.file, .string p.text, .int .i64 p.hunk.at_, .slice x.h.oA p.hunk.old.length x.h.oc, .slice x.h.nA p.hunk.new.length x.h.nc, .int .u8 p.edit.kind, .slice x.e.pA p.edit.path.length x.e.pc, .int .i64 p.edit.at_, .int .i64 p.edit.far, .string p.edit.frm, .string p.edit.to, .slice x.e.oA p.edit.old.len x.e.oc, .slice x.e.nA p.edit.new.len x.e.nc] 32)).alloc (.cells #[.int .u8 0, .string ⟨#[]⟩, .string ⟨#[]⟩, .int .i64 0, .slice none 0 0, .slice none 0 0, .int .u8 0, .slice none 0 0, .int .i64 0, .int .i64 0, .string ⟨#[]⟩, .string ⟨#[]⟩, .slice none 0 0, .slice none 0 0] 32) := ⟨_, rfl⟩
  have hB0 : BxL w W0 [.int .u8 p.kind, .string p.file, .string p.text, .int .i64 p.hunk.at_, .slice x.h.oA p.hunk.old.length x.h.oc, .slice x.h.nA p.hunk.new.length x.h.nc, .int .u8 p.edit.kind, .slice x.e.pA p.edit.path.length x.e.pc, .int .i64 p.edit.at_, .int .i64 p.edit.far, .string p.edit.frm, .string p.edit.to, .slice x.e.oA p.edit.old.len x.e.oc, .slice x.e.nA p.edit.new.len x.e.nc] [.int .u8 0, .string ⟨#[]⟩, .string ⟨#[]⟩, .int .i64 0, .slice none 0 0, .slice none 0 0, .int .u8 0, .slice none 0 0, .int .i64 0, .int .i64 0, .string ⟨#[]⟩, .string ⟨#[]⟩, .slice none 0 0, .slice none 0 0] := by rw [hW0]; exact BxL.start w #[.int .u8 p.kind, .string p.file, .string p.text, .int .i64 p.hunk.at_, .slice x.h.oA p.hunk.old.length x.h.oc, .slice x.h.nA p.hunk.new.length x.h.nc, .int .u8 p.edit.kind, .slice x.e.pA p.edit.path.length x.e.pc, .int .i64 p.edit.at_, .int .i64 p.edit.far, .string p.edit.frm, .string p.edit.to, .slice x.e.oA p.edit.old.len x.e.oc, .slice x.e.nA p.edit.new.len x.e.nc] #[.int .u8 0, .string ⟨#[]⟩, .string ⟨#[]⟩, .int .i64 0, .slice none 0 0, .slice none 0 0, .int .u8 0, .slice none 0 0, .int .i64 0, .int .i64 0, .string ⟨#[]⟩, .string ⟨#[]⟩, .slice none 0 0, .slice none 0 0] _ _
  have HW0 := hide hW0
  clear hW0
  go_enter Tryz.func8, Tryz.ntmps8
  go_upto_region 1 with fail
  change Code.wp _ _ _ _ ((w.alloc (.cells #[.int .u8 p.kind, .string p.file, .string p.text, .int .i64 p.hunk.at_, .slice x.h.oA p.hunk.old.length x.h.oc, .slice x.h.nA p.hunk.new.length x.h.nc, .int .u8 p.edit.kind, .slice x.e.pA p.edit.path.length x.e.pc, .int .i64 p.edit.at_, .int .i64 p.edit.far, .string p.edit.frm, .string p.edit.to, .slice x.e.oA p.edit.old.len x.e.oc, .slice x.e.nA p.edit.new.len x.e.nc] 32)).alloc (.cells #[.int .u8 0, .string ⟨#[]⟩, .string ⟨#[]⟩, .int .i64 0, .slice none 0 0, .slice none 0 0, .int .u8 0, .slice none 0 0, .int .i64 0, .int .i64 0, .string ⟨#[]⟩, .string ⟨#[]⟩, .slice none 0 0, .slice none 0 0] 32))
  rw [← HW0.out]
  clear HW0
  have b0 := hB0.c 0 _ rfl
  have b1 := hB0.c 1 _ rfl
  have b2 := hB0.c 2 _ rfl
  have b3 := hB0.c 3 _ rfl
  have b4 := hB0.c 4 _ rfl
  have b5 := hB0.c 5 _ rfl
  have b6 := hB0.c 6 _ rfl
  have b7 := hB0.c 7 _ rfl
  have b8 := hB0.c 8 _ rfl
  have b9 := hB0.c 9 _ rfl
  have b10 := hB0.c 10 _ rfl
  have b11 := hB0.c 11 _ rfl
  have b12 := hB0.c 12 _ rfl
  have b13 := hB0.c 13 _ rfl
  have HB0 := hide hB0
  clear hB0
  go_cut [] (fun wx => ∃ y1, BxL w wx [.int .u8 p.kind, .string p.file, .string p.text, .int .i64 p.hunk.at_, .slice y1.oA p.hunk.old.length y1.oc, .slice y1.nA p.hunk.new.length y1.nc, .int .u8 p.edit.kind, .slice x.e.pA p.edit.path.length x.e.pc, .int .i64 p.edit.at_, .int .i64 p.edit.far, .string p.edit.frm, .string p.edit.to, .slice x.e.oA p.edit.old.len x.e.oc, .slice x.e.nA p.edit.new.len x.e.nc] [.int .u8 0, .string ⟨#[]⟩, .string ⟨#[]⟩, .int .i64 0, .slice none 0 0, .slice none 0 0, .int .u8 0, .slice none 0 0, .int .i64 0, .int .i64 0, .string ⟨#[]⟩, .string ⟨#[]⟩, .slice none 0 0, .slice none 0 0] ∧ LentHk (fun b => w.heap.size + 2 ≤ b) wx y1 p.hunk)
  case first =>
    go_wp2_with (go_at_call 26; (with_reducible refine (lentHunk_any (H.out.hunk.below HB0.out.b) h1 h2).mono ?_); rintro e1 w1 ⟨y1, rfl, hL, hB⟩; have hC := HB0.out.call hB; have hz := hC.z; have d0 := hC.c 0 _ rfl; have d1 := hC.c 1 _ rfl; have d2 := hC.c 2 _ rfl; have d3 := hC.c 3 _ rfl; have d4 := hC.c 4 _ rfl; have d5 := hC.c 5 _ rfl; have d6 := hC.c 6 _ rfl; have d7 := hC.c 7 _ rfl; have d8 := hC.c 8 _ rfl; have d9 := hC.c 9 _ rfl; have d10 := hC.c 10 _ rfl; have d11 := hC.c 11 _ rfl; have d12 := hC.c 12 _ rfl; have d13 := hC.c 13 _ rfl; have hf := hC.fc; have HC := hide hC; have HL := hide hL; have HBB := hide hB; clear hC hL hB)
    go_meet
    exact ⟨_, HC.out.put 3 [.int .i64 p.hunk.at_, .slice y1.oA p.hunk.old.length y1.oc, .slice y1.nA p.hunk.new.length y1.nc] (by simp), ((HL.out.mono (S' := fun b => w.heap.size + 2 ≤ b) (fun b hb => Nat.le_trans HB0.out.z hb)).keep fun b hb => heap_setCellsL w.heap.size (by omega) [.int .i64 p.hunk.at_, .slice y1.oA p.hunk.old.length y1.oc, .slice y1.nA p.hunk.new.length y1.nc] 3 w1)⟩
  case rest =>
  obtain ⟨y1, hB1, hl⟩ := hcut
  clear HB0 b0 b1 b2 b3 b4 b5 b6 b7 b8 b9 b10 b11 b12 b13
  have Hhl := hide hl
  clear hl
  go_upto_region 2 with fail
  have hl := Hhl.out
  clear Hhl
  have b0 := hB1.c 0 _ rfl
  have b1 := hB1.c 1 _ rfl
  have b2 := hB1.c 2 _ rfl
  have b3 := hB1.c 3 _ rfl
  have b4 := hB1.c 4 _ rfl
  have b5 := hB1.c 5 _ rfl
  have b6 := hB1.c 6 _ rfl
  have b7 := hB1.c 7 _ rfl
  have b8 := hB1.c 8 _ rfl
  have b9 := hB1.c 9 _ rfl
  have b10 := hB1.c 10 _ rfl
  have b11 := hB1.c 11 _ rfl
  have b12 := hB1.c 12 _ rfl
  have b13 := hB1.c 13 _ rfl
  have HB1 := hide hB1
  clear hB1
  go_cut [] (fun wx => ∃ y2, BxL w wx [.int .u8 p.kind, .string p.file, .string p.text, .int .i64 p.hunk.at_, .slice y1.oA p.hunk.old.length y1.oc, .slice y1.nA p.hunk.new.length y1.nc, .int .u8 p.edit.kind, .slice y2.pA p.edit.path.length y2.pc, .int .i64 p.edit.at_, .int .i64 p.edit.far, .string p.edit.frm, .string p.edit.to, .slice y2.oA p.edit.old.len y2.oc, .slice y2.nA p.edit.new.len y2.nc] [.int .u8 0, .string ⟨#[]⟩, .string ⟨#[]⟩, .int .i64 0, .slice none 0 0, .slice none 0 0, .int .u8 0, .slice none 0 0, .int .i64 0, .int .i64 0, .string ⟨#[]⟩, .string ⟨#[]⟩, .slice none 0 0, .slice none 0 0] ∧ LentHk (fun b => w.heap.size + 2 ≤ b) wx y1 p.hunk ∧ LentEd (fun b => w.heap.size + 2 ≤ b) wx y2 p.edit)
  case first =>
    go_wp2_with (go_at_call 27; (with_reducible refine (lentEdit_any (H.out.edit.below HB1.out.b) h3 h4 h5).mono ?_); rintro e1 w1 ⟨y2, rfl, hL, hB⟩; have hC := HB1.out.call hB; have hz := hC.z; have d0 := hC.c 0 _ rfl; have d1 := hC.c 1 _ rfl; have d2 := hC.c 2 _ rfl; have d3 := hC.c 3 _ rfl; have d4 := hC.c 4 _ rfl; have d5 := hC.c 5 _ rfl; have d6 := hC.c 6 _ rfl; have d7 := hC.c 7 _ rfl; have d8 := hC.c 8 _ rfl; have d9 := hC.c 9 _ rfl; have d10 := hC.c 10 _ rfl; have d11 := hC.c 11 _ rfl; have d12 := hC.c 12 _ rfl; have d13 := hC.c 13 _ rfl; have hf := hC.fc; have HC := hide hC; have HL := hide hL; have HBB := hide hB; clear hC hL hB)
    go_meet
    exact ⟨_, HC.out.put 6 [.int .u8 p.edit.kind, .slice y2.pA p.edit.path.length y2.pc, .int .i64 p.edit.at_, .int .i64 p.edit.far, .string p.edit.frm, .string p.edit.to, .slice y2.oA p.edit.old.len y2.oc, .slice y2.nA p.edit.new.len y2.nc] (by simp), ((hl.below HBB.out).keep fun b hb => heap_setCellsL w.heap.size (by omega) [.int .u8 p.edit.kind, .slice y2.pA p.edit.path.length y2.pc, .int .i64 p.edit.at_, .int .i64 p.edit.far, .string p.edit.frm, .string p.edit.to, .slice y2.oA p.edit.old.len y2.oc, .slice y2.nA p.edit.new.len y2.nc] 6 w1), ((HL.out.mono (S' := fun b => w.heap.size + 2 ≤ b) (fun b hb => Nat.le_trans HB1.out.z hb)).keep fun b hb => heap_setCellsL w.heap.size (by omega) [.int .u8 p.edit.kind, .slice y2.pA p.edit.path.length y2.pc, .int .i64 p.edit.at_, .int .i64 p.edit.far, .string p.edit.frm, .string p.edit.to, .slice y2.oA p.edit.old.len y2.oc, .slice y2.nA p.edit.new.len y2.nc] 6 w1)⟩
  case rest =>
  obtain ⟨y2, hB2, hl, hm⟩ := hcut
  clear HB1 b0 b1 b2 b3 b4 b5 b6 b7 b8 b9 b10 b11 b12 b13
  have Hhl := hide hl
  clear hl
  have Hhm := hide hm
  clear hm
  go_upto_region 3 with fail
  have hl := Hhl.out
  clear Hhl
  have hm := Hhm.out
  clear Hhm
  have b0 := hB2.c 0 _ rfl
  have b1 := hB2.c 1 _ rfl
  have b2 := hB2.c 2 _ rfl
  have b3 := hB2.c 3 _ rfl
  have b4 := hB2.c 4 _ rfl
  have b5 := hB2.c 5 _ rfl
  have b6 := hB2.c 6 _ rfl
  have b7 := hB2.c 7 _ rfl
  have b8 := hB2.c 8 _ rfl
  have b9 := hB2.c 9 _ rfl
  have b10 := hB2.c 10 _ rfl
  have b11 := hB2.c 11 _ rfl
  have b12 := hB2.c 12 _ rfl
  have b13 := hB2.c 13 _ rfl
  have r0 := hB2.r 0 _ rfl
  have r1 := hB2.r 1 _ rfl
  have r2 := hB2.r 2 _ rfl
  have r3 := hB2.r 3 _ rfl
  have r4 := hB2.r 4 _ rfl
  have r5 := hB2.r 5 _ rfl
  have r6 := hB2.r 6 _ rfl
  have r7 := hB2.r 7 _ rfl
  have r8 := hB2.r 8 _ rfl
  have r9 := hB2.r 9 _ rfl
  have r10 := hB2.r 10 _ rfl
  have r11 := hB2.r 11 _ rfl
  have r12 := hB2.r 12 _ rfl
  have r13 := hB2.r 13 _ rfl
  have hfr := hB2.fr
  obtain ⟨hR, hBe⟩ := hB2.res [.int .u8 p.kind, .string p.file, .string p.text, .int .i64 p.hunk.at_, .slice y1.oA p.hunk.old.length y1.oc, .slice y1.nA p.hunk.new.length y1.nc, .int .u8 p.edit.kind, .slice y2.pA p.edit.path.length y2.pc, .int .i64 p.edit.at_, .int .i64 p.edit.far, .string p.edit.frm, .string p.edit.to, .slice y2.oA p.edit.old.len y2.oc, .slice y2.nA p.edit.new.len y2.nc] rfl
  have hz := hB2.z
  have hlr := (hl.keep (w' := World.setCells wc (w.heap.size + 1) 0 [.int .u8 p.kind, .string p.file, .string p.text, .int .i64 p.hunk.at_, .slice y1.oA p.hunk.old.length y1.oc, .slice y1.nA p.hunk.new.length y1.nc, .int .u8 p.edit.kind, .slice y2.pA p.edit.path.length y2.pc, .int .i64 p.edit.at_, .int .i64 p.edit.far, .string p.edit.frm, .string p.edit.to, .slice y2.oA p.edit.old.len y2.oc, .slice y2.nA p.edit.new.len y2.nc]) fun b hb => heap_setCellsL (w.heap.size + 1) (by omega) _ _ _)
  have Hhl := hide hlr
  clear hl hlr
  have hmr := (hm.keep (w' := World.setCells wc (w.heap.size + 1) 0 [.int .u8 p.kind, .string p.file, .string p.text, .int .i64 p.hunk.at_, .slice y1.oA p.hunk.old.length y1.oc, .slice y1.nA p.hunk.new.length y1.nc, .int .u8 p.edit.kind, .slice y2.pA p.edit.path.length y2.pc, .int .i64 p.edit.at_, .int .i64 p.edit.far, .string p.edit.frm, .string p.edit.to, .slice y2.oA p.edit.old.len y2.oc, .slice y2.nA p.edit.new.len y2.nc]) fun b hb => heap_setCellsL (w.heap.size + 1) (by omega) _ _ _)
  have Hhm := hide hmr
  clear hm hmr
  have HBe := hide hBe
  clear hB2 hBe
  obtain ⟨wF, hF⟩ : ∃ wF, wF = World.setCells wc (w.heap.size + 1) 0 [.int .u8 p.kind, .string p.file, .string p.text, .int .i64 p.hunk.at_, .slice y1.oA p.hunk.old.length y1.oc, .slice y1.nA p.hunk.new.length y1.nc, .int .u8 p.edit.kind, .slice y2.pA p.edit.path.length y2.pc, .int .i64 p.edit.at_, .int .i64 p.edit.far, .string p.edit.frm, .string p.edit.to, .slice y2.oA p.edit.old.len y2.oc, .slice y2.nA p.edit.new.len y2.nc] := ⟨_, rfl⟩
  rw [← hF] at hR
  rw [← hF] at Hhl
  rw [← hF] at Hhm
  rw [← hF] at HBe
  simp only [World.setCells, Nat.reduceAdd] at hF
  have HR := hide hR
  have HF := hide hF
  clear hR hF
  go_wp2_with fail
  rw [← HF.out]
  clear HF
  have q0 := HR.out 0 _ rfl
  have q1 := HR.out 1 _ rfl
  have q2 := HR.out 2 _ rfl
  have q3 := HR.out 3 _ rfl
  have q4 := HR.out 4 _ rfl
  have q5 := HR.out 5 _ rfl
  have q6 := HR.out 6 _ rfl
  have q7 := HR.out 7 _ rfl
  have q8 := HR.out 8 _ rfl
  have q9 := HR.out 9 _ rfl
  have q10 := HR.out 10 _ rfl
  have q11 := HR.out 11 _ rfl
  have q12 := HR.out 12 _ rfl
  have q13 := HR.out 13 _ rfl
  refine bodyPost_ret (v := .agg #[.int .u8 p.kind, .string p.file, .string p.text, .int .i64 p.hunk.at_, .slice y1.oA p.hunk.old.length y1.oc, .slice y1.nA p.hunk.new.length y1.nc, .int .u8 p.edit.kind, .slice y2.pA p.edit.path.length y2.pc, .int .i64 p.edit.at_, .int .i64 p.edit.far, .string p.edit.frm, .string p.edit.to, .slice y2.oA p.edit.old.len y2.oc, .slice y2.nA p.edit.new.len y2.nc]) ?_ rfl ⟨⟨y1, y2⟩, rfl, ⟨H.out.kind, H.out.file, H.out.text, Hhl.mono fun b hb => by omega, Hhm.mono fun b hb => by omega⟩, HBe⟩
  simp only [results, Tryz.results8]
  go_simp

end Go.Proofs.YtfhfkbdaglegpaaGreatDoor
