/- Hunks and edits are lent (kit.LentHunk, kit.LentEdit). Printed by gen_lentx.py. -/
import Derived.Deep.CutBlock
import Derived.Deep.DeepCutAuto
import Derived.Test.YtadilmijppdpoaaGreatDoorTLentB
import Derived.Test.YtadilmijppdpoaaGreatDoorTBase

set_option linter.unusedVariables false
set_option linter.unusedSimpArgs false

namespace Go.Proofs.YtadilmijppdpoaaGreatDoor
open Go.RowKit

set_option maxHeartbeats 4000000 in
set_option maxRecDepth 100000 in
theorem lentHunk_any {S : Nat → Prop} {x : Hh} {h : Hk} {w : World} (a : HkIn S w x h) (h1 : h.old.length ≤ 1099511627776) (h2 : h.new.length ≤ 1099511627776) :
    Calls Tryz.prog 47 #[.agg #[.int .i64 h.at_, .slice x.oA h.old.length x.oc, .slice x.nA h.new.length x.nc]] w fun e w' => ∃ y : Hh, e = .returned (.agg #[.int .i64 h.at_, .slice y.oA h.old.length y.oc, .slice y.nA h.new.length y.nc]) ∧ LentHk (fun b => w.heap.size ≤ b) w' y h ∧ Below w.heap.size w w' := by
  have H := hide a
  have hat := hide a.at_
  clear a
  obtain ⟨W0, hW0⟩ : ∃ W0, W0 = (w.alloc (.cells #[.int .i64 h.at_, .slice x.oA h.old.length x.oc, .slice x.nA h.new.length x.nc] 30)).alloc (.cells #[.int .i64 0, .slice none 0 0, .slice none 0 0] 30) := ⟨_, rfl⟩
  have hB0 : BxL w W0 [.int .i64 h.at_, .slice x.oA h.old.length x.oc, .slice x.nA h.new.length x.nc] [.int .i64 0, .slice none 0 0, .slice none 0 0] := by rw [hW0]; exact BxL.start w #[.int .i64 h.at_, .slice x.oA h.old.length x.oc, .slice x.nA h.new.length x.nc] #[.int .i64 0, .slice none 0 0, .slice none 0 0] _ _
  have HW0 := hide hW0
  clear hW0
  go_enter Tryz.func47, Tryz.ntmps47
  go_upto_region 1 with fail
  change Code.wp _ _ _ _ ((w.alloc (.cells #[.int .i64 h.at_, .slice x.oA h.old.length x.oc, .slice x.nA h.new.length x.nc] 30)).alloc (.cells #[.int .i64 0, .slice none 0 0, .slice none 0 0] 30))
  rw [← HW0.out]
  clear HW0
  have b0 := hB0.c 0 _ rfl
  have b1 := hB0.c 1 _ rfl
  have b2 := hB0.c 2 _ rfl
  have HB0 := hide hB0
  clear hB0
  go_cut [] (fun wx => ∃ A1 c1, BxL w wx [.int .i64 h.at_, .slice A1 h.old.length c1, .slice x.nA h.new.length x.nc] [.int .i64 0, .slice none 0 0, .slice none 0 0] ∧ LentStrs (fun b => w.heap.size + 2 ≤ b) wx A1 c1 h.old)
  case first =>
    go_wp2_with (go_at_call 77; (with_reducible refine (lentTexts_any (H.out.old.below HB0.out.b) h1).mono ?_); rintro e1 w1 ⟨A1, c1, rfl, hL, hB⟩; have hC := HB0.out.call hB; have hz := hC.z; have d0 := hC.c 0 _ rfl; have d1 := hC.c 1 _ rfl; have d2 := hC.c 2 _ rfl; have hf := hC.fc; have HC := hide hC; have HL := hide hL; have HBB := hide hB; clear hC hL hB)
    go_meet
    exact ⟨_, _, HC.out.put 1 [.slice A1 h.old.length c1] (by simp), ((HL.out.mono (S' := fun b => w.heap.size + 2 ≤ b) (fun b hb => Nat.le_trans HB0.out.z hb)).keep fun b hb => heap_setCellsL w.heap.size (by omega) [.slice A1 h.old.length c1] 1 w1)⟩
  case rest =>
  obtain ⟨A1, c1, hB1, hl⟩ := hcut
  clear HB0 b0 b1 b2
  have Hhl := hide hl
  clear hl
  go_upto_region 2 with fail
  have hl := Hhl.out
  clear Hhl
  have b0 := hB1.c 0 _ rfl
  have b1 := hB1.c 1 _ rfl
  have b2 := hB1.c 2 _ rfl
  have HB1 := hide hB1
  clear hB1
  go_cut [] (fun wx => ∃ A2 c2, BxL w wx [.int .i64 h.at_, .slice A1 h.old.length c1, .slice A2 h.new.length c2] [.int .i64 0, .slice none 0 0, .slice none 0 0] ∧ LentStrs (fun b => w.heap.size + 2 ≤ b) wx A1 c1 h.old ∧ LentStrs (fun b => w.heap.size + 2 ≤ b) wx A2 c2 h.new)
  case first =>
    go_wp2_with (go_at_call 77; (with_reducible refine (lentTexts_any (H.out.new.below HB1.out.b) h2).mono ?_); rintro e1 w1 ⟨A2, c2, rfl, hL, hB⟩; have hC := HB1.out.call hB; have hz := hC.z; have d0 := hC.c 0 _ rfl; have d1 := hC.c 1 _ rfl; have d2 := hC.c 2 _ rfl; have hf := hC.fc; have HC := hide hC; have HL := hide hL; have HBB := hide hB; clear hC hL hB)
    go_meet
    exact ⟨_, _, HC.out.put 2 [.slice A2 h.new.length c2] (by simp), ((hl.below HBB.out).keep fun b hb => heap_setCellsL w.heap.size (by omega) [.slice A2 h.new.length c2] 2 w1), ((HL.out.mono (S' := fun b => w.heap.size + 2 ≤ b) (fun b hb => Nat.le_trans HB1.out.z hb)).keep fun b hb => heap_setCellsL w.heap.size (by omega) [.slice A2 h.new.length c2] 2 w1)⟩
  case rest =>
  obtain ⟨A2, c2, hB2, hl, hm⟩ := hcut
  clear HB1 b0 b1 b2
  have Hhl := hide hl
  clear hl
  have Hhm := hide hm
  clear hm
  go_upto_region 3 with fail
  have hl := Hhl.out
  clear Hhl
  have hm := Hhm.out
  clear Hhm
  have b0 := hB2.c 0 _ rfl
  have b1 := hB2.c 1 _ rfl
  have b2 := hB2.c 2 _ rfl
  have r0 := hB2.r 0 _ rfl
  have r1 := hB2.r 1 _ rfl
  have r2 := hB2.r 2 _ rfl
  have hfr := hB2.fr
  obtain ⟨hR, hBe⟩ := hB2.res [.int .i64 h.at_, .slice A1 h.old.length c1, .slice A2 h.new.length c2] rfl
  have hz := hB2.z
  have hlr := (hl.keep (w' := World.setCells wc (w.heap.size + 1) 0 [.int .i64 h.at_, .slice A1 h.old.length c1, .slice A2 h.new.length c2]) fun b hb => heap_setCellsL (w.heap.size + 1) (by omega) _ _ _)
  have Hhl := hide hlr
  clear hl hlr
  have hmr := (hm.keep (w' := World.setCells wc (w.heap.size + 1) 0 [.int .i64 h.at_, .slice A1 h.old.length c1, .slice A2 h.new.length c2]) fun b hb => heap_setCellsL (w.heap.size + 1) (by omega) _ _ _)
  have Hhm := hide hmr
  clear hm hmr
  have HBe := hide hBe
  clear hB2 hBe
  obtain ⟨wF, hF⟩ : ∃ wF, wF = World.setCells wc (w.heap.size + 1) 0 [.int .i64 h.at_, .slice A1 h.old.length c1, .slice A2 h.new.length c2] := ⟨_, rfl⟩
  rw [← hF] at hR
  rw [← hF] at Hhl
  rw [← hF] at Hhm
  rw [← hF] at HBe
  simp only [World.setCells, Nat.reduceAdd] at hF
  have HR := hide hR
  have HF := hide hF
  clear hR hF
  go_wp2_with fail
  rw [← HF.out]
  clear HF
  have q0 := HR.out 0 _ rfl
  have q1 := HR.out 1 _ rfl
  have q2 := HR.out 2 _ rfl
  refine bodyPost_ret (v := .agg #[.int .i64 h.at_, .slice A1 h.old.length c1, .slice A2 h.new.length c2]) ?_ rfl ⟨⟨A1, c1, A2, c2⟩, rfl, ⟨hat.out, Hhl.mono fun b hb => by omega, Hhm.mono fun b hb => by omega⟩, HBe⟩
  simp only [results, Tryz.results47]
  go_simp

set_option maxHeartbeats 4000000 in
set_option maxRecDepth 100000 in
theorem lentEdit_any {S : Nat → Prop} {x : Eh} {p : Ed} {w : World} (a : EdIn S w x p) (h1 : p.path.length ≤ 1099511627776) (h2 : p.old.cnt ≤ 1099511627776) (h3 : p.new.cnt ≤ 1099511627776) :
    Calls Tryz.prog 48 #[.agg #[.int .u8 p.kind, .slice x.pA p.path.length x.pc, .int .i64 p.at_, .int .i64 p.far, .string p.frm, .string p.to, .slice x.oA p.old.len x.oc, .slice x.nA p.new.len x.nc]] w fun e w' => ∃ y : Eh, e = .returned (.agg #[.int .u8 p.kind, .slice y.pA p.path.length y.pc, .int .i64 p.at_, .int .i64 p.far, .string p.frm, .string p.to, .slice y.oA p.old.len y.oc, .slice y.nA p.new.len y.nc]) ∧ LentEd (fun b => w.heap.size ≤ b) w' y p ∧ Below w.heap.size w w' := by
  have H := hide a
  clear a
  obtain ⟨W0, hW0⟩ : ∃ W0, W0 = (w.alloc (.cells #[.int .u8 p.kind, .slice x.pA p.path.length x.pc, .int .i64 p.at_, .int .i64 p.far, .string p.frm, .string p.to, .slice x.oA p.old.len x.oc, .slice x.nA p.new.len x.nc] 35)).alloc (.cells #[.int .u8 0, .slice none 0 0, .int .i64 0, .int .i64 0, .string ⟨#[]⟩, .string ⟨#[]⟩, .slice none 0 0, .slice none 0 0] 35) := ⟨_, rfl⟩
  have hB0 : BxL w W0 [.int .u8 p.kind, .slice x.pA p.path.length x.pc, .int .i64 p.at_, .int .i64 p.far, .string p.frm, .string p.to, .slice x.oA p.old.len x.oc, .slice x.nA p.new.len x.nc] [.int .u8 0, .slice none 0 0, .int .i64 0, .int .i64 0, .string ⟨#[]⟩, .string ⟨#[]⟩, .slice none 0 0, .slice none 0 0] := by rw [hW0]; exact BxL.start w #[.int .u8 p.kind, .slice x.pA p.path.length x.pc, .int .i64 p.at_, .int .i64 p.far, .string p.frm, .string p.to, .slice x.oA p.old.len x.oc, .slice x.nA p.new.len x.nc] #[.int .u8 0, .slice none 0 0, .int .i64 0, .int .i64 0, .string ⟨#[]⟩, .string ⟨#[]⟩, .slice none 0 0, .slice none 0 0] _ _
  have HW0 := hide hW0
  clear hW0
  go_enter Tryz.func48, Tryz.ntmps48
  go_upto_region 1 with fail
  change Code.wp _ _ _ _ ((w.alloc (.cells #[.int .u8 p.kind, .slice x.pA p.path.length x.pc, .int .i64 p.at_, .int .i64 p.far, .string p.frm, .string p.to, .slice x.oA p.old.len x.oc, .slice x.nA p.new.len x.nc] 35)).alloc (.cells #[.int .u8 0, .slice none 0 0, .int .i64 0, .int .i64 0, .string ⟨#[]⟩, .string ⟨#[]⟩, .slice none 0 0, .slice none 0 0] 35))
  rw [← HW0.out]
  clear HW0
  have b0 := hB0.c 0 _ rfl
  have b1 := hB0.c 1 _ rfl
  have b2 := hB0.c 2 _ rfl
  have b3 := hB0.c 3 _ rfl
  have b4 := hB0.c 4 _ rfl
  have b5 := hB0.c 5 _ rfl
  have b6 := hB0.c 6 _ rfl
  have b7 := hB0.c 7 _ rfl
  have HB0 := hide hB0
  clear hB0
  go_cut [] (fun wx => ∃ A1 c1, BxL w wx [.int .u8 p.kind, .slice A1 p.path.length c1, .int .i64 p.at_, .int .i64 p.far, .string p.frm, .string p.to, .slice x.oA p.old.len x.oc, .slice x.nA p.new.len x.nc] [.int .u8 0, .slice none 0 0, .int .i64 0, .int .i64 0, .string ⟨#[]⟩, .string ⟨#[]⟩, .slice none 0 0, .slice none 0 0] ∧ LentInts (fun b => w.heap.size + 2 ≤ b) wx A1 c1 p.path)
  case first =>
    go_wp2_with (go_at_call 78; (with_reducible refine (lentInts_any (H.out.path.below HB0.out.b) h1).mono ?_); rintro e1 w1 ⟨A1, c1, rfl, hL, hB⟩; have hC := HB0.out.call hB; have hz := hC.z; have d0 := hC.c 0 _ rfl; have d1 := hC.c 1 _ rfl; have d2 := hC.c 2 _ rfl; have d3 := hC.c 3 _ rfl; have d4 := hC.c 4 _ rfl; have d5 := hC.c 5 _ rfl; have d6 := hC.c 6 _ rfl; have d7 := hC.c 7 _ rfl; have hf := hC.fc; have HC := hide hC; have HL := hide hL; have HBB := hide hB; clear hC hL hB)
    go_meet
    exact ⟨_, _, HC.out.put 1 [.slice A1 p.path.length c1] (by simp), ((HL.out.mono (S' := fun b => w.heap.size + 2 ≤ b) (fun b hb => Nat.le_trans HB0.out.z hb)).keep fun b hb => heap_setCellsL w.heap.size (by omega) [.slice A1 p.path.length c1] 1 w1)⟩
  case rest =>
  obtain ⟨A1, c1, hB1, hl⟩ := hcut
  clear HB0 b0 b1 b2 b3 b4 b5 b6 b7
  have Hhl := hide hl
  clear hl
  go_upto_region 2 with fail
  have hl := Hhl.out
  clear Hhl
  have b0 := hB1.c 0 _ rfl
  have b1 := hB1.c 1 _ rfl
  have b2 := hB1.c 2 _ rfl
  have b3 := hB1.c 3 _ rfl
  have b4 := hB1.c 4 _ rfl
  have b5 := hB1.c 5 _ rfl
  have b6 := hB1.c 6 _ rfl
  have b7 := hB1.c 7 _ rfl
  have HB1 := hide hB1
  clear hB1
  go_cut [] (fun wx => ∃ A2 c2, BxL w wx [.int .u8 p.kind, .slice A1 p.path.length c1, .int .i64 p.at_, .int .i64 p.far, .string p.frm, .string p.to, .slice A2 p.old.len c2, .slice x.nA p.new.len x.nc] [.int .u8 0, .slice none 0 0, .int .i64 0, .int .i64 0, .string ⟨#[]⟩, .string ⟨#[]⟩, .slice none 0 0, .slice none 0 0] ∧ LentInts (fun b => w.heap.size + 2 ≤ b) wx A1 c1 p.path ∧ LentFo (fun b => w.heap.size + 2 ≤ b) wx A2 c2 p.old)
  case first =>
    go_wp2_with (go_at_call 79; (with_reducible refine (lentNodes_any (H.out.old.below HB1.out.b) h2).mono ?_); rintro e1 w1 ⟨A2, c2, rfl, hL, hB⟩; have hC := HB1.out.call hB; have hz := hC.z; have d0 := hC.c 0 _ rfl; have d1 := hC.c 1 _ rfl; have d2 := hC.c 2 _ rfl; have d3 := hC.c 3 _ rfl; have d4 := hC.c 4 _ rfl; have d5 := hC.c 5 _ rfl; have d6 := hC.c 6 _ rfl; have d7 := hC.c 7 _ rfl; have hf := hC.fc; have HC := hide hC; have HL := hide hL; have HBB := hide hB; clear hC hL hB)
    go_meet
    exact ⟨_, _, HC.out.put 6 [.slice A2 p.old.len c2] (by simp), ((hl.below HBB.out).keep fun b hb => heap_setCellsL w.heap.size (by omega) [.slice A2 p.old.len c2] 6 w1), ((HL.out.mono (S' := fun b => w.heap.size + 2 ≤ b) (fun b hb => Nat.le_trans HB1.out.z hb)).keep fun b hb => heap_setCellsL w.heap.size (by omega) [.slice A2 p.old.len c2] 6 w1)⟩
  case rest =>
  obtain ⟨A2, c2, hB2, hl, hm⟩ := hcut
  clear HB1 b0 b1 b2 b3 b4 b5 b6 b7
  have Hhl := hide hl
  clear hl
  have Hhm := hide hm
  clear hm
  go_upto_region 3 with fail
  have hl := Hhl.out
  clear Hhl
  have hm := Hhm.out
  clear Hhm
  have b0 := hB2.c 0 _ rfl
  have b1 := hB2.c 1 _ rfl
  have b2 := hB2.c 2 _ rfl
  have b3 := hB2.c 3 _ rfl
  have b4 := hB2.c 4 _ rfl
  have b5 := hB2.c 5 _ rfl
  have b6 := hB2.c 6 _ rfl
  have b7 := hB2.c 7 _ rfl
  have HB2 := hide hB2
  clear hB2
  go_cut [] (fun wx => ∃ A3 c3, BxL w wx [.int .u8 p.kind, .slice A1 p.path.length c1, .int .i64 p.at_, .int .i64 p.far, .string p.frm, .string p.to, .slice A2 p.old.len c2, .slice A3 p.new.len c3] [.int .u8 0, .slice none 0 0, .int .i64 0, .int .i64 0, .string ⟨#[]⟩, .string ⟨#[]⟩, .slice none 0 0, .slice none 0 0] ∧ LentInts (fun b => w.heap.size + 2 ≤ b) wx A1 c1 p.path ∧ LentFo (fun b => w.heap.size + 2 ≤ b) wx A2 c2 p.old ∧ LentFo (fun b => w.heap.size + 2 ≤ b) wx A3 c3 p.new)
  case first =>
    go_wp2_with (go_at_call 79; (with_reducible refine (lentNodes_any (H.out.new.below HB2.out.b) h3).mono ?_); rintro e1 w1 ⟨A3, c3, rfl, hL, hB⟩; have hC := HB2.out.call hB; have hz := hC.z; have d0 := hC.c 0 _ rfl; have d1 := hC.c 1 _ rfl; have d2 := hC.c 2 _ rfl; have d3 := hC.c 3 _ rfl; have d4 := hC.c 4 _ rfl; have d5 := hC.c 5 _ rfl; have d6 := hC.c 6 _ rfl; have d7 := hC.c 7 _ rfl; have hf := hC.fc; have HC := hide hC; have HL := hide hL; have HBB := hide hB; clear hC hL hB)
    go_meet
    exact ⟨_, _, HC.out.put 7 [.slice A3 p.new.len c3] (by simp), ((hl.below HBB.out).keep fun b hb => heap_setCellsL w.heap.size (by omega) [.slice A3 p.new.len c3] 7 w1), ((hm.below HBB.out).keep fun b hb => heap_setCellsL w.heap.size (by omega) [.slice A3 p.new.len c3] 7 w1), ((HL.out.mono (S' := fun b => w.heap.size + 2 ≤ b) (fun b hb => Nat.le_trans HB2.out.z hb)).keep fun b hb => heap_setCellsL w.heap.size (by omega) [.slice A3 p.new.len c3] 7 w1)⟩
  case rest =>
  obtain ⟨A3, c3, hB3, hl, hm, hn⟩ := hcut
  clear HB2 b0 b1 b2 b3 b4 b5 b6 b7
  have Hhl := hide hl
  clear hl
  have Hhm := hide hm
  clear hm
  have Hhn := hide hn
  clear hn
  go_upto_region 4 with fail
  have hl := Hhl.out
  clear Hhl
  have hm := Hhm.out
  clear Hhm
  have hn := Hhn.out
  clear Hhn
  have b0 := hB3.c 0 _ rfl
  have b1 := hB3.c 1 _ rfl
  have b2 := hB3.c 2 _ rfl
  have b3 := hB3.c 3 _ rfl
  have b4 := hB3.c 4 _ rfl
  have b5 := hB3.c 5 _ rfl
  have b6 := hB3.c 6 _ rfl
  have b7 := hB3.c 7 _ rfl
  have r0 := hB3.r 0 _ rfl
  have r1 := hB3.r 1 _ rfl
  have r2 := hB3.r 2 _ rfl
  have r3 := hB3.r 3 _ rfl
  have r4 := hB3.r 4 _ rfl
  have r5 := hB3.r 5 _ rfl
  have r6 := hB3.r 6 _ rfl
  have r7 := hB3.r 7 _ rfl
  have hfr := hB3.fr
  obtain ⟨hR, hBe⟩ := hB3.res [.int .u8 p.kind, .slice A1 p.path.length c1, .int .i64 p.at_, .int .i64 p.far, .string p.frm, .string p.to, .slice A2 p.old.len c2, .slice A3 p.new.len c3] rfl
  have hz := hB3.z
  have hlr := (hl.keep (w' := World.setCells wc (w.heap.size + 1) 0 [.int .u8 p.kind, .slice A1 p.path.length c1, .int .i64 p.at_, .int .i64 p.far, .string p.frm, .string p.to, .slice A2 p.old.len c2, .slice A3 p.new.len c3]) fun b hb => heap_setCellsL (w.heap.size + 1) (by omega) _ _ _)
  have Hhl := hide hlr
  clear hl hlr
  have hmr := (hm.keep (w' := World.setCells wc (w.heap.size + 1) 0 [.int .u8 p.kind, .slice A1 p.path.length c1, .int .i64 p.at_, .int .i64 p.far, .string p.frm, .string p.to, .slice A2 p.old.len c2, .slice A3 p.new.len c3]) fun b hb => heap_setCellsL (w.heap.size + 1) (by omega) _ _ _)
  have Hhm := hide hmr
  clear hm hmr
  have hnr := (hn.keep (w' := World.setCells wc (w.heap.size + 1) 0 [.int .u8 p.kind, .slice A1 p.path.length c1, .int .i64 p.at_, .int .i64 p.far, .string p.frm, .string p.to, .slice A2 p.old.len c2, .slice A3 p.new.len c3]) fun b hb => heap_setCellsL (w.heap.size + 1) (by omega) _ _ _)
  have Hhn := hide hnr
  clear hn hnr
  have HBe := hide hBe
  clear hB3 hBe
  obtain ⟨wF, hF⟩ : ∃ wF, wF = World.setCells wc (w.heap.size + 1) 0 [.int .u8 p.kind, .slice A1 p.path.length c1, .int .i64 p.at_, .int .i64 p.far, .string p.frm, .string p.to, .slice A2 p.old.len c2, .slice A3 p.new.len c3] := ⟨_, rfl⟩
  rw [← hF] at hR
  rw [← hF] at Hhl
  rw [← hF] at Hhm
  rw [← hF] at Hhn
  rw [← hF] at HBe
  simp only [World.setCells, Nat.reduceAdd] at hF
  have HR := hide hR
  have HF := hide hF
  clear hR hF
  go_wp2_with fail
  rw [← HF.out]
  clear HF
  have q0 := HR.out 0 _ rfl
  have q1 := HR.out 1 _ rfl
  have q2 := HR.out 2 _ rfl
  have q3 := HR.out 3 _ rfl
  have q4 := HR.out 4 _ rfl
  have q5 := HR.out 5 _ rfl
  have q6 := HR.out 6 _ rfl
  have q7 := HR.out 7 _ rfl
  refine bodyPost_ret (v := .agg #[.int .u8 p.kind, .slice A1 p.path.length c1, .int .i64 p.at_, .int .i64 p.far, .string p.frm, .string p.to, .slice A2 p.old.len c2, .slice A3 p.new.len c3]) ?_ rfl ⟨⟨A1, c1, A2, c2, A3, c3⟩, rfl, ⟨H.out.kind, Hhl.mono fun b hb => by omega, H.out.at_, H.out.far, H.out.frm, H.out.to, Hhm.mono fun b hb => by omega, Hhn.mono fun b hb => by omega⟩, HBe⟩
  simp only [results, Tryz.results48]
  go_simp

end Go.Proofs.YtadilmijppdpoaaGreatDoor

namespace Go.Proofs.YtadilmijppdpoaaGreatDoor
open Go.RowKit

set_option maxHeartbeats 4000000 in
set_option maxRecDepth 100000 in
theorem lentPatch_any {S : Nat → Prop} {x : Ph} {p : Pt} {w : World} (a : PtIn S w x p) (h1 : p.hunk.old.length ≤ 1099511627776) (h2 : p.hunk.new.length ≤ 1099511627776) (h3 : p.edit.path.length ≤ 1099511627776) (h4 : p.edit.old.cnt ≤ 1099511627776) (h5 : p.edit.new.cnt ≤ 1099511627776) :
    Calls Tryz.prog 27 #[.agg #[.int .u8 p.kind, .string p.file, .string p.text, .int .i64 p.hunk.at_, .slice x.h.oA p.hunk.old.length x.h.oc, .slice x.h.nA p.hunk.new.length x.h.nc, .int .u8 p.edit.kind, .slice x.e.pA p.edit.path.length x.e.pc, .int .i64 p.edit.at_, .int .i64 p.edit.far, .string p.edit.frm, .string p.edit.to, .slice x.e.oA p.edit.old.len x.e.oc, .slice x.e.nA p.edit.new.len x.e.nc]] w fun e w' => ∃ y : Ph, e = .returned (.agg #[.int .u8 p.kind, .string p.file, .string p.text, .int .i64 p.hunk.at_, .slice y.h.oA p.hunk.old.length y.h.oc, .slice y.h.nA p.hunk.new.length y.h.nc, .int .u8 p.edit.kind, .slice y.e.pA p.edit.path.length y.e.pc, .int .i64 p.edit.at_, .int .i64 p.edit.far, .string p.edit.frm, .string p.edit.to, .slice y.e.oA p.edit.old.len y.e.oc, .slice y.e.nA p.edit.new.len y.e.nc]) ∧ LentPt (fun b => w.heap.size ≤ b) w' y p ∧ Below w.heap.size w w' := by
  have H := hide a
  clear a
  obtain ⟨W0, hW0⟩ : ∃ W0, W0 = (w.alloc (.cells #[.int .u8 p.kind, .string p.file, .string p.text, .int .i64 p.hunk.at_, .slice x.h.oA p.hunk.old.length x.h.oc, .slice x.h.nA p.hunk.new.length x.h.nc, .int .u8 p.edit.kind, .slice x.e.pA p.edit.path.length x.e.pc, .int .i64 p.edit.at_, .int .i64 p.edit.far, .string p.edit.frm, .string p.edit.to, .slice x.e.oA p.edit.old.len x.e.oc, .slice x.e.nA p.edit.new.len x.e.nc] 37)).alloc (.cells #[.int .u8 0, .string ⟨#[]⟩, .string ⟨#[]⟩, .int .i64 0, .slice none 0 0, .slice none 0 0, .int .u8 0, .slice none 0 0, .int .i64 0, .int .i64 0, .string ⟨#[]⟩, .string ⟨#[]⟩, .slice none 0 0, .slice none 0 0] 37) := ⟨_, rfl⟩
  have hB0 : BxL w W0 [.int .u8 p.kind, .string p.file, .string p.text, .int .i64 p.hunk.at_, .slice x.h.oA p.hunk.old.length x.h.oc, .slice x.h.nA p.hunk.new.length x.h.nc, .int .u8 p.edit.kind, .slice x.e.pA p.edit.path.length x.e.pc, .int .i64 p.edit.at_, .int .i64 p.edit.far, .string p.edit.frm, .string p.edit.to, .slice x.e.oA p.edit.old.len x.e.oc, .slice x.e.nA p.edit.new.len x.e.nc] [.int .u8 0, .string ⟨#[]⟩, .string ⟨#[]⟩, .int .i64 0, .slice none 0 0, .slice none 0 0, .int .u8 0, .slice none 0 0, .int .i64 0, .int .i64 0, .string ⟨#[]⟩, .string ⟨#[]⟩, .slice none 0 0, .slice none 0 0] := by rw [hW0]; exact BxL.start w #[.int .u8 p.kind, .string p.file, .string p.text, .int .i64 p.hunk.at_, .slice x.h.oA p.hunk.old.length x.h.oc, .slice x.h.nA p.hunk.new.length x.h.nc, .int .u8 p.edit.kind, .slice x.e.pA p.edit.path.length x.e.pc, .int .i64 p.edit.at_, .int .i64 p.edit.far, .string p.edit.frm, .string p.edit.to, .slice x.e.oA p.edit.old.len x.e.oc, .slice x.e.nA p.edit.new.len x.e.nc] #[.int .u8 0, .string ⟨#[]⟩, .string ⟨#[]⟩, .int .i64 0, .slice none 0 0, .slice none 0 0, .int .u8 0, .slice none 0 0, .int .i64 0, .int .i64 0, .string ⟨#[]⟩, .string ⟨#[]⟩, .slice none 0 0, .slice none 0 0] _ _
  have HW0 := hide hW0
  clear hW0
  go_enter Tryz.func27, Tryz.ntmps27
  go_upto_region 1 with fail
  change Code.wp _ _ _ _ ((w.alloc (.cells #[.int .u8 p.kind, .string p.file, .string p.text, .int .i64 p.hunk.at_, .slice x.h.oA p.hunk.old.length x.h.oc, .slice x.h.nA p.hunk.new.length x.h.nc, .int .u8 p.edit.kind, .slice x.e.pA p.edit.path.length x.e.pc, .int .i64 p.edit.at_, .int .i64 p.edit.far, .string p.edit.frm, .string p.edit.to, .slice x.e.oA p.edit.old.len x.e.oc, .slice x.e.nA p.edit.new.len x.e.nc] 37)).alloc (.cells #[.int .u8 0, .string ⟨#[]⟩, .string ⟨#[]⟩, .int .i64 0, .slice none 0 0, .slice none 0 0, .int .u8 0, .slice none 0 0, .int .i64 0, .int .i64 0, .string ⟨#[]⟩, .string ⟨#[]⟩, .slice none 0 0, .slice none 0 0] 37))
  rw [← HW0.out]
  clear HW0
  have b0 := hB0.c 0 _ rfl
  have b1 := hB0.c 1 _ rfl
  have b2 := hB0.c 2 _ rfl
  have b3 := hB0.c 3 _ rfl
  have b4 := hB0.c 4 _ rfl
  have b5 := hB0.c 5 _ rfl
  have b6 := hB0.c 6 _ rfl
  have b7 := hB0.c 7 _ rfl
  have b8 := hB0.c 8 _ rfl
  have b9 := hB0.c 9 _ rfl
  have b10 := hB0.c 10 _ rfl
  have b11 := hB0.c 11 _ rfl
  have b12 := hB0.c 12 _ rfl
  have b13 := hB0.c 13 _ rfl
  have HB0 := hide hB0
  clear hB0
  go_cut [] (fun wx => ∃ y1, BxL w wx [.int .u8 p.kind, .string p.file, .string p.text, .int .i64 p.hunk.at_, .slice y1.oA p.hunk.old.length y1.oc, .slice y1.nA p.hunk.new.length y1.nc, .int .u8 p.edit.kind, .slice x.e.pA p.edit.path.length x.e.pc, .int .i64 p.edit.at_, .int .i64 p.edit.far, .string p.edit.frm, .string p.edit.to, .slice x.e.oA p.edit.old.len x.e.oc, .slice x.e.nA p.edit.new.len x.e.nc] [.int .u8 0, .string ⟨#[]⟩, .string ⟨#[]⟩, .int .i64 0, .slice none 0 0, .slice none 0 0, .int .u8 0, .slice none 0 0, .int .i64 0, .int .i64 0, .string ⟨#[]⟩, .string ⟨#[]⟩, .slice none 0 0, .slice none 0 0] ∧ LentHk (fun b => w.heap.size + 2 ≤ b) wx y1 p.hunk)
  case first =>
    go_wp2_with (go_at_call 47; (with_reducible refine (lentHunk_any (H.out.hunk.below HB0.out.b) h1 h2).mono ?_); rintro e1 w1 ⟨y1, rfl, hL, hB⟩; have hC := HB0.out.call hB; have hz := hC.z; have d0 := hC.c 0 _ rfl; have d1 := hC.c 1 _ rfl; have d2 := hC.c 2 _ rfl; have d3 := hC.c 3 _ rfl; have d4 := hC.c 4 _ rfl; have d5 := hC.c 5 _ rfl; have d6 := hC.c 6 _ rfl; have d7 := hC.c 7 _ rfl; have d8 := hC.c 8 _ rfl; have d9 := hC.c 9 _ rfl; have d10 := hC.c 10 _ rfl; have d11 := hC.c 11 _ rfl; have d12 := hC.c 12 _ rfl; have d13 := hC.c 13 _ rfl; have hf := hC.fc; have HC := hide hC; have HL := hide hL; have HBB := hide hB; clear hC hL hB)
    go_meet
    exact ⟨_, HC.out.put 3 [.int .i64 p.hunk.at_, .slice y1.oA p.hunk.old.length y1.oc, .slice y1.nA p.hunk.new.length y1.nc] (by simp), ((HL.out.mono (S' := fun b => w.heap.size + 2 ≤ b) (fun b hb => Nat.le_trans HB0.out.z hb)).keep fun b hb => heap_setCellsL w.heap.size (by omega) [.int .i64 p.hunk.at_, .slice y1.oA p.hunk.old.length y1.oc, .slice y1.nA p.hunk.new.length y1.nc] 3 w1)⟩
  case rest =>
  obtain ⟨y1, hB1, hl⟩ := hcut
  clear HB0 b0 b1 b2 b3 b4 b5 b6 b7 b8 b9 b10 b11 b12 b13
  have Hhl := hide hl
  clear hl
  go_upto_region 2 with fail
  have hl := Hhl.out
  clear Hhl
  have b0 := hB1.c 0 _ rfl
  have b1 := hB1.c 1 _ rfl
  have b2 := hB1.c 2 _ rfl
  have b3 := hB1.c 3 _ rfl
  have b4 := hB1.c 4 _ rfl
  have b5 := hB1.c 5 _ rfl
  have b6 := hB1.c 6 _ rfl
  have b7 := hB1.c 7 _ rfl
  have b8 := hB1.c 8 _ rfl
  have b9 := hB1.c 9 _ rfl
  have b10 := hB1.c 10 _ rfl
  have b11 := hB1.c 11 _ rfl
  have b12 := hB1.c 12 _ rfl
  have b13 := hB1.c 13 _ rfl
  have HB1 := hide hB1
  clear hB1
  go_cut [] (fun wx => ∃ y2, BxL w wx [.int .u8 p.kind, .string p.file, .string p.text, .int .i64 p.hunk.at_, .slice y1.oA p.hunk.old.length y1.oc, .slice y1.nA p.hunk.new.length y1.nc, .int .u8 p.edit.kind, .slice y2.pA p.edit.path.length y2.pc, .int .i64 p.edit.at_, .int .i64 p.edit.far, .string p.edit.frm, .string p.edit.to, .slice y2.oA p.edit.old.len y2.oc, .slice y2.nA p.edit.new.len y2.nc] [.int .u8 0, .string ⟨#[]⟩, .string ⟨#[]⟩, .int .i64 0, .slice none 0 0, .slice none 0 0, .int .u8 0, .slice none 0 0, .int .i64 0, .int .i64 0, .string ⟨#[]⟩, .string ⟨#[]⟩, .slice none 0 0, .slice none 0 0] ∧ LentHk (fun b => w.heap.size + 2 ≤ b) wx y1 p.hunk ∧ LentEd (fun b => w.heap.size + 2 ≤ b) wx y2 p.edit)
  case first =>
    go_wp2_with (go_at_call 48; (with_reducible refine (lentEdit_any (H.out.edit.below HB1.out.b) h3 h4 h5).mono ?_); rintro e1 w1 ⟨y2, rfl, hL, hB⟩; have hC := HB1.out.call hB; have hz := hC.z; have d0 := hC.c 0 _ rfl; have d1 := hC.c 1 _ rfl; have d2 := hC.c 2 _ rfl; have d3 := hC.c 3 _ rfl; have d4 := hC.c 4 _ rfl; have d5 := hC.c 5 _ rfl; have d6 := hC.c 6 _ rfl; have d7 := hC.c 7 _ rfl; have d8 := hC.c 8 _ rfl; have d9 := hC.c 9 _ rfl; have d10 := hC.c 10 _ rfl; have d11 := hC.c 11 _ rfl; have d12 := hC.c 12 _ rfl; have d13 := hC.c 13 _ rfl; have hf := hC.fc; have HC := hide hC; have HL := hide hL; have HBB := hide hB; clear hC hL hB)
    go_meet
    exact ⟨_, HC.out.put 6 [.int .u8 p.edit.kind, .slice y2.pA p.edit.path.length y2.pc, .int .i64 p.edit.at_, .int .i64 p.edit.far, .string p.edit.frm, .string p.edit.to, .slice y2.oA p.edit.old.len y2.oc, .slice y2.nA p.edit.new.len y2.nc] (by simp), ((hl.below HBB.out).keep fun b hb => heap_setCellsL w.heap.size (by omega) [.int .u8 p.edit.kind, .slice y2.pA p.edit.path.length y2.pc, .int .i64 p.edit.at_, .int .i64 p.edit.far, .string p.edit.frm, .string p.edit.to, .slice y2.oA p.edit.old.len y2.oc, .slice y2.nA p.edit.new.len y2.nc] 6 w1), ((HL.out.mono (S' := fun b => w.heap.size + 2 ≤ b) (fun b hb => Nat.le_trans HB1.out.z hb)).keep fun b hb => heap_setCellsL w.heap.size (by omega) [.int .u8 p.edit.kind, .slice y2.pA p.edit.path.length y2.pc, .int .i64 p.edit.at_, .int .i64 p.edit.far, .string p.edit.frm, .string p.edit.to, .slice y2.oA p.edit.old.len y2.oc, .slice y2.nA p.edit.new.len y2.nc] 6 w1)⟩
  case rest =>
  obtain ⟨y2, hB2, hl, hm⟩ := hcut
  clear HB1 b0 b1 b2 b3 b4 b5 b6 b7 b8 b9 b10 b11 b12 b13
  have Hhl := hide hl
  clear hl
  have Hhm := hide hm
  clear hm
  go_upto_region 3 with fail
  have hl := Hhl.out
  clear Hhl
  have hm := Hhm.out
  clear Hhm
  have b0 := hB2.c 0 _ rfl
  have b1 := hB2.c 1 _ rfl
  have b2 := hB2.c 2 _ rfl
  have b3 := hB2.c 3 _ rfl
  have b4 := hB2.c 4 _ rfl
  have b5 := hB2.c 5 _ rfl
  have b6 := hB2.c 6 _ rfl
  have b7 := hB2.c 7 _ rfl
  have b8 := hB2.c 8 _ rfl
  have b9 := hB2.c 9 _ rfl
  have b10 := hB2.c 10 _ rfl
  have b11 := hB2.c 11 _ rfl
  have b12 := hB2.c 12 _ rfl
  have b13 := hB2.c 13 _ rfl
  have r0 := hB2.r 0 _ rfl
  have r1 := hB2.r 1 _ rfl
  have r2 := hB2.r 2 _ rfl
  have r3 := hB2.r 3 _ rfl
  have r4 := hB2.r 4 _ rfl
  have r5 := hB2.r 5 _ rfl
  have r6 := hB2.r 6 _ rfl
  have r7 := hB2.r 7 _ rfl
  have r8 := hB2.r 8 _ rfl
  have r9 := hB2.r 9 _ rfl
  have r10 := hB2.r 10 _ rfl
  have r11 := hB2.r 11 _ rfl
  have r12 := hB2.r 12 _ rfl
  have r13 := hB2.r 13 _ rfl
  have hfr := hB2.fr
  obtain ⟨hR, hBe⟩ := hB2.res [.int .u8 p.kind, .string p.file, .string p.text, .int .i64 p.hunk.at_, .slice y1.oA p.hunk.old.length y1.oc, .slice y1.nA p.hunk.new.length y1.nc, .int .u8 p.edit.kind, .slice y2.pA p.edit.path.length y2.pc, .int .i64 p.edit.at_, .int .i64 p.edit.far, .string p.edit.frm, .string p.edit.to, .slice y2.oA p.edit.old.len y2.oc, .slice y2.nA p.edit.new.len y2.nc] rfl
  have hz := hB2.z
  have hlr := (hl.keep (w' := World.setCells wc (w.heap.size + 1) 0 [.int .u8 p.kind, .string p.file, .string p.text, .int .i64 p.hunk.at_, .slice y1.oA p.hunk.old.length y1.oc, .slice y1.nA p.hunk.new.length y1.nc, .int .u8 p.edit.kind, .slice y2.pA p.edit.path.length y2.pc, .int .i64 p.edit.at_, .int .i64 p.edit.far, .string p.edit.frm, .string p.edit.to, .slice y2.oA p.edit.old.len y2.oc, .slice y2.nA p.edit.new.len y2.nc]) fun b hb => heap_setCellsL (w.heap.size + 1) (by omega) _ _ _)
  have Hhl := hide hlr
  clear hl hlr
  have hmr := (hm.keep (w' := World.setCells wc (w.heap.size + 1) 0 [.int .u8 p.kind, .string p.file, .string p.text, .int .i64 p.hunk.at_, .slice y1.oA p.hunk.old.length y1.oc, .slice y1.nA p.hunk.new.length y1.nc, .int .u8 p.edit.kind, .slice y2.pA p.edit.path.length y2.pc, .int .i64 p.edit.at_, .int .i64 p.edit.far, .string p.edit.frm, .string p.edit.to, .slice y2.oA p.edit.old.len y2.oc, .slice y2.nA p.edit.new.len y2.nc]) fun b hb => heap_setCellsL (w.heap.size + 1) (by omega) _ _ _)
  have Hhm := hide hmr
  clear hm hmr
  have HBe := hide hBe
  clear hB2 hBe
  obtain ⟨wF, hF⟩ : ∃ wF, wF = World.setCells wc (w.heap.size + 1) 0 [.int .u8 p.kind, .string p.file, .string p.text, .int .i64 p.hunk.at_, .slice y1.oA p.hunk.old.length y1.oc, .slice y1.nA p.hunk.new.length y1.nc, .int .u8 p.edit.kind, .slice y2.pA p.edit.path.length y2.pc, .int .i64 p.edit.at_, .int .i64 p.edit.far, .string p.edit.frm, .string p.edit.to, .slice y2.oA p.edit.old.len y2.oc, .slice y2.nA p.edit.new.len y2.nc] := ⟨_, rfl⟩
  rw [← hF] at hR
  rw [← hF] at Hhl
  rw [← hF] at Hhm
  rw [← hF] at HBe
  simp only [World.setCells, Nat.reduceAdd] at hF
  have HR := hide hR
  have HF := hide hF
  clear hR hF
  go_wp2_with fail
  rw [← HF.out]
  clear HF
  have q0 := HR.out 0 _ rfl
  have q1 := HR.out 1 _ rfl
  have q2 := HR.out 2 _ rfl
  have q3 := HR.out 3 _ rfl
  have q4 := HR.out 4 _ rfl
  have q5 := HR.out 5 _ rfl
  have q6 := HR.out 6 _ rfl
  have q7 := HR.out 7 _ rfl
  have q8 := HR.out 8 _ rfl
  have q9 := HR.out 9 _ rfl
  have q10 := HR.out 10 _ rfl
  have q11 := HR.out 11 _ rfl
  have q12 := HR.out 12 _ rfl
  have q13 := HR.out 13 _ rfl
  refine bodyPost_ret (v := .agg #[.int .u8 p.kind, .string p.file, .string p.text, .int .i64 p.hunk.at_, .slice y1.oA p.hunk.old.length y1.oc, .slice y1.nA p.hunk.new.length y1.nc, .int .u8 p.edit.kind, .slice y2.pA p.edit.path.length y2.pc, .int .i64 p.edit.at_, .int .i64 p.edit.far, .string p.edit.frm, .string p.edit.to, .slice y2.oA p.edit.old.len y2.oc, .slice y2.nA p.edit.new.len y2.nc]) ?_ rfl ⟨⟨y1, y2⟩, rfl, ⟨H.out.kind, H.out.file, H.out.text, Hhl.mono fun b hb => by omega, Hhm.mono fun b hb => by omega⟩, HBe⟩
  simp only [results, Tryz.results27]
  go_simp

set_option maxHeartbeats 4000000 in
set_option maxRecDepth 100000 in
theorem lentNamed_any {S : Nat → Prop} {x : Ph} {d : Nd} {w : World} (a : PtIn S w x d.pt) (h1 : d.pt.hunk.old.length ≤ 1099511627776) (h2 : d.pt.hunk.new.length ≤ 1099511627776) (h3 : d.pt.edit.path.length ≤ 1099511627776) (h4 : d.pt.edit.old.cnt ≤ 1099511627776) (h5 : d.pt.edit.new.cnt ≤ 1099511627776) :
    Calls Tryz.prog 14 #[.agg #[.string d.name, .int .u8 d.pt.kind, .string d.pt.file, .string d.pt.text, .int .i64 d.pt.hunk.at_, .slice x.h.oA d.pt.hunk.old.length x.h.oc, .slice x.h.nA d.pt.hunk.new.length x.h.nc, .int .u8 d.pt.edit.kind, .slice x.e.pA d.pt.edit.path.length x.e.pc, .int .i64 d.pt.edit.at_, .int .i64 d.pt.edit.far, .string d.pt.edit.frm, .string d.pt.edit.to, .slice x.e.oA d.pt.edit.old.len x.e.oc, .slice x.e.nA d.pt.edit.new.len x.e.nc]] w fun e w' => ∃ y : Ph, e = .returned (.agg #[.string d.name, .int .u8 d.pt.kind, .string d.pt.file, .string d.pt.text, .int .i64 d.pt.hunk.at_, .slice y.h.oA d.pt.hunk.old.length y.h.oc, .slice y.h.nA d.pt.hunk.new.length y.h.nc, .int .u8 d.pt.edit.kind, .slice y.e.pA d.pt.edit.path.length y.e.pc, .int .i64 d.pt.edit.at_, .int .i64 d.pt.edit.far, .string d.pt.edit.frm, .string d.pt.edit.to, .slice y.e.oA d.pt.edit.old.len y.e.oc, .slice y.e.nA d.pt.edit.new.len y.e.nc]) ∧ LentPt (fun b => w.heap.size ≤ b) w' y d.pt ∧ Below w.heap.size w w' := by
  have H := hide a
  clear a
  obtain ⟨W0, hW0⟩ : ∃ W0, W0 = (w.alloc (.cells #[.string d.name, .int .u8 d.pt.kind, .string d.pt.file, .string d.pt.text, .int .i64 d.pt.hunk.at_, .slice x.h.oA d.pt.hunk.old.length x.h.oc, .slice x.h.nA d.pt.hunk.new.length x.h.nc, .int .u8 d.pt.edit.kind, .slice x.e.pA d.pt.edit.path.length x.e.pc, .int .i64 d.pt.edit.at_, .int .i64 d.pt.edit.far, .string d.pt.edit.frm, .string d.pt.edit.to, .slice x.e.oA d.pt.edit.old.len x.e.oc, .slice x.e.nA d.pt.edit.new.len x.e.nc] 39)).alloc (.cells #[.string ⟨#[]⟩, .int .u8 0, .string ⟨#[]⟩, .string ⟨#[]⟩, .int .i64 0, .slice none 0 0, .slice none 0 0, .int .u8 0, .slice none 0 0, .int .i64 0, .int .i64 0, .string ⟨#[]⟩, .string ⟨#[]⟩, .slice none 0 0, .slice none 0 0] 39) := ⟨_, rfl⟩
  have hB0 : BxL w W0 [.string d.name, .int .u8 d.pt.kind, .string d.pt.file, .string d.pt.text, .int .i64 d.pt.hunk.at_, .slice x.h.oA d.pt.hunk.old.length x.h.oc, .slice x.h.nA d.pt.hunk.new.length x.h.nc, .int .u8 d.pt.edit.kind, .slice x.e.pA d.pt.edit.path.length x.e.pc, .int .i64 d.pt.edit.at_, .int .i64 d.pt.edit.far, .string d.pt.edit.frm, .string d.pt.edit.to, .slice x.e.oA d.pt.edit.old.len x.e.oc, .slice x.e.nA d.pt.edit.new.len x.e.nc] [.string ⟨#[]⟩, .int .u8 0, .string ⟨#[]⟩, .string ⟨#[]⟩, .int .i64 0, .slice none 0 0, .slice none 0 0, .int .u8 0, .slice none 0 0, .int .i64 0, .int .i64 0, .string ⟨#[]⟩, .string ⟨#[]⟩, .slice none 0 0, .slice none 0 0] := by rw [hW0]; exact BxL.start w #[.string d.name, .int .u8 d.pt.kind, .string d.pt.file, .string d.pt.text, .int .i64 d.pt.hunk.at_, .slice x.h.oA d.pt.hunk.old.length x.h.oc, .slice x.h.nA d.pt.hunk.new.length x.h.nc, .int .u8 d.pt.edit.kind, .slice x.e.pA d.pt.edit.path.length x.e.pc, .int .i64 d.pt.edit.at_, .int .i64 d.pt.edit.far, .string d.pt.edit.frm, .string d.pt.edit.to, .slice x.e.oA d.pt.edit.old.len x.e.oc, .slice x.e.nA d.pt.edit.new.len x.e.nc] #[.string ⟨#[]⟩, .int .u8 0, .string ⟨#[]⟩, .string ⟨#[]⟩, .int .i64 0, .slice none 0 0, .slice none 0 0, .int .u8 0, .slice none 0 0, .int .i64 0, .int .i64 0, .string ⟨#[]⟩, .string ⟨#[]⟩, .slice none 0 0, .slice none 0 0] _ _
  have HW0 := hide hW0
  clear hW0
  go_enter Tryz.func14, Tryz.ntmps14
  go_upto_region 1 with fail
  change Code.wp _ _ _ _ ((w.alloc (.cells #[.string d.name, .int .u8 d.pt.kind, .string d.pt.file, .string d.pt.text, .int .i64 d.pt.hunk.at_, .slice x.h.oA d.pt.hunk.old.length x.h.oc, .slice x.h.nA d.pt.hunk.new.length x.h.nc, .int .u8 d.pt.edit.kind, .slice x.e.pA d.pt.edit.path.length x.e.pc, .int .i64 d.pt.edit.at_, .int .i64 d.pt.edit.far, .string d.pt.edit.frm, .string d.pt.edit.to, .slice x.e.oA d.pt.edit.old.len x.e.oc, .slice x.e.nA d.pt.edit.new.len x.e.nc] 39)).alloc (.cells #[.string ⟨#[]⟩, .int .u8 0, .string ⟨#[]⟩, .string ⟨#[]⟩, .int .i64 0, .slice none 0 0, .slice none 0 0, .int .u8 0, .slice none 0 0, .int .i64 0, .int .i64 0, .string ⟨#[]⟩, .string ⟨#[]⟩, .slice none 0 0, .slice none 0 0] 39))
  rw [← HW0.out]
  clear HW0
  have b0 := hB0.c 0 _ rfl
  have b1 := hB0.c 1 _ rfl
  have b2 := hB0.c 2 _ rfl
  have b3 := hB0.c 3 _ rfl
  have b4 := hB0.c 4 _ rfl
  have b5 := hB0.c 5 _ rfl
  have b6 := hB0.c 6 _ rfl
  have b7 := hB0.c 7 _ rfl
  have b8 := hB0.c 8 _ rfl
  have b9 := hB0.c 9 _ rfl
  have b10 := hB0.c 10 _ rfl
  have b11 := hB0.c 11 _ rfl
  have b12 := hB0.c 12 _ rfl
  have b13 := hB0.c 13 _ rfl
  have b14 := hB0.c 14 _ rfl
  have HB0 := hide hB0
  clear hB0
  go_cut [] (fun wx => ∃ y1, BxL w wx [.string d.name, .int .u8 d.pt.kind, .string d.pt.file, .string d.pt.text, .int .i64 d.pt.hunk.at_, .slice y1.h.oA d.pt.hunk.old.length y1.h.oc, .slice y1.h.nA d.pt.hunk.new.length y1.h.nc, .int .u8 d.pt.edit.kind, .slice y1.e.pA d.pt.edit.path.length y1.e.pc, .int .i64 d.pt.edit.at_, .int .i64 d.pt.edit.far, .string d.pt.edit.frm, .string d.pt.edit.to, .slice y1.e.oA d.pt.edit.old.len y1.e.oc, .slice y1.e.nA d.pt.edit.new.len y1.e.nc] [.string ⟨#[]⟩, .int .u8 0, .string ⟨#[]⟩, .string ⟨#[]⟩, .int .i64 0, .slice none 0 0, .slice none 0 0, .int .u8 0, .slice none 0 0, .int .i64 0, .int .i64 0, .string ⟨#[]⟩, .string ⟨#[]⟩, .slice none 0 0, .slice none 0 0] ∧ LentPt (fun b => w.heap.size + 2 ≤ b) wx y1 d.pt)
  case first =>
    go_wp2_with (go_at_call 27; (with_reducible refine (lentPatch_any (H.out.below HB0.out.b) h1 h2 h3 h4 h5).mono ?_); rintro e1 w1 ⟨y1, rfl, hL, hB⟩; have hC := HB0.out.call hB; have hz := hC.z; have d0 := hC.c 0 _ rfl; have d1 := hC.c 1 _ rfl; have d2 := hC.c 2 _ rfl; have d3 := hC.c 3 _ rfl; have d4 := hC.c 4 _ rfl; have d5 := hC.c 5 _ rfl; have d6 := hC.c 6 _ rfl; have d7 := hC.c 7 _ rfl; have d8 := hC.c 8 _ rfl; have d9 := hC.c 9 _ rfl; have d10 := hC.c 10 _ rfl; have d11 := hC.c 11 _ rfl; have d12 := hC.c 12 _ rfl; have d13 := hC.c 13 _ rfl; have d14 := hC.c 14 _ rfl; have hf := hC.fc; have HC := hide hC; have HL := hide hL; have HBB := hide hB; clear hC hL hB)
    go_meet
    exact ⟨_, HC.out.put 1 [.int .u8 d.pt.kind, .string d.pt.file, .string d.pt.text, .int .i64 d.pt.hunk.at_, .slice y1.h.oA d.pt.hunk.old.length y1.h.oc, .slice y1.h.nA d.pt.hunk.new.length y1.h.nc, .int .u8 d.pt.edit.kind, .slice y1.e.pA d.pt.edit.path.length y1.e.pc, .int .i64 d.pt.edit.at_, .int .i64 d.pt.edit.far, .string d.pt.edit.frm, .string d.pt.edit.to, .slice y1.e.oA d.pt.edit.old.len y1.e.oc, .slice y1.e.nA d.pt.edit.new.len y1.e.nc] (by simp), ((HL.out.mono (S' := fun b => w.heap.size + 2 ≤ b) (fun b hb => Nat.le_trans HB0.out.z hb)).keep fun b hb => heap_setCellsL w.heap.size (by omega) [.int .u8 d.pt.kind, .string d.pt.file, .string d.pt.text, .int .i64 d.pt.hunk.at_, .slice y1.h.oA d.pt.hunk.old.length y1.h.oc, .slice y1.h.nA d.pt.hunk.new.length y1.h.nc, .int .u8 d.pt.edit.kind, .slice y1.e.pA d.pt.edit.path.length y1.e.pc, .int .i64 d.pt.edit.at_, .int .i64 d.pt.edit.far, .string d.pt.edit.frm, .string d.pt.edit.to, .slice y1.e.oA d.pt.edit.old.len y1.e.oc, .slice y1.e.nA d.pt.edit.new.len y1.e.nc] 1 w1)⟩
  case rest =>
  obtain ⟨y1, hB1, hl⟩ := hcut
  clear HB0 b0 b1 b2 b3 b4 b5 b6 b7 b8 b9 b10 b11 b12 b13 b14
  have Hhl := hide hl
  clear hl
  go_upto_region 2 with fail
  have hl := Hhl.out
  clear Hhl
  have b0 := hB1.c 0 _ rfl
  have b1 := hB1.c 1 _ rfl
  have b2 := hB1.c 2 _ rfl
  have b3 := hB1.c 3 _ rfl
  have b4 := hB1.c 4 _ rfl
  have b5 := hB1.c 5 _ rfl
  have b6 := hB1.c 6 _ rfl
  have b7 := hB1.c 7 _ rfl
  have b8 := hB1.c 8 _ rfl
  have b9 := hB1.c 9 _ rfl
  have b10 := hB1.c 10 _ rfl
  have b11 := hB1.c 11 _ rfl
  have b12 := hB1.c 12 _ rfl
  have b13 := hB1.c 13 _ rfl
  have b14 := hB1.c 14 _ rfl
  have r0 := hB1.r 0 _ rfl
  have r1 := hB1.r 1 _ rfl
  have r2 := hB1.r 2 _ rfl
  have r3 := hB1.r 3 _ rfl
  have r4 := hB1.r 4 _ rfl
  have r5 := hB1.r 5 _ rfl
  have r6 := hB1.r 6 _ rfl
  have r7 := hB1.r 7 _ rfl
  have r8 := hB1.r 8 _ rfl
  have r9 := hB1.r 9 _ rfl
  have r10 := hB1.r 10 _ rfl
  have r11 := hB1.r 11 _ rfl
  have r12 := hB1.r 12 _ rfl
  have r13 := hB1.r 13 _ rfl
  have r14 := hB1.r 14 _ rfl
  have hfr := hB1.fr
  obtain ⟨hR, hBe⟩ := hB1.res [.string d.name, .int .u8 d.pt.kind, .string d.pt.file, .string d.pt.text, .int .i64 d.pt.hunk.at_, .slice y1.h.oA d.pt.hunk.old.length y1.h.oc, .slice y1.h.nA d.pt.hunk.new.length y1.h.nc, .int .u8 d.pt.edit.kind, .slice y1.e.pA d.pt.edit.path.length y1.e.pc, .int .i64 d.pt.edit.at_, .int .i64 d.pt.edit.far, .string d.pt.edit.frm, .string d.pt.edit.to, .slice y1.e.oA d.pt.edit.old.len y1.e.oc, .slice y1.e.nA d.pt.edit.new.len y1.e.nc] rfl
  have hz := hB1.z
  have hlr := (hl.keep (w' := World.setCells wc (w.heap.size + 1) 0 [.string d.name, .int .u8 d.pt.kind, .string d.pt.file, .string d.pt.text, .int .i64 d.pt.hunk.at_, .slice y1.h.oA d.pt.hunk.old.length y1.h.oc, .slice y1.h.nA d.pt.hunk.new.length y1.h.nc, .int .u8 d.pt.edit.kind, .slice y1.e.pA d.pt.edit.path.length y1.e.pc, .int .i64 d.pt.edit.at_, .int .i64 d.pt.edit.far, .string d.pt.edit.frm, .string d.pt.edit.to, .slice y1.e.oA d.pt.edit.old.len y1.e.oc, .slice y1.e.nA d.pt.edit.new.len y1.e.nc]) fun b hb => heap_setCellsL (w.heap.size + 1) (by omega) _ _ _)
  have Hhl := hide hlr
  clear hl hlr
  have HBe := hide hBe
  clear hB1 hBe
  obtain ⟨wF, hF⟩ : ∃ wF, wF = World.setCells wc (w.heap.size + 1) 0 [.string d.name, .int .u8 d.pt.kind, .string d.pt.file, .string d.pt.text, .int .i64 d.pt.hunk.at_, .slice y1.h.oA d.pt.hunk.old.length y1.h.oc, .slice y1.h.nA d.pt.hunk.new.length y1.h.nc, .int .u8 d.pt.edit.kind, .slice y1.e.pA d.pt.edit.path.length y1.e.pc, .int .i64 d.pt.edit.at_, .int .i64 d.pt.edit.far, .string d.pt.edit.frm, .string d.pt.edit.to, .slice y1.e.oA d.pt.edit.old.len y1.e.oc, .slice y1.e.nA d.pt.edit.new.len y1.e.nc] := ⟨_, rfl⟩
  rw [← hF] at hR
  rw [← hF] at Hhl
  rw [← hF] at HBe
  simp only [World.setCells, Nat.reduceAdd] at hF
  have HR := hide hR
  have HF := hide hF
  clear hR hF
  go_wp2_with fail
  rw [← HF.out]
  clear HF
  have q0 := HR.out 0 _ rfl
  have q1 := HR.out 1 _ rfl
  have q2 := HR.out 2 _ rfl
  have q3 := HR.out 3 _ rfl
  have q4 := HR.out 4 _ rfl
  have q5 := HR.out 5 _ rfl
  have q6 := HR.out 6 _ rfl
  have q7 := HR.out 7 _ rfl
  have q8 := HR.out 8 _ rfl
  have q9 := HR.out 9 _ rfl
  have q10 := HR.out 10 _ rfl
  have q11 := HR.out 11 _ rfl
  have q12 := HR.out 12 _ rfl
  have q13 := HR.out 13 _ rfl
  have q14 := HR.out 14 _ rfl
  refine bodyPost_ret (v := .agg #[.string d.name, .int .u8 d.pt.kind, .string d.pt.file, .string d.pt.text, .int .i64 d.pt.hunk.at_, .slice y1.h.oA d.pt.hunk.old.length y1.h.oc, .slice y1.h.nA d.pt.hunk.new.length y1.h.nc, .int .u8 d.pt.edit.kind, .slice y1.e.pA d.pt.edit.path.length y1.e.pc, .int .i64 d.pt.edit.at_, .int .i64 d.pt.edit.far, .string d.pt.edit.frm, .string d.pt.edit.to, .slice y1.e.oA d.pt.edit.old.len y1.e.oc, .slice y1.e.nA d.pt.edit.new.len y1.e.nc]) ?_ rfl ⟨y1, rfl, Hhl.mono fun b hb => by omega, HBe⟩
  simp only [results, Tryz.results14]
  go_simp

end Go.Proofs.YtadilmijppdpoaaGreatDoor

namespace Go.Proofs.YtadilmijppdpoaaGreatDoor
open Go.RowKit

section
variable {S : Nat → Prop} {w w' : World} {A : Option Addr} {c g : Nat}
theorem LentRow.grown {n : Nat} {e : TypeId} {vs : List Value} (h : LentRow S w A c n e vs) (hS : ∀ b, S b → b ≠ g) (hg : w.grownBy w' (some g)) : LentRow S w' A c n e vs := by
  obtain ⟨g', cs, h1, h2, h3, h4⟩ := h
  exact ⟨g', cs, h1, h2, (hg.block g' (Array.getElem?_eq_some_iff.1 h3).1 (fun e => hS g' h2 (by injection e))).trans h3, h4⟩
theorem LentPt.grown {x : Ph} {p : Pt} (a : LentPt S w x p) (hS : ∀ b, S b → b ≠ g) (hg : w.grownBy w' (some g)) : LentPt S w' x p :=
  ⟨a.kind, a.file, a.text, ⟨a.hunk.at_, ⟨a.hunk.old.1.grown hS hg, a.hunk.old.2⟩, ⟨a.hunk.new.1.grown hS hg, a.hunk.new.2⟩⟩,
    ⟨a.edit.kind, ⟨a.edit.path.1.grown hS hg, a.edit.path.2⟩, a.edit.at_, a.edit.far, a.edit.frm, a.edit.to, a.edit.old.grown hS hg, a.edit.new.grown hS hg⟩⟩
def nmMark (i : Nat) : List Value := [.string (markT i), .int .u8 0, .string ⟨#[]⟩, .string ⟨#[]⟩, .int .i64 0, .slice none 0 0, .slice none 0 0, .int .u8 0, .slice none 0 0, .int .i64 0, .int .i64 0, .string ⟨#[]⟩, .string ⟨#[]⟩, .slice none 0 0, .slice none 0 0]
def nmMarks (j : Nat) : List Value := (List.range j).flatMap nmMark
theorem nmMarks_next (j : Nat) : nmMarks (j + 1) = nmMarks j ++ nmMark j := by simp [nmMarks, List.range_succ]
theorem nmMarks_len (j : Nat) : (nmMarks j).length = j * 15 := by
  induction j with
  | zero => rfl
  | succ j ih => rw [nmMarks_next, List.length_append, ih]; simp [nmMark]; omega
theorem nmMarks_at {i r : Nat} {u : Value} (hr : r < 15) : ∀ {j : Nat}, i < j → (nmMark i)[r]? = some u → (nmMarks j)[i * 15 + r]? = some u := by
  intro j
  induction j with
  | zero => intro h; omega
  | succ j ih =>
    intro h hu
    rw [nmMarks_next]
    rcases Nat.lt_or_ge i j with h2 | h2
    · rw [List.getElem?_append_left (by rw [nmMarks_len]; omega)]
      exact ih h2 hu
    · obtain rfl : i = j := by omega
      rw [List.getElem?_append_right (by rw [nmMarks_len]; omega), nmMarks_len, show i * 15 + r - i * 15 = r by omega]
      exact hu
def LentNdCells (S : Nat → Prop) (w : World) : List Value → List Nd → Prop
  | vs, [] => vs = []
  | vs, d :: r => ∃ (x : Ph) (vs' : List Value), vs = .string d.name :: .int .u8 d.pt.kind :: .string d.pt.file :: .string d.pt.text :: .int .i64 d.pt.hunk.at_ :: .slice x.h.oA d.pt.hunk.old.length x.h.oc :: .slice x.h.nA d.pt.hunk.new.length x.h.nc :: .int .u8 d.pt.edit.kind :: .slice x.e.pA d.pt.edit.path.length x.e.pc :: .int .i64 d.pt.edit.at_ :: .int .i64 d.pt.edit.far :: .string d.pt.edit.frm :: .string d.pt.edit.to :: .slice x.e.oA d.pt.edit.old.len x.e.oc :: .slice x.e.nA d.pt.edit.new.len x.e.nc :: vs' ∧ d.name.size ≤ 9223372036854775807 ∧ LentPt S w x d.pt ∧ LentNdCells S w vs' r
theorem LentNdCells.below (hB : Below w.heap.size w w') : ∀ {l : List Nd} {vs : List Value}, LentNdCells S w vs l → LentNdCells S w' vs l
  | [], _, h => h
  | _ :: _, _, ⟨x, vs', h1, h2, h3, h4⟩ => ⟨x, vs', h1, h2, h3.below hB, LentNdCells.below hB h4⟩
theorem LentNdCells.grown (hS : ∀ b, S b → b ≠ g) (hg : w.grownBy w' (some g)) : ∀ {l : List Nd} {vs : List Value}, LentNdCells S w vs l → LentNdCells S w' vs l
  | [], _, h => h
  | _ :: _, _, ⟨x, vs', h1, h2, h3, h4⟩ => ⟨x, vs', h1, h2, h3.grown hS hg, LentNdCells.grown hS hg h4⟩
theorem LentNdCells.snoc {x : Ph} {d : Nd} (h1 : d.name.size ≤ 9223372036854775807) (h2 : LentPt S w x d.pt) : ∀ {l : List Nd} {vs : List Value}, LentNdCells S w vs l → LentNdCells S w (vs ++ [.string d.name, .int .u8 d.pt.kind, .string d.pt.file, .string d.pt.text, .int .i64 d.pt.hunk.at_, .slice x.h.oA d.pt.hunk.old.length x.h.oc, .slice x.h.nA d.pt.hunk.new.length x.h.nc, .int .u8 d.pt.edit.kind, .slice x.e.pA d.pt.edit.path.length x.e.pc, .int .i64 d.pt.edit.at_, .int .i64 d.pt.edit.far, .string d.pt.edit.frm, .string d.pt.edit.to, .slice x.e.oA d.pt.edit.old.len x.e.oc, .slice x.e.nA d.pt.edit.new.len x.e.nc]) (l ++ [d])
  | [], _, h => by have h' : _ = [] := h; subst h'; exact ⟨x, [], rfl, h1, h2, rfl⟩
  | _ :: _, _, ⟨x', vs', g1, g2, g3, g4⟩ => by subst g1; exact ⟨x', _, rfl, g2, g3, LentNdCells.snoc h1 h2 g4⟩
theorem LentNdCells.at_ : ∀ {l : List Nd} {vs : List Value} {o : Nat}, LentNdCells S w vs l → (∀ j u, (vs ++ nmMarks 12)[j]? = some u → w.cell? ⟨g, o + j, none⟩ = some u) → LentNdAt S w g o l
  | [], _, o, h, hc => by
    have h' : _ = [] := h
    subst h'
    intro i hi
    have key : ∀ (r : Nat) u, r < 15 → (nmMark i)[r]? = some u → w.cell? ⟨g, o + i * 15 + r, none⟩ = some u := fun r u hr hu => by
      have := hc (i * 15 + r) u (by rw [List.nil_append]; exact nmMarks_at hr hi hu)
      rwa [← Nat.add_assoc] at this
    exact ⟨key 0 _ (by omega) rfl, key 1 _ (by omega) rfl, key 2 _ (by omega) rfl, key 3 _ (by omega) rfl, key 4 _ (by omega) rfl, key 5 _ (by omega) rfl, key 6 _ (by omega) rfl, key 7 _ (by omega) rfl, key 8 _ (by omega) rfl, key 9 _ (by omega) rfl, key 10 _ (by omega) rfl, key 11 _ (by omega) rfl, key 12 _ (by omega) rfl, key 13 _ (by omega) rfl, key 14 _ (by omega) rfl⟩
  | d :: r, _, o, ⟨x, vs', h1, h2, h3, h4⟩, hc => by
    subst h1
    refine ⟨x, ⟨hc 0 _ rfl, hc 1 _ rfl, hc 2 _ rfl, hc 3 _ rfl, hc 4 _ rfl, hc 5 _ rfl, hc 6 _ rfl, hc 7 _ rfl, hc 8 _ rfl, hc 9 _ rfl, hc 10 _ rfl, hc 11 _ rfl, hc 12 _ rfl, hc 13 _ rfl, hc 14 _ rfl⟩, h2, h3, LentNdCells.at_ h4 fun j u hu => ?_⟩
    have := hc (j + 15) u (by simpa using hu)
    rwa [show o + (j + 15) = o + 15 + j by omega] at this
theorem LentNdAt.mono {S' : Nat → Prop} (hm : ∀ b, S b → S' b) : ∀ {l : List Nd} {g o : Nat}, LentNdAt S w g o l → LentNdAt S' w g o l
  | [], _, _, h => h
  | _ :: _, _, _, ⟨x, h1, h2, h3, h4⟩ => ⟨x, h1, h2, h3.mono hm, LentNdAt.mono hm h4⟩
end
theorem row_at (w : World) (vs : List Value) (t : TypeId) : ∀ ad, (some ⟨w.heap.size, 0, none⟩ : Option Addr) = some ad → ∀ j u, vs[j]? = some u → (w.alloc (.cells vs.toArray t)).cell? (ad.add j) = some u := by
  intro ad e j u hu
  injection e with e
  subst e
  rw [Addr.add_lit, Nat.zero_add, World.cell?_alloc_new]
  simpa using hu
theorem row_at2 (w : World) (ob : Obj) (vs : List Value) (t : TypeId) : ∀ ad, (some ⟨w.heap.size + 1, 0, none⟩ : Option Addr) = some ad → ∀ j u, vs[j]? = some u → ((w.alloc ob).alloc (.cells vs.toArray t)).cell? (ad.add j) = some u := by
  intro ad e j u hu
  injection e with e
  subst e
  rw [Addr.add_lit, Nat.zero_add, World.cell?_alloc2_new]
  simpa using hu
theorem InfoNamedL : (Tryz.prog.info? 39).map (fun i => (i.zero, i.size, i.bytes)) = some (some (.agg #[.string ByteArray.empty, .int .u8 0, .string ByteArray.empty, .string ByteArray.empty, .int .i64 0, .slice none 0 0, .slice none 0 0, .int .u8 0, .slice none 0 0, .int .i64 0, .int .i64 0, .string ByteArray.empty, .string ByteArray.empty, .slice none 0 0, .slice none 0 0]), 15, 240) := by kernel_rfl
theorem namedsL : Tryz.prog.underlying 22 = some (.slice 39) := by kernel_rfl

set_option maxHeartbeats 4000000 in
set_option maxRecDepth 100000 in
theorem markNamed_any {n : Int} (h : 0 ≤ n ∧ n < 12) (w : World) : Calls Tryz.prog 15 #[.int .i64 1, .int .i64 n] w fun e w' => e = .returned (.agg #[.string (markT n.toNat), .int .u8 0, .string ⟨#[]⟩, .string ⟨#[]⟩, .int .i64 0, .slice none 0 0, .slice none 0 0, .int .u8 0, .slice none 0 0, .int .i64 0, .int .i64 0, .string ⟨#[]⟩, .string ⟨#[]⟩, .slice none 0 0, .slice none 0 0]) ∧ Below w.heap.size w w' := by
  go_enter Tryz.func15, Tryz.ntmps15
  go_wp2_with (go_at_call 28; (with_reducible refine (markText_any n h _).mono ?_); rintro e1 w1 ⟨rfl, hB⟩; have hx : ∀ o, w1.cell? ⟨w.heap.size, o, none⟩ = (#[.string ⟨#[]⟩, .int .u8 0, .string ⟨#[]⟩, .string ⟨#[]⟩, .int .i64 0, .slice none 0 0, .slice none 0 0, .int .u8 0, .slice none 0 0, .int .i64 0, .int .i64 0, .string ⟨#[]⟩, .string ⟨#[]⟩, .slice none 0 0, .slice none 0 0] : Array Value)[o]? := (fun o => (hB.cell (p := ⟨w.heap.size, o, none⟩) (by simp)).trans (Lib.cell_of_heap (heap_alloc_new w _) o)); have hfx : ∀ o, w1.frozen? ⟨w.heap.size, o, none⟩ = false := (fun o => (hB.frozen (p := ⟨w.heap.size, o, none⟩) (by simp)).trans (World.frozen?_alloc_new _ _ _ _)); have hcl : CellsL w1 w.heap.size [.string ⟨#[]⟩, .int .u8 0, .string ⟨#[]⟩, .string ⟨#[]⟩, .int .i64 0, .slice none 0 0, .slice none 0 0, .int .u8 0, .slice none 0 0, .int .i64 0, .int .i64 0, .string ⟨#[]⟩, .string ⟨#[]⟩, .slice none 0 0, .slice none 0 0] := (fun j u hu => (hx j).trans (by simpa using hu)); have b0 := hcl 0 _ rfl; have b1 := hcl 1 _ rfl; have b2 := hcl 2 _ rfl; have b3 := hcl 3 _ rfl; have b4 := hcl 4 _ rfl; have b5 := hcl 5 _ rfl; have b6 := hcl 6 _ rfl; have b7 := hcl 7 _ rfl; have b8 := hcl 8 _ rfl; have b9 := hcl 9 _ rfl; have b10 := hcl 10 _ rfl; have b11 := hcl 11 _ rfl; have b12 := hcl 12 _ rfl; have b13 := hcl 13 _ rfl; have b14 := hcl 14 _ rfl; have HC := hide hcl; have HB := hide (blw_up (below_alloc w _) hB); clear hB hcl hx)
  obtain ⟨wF, hF⟩ : ∃ wF, wF = World.setCells w1 w.heap.size 0 [.string (markT n.toNat), .int .u8 0, .string ⟨#[]⟩, .string ⟨#[]⟩, .int .i64 0, .slice none 0 0, .slice none 0 0, .int .u8 0, .slice none 0 0, .int .i64 0, .int .i64 0, .string ⟨#[]⟩, .string ⟨#[]⟩, .slice none 0 0, .slice none 0 0] := ⟨_, rfl⟩
  have hR := cellsL_put HC.out 0 [.string (markT n.toNat), .int .u8 0, .string ⟨#[]⟩, .string ⟨#[]⟩, .int .i64 0, .slice none 0 0, .slice none 0 0, .int .u8 0, .slice none 0 0, .int .i64 0, .int .i64 0, .string ⟨#[]⟩, .string ⟨#[]⟩, .slice none 0 0, .slice none 0 0] (by simp)
  have hBe := below_setCellsL (Nat.le_refl _) [.string (markT n.toNat), .int .u8 0, .string ⟨#[]⟩, .string ⟨#[]⟩, .int .i64 0, .slice none 0 0, .slice none 0 0, .int .u8 0, .slice none 0 0, .int .i64 0, .int .i64 0, .string ⟨#[]⟩, .string ⟨#[]⟩, .slice none 0 0, .slice none 0 0] 0 HB.out
  rw [← hF] at hR hBe
  simp only [World.setCells, Nat.reduceAdd] at hF
  rw [← hF]
  have HR := hide hR
  have HBe := hide hBe
  clear hR hF hBe HC HB
  have q0 := HR.out 0 _ rfl
  have q1 := HR.out 1 _ rfl
  have q2 := HR.out 2 _ rfl
  have q3 := HR.out 3 _ rfl
  have q4 := HR.out 4 _ rfl
  have q5 := HR.out 5 _ rfl
  have q6 := HR.out 6 _ rfl
  have q7 := HR.out 7 _ rfl
  have q8 := HR.out 8 _ rfl
  have q9 := HR.out 9 _ rfl
  have q10 := HR.out 10 _ rfl
  have q11 := HR.out 11 _ rfl
  have q12 := HR.out 12 _ rfl
  have q13 := HR.out 13 _ rfl
  have q14 := HR.out 14 _ rfl
  refine bodyPost_ret (v := .agg #[.string (markT n.toNat), .int .u8 0, .string ⟨#[]⟩, .string ⟨#[]⟩, .int .i64 0, .slice none 0 0, .slice none 0 0, .int .u8 0, .slice none 0 0, .int .i64 0, .int .i64 0, .string ⟨#[]⟩, .string ⟨#[]⟩, .slice none 0 0, .slice none 0 0]) ?_ rfl ⟨rfl, HBe.out⟩
  simp only [results, Tryz.results15]
  go_simp

def NdSmall (l : List Nd) : Prop := ∀ d ∈ l, d.pt.hunk.old.length ≤ 1099511627776 ∧ d.pt.hunk.new.length ≤ 1099511627776 ∧ d.pt.edit.path.length ≤ 1099511627776 ∧ d.pt.edit.old.cnt ≤ 1099511627776 ∧ d.pt.edit.new.cnt ≤ 1099511627776
set_option maxRecDepth 100000 in
set_option maxHeartbeats 4000000 in
theorem lentNamedRow_any {S : Nat → Prop} {A : Option Addr} {c : Nat} {l : List Nd} {w : World} (h : NdIn S w A l) (hl : l.length ≤ 274877906944) (hs : NdSmall l) :
    Calls Tryz.prog 7 #[.slice A l.length c] w fun e w' => ∃ A' c', e = .returned (.slice A' l.length c') ∧ LentNds (fun b => w.heap.size ≤ b) w' A' c' l ∧ Below w.heap.size w w' := by
  have Hf := hide h
  have Hs := hide hs
  obtain ⟨i0, hi, ia0, ia1, ia2⟩ := info_parts InfoNamedL
  clear h hs
  go_enter Tryz.func7, Tryz.ntmps7
  go_wp2_with (at_make; refine wpList_make_own _ rfl _ _ 22 rfl w.heap.size 39 i0 (.agg #[.string ByteArray.empty, .int .u8 0, .string ByteArray.empty, .string ByteArray.empty, .int .i64 0, .slice none 0 0, .slice none 0 0, .int .u8 0, .slice none 0 0, .int .i64 0, .int .i64 0, .string ByteArray.empty, .string ByteArray.empty, .slice none 0 0, .slice none 0 0]) 15 namedsL hi ia0 ia1 _ _ _ (l.length + 12) rfl rfl (by omega) (by rw [ia2]; omega) (by unfold maxLen; omega) (Nat.le_refl _) ?_; intro w1 hown hgrow; have HO1 := hide hown; have HB1 : Hid (Below w.heap.size w w1) := hide ((Below.refl _ _).grown hgrow (Nat.le_refl _) (fun k hk => by cases hk)); clear hown hgrow)
  go_loopw [4, 3] (fun i v wr => ∃ (q : Nat) (vs : List Value), q ≤ l.length ∧ i = .int .i64 q ∧ v = .slice (some ⟨w.heap.size, 0, none⟩) q (l.length + 12) ∧ Hid (wr.ownsRow w.heap.size 39 15 (.slice (some ⟨w.heap.size, 0, none⟩) q (l.length + 12)) q vs) ∧ Hid (LentNdCells (fun b => w.heap.size + 1 ≤ b) wr vs (l.take q)) ∧ Hid (Below w.heap.size w wr)) (fun i _ _ => l.length - (intOf i).toNat)
  case atStart => exact ⟨0, [], Nat.zero_le _, rfl, rfl, HO1, hide rfl, HB1⟩
  case round =>
    clear HO1 HB1
    obtain ⟨q, vs, hq, rfl, rfl, HO, HC, HB⟩ := hrel
    by_cases hlt : q < l.length
    · obtain ⟨b, o, x, d, rfl, hd, ⟨c0, c1, c2, c3, c4, c5, c6, c7, c8, c9, c10, c11, c12, c13, c14⟩, hn, hp⟩ := (Hf.out.below HB.out).at_ hlt
      obtain ⟨s1, s2, s3, s4, s5⟩ := Hs.out d (List.mem_of_getElem? hd)
      have htk : l.take (q + 1) = l.take q ++ [d] := by
        rw [List.take_add_one, hd]
        rfl
      have Htk := hide htk
      have HP := hide hp
      have hsz := HB.out.size
      have hcap := (own_cap12 HO.out).2.2.2
      clear hd hp htk
      go_wp2_with (first
        | (go_at_call 14; (with_reducible refine (lentNamed_any (d := d) HP.out s1 s2 s3 s4 s5).mono ?_); rintro e w1 ⟨y, rfl, hL, hB⟩; have HL := hide hL; have HW1 := hide hB; have hs1 := hB.size; clear hL hB)
        | (at_builtin; refine wpList_append_fits2 _ rfl _ _ 22 rfl w.heap.size 39 i0 15 namedsL hi ia1 w.heap.size q (l.length + 12) vs rfl (((own_stay HO.out HW1.out).alloc _).alloc _) (some ⟨w1.heap.size + 1, 0, none⟩) 1 1 [.string d.name, .int .u8 d.pt.kind, .string d.pt.file, .string d.pt.text, .int .i64 d.pt.hunk.at_, .slice y.h.oA d.pt.hunk.old.length y.h.oc, .slice y.h.nA d.pt.hunk.new.length y.h.nc, .int .u8 d.pt.edit.kind, .slice y.e.pA d.pt.edit.path.length y.e.pc, .int .i64 d.pt.edit.at_, .int .i64 d.pt.edit.far, .string d.pt.edit.frm, .string d.pt.edit.to, .slice y.e.oA d.pt.edit.old.len y.e.oc, .slice y.e.nA d.pt.edit.new.len y.e.nc] rfl rfl (by intro h; cases h) (row_at2 _ _ [.string d.name, .int .u8 d.pt.kind, .string d.pt.file, .string d.pt.text, .int .i64 d.pt.hunk.at_, .slice y.h.oA d.pt.hunk.old.length y.h.oc, .slice y.h.nA d.pt.hunk.new.length y.h.nc, .int .u8 d.pt.edit.kind, .slice y.e.pA d.pt.edit.path.length y.e.pc, .int .i64 d.pt.edit.at_, .int .i64 d.pt.edit.far, .string d.pt.edit.frm, .string d.pt.edit.to, .slice y.e.oA d.pt.edit.old.len y.e.oc, .slice y.e.nA d.pt.edit.new.len y.e.nc] _) (by intro u hu; simp only [List.mem_cons, List.not_mem_nil, or_false] at hu; rcases hu with rfl | rfl | rfl | rfl | rfl | rfl | rfl | rfl | rfl | rfl | rfl | rfl | rfl | rfl | rfl <;> rfl) (by omega) ?_; intro w2 hown2 hgrow2; have HO2 := hide hown2; have HG2 := hide hgrow2; clear hown2 hgrow2))
      have hBx : Below w.heap.size w ((w1.alloc (.cells #[.string d.name, .int .u8 d.pt.kind, .string d.pt.file, .string d.pt.text, .int .i64 d.pt.hunk.at_, .slice y.h.oA d.pt.hunk.old.length y.h.oc, .slice y.h.nA d.pt.hunk.new.length y.h.nc, .int .u8 d.pt.edit.kind, .slice y.e.pA d.pt.edit.path.length y.e.pc, .int .i64 d.pt.edit.at_, .int .i64 d.pt.edit.far, .string d.pt.edit.frm, .string d.pt.edit.to, .slice y.e.oA d.pt.edit.old.len y.e.oc, .slice y.e.nA d.pt.edit.new.len y.e.nc] 39)).alloc (.cells #[.string d.name, .int .u8 d.pt.kind, .string d.pt.file, .string d.pt.text, .int .i64 d.pt.hunk.at_, .slice y.h.oA d.pt.hunk.old.length y.h.oc, .slice y.h.nA d.pt.hunk.new.length y.h.nc, .int .u8 d.pt.edit.kind, .slice y.e.pA d.pt.edit.path.length y.e.pc, .int .i64 d.pt.edit.at_, .int .i64 d.pt.edit.far, .string d.pt.edit.frm, .string d.pt.edit.to, .slice y.e.oA d.pt.edit.old.len y.e.oc, .slice y.e.nA d.pt.edit.new.len y.e.nc] 39)) := (HB.out.trans (HW1.out.mono hsz)).trans ((below2 _ _).mono (by omega))
      have HB2 := hide (own_grown hBx (Nat.le_refl _) HG2.out)
      have HC2 : Hid (LentNdCells (fun b => w.heap.size + 1 ≤ b) w2 (vs ++ [.string d.name, .int .u8 d.pt.kind, .string d.pt.file, .string d.pt.text, .int .i64 d.pt.hunk.at_, .slice y.h.oA d.pt.hunk.old.length y.h.oc, .slice y.h.nA d.pt.hunk.new.length y.h.nc, .int .u8 d.pt.edit.kind, .slice y.e.pA d.pt.edit.path.length y.e.pc, .int .i64 d.pt.edit.at_, .int .i64 d.pt.edit.far, .string d.pt.edit.frm, .string d.pt.edit.to, .slice y.e.oA d.pt.edit.old.len y.e.oc, .slice y.e.nA d.pt.edit.new.len y.e.nc]) (l.take (q + 1))) := hide (by
        rw [Htk.out]
        refine LentNdCells.snoc hn ?_ ?_
        · exact ((HL.out.mono (fun b hb => by have h9 : wr.heap.size ≤ b := hb; show w.heap.size + 1 ≤ b; omega)).below (below2 _ _)).grown (fun b hb => by omega) HG2.out
        · exact ((HC.out.below HW1.out).below (below2 _ _)).grown (fun b hb => by omega) HG2.out)
      clear hBx
      go_roundw
      case rel => exact ⟨q + 1, _, by omega, by go_num, rfl, HO2, HC2, HB2⟩
      case measure => simp [intOf]; omega
    · obtain rfl : q = l.length := by omega
      have HC0 : Hid (LentNdCells (fun b => w.heap.size + 1 ≤ b) wr vs l) := hide (by have := HC.out; rwa [List.take_length] at this)
      clear HC hlt
      go_wp2_with fail
      go_loopw [6, 3] (fun i v wx => ∃ q : Nat, q ≤ 12 ∧ i = .int .i64 q ∧ v = .slice (some ⟨w.heap.size, 0, none⟩) (l.length + q) (l.length + 12) ∧ Hid (wx.ownsRow w.heap.size 39 15 (.slice (some ⟨w.heap.size, 0, none⟩) (l.length + q) (l.length + 12)) (l.length + q) (vs ++ nmMarks q)) ∧ Hid (LentNdCells (fun b => w.heap.size + 1 ≤ b) wx vs l) ∧ Hid (Below w.heap.size w wx)) (fun i _ _ => 12 - (intOf i).toNat)
      case atStart => exact ⟨0, by omega, rfl, rfl, hide (by have := HO.out; simpa [nmMarks] using this), HC0, HB⟩
      case round =>
        clear HO HC0 HB
        obtain ⟨q, hq, rfl, rfl, HO, HC, HB⟩ := hrel
        by_cases hlt : q < 12
        · have hq12 : (0 : Int) ≤ (q : Int) ∧ (q : Int) < 12 := by omega
          have Hm := hide (nmMarks_next q)
          have hsz := HB.out.size
          go_wp2_with (first
            | (go_at_call 15; (with_reducible refine (markNamed_any hq12 _).mono ?_); rintro e1 w1 ⟨rfl, hB⟩; have HO1 := hide (own_stay HO.out hB); have HB1 := hide (HB.out.trans (hB.mono hsz)); have HC1 := hide (HC.out.below hB); clear hB)
            | (at_builtin; refine wpList_append_fits2 _ rfl _ _ 22 rfl w.heap.size 39 i0 15 namedsL hi ia1 w.heap.size (l.length + q) (l.length + 12) _ rfl (HO1.out.alloc _) (some ⟨w1.heap.size, 0, none⟩) 1 1 (nmMark q) rfl rfl (by intro h; cases h) (row_at _ (nmMark q) _) (by intro u hu; simp only [nmMark, List.mem_cons, List.not_mem_nil, or_false] at hu; rcases hu with rfl | rfl | rfl | rfl | rfl | rfl | rfl | rfl | rfl | rfl | rfl | rfl | rfl | rfl | rfl <;> rfl) (by omega) ?_; intro w2 hown2 hgrow2; have HO2 := hide hown2; have HB2 := hide (own_grown (HB1.out.alloc HB1.out.size _) (Nat.le_refl _) hgrow2); have HC2 := hide ((HC1.out.below (below_alloc _ _)).grown (fun b hb => by omega) hgrow2); clear hown2 hgrow2 HO1 HB1 HC1))
          go_roundw
          case rel => exact ⟨q + 1, by omega, by go_num, by rw [Nat.add_assoc], hide (by have h5 := HO2.out; rw [Nat.add_assoc] at h5; rw [Hm.out, ← List.append_assoc]; exact h5), HC2, HB2⟩
          case measure => simp [intOf]; omega
        · obtain rfl : q = 12 := by omega
          have hcap := own_cap12 HO.out
          go_wp2_with fail
          go_ret
          exact ⟨_, _, rfl, ⟨w.heap.size, rfl, Nat.le_refl _, hcap.1, hcap.2.1, LentNdAt.mono (fun b hb => by show w.heap.size ≤ b; omega) (HC.out.at_ (own_cellAt HO.out))⟩, HB.out⟩

end Go.Proofs.YtadilmijppdpoaaGreatDoor
