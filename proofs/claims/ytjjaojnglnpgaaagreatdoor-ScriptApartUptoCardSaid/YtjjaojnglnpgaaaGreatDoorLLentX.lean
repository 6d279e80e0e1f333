/- Hunks and edits are lent (kit.LentHunk, kit.LentEdit). Printed by gen_lentx.py. -/
import Derived.Deep.CutBlock
import Derived.Deep.DeepCutAuto
import Derived.Test.YtjjaojnglnpgaaaGreatDoorLLentB
import Derived.Test.YtjjaojnglnpgaaaGreatDoorLBase

set_option linter.unusedVariables false
set_option linter.unusedSimpArgs false

namespace Go.Proofs.YtjjaojnglnpgaaaGreatDoor
open Go.RowKit

set_option maxHeartbeats 4000000 in
set_option maxRecDepth 100000 in
theorem lentHunk_any {S : Nat → Prop} {x : Hh} {h : Hk} {w : World} (a : HkIn S w x h) (h1 : h.old.length ≤ 1099511627776) (h2 : h.new.length ≤ 1099511627776) :
    Calls Tryz.prog 102 #[.agg #[.int .i64 h.at_, .slice x.oA h.old.length x.oc, .slice x.nA h.new.length x.nc]] w fun e w' => ∃ y : Hh, e = .returned (.agg #[.int .i64 h.at_, .slice y.oA h.old.length y.oc, .slice y.nA h.new.length y.nc]) ∧ LentHk (fun b => w.heap.size ≤ b) w' y h ∧ Below w.heap.size w w' := by
  have H := hide a
  have hat := hide a.at_
  clear a
  obtain ⟨W0, hW0⟩ : ∃ W0, W0 = (w.alloc (.cells #[.int .i64 h.at_, .slice x.oA h.old.length x.oc, .slice x.nA h.new.length x.nc] 36)).alloc (.cells #[.int .i64 0, .slice none 0 0, .slice none 0 0] 36) := ⟨_, rfl⟩
  have hB0 : BxL w W0 [.int .i64 h.at_, .slice x.oA h.old.length x.oc, .slice x.nA h.new.length x.nc] [.int .i64 0, .slice none 0 0, .slice none 0 0] := by rw [hW0]; exact BxL.start w #[.int .i64 h.at_, .slice x.oA h.old.length x.oc, .slice x.nA h.new.length x.nc] #[.int .i64 0, .slice none 0 0, .slice none 0 0] _ _
  have HW0 := hide hW0
  clear hW0
  go_enter Tryz.func102, Tryz.ntmps102
  go_upto_region 1 with fail
  change Code.wp _ _ _ _ ((w.alloc (.cells #[.int .i64 h.at_, .slice x.oA h.old.length x.oc, .slice x.nA h.new.length x.nc] 36)).alloc (.cells #[.int .i64 0, .slice none 0 0, .slice none 0 0] 36))
  rw [← HW0.out]
  clear HW0
  have b0 := hB0.c 0 _ rfl
  have b1 := hB0.c 1 _ rfl
  have b2 := hB0.c 2 _ rfl
  have HB0 := hide hB0
  clear hB0
  go_cut [] (fun wx => ∃ A1 c1, BxL w wx [.int .i64 h.at_, .slice A1 h.old.length c1, .slice x.nA h.new.length x.nc] [.int .i64 0, .slice none 0 0, .slice none 0 0] ∧ LentStrs (fun b => w.heap.size + 2 ≤ b) wx A1 c1 h.old)
  case first =>
    go_wp2_with (go_at_call 54; (with_reducible refine (lentTexts_any (H.out.old.below HB0.out.b) h1).mono ?_); rintro e1 w1 ⟨A1, c1, rfl, hL, hB⟩; have hC := HB0.out.call hB; have hz := hC.z; have d0 := hC.c 0 _ rfl; have d1 := hC.c 1 _ rfl; have d2 := hC.c 2 _ rfl; have hf := hC.fc; have HC := hide hC; have HL := hide hL; have HBB := hide hB; clear hC hL hB)
    go_meet
    exact ⟨_, _, HC.out.put 1 [.slice A1 h.old.length c1] (by simp), ((HL.out.mono (S' := fun b => w.heap.size + 2 ≤ b) (fun b hb => Nat.le_trans HB0.out.z hb)).keep fun b hb => heap_setCellsL w.heap.size (by omega) [.slice A1 h.old.length c1] 1 w1)⟩
  case rest =>
  obtain ⟨A1, c1, hB1, hl⟩ := hcut
  clear HB0 b0 b1 b2
  have Hhl := hide hl
  clear hl
  go_upto_region 2 with fail
  have hl := Hhl.out
  clear Hhl
  have b0 := hB1.c 0 _ rfl
  have b1 := hB1.c 1 _ rfl
  have b2 := hB1.c 2 _ rfl
  have HB1 := hide hB1
  clear hB1
  go_cut [] (fun wx => ∃ A2 c2, BxL w wx [.int .i64 h.at_, .slice A1 h.old.length c1, .slice A2 h.new.length c2] [.int .i64 0, .slice none 0 0, .slice none 0 0] ∧ LentStrs (fun b => w.heap.size + 2 ≤ b) wx A1 c1 h.old ∧ LentStrs (fun b => w.heap.size + 2 ≤ b) wx A2 c2 h.new)
  case first =>
    go_wp2_with (go_at_call 54; (with_reducible refine (lentTexts_any (H.out.new.below HB1.out.b) h2).mono ?_); rintro e1 w1 ⟨A2, c2, rfl, hL, hB⟩; have hC := HB1.out.call hB; have hz := hC.z; have d0 := hC.c 0 _ rfl; have d1 := hC.c 1 _ rfl; have d2 := hC.c 2 _ rfl; have hf := hC.fc; have HC := hide hC; have HL := hide hL; have HBB := hide hB; clear hC hL hB)
    go_meet
    exact ⟨_, _, HC.out.put 2 [.slice A2 h.new.length c2] (by simp), ((hl.below HBB.out).keep fun b hb => heap_setCellsL w.heap.size (by omega) [.slice A2 h.new.length c2] 2 w1), ((HL.out.mono (S' := fun b => w.heap.size + 2 ≤ b) (fun b hb => Nat.le_trans HB1.out.z hb)).keep fun b hb => heap_setCellsL w.heap.size (by omega) [.slice A2 h.new.length c2] 2 w1)⟩
  case rest =>
  obtain ⟨A2, c2, hB2, hl, hm⟩ := hcut
  clear HB1 b0 b1 b2
  have Hhl := hide hl
  clear hl
  have Hhm := hide hm
  clear hm
  go_upto_region 3 with fail
  have hl := Hhl.out
  clear Hhl
  have hm := Hhm.out
  clear Hhm
  have b0 := hB2.c 0 _ rfl
  have b1 := hB2.c 1 _ rfl
  have b2 := hB2.c 2 _ rfl
  have r0 := hB2.r 0 _ rfl
  have r1 := hB2.r 1 _ rfl
  have r2 := hB2.r 2 _ rfl
  have hfr := hB2.fr
  obtain ⟨hR, hBe⟩ := hB2.res [.int .i64 h.at_, .slice A1 h.old.length c1, .slice A2 h.new.length c2] rfl
  have hz := hB2.z
  have hlr := (hl.keep (w' := World.setCells wc (w.heap.size + 1) 0 [.int .i64 h.at_, .slice A1 h.old.length c1, .slice A2 h.new.length c2]) fun b hb => heap_setCellsL (w.heap.size + 1) (by omega) _ _ _)
  have Hhl := hide hlr
  clear hl hlr
  have hmr := (hm.keep (w' := World.setCells wc (w.heap.size + 1) 0 [.int .i64 h.at_, .slice A1 h.old.length c1, .slice A2 h.new.length c2]) fun b hb => heap_setCellsL (w.heap.size + 1) (by omega) _ _ _)
  have Hhm := hide hmr
  clear hm hmr
  have HBe := hide hBe
  clear hB2 hBe
  obtain ⟨wF, hF⟩ : ∃ wF, wF = World.setCells wc (w.heap.size + 1) 0 [.int .i64 h.at_, .slice A1 h.old.length c1, .slice A2 h.new.length c2] := ⟨_, rfl⟩
  rw [← hF] at hR
  rw [← hF] at Hhl
  rw [← hF] at Hhm
  rw [← hF] at HBe
  simp only [World.setCells, Nat.reduceAdd] at hF
  have HR := hide hR
  have HF := hide hF
  clear hR hF
  go_wp2_with fail
  rw [← HF.out]
  clear HF
  have q0 := HR.out 0 _ rfl
  have q1 := HR.out 1 _ rfl
  have q2 := HR.out 2 _ rfl
  refine bodyPost_ret (v := .agg #[.int .i64 h.at_, .slice A1 h.old.length c1, .slice A2 h.new.length c2]) ?_ rfl ⟨⟨A1, c1, A2, c2⟩, rfl, ⟨hat.out, Hhl.mono fun b hb => by omega, Hhm.mono fun b hb => by omega⟩, HBe⟩
  simp only [results, Tryz.results102]
  go_simp

set_option maxHeartbeats 4000000 in
set_option maxRecDepth 100000 in
theorem lentEdit_any {S : Nat → Prop} {x : Eh} {p : Ed} {w : World} (a : EdIn S w x p) (h1 : p.path.length ≤ 1099511627776) (h2 : p.old.cnt ≤ 1099511627776) (h3 : p.new.cnt ≤ 1099511627776) :
    Calls Tryz.prog 103 #[.agg #[.int .u8 p.kind, .slice x.pA p.path.length x.pc, .int .i64 p.at_, .int .i64 p.far, .string p.frm, .string p.to, .slice x.oA p.old.len x.oc, .slice x.nA p.new.len x.nc]] w fun e w' => ∃ y : Eh, e = .returned (.agg #[.int .u8 p.kind, .slice y.pA p.path.length y.pc, .int .i64 p.at_, .int .i64 p.far, .string p.frm, .string p.to, .slice y.oA p.old.len y.oc, .slice y.nA p.new.len y.nc]) ∧ LentEd (fun b => w.heap.size ≤ b) w' y p ∧ Below w.heap.size w w' := by
  have H := hide a
  clear a
  obtain ⟨W0, hW0⟩ : ∃ W0, W0 = (w.alloc (.cells #[.int .u8 p.kind, .slice x.pA p.path.length x.pc, .int .i64 p.at_, .int .i64 p.far, .string p.frm, .string p.to, .slice x.oA p.old.len x.oc, .slice x.nA p.new.len x.nc] 41)).alloc (.cells #[.int .u8 0, .slice none 0 0, .int .i64 0, .int .i64 0, .string ⟨#[]⟩, .string ⟨#[]⟩, .slice none 0 0, .slice none 0 0] 41) := ⟨_, rfl⟩
  have hB0 : BxL w W0 [.int .u8 p.kind, .slice x.pA p.path.length x.pc, .int .i64 p.at_, .int .i64 p.far, .string p.frm, .string p.to, .slice x.oA p.old.len x.oc, .slice x.nA p.new.len x.nc] [.int .u8 0, .slice none 0 0, .int .i64 0, .int .i64 0, .string ⟨#[]⟩, .string ⟨#[]⟩, .slice none 0 0, .slice none 0 0] := by rw [hW0]; exact BxL.start w #[.int .u8 p.kind, .slice x.pA p.path.length x.pc, .int .i64 p.at_, .int .i64 p.far, .string p.frm, .string p.to, .slice x.oA p.old.len x.oc, .slice x.nA p.new.len x.nc] #[.int .u8 0, .slice none 0 0, .int .i64 0, .int .i64 0, .string ⟨#[]⟩, .string ⟨#[]⟩, .slice none 0 0, .slice none 0 0] _ _
  have HW0 := hide hW0
  clear hW0
  go_enter Tryz.func103, Tryz.ntmps103
  go_upto_region 1 with fail
  change Code.wp _ _ _ _ ((w.alloc (.cells #[.int .u8 p.kind, .slice x.pA p.path.length x.pc, .int .i64 p.at_, .int .i64 p.far, .string p.frm, .string p.to, .slice x.oA p.old.len x.oc, .slice x.nA p.new.len x.nc] 41)).alloc (.cells #[.int .u8 0, .slice none 0 0, .int .i64 0, .int .i64 0, .string ⟨#[]⟩, .string ⟨#[]⟩, .slice none 0 0, .slice none 0 0] 41))
  rw [← HW0.out]
  clear HW0
  have b0 := hB0.c 0 _ rfl
  have b1 := hB0.c 1 _ rfl
  have b2 := hB0.c 2 _ rfl
  have b3 := hB0.c 3 _ rfl
  have b4 := hB0.c 4 _ rfl
  have b5 := hB0.c 5 _ rfl
  have b6 := hB0.c 6 _ rfl
  have b7 := hB0.c 7 _ rfl
  have HB0 := hide hB0
  clear hB0
  go_cut [] (fun wx => ∃ A1 c1, BxL w wx [.int .u8 p.kind, .slice A1 p.path.length c1, .int .i64 p.at_, .int .i64 p.far, .string p.frm, .string p.to, .slice x.oA p.old.len x.oc, .slice x.nA p.new.len x.nc] [.int .u8 0, .slice none 0 0, .int .i64 0, .int .i64 0, .string ⟨#[]⟩, .string ⟨#[]⟩, .slice none 0 0, .slice none 0 0] ∧ LentInts (fun b => w.heap.size + 2 ≤ b) wx A1 c1 p.path)
  case first =>
    go_wp2_with (go_at_call 167; (with_reducible refine (lentInts_any (H.out.path.below HB0.out.b) h1).mono ?_); rintro e1 w1 ⟨A1, c1, rfl, hL, hB⟩; have hC := HB0.out.call hB; have hz := hC.z; have d0 := hC.c 0 _ rfl; have d1 := hC.c 1 _ rfl; have d2 := hC.c 2 _ rfl; have d3 := hC.c 3 _ rfl; have d4 := hC.c 4 _ rfl; have d5 := hC.c 5 _ rfl; have d6 := hC.c 6 _ rfl; have d7 := hC.c 7 _ rfl; have hf := hC.fc; have HC := hide hC; have HL := hide hL; have HBB := hide hB; clear hC hL hB)
    go_meet
    exact ⟨_, _, HC.out.put 1 [.slice A1 p.path.length c1] (by simp), ((HL.out.mono (S' := fun b => w.heap.size + 2 ≤ b) (fun b hb => Nat.le_trans HB0.out.z hb)).keep fun b hb => heap_setCellsL w.heap.size (by omega) [.slice A1 p.path.length c1] 1 w1)⟩
  case rest =>
  obtain ⟨A1, c1, hB1, hl⟩ := hcut
  clear HB0 b0 b1 b2 b3 b4 b5 b6 b7
  have Hhl := hide hl
  clear hl
  go_upto_region 2 with fail
  have hl := Hhl.out
  clear Hhl
  have b0 := hB1.c 0 _ rfl
  have b1 := hB1.c 1 _ rfl
  have b2 := hB1.c 2 _ rfl
  have b3 := hB1.c 3 _ rfl
  have b4 := hB1.c 4 _ rfl
  have b5 := hB1.c 5 _ rfl
  have b6 := hB1.c 6 _ rfl
  have b7 := hB1.c 7 _ rfl
  have HB1 := hide hB1
  clear hB1
  go_cut [] (fun wx => ∃ A2 c2, BxL w wx [.int .u8 p.kind, .slice A1 p.path.length c1, .int .i64 p.at_, .int .i64 p.far, .string p.frm, .string p.to, .slice A2 p.old.len c2, .slice x.nA p.new.len x.nc] [.int .u8 0, .slice none 0 0, .int .i64 0, .int .i64 0, .string ⟨#[]⟩, .string ⟨#[]⟩, .slice none 0 0, .slice none 0 0] ∧ LentInts (fun b => w.heap.size + 2 ≤ b) wx A1 c1 p.path ∧ LentFo (fun b => w.heap.size + 2 ≤ b) wx A2 c2 p.old)
  case first =>
    go_wp2_with (go_at_call 168; (with_reducible refine (lentNodes_any (H.out.old.below HB1.out.b) h2).mono ?_); rintro e1 w1 ⟨A2, c2, rfl, hL, hB⟩; have hC := HB1.out.call hB; have hz := hC.z; have d0 := hC.c 0 _ rfl; have d1 := hC.c 1 _ rfl; have d2 := hC.c 2 _ rfl; have d3 := hC.c 3 _ rfl; have d4 := hC.c 4 _ rfl; have d5 := hC.c 5 _ rfl; have d6 := hC.c 6 _ rfl; have d7 := hC.c 7 _ rfl; have hf := hC.fc; have HC := hide hC; have HL := hide hL; have HBB := hide hB; clear hC hL hB)
    go_meet
    exact ⟨_, _, HC.out.put 6 [.slice A2 p.old.len c2] (by simp), ((hl.below HBB.out).keep fun b hb => heap_setCellsL w.heap.size (by omega) [.slice A2 p.old.len c2] 6 w1), ((HL.out.mono (S' := fun b => w.heap.size + 2 ≤ b) (fun b hb => Nat.le_trans HB1.out.z hb)).keep fun b hb => heap_setCellsL w.heap.size (by omega) [.slice A2 p.old.len c2] 6 w1)⟩
  case rest =>
  obtain ⟨A2, c2, hB2, hl, hm⟩ := hcut
  clear HB1 b0 b1 b2 b3 b4 b5 b6 b7
  have Hhl := hide hl
  clear hl
  have Hhm := hide hm
  clear hm
  go_upto_region 3 with fail
  have hl := Hhl.out
  clear Hhl
  have hm := Hhm.out
  clear Hhm
  have b0 := hB2.c 0 _ rfl
  have b1 := hB2.c 1 _ rfl
  have b2 := hB2.c 2 _ rfl
  have b3 := hB2.c 3 _ rfl
  have b4 := hB2.c 4 _ rfl
  have b5 := hB2.c 5 _ rfl
  have b6 := hB2.c 6 _ rfl
  have b7 := hB2.c 7 _ rfl
  have HB2 := hide hB2
  clear hB2
  go_cut [] (fun wx => ∃ A3 c3, BxL w wx [.int .u8 p.kind, .slice A1 p.path.length c1, .int .i64 p.at_, .int .i64 p.far, .string p.frm, .string p.to, .slice A2 p.old.len c2, .slice A3 p.new.len c3] [.int .u8 0, .slice none 0 0, .int .i64 0, .int .i64 0, .string ⟨#[]⟩, .string ⟨#[]⟩, .slice none 0 0, .slice none 0 0] ∧ LentInts (fun b => w.heap.size + 2 ≤ b) wx A1 c1 p.path ∧ LentFo (fun b => w.heap.size + 2 ≤ b) wx A2 c2 p.old ∧ LentFo (fun b => w.heap.size + 2 ≤ b) wx A3 c3 p.new)
  case first =>
    go_wp2_with (go_at_call 168; (with_reducible refine (lentNodes_any (H.out.new.below HB2.out.b) h3).mono ?_); rintro e1 w1 ⟨A3, c3, rfl, hL, hB⟩; have hC := HB2.out.call hB; have hz := hC.z; have d0 := hC.c 0 _ rfl; have d1 := hC.c 1 _ rfl; have d2 := hC.c 2 _ rfl; have d3 := hC.c 3 _ rfl; have d4 := hC.c 4 _ rfl; have d5 := hC.c 5 _ rfl; have d6 := hC.c 6 _ rfl; have d7 := hC.c 7 _ rfl; have hf := hC.fc; have HC := hide hC; have HL := hide hL; have HBB := hide hB; clear hC hL hB)
    go_meet
    exact ⟨_, _, HC.out.put 7 [.slice A3 p.new.len c3] (by simp), ((hl.below HBB.out).keep fun b hb => heap_setCellsL w.heap.size (by omega) [.slice A3 p.new.len c3] 7 w1), ((hm.below HBB.out).keep fun b hb => heap_setCellsL w.heap.size (by omega) [.slice A3 p.new.len c3] 7 w1), ((HL.out.mono (S' := fun b => w.heap.size + 2 ≤ b) (fun b hb => Nat.le_trans HB2.out.z hb)).keep fun b hb => heap_setCellsL w.heap.size (by omega) [.slice A3 p.new.len c3] 7 w1)⟩
  case rest =>
  obtain ⟨A3, c3, hB3, hl, hm, hn⟩ := hcut
  clear HB2 b0 b1 b2 b3 b4 b5 b6 b7
  have Hhl := hide hl
  clear hl
  have Hhm := hide hm
  clear hm
  have Hhn := hide hn
  clear hn
  go_upto_region 4 with fail
  have hl := Hhl.out
  clear Hhl
  have hm := Hhm.out
  clear Hhm
  have hn := Hhn.out
  clear Hhn
  have b0 := hB3.c 0 _ rfl
  have b1 := hB3.c 1 _ rfl
  have b2 := hB3.c 2 _ rfl
  have b3 := hB3.c 3 _ rfl
  have b4 := hB3.c 4 _ rfl
  have b5 := hB3.c 5 _ rfl
  have b6 := hB3.c 6 _ rfl
  have b7 := hB3.c 7 _ rfl
  have r0 := hB3.r 0 _ rfl
  have r1 := hB3.r 1 _ rfl
  have r2 := hB3.r 2 _ rfl
  have r3 := hB3.r 3 _ rfl
  have r4 := hB3.r 4 _ rfl
  have r5 := hB3.r 5 _ rfl
  have r6 := hB3.r 6 _ rfl
  have r7 := hB3.r 7 _ rfl
  have hfr := hB3.fr
  obtain ⟨hR, hBe⟩ := hB3.res [.int .u8 p.kind, .slice A1 p.path.length c1, .int .i64 p.at_, .int .i64 p.far, .string p.frm, .string p.to, .slice A2 p.old.len c2, .slice A3 p.new.len c3] rfl
  have hz := hB3.z
  have hlr := (hl.keep (w' := World.setCells wc (w.heap.size + 1) 0 [.int .u8 p.kind, .slice A1 p.path.length c1, .int .i64 p.at_, .int .i64 p.far, .string p.frm, .string p.to, .slice A2 p.old.len c2, .slice A3 p.new.len c3]) fun b hb => heap_setCellsL (w.heap.size + 1) (by omega) _ _ _)
  have Hhl := hide hlr
  clear hl hlr
  have hmr := (hm.keep (w' := World.setCells wc (w.heap.size + 1) 0 [.int .u8 p.kind, .slice A1 p.path.length c1, .int .i64 p.at_, .int .i64 p.far, .string p.frm, .string p.to, .slice A2 p.old.len c2, .slice A3 p.new.len c3]) fun b hb => heap_setCellsL (w.heap.size + 1) (by omega) _ _ _)
  have Hhm := hide hmr
  clear hm hmr
  have hnr := (hn.keep (w' := World.setCells wc (w.heap.size + 1) 0 [.int .u8 p.kind, .slice A1 p.path.length c1, .int .i64 p.at_, .int .i64 p.far, .string p.frm, .string p.to, .slice A2 p.old.len c2, .slice A3 p.new.len c3]) fun b hb => heap_setCellsL (w.heap.size + 1) (by omega) _ _ _)
  have Hhn := hide hnr
  clear hn hnr
  have HBe := hide hBe
  clear hB3 hBe
  obtain ⟨wF, hF⟩ : ∃ wF, wF = World.setCells wc (w.heap.size + 1) 0 [.int .u8 p.kind, .slice A1 p.path.length c1, .int .i64 p.at_, .int .i64 p.far, .string p.frm, .string p.to, .slice A2 p.old.len c2, .slice A3 p.new.len c3] := ⟨_, rfl⟩
  rw [← hF] at hR
  rw [← hF] at Hhl
  rw [← hF] at Hhm
  rw [← hF] at Hhn
  rw [← hF] at HBe
  simp only [World.setCells, Nat.reduceAdd] at hF
  have HR := hide hR
  have HF := hide hF
  clear hR hF
  go_wp2_with fail
  rw [← HF.out]
  clear HF
  have q0 := HR.out 0 _ rfl
  have q1 := HR.out 1 _ rfl
  have q2 := HR.out 2 _ rfl
  have q3 := HR.out 3 _ rfl
  have q4 := HR.out 4 _ rfl
  have q5 := HR.out 5 _ rfl
  have q6 := HR.out 6 _ rfl
  have q7 := HR.out 7 _ rfl
  refine bodyPost_ret (v := .agg #[.int .u8 p.kind, .slice A1 p.path.length c1, .int .i64 p.at_, .int .i64 p.far, .string p.frm, .string p.to, .slice A2 p.old.len c2, .slice A3 p.new.len c3]) ?_ rfl ⟨⟨A1, c1, A2, c2, A3, c3⟩, rfl, ⟨H.out.kind, Hhl.mono fun b hb => by omega, H.out.at_, H.out.far, H.out.frm, H.out.to, Hhm.mono fun b hb => by omega, Hhn.mono fun b hb => by omega⟩, HBe⟩
  simp only [results, Tryz.results103]
  go_simp

end Go.Proofs.YtjjaojnglnpgaaaGreatDoor
