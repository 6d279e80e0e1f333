/- When is a patch right, as the document tells (ref19.Right)? Printed by gen_ref19.py. -/
import Derived.Test.YtfhfkbdaglegpaaGreatDoorGRef14d
import Derived.Test.YtfhfkbdaglegpaaGreatDoorGRef6
import Derived.Test.YtfhfkbdaglegpaaGreatDoorGKeptX

set_option linter.unusedVariables false
set_option linter.unusedSimpArgs false

namespace Go.Proofs.YtfhfkbdaglegpaaGreatDoor
open Go.RowKit

theorem zero_hk {S : Nat → Prop} {w : World} : HkIn S w ⟨none, 0, none, 0⟩ ⟨0, [], []⟩ := ⟨by show isInt64 0; unfold isInt64; omega, ⟨.nil, by simp, by simp⟩, ⟨.nil, by simp, by simp⟩, ⟨by simp, by simp⟩, ⟨by simp, by simp⟩⟩
theorem zero_ed {S : Nat → Prop} {w : World} : EdIn S w ⟨none, 0, none, 0, none, 0⟩ ⟨0, [], 0, 0, ⟨#[]⟩, ⟨#[]⟩, .nil, .nil⟩ := ⟨by decide, ⟨.nil, by simp, by simp⟩, by show isInt64 0; unfold isInt64; omega, by show isInt64 0; unfold isInt64; omega, by decide, by decide, trivial, trivial, ⟨by simp, by simp⟩, ⟨by simp [Fo.len], by simp⟩, ⟨by simp [Fo.len], by simp⟩⟩
theorem ptOk19_1 {p : Pt} : PtOk { p with kind := 1 } ↔ True ∧ ({ p with kind := 1 } : Pt) = ⟨1, p.file, p.text, ⟨0, [], []⟩, ⟨0, [], 0, 0, ⟨#[]⟩, ⟨#[]⟩, .nil, .nil⟩⟩ ∧ FileName p.file := by
  obtain ⟨kd, file, text, hunk, edit⟩ := p
  have hn : noTxt = ⟨#[]⟩ := rfl
  have hz : Hk.zero = ⟨0, [], []⟩ := rfl
  have he : Ed.zero = ⟨0, [], 0, 0, ⟨#[]⟩, ⟨#[]⟩, .nil, .nil⟩ := rfl
  unfold PtOk
  rw [hn, hz, he]
  simp
  try grind
theorem ptOk19_2 {p : Pt} : PtOk { p with kind := 2 } ↔ True ∧ ({ p with kind := 2 } : Pt) = ⟨2, p.file, p.text, ⟨0, [], []⟩, ⟨0, [], 0, 0, ⟨#[]⟩, ⟨#[]⟩, .nil, .nil⟩⟩ ∧ FileName p.file := by
  obtain ⟨kd, file, text, hunk, edit⟩ := p
  have hn : noTxt = ⟨#[]⟩ := rfl
  have hz : Hk.zero = ⟨0, [], []⟩ := rfl
  have he : Ed.zero = ⟨0, [], 0, 0, ⟨#[]⟩, ⟨#[]⟩, .nil, .nil⟩ := rfl
  unfold PtOk
  rw [hn, hz, he]
  simp
  try grind
theorem ptOk19_3 {p : Pt} : PtOk { p with kind := 3 } ↔ HkOk p.hunk ∧ ({ p with kind := 3 } : Pt) = ⟨3, p.file, ⟨#[]⟩, p.hunk, ⟨0, [], 0, 0, ⟨#[]⟩, ⟨#[]⟩, .nil, .nil⟩⟩ ∧ FileName p.file := by
  obtain ⟨kd, file, text, hunk, edit⟩ := p
  have hn : noTxt = ⟨#[]⟩ := rfl
  have hz : Hk.zero = ⟨0, [], []⟩ := rfl
  have he : Ed.zero = ⟨0, [], 0, 0, ⟨#[]⟩, ⟨#[]⟩, .nil, .nil⟩ := rfl
  unfold PtOk
  rw [hn, hz, he]
  simp
  try grind
theorem ptOk19_4 {p : Pt} : PtOk { p with kind := 4 } ↔ EdOk p.edit ∧ ({ p with kind := 4 } : Pt) = ⟨4, p.file, ⟨#[]⟩, ⟨0, [], []⟩, p.edit⟩ ∧ FileName p.file := by
  obtain ⟨kd, file, text, hunk, edit⟩ := p
  have hn : noTxt = ⟨#[]⟩ := rfl
  have hz : Hk.zero = ⟨0, [], []⟩ := rfl
  have he : Ed.zero = ⟨0, [], 0, 0, ⟨#[]⟩, ⟨#[]⟩, .nil, .nil⟩ := rfl
  unfold PtOk
  rw [hn, hz, he]
  simp
  try grind
theorem ptOk19_0 {p : Pt} (h1 : p.kind ≠ 1) (h2 : p.kind ≠ 2) (h3 : p.kind ≠ 3) (h4 : p.kind ≠ 4) : ¬ PtOk p := by
  unfold PtOk
  omega

set_option maxHeartbeats 4000000 in
set_option maxRecDepth 100000 in
theorem patRight19_1 {S : Nat → Prop} {x : Ph} {p : Pt} {w : World} (he : PtIn S w x p) :
    Calls Tryz.prog 30 #[.agg #[.int .u8 1, .string p.file, .string p.text, .int .i64 p.hunk.at_, .slice x.h.oA p.hunk.old.length x.h.oc, .slice x.h.nA p.hunk.new.length x.h.nc, .int .u8 p.edit.kind, .slice x.e.pA p.edit.path.length x.e.pc, .int .i64 p.edit.at_, .int .i64 p.edit.far, .string p.edit.frm, .string p.edit.to, .slice x.e.oA p.edit.old.len x.e.oc, .slice x.e.nA p.edit.new.len x.e.nc]] w fun e1 w' => RetB (PtOk { p with kind := 1 }) e1 ∧ Below w.heap.size w w' := by
  have H := hide he
  obtain ⟨W0, hW0⟩ : ∃ W0, W0 = (w.alloc (.cells #[.int .u8 1, .string p.file, .string p.text, .int .i64 p.hunk.at_, .slice x.h.oA p.hunk.old.length x.h.oc, .slice x.h.nA p.hunk.new.length x.h.nc, .int .u8 p.edit.kind, .slice x.e.pA p.edit.path.length x.e.pc, .int .i64 p.edit.at_, .int .i64 p.edit.far, .string p.edit.frm, .string p.edit.to, .slice x.e.oA p.edit.old.len x.e.oc, .slice x.e.nA p.edit.new.len x.e.nc] 32)).alloc (.cells #[.int .u8 1, .string p.file, .string ⟨#[]⟩, .int .i64 0, .slice none 0 0, .slice none 0 0, .int .u8 0, .slice none 0 0, .int .i64 0, .int .i64 0, .string ⟨#[]⟩, .string ⟨#[]⟩, .slice none 0 0, .slice none 0 0] 32) := ⟨_, rfl⟩
  have hB0 : BxL w W0 [.int .u8 1, .string p.file, .string p.text, .int .i64 p.hunk.at_, .slice x.h.oA p.hunk.old.length x.h.oc, .slice x.h.nA p.hunk.new.length x.h.nc, .int .u8 p.edit.kind, .slice x.e.pA p.edit.path.length x.e.pc, .int .i64 p.edit.at_, .int .i64 p.edit.far, .string p.edit.frm, .string p.edit.to, .slice x.e.oA p.edit.old.len x.e.oc, .slice x.e.nA p.edit.new.len x.e.nc] [.int .u8 1, .string p.file, .string ⟨#[]⟩, .int .i64 0, .slice none 0 0, .slice none 0 0, .int .u8 0, .slice none 0 0, .int .i64 0, .int .i64 0, .string ⟨#[]⟩, .string ⟨#[]⟩, .slice none 0 0, .slice none 0 0] := by rw [hW0]; exact BxL.start w #[.int .u8 1, .string p.file, .string p.text, .int .i64 p.hunk.at_, .slice x.h.oA p.hunk.old.length x.h.oc, .slice x.h.nA p.hunk.new.length x.h.nc, .int .u8 p.edit.kind, .slice x.e.pA p.edit.path.length x.e.pc, .int .i64 p.edit.at_, .int .i64 p.edit.far, .string p.edit.frm, .string p.edit.to, .slice x.e.oA p.edit.old.len x.e.oc, .slice x.e.nA p.edit.new.len x.e.nc] #[.int .u8 1, .string p.file, .string ⟨#[]⟩, .int .i64 0, .slice none 0 0, .slice none 0 0, .int .u8 0, .slice none 0 0, .int .i64 0, .int .i64 0, .string ⟨#[]⟩, .string ⟨#[]⟩, .slice none 0 0, .slice none 0 0] _ _
  have HW0 := hide hW0
  clear he hW0
  go_enter Tryz.func30, Tryz.ntmps30
  go_upto_region 2 with fail
  change Code.wp _ _ _ _ ((w.alloc (.cells #[.int .u8 1, .string p.file, .string p.text, .int .i64 p.hunk.at_, .slice x.h.oA p.hunk.old.length x.h.oc, .slice x.h.nA p.hunk.new.length x.h.nc, .int .u8 p.edit.kind, .slice x.e.pA p.edit.path.length x.e.pc, .int .i64 p.edit.at_, .int .i64 p.edit.far, .string p.edit.frm, .string p.edit.to, .slice x.e.oA p.edit.old.len x.e.oc, .slice x.e.nA p.edit.new.len x.e.nc] 32)).alloc (.cells #[.int .u8 1, .string p.file, .string ⟨#[]⟩, .int .i64 0, .slice none 0 0, .slice none 0 0, .int .u8 0, .slice none 0 0, .int .i64 0, .int .i64 0, .string ⟨#[]⟩, .string ⟨#[]⟩, .slice none 0 0, .slice none 0 0] 32))
  rw [← HW0.out]
  clear HW0
  have b0 := hB0.c 0 _ rfl
  have b1 := hB0.c 1 _ rfl
  have b2 := hB0.c 2 _ rfl
  have b3 := hB0.c 3 _ rfl
  have b4 := hB0.c 4 _ rfl
  have b5 := hB0.c 5 _ rfl
  have b6 := hB0.c 6 _ rfl
  have b7 := hB0.c 7 _ rfl
  have b8 := hB0.c 8 _ rfl
  have b9 := hB0.c 9 _ rfl
  have b10 := hB0.c 10 _ rfl
  have b11 := hB0.c 11 _ rfl
  have b12 := hB0.c 12 _ rfl
  have b13 := hB0.c 13 _ rfl
  have r0 := hB0.r 0 _ rfl
  have r1 := hB0.r 1 _ rfl
  have r2 := hB0.r 2 _ rfl
  have r3 := hB0.r 3 _ rfl
  have r4 := hB0.r 4 _ rfl
  have r5 := hB0.r 5 _ rfl
  have r6 := hB0.r 6 _ rfl
  have r7 := hB0.r 7 _ rfl
  have r8 := hB0.r 8 _ rfl
  have r9 := hB0.r 9 _ rfl
  have r10 := hB0.r 10 _ rfl
  have r11 := hB0.r 11 _ rfl
  have r12 := hB0.r 12 _ rfl
  have r13 := hB0.r 13 _ rfl
  have fr := hB0.fr
  have HB0 := hide hB0
  clear hB0
  go_upto_region 7 with fail
  have hBa := HB0.out.putR 2 [.string p.text] (by simp)
  obtain ⟨wa, hFa⟩ : ∃ wa, wa = World.setCells W0 (w.heap.size + 1) 2 [.string p.text] := ⟨_, rfl⟩
  rw [← hFa] at hBa
  simp only [World.setCells, Nat.reduceAdd] at hFa
  rw [← hFa]
  replace hBa : BxL w wa [.int .u8 1, .string p.file, .string p.text, .int .i64 p.hunk.at_, .slice x.h.oA p.hunk.old.length x.h.oc, .slice x.h.nA p.hunk.new.length x.h.nc, .int .u8 p.edit.kind, .slice x.e.pA p.edit.path.length x.e.pc, .int .i64 p.edit.at_, .int .i64 p.edit.far, .string p.edit.frm, .string p.edit.to, .slice x.e.oA p.edit.old.len x.e.oc, .slice x.e.nA p.edit.new.len x.e.nc] [.int .u8 1, .string p.file, .string p.text, .int .i64 0, .slice none 0 0, .slice none 0 0, .int .u8 0, .slice none 0 0, .int .i64 0, .int .i64 0, .string ⟨#[]⟩, .string ⟨#[]⟩, .slice none 0 0, .slice none 0 0] := hBa
  have HBa0 := hide hBa
  clear b0 r0 b1 r1 b2 r2 b3 r3 b4 r4 b5 r5 b6 r6 b7 r7 b8 r8 b9 r9 b10 r10 b11 r11 b12 r12 b13 r13 fr HB0 hFa
  have b0 := hBa.c 0 _ rfl
  have b1 := hBa.c 1 _ rfl
  have b2 := hBa.c 2 _ rfl
  have b3 := hBa.c 3 _ rfl
  have b4 := hBa.c 4 _ rfl
  have b5 := hBa.c 5 _ rfl
  have b6 := hBa.c 6 _ rfl
  have b7 := hBa.c 7 _ rfl
  have b8 := hBa.c 8 _ rfl
  have b9 := hBa.c 9 _ rfl
  have b10 := hBa.c 10 _ rfl
  have b11 := hBa.c 11 _ rfl
  have b12 := hBa.c 12 _ rfl
  have b13 := hBa.c 13 _ rfl
  have r0 := hBa.r 0 _ rfl
  have r1 := hBa.r 1 _ rfl
  have r2 := hBa.r 2 _ rfl
  have r3 := hBa.r 3 _ rfl
  have r4 := hBa.r 4 _ rfl
  have r5 := hBa.r 5 _ rfl
  have r6 := hBa.r 6 _ rfl
  have r7 := hBa.r 7 _ rfl
  have r8 := hBa.r 8 _ rfl
  have r9 := hBa.r 9 _ rfl
  have r10 := hBa.r 10 _ rfl
  have r11 := hBa.r 11 _ rfl
  have r12 := hBa.r 12 _ rfl
  have r13 := hBa.r 13 _ rfl
  clear hBa
  have HSm : Hid (∀ W, Below w.heap.size w W → Calls Tryz.prog 17 #[.agg #[.int .u8 1, .string p.file, .string p.text, .int .i64 p.hunk.at_, .slice x.h.oA p.hunk.old.length x.h.oc, .slice x.h.nA p.hunk.new.length x.h.nc, .int .u8 p.edit.kind, .slice x.e.pA p.edit.path.length x.e.pc, .int .i64 p.edit.at_, .int .i64 p.edit.far, .string p.edit.frm, .string p.edit.to, .slice x.e.oA p.edit.old.len x.e.oc, .slice x.e.nA p.edit.new.len x.e.nc], .agg #[.int .u8 1, .string p.file, .string p.text, .int .i64 0, .slice none 0 0, .slice none 0 0, .int .u8 0, .slice none 0 0, .int .i64 0, .int .i64 0, .string ⟨#[]⟩, .string ⟨#[]⟩, .slice none 0 0, .slice none 0 0]] W fun e1 w' => RetB (({ p with kind := 1 } : Pt) = ⟨1, p.file, p.text, ⟨0, [], []⟩, ⟨0, [], 0, 0, ⟨#[]⟩, ⟨#[]⟩, .nil, .nil⟩⟩) e1 ∧ Below W.heap.size W w') :=
    hide fun W hW => samePatch_any (S' := S) (a := { p with kind := 1 }) (b := ⟨1, p.file, p.text, ⟨0, [], []⟩, ⟨0, [], 0, 0, ⟨#[]⟩, ⟨#[]⟩, .nil, .nil⟩⟩) (x := x) (y := ⟨⟨none, 0, none, 0⟩, ⟨none, 0, none, 0, none, 0⟩⟩) ⟨(by show 1 < 256; omega), H.out.file, H.out.text, H.out.hunk.below hW, H.out.edit.below hW⟩ ⟨(by show 1 < 256; omega), H.out.file, H.out.text, zero_hk, zero_ed⟩
  have hfs := H.out.file
  go_wp2_with (first
    | (go_at_call 17; (with_reducible refine (HSm.out _ HBa0.out.b).mono ?_); rintro e1 w1 ⟨⟨c1, rfl, hb⟩, hB⟩; have hC := HBa0.out.call hB; clear b0 r0 b1 r1 b2 r2 b3 r3 b4 r4 b5 r5 b6 r6 b7 r7 b8 r8 b9 r9 b10 r10 b11 r11 b12 r12 b13 r13; have b0 := hC.c 0 _ rfl; have b1 := hC.c 1 _ rfl; have b2 := hC.c 2 _ rfl; have b3 := hC.c 3 _ rfl; have b4 := hC.c 4 _ rfl; have b5 := hC.c 5 _ rfl; have b6 := hC.c 6 _ rfl; have b7 := hC.c 7 _ rfl; have b8 := hC.c 8 _ rfl; have b9 := hC.c 9 _ rfl; have b10 := hC.c 10 _ rfl; have b11 := hC.c 11 _ rfl; have b12 := hC.c 12 _ rfl; have b13 := hC.c 13 _ rfl; have r0 := hC.r 0 _ rfl; have r1 := hC.r 1 _ rfl; have r2 := hC.r 2 _ rfl; have r3 := hC.r 3 _ rfl; have r4 := hC.r 4 _ rfl; have r5 := hC.r 5 _ rfl; have r6 := hC.r 6 _ rfl; have r7 := hC.r 7 _ rfl; have r8 := hC.r 8 _ rfl; have r9 := hC.r 9 _ rfl; have r10 := hC.r 10 _ rfl; have r11 := hC.r 11 _ rfl; have r12 := hC.r 12 _ rfl; have r13 := hC.r 13 _ rfl; have HBa1 := hide hC; have Hb1 := hide hb; clear hb hB hC)
    | (go_at_call 61; (with_reducible refine (name20_any p.file _ hfs).mono ?_); rintro e2 w2 ⟨⟨c2, rfl, hb⟩, rfl⟩; have HBa2 := HBa1; have Hb2 := hide hb; clear hb))
  all_goals
    go_ret
    go_tidy
    have hok := @ptOk19_1 p
    try have q1 := Hb1.out
    try have q2 := Hb2.out
    refine ⟨RetB.mk ?_, by first | exact HBa2.out.b | exact HBa1.out.b | exact HBa0.out.b⟩
    rw [hok]
    clear hok HSm H
    try clear Hb1 HBa1
    try clear Hb2 HBa2
    try clear HBa0
    try clear b0 r0 b1 r1 b2 r2 b3 r3 b4 r4 b5 r5 b6 r6 b7 r7 b8 r8 b9 r9 b10 r10 b11 r11 b12 r12 b13 r13
    first
      | grind
     

set_option maxHeartbeats 4000000 in
set_option maxRecDepth 100000 in
theorem patRight19_2 {S : Nat → Prop} {x : Ph} {p : Pt} {w : World} (he : PtIn S w x p) :
    Calls Tryz.prog 30 #[.agg #[.int .u8 2, .string p.file, .string p.text, .int .i64 p.hunk.at_, .slice x.h.oA p.hunk.old.length x.h.oc, .slice x.h.nA p.hunk.new.length x.h.nc, .int .u8 p.edit.kind, .slice x.e.pA p.edit.path.length x.e.pc, .int .i64 p.edit.at_, .int .i64 p.edit.far, .string p.edit.frm, .string p.edit.to, .slice x.e.oA p.edit.old.len x.e.oc, .slice x.e.nA p.edit.new.len x.e.nc]] w fun e1 w' => RetB (PtOk { p with kind := 2 }) e1 ∧ Below w.heap.size w w' := by
  have H := hide he
  obtain ⟨W0, hW0⟩ : ∃ W0, W0 = (w.alloc (.cells #[.int .u8 2, .string p.file, .string p.text, .int .i64 p.hunk.at_, .slice x.h.oA p.hunk.old.length x.h.oc, .slice x.h.nA p.hunk.new.length x.h.nc, .int .u8 p.edit.kind, .slice x.e.pA p.edit.path.length x.e.pc, .int .i64 p.edit.at_, .int .i64 p.edit.far, .string p.edit.frm, .string p.edit.to, .slice x.e.oA p.edit.old.len x.e.oc, .slice x.e.nA p.edit.new.len x.e.nc] 32)).alloc (.cells #[.int .u8 2, .string p.file, .string ⟨#[]⟩, .int .i64 0, .slice none 0 0, .slice none 0 0, .int .u8 0, .slice none 0 0, .int .i64 0, .int .i64 0, .string ⟨#[]⟩, .string ⟨#[]⟩, .slice none 0 0, .slice none 0 0] 32) := ⟨_, rfl⟩
  have hB0 : BxL w W0 [.int .u8 2, .string p.file, .string p.text, .int .i64 p.hunk.at_, .slice x.h.oA p.hunk.old.length x.h.oc, .slice x.h.nA p.hunk.new.length x.h.nc, .int .u8 p.edit.kind, .slice x.e.pA p.edit.path.length x.e.pc, .int .i64 p.edit.at_, .int .i64 p.edit.far, .string p.edit.frm, .string p.edit.to, .slice x.e.oA p.edit.old.len x.e.oc, .slice x.e.nA p.edit.new.len x.e.nc] [.int .u8 2, .string p.file, .string ⟨#[]⟩, .int .i64 0, .slice none 0 0, .slice none 0 0, .int .u8 0, .slice none 0 0, .int .i64 0, .int .i64 0, .string ⟨#[]⟩, .string ⟨#[]⟩, .slice none 0 0, .slice none 0 0] := by rw [hW0]; exact BxL.start w #[.int .u8 2, .string p.file, .string p.text, .int .i64 p.hunk.at_, .slice x.h.oA p.hunk.old.length x.h.oc, .slice x.h.nA p.hunk.new.length x.h.nc, .int .u8 p.edit.kind, .slice x.e.pA p.edit.path.length x.e.pc, .int .i64 p.edit.at_, .int .i64 p.edit.far, .string p.edit.frm, .string p.edit.to, .slice x.e.oA p.edit.old.len x.e.oc, .slice x.e.nA p.edit.new.len x.e.nc] #[.int .u8 2, .string p.file, .string ⟨#[]⟩, .int .i64 0, .slice none 0 0, .slice none 0 0, .int .u8 0, .slice none 0 0, .int .i64 0, .int .i64 0, .string ⟨#[]⟩, .string ⟨#[]⟩, .slice none 0 0, .slice none 0 0] _ _
  have HW0 := hide hW0
  clear he hW0
  go_enter Tryz.func30, Tryz.ntmps30
  go_upto_region 2 with fail
  change Code.wp _ _ _ _ ((w.alloc (.cells #[.int .u8 2, .string p.file, .string p.text, .int .i64 p.hunk.at_, .slice x.h.oA p.hunk.old.length x.h.oc, .slice x.h.nA p.hunk.new.length x.h.nc, .int .u8 p.edit.kind, .slice x.e.pA p.edit.path.length x.e.pc, .int .i64 p.edit.at_, .int .i64 p.edit.far, .string p.edit.frm, .string p.edit.to, .slice x.e.oA p.edit.old.len x.e.oc, .slice x.e.nA p.edit.new.len x.e.nc] 32)).alloc (.cells #[.int .u8 2, .string p.file, .string ⟨#[]⟩, .int .i64 0, .slice none 0 0, .slice none 0 0, .int .u8 0, .slice none 0 0, .int .i64 0, .int .i64 0, .string ⟨#[]⟩, .string ⟨#[]⟩, .slice none 0 0, .slice none 0 0] 32))
  rw [← HW0.out]
  clear HW0
  have b0 := hB0.c 0 _ rfl
  have b1 := hB0.c 1 _ rfl
  have b2 := hB0.c 2 _ rfl
  have b3 := hB0.c 3 _ rfl
  have b4 := hB0.c 4 _ rfl
  have b5 := hB0.c 5 _ rfl
  have b6 := hB0.c 6 _ rfl
  have b7 := hB0.c 7 _ rfl
  have b8 := hB0.c 8 _ rfl
  have b9 := hB0.c 9 _ rfl
  have b10 := hB0.c 10 _ rfl
  have b11 := hB0.c 11 _ rfl
  have b12 := hB0.c 12 _ rfl
  have b13 := hB0.c 13 _ rfl
  have r0 := hB0.r 0 _ rfl
  have r1 := hB0.r 1 _ rfl
  have r2 := hB0.r 2 _ rfl
  have r3 := hB0.r 3 _ rfl
  have r4 := hB0.r 4 _ rfl
  have r5 := hB0.r 5 _ rfl
  have r6 := hB0.r 6 _ rfl
  have r7 := hB0.r 7 _ rfl
  have r8 := hB0.r 8 _ rfl
  have r9 := hB0.r 9 _ rfl
  have r10 := hB0.r 10 _ rfl
  have r11 := hB0.r 11 _ rfl
  have r12 := hB0.r 12 _ rfl
  have r13 := hB0.r 13 _ rfl
  have fr := hB0.fr
  have HB0 := hide hB0
  clear hB0
  go_upto_region 7 with fail
  have hBa := HB0.out.putR 2 [.string p.text] (by simp)
  obtain ⟨wa, hFa⟩ : ∃ wa, wa = World.setCells W0 (w.heap.size + 1) 2 [.string p.text] := ⟨_, rfl⟩
  rw [← hFa] at hBa
  simp only [World.setCells, Nat.reduceAdd] at hFa
  rw [← hFa]
  replace hBa : BxL w wa [.int .u8 2, .string p.file, .string p.text, .int .i64 p.hunk.at_, .slice x.h.oA p.hunk.old.length x.h.oc, .slice x.h.nA p.hunk.new.length x.h.nc, .int .u8 p.edit.kind, .slice x.e.pA p.edit.path.length x.e.pc, .int .i64 p.edit.at_, .int .i64 p.edit.far, .string p.edit.frm, .string p.edit.to, .slice x.e.oA p.edit.old.len x.e.oc, .slice x.e.nA p.edit.new.len x.e.nc] [.int .u8 2, .string p.file, .string p.text, .int .i64 0, .slice none 0 0, .slice none 0 0, .int .u8 0, .slice none 0 0, .int .i64 0, .int .i64 0, .string ⟨#[]⟩, .string ⟨#[]⟩, .slice none 0 0, .slice none 0 0] := hBa
  have HBa0 := hide hBa
  clear b0 r0 b1 r1 b2 r2 b3 r3 b4 r4 b5 r5 b6 r6 b7 r7 b8 r8 b9 r9 b10 r10 b11 r11 b12 r12 b13 r13 fr HB0 hFa
  have b0 := hBa.c 0 _ rfl
  have b1 := hBa.c 1 _ rfl
  have b2 := hBa.c 2 _ rfl
  have b3 := hBa.c 3 _ rfl
  have b4 := hBa.c 4 _ rfl
  have b5 := hBa.c 5 _ rfl
  have b6 := hBa.c 6 _ rfl
  have b7 := hBa.c 7 _ rfl
  have b8 := hBa.c 8 _ rfl
  have b9 := hBa.c 9 _ rfl
  have b10 := hBa.c 10 _ rfl
  have b11 := hBa.c 11 _ rfl
  have b12 := hBa.c 12 _ rfl
  have b13 := hBa.c 13 _ rfl
  have r0 := hBa.r 0 _ rfl
  have r1 := hBa.r 1 _ rfl
  have r2 := hBa.r 2 _ rfl
  have r3 := hBa.r 3 _ rfl
  have r4 := hBa.r 4 _ rfl
  have r5 := hBa.r 5 _ rfl
  have r6 := hBa.r 6 _ rfl
  have r7 := hBa.r 7 _ rfl
  have r8 := hBa.r 8 _ rfl
  have r9 := hBa.r 9 _ rfl
  have r10 := hBa.r 10 _ rfl
  have r11 := hBa.r 11 _ rfl
  have r12 := hBa.r 12 _ rfl
  have r13 := hBa.r 13 _ rfl
  clear hBa
  have HSm : Hid (∀ W, Below w.heap.size w W → Calls Tryz.prog 17 #[.agg #[.int .u8 2, .string p.file, .string p.text, .int .i64 p.hunk.at_, .slice x.h.oA p.hunk.old.length x.h.oc, .slice x.h.nA p.hunk.new.length x.h.nc, .int .u8 p.edit.kind, .slice x.e.pA p.edit.path.length x.e.pc, .int .i64 p.edit.at_, .int .i64 p.edit.far, .string p.edit.frm, .string p.edit.to, .slice x.e.oA p.edit.old.len x.e.oc, .slice x.e.nA p.edit.new.len x.e.nc], .agg #[.int .u8 2, .string p.file, .string p.text, .int .i64 0, .slice none 0 0, .slice none 0 0, .int .u8 0, .slice none 0 0, .int .i64 0, .int .i64 0, .string ⟨#[]⟩, .string ⟨#[]⟩, .slice none 0 0, .slice none 0 0]] W fun e1 w' => RetB (({ p with kind := 2 } : Pt) = ⟨2, p.file, p.text, ⟨0, [], []⟩, ⟨0, [], 0, 0, ⟨#[]⟩, ⟨#[]⟩, .nil, .nil⟩⟩) e1 ∧ Below W.heap.size W w') :=
    hide fun W hW => samePatch_any (S' := S) (a := { p with kind := 2 }) (b := ⟨2, p.file, p.text, ⟨0, [], []⟩, ⟨0, [], 0, 0, ⟨#[]⟩, ⟨#[]⟩, .nil, .nil⟩⟩) (x := x) (y := ⟨⟨none, 0, none, 0⟩, ⟨none, 0, none, 0, none, 0⟩⟩) ⟨(by show 2 < 256; omega), H.out.file, H.out.text, H.out.hunk.below hW, H.out.edit.below hW⟩ ⟨(by show 2 < 256; omega), H.out.file, H.out.text, zero_hk, zero_ed⟩
  have hfs := H.out.file
  go_wp2_with (first
    | (go_at_call 17; (with_reducible refine (HSm.out _ HBa0.out.b).mono ?_); rintro e1 w1 ⟨⟨c1, rfl, hb⟩, hB⟩; have hC := HBa0.out.call hB; clear b0 r0 b1 r1 b2 r2 b3 r3 b4 r4 b5 r5 b6 r6 b7 r7 b8 r8 b9 r9 b10 r10 b11 r11 b12 r12 b13 r13; have b0 := hC.c 0 _ rfl; have b1 := hC.c 1 _ rfl; have b2 := hC.c 2 _ rfl; have b3 := hC.c 3 _ rfl; have b4 := hC.c 4 _ rfl; have b5 := hC.c 5 _ rfl; have b6 := hC.c 6 _ rfl; have b7 := hC.c 7 _ rfl; have b8 := hC.c 8 _ rfl; have b9 := hC.c 9 _ rfl; have b10 := hC.c 10 _ rfl; have b11 := hC.c 11 _ rfl; have b12 := hC.c 12 _ rfl; have b13 := hC.c 13 _ rfl; have r0 := hC.r 0 _ rfl; have r1 := hC.r 1 _ rfl; have r2 := hC.r 2 _ rfl; have r3 := hC.r 3 _ rfl; have r4 := hC.r 4 _ rfl; have r5 := hC.r 5 _ rfl; have r6 := hC.r 6 _ rfl; have r7 := hC.r 7 _ rfl; have r8 := hC.r 8 _ rfl; have r9 := hC.r 9 _ rfl; have r10 := hC.r 10 _ rfl; have r11 := hC.r 11 _ rfl; have r12 := hC.r 12 _ rfl; have r13 := hC.r 13 _ rfl; have HBa1 := hide hC; have Hb1 := hide hb; clear hb hB hC)
    | (go_at_call 61; (with_reducible refine (name20_any p.file _ hfs).mono ?_); rintro e2 w2 ⟨⟨c2, rfl, hb⟩, rfl⟩; have HBa2 := HBa1; have Hb2 := hide hb; clear hb))
  all_goals
    go_ret
    go_tidy
    have hok := @ptOk19_2 p
    try have q1 := Hb1.out
    try have q2 := Hb2.out
    refine ⟨RetB.mk ?_, by first | exact HBa2.out.b | exact HBa1.out.b | exact HBa0.out.b⟩
    rw [hok]
    clear hok HSm H
    try clear Hb1 HBa1
    try clear Hb2 HBa2
    try clear HBa0
    try clear b0 r0 b1 r1 b2 r2 b3 r3 b4 r4 b5 r5 b6 r6 b7 r7 b8 r8 b9 r9 b10 r10 b11 r11 b12 r12 b13 r13
    first
      | grind
     

set_option maxHeartbeats 4000000 in
set_option maxRecDepth 100000 in
theorem patRight19_3 {S : Nat → Prop} {x : Ph} {p : Pt} {w : World} (he : PtIn S w x p) :
    Calls Tryz.prog 30 #[.agg #[.int .u8 3, .string p.file, .string p.text, .int .i64 p.hunk.at_, .slice x.h.oA p.hunk.old.length x.h.oc, .slice x.h.nA p.hunk.new.length x.h.nc, .int .u8 p.edit.kind, .slice x.e.pA p.edit.path.length x.e.pc, .int .i64 p.edit.at_, .int .i64 p.edit.far, .string p.edit.frm, .string p.edit.to, .slice x.e.oA p.edit.old.len x.e.oc, .slice x.e.nA p.edit.new.len x.e.nc]] w fun e1 w' => RetB (PtOk { p with kind := 3 }) e1 ∧ Below w.heap.size w w' := by
  have H := hide he
  obtain ⟨W0, hW0⟩ : ∃ W0, W0 = (w.alloc (.cells #[.int .u8 3, .string p.file, .string p.text, .int .i64 p.hunk.at_, .slice x.h.oA p.hunk.old.length x.h.oc, .slice x.h.nA p.hunk.new.length x.h.nc, .int .u8 p.edit.kind, .slice x.e.pA p.edit.path.length x.e.pc, .int .i64 p.edit.at_, .int .i64 p.edit.far, .string p.edit.frm, .string p.edit.to, .slice x.e.oA p.edit.old.len x.e.oc, .slice x.e.nA p.edit.new.len x.e.nc] 32)).alloc (.cells #[.int .u8 3, .string p.file, .string ⟨#[]⟩, .int .i64 0, .slice none 0 0, .slice none 0 0, .int .u8 0, .slice none 0 0, .int .i64 0, .int .i64 0, .string ⟨#[]⟩, .string ⟨#[]⟩, .slice none 0 0, .slice none 0 0] 32) := ⟨_, rfl⟩
  have hB0 : BxL w W0 [.int .u8 3, .string p.file, .string p.text, .int .i64 p.hunk.at_, .slice x.h.oA p.hunk.old.length x.h.oc, .slice x.h.nA p.hunk.new.length x.h.nc, .int .u8 p.edit.kind, .slice x.e.pA p.edit.path.length x.e.pc, .int .i64 p.edit.at_, .int .i64 p.edit.far, .string p.edit.frm, .string p.edit.to, .slice x.e.oA p.edit.old.len x.e.oc, .slice x.e.nA p.edit.new.len x.e.nc] [.int .u8 3, .string p.file, .string ⟨#[]⟩, .int .i64 0, .slice none 0 0, .slice none 0 0, .int .u8 0, .slice none 0 0, .int .i64 0, .int .i64 0, .string ⟨#[]⟩, .string ⟨#[]⟩, .slice none 0 0, .slice none 0 0] := by rw [hW0]; exact BxL.start w #[.int .u8 3, .string p.file, .string p.text, .int .i64 p.hunk.at_, .slice x.h.oA p.hunk.old.length x.h.oc, .slice x.h.nA p.hunk.new.length x.h.nc, .int .u8 p.edit.kind, .slice x.e.pA p.edit.path.length x.e.pc, .int .i64 p.edit.at_, .int .i64 p.edit.far, .string p.edit.frm, .string p.edit.to, .slice x.e.oA p.edit.old.len x.e.oc, .slice x.e.nA p.edit.new.len x.e.nc] #[.int .u8 3, .string p.file, .string ⟨#[]⟩, .int .i64 0, .slice none 0 0, .slice none 0 0, .int .u8 0, .slice none 0 0, .int .i64 0, .int .i64 0, .string ⟨#[]⟩, .string ⟨#[]⟩, .slice none 0 0, .slice none 0 0] _ _
  have HW0 := hide hW0
  clear he hW0
  go_enter Tryz.func30, Tryz.ntmps30
  go_upto_region 2 with fail
  change Code.wp _ _ _ _ ((w.alloc (.cells #[.int .u8 3, .string p.file, .string p.text, .int .i64 p.hunk.at_, .slice x.h.oA p.hunk.old.length x.h.oc, .slice x.h.nA p.hunk.new.length x.h.nc, .int .u8 p.edit.kind, .slice x.e.pA p.edit.path.length x.e.pc, .int .i64 p.edit.at_, .int .i64 p.edit.far, .string p.edit.frm, .string p.edit.to, .slice x.e.oA p.edit.old.len x.e.oc, .slice x.e.nA p.edit.new.len x.e.nc] 32)).alloc (.cells #[.int .u8 3, .string p.file, .string ⟨#[]⟩, .int .i64 0, .slice none 0 0, .slice none 0 0, .int .u8 0, .slice none 0 0, .int .i64 0, .int .i64 0, .string ⟨#[]⟩, .string ⟨#[]⟩, .slice none 0 0, .slice none 0 0] 32))
  rw [← HW0.out]
  clear HW0
  have b0 := hB0.c 0 _ rfl
  have b1 := hB0.c 1 _ rfl
  have b2 := hB0.c 2 _ rfl
  have b3 := hB0.c 3 _ rfl
  have b4 := hB0.c 4 _ rfl
  have b5 := hB0.c 5 _ rfl
  have b6 := hB0.c 6 _ rfl
  have b7 := hB0.c 7 _ rfl
  have b8 := hB0.c 8 _ rfl
  have b9 := hB0.c 9 _ rfl
  have b10 := hB0.c 10 _ rfl
  have b11 := hB0.c 11 _ rfl
  have b12 := hB0.c 12 _ rfl
  have b13 := hB0.c 13 _ rfl
  have r0 := hB0.r 0 _ rfl
  have r1 := hB0.r 1 _ rfl
  have r2 := hB0.r 2 _ rfl
  have r3 := hB0.r 3 _ rfl
  have r4 := hB0.r 4 _ rfl
  have r5 := hB0.r 5 _ rfl
  have r6 := hB0.r 6 _ rfl
  have r7 := hB0.r 7 _ rfl
  have r8 := hB0.r 8 _ rfl
  have r9 := hB0.r 9 _ rfl
  have r10 := hB0.r 10 _ rfl
  have r11 := hB0.r 11 _ rfl
  have r12 := hB0.r 12 _ rfl
  have r13 := hB0.r 13 _ rfl
  have fr := hB0.fr
  have HB0 := hide hB0
  clear hB0
  go_upto_region 10 with fail
  have hBa := HB0.out.putR 3 [.int .i64 p.hunk.at_, .slice x.h.oA p.hunk.old.length x.h.oc, .slice x.h.nA p.hunk.new.length x.h.nc] (by simp)
  obtain ⟨wa, hFa⟩ : ∃ wa, wa = World.setCells W0 (w.heap.size + 1) 3 [.int .i64 p.hunk.at_, .slice x.h.oA p.hunk.old.length x.h.oc, .slice x.h.nA p.hunk.new.length x.h.nc] := ⟨_, rfl⟩
  rw [← hFa] at hBa
  simp only [World.setCells, Nat.reduceAdd] at hFa
  rw [← hFa]
  replace hBa : BxL w wa [.int .u8 3, .string p.file, .string p.text, .int .i64 p.hunk.at_, .slice x.h.oA p.hunk.old.length x.h.oc, .slice x.h.nA p.hunk.new.length x.h.nc, .int .u8 p.edit.kind, .slice x.e.pA p.edit.path.length x.e.pc, .int .i64 p.edit.at_, .int .i64 p.edit.far, .string p.edit.frm, .string p.edit.to, .slice x.e.oA p.edit.old.len x.e.oc, .slice x.e.nA p.edit.new.len x.e.nc] [.int .u8 3, .string p.file, .string ⟨#[]⟩, .int .i64 p.hunk.at_, .slice x.h.oA p.hunk.old.length x.h.oc, .slice x.h.nA p.hunk.new.length x.h.nc, .int .u8 0, .slice none 0 0, .int .i64 0, .int .i64 0, .string ⟨#[]⟩, .string ⟨#[]⟩, .slice none 0 0, .slice none 0 0] := hBa
  have HBa0 := hide hBa
  clear b0 r0 b1 r1 b2 r2 b3 r3 b4 r4 b5 r5 b6 r6 b7 r7 b8 r8 b9 r9 b10 r10 b11 r11 b12 r12 b13 r13 fr HB0 hFa
  have b0 := hBa.c 0 _ rfl
  have b1 := hBa.c 1 _ rfl
  have b2 := hBa.c 2 _ rfl
  have b3 := hBa.c 3 _ rfl
  have b4 := hBa.c 4 _ rfl
  have b5 := hBa.c 5 _ rfl
  have b6 := hBa.c 6 _ rfl
  have b7 := hBa.c 7 _ rfl
  have b8 := hBa.c 8 _ rfl
  have b9 := hBa.c 9 _ rfl
  have b10 := hBa.c 10 _ rfl
  have b11 := hBa.c 11 _ rfl
  have b12 := hBa.c 12 _ rfl
  have b13 := hBa.c 13 _ rfl
  have r0 := hBa.r 0 _ rfl
  have r1 := hBa.r 1 _ rfl
  have r2 := hBa.r 2 _ rfl
  have r3 := hBa.r 3 _ rfl
  have r4 := hBa.r 4 _ rfl
  have r5 := hBa.r 5 _ rfl
  have r6 := hBa.r 6 _ rfl
  have r7 := hBa.r 7 _ rfl
  have r8 := hBa.r 8 _ rfl
  have r9 := hBa.r 9 _ rfl
  have r10 := hBa.r 10 _ rfl
  have r11 := hBa.r 11 _ rfl
  have r12 := hBa.r 12 _ rfl
  have r13 := hBa.r 13 _ rfl
  clear hBa
  have HSm : Hid (∀ W, Below w.heap.size w W → Calls Tryz.prog 17 #[.agg #[.int .u8 3, .string p.file, .string p.text, .int .i64 p.hunk.at_, .slice x.h.oA p.hunk.old.length x.h.oc, .slice x.h.nA p.hunk.new.length x.h.nc, .int .u8 p.edit.kind, .slice x.e.pA p.edit.path.length x.e.pc, .int .i64 p.edit.at_, .int .i64 p.edit.far, .string p.edit.frm, .string p.edit.to, .slice x.e.oA p.edit.old.len x.e.oc, .slice x.e.nA p.edit.new.len x.e.nc], .agg #[.int .u8 3, .string p.file, .string ⟨#[]⟩, .int .i64 p.hunk.at_, .slice x.h.oA p.hunk.old.length x.h.oc, .slice x.h.nA p.hunk.new.length x.h.nc, .int .u8 0, .slice none 0 0, .int .i64 0, .int .i64 0, .string ⟨#[]⟩, .string ⟨#[]⟩, .slice none 0 0, .slice none 0 0]] W fun e1 w' => RetB (({ p with kind := 3 } : Pt) = ⟨3, p.file, ⟨#[]⟩, p.hunk, ⟨0, [], 0, 0, ⟨#[]⟩, ⟨#[]⟩, .nil, .nil⟩⟩) e1 ∧ Below W.heap.size W w') :=
    hide fun W hW => samePatch_any (S' := S) (a := { p with kind := 3 }) (b := ⟨3, p.file, ⟨#[]⟩, p.hunk, ⟨0, [], 0, 0, ⟨#[]⟩, ⟨#[]⟩, .nil, .nil⟩⟩) (x := x) (y := ⟨x.h, ⟨none, 0, none, 0, none, 0⟩⟩) ⟨(by show 3 < 256; omega), H.out.file, H.out.text, H.out.hunk.below hW, H.out.edit.below hW⟩ ⟨(by show 3 < 256; omega), H.out.file, (by show (0 : Nat) ≤ _; omega), H.out.hunk.below hW, zero_ed⟩
  have hfs := H.out.file
  go_wp2_with (first
    | (go_at_call 59; (with_reducible refine (hunkRight3_any (H.out.hunk.below HBa0.out.b)).mono ?_); rintro e1 w1 ⟨⟨c1, rfl, hb⟩, hB⟩; have hC := HBa0.out.call hB; clear b0 r0 b1 r1 b2 r2 b3 r3 b4 r4 b5 r5 b6 r6 b7 r7 b8 r8 b9 r9 b10 r10 b11 r11 b12 r12 b13 r13; have b0 := hC.c 0 _ rfl; have b1 := hC.c 1 _ rfl; have b2 := hC.c 2 _ rfl; have b3 := hC.c 3 _ rfl; have b4 := hC.c 4 _ rfl; have b5 := hC.c 5 _ rfl; have b6 := hC.c 6 _ rfl; have b7 := hC.c 7 _ rfl; have b8 := hC.c 8 _ rfl; have b9 := hC.c 9 _ rfl; have b10 := hC.c 10 _ rfl; have b11 := hC.c 11 _ rfl; have b12 := hC.c 12 _ rfl; have b13 := hC.c 13 _ rfl; have r0 := hC.r 0 _ rfl; have r1 := hC.r 1 _ rfl; have r2 := hC.r 2 _ rfl; have r3 := hC.r 3 _ rfl; have r4 := hC.r 4 _ rfl; have r5 := hC.r 5 _ rfl; have r6 := hC.r 6 _ rfl; have r7 := hC.r 7 _ rfl; have r8 := hC.r 8 _ rfl; have r9 := hC.r 9 _ rfl; have r10 := hC.r 10 _ rfl; have r11 := hC.r 11 _ rfl; have r12 := hC.r 12 _ rfl; have r13 := hC.r 13 _ rfl; have HBa1 := hide hC; have Hb1 := hide hb; clear hb hB hC)
    | (go_at_call 17; (with_reducible refine (HSm.out _ HBa1.out.b).mono ?_); rintro e2 w2 ⟨⟨c2, rfl, hb⟩, hB⟩; have hC := HBa1.out.call hB; clear b0 r0 b1 r1 b2 r2 b3 r3 b4 r4 b5 r5 b6 r6 b7 r7 b8 r8 b9 r9 b10 r10 b11 r11 b12 r12 b13 r13; have b0 := hC.c 0 _ rfl; have b1 := hC.c 1 _ rfl; have b2 := hC.c 2 _ rfl; have b3 := hC.c 3 _ rfl; have b4 := hC.c 4 _ rfl; have b5 := hC.c 5 _ rfl; have b6 := hC.c 6 _ rfl; have b7 := hC.c 7 _ rfl; have b8 := hC.c 8 _ rfl; have b9 := hC.c 9 _ rfl; have b10 := hC.c 10 _ rfl; have b11 := hC.c 11 _ rfl; have b12 := hC.c 12 _ rfl; have b13 := hC.c 13 _ rfl; have r0 := hC.r 0 _ rfl; have r1 := hC.r 1 _ rfl; have r2 := hC.r 2 _ rfl; have r3 := hC.r 3 _ rfl; have r4 := hC.r 4 _ rfl; have r5 := hC.r 5 _ rfl; have r6 := hC.r 6 _ rfl; have r7 := hC.r 7 _ rfl; have r8 := hC.r 8 _ rfl; have r9 := hC.r 9 _ rfl; have r10 := hC.r 10 _ rfl; have r11 := hC.r 11 _ rfl; have r12 := hC.r 12 _ rfl; have r13 := hC.r 13 _ rfl; have HBa2 := hide hC; have Hb2 := hide hb; clear hb hB hC)
    | (go_at_call 61; (with_reducible refine (name20_any p.file _ hfs).mono ?_); rintro e3 w3 ⟨⟨c3, rfl, hb⟩, rfl⟩; have HBa3 := HBa2; have Hb3 := hide hb; clear hb))
  all_goals
    go_ret
    go_tidy
    have hok := @ptOk19_3 p
    try have q1 := Hb1.out
    try have q2 := Hb2.out
    try have q3 := Hb3.out
    refine ⟨RetB.mk ?_, by first | exact HBa3.out.b | exact HBa2.out.b | exact HBa1.out.b | exact HBa0.out.b⟩
    rw [hok]
    clear hok HSm H
    try clear Hb1 HBa1
    try clear Hb2 HBa2
    try clear Hb3 HBa3
    try clear HBa0
    try clear b0 r0 b1 r1 b2 r2 b3 r3 b4 r4 b5 r5 b6 r6 b7 r7 b8 r8 b9 r9 b10 r10 b11 r11 b12 r12 b13 r13
    first
      | grind
     

set_option maxHeartbeats 4000000 in
set_option maxRecDepth 100000 in
theorem patRight19_4 {S : Nat → Prop} {x : Ph} {p : Pt} {w : World} (he : PtIn S w x p) :
    Calls Tryz.prog 30 #[.agg #[.int .u8 4, .string p.file, .string p.text, .int .i64 p.hunk.at_, .slice x.h.oA p.hunk.old.length x.h.oc, .slice x.h.nA p.hunk.new.length x.h.nc, .int .u8 p.edit.kind, .slice x.e.pA p.edit.path.length x.e.pc, .int .i64 p.edit.at_, .int .i64 p.edit.far, .string p.edit.frm, .string p.edit.to, .slice x.e.oA p.edit.old.len x.e.oc, .slice x.e.nA p.edit.new.len x.e.nc]] w fun e1 w' => RetB (PtOk { p with kind := 4 }) e1 ∧ Below w.heap.size w w' := by
  have H := hide he
  obtain ⟨W0, hW0⟩ : ∃ W0, W0 = (w.alloc (.cells #[.int .u8 4, .string p.file, .string p.text, .int .i64 p.hunk.at_, .slice x.h.oA p.hunk.old.length x.h.oc, .slice x.h.nA p.hunk.new.length x.h.nc, .int .u8 p.edit.kind, .slice x.e.pA p.edit.path.length x.e.pc, .int .i64 p.edit.at_, .int .i64 p.edit.far, .string p.edit.frm, .string p.edit.to, .slice x.e.oA p.edit.old.len x.e.oc, .slice x.e.nA p.edit.new.len x.e.nc] 32)).alloc (.cells #[.int .u8 4, .string p.file, .string ⟨#[]⟩, .int .i64 0, .slice none 0 0, .slice none 0 0, .int .u8 0, .slice none 0 0, .int .i64 0, .int .i64 0, .string ⟨#[]⟩, .string ⟨#[]⟩, .slice none 0 0, .slice none 0 0] 32) := ⟨_, rfl⟩
  have hB0 : BxL w W0 [.int .u8 4, .string p.file, .string p.text, .int .i64 p.hunk.at_, .slice x.h.oA p.hunk.old.length x.h.oc, .slice x.h.nA p.hunk.new.length x.h.nc, .int .u8 p.edit.kind, .slice x.e.pA p.edit.path.length x.e.pc, .int .i64 p.edit.at_, .int .i64 p.edit.far, .string p.edit.frm, .string p.edit.to, .slice x.e.oA p.edit.old.len x.e.oc, .slice x.e.nA p.edit.new.len x.e.nc] [.int .u8 4, .string p.file, .string ⟨#[]⟩, .int .i64 0, .slice none 0 0, .slice none 0 0, .int .u8 0, .slice none 0 0, .int .i64 0, .int .i64 0, .string ⟨#[]⟩, .string ⟨#[]⟩, .slice none 0 0, .slice none 0 0] := by rw [hW0]; exact BxL.start w #[.int .u8 4, .string p.file, .string p.text, .int .i64 p.hunk.at_, .slice x.h.oA p.hunk.old.length x.h.oc, .slice x.h.nA p.hunk.new.length x.h.nc, .int .u8 p.edit.kind, .slice x.e.pA p.edit.path.length x.e.pc, .int .i64 p.edit.at_, .int .i64 p.edit.far, .string p.edit.frm, .string p.edit.to, .slice x.e.oA p.edit.old.len x.e.oc, .slice x.e.nA p.edit.new.len x.e.nc] #[.int .u8 4, .string p.file, .string ⟨#[]⟩, .int .i64 0, .slice none 0 0, .slice none 0 0, .int .u8 0, .slice none 0 0, .int .i64 0, .int .i64 0, .string ⟨#[]⟩, .string ⟨#[]⟩, .slice none 0 0, .slice none 0 0] _ _
  have HW0 := hide hW0
  clear he hW0
  go_enter Tryz.func30, Tryz.ntmps30
  go_upto_region 2 with fail
  change Code.wp _ _ _ _ ((w.alloc (.cells #[.int .u8 4, .string p.file, .string p.text, .int .i64 p.hunk.at_, .slice x.h.oA p.hunk.old.length x.h.oc, .slice x.h.nA p.hunk.new.length x.h.nc, .int .u8 p.edit.kind, .slice x.e.pA p.edit.path.length x.e.pc, .int .i64 p.edit.at_, .int .i64 p.edit.far, .string p.edit.frm, .string p.edit.to, .slice x.e.oA p.edit.old.len x.e.oc, .slice x.e.nA p.edit.new.len x.e.nc] 32)).alloc (.cells #[.int .u8 4, .string p.file, .string ⟨#[]⟩, .int .i64 0, .slice none 0 0, .slice none 0 0, .int .u8 0, .slice none 0 0, .int .i64 0, .int .i64 0, .string ⟨#[]⟩, .string ⟨#[]⟩, .slice none 0 0, .slice none 0 0] 32))
  rw [← HW0.out]
  clear HW0
  have b0 := hB0.c 0 _ rfl
  have b1 := hB0.c 1 _ rfl
  have b2 := hB0.c 2 _ rfl
  have b3 := hB0.c 3 _ rfl
  have b4 := hB0.c 4 _ rfl
  have b5 := hB0.c 5 _ rfl
  have b6 := hB0.c 6 _ rfl
  have b7 := hB0.c 7 _ rfl
  have b8 := hB0.c 8 _ rfl
  have b9 := hB0.c 9 _ rfl
  have b10 := hB0.c 10 _ rfl
  have b11 := hB0.c 11 _ rfl
  have b12 := hB0.c 12 _ rfl
  have b13 := hB0.c 13 _ rfl
  have r0 := hB0.r 0 _ rfl
  have r1 := hB0.r 1 _ rfl
  have r2 := hB0.r 2 _ rfl
  have r3 := hB0.r 3 _ rfl
  have r4 := hB0.r 4 _ rfl
  have r5 := hB0.r 5 _ rfl
  have r6 := hB0.r 6 _ rfl
  have r7 := hB0.r 7 _ rfl
  have r8 := hB0.r 8 _ rfl
  have r9 := hB0.r 9 _ rfl
  have r10 := hB0.r 10 _ rfl
  have r11 := hB0.r 11 _ rfl
  have r12 := hB0.r 12 _ rfl
  have r13 := hB0.r 13 _ rfl
  have fr := hB0.fr
  have HB0 := hide hB0
  clear hB0
  go_upto_region 13 with fail
  have hBa := HB0.out.putR 6 [.int .u8 p.edit.kind, .slice x.e.pA p.edit.path.length x.e.pc, .int .i64 p.edit.at_, .int .i64 p.edit.far, .string p.edit.frm, .string p.edit.to, .slice x.e.oA p.edit.old.len x.e.oc, .slice x.e.nA p.edit.new.len x.e.nc] (by simp)
  obtain ⟨wa, hFa⟩ : ∃ wa, wa = World.setCells W0 (w.heap.size + 1) 6 [.int .u8 p.edit.kind, .slice x.e.pA p.edit.path.length x.e.pc, .int .i64 p.edit.at_, .int .i64 p.edit.far, .string p.edit.frm, .string p.edit.to, .slice x.e.oA p.edit.old.len x.e.oc, .slice x.e.nA p.edit.new.len x.e.nc] := ⟨_, rfl⟩
  rw [← hFa] at hBa
  simp only [World.setCells, Nat.reduceAdd] at hFa
  rw [← hFa]
  replace hBa : BxL w wa [.int .u8 4, .string p.file, .string p.text, .int .i64 p.hunk.at_, .slice x.h.oA p.hunk.old.length x.h.oc, .slice x.h.nA p.hunk.new.length x.h.nc, .int .u8 p.edit.kind, .slice x.e.pA p.edit.path.length x.e.pc, .int .i64 p.edit.at_, .int .i64 p.edit.far, .string p.edit.frm, .string p.edit.to, .slice x.e.oA p.edit.old.len x.e.oc, .slice x.e.nA p.edit.new.len x.e.nc] [.int .u8 4, .string p.file, .string ⟨#[]⟩, .int .i64 0, .slice none 0 0, .slice none 0 0, .int .u8 p.edit.kind, .slice x.e.pA p.edit.path.length x.e.pc, .int .i64 p.edit.at_, .int .i64 p.edit.far, .string p.edit.frm, .string p.edit.to, .slice x.e.oA p.edit.old.len x.e.oc, .slice x.e.nA p.edit.new.len x.e.nc] := hBa
  have HBa0 := hide hBa
  clear b0 r0 b1 r1 b2 r2 b3 r3 b4 r4 b5 r5 b6 r6 b7 r7 b8 r8 b9 r9 b10 r10 b11 r11 b12 r12 b13 r13 fr HB0 hFa
  have b0 := hBa.c 0 _ rfl
  have b1 := hBa.c 1 _ rfl
  have b2 := hBa.c 2 _ rfl
  have b3 := hBa.c 3 _ rfl
  have b4 := hBa.c 4 _ rfl
  have b5 := hBa.c 5 _ rfl
  have b6 := hBa.c 6 _ rfl
  have b7 := hBa.c 7 _ rfl
  have b8 := hBa.c 8 _ rfl
  have b9 := hBa.c 9 _ rfl
  have b10 := hBa.c 10 _ rfl
  have b11 := hBa.c 11 _ rfl
  have b12 := hBa.c 12 _ rfl
  have b13 := hBa.c 13 _ rfl
  have r0 := hBa.r 0 _ rfl
  have r1 := hBa.r 1 _ rfl
  have r2 := hBa.r 2 _ rfl
  have r3 := hBa.r 3 _ rfl
  have r4 := hBa.r 4 _ rfl
  have r5 := hBa.r 5 _ rfl
  have r6 := hBa.r 6 _ rfl
  have r7 := hBa.r 7 _ rfl
  have r8 := hBa.r 8 _ rfl
  have r9 := hBa.r 9 _ rfl
  have r10 := hBa.r 10 _ rfl
  have r11 := hBa.r 11 _ rfl
  have r12 := hBa.r 12 _ rfl
  have r13 := hBa.r 13 _ rfl
  clear hBa
  have HSm : Hid (∀ W, Below w.heap.size w W → Calls Tryz.prog 17 #[.agg #[.int .u8 4, .string p.file, .string p.text, .int .i64 p.hunk.at_, .slice x.h.oA p.hunk.old.length x.h.oc, .slice x.h.nA p.hunk.new.length x.h.nc, .int .u8 p.edit.kind, .slice x.e.pA p.edit.path.length x.e.pc, .int .i64 p.edit.at_, .int .i64 p.edit.far, .string p.edit.frm, .string p.edit.to, .slice x.e.oA p.edit.old.len x.e.oc, .slice x.e.nA p.edit.new.len x.e.nc], .agg #[.int .u8 4, .string p.file, .string ⟨#[]⟩, .int .i64 0, .slice none 0 0, .slice none 0 0, .int .u8 p.edit.kind, .slice x.e.pA p.edit.path.length x.e.pc, .int .i64 p.edit.at_, .int .i64 p.edit.far, .string p.edit.frm, .string p.edit.to, .slice x.e.oA p.edit.old.len x.e.oc, .slice x.e.nA p.edit.new.len x.e.nc]] W fun e1 w' => RetB (({ p with kind := 4 } : Pt) = ⟨4, p.file, ⟨#[]⟩, ⟨0, [], []⟩, p.edit⟩) e1 ∧ Below W.heap.size W w') :=
    hide fun W hW => samePatch_any (S' := S) (a := { p with kind := 4 }) (b := ⟨4, p.file, ⟨#[]⟩, ⟨0, [], []⟩, p.edit⟩) (x := x) (y := ⟨⟨none, 0, none, 0⟩, x.e⟩) ⟨(by show 4 < 256; omega), H.out.file, H.out.text, H.out.hunk.below hW, H.out.edit.below hW⟩ ⟨(by show 4 < 256; omega), H.out.file, (by show (0 : Nat) ≤ _; omega), zero_hk, H.out.edit.below hW⟩
  have hfs := H.out.file
  go_wp2_with (first
    | (go_at_call 60; (with_reducible refine (edRight14_any (H.out.edit.below HBa0.out.b)).mono ?_); rintro e1 w1 ⟨⟨c1, rfl, hb⟩, hB⟩; have hC := HBa0.out.call hB; clear b0 r0 b1 r1 b2 r2 b3 r3 b4 r4 b5 r5 b6 r6 b7 r7 b8 r8 b9 r9 b10 r10 b11 r11 b12 r12 b13 r13; have b0 := hC.c 0 _ rfl; have b1 := hC.c 1 _ rfl; have b2 := hC.c 2 _ rfl; have b3 := hC.c 3 _ rfl; have b4 := hC.c 4 _ rfl; have b5 := hC.c 5 _ rfl; have b6 := hC.c 6 _ rfl; have b7 := hC.c 7 _ rfl; have b8 := hC.c 8 _ rfl; have b9 := hC.c 9 _ rfl; have b10 := hC.c 10 _ rfl; have b11 := hC.c 11 _ rfl; have b12 := hC.c 12 _ rfl; have b13 := hC.c 13 _ rfl; have r0 := hC.r 0 _ rfl; have r1 := hC.r 1 _ rfl; have r2 := hC.r 2 _ rfl; have r3 := hC.r 3 _ rfl; have r4 := hC.r 4 _ rfl; have r5 := hC.r 5 _ rfl; have r6 := hC.r 6 _ rfl; have r7 := hC.r 7 _ rfl; have r8 := hC.r 8 _ rfl; have r9 := hC.r 9 _ rfl; have r10 := hC.r 10 _ rfl; have r11 := hC.r 11 _ rfl; have r12 := hC.r 12 _ rfl; have r13 := hC.r 13 _ rfl; have HBa1 := hide hC; have Hb1 := hide hb; clear hb hB hC)
    | (go_at_call 17; (with_reducible refine (HSm.out _ HBa1.out.b).mono ?_); rintro e2 w2 ⟨⟨c2, rfl, hb⟩, hB⟩; have hC := HBa1.out.call hB; clear b0 r0 b1 r1 b2 r2 b3 r3 b4 r4 b5 r5 b6 r6 b7 r7 b8 r8 b9 r9 b10 r10 b11 r11 b12 r12 b13 r13; have b0 := hC.c 0 _ rfl; have b1 := hC.c 1 _ rfl; have b2 := hC.c 2 _ rfl; have b3 := hC.c 3 _ rfl; have b4 := hC.c 4 _ rfl; have b5 := hC.c 5 _ rfl; have b6 := hC.c 6 _ rfl; have b7 := hC.c 7 _ rfl; have b8 := hC.c 8 _ rfl; have b9 := hC.c 9 _ rfl; have b10 := hC.c 10 _ rfl; have b11 := hC.c 11 _ rfl; have b12 := hC.c 12 _ rfl; have b13 := hC.c 13 _ rfl; have r0 := hC.r 0 _ rfl; have r1 := hC.r 1 _ rfl; have r2 := hC.r 2 _ rfl; have r3 := hC.r 3 _ rfl; have r4 := hC.r 4 _ rfl; have r5 := hC.r 5 _ rfl; have r6 := hC.r 6 _ rfl; have r7 := hC.r 7 _ rfl; have r8 := hC.r 8 _ rfl; have r9 := hC.r 9 _ rfl; have r10 := hC.r 10 _ rfl; have r11 := hC.r 11 _ rfl; have r12 := hC.r 12 _ rfl; have r13 := hC.r 13 _ rfl; have HBa2 := hide hC; have Hb2 := hide hb; clear hb hB hC)
    | (go_at_call 61; (with_reducible refine (name20_any p.file _ hfs).mono ?_); rintro e3 w3 ⟨⟨c3, rfl, hb⟩, rfl⟩; have HBa3 := HBa2; have Hb3 := hide hb; clear hb))
  all_goals
    go_ret
    go_tidy
    have hok := @ptOk19_4 p
    try have q1 := Hb1.out
    try have q2 := Hb2.out
    try have q3 := Hb3.out
    refine ⟨RetB.mk ?_, by first | exact HBa3.out.b | exact HBa2.out.b | exact HBa1.out.b | exact HBa0.out.b⟩
    rw [hok]
    clear hok HSm H
    try clear Hb1 HBa1
    try clear Hb2 HBa2
    try clear Hb3 HBa3
    try clear HBa0
    try clear b0 r0 b1 r1 b2 r2 b3 r3 b4 r4 b5 r5 b6 r6 b7 r7 b8 r8 b9 r9 b10 r10 b11 r11 b12 r12 b13 r13
    first
      | grind
     

set_option maxHeartbeats 4000000 in
set_option maxRecDepth 100000 in
theorem patRight19_0 {S : Nat → Prop} {x : Ph} {p : Pt} {w : World} (he : PtIn S w x p) (h1 : p.kind ≠ 1) (h2 : p.kind ≠ 2) (h3 : p.kind ≠ 3) (h4 : p.kind ≠ 4) :
    Calls Tryz.prog 30 #[.agg #[.int .u8 p.kind, .string p.file, .string p.text, .int .i64 p.hunk.at_, .slice x.h.oA p.hunk.old.length x.h.oc, .slice x.h.nA p.hunk.new.length x.h.nc, .int .u8 p.edit.kind, .slice x.e.pA p.edit.path.length x.e.pc, .int .i64 p.edit.at_, .int .i64 p.edit.far, .string p.edit.frm, .string p.edit.to, .slice x.e.oA p.edit.old.len x.e.oc, .slice x.e.nA p.edit.new.len x.e.nc]] w fun e1 w' => RetB (PtOk p) e1 ∧ Below w.heap.size w w' := by
  have hno := hide (ptOk19_0 h1 h2 h3 h4)
  have n1 : ((p.kind : Int) == 1) = false := by rw [beq_eq_false_iff_ne]; omega
  have n2 : ((p.kind : Int) == 2) = false := by rw [beq_eq_false_iff_ne]; omega
  have n3 : ((p.kind : Int) == 3) = false := by rw [beq_eq_false_iff_ne]; omega
  have n4 : ((p.kind : Int) == 4) = false := by rw [beq_eq_false_iff_ne]; omega
  clear h1 h2 h3 h4
  have H := hide he
  obtain ⟨W0, hW0⟩ : ∃ W0, W0 = (w.alloc (.cells #[.int .u8 p.kind, .string p.file, .string p.text, .int .i64 p.hunk.at_, .slice x.h.oA p.hunk.old.length x.h.oc, .slice x.h.nA p.hunk.new.length x.h.nc, .int .u8 p.edit.kind, .slice x.e.pA p.edit.path.length x.e.pc, .int .i64 p.edit.at_, .int .i64 p.edit.far, .string p.edit.frm, .string p.edit.to, .slice x.e.oA p.edit.old.len x.e.oc, .slice x.e.nA p.edit.new.len x.e.nc] 32)).alloc (.cells #[.int .u8 p.kind, .string p.file, .string ⟨#[]⟩, .int .i64 0, .slice none 0 0, .slice none 0 0, .int .u8 0, .slice none 0 0, .int .i64 0, .int .i64 0, .string ⟨#[]⟩, .string ⟨#[]⟩, .slice none 0 0, .slice none 0 0] 32) := ⟨_, rfl⟩
  have hB0 : BxL w W0 [.int .u8 p.kind, .string p.file, .string p.text, .int .i64 p.hunk.at_, .slice x.h.oA p.hunk.old.length x.h.oc, .slice x.h.nA p.hunk.new.length x.h.nc, .int .u8 p.edit.kind, .slice x.e.pA p.edit.path.length x.e.pc, .int .i64 p.edit.at_, .int .i64 p.edit.far, .string p.edit.frm, .string p.edit.to, .slice x.e.oA p.edit.old.len x.e.oc, .slice x.e.nA p.edit.new.len x.e.nc] [.int .u8 p.kind, .string p.file, .string ⟨#[]⟩, .int .i64 0, .slice none 0 0, .slice none 0 0, .int .u8 0, .slice none 0 0, .int .i64 0, .int .i64 0, .string ⟨#[]⟩, .string ⟨#[]⟩, .slice none 0 0, .slice none 0 0] := by rw [hW0]; exact BxL.start w #[.int .u8 p.kind, .string p.file, .string p.text, .int .i64 p.hunk.at_, .slice x.h.oA p.hunk.old.length x.h.oc, .slice x.h.nA p.hunk.new.length x.h.nc, .int .u8 p.edit.kind, .slice x.e.pA p.edit.path.length x.e.pc, .int .i64 p.edit.at_, .int .i64 p.edit.far, .string p.edit.frm, .string p.edit.to, .slice x.e.oA p.edit.old.len x.e.oc, .slice x.e.nA p.edit.new.len x.e.nc] #[.int .u8 p.kind, .string p.file, .string ⟨#[]⟩, .int .i64 0, .slice none 0 0, .slice none 0 0, .int .u8 0, .slice none 0 0, .int .i64 0, .int .i64 0, .string ⟨#[]⟩, .string ⟨#[]⟩, .slice none 0 0, .slice none 0 0] _ _
  have HW0 := hide hW0
  clear he hW0
  go_enter Tryz.func30, Tryz.ntmps30
  go_upto_region 2 with fail
  change Code.wp _ _ _ _ ((w.alloc (.cells #[.int .u8 p.kind, .string p.file, .string p.text, .int .i64 p.hunk.at_, .slice x.h.oA p.hunk.old.length x.h.oc, .slice x.h.nA p.hunk.new.length x.h.nc, .int .u8 p.edit.kind, .slice x.e.pA p.edit.path.length x.e.pc, .int .i64 p.edit.at_, .int .i64 p.edit.far, .string p.edit.frm, .string p.edit.to, .slice x.e.oA p.edit.old.len x.e.oc, .slice x.e.nA p.edit.new.len x.e.nc] 32)).alloc (.cells #[.int .u8 p.kind, .string p.file, .string ⟨#[]⟩, .int .i64 0, .slice none 0 0, .slice none 0 0, .int .u8 0, .slice none 0 0, .int .i64 0, .int .i64 0, .string ⟨#[]⟩, .string ⟨#[]⟩, .slice none 0 0, .slice none 0 0] 32))
  rw [← HW0.out]
  clear HW0
  have b0 := hB0.c 0 _ rfl
  have b1 := hB0.c 1 _ rfl
  have b2 := hB0.c 2 _ rfl
  have b3 := hB0.c 3 _ rfl
  have b4 := hB0.c 4 _ rfl
  have b5 := hB0.c 5 _ rfl
  have b6 := hB0.c 6 _ rfl
  have b7 := hB0.c 7 _ rfl
  have b8 := hB0.c 8 _ rfl
  have b9 := hB0.c 9 _ rfl
  have b10 := hB0.c 10 _ rfl
  have b11 := hB0.c 11 _ rfl
  have b12 := hB0.c 12 _ rfl
  have b13 := hB0.c 13 _ rfl
  have r0 := hB0.r 0 _ rfl
  have r1 := hB0.r 1 _ rfl
  have r2 := hB0.r 2 _ rfl
  have r3 := hB0.r 3 _ rfl
  have r4 := hB0.r 4 _ rfl
  have r5 := hB0.r 5 _ rfl
  have r6 := hB0.r 6 _ rfl
  have r7 := hB0.r 7 _ rfl
  have r8 := hB0.r 8 _ rfl
  have r9 := hB0.r 9 _ rfl
  have r10 := hB0.r 10 _ rfl
  have r11 := hB0.r 11 _ rfl
  have r12 := hB0.r 12 _ rfl
  have r13 := hB0.r 13 _ rfl
  have HB0 := hide hB0
  clear hB0
  go_wp2_with fail
  go_ret
  exact ⟨RetB.no hno.out, HB0.out.b⟩

theorem patRight19_any {S : Nat → Prop} {x : Ph} {p : Pt} {w : World} (he : PtIn S w x p) :
    Calls Tryz.prog 30 #[.agg #[.int .u8 p.kind, .string p.file, .string p.text, .int .i64 p.hunk.at_, .slice x.h.oA p.hunk.old.length x.h.oc, .slice x.h.nA p.hunk.new.length x.h.nc, .int .u8 p.edit.kind, .slice x.e.pA p.edit.path.length x.e.pc, .int .i64 p.edit.at_, .int .i64 p.edit.far, .string p.edit.frm, .string p.edit.to, .slice x.e.oA p.edit.old.len x.e.oc, .slice x.e.nA p.edit.new.len x.e.nc]] w fun e1 w' => RetB (PtOk p) e1 ∧ Below w.heap.size w w' := by
  obtain ⟨kd, file, text, hunk, edit⟩ := p
  by_cases h1 : kd = 1
  · subst h1; exact patRight19_1 he
  by_cases h2 : kd = 2
  · subst h2; exact patRight19_2 he
  by_cases h3 : kd = 3
  · subst h3; exact patRight19_3 he
  by_cases h4 : kd = 4
  · subst h4; exact patRight19_4 he
  exact patRight19_0 he h1 h2 h3 h4

end Go.Proofs.YtfhfkbdaglegpaaGreatDoor
