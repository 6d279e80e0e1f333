/- Hunks and edits that were lent are as they were (kit.KeptHunk, kit.KeptEdit). Printed by gen_kept.py. -/
import Derived.Deep.CutBlock
import Derived.Test.YtfhfkbdaglegpaaGreatDoorTKeptR
import Derived.Test.YtfhfkbdaglegpaaGreatDoorTKeptN
import Derived.Test.YtfhfkbdaglegpaaGreatDoorTSame

set_option linter.unusedVariables false
set_option linter.unusedSimpArgs false

namespace Go.Proofs.YtfhfkbdaglegpaaGreatDoor
open Go.RowKit

theorem sameHunk_yes {S S' : Nat → Prop} {x y : Hh} {a : Hk} {w : World} (h : HkIn S w x a) (h' : HkIn S' w y a) :
    Calls Tryz.prog 43 #[.agg #[.int .i64 a.at_, .slice x.oA a.old.length x.oc, .slice x.nA a.new.length x.nc], .agg #[.int .i64 a.at_, .slice y.oA a.old.length y.oc, .slice y.nA a.new.length y.nc]] w fun e w' => e = .returned (.bool true) ∧ Below w.heap.size w w' := by
  refine (sameHunk_any h h').mono ?_
  rintro e w' ⟨⟨b, rfl, hb⟩, hB⟩
  exact ⟨by rw [hb.2 rfl], hB⟩
theorem sameEdit_yes {S S' : Nat → Prop} {x y : Eh} {a : Ed} {w : World} (h : EdIn S w x a) (h' : EdIn S' w y a) :
    Calls Tryz.prog 44 #[.agg #[.int .u8 a.kind, .slice x.pA a.path.length x.pc, .int .i64 a.at_, .int .i64 a.far, .string a.frm, .string a.to, .slice x.oA a.old.len x.oc, .slice x.nA a.new.len x.nc], .agg #[.int .u8 a.kind, .slice y.pA a.path.length y.pc, .int .i64 a.at_, .int .i64 a.far, .string a.frm, .string a.to, .slice y.oA a.old.len y.oc, .slice y.nA a.new.len y.nc]] w fun e w' => e = .returned (.bool true) ∧ Below w.heap.size w w' := by
  refine (sameEdit_any h h').mono ?_
  rintro e w' ⟨⟨b, rfl, hb⟩, hB⟩
  exact ⟨by rw [hb.2 rfl], hB⟩
theorem samePatch_yes {S S' : Nat → Prop} {x y : Ph} {a : Pt} {w : World} (h : PtIn S w x a) (h' : PtIn S' w y a) :
    Calls Tryz.prog 17 #[.agg #[.int .u8 a.kind, .string a.file, .string a.text, .int .i64 a.hunk.at_, .slice x.h.oA a.hunk.old.length x.h.oc, .slice x.h.nA a.hunk.new.length x.h.nc, .int .u8 a.edit.kind, .slice x.e.pA a.edit.path.length x.e.pc, .int .i64 a.edit.at_, .int .i64 a.edit.far, .string a.edit.frm, .string a.edit.to, .slice x.e.oA a.edit.old.len x.e.oc, .slice x.e.nA a.edit.new.len x.e.nc], .agg #[.int .u8 a.kind, .string a.file, .string a.text, .int .i64 a.hunk.at_, .slice y.h.oA a.hunk.old.length y.h.oc, .slice y.h.nA a.hunk.new.length y.h.nc, .int .u8 a.edit.kind, .slice y.e.pA a.edit.path.length y.e.pc, .int .i64 a.edit.at_, .int .i64 a.edit.far, .string a.edit.frm, .string a.edit.to, .slice y.e.oA a.edit.old.len y.e.oc, .slice y.e.nA a.edit.new.len y.e.nc]] w fun e w' => e = .returned (.bool true) ∧ Below w.heap.size w w' := by
  refine (samePatch_any h h').mono ?_
  rintro e w' ⟨⟨b, rfl, hb⟩, hB⟩
  exact ⟨by rw [hb.2 rfl], hB⟩

set_option maxHeartbeats 4000000 in
set_option maxRecDepth 100000 in
theorem keptHunk_any {S S' : Nat → Prop} {x y : Hh} {h : Hk} {w : World} (ho : LentHk S w x h) (hl : HkIn S' w y h) :
    Calls Tryz.prog 35 #[.agg #[.int .i64 h.at_, .slice x.oA h.old.length x.oc, .slice x.nA h.new.length x.nc], .agg #[.int .i64 h.at_, .slice y.oA h.old.length y.oc, .slice y.nA h.new.length y.nc]] w fun e w' => e = .returned (.bool true) ∧ Below w.heap.size w w' := by
  have Ho := hide ho
  have Hl := hide hl
  clear ho hl
  obtain ⟨W0, hW0⟩ : ∃ W0, W0 = (w.alloc (.cells #[.int .i64 h.at_, .slice x.oA h.old.length x.oc, .slice x.nA h.new.length x.nc] 25)).alloc (.cells #[.int .i64 h.at_, .slice y.oA h.old.length y.oc, .slice y.nA h.new.length y.nc] 25) := ⟨_, rfl⟩
  have hB0 : BxL w W0 [.int .i64 h.at_, .slice x.oA h.old.length x.oc, .slice x.nA h.new.length x.nc] [.int .i64 h.at_, .slice y.oA h.old.length y.oc, .slice y.nA h.new.length y.nc] := by rw [hW0]; exact BxL.start w #[.int .i64 h.at_, .slice x.oA h.old.length x.oc, .slice x.nA h.new.length x.nc] #[.int .i64 h.at_, .slice y.oA h.old.length y.oc, .slice y.nA h.new.length y.nc] _ _
  have HW0 := hide hW0
  clear hW0
  go_enter Tryz.func35, Tryz.ntmps35
  go_upto_region 1 with fail
  change Code.wp _ _ _ _ ((w.alloc (.cells #[.int .i64 h.at_, .slice x.oA h.old.length x.oc, .slice x.nA h.new.length x.nc] 25)).alloc (.cells #[.int .i64 h.at_, .slice y.oA h.old.length y.oc, .slice y.nA h.new.length y.nc] 25))
  rw [← HW0.out]
  clear HW0
  have b0 := hB0.c 0 _ rfl
  have b1 := hB0.c 1 _ rfl
  have b2 := hB0.c 2 _ rfl
  have r0 := hB0.r 0 _ rfl
  have r1 := hB0.r 1 _ rfl
  have r2 := hB0.r 2 _ rfl
  have HB0 := hide hB0
  clear hB0
  go_wp2_with (first
    | (go_at_call 43; (with_reducible refine (sameHunk_yes (Ho.out.below HB0.out.b).hk (Hl.out.below HB0.out.b)).mono ?_); rintro e0 w1 ⟨rfl, hB⟩; have hC := HB0.out.call hB; clear b0 r0 b1 r1 b2 r2; have b0 := hC.c 0 _ rfl; have b1 := hC.c 1 _ rfl; have b2 := hC.c 2 _ rfl; have r0 := hC.r 0 _ rfl; have r1 := hC.r 1 _ rfl; have r2 := hC.r 2 _ rfl; have HB1 := hide hC; clear hB hC)
    | (go_at_call 64; (with_reducible refine (keptTexts_any (Ho.out.old.below HB1.out.b) (Hl.out.old.below HB1.out.b)).mono ?_); rintro e1 w2 ⟨rfl, hB⟩; have hC := HB1.out.call hB; clear b0 r0 b1 r1 b2 r2; have b0 := hC.c 0 _ rfl; have b1 := hC.c 1 _ rfl; have b2 := hC.c 2 _ rfl; have r0 := hC.r 0 _ rfl; have r1 := hC.r 1 _ rfl; have r2 := hC.r 2 _ rfl; have HB2 := hide hC; clear hB hC)
    | (go_at_call 64; (with_reducible refine (keptTexts_any (Ho.out.new.below HB2.out.b) (Hl.out.new.below HB2.out.b)).mono ?_); rintro e2 w3 ⟨rfl, hB⟩; have hC := HB2.out.call hB;  have HB3 := hide hC; clear hB hC))
  go_ret
  exact ⟨rfl, HB3.out.b⟩

set_option maxHeartbeats 4000000 in
set_option maxRecDepth 100000 in
theorem keptEdit_any {S S' : Nat → Prop} {x y : Eh} {h : Ed} {w : World} (ho : LentEd S w x h) (hl : EdIn S' w y h) :
    Calls Tryz.prog 36 #[.agg #[.int .u8 h.kind, .slice x.pA h.path.length x.pc, .int .i64 h.at_, .int .i64 h.far, .string h.frm, .string h.to, .slice x.oA h.old.len x.oc, .slice x.nA h.new.len x.nc], .agg #[.int .u8 h.kind, .slice y.pA h.path.length y.pc, .int .i64 h.at_, .int .i64 h.far, .string h.frm, .string h.to, .slice y.oA h.old.len y.oc, .slice y.nA h.new.len y.nc]] w fun e w' => e = .returned (.bool true) ∧ Below w.heap.size w w' := by
  have Ho := hide ho
  have Hl := hide hl
  clear ho hl
  obtain ⟨W0, hW0⟩ : ∃ W0, W0 = (w.alloc (.cells #[.int .u8 h.kind, .slice x.pA h.path.length x.pc, .int .i64 h.at_, .int .i64 h.far, .string h.frm, .string h.to, .slice x.oA h.old.len x.oc, .slice x.nA h.new.len x.nc] 30)).alloc (.cells #[.int .u8 h.kind, .slice y.pA h.path.length y.pc, .int .i64 h.at_, .int .i64 h.far, .string h.frm, .string h.to, .slice y.oA h.old.len y.oc, .slice y.nA h.new.len y.nc] 30) := ⟨_, rfl⟩
  have hB0 : BxL w W0 [.int .u8 h.kind, .slice x.pA h.path.length x.pc, .int .i64 h.at_, .int .i64 h.far, .string h.frm, .string h.to, .slice x.oA h.old.len x.oc, .slice x.nA h.new.len x.nc] [.int .u8 h.kind, .slice y.pA h.path.length y.pc, .int .i64 h.at_, .int .i64 h.far, .string h.frm, .string h.to, .slice y.oA h.old.len y.oc, .slice y.nA h.new.len y.nc] := by rw [hW0]; exact BxL.start w #[.int .u8 h.kind, .slice x.pA h.path.length x.pc, .int .i64 h.at_, .int .i64 h.far, .string h.frm, .string h.to, .slice x.oA h.old.len x.oc, .slice x.nA h.new.len x.nc] #[.int .u8 h.kind, .slice y.pA h.path.length y.pc, .int .i64 h.at_, .int .i64 h.far, .string h.frm, .string h.to, .slice y.oA h.old.len y.oc, .slice y.nA h.new.len y.nc] _ _
  have HW0 := hide hW0
  clear hW0
  go_enter Tryz.func36, Tryz.ntmps36
  go_upto_region 1 with fail
  change Code.wp _ _ _ _ ((w.alloc (.cells #[.int .u8 h.kind, .slice x.pA h.path.length x.pc, .int .i64 h.at_, .int .i64 h.far, .string h.frm, .string h.to, .slice x.oA h.old.len x.oc, .slice x.nA h.new.len x.nc] 30)).alloc (.cells #[.int .u8 h.kind, .slice y.pA h.path.length y.pc, .int .i64 h.at_, .int .i64 h.far, .string h.frm, .string h.to, .slice y.oA h.old.len y.oc, .slice y.nA h.new.len y.nc] 30))
  rw [← HW0.out]
  clear HW0
  have b0 := hB0.c 0 _ rfl
  have b1 := hB0.c 1 _ rfl
  have b2 := hB0.c 2 _ rfl
  have b3 := hB0.c 3 _ rfl
  have b4 := hB0.c 4 _ rfl
  have b5 := hB0.c 5 _ rfl
  have b6 := hB0.c 6 _ rfl
  have b7 := hB0.c 7 _ rfl
  have r0 := hB0.r 0 _ rfl
  have r1 := hB0.r 1 _ rfl
  have r2 := hB0.r 2 _ rfl
  have r3 := hB0.r 3 _ rfl
  have r4 := hB0.r 4 _ rfl
  have r5 := hB0.r 5 _ rfl
  have r6 := hB0.r 6 _ rfl
  have r7 := hB0.r 7 _ rfl
  have HB0 := hide hB0
  clear hB0
  go_wp2_with (first
    | (go_at_call 44; (with_reducible refine (sameEdit_yes (Ho.out.below HB0.out.b).ed (Hl.out.below HB0.out.b)).mono ?_); rintro e0 w1 ⟨rfl, hB⟩; have hC := HB0.out.call hB; clear b0 r0 b1 r1 b2 r2 b3 r3 b4 r4 b5 r5 b6 r6 b7 r7; have b0 := hC.c 0 _ rfl; have b1 := hC.c 1 _ rfl; have b2 := hC.c 2 _ rfl; have b3 := hC.c 3 _ rfl; have b4 := hC.c 4 _ rfl; have b5 := hC.c 5 _ rfl; have b6 := hC.c 6 _ rfl; have b7 := hC.c 7 _ rfl; have r0 := hC.r 0 _ rfl; have r1 := hC.r 1 _ rfl; have r2 := hC.r 2 _ rfl; have r3 := hC.r 3 _ rfl; have r4 := hC.r 4 _ rfl; have r5 := hC.r 5 _ rfl; have r6 := hC.r 6 _ rfl; have r7 := hC.r 7 _ rfl; have HB1 := hide hC; clear hB hC)
    | (go_at_call 65; (with_reducible refine (keptInts_any (Ho.out.path.below HB1.out.b) (Hl.out.path.below HB1.out.b)).mono ?_); rintro e1 w2 ⟨rfl, hB⟩; have hC := HB1.out.call hB; clear b0 r0 b1 r1 b2 r2 b3 r3 b4 r4 b5 r5 b6 r6 b7 r7; have b0 := hC.c 0 _ rfl; have b1 := hC.c 1 _ rfl; have b2 := hC.c 2 _ rfl; have b3 := hC.c 3 _ rfl; have b4 := hC.c 4 _ rfl; have b5 := hC.c 5 _ rfl; have b6 := hC.c 6 _ rfl; have b7 := hC.c 7 _ rfl; have r0 := hC.r 0 _ rfl; have r1 := hC.r 1 _ rfl; have r2 := hC.r 2 _ rfl; have r3 := hC.r 3 _ rfl; have r4 := hC.r 4 _ rfl; have r5 := hC.r 5 _ rfl; have r6 := hC.r 6 _ rfl; have r7 := hC.r 7 _ rfl; have HB2 := hide hC; clear hB hC)
    | (go_at_call 66; (with_reducible refine (keptNodes_any (Ho.out.old.below HB2.out.b) (Hl.out.old.below HB2.out.b)).mono ?_); rintro e2 w3 ⟨rfl, hB⟩; have hC := HB2.out.call hB; clear b0 r0 b1 r1 b2 r2 b3 r3 b4 r4 b5 r5 b6 r6 b7 r7; have b0 := hC.c 0 _ rfl; have b1 := hC.c 1 _ rfl; have b2 := hC.c 2 _ rfl; have b3 := hC.c 3 _ rfl; have b4 := hC.c 4 _ rfl; have b5 := hC.c 5 _ rfl; have b6 := hC.c 6 _ rfl; have b7 := hC.c 7 _ rfl; have r0 := hC.r 0 _ rfl; have r1 := hC.r 1 _ rfl; have r2 := hC.r 2 _ rfl; have r3 := hC.r 3 _ rfl; have r4 := hC.r 4 _ rfl; have r5 := hC.r 5 _ rfl; have r6 := hC.r 6 _ rfl; have r7 := hC.r 7 _ rfl; have HB3 := hide hC; clear hB hC)
    | (go_at_call 66; (with_reducible refine (keptNodes_any (Ho.out.new.below HB3.out.b) (Hl.out.new.below HB3.out.b)).mono ?_); rintro e3 w4 ⟨rfl, hB⟩; have hC := HB3.out.call hB;  have HB4 := hide hC; clear hB hC))
  go_ret
  exact ⟨rfl, HB4.out.b⟩

end Go.Proofs.YtfhfkbdaglegpaaGreatDoor

namespace Go.Proofs.YtfhfkbdaglegpaaGreatDoor
open Go.RowKit

set_option maxHeartbeats 4000000 in
set_option maxRecDepth 100000 in
theorem keptPatch_any {S S' : Nat → Prop} {x y : Ph} {h : Pt} {w : World} (ho : LentPt S w x h) (hl : PtIn S' w y h) :
    Calls Tryz.prog 12 #[.agg #[.int .u8 h.kind, .string h.file, .string h.text, .int .i64 h.hunk.at_, .slice x.h.oA h.hunk.old.length x.h.oc, .slice x.h.nA h.hunk.new.length x.h.nc, .int .u8 h.edit.kind, .slice x.e.pA h.edit.path.length x.e.pc, .int .i64 h.edit.at_, .int .i64 h.edit.far, .string h.edit.frm, .string h.edit.to, .slice x.e.oA h.edit.old.len x.e.oc, .slice x.e.nA h.edit.new.len x.e.nc], .agg #[.int .u8 h.kind, .string h.file, .string h.text, .int .i64 h.hunk.at_, .slice y.h.oA h.hunk.old.length y.h.oc, .slice y.h.nA h.hunk.new.length y.h.nc, .int .u8 h.edit.kind, .slice y.e.pA h.edit.path.length y.e.pc, .int .i64 h.edit.at_, .int .i64 h.edit.far, .string h.edit.frm, .string h.edit.to, .slice y.e.oA h.edit.old.len y.e.oc, .slice y.e.nA h.edit.new.len y.e.nc]] w fun e w' => e = .returned (.bool true) ∧ Below w.heap.size w w' := by
  have Ho := hide ho
  have Hl := hide hl
  clear ho hl
  obtain ⟨W0, hW0⟩ : ∃ W0, W0 = (w.alloc (.cells #[.int .u8 h.kind, .string h.file, .string h.text, .int .i64 h.hunk.at_, .slice x.h.oA h.hunk.old.length x.h.oc, .slice x.h.nA h.hunk.new.length x.h.nc, .int .u8 h.edit.kind, .slice x.e.pA h.edit.path.length x.e.pc, .int .i64 h.edit.at_, .int .i64 h.edit.far, .string h.edit.frm, .string h.edit.to, .slice x.e.oA h.edit.old.len x.e.oc, .slice x.e.nA h.edit.new.len x.e.nc] 32)).alloc (.cells #[.int .u8 h.kind, .string h.file, .string h.text, .int .i64 h.hunk.at_, .slice y.h.oA h.hunk.old.length y.h.oc, .slice y.h.nA h.hunk.new.length y.h.nc, .int .u8 h.edit.kind, .slice y.e.pA h.edit.path.length y.e.pc, .int .i64 h.edit.at_, .int .i64 h.edit.far, .string h.edit.frm, .string h.edit.to, .slice y.e.oA h.edit.old.len y.e.oc, .slice y.e.nA h.edit.new.len y.e.nc] 32) := ⟨_, rfl⟩
  have hB0 : BxL w W0 [.int .u8 h.kind, .string h.file, .string h.text, .int .i64 h.hunk.at_, .slice x.h.oA h.hunk.old.length x.h.oc, .slice x.h.nA h.hunk.new.length x.h.nc, .int .u8 h.edit.kind, .slice x.e.pA h.edit.path.length x.e.pc, .int .i64 h.edit.at_, .int .i64 h.edit.far, .string h.edit.frm, .string h.edit.to, .slice x.e.oA h.edit.old.len x.e.oc, .slice x.e.nA h.edit.new.len x.e.nc] [.int .u8 h.kind, .string h.file, .string h.text, .int .i64 h.hunk.at_, .slice y.h.oA h.hunk.old.length y.h.oc, .slice y.h.nA h.hunk.new.length y.h.nc, .int .u8 h.edit.kind, .slice y.e.pA h.edit.path.length y.e.pc, .int .i64 h.edit.at_, .int .i64 h.edit.far, .string h.edit.frm, .string h.edit.to, .slice y.e.oA h.edit.old.len y.e.oc, .slice y.e.nA h.edit.new.len y.e.nc] := by rw [hW0]; exact BxL.start w #[.int .u8 h.kind, .string h.file, .string h.text, .int .i64 h.hunk.at_, .slice x.h.oA h.hunk.old.length x.h.oc, .slice x.h.nA h.hunk.new.length x.h.nc, .int .u8 h.edit.kind, .slice x.e.pA h.edit.path.length x.e.pc, .int .i64 h.edit.at_, .int .i64 h.edit.far, .string h.edit.frm, .string h.edit.to, .slice x.e.oA h.edit.old.len x.e.oc, .slice x.e.nA h.edit.new.len x.e.nc] #[.int .u8 h.kind, .string h.file, .string h.text, .int .i64 h.hunk.at_, .slice y.h.oA h.hunk.old.length y.h.oc, .slice y.h.nA h.hunk.new.length y.h.nc, .int .u8 h.edit.kind, .slice y.e.pA h.edit.path.length y.e.pc, .int .i64 h.edit.at_, .int .i64 h.edit.far, .string h.edit.frm, .string h.edit.to, .slice y.e.oA h.edit.old.len y.e.oc, .slice y.e.nA h.edit.new.len y.e.nc] _ _
  have HW0 := hide hW0
  clear hW0
  go_enter Tryz.func12, Tryz.ntmps12
  go_upto_region 1 with fail
  change Code.wp _ _ _ _ ((w.alloc (.cells #[.int .u8 h.kind, .string h.file, .string h.text, .int .i64 h.hunk.at_, .slice x.h.oA h.hunk.old.length x.h.oc, .slice x.h.nA h.hunk.new.length x.h.nc, .int .u8 h.edit.kind, .slice x.e.pA h.edit.path.length x.e.pc, .int .i64 h.edit.at_, .int .i64 h.edit.far, .string h.edit.frm, .string h.edit.to, .slice x.e.oA h.edit.old.len x.e.oc, .slice x.e.nA h.edit.new.len x.e.nc] 32)).alloc (.cells #[.int .u8 h.kind, .string h.file, .string h.text, .int .i64 h.hunk.at_, .slice y.h.oA h.hunk.old.length y.h.oc, .slice y.h.nA h.hunk.new.length y.h.nc, .int .u8 h.edit.kind, .slice y.e.pA h.edit.path.length y.e.pc, .int .i64 h.edit.at_, .int .i64 h.edit.far, .string h.edit.frm, .string h.edit.to, .slice y.e.oA h.edit.old.len y.e.oc, .slice y.e.nA h.edit.new.len y.e.nc] 32))
  rw [← HW0.out]
  clear HW0
  have b0 := hB0.c 0 _ rfl
  have b1 := hB0.c 1 _ rfl
  have b2 := hB0.c 2 _ rfl
  have b3 := hB0.c 3 _ rfl
  have b4 := hB0.c 4 _ rfl
  have b5 := hB0.c 5 _ rfl
  have b6 := hB0.c 6 _ rfl
  have b7 := hB0.c 7 _ rfl
  have b8 := hB0.c 8 _ rfl
  have b9 := hB0.c 9 _ rfl
  have b10 := hB0.c 10 _ rfl
  have b11 := hB0.c 11 _ rfl
  have b12 := hB0.c 12 _ rfl
  have b13 := hB0.c 13 _ rfl
  have r0 := hB0.r 0 _ rfl
  have r1 := hB0.r 1 _ rfl
  have r2 := hB0.r 2 _ rfl
  have r3 := hB0.r 3 _ rfl
  have r4 := hB0.r 4 _ rfl
  have r5 := hB0.r 5 _ rfl
  have r6 := hB0.r 6 _ rfl
  have r7 := hB0.r 7 _ rfl
  have r8 := hB0.r 8 _ rfl
  have r9 := hB0.r 9 _ rfl
  have r10 := hB0.r 10 _ rfl
  have r11 := hB0.r 11 _ rfl
  have r12 := hB0.r 12 _ rfl
  have r13 := hB0.r 13 _ rfl
  have HB0 := hide hB0
  clear hB0
  go_wp2_with (first
    | (go_at_call 17; (with_reducible refine (samePatch_yes (Ho.out.below HB0.out.b).pt (Hl.out.below HB0.out.b)).mono ?_); rintro e0 w1 ⟨rfl, hB⟩; have hC := HB0.out.call hB; clear b0 r0 b1 r1 b2 r2 b3 r3 b4 r4 b5 r5 b6 r6 b7 r7 b8 r8 b9 r9 b10 r10 b11 r11 b12 r12 b13 r13; have b0 := hC.c 0 _ rfl; have b1 := hC.c 1 _ rfl; have b2 := hC.c 2 _ rfl; have b3 := hC.c 3 _ rfl; have b4 := hC.c 4 _ rfl; have b5 := hC.c 5 _ rfl; have b6 := hC.c 6 _ rfl; have b7 := hC.c 7 _ rfl; have b8 := hC.c 8 _ rfl; have b9 := hC.c 9 _ rfl; have b10 := hC.c 10 _ rfl; have b11 := hC.c 11 _ rfl; have b12 := hC.c 12 _ rfl; have b13 := hC.c 13 _ rfl; have r0 := hC.r 0 _ rfl; have r1 := hC.r 1 _ rfl; have r2 := hC.r 2 _ rfl; have r3 := hC.r 3 _ rfl; have r4 := hC.r 4 _ rfl; have r5 := hC.r 5 _ rfl; have r6 := hC.r 6 _ rfl; have r7 := hC.r 7 _ rfl; have r8 := hC.r 8 _ rfl; have r9 := hC.r 9 _ rfl; have r10 := hC.r 10 _ rfl; have r11 := hC.r 11 _ rfl; have r12 := hC.r 12 _ rfl; have r13 := hC.r 13 _ rfl; have HB1 := hide hC; clear hB hC)
    | (go_at_call 35; (with_reducible refine (keptHunk_any (Ho.out.hunk.below HB1.out.b) (Hl.out.hunk.below HB1.out.b)).mono ?_); rintro e1 w2 ⟨rfl, hB⟩; have hC := HB1.out.call hB; clear b0 r0 b1 r1 b2 r2 b3 r3 b4 r4 b5 r5 b6 r6 b7 r7 b8 r8 b9 r9 b10 r10 b11 r11 b12 r12 b13 r13; have b0 := hC.c 0 _ rfl; have b1 := hC.c 1 _ rfl; have b2 := hC.c 2 _ rfl; have b3 := hC.c 3 _ rfl; have b4 := hC.c 4 _ rfl; have b5 := hC.c 5 _ rfl; have b6 := hC.c 6 _ rfl; have b7 := hC.c 7 _ rfl; have b8 := hC.c 8 _ rfl; have b9 := hC.c 9 _ rfl; have b10 := hC.c 10 _ rfl; have b11 := hC.c 11 _ rfl; have b12 := hC.c 12 _ rfl; have b13 := hC.c 13 _ rfl; have r0 := hC.r 0 _ rfl; have r1 := hC.r 1 _ rfl; have r2 := hC.r 2 _ rfl; have r3 := hC.r 3 _ rfl; have r4 := hC.r 4 _ rfl; have r5 := hC.r 5 _ rfl; have r6 := hC.r 6 _ rfl; have r7 := hC.r 7 _ rfl; have r8 := hC.r 8 _ rfl; have r9 := hC.r 9 _ rfl; have r10 := hC.r 10 _ rfl; have r11 := hC.r 11 _ rfl; have r12 := hC.r 12 _ rfl; have r13 := hC.r 13 _ rfl; have HB2 := hide hC; clear hB hC)
    | (go_at_call 36; (with_reducible refine (keptEdit_any (Ho.out.edit.below HB2.out.b) (Hl.out.edit.below HB2.out.b)).mono ?_); rintro e2 w3 ⟨rfl, hB⟩; have hC := HB2.out.call hB;  have HB3 := hide hC; clear hB hC))
  go_ret
  exact ⟨rfl, HB3.out.b⟩

end Go.Proofs.YtfhfkbdaglegpaaGreatDoor
