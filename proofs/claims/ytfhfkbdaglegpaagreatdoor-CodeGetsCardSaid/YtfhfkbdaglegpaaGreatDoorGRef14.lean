/- When is an edit right, as the document tells (ref14.Right)? Printed by gen_ref14.py. -/
import Derived.Test.YtfhfkbdaglegpaaGreatDoorGRef6R
import Derived.Test.YtfhfkbdaglegpaaGreatDoorGRef3
import Derived.Test.YtfhfkbdaglegpaaGreatDoorGBase
import Derived.Test.YtfhfkbdaglegpaaGreatDoorGSame
import Derived.Test.YtfhfkbdaglegpaaGreatDoorGLentB

set_option linter.unusedVariables false
set_option linter.unusedSimpArgs false

namespace Go.Proofs.YtfhfkbdaglegpaaGreatDoor
open Go.RowKit

theorem edOk14_1 {e : Ed} : EdOk { e with kind := 1 } ↔ (∀ n ∈ e.path, Number n) ∧ ({ e with kind := 1 } : Ed) = ⟨1, e.path, 0, 0, e.frm, e.to, .nil, .nil⟩ ∧ e.path ≠ [] ∧ LexName e.frm ∧ LexName e.to ∧ e.frm ≠ e.to := by
  obtain ⟨kd, path, at_, far, frm, tto, old, new⟩ := e
  have hn : noTxt = ⟨#[]⟩ := rfl
  unfold EdOk
  simp only [Ed.mk.injEq, hn]
  simp
  try grind
theorem edOk14_2 {e : Ed} : EdOk { e with kind := 2 } ↔ (∀ n ∈ e.path, Number n) ∧ ({ e with kind := 2 } : Ed) = ⟨2, e.path, e.at_, 0, ⟨#[]⟩, ⟨#[]⟩, .nil, e.new⟩ ∧ Number e.at_ ∧ PartOk e.new := by
  obtain ⟨kd, path, at_, far, frm, tto, old, new⟩ := e
  have hn : noTxt = ⟨#[]⟩ := rfl
  unfold EdOk
  simp only [Ed.mk.injEq, hn]
  simp
  try grind
theorem edOk14_3 {e : Ed} : EdOk { e with kind := 3 } ↔ (∀ n ∈ e.path, Number n) ∧ ({ e with kind := 3 } : Ed) = ⟨3, e.path, e.at_, 0, ⟨#[]⟩, ⟨#[]⟩, e.old, .nil⟩ ∧ Number e.at_ ∧ PartOk e.old := by
  obtain ⟨kd, path, at_, far, frm, tto, old, new⟩ := e
  have hn : noTxt = ⟨#[]⟩ := rfl
  unfold EdOk
  simp only [Ed.mk.injEq, hn]
  simp
  try grind
theorem edOk14_4 {e : Ed} : EdOk { e with kind := 4 } ↔ (∀ n ∈ e.path, Number n) ∧ ({ e with kind := 4 } : Ed) = ⟨4, e.path, 0, 0, ⟨#[]⟩, ⟨#[]⟩, e.old, e.new⟩ ∧ e.path ≠ [] ∧ PartOk e.old ∧ PartOk e.new ∧ e.old ≠ e.new := by
  obtain ⟨kd, path, at_, far, frm, tto, old, new⟩ := e
  have hn : noTxt = ⟨#[]⟩ := rfl
  unfold EdOk
  simp only [Ed.mk.injEq, hn]
  simp
  try grind
theorem edOk14_5 {e : Ed} : EdOk { e with kind := 5 } ↔ (∀ n ∈ e.path, Number n) ∧ ({ e with kind := 5 } : Ed) = ⟨5, e.path, e.at_, e.far, ⟨#[]⟩, ⟨#[]⟩, e.old, .nil⟩ ∧ Number e.at_ ∧ Number e.far ∧ e.at_ ≠ e.far ∧ PartOk e.old := by
  obtain ⟨kd, path, at_, far, frm, tto, old, new⟩ := e
  have hn : noTxt = ⟨#[]⟩ := rfl
  unfold EdOk
  simp only [Ed.mk.injEq, hn]
  simp
  try grind
theorem edOk14_0 {e : Ed} (h1 : e.kind ≠ 1) (h2 : e.kind ≠ 2) (h3 : e.kind ≠ 3) (h4 : e.kind ≠ 4) (h5 : e.kind ≠ 5) : ¬ EdOk e := by
  unfold EdOk
  omega
theorem list_pos14 {l : List Int} : l ≠ [] ↔ (0 : Int) < (l.length : Int) := by
  cases l with
  | nil => simp
  | cons a r => simp only [List.length_cons]; constructor <;> (intro _; first | omega | simp)

set_option maxHeartbeats 4000000 in
set_option maxRecDepth 100000 in
theorem edRight14_1 {S : Nat → Prop} {x : Eh} {e : Ed} {w : World} (he : EdIn S w x e) :
    Calls Tryz.prog 60 #[.agg #[.int .u8 1, .slice x.pA e.path.length x.pc, .int .i64 e.at_, .int .i64 e.far, .string e.frm, .string e.to, .slice x.oA e.old.len x.oc, .slice x.nA e.new.len x.nc]] w fun e1 w' => RetB (EdOk { e with kind := 1 }) e1 ∧ Below w.heap.size w w' := by
  have hfs := he.frm
  have hts := he.to
  have H := hide he
  obtain ⟨W0, hW0⟩ : ∃ W0, W0 = w.alloc (.cells #[.int .u8 1, .slice x.pA e.path.length x.pc, .int .i64 e.at_, .int .i64 e.far, .string e.frm, .string e.to, .slice x.oA e.old.len x.oc, .slice x.nA e.new.len x.nc] 30) := ⟨_, rfl⟩
  have hcl0 : CellsL W0 w.heap.size [.int .u8 1, .slice x.pA e.path.length x.pc, .int .i64 e.at_, .int .i64 e.far, .string e.frm, .string e.to, .slice x.oA e.old.len x.oc, .slice x.nA e.new.len x.nc] := fun j u hu => by rw [hW0, Lib.cell_of_heap (heap_alloc_new w _)]; simpa using hu
  have hBB : Below w.heap.size w W0 := by rw [hW0]; exact below_alloc _ _
  have HB0 := hide hBB
  have HW0 := hide hW0
  have hlp := Nat.le_trans he.pc.1 he.pc.2
  have b0 := hcl0 0 _ rfl
  have b1 := hcl0 1 _ rfl
  have b2 := hcl0 2 _ rfl
  have b3 := hcl0 3 _ rfl
  have b4 := hcl0 4 _ rfl
  have b5 := hcl0 5 _ rfl
  have b6 := hcl0 6 _ rfl
  have b7 := hcl0 7 _ rfl
  clear he hW0 hcl0 hBB
  go_enter Tryz.func60, Tryz.ntmps60
  go_upto_region 1 with fail
  change Code.wp _ _ _ _ (w.alloc (.cells #[.int .u8 1, .slice x.pA e.path.length x.pc, .int .i64 e.at_, .int .i64 e.far, .string e.frm, .string e.to, .slice x.oA e.old.len x.oc, .slice x.nA e.new.len x.nc] 30))
  rw [← HW0.out]
  go_wp2_with fail
  go_loopw [3] (fun i wr => ∃ q : Nat, q ≤ e.path.length ∧ i = .int .i64 q ∧ wr = W0 ∧ Hid (∀ j, (h : j < e.path.length) → j < q → Number e.path[j])) (fun i _ => e.path.length - (intOf i).toNat)
  case atStart => exact ⟨0, Nat.zero_le _, rfl, rfl, hide (fun j _ h => absurd h (by omega))⟩
  case round =>
  obtain ⟨q, hq, rfl, rfl, Hall⟩ := hrel
  by_cases hlt : q < e.path.length
  · obtain ⟨b, o, hpa, hc⟩ := (H.out.path.below HB0.out).1.at_ (j := q) (by simpa using hlt)
    simp only [List.getElem_map] at hc
    rw [hpa] at b1
    have Hpa := hide hpa
    clear hpa
    obtain ⟨m, hm⟩ : ∃ m, m = e.path[q] := ⟨_, rfl⟩
    rw [← hm] at hc
    have Hm := hide hm
    clear hm
    go_wp2_with (go_at_call 122; (with_reducible refine (number14_any m _).mono ?_); rintro e1 w1 ⟨⟨_ | _, rfl, hb⟩, rfl⟩ <;> (have Hb := hide hb; clear hb))
    · go_ret
      refine ⟨RetB.no (fun h => ?_), HB0.out⟩
      have h1 := h.1 _ (List.getElem_mem hlt)
      rw [← Hm.out] at h1
      exact absurd (Hb.out.2 h1) (by decide)
    · go_roundw
      case rel => exact ⟨q + 1, by omega, by go_num, by first | trivial | rfl, hide (fun j h hj => by
        rcases Nat.lt_or_ge j q with h2 | h2
        · exact Hall.out j h h2
        · obtain rfl : j = q := by omega
          rw [← Hm.out]
          exact Hb.out.1 (by first | rfl | trivial))⟩
      case measure => simp [intOf]; omega
  have Hpath : Hid (∀ n ∈ e.path, Number n) := hide (fun n hn => by
    obtain ⟨j, hj, rfl⟩ := List.getElem_of_mem hn
    exact Hall.out j hj (by omega))
  clear Hall
  obtain ⟨W1, hW1⟩ : ∃ W1, W1 = World.alloc wr (.cells #[.int .u8 1, .slice x.pA e.path.length x.pc, .int .i64 0, .int .i64 0, .string ⟨#[]⟩, .string ⟨#[]⟩, .slice none 0 0, .slice none 0 0] 30) := ⟨_, rfl⟩
  have hB1 : BxL w W1 [.int .u8 1, .slice x.pA e.path.length x.pc, .int .i64 e.at_, .int .i64 e.far, .string e.frm, .string e.to, .slice x.oA e.old.len x.oc, .slice x.nA e.new.len x.nc] [.int .u8 1, .slice x.pA e.path.length x.pc, .int .i64 0, .int .i64 0, .string ⟨#[]⟩, .string ⟨#[]⟩, .slice none 0 0, .slice none 0 0] := by rw [hW1, HW0.out]; exact BxL.start w #[.int .u8 1, .slice x.pA e.path.length x.pc, .int .i64 e.at_, .int .i64 e.far, .string e.frm, .string e.to, .slice x.oA e.old.len x.oc, .slice x.nA e.new.len x.nc] #[.int .u8 1, .slice x.pA e.path.length x.pc, .int .i64 0, .int .i64 0, .string ⟨#[]⟩, .string ⟨#[]⟩, .slice none 0 0, .slice none 0 0] _ _
  have hz0 : wr.heap.size = w.heap.size + 1 := by rw [HW0.out]; simp
  have HW1 := hide hW1
  clear hW1
  go_upto_region 7 with fail
  change Code.wp _ _ _ _ (World.alloc wr (.cells #[.int .u8 1, .slice x.pA e.path.length x.pc, .int .i64 0, .int .i64 0, .string ⟨#[]⟩, .string ⟨#[]⟩, .slice none 0 0, .slice none 0 0] 30))
  rw [← HW1.out]
  clear b0 b1 b2 b3 b4 b5 b6 b7 HW1 HW0
  clear hz0
  have b0 := hB1.c 0 _ rfl
  have b1 := hB1.c 1 _ rfl
  have b2 := hB1.c 2 _ rfl
  have b3 := hB1.c 3 _ rfl
  have b4 := hB1.c 4 _ rfl
  have b5 := hB1.c 5 _ rfl
  have b6 := hB1.c 6 _ rfl
  have b7 := hB1.c 7 _ rfl
  have r0 := hB1.r 0 _ rfl
  have r1 := hB1.r 1 _ rfl
  have r2 := hB1.r 2 _ rfl
  have r3 := hB1.r 3 _ rfl
  have r4 := hB1.r 4 _ rfl
  have r5 := hB1.r 5 _ rfl
  have r6 := hB1.r 6 _ rfl
  have r7 := hB1.r 7 _ rfl
  have fr := hB1.fr
  have HB1 := hide hB1
  clear hB1 HB0
  go_upto_region 11 with fail
  have hBa := HB1.out.putR 4 [.string e.frm] (by simp)
  obtain ⟨wa, hFa⟩ : ∃ wa, wa = World.setCells W1 (w.heap.size + 1) 4 [.string e.frm] := ⟨_, rfl⟩
  rw [← hFa] at hBa
  simp only [World.setCells] at hFa
  rw [← hFa]
  replace hBa : BxL w wa [.int .u8 1, .slice x.pA e.path.length x.pc, .int .i64 e.at_, .int .i64 e.far, .string e.frm, .string e.to, .slice x.oA e.old.len x.oc, .slice x.nA e.new.len x.nc] [.int .u8 1, .slice x.pA e.path.length x.pc, .int .i64 0, .int .i64 0, .string e.frm, .string ⟨#[]⟩, .slice none 0 0, .slice none 0 0] := hBa
  have HBa := hide hBa
  clear hBa hFa
  have hBb := HBa.out.putR 5 [.string e.to] (by simp)
  obtain ⟨wb, hFb⟩ : ∃ wb, wb = World.setCells wa (w.heap.size + 1) 5 [.string e.to] := ⟨_, rfl⟩
  rw [← hFb] at hBb
  simp only [World.setCells] at hFb
  rw [← hFb]
  replace hBb : BxL w wb [.int .u8 1, .slice x.pA e.path.length x.pc, .int .i64 e.at_, .int .i64 e.far, .string e.frm, .string e.to, .slice x.oA e.old.len x.oc, .slice x.nA e.new.len x.nc] [.int .u8 1, .slice x.pA e.path.length x.pc, .int .i64 0, .int .i64 0, .string e.frm, .string e.to, .slice none 0 0, .slice none 0 0] := hBb
  have HBb := hide hBb
  clear hBb hFb
  clear b0 r0 b1 r1 b2 r2 b3 r3 b4 r4 b5 r5 b6 r6 b7 r7 fr HB1
  clear HBa
  have HBa0 := HBb
  clear HBb
  have HSm : Hid (∀ W, Below w.heap.size w W → Calls Tryz.prog 44 #[.agg #[.int .u8 1, .slice x.pA e.path.length x.pc, .int .i64 e.at_, .int .i64 e.far, .string e.frm, .string e.to, .slice x.oA e.old.len x.oc, .slice x.nA e.new.len x.nc], .agg #[.int .u8 1, .slice x.pA e.path.length x.pc, .int .i64 0, .int .i64 0, .string e.frm, .string e.to, .slice none 0 0, .slice none 0 0]] W fun e1 w' => RetB (({ e with kind := 1 } : Ed) = ⟨1, e.path, 0, 0, e.frm, e.to, .nil, .nil⟩) e1 ∧ Below W.heap.size W w') :=
    hide fun W hW => sameEdit_any (a := { e with kind := 1 }) (b := ⟨1, e.path, 0, 0, e.frm, e.to, .nil, .nil⟩) (x := x) (y := ⟨x.pA, x.pc, none, 0, none, 0⟩) ⟨(by show 1 < 256; omega), H.out.path.below hW, H.out.at_, H.out.far, H.out.frm, H.out.to, H.out.old.below hW, H.out.new.below hW, H.out.pc, H.out.oc, H.out.nc⟩ ⟨(by show 1 < 256; omega), H.out.path.below hW, (by show isInt64 0; unfold isInt64; omega), (by show isInt64 0; unfold isInt64; omega), H.out.frm, H.out.to, trivial, trivial, H.out.pc, ⟨by simp [Fo.len], by simp⟩, ⟨by simp [Fo.len], by simp⟩⟩
  have hBq := HBa0.out
  have b0 := hBq.c 0 _ rfl
  have b1 := hBq.c 1 _ rfl
  have b2 := hBq.c 2 _ rfl
  have b3 := hBq.c 3 _ rfl
  have b4 := hBq.c 4 _ rfl
  have b5 := hBq.c 5 _ rfl
  have b6 := hBq.c 6 _ rfl
  have b7 := hBq.c 7 _ rfl
  have r0 := hBq.r 0 _ rfl
  have r1 := hBq.r 1 _ rfl
  have r2 := hBq.r 2 _ rfl
  have r3 := hBq.r 3 _ rfl
  have r4 := hBq.r 4 _ rfl
  have r5 := hBq.r 5 _ rfl
  have r6 := hBq.r 6 _ rfl
  have r7 := hBq.r 7 _ rfl
  clear hBq
  go_wp2_with (first
    | (go_at_call 44; (with_reducible refine (HSm.out _ HBa0.out.b).mono ?_); rintro e1 w1 ⟨⟨c1, rfl, hb⟩, hB⟩; have hC := HBa0.out.call hB; clear b0 r0 b1 r1 b2 r2 b3 r3 b4 r4 b5 r5 b6 r6 b7 r7; have b0 := hC.c 0 _ rfl; have b1 := hC.c 1 _ rfl; have b2 := hC.c 2 _ rfl; have b3 := hC.c 3 _ rfl; have b4 := hC.c 4 _ rfl; have b5 := hC.c 5 _ rfl; have b6 := hC.c 6 _ rfl; have b7 := hC.c 7 _ rfl; have r0 := hC.r 0 _ rfl; have r1 := hC.r 1 _ rfl; have r2 := hC.r 2 _ rfl; have r3 := hC.r 3 _ rfl; have r4 := hC.r 4 _ rfl; have r5 := hC.r 5 _ rfl; have r6 := hC.r 6 _ rfl; have r7 := hC.r 7 _ rfl; have HBa1 := hide hC; have Hb1 := hide hb; clear hb hB hC)
    | (go_at_call 123; (with_reducible refine (name5_any e.frm _ hfs).mono ?_); rintro e2 w2 ⟨⟨c2, rfl, hb⟩, hB⟩; have hC := HBa1.out.call hB; clear b0 r0 b1 r1 b2 r2 b3 r3 b4 r4 b5 r5 b6 r6 b7 r7; have b0 := hC.c 0 _ rfl; have b1 := hC.c 1 _ rfl; have b2 := hC.c 2 _ rfl; have b3 := hC.c 3 _ rfl; have b4 := hC.c 4 _ rfl; have b5 := hC.c 5 _ rfl; have b6 := hC.c 6 _ rfl; have b7 := hC.c 7 _ rfl; have r0 := hC.r 0 _ rfl; have r1 := hC.r 1 _ rfl; have r2 := hC.r 2 _ rfl; have r3 := hC.r 3 _ rfl; have r4 := hC.r 4 _ rfl; have r5 := hC.r 5 _ rfl; have r6 := hC.r 6 _ rfl; have r7 := hC.r 7 _ rfl; have HBa2 := hide hC; have Hb2 := hide hb; clear hb hB hC)
    | (go_at_call 123; (with_reducible refine (name5_any e.to _ hts).mono ?_); rintro e3 w3 ⟨⟨c3, rfl, hb⟩, hB⟩; have hC := HBa2.out.call hB; clear b0 r0 b1 r1 b2 r2 b3 r3 b4 r4 b5 r5 b6 r6 b7 r7; have b0 := hC.c 0 _ rfl; have b1 := hC.c 1 _ rfl; have b2 := hC.c 2 _ rfl; have b3 := hC.c 3 _ rfl; have b4 := hC.c 4 _ rfl; have b5 := hC.c 5 _ rfl; have b6 := hC.c 6 _ rfl; have b7 := hC.c 7 _ rfl; have r0 := hC.r 0 _ rfl; have r1 := hC.r 1 _ rfl; have r2 := hC.r 2 _ rfl; have r3 := hC.r 3 _ rfl; have r4 := hC.r 4 _ rfl; have r5 := hC.r 5 _ rfl; have r6 := hC.r 6 _ rfl; have r7 := hC.r 7 _ rfl; have HBa3 := hide hC; have Hb3 := hide hb; clear hb hB hC))
  all_goals
    go_ret
    go_tidy
    have hok := @edOk14_1 e
    have hpp := Hpath.out
    have hlp0 := @list_pos14 e.path
    have htt := tl_eq (s := e.frm) (t := e.to)
    try have q1 := Hb1.out
    try have q2 := Hb2.out
    try have q3 := Hb3.out
    refine ⟨RetB.mk ?_, by first | exact HBa3.out.b | exact HBa2.out.b | exact HBa1.out.b | exact HBa0.out.b⟩
    rw [hok]
    clear hok HSm H Hpath
    try clear Hb1 HBa1
    try clear Hb2 HBa2
    try clear Hb3 HBa3
    first
      | grind
     

set_option maxHeartbeats 4000000 in
set_option maxRecDepth 100000 in
theorem edRight14_2 {S : Nat → Prop} {x : Eh} {e : Ed} {w : World} (he : EdIn S w x e) :
    Calls Tryz.prog 60 #[.agg #[.int .u8 2, .slice x.pA e.path.length x.pc, .int .i64 e.at_, .int .i64 e.far, .string e.frm, .string e.to, .slice x.oA e.old.len x.oc, .slice x.nA e.new.len x.nc]] w fun e1 w' => RetB (EdOk { e with kind := 2 }) e1 ∧ Below w.heap.size w w' := by
  have H := hide he
  obtain ⟨W0, hW0⟩ : ∃ W0, W0 = w.alloc (.cells #[.int .u8 2, .slice x.pA e.path.length x.pc, .int .i64 e.at_, .int .i64 e.far, .string e.frm, .string e.to, .slice x.oA e.old.len x.oc, .slice x.nA e.new.len x.nc] 30) := ⟨_, rfl⟩
  have hcl0 : CellsL W0 w.heap.size [.int .u8 2, .slice x.pA e.path.length x.pc, .int .i64 e.at_, .int .i64 e.far, .string e.frm, .string e.to, .slice x.oA e.old.len x.oc, .slice x.nA e.new.len x.nc] := fun j u hu => by rw [hW0, Lib.cell_of_heap (heap_alloc_new w _)]; simpa using hu
  have hBB : Below w.heap.size w W0 := by rw [hW0]; exact below_alloc _ _
  have HB0 := hide hBB
  have HW0 := hide hW0
  have hlp := Nat.le_trans he.pc.1 he.pc.2
  have b0 := hcl0 0 _ rfl
  have b1 := hcl0 1 _ rfl
  have b2 := hcl0 2 _ rfl
  have b3 := hcl0 3 _ rfl
  have b4 := hcl0 4 _ rfl
  have b5 := hcl0 5 _ rfl
  have b6 := hcl0 6 _ rfl
  have b7 := hcl0 7 _ rfl
  clear he hW0 hcl0 hBB
  go_enter Tryz.func60, Tryz.ntmps60
  go_upto_region 1 with fail
  change Code.wp _ _ _ _ (w.alloc (.cells #[.int .u8 2, .slice x.pA e.path.length x.pc, .int .i64 e.at_, .int .i64 e.far, .string e.frm, .string e.to, .slice x.oA e.old.len x.oc, .slice x.nA e.new.len x.nc] 30))
  rw [← HW0.out]
  go_wp2_with fail
  go_loopw [3] (fun i wr => ∃ q : Nat, q ≤ e.path.length ∧ i = .int .i64 q ∧ wr = W0 ∧ Hid (∀ j, (h : j < e.path.length) → j < q → Number e.path[j])) (fun i _ => e.path.length - (intOf i).toNat)
  case atStart => exact ⟨0, Nat.zero_le _, rfl, rfl, hide (fun j _ h => absurd h (by omega))⟩
  case round =>
  obtain ⟨q, hq, rfl, rfl, Hall⟩ := hrel
  by_cases hlt : q < e.path.length
  · obtain ⟨b, o, hpa, hc⟩ := (H.out.path.below HB0.out).1.at_ (j := q) (by simpa using hlt)
    simp only [List.getElem_map] at hc
    rw [hpa] at b1
    have Hpa := hide hpa
    clear hpa
    obtain ⟨m, hm⟩ : ∃ m, m = e.path[q] := ⟨_, rfl⟩
    rw [← hm] at hc
    have Hm := hide hm
    clear hm
    go_wp2_with (go_at_call 122; (with_reducible refine (number14_any m _).mono ?_); rintro e1 w1 ⟨⟨_ | _, rfl, hb⟩, rfl⟩ <;> (have Hb := hide hb; clear hb))
    · go_ret
      refine ⟨RetB.no (fun h => ?_), HB0.out⟩
      have h1 := h.1 _ (List.getElem_mem hlt)
      rw [← Hm.out] at h1
      exact absurd (Hb.out.2 h1) (by decide)
    · go_roundw
      case rel => exact ⟨q + 1, by omega, by go_num, by first | trivial | rfl, hide (fun j h hj => by
        rcases Nat.lt_or_ge j q with h2 | h2
        · exact Hall.out j h h2
        · obtain rfl : j = q := by omega
          rw [← Hm.out]
          exact Hb.out.1 (by first | rfl | trivial))⟩
      case measure => simp [intOf]; omega
  have Hpath : Hid (∀ n ∈ e.path, Number n) := hide (fun n hn => by
    obtain ⟨j, hj, rfl⟩ := List.getElem_of_mem hn
    exact Hall.out j hj (by omega))
  clear Hall
  obtain ⟨W1, hW1⟩ : ∃ W1, W1 = World.alloc wr (.cells #[.int .u8 2, .slice x.pA e.path.length x.pc, .int .i64 0, .int .i64 0, .string ⟨#[]⟩, .string ⟨#[]⟩, .slice none 0 0, .slice none 0 0] 30) := ⟨_, rfl⟩
  have hB1 : BxL w W1 [.int .u8 2, .slice x.pA e.path.length x.pc, .int .i64 e.at_, .int .i64 e.far, .string e.frm, .string e.to, .slice x.oA e.old.len x.oc, .slice x.nA e.new.len x.nc] [.int .u8 2, .slice x.pA e.path.length x.pc, .int .i64 0, .int .i64 0, .string ⟨#[]⟩, .string ⟨#[]⟩, .slice none 0 0, .slice none 0 0] := by rw [hW1, HW0.out]; exact BxL.start w #[.int .u8 2, .slice x.pA e.path.length x.pc, .int .i64 e.at_, .int .i64 e.far, .string e.frm, .string e.to, .slice x.oA e.old.len x.oc, .slice x.nA e.new.len x.nc] #[.int .u8 2, .slice x.pA e.path.length x.pc, .int .i64 0, .int .i64 0, .string ⟨#[]⟩, .string ⟨#[]⟩, .slice none 0 0, .slice none 0 0] _ _
  have hz0 : wr.heap.size = w.heap.size + 1 := by rw [HW0.out]; simp
  have HW1 := hide hW1
  clear hW1
  go_upto_region 7 with fail
  change Code.wp _ _ _ _ (World.alloc wr (.cells #[.int .u8 2, .slice x.pA e.path.length x.pc, .int .i64 0, .int .i64 0, .string ⟨#[]⟩, .string ⟨#[]⟩, .slice none 0 0, .slice none 0 0] 30))
  rw [← HW1.out]
  clear b0 b1 b2 b3 b4 b5 b6 b7 HW1 HW0
  clear hz0
  have b0 := hB1.c 0 _ rfl
  have b1 := hB1.c 1 _ rfl
  have b2 := hB1.c 2 _ rfl
  have b3 := hB1.c 3 _ rfl
  have b4 := hB1.c 4 _ rfl
  have b5 := hB1.c 5 _ rfl
  have b6 := hB1.c 6 _ rfl
  have b7 := hB1.c 7 _ rfl
  have r0 := hB1.r 0 _ rfl
  have r1 := hB1.r 1 _ rfl
  have r2 := hB1.r 2 _ rfl
  have r3 := hB1.r 3 _ rfl
  have r4 := hB1.r 4 _ rfl
  have r5 := hB1.r 5 _ rfl
  have r6 := hB1.r 6 _ rfl
  have r7 := hB1.r 7 _ rfl
  have fr := hB1.fr
  have HB1 := hide hB1
  clear hB1 HB0
  go_upto_region 15 with fail
  have hBa := HB1.out.putR 2 [.int .i64 e.at_] (by simp)
  obtain ⟨wa, hFa⟩ : ∃ wa, wa = World.setCells W1 (w.heap.size + 1) 2 [.int .i64 e.at_] := ⟨_, rfl⟩
  rw [← hFa] at hBa
  simp only [World.setCells] at hFa
  rw [← hFa]
  replace hBa : BxL w wa [.int .u8 2, .slice x.pA e.path.length x.pc, .int .i64 e.at_, .int .i64 e.far, .string e.frm, .string e.to, .slice x.oA e.old.len x.oc, .slice x.nA e.new.len x.nc] [.int .u8 2, .slice x.pA e.path.length x.pc, .int .i64 e.at_, .int .i64 0, .string ⟨#[]⟩, .string ⟨#[]⟩, .slice none 0 0, .slice none 0 0] := hBa
  have HBa := hide hBa
  clear hBa hFa
  have hBb := HBa.out.putR 7 [.slice x.nA e.new.len x.nc] (by simp)
  obtain ⟨wb, hFb⟩ : ∃ wb, wb = World.setCells wa (w.heap.size + 1) 7 [.slice x.nA e.new.len x.nc] := ⟨_, rfl⟩
  rw [← hFb] at hBb
  simp only [World.setCells] at hFb
  rw [← hFb]
  replace hBb : BxL w wb [.int .u8 2, .slice x.pA e.path.length x.pc, .int .i64 e.at_, .int .i64 e.far, .string e.frm, .string e.to, .slice x.oA e.old.len x.oc, .slice x.nA e.new.len x.nc] [.int .u8 2, .slice x.pA e.path.length x.pc, .int .i64 e.at_, .int .i64 0, .string ⟨#[]⟩, .string ⟨#[]⟩, .slice none 0 0, .slice x.nA e.new.len x.nc] := hBb
  have HBb := hide hBb
  clear hBb hFb
  clear b0 r0 b1 r1 b2 r2 b3 r3 b4 r4 b5 r5 b6 r6 b7 r7 fr HB1
  clear HBa
  have HBa0 := HBb
  clear HBb
  have HSm : Hid (∀ W, Below w.heap.size w W → Calls Tryz.prog 44 #[.agg #[.int .u8 2, .slice x.pA e.path.length x.pc, .int .i64 e.at_, .int .i64 e.far, .string e.frm, .string e.to, .slice x.oA e.old.len x.oc, .slice x.nA e.new.len x.nc], .agg #[.int .u8 2, .slice x.pA e.path.length x.pc, .int .i64 e.at_, .int .i64 0, .string ⟨#[]⟩, .string ⟨#[]⟩, .slice none 0 0, .slice x.nA e.new.len x.nc]] W fun e1 w' => RetB (({ e with kind := 2 } : Ed) = ⟨2, e.path, e.at_, 0, ⟨#[]⟩, ⟨#[]⟩, .nil, e.new⟩) e1 ∧ Below W.heap.size W w') :=
    hide fun W hW => sameEdit_any (a := { e with kind := 2 }) (b := ⟨2, e.path, e.at_, 0, ⟨#[]⟩, ⟨#[]⟩, .nil, e.new⟩) (x := x) (y := ⟨x.pA, x.pc, none, 0, x.nA, x.nc⟩) ⟨(by show 2 < 256; omega), H.out.path.below hW, H.out.at_, H.out.far, H.out.frm, H.out.to, H.out.old.below hW, H.out.new.below hW, H.out.pc, H.out.oc, H.out.nc⟩ ⟨(by show 2 < 256; omega), H.out.path.below hW, H.out.at_, (by show isInt64 0; unfold isInt64; omega), (by show (0 : Nat) ≤ _; omega), (by show (0 : Nat) ≤ _; omega), trivial, (H.out.new.below hW), H.out.pc, ⟨by simp [Fo.len], by simp⟩, H.out.nc⟩
  have hBq := HBa0.out
  have b0 := hBq.c 0 _ rfl
  have b1 := hBq.c 1 _ rfl
  have b2 := hBq.c 2 _ rfl
  have b3 := hBq.c 3 _ rfl
  have b4 := hBq.c 4 _ rfl
  have b5 := hBq.c 5 _ rfl
  have b6 := hBq.c 6 _ rfl
  have b7 := hBq.c 7 _ rfl
  have r0 := hBq.r 0 _ rfl
  have r1 := hBq.r 1 _ rfl
  have r2 := hBq.r 2 _ rfl
  have r3 := hBq.r 3 _ rfl
  have r4 := hBq.r 4 _ rfl
  have r5 := hBq.r 5 _ rfl
  have r6 := hBq.r 6 _ rfl
  have r7 := hBq.r 7 _ rfl
  clear hBq
  go_wp2_with (first
    | (go_at_call 44; (with_reducible refine (HSm.out _ HBa0.out.b).mono ?_); rintro e1 w1 ⟨⟨c1, rfl, hb⟩, hB⟩; have hC := HBa0.out.call hB; clear b0 r0 b1 r1 b2 r2 b3 r3 b4 r4 b5 r5 b6 r6 b7 r7; have b0 := hC.c 0 _ rfl; have b1 := hC.c 1 _ rfl; have b2 := hC.c 2 _ rfl; have b3 := hC.c 3 _ rfl; have b4 := hC.c 4 _ rfl; have b5 := hC.c 5 _ rfl; have b6 := hC.c 6 _ rfl; have b7 := hC.c 7 _ rfl; have r0 := hC.r 0 _ rfl; have r1 := hC.r 1 _ rfl; have r2 := hC.r 2 _ rfl; have r3 := hC.r 3 _ rfl; have r4 := hC.r 4 _ rfl; have r5 := hC.r 5 _ rfl; have r6 := hC.r 6 _ rfl; have r7 := hC.r 7 _ rfl; have HBa1 := hide hC; have Hb1 := hide hb; clear hb hB hC)
    | (go_at_call 122; (with_reducible refine (number14_any e.at_ _).mono ?_); rintro e2 w2 ⟨⟨c2, rfl, hb⟩, rfl⟩; have HBa2 := HBa1; have Hb2 := hide hb; clear hb)
    | (go_at_call 124; (with_reducible refine (part14_any (H.out.new.below HBa2.out.b) (Nat.le_trans H.out.nc.1 H.out.nc.2)).mono ?_); rintro e3 w3 ⟨⟨c3, rfl, hb⟩, hB⟩; have hC := HBa2.out.call hB; clear b0 r0 b1 r1 b2 r2 b3 r3 b4 r4 b5 r5 b6 r6 b7 r7; have b0 := hC.c 0 _ rfl; have b1 := hC.c 1 _ rfl; have b2 := hC.c 2 _ rfl; have b3 := hC.c 3 _ rfl; have b4 := hC.c 4 _ rfl; have b5 := hC.c 5 _ rfl; have b6 := hC.c 6 _ rfl; have b7 := hC.c 7 _ rfl; have r0 := hC.r 0 _ rfl; have r1 := hC.r 1 _ rfl; have r2 := hC.r 2 _ rfl; have r3 := hC.r 3 _ rfl; have r4 := hC.r 4 _ rfl; have r5 := hC.r 5 _ rfl; have r6 := hC.r 6 _ rfl; have r7 := hC.r 7 _ rfl; have HBa3 := hide hC; have Hb3 := hide hb; clear hb hB hC))
  all_goals
    go_ret
    go_tidy
    have hok := @edOk14_2 e
    have hpp := Hpath.out
    have hlp0 := @list_pos14 e.path
    have htt := tl_eq (s := e.frm) (t := e.to)
    try have q1 := Hb1.out
    try have q2 := Hb2.out
    try have q3 := Hb3.out
    refine ⟨RetB.mk ?_, by first | exact HBa3.out.b | exact HBa2.out.b | exact HBa1.out.b | exact HBa0.out.b⟩
    rw [hok]
    clear hok HSm H Hpath
    try clear Hb1 HBa1
    try clear Hb2 HBa2
    try clear Hb3 HBa3
    first
      | grind
     

set_option maxHeartbeats 4000000 in
set_option maxRecDepth 100000 in
theorem edRight14_3 {S : Nat → Prop} {x : Eh} {e : Ed} {w : World} (he : EdIn S w x e) :
    Calls Tryz.prog 60 #[.agg #[.int .u8 3, .slice x.pA e.path.length x.pc, .int .i64 e.at_, .int .i64 e.far, .string e.frm, .string e.to, .slice x.oA e.old.len x.oc, .slice x.nA e.new.len x.nc]] w fun e1 w' => RetB (EdOk { e with kind := 3 }) e1 ∧ Below w.heap.size w w' := by
  have H := hide he
  obtain ⟨W0, hW0⟩ : ∃ W0, W0 = w.alloc (.cells #[.int .u8 3, .slice x.pA e.path.length x.pc, .int .i64 e.at_, .int .i64 e.far, .string e.frm, .string e.to, .slice x.oA e.old.len x.oc, .slice x.nA e.new.len x.nc] 30) := ⟨_, rfl⟩
  have hcl0 : CellsL W0 w.heap.size [.int .u8 3, .slice x.pA e.path.length x.pc, .int .i64 e.at_, .int .i64 e.far, .string e.frm, .string e.to, .slice x.oA e.old.len x.oc, .slice x.nA e.new.len x.nc] := fun j u hu => by rw [hW0, Lib.cell_of_heap (heap_alloc_new w _)]; simpa using hu
  have hBB : Below w.heap.size w W0 := by rw [hW0]; exact below_alloc _ _
  have HB0 := hide hBB
  have HW0 := hide hW0
  have hlp := Nat.le_trans he.pc.1 he.pc.2
  have b0 := hcl0 0 _ rfl
  have b1 := hcl0 1 _ rfl
  have b2 := hcl0 2 _ rfl
  have b3 := hcl0 3 _ rfl
  have b4 := hcl0 4 _ rfl
  have b5 := hcl0 5 _ rfl
  have b6 := hcl0 6 _ rfl
  have b7 := hcl0 7 _ rfl
  clear he hW0 hcl0 hBB
  go_enter Tryz.func60, Tryz.ntmps60
  go_upto_region 1 with fail
  change Code.wp _ _ _ _ (w.alloc (.cells #[.int .u8 3, .slice x.pA e.path.length x.pc, .int .i64 e.at_, .int .i64 e.far, .string e.frm, .string e.to, .slice x.oA e.old.len x.oc, .slice x.nA e.new.len x.nc] 30))
  rw [← HW0.out]
  go_wp2_with fail
  go_loopw [3] (fun i wr => ∃ q : Nat, q ≤ e.path.length ∧ i = .int .i64 q ∧ wr = W0 ∧ Hid (∀ j, (h : j < e.path.length) → j < q → Number e.path[j])) (fun i _ => e.path.length - (intOf i).toNat)
  case atStart => exact ⟨0, Nat.zero_le _, rfl, rfl, hide (fun j _ h => absurd h (by omega))⟩
  case round =>
  obtain ⟨q, hq, rfl, rfl, Hall⟩ := hrel
  by_cases hlt : q < e.path.length
  · obtain ⟨b, o, hpa, hc⟩ := (H.out.path.below HB0.out).1.at_ (j := q) (by simpa using hlt)
    simp only [List.getElem_map] at hc
    rw [hpa] at b1
    have Hpa := hide hpa
    clear hpa
    obtain ⟨m, hm⟩ : ∃ m, m = e.path[q] := ⟨_, rfl⟩
    rw [← hm] at hc
    have Hm := hide hm
    clear hm
    go_wp2_with (go_at_call 122; (with_reducible refine (number14_any m _).mono ?_); rintro e1 w1 ⟨⟨_ | _, rfl, hb⟩, rfl⟩ <;> (have Hb := hide hb; clear hb))
    · go_ret
      refine ⟨RetB.no (fun h => ?_), HB0.out⟩
      have h1 := h.1 _ (List.getElem_mem hlt)
      rw [← Hm.out] at h1
      exact absurd (Hb.out.2 h1) (by decide)
    · go_roundw
      case rel => exact ⟨q + 1, by omega, by go_num, by first | trivial | rfl, hide (fun j h hj => by
        rcases Nat.lt_or_ge j q with h2 | h2
        · exact Hall.out j h h2
        · obtain rfl : j = q := by omega
          rw [← Hm.out]
          exact Hb.out.1 (by first | rfl | trivial))⟩
      case measure => simp [intOf]; omega
  have Hpath : Hid (∀ n ∈ e.path, Number n) := hide (fun n hn => by
    obtain ⟨j, hj, rfl⟩ := List.getElem_of_mem hn
    exact Hall.out j hj (by omega))
  clear Hall
  obtain ⟨W1, hW1⟩ : ∃ W1, W1 = World.alloc wr (.cells #[.int .u8 3, .slice x.pA e.path.length x.pc, .int .i64 0, .int .i64 0, .string ⟨#[]⟩, .string ⟨#[]⟩, .slice none 0 0, .slice none 0 0] 30) := ⟨_, rfl⟩
  have hB1 : BxL w W1 [.int .u8 3, .slice x.pA e.path.length x.pc, .int .i64 e.at_, .int .i64 e.far, .string e.frm, .string e.to, .slice x.oA e.old.len x.oc, .slice x.nA e.new.len x.nc] [.int .u8 3, .slice x.pA e.path.length x.pc, .int .i64 0, .int .i64 0, .string ⟨#[]⟩, .string ⟨#[]⟩, .slice none 0 0, .slice none 0 0] := by rw [hW1, HW0.out]; exact BxL.start w #[.int .u8 3, .slice x.pA e.path.length x.pc, .int .i64 e.at_, .int .i64 e.far, .string e.frm, .string e.to, .slice x.oA e.old.len x.oc, .slice x.nA e.new.len x.nc] #[.int .u8 3, .slice x.pA e.path.length x.pc, .int .i64 0, .int .i64 0, .string ⟨#[]⟩, .string ⟨#[]⟩, .slice none 0 0, .slice none 0 0] _ _
  have hz0 : wr.heap.size = w.heap.size + 1 := by rw [HW0.out]; simp
  have HW1 := hide hW1
  clear hW1
  go_upto_region 7 with fail
  change Code.wp _ _ _ _ (World.alloc wr (.cells #[.int .u8 3, .slice x.pA e.path.length x.pc, .int .i64 0, .int .i64 0, .string ⟨#[]⟩, .string ⟨#[]⟩, .slice none 0 0, .slice none 0 0] 30))
  rw [← HW1.out]
  clear b0 b1 b2 b3 b4 b5 b6 b7 HW1 HW0
  clear hz0
  have b0 := hB1.c 0 _ rfl
  have b1 := hB1.c 1 _ rfl
  have b2 := hB1.c 2 _ rfl
  have b3 := hB1.c 3 _ rfl
  have b4 := hB1.c 4 _ rfl
  have b5 := hB1.c 5 _ rfl
  have b6 := hB1.c 6 _ rfl
  have b7 := hB1.c 7 _ rfl
  have r0 := hB1.r 0 _ rfl
  have r1 := hB1.r 1 _ rfl
  have r2 := hB1.r 2 _ rfl
  have r3 := hB1.r 3 _ rfl
  have r4 := hB1.r 4 _ rfl
  have r5 := hB1.r 5 _ rfl
  have r6 := hB1.r 6 _ rfl
  have r7 := hB1.r 7 _ rfl
  have fr := hB1.fr
  have HB1 := hide hB1
  clear hB1 HB0
  go_upto_region 19 with fail
  have hBa := HB1.out.putR 2 [.int .i64 e.at_] (by simp)
  obtain ⟨wa, hFa⟩ : ∃ wa, wa = World.setCells W1 (w.heap.size + 1) 2 [.int .i64 e.at_] := ⟨_, rfl⟩
  rw [← hFa] at hBa
  simp only [World.setCells] at hFa
  rw [← hFa]
  replace hBa : BxL w wa [.int .u8 3, .slice x.pA e.path.length x.pc, .int .i64 e.at_, .int .i64 e.far, .string e.frm, .string e.to, .slice x.oA e.old.len x.oc, .slice x.nA e.new.len x.nc] [.int .u8 3, .slice x.pA e.path.length x.pc, .int .i64 e.at_, .int .i64 0, .string ⟨#[]⟩, .string ⟨#[]⟩, .slice none 0 0, .slice none 0 0] := hBa
  have HBa := hide hBa
  clear hBa hFa
  have hBb := HBa.out.putR 6 [.slice x.oA e.old.len x.oc] (by simp)
  obtain ⟨wb, hFb⟩ : ∃ wb, wb = World.setCells wa (w.heap.size + 1) 6 [.slice x.oA e.old.len x.oc] := ⟨_, rfl⟩
  rw [← hFb] at hBb
  simp only [World.setCells] at hFb
  rw [← hFb]
  replace hBb : BxL w wb [.int .u8 3, .slice x.pA e.path.length x.pc, .int .i64 e.at_, .int .i64 e.far, .string e.frm, .string e.to, .slice x.oA e.old.len x.oc, .slice x.nA e.new.len x.nc] [.int .u8 3, .slice x.pA e.path.length x.pc, .int .i64 e.at_, .int .i64 0, .string ⟨#[]⟩, .string ⟨#[]⟩, .slice x.oA e.old.len x.oc, .slice none 0 0] := hBb
  have HBb := hide hBb
  clear hBb hFb
  clear b0 r0 b1 r1 b2 r2 b3 r3 b4 r4 b5 r5 b6 r6 b7 r7 fr HB1
  clear HBa
  have HBa0 := HBb
  clear HBb
  have HSm : Hid (∀ W, Below w.heap.size w W → Calls Tryz.prog 44 #[.agg #[.int .u8 3, .slice x.pA e.path.length x.pc, .int .i64 e.at_, .int .i64 e.far, .string e.frm, .string e.to, .slice x.oA e.old.len x.oc, .slice x.nA e.new.len x.nc], .agg #[.int .u8 3, .slice x.pA e.path.length x.pc, .int .i64 e.at_, .int .i64 0, .string ⟨#[]⟩, .string ⟨#[]⟩, .slice x.oA e.old.len x.oc, .slice none 0 0]] W fun e1 w' => RetB (({ e with kind := 3 } : Ed) = ⟨3, e.path, e.at_, 0, ⟨#[]⟩, ⟨#[]⟩, e.old, .nil⟩) e1 ∧ Below W.heap.size W w') :=
    hide fun W hW => sameEdit_any (a := { e with kind := 3 }) (b := ⟨3, e.path, e.at_, 0, ⟨#[]⟩, ⟨#[]⟩, e.old, .nil⟩) (x := x) (y := ⟨x.pA, x.pc, x.oA, x.oc, none, 0⟩) ⟨(by show 3 < 256; omega), H.out.path.below hW, H.out.at_, H.out.far, H.out.frm, H.out.to, H.out.old.below hW, H.out.new.below hW, H.out.pc, H.out.oc, H.out.nc⟩ ⟨(by show 3 < 256; omega), H.out.path.below hW, H.out.at_, (by show isInt64 0; unfold isInt64; omega), (by show (0 : Nat) ≤ _; omega), (by show (0 : Nat) ≤ _; omega), (H.out.old.below hW), trivial, H.out.pc, H.out.oc, ⟨by simp [Fo.len], by simp⟩⟩
  have hBq := HBa0.out
  have b0 := hBq.c 0 _ rfl
  have b1 := hBq.c 1 _ rfl
  have b2 := hBq.c 2 _ rfl
  have b3 := hBq.c 3 _ rfl
  have b4 := hBq.c 4 _ rfl
  have b5 := hBq.c 5 _ rfl
  have b6 := hBq.c 6 _ rfl
  have b7 := hBq.c 7 _ rfl
  have r0 := hBq.r 0 _ rfl
  have r1 := hBq.r 1 _ rfl
  have r2 := hBq.r 2 _ rfl
  have r3 := hBq.r 3 _ rfl
  have r4 := hBq.r 4 _ rfl
  have r5 := hBq.r 5 _ rfl
  have r6 := hBq.r 6 _ rfl
  have r7 := hBq.r 7 _ rfl
  clear hBq
  go_wp2_with (first
    | (go_at_call 44; (with_reducible refine (HSm.out _ HBa0.out.b).mono ?_); rintro e1 w1 ⟨⟨c1, rfl, hb⟩, hB⟩; have hC := HBa0.out.call hB; clear b0 r0 b1 r1 b2 r2 b3 r3 b4 r4 b5 r5 b6 r6 b7 r7; have b0 := hC.c 0 _ rfl; have b1 := hC.c 1 _ rfl; have b2 := hC.c 2 _ rfl; have b3 := hC.c 3 _ rfl; have b4 := hC.c 4 _ rfl; have b5 := hC.c 5 _ rfl; have b6 := hC.c 6 _ rfl; have b7 := hC.c 7 _ rfl; have r0 := hC.r 0 _ rfl; have r1 := hC.r 1 _ rfl; have r2 := hC.r 2 _ rfl; have r3 := hC.r 3 _ rfl; have r4 := hC.r 4 _ rfl; have r5 := hC.r 5 _ rfl; have r6 := hC.r 6 _ rfl; have r7 := hC.r 7 _ rfl; have HBa1 := hide hC; have Hb1 := hide hb; clear hb hB hC)
    | (go_at_call 122; (with_reducible refine (number14_any e.at_ _).mono ?_); rintro e2 w2 ⟨⟨c2, rfl, hb⟩, rfl⟩; have HBa2 := HBa1; have Hb2 := hide hb; clear hb)
    | (go_at_call 124; (with_reducible refine (part14_any (H.out.old.below HBa2.out.b) (Nat.le_trans H.out.oc.1 H.out.oc.2)).mono ?_); rintro e3 w3 ⟨⟨c3, rfl, hb⟩, hB⟩; have hC := HBa2.out.call hB; clear b0 r0 b1 r1 b2 r2 b3 r3 b4 r4 b5 r5 b6 r6 b7 r7; have b0 := hC.c 0 _ rfl; have b1 := hC.c 1 _ rfl; have b2 := hC.c 2 _ rfl; have b3 := hC.c 3 _ rfl; have b4 := hC.c 4 _ rfl; have b5 := hC.c 5 _ rfl; have b6 := hC.c 6 _ rfl; have b7 := hC.c 7 _ rfl; have r0 := hC.r 0 _ rfl; have r1 := hC.r 1 _ rfl; have r2 := hC.r 2 _ rfl; have r3 := hC.r 3 _ rfl; have r4 := hC.r 4 _ rfl; have r5 := hC.r 5 _ rfl; have r6 := hC.r 6 _ rfl; have r7 := hC.r 7 _ rfl; have HBa3 := hide hC; have Hb3 := hide hb; clear hb hB hC))
  all_goals
    go_ret
    go_tidy
    have hok := @edOk14_3 e
    have hpp := Hpath.out
    have hlp0 := @list_pos14 e.path
    have htt := tl_eq (s := e.frm) (t := e.to)
    try have q1 := Hb1.out
    try have q2 := Hb2.out
    try have q3 := Hb3.out
    refine ⟨RetB.mk ?_, by first | exact HBa3.out.b | exact HBa2.out.b | exact HBa1.out.b | exact HBa0.out.b⟩
    rw [hok]
    clear hok HSm H Hpath
    try clear Hb1 HBa1
    try clear Hb2 HBa2
    try clear Hb3 HBa3
    first
      | grind
     

set_option maxHeartbeats 4000000 in
set_option maxRecDepth 100000 in
theorem edRight14_5 {S : Nat → Prop} {x : Eh} {e : Ed} {w : World} (he : EdIn S w x e) :
    Calls Tryz.prog 60 #[.agg #[.int .u8 5, .slice x.pA e.path.length x.pc, .int .i64 e.at_, .int .i64 e.far, .string e.frm, .string e.to, .slice x.oA e.old.len x.oc, .slice x.nA e.new.len x.nc]] w fun e1 w' => RetB (EdOk { e with kind := 5 }) e1 ∧ Below w.heap.size w w' := by
  have H := hide he
  obtain ⟨W0, hW0⟩ : ∃ W0, W0 = w.alloc (.cells #[.int .u8 5, .slice x.pA e.path.length x.pc, .int .i64 e.at_, .int .i64 e.far, .string e.frm, .string e.to, .slice x.oA e.old.len x.oc, .slice x.nA e.new.len x.nc] 30) := ⟨_, rfl⟩
  have hcl0 : CellsL W0 w.heap.size [.int .u8 5, .slice x.pA e.path.length x.pc, .int .i64 e.at_, .int .i64 e.far, .string e.frm, .string e.to, .slice x.oA e.old.len x.oc, .slice x.nA e.new.len x.nc] := fun j u hu => by rw [hW0, Lib.cell_of_heap (heap_alloc_new w _)]; simpa using hu
  have hBB : Below w.heap.size w W0 := by rw [hW0]; exact below_alloc _ _
  have HB0 := hide hBB
  have HW0 := hide hW0
  have hlp := Nat.le_trans he.pc.1 he.pc.2
  have b0 := hcl0 0 _ rfl
  have b1 := hcl0 1 _ rfl
  have b2 := hcl0 2 _ rfl
  have b3 := hcl0 3 _ rfl
  have b4 := hcl0 4 _ rfl
  have b5 := hcl0 5 _ rfl
  have b6 := hcl0 6 _ rfl
  have b7 := hcl0 7 _ rfl
  clear he hW0 hcl0 hBB
  go_enter Tryz.func60, Tryz.ntmps60
  go_upto_region 1 with fail
  change Code.wp _ _ _ _ (w.alloc (.cells #[.int .u8 5, .slice x.pA e.path.length x.pc, .int .i64 e.at_, .int .i64 e.far, .string e.frm, .string e.to, .slice x.oA e.old.len x.oc, .slice x.nA e.new.len x.nc] 30))
  rw [← HW0.out]
  go_wp2_with fail
  go_loopw [3] (fun i wr => ∃ q : Nat, q ≤ e.path.length ∧ i = .int .i64 q ∧ wr = W0 ∧ Hid (∀ j, (h : j < e.path.length) → j < q → Number e.path[j])) (fun i _ => e.path.length - (intOf i).toNat)
  case atStart => exact ⟨0, Nat.zero_le _, rfl, rfl, hide (fun j _ h => absurd h (by omega))⟩
  case round =>
  obtain ⟨q, hq, rfl, rfl, Hall⟩ := hrel
  by_cases hlt : q < e.path.length
  · obtain ⟨b, o, hpa, hc⟩ := (H.out.path.below HB0.out).1.at_ (j := q) (by simpa using hlt)
    simp only [List.getElem_map] at hc
    rw [hpa] at b1
    have Hpa := hide hpa
    clear hpa
    obtain ⟨m, hm⟩ : ∃ m, m = e.path[q] := ⟨_, rfl⟩
    rw [← hm] at hc
    have Hm := hide hm
    clear hm
    go_wp2_with (go_at_call 122; (with_reducible refine (number14_any m _).mono ?_); rintro e1 w1 ⟨⟨_ | _, rfl, hb⟩, rfl⟩ <;> (have Hb := hide hb; clear hb))
    · go_ret
      refine ⟨RetB.no (fun h => ?_), HB0.out⟩
      have h1 := h.1 _ (List.getElem_mem hlt)
      rw [← Hm.out] at h1
      exact absurd (Hb.out.2 h1) (by decide)
    · go_roundw
      case rel => exact ⟨q + 1, by omega, by go_num, by first | trivial | rfl, hide (fun j h hj => by
        rcases Nat.lt_or_ge j q with h2 | h2
        · exact Hall.out j h h2
        · obtain rfl : j = q := by omega
          rw [← Hm.out]
          exact Hb.out.1 (by first | rfl | trivial))⟩
      case measure => simp [intOf]; omega
  have Hpath : Hid (∀ n ∈ e.path, Number n) := hide (fun n hn => by
    obtain ⟨j, hj, rfl⟩ := List.getElem_of_mem hn
    exact Hall.out j hj (by omega))
  clear Hall
  obtain ⟨W1, hW1⟩ : ∃ W1, W1 = World.alloc wr (.cells #[.int .u8 5, .slice x.pA e.path.length x.pc, .int .i64 0, .int .i64 0, .string ⟨#[]⟩, .string ⟨#[]⟩, .slice none 0 0, .slice none 0 0] 30) := ⟨_, rfl⟩
  have hB1 : BxL w W1 [.int .u8 5, .slice x.pA e.path.length x.pc, .int .i64 e.at_, .int .i64 e.far, .string e.frm, .string e.to, .slice x.oA e.old.len x.oc, .slice x.nA e.new.len x.nc] [.int .u8 5, .slice x.pA e.path.length x.pc, .int .i64 0, .int .i64 0, .string ⟨#[]⟩, .string ⟨#[]⟩, .slice none 0 0, .slice none 0 0] := by rw [hW1, HW0.out]; exact BxL.start w #[.int .u8 5, .slice x.pA e.path.length x.pc, .int .i64 e.at_, .int .i64 e.far, .string e.frm, .string e.to, .slice x.oA e.old.len x.oc, .slice x.nA e.new.len x.nc] #[.int .u8 5, .slice x.pA e.path.length x.pc, .int .i64 0, .int .i64 0, .string ⟨#[]⟩, .string ⟨#[]⟩, .slice none 0 0, .slice none 0 0] _ _
  have hz0 : wr.heap.size = w.heap.size + 1 := by rw [HW0.out]; simp
  have HW1 := hide hW1
  clear hW1
  go_upto_region 7 with fail
  change Code.wp _ _ _ _ (World.alloc wr (.cells #[.int .u8 5, .slice x.pA e.path.length x.pc, .int .i64 0, .int .i64 0, .string ⟨#[]⟩, .string ⟨#[]⟩, .slice none 0 0, .slice none 0 0] 30))
  rw [← HW1.out]
  clear b0 b1 b2 b3 b4 b5 b6 b7 HW1 HW0
  clear hz0
  have b0 := hB1.c 0 _ rfl
  have b1 := hB1.c 1 _ rfl
  have b2 := hB1.c 2 _ rfl
  have b3 := hB1.c 3 _ rfl
  have b4 := hB1.c 4 _ rfl
  have b5 := hB1.c 5 _ rfl
  have b6 := hB1.c 6 _ rfl
  have b7 := hB1.c 7 _ rfl
  have r0 := hB1.r 0 _ rfl
  have r1 := hB1.r 1 _ rfl
  have r2 := hB1.r 2 _ rfl
  have r3 := hB1.r 3 _ rfl
  have r4 := hB1.r 4 _ rfl
  have r5 := hB1.r 5 _ rfl
  have r6 := hB1.r 6 _ rfl
  have r7 := hB1.r 7 _ rfl
  have fr := hB1.fr
  have HB1 := hide hB1
  clear hB1 HB0
  go_upto_region 28 with fail
  have hBa := HB1.out.putR 2 [.int .i64 e.at_] (by simp)
  obtain ⟨wa, hFa⟩ : ∃ wa, wa = World.setCells W1 (w.heap.size + 1) 2 [.int .i64 e.at_] := ⟨_, rfl⟩
  rw [← hFa] at hBa
  simp only [World.setCells] at hFa
  rw [← hFa]
  replace hBa : BxL w wa [.int .u8 5, .slice x.pA e.path.length x.pc, .int .i64 e.at_, .int .i64 e.far, .string e.frm, .string e.to, .slice x.oA e.old.len x.oc, .slice x.nA e.new.len x.nc] [.int .u8 5, .slice x.pA e.path.length x.pc, .int .i64 e.at_, .int .i64 0, .string ⟨#[]⟩, .string ⟨#[]⟩, .slice none 0 0, .slice none 0 0] := hBa
  have HBa := hide hBa
  clear hBa hFa
  have hBb := HBa.out.putR 3 [.int .i64 e.far] (by simp)
  obtain ⟨wb, hFb⟩ : ∃ wb, wb = World.setCells wa (w.heap.size + 1) 3 [.int .i64 e.far] := ⟨_, rfl⟩
  rw [← hFb] at hBb
  simp only [World.setCells] at hFb
  rw [← hFb]
  replace hBb : BxL w wb [.int .u8 5, .slice x.pA e.path.length x.pc, .int .i64 e.at_, .int .i64 e.far, .string e.frm, .string e.to, .slice x.oA e.old.len x.oc, .slice x.nA e.new.len x.nc] [.int .u8 5, .slice x.pA e.path.length x.pc, .int .i64 e.at_, .int .i64 e.far, .string ⟨#[]⟩, .string ⟨#[]⟩, .slice none 0 0, .slice none 0 0] := hBb
  have HBb := hide hBb
  clear hBb hFb
  have hBc := HBb.out.putR 6 [.slice x.oA e.old.len x.oc] (by simp)
  obtain ⟨wc, hFc⟩ : ∃ wc, wc = World.setCells wb (w.heap.size + 1) 6 [.slice x.oA e.old.len x.oc] := ⟨_, rfl⟩
  rw [← hFc] at hBc
  simp only [World.setCells] at hFc
  rw [← hFc]
  replace hBc : BxL w wc [.int .u8 5, .slice x.pA e.path.length x.pc, .int .i64 e.at_, .int .i64 e.far, .string e.frm, .string e.to, .slice x.oA e.old.len x.oc, .slice x.nA e.new.len x.nc] [.int .u8 5, .slice x.pA e.path.length x.pc, .int .i64 e.at_, .int .i64 e.far, .string ⟨#[]⟩, .string ⟨#[]⟩, .slice x.oA e.old.len x.oc, .slice none 0 0] := hBc
  have HBc := hide hBc
  clear hBc hFc
  clear b0 r0 b1 r1 b2 r2 b3 r3 b4 r4 b5 r5 b6 r6 b7 r7 fr HB1
  clear HBa
  clear HBb
  have HBa0 := HBc
  clear HBc
  have HSm : Hid (∀ W, Below w.heap.size w W → Calls Tryz.prog 44 #[.agg #[.int .u8 5, .slice x.pA e.path.length x.pc, .int .i64 e.at_, .int .i64 e.far, .string e.frm, .string e.to, .slice x.oA e.old.len x.oc, .slice x.nA e.new.len x.nc], .agg #[.int .u8 5, .slice x.pA e.path.length x.pc, .int .i64 e.at_, .int .i64 e.far, .string ⟨#[]⟩, .string ⟨#[]⟩, .slice x.oA e.old.len x.oc, .slice none 0 0]] W fun e1 w' => RetB (({ e with kind := 5 } : Ed) = ⟨5, e.path, e.at_, e.far, ⟨#[]⟩, ⟨#[]⟩, e.old, .nil⟩) e1 ∧ Below W.heap.size W w') :=
    hide fun W hW => sameEdit_any (a := { e with kind := 5 }) (b := ⟨5, e.path, e.at_, e.far, ⟨#[]⟩, ⟨#[]⟩, e.old, .nil⟩) (x := x) (y := ⟨x.pA, x.pc, x.oA, x.oc, none, 0⟩) ⟨(by show 5 < 256; omega), H.out.path.below hW, H.out.at_, H.out.far, H.out.frm, H.out.to, H.out.old.below hW, H.out.new.below hW, H.out.pc, H.out.oc, H.out.nc⟩ ⟨(by show 5 < 256; omega), H.out.path.below hW, H.out.at_, H.out.far, (by show (0 : Nat) ≤ _; omega), (by show (0 : Nat) ≤ _; omega), (H.out.old.below hW), trivial, H.out.pc, H.out.oc, ⟨by simp [Fo.len], by simp⟩⟩
  have hBq := HBa0.out
  have b0 := hBq.c 0 _ rfl
  have b1 := hBq.c 1 _ rfl
  have b2 := hBq.c 2 _ rfl
  have b3 := hBq.c 3 _ rfl
  have b4 := hBq.c 4 _ rfl
  have b5 := hBq.c 5 _ rfl
  have b6 := hBq.c 6 _ rfl
  have b7 := hBq.c 7 _ rfl
  have r0 := hBq.r 0 _ rfl
  have r1 := hBq.r 1 _ rfl
  have r2 := hBq.r 2 _ rfl
  have r3 := hBq.r 3 _ rfl
  have r4 := hBq.r 4 _ rfl
  have r5 := hBq.r 5 _ rfl
  have r6 := hBq.r 6 _ rfl
  have r7 := hBq.r 7 _ rfl
  clear hBq
  go_wp2_with (first
    | (go_at_call 44; (with_reducible refine (HSm.out _ HBa0.out.b).mono ?_); rintro e1 w1 ⟨⟨c1, rfl, hb⟩, hB⟩; have hC := HBa0.out.call hB; clear b0 r0 b1 r1 b2 r2 b3 r3 b4 r4 b5 r5 b6 r6 b7 r7; have b0 := hC.c 0 _ rfl; have b1 := hC.c 1 _ rfl; have b2 := hC.c 2 _ rfl; have b3 := hC.c 3 _ rfl; have b4 := hC.c 4 _ rfl; have b5 := hC.c 5 _ rfl; have b6 := hC.c 6 _ rfl; have b7 := hC.c 7 _ rfl; have r0 := hC.r 0 _ rfl; have r1 := hC.r 1 _ rfl; have r2 := hC.r 2 _ rfl; have r3 := hC.r 3 _ rfl; have r4 := hC.r 4 _ rfl; have r5 := hC.r 5 _ rfl; have r6 := hC.r 6 _ rfl; have r7 := hC.r 7 _ rfl; have HBa1 := hide hC; have Hb1 := hide hb; clear hb hB hC)
    | (go_at_call 122; (with_reducible refine (number14_any e.at_ _).mono ?_); rintro e2 w2 ⟨⟨c2, rfl, hb⟩, rfl⟩; have HBa2 := HBa1; have Hb2 := hide hb; clear hb)
    | (go_at_call 122; (with_reducible refine (number14_any e.far _).mono ?_); rintro e3 w3 ⟨⟨c3, rfl, hb⟩, rfl⟩; have HBa3 := HBa2; have Hb3 := hide hb; clear hb)
    | (go_at_call 124; (with_reducible refine (part14_any (H.out.old.below HBa3.out.b) (Nat.le_trans H.out.oc.1 H.out.oc.2)).mono ?_); rintro e4 w4 ⟨⟨c4, rfl, hb⟩, hB⟩; have hC := HBa3.out.call hB; clear b0 r0 b1 r1 b2 r2 b3 r3 b4 r4 b5 r5 b6 r6 b7 r7; have b0 := hC.c 0 _ rfl; have b1 := hC.c 1 _ rfl; have b2 := hC.c 2 _ rfl; have b3 := hC.c 3 _ rfl; have b4 := hC.c 4 _ rfl; have b5 := hC.c 5 _ rfl; have b6 := hC.c 6 _ rfl; have b7 := hC.c 7 _ rfl; have r0 := hC.r 0 _ rfl; have r1 := hC.r 1 _ rfl; have r2 := hC.r 2 _ rfl; have r3 := hC.r 3 _ rfl; have r4 := hC.r 4 _ rfl; have r5 := hC.r 5 _ rfl; have r6 := hC.r 6 _ rfl; have r7 := hC.r 7 _ rfl; have HBa4 := hide hC; have Hb4 := hide hb; clear hb hB hC))
  all_goals
    go_ret
    go_tidy
    have hok := @edOk14_5 e
    have hpp := Hpath.out
    have hlp0 := @list_pos14 e.path
    have htt := tl_eq (s := e.frm) (t := e.to)
    try have q1 := Hb1.out
    try have q2 := Hb2.out
    try have q3 := Hb3.out
    try have q4 := Hb4.out
    refine ⟨RetB.mk ?_, by first | exact HBa4.out.b | exact HBa3.out.b | exact HBa2.out.b | exact HBa1.out.b | exact HBa0.out.b⟩
    rw [hok]
    clear hok HSm H Hpath
    try clear Hb1 HBa1
    try clear Hb2 HBa2
    try clear Hb3 HBa3
    try clear Hb4 HBa4
    first
      | grind
     

set_option maxHeartbeats 4000000 in
set_option maxRecDepth 100000 in
theorem edRight14_0 {S : Nat → Prop} {x : Eh} {e : Ed} {w : World} (he : EdIn S w x e) (h1 : e.kind ≠ 1) (h2 : e.kind ≠ 2) (h3 : e.kind ≠ 3) (h4 : e.kind ≠ 4) (h5 : e.kind ≠ 5) :
    Calls Tryz.prog 60 #[.agg #[.int .u8 e.kind, .slice x.pA e.path.length x.pc, .int .i64 e.at_, .int .i64 e.far, .string e.frm, .string e.to, .slice x.oA e.old.len x.oc, .slice x.nA e.new.len x.nc]] w fun e1 w' => RetB (EdOk e) e1 ∧ Below w.heap.size w w' := by
  have hno := hide (edOk14_0 h1 h2 h3 h4 h5)
  have n1 : ((e.kind : Int) == 1) = false := by rw [beq_eq_false_iff_ne]; omega
  have n2 : ((e.kind : Int) == 2) = false := by rw [beq_eq_false_iff_ne]; omega
  have n3 : ((e.kind : Int) == 3) = false := by rw [beq_eq_false_iff_ne]; omega
  have n4 : ((e.kind : Int) == 4) = false := by rw [beq_eq_false_iff_ne]; omega
  have n5 : ((e.kind : Int) == 5) = false := by rw [beq_eq_false_iff_ne]; omega
  clear h1 h2 h3 h4 h5
  have H := hide he
  obtain ⟨W0, hW0⟩ : ∃ W0, W0 = w.alloc (.cells #[.int .u8 e.kind, .slice x.pA e.path.length x.pc, .int .i64 e.at_, .int .i64 e.far, .string e.frm, .string e.to, .slice x.oA e.old.len x.oc, .slice x.nA e.new.len x.nc] 30) := ⟨_, rfl⟩
  have hcl0 : CellsL W0 w.heap.size [.int .u8 e.kind, .slice x.pA e.path.length x.pc, .int .i64 e.at_, .int .i64 e.far, .string e.frm, .string e.to, .slice x.oA e.old.len x.oc, .slice x.nA e.new.len x.nc] := fun j u hu => by rw [hW0, Lib.cell_of_heap (heap_alloc_new w _)]; simpa using hu
  have hBB : Below w.heap.size w W0 := by rw [hW0]; exact below_alloc _ _
  have HB0 := hide hBB
  have HW0 := hide hW0
  have hlp := Nat.le_trans he.pc.1 he.pc.2
  have b0 := hcl0 0 _ rfl
  have b1 := hcl0 1 _ rfl
  have b2 := hcl0 2 _ rfl
  have b3 := hcl0 3 _ rfl
  have b4 := hcl0 4 _ rfl
  have b5 := hcl0 5 _ rfl
  have b6 := hcl0 6 _ rfl
  have b7 := hcl0 7 _ rfl
  clear he hW0 hcl0 hBB
  go_enter Tryz.func60, Tryz.ntmps60
  go_upto_region 1 with fail
  change Code.wp _ _ _ _ (w.alloc (.cells #[.int .u8 e.kind, .slice x.pA e.path.length x.pc, .int .i64 e.at_, .int .i64 e.far, .string e.frm, .string e.to, .slice x.oA e.old.len x.oc, .slice x.nA e.new.len x.nc] 30))
  rw [← HW0.out]
  go_wp2_with fail
  go_loopw [3] (fun i wr => ∃ q : Nat, q ≤ e.path.length ∧ i = .int .i64 q ∧ wr = W0 ∧ Hid (∀ j, (h : j < e.path.length) → j < q → Number e.path[j])) (fun i _ => e.path.length - (intOf i).toNat)
  case atStart => exact ⟨0, Nat.zero_le _, rfl, rfl, hide (fun j _ h => absurd h (by omega))⟩
  case round =>
  obtain ⟨q, hq, rfl, rfl, Hall⟩ := hrel
  by_cases hlt : q < e.path.length
  · obtain ⟨b, o, hpa, hc⟩ := (H.out.path.below HB0.out).1.at_ (j := q) (by simpa using hlt)
    simp only [List.getElem_map] at hc
    rw [hpa] at b1
    have Hpa := hide hpa
    clear hpa
    obtain ⟨m, hm⟩ : ∃ m, m = e.path[q] := ⟨_, rfl⟩
    rw [← hm] at hc
    have Hm := hide hm
    clear hm
    go_wp2_with (go_at_call 122; (with_reducible refine (number14_any m _).mono ?_); rintro e1 w1 ⟨⟨_ | _, rfl, hb⟩, rfl⟩ <;> (have Hb := hide hb; clear hb))
    · go_ret
      exact ⟨RetB.no hno.out, HB0.out⟩
    · go_roundw
      case rel => exact ⟨q + 1, by omega, by go_num, by first | trivial | rfl, hide (fun j h hj => by
        rcases Nat.lt_or_ge j q with h2 | h2
        · exact Hall.out j h h2
        · obtain rfl : j = q := by omega
          rw [← Hm.out]
          exact Hb.out.1 (by first | rfl | trivial))⟩
      case measure => simp [intOf]; omega
  have Hpath : Hid (∀ n ∈ e.path, Number n) := hide (fun n hn => by
    obtain ⟨j, hj, rfl⟩ := List.getElem_of_mem hn
    exact Hall.out j hj (by omega))
  clear Hall
  have hz0 : wr.heap.size = w.heap.size + 1 := by rw [HW0.out]; simp
  clear HW0
  go_wp2_with fail
  go_ret
  exact ⟨RetB.no hno.out, HB0.out.alloc HB0.out.size _⟩

end Go.Proofs.YtfhfkbdaglegpaaGreatDoor
