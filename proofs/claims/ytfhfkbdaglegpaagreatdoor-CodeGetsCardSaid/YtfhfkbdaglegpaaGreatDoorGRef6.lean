/- What the document's functions on bytes and on names tell. -/
import Derived.Lib.SplitLaws
import Derived.Lib.Join
import Derived.Lib.ItoaNum
import Derived.Test.YtfhfkbdaglegpaaGreatDoorProg
import Derived.BigQuiet
import Derived.Test.YtfhfkbdaglegpaaGreatDoorGTabs
import Derived.Test.YtfhfkbdaglegpaaGreatDoorGBase
import Derived.Test.YtfhfkbdaglegpaaGreatDoorGNames
import Derived.Test.YtfhfkbdaglegpaaGreatDoorGSame

set_option linter.unusedVariables false
set_option linter.unusedSimpArgs false

namespace Go.Proofs.YtfhfkbdaglegpaaGreatDoor
open Go.RowKit

theorem digit_any (c : UInt8) (w : World) : Calls Tryz.prog 165 #[.int .u8 c.toNat] w fun e w' => RetB (Digit c) e ∧ w = w' := by
  go_enter Tryz.func165, Tryz.ntmps165
  go_wp2
  all_goals go_ret
  all_goals exact ⟨RetB.mk (by unfold Digit; simp; try omega), rfl⟩

theorem letter5_any (c : UInt8) (w : World) : Calls Tryz.prog 162 #[.int .u8 c.toNat] w fun e w' => RetB (Letter c) e ∧ w = w' := by
  go_enter Tryz.func162, Tryz.ntmps162
  go_wp2
  all_goals go_ret
  all_goals exact ⟨RetB.mk (by unfold Letter; simp; try omega), rfl⟩

set_option maxHeartbeats 400000 in
theorem name20_any (s : ByteArray) (w : World) (hs : s.size ≤ 9223372036854775807) : Calls Tryz.prog 61 #[.string s] w fun e w' => RetB (FileName s) e ∧ w = w' := by
  go_enter Tryz.func61, Tryz.ntmps61
  go_wp2
  go_loop [3] (fun i => ∃ k : Nat, k ≤ s.size ∧ i = .int .i64 k ∧ Hid (∀ j, (h : j < k) → (h' : j < s.size) → FileChar (s[j]))) (fun i => s.size - (intOf i).toNat)
  case atStart => exact ⟨0, Nat.zero_le _, rfl, hide (fun j h => absurd h (by omega))⟩
  case round =>
    obtain ⟨k, hk, rfl, hall⟩ := hrel
    by_cases hlt : k < s.size
    · go_wp2
      all_goals first
        | (go_round
           case rel => exact ⟨k + 1, by omega, by go_num, hide (all_step hall.out hlt (by go_tidy; clear hall; unfold FileChar Digit; simp at *; omega))⟩
           case measure => simp [intOf]; omega)
        | (go_ret
           exact ⟨RetB.no fun h => (by go_tidy; clear hall h; unfold FileChar Digit; simp at *; omega : ¬ FileChar s[k]) (h.2.2 _ (mem_idx s k hlt)), rfl⟩)
    · have H := hide (all_done hall.out hlt)
      clear hall
      go_wp2
      all_goals (go_ret; go_tidy; exact ⟨RetB.mk (by rw [fileName_end H.out]; clear H; simp; try omega), rfl⟩)

end Go.Proofs.YtfhfkbdaglegpaaGreatDoor

namespace Go.Proofs.YtfhfkbdaglegpaaGreatDoor
open Go

/-! ### numbers are words -/
end Go.Proofs.YtfhfkbdaglegpaaGreatDoor

namespace Go.Proofs.YtfhfkbdaglegpaaGreatDoor
open Go

end Go.Proofs.YtfhfkbdaglegpaaGreatDoor

namespace Go.Proofs.YtfhfkbdaglegpaaGreatDoor
open Go.RowKit

set_option maxHeartbeats 1000000 in
/-- a text among texts -/
theorem one5_any {S : Nat → Prop} {A : Option Addr} {c : Nat} {l : List ByteArray} {x : ByteArray} {w : World} (hl : Rd S w A (l.map .string)) (hlen : l.length ≤ 9223372036854775807) :
    Calls Tryz.prog 163 #[.string x, .slice A l.length c] w fun e w' => RetB (x ∈ l) e ∧ w = w' := by
  have Hl := hide hl
  clear hl
  go_enter Tryz.func163, Tryz.ntmps163
  go_wp2_with fail
  go_loop [5] (fun i => ∃ k : Nat, k ≤ l.length ∧ i = .int .i64 k ∧ Hid (∀ j, j < k → l[j]? ≠ some x)) (fun i => l.length - (intOf i).toNat)
  case atStart => exact ⟨0, Nat.zero_le _, rfl, hide (fun j h => absurd h (by omega))⟩
  case round =>
    obtain ⟨k, hk, rfl, hall⟩ := hrel
    by_cases hlt : k < l.length
    · obtain ⟨b, o, rfl, h1⟩ := Hl.out.at_ (j := k) (by simpa using hlt)
      simp only [List.getElem_map] at h1
      have E := hide (show l[k]? = some l[k] by simp [hlt])
      generalize l[k] = s at h1 E
      go_wp2_with fail
      · have ht : (s.toList == x.toList) = true := by assumption
        go_ret
        exact ⟨RetB.yes (List.mem_of_getElem? (E.out.trans (congrArg some (txt_eq.1 ht)))), rfl⟩
      · have ht : (s.toList == x.toList) = false := by assumption
        go_round
        case rel => exact ⟨k + 1, by omega, by go_num, hide (ne_step hall.out E.out (fun e => by subst e; simp at ht))⟩
        case measure => simp [intOf]; omega
    · go_wp2_with fail
      go_ret
      exact ⟨RetB.no (ne_done hall.out hlt), rfl⟩

theorem words5_any (w : World) : Calls Tryz.prog 164 #[] w (SplitPost words w) := by
  go_enter Tryz.func164, Tryz.ntmps164
  go_wp2
  go_ret
  refine ⟨some ⟨w.heap.size, 0, none⟩, 11, rfl, ?_, below_alloc _ _⟩
  exact rd_new (S := fun _ => True) (w := w) (cs := (txts words).map .string) (t := 9) trivial

set_option maxHeartbeats 2000000 in
theorem name5_any (s : ByteArray) (w : World) (hs : s.size ≤ 9223372036854775807) : Calls Tryz.prog 123 #[.string s] w fun e w' => RetB (LexName s) e ∧ Below w.heap.size w w' := by
  have hz := hide (size_nil s)
  by_cases h0 : 0 < s.size
  · have hne : ¬ s.toList = [] := by rw [size_nil]; omega
    have hne2 : s.toList.isEmpty = false := by simpa using hne
    by_cases h1 : s.size ≤ 24
    · have Hiff := hide (lexName_iff h0)
      go_enter Tryz.func123, Tryz.ntmps123
      go_wp2_with (first
        | (go_at_call 162; refine (letter5_any s[0] _).mono ?_; rintro e w1 ⟨⟨_ | _, rfl, hb⟩, rfl⟩ <;> (have Hb := hide hb; clear hb))
        | (go_at_call 164; refine (words5_any _).mono ?_; rintro e w1 ⟨A, c, rfl, hr, hb⟩; have Hr := hide hr; have HB := hide hb; clear hr hb)
        | (go_at_call 163; refine (one5_any (l := txts words) (x := s) Hr.out (by decide)).mono ?_; rintro e w2 ⟨⟨_ | _, rfl, hb⟩, rfl⟩ <;> (have Hc := hide hb; clear hb)))
      · go_ret
        exact ⟨RetB.no fun h => (by simpa using Hb.out : ¬ Letter s[0]) (Hiff.out.1 h).2.1, Below.refl _ _⟩
      · go_loop [3] (fun i => ∃ k : Nat, k ≤ s.size ∧ i = .int .i64 k ∧ Hid (∀ j, (h : j < k) → (h' : j < s.size) → Letter (s[j]) ∨ Digit (s[j]))) (fun i => s.size - (intOf i).toNat)
        case atStart => exact ⟨0, Nat.zero_le _, rfl, hide (fun j h => absurd h (by omega))⟩
        case round =>
          obtain ⟨k, hk, rfl, hall⟩ := hrel
          by_cases hlt : k < s.size
          · go_wp2_with (first
              | (go_at_call 162; refine (letter5_any s[k] _).mono ?_; rintro e w' ⟨⟨_ | _, rfl, hb⟩, rfl⟩ <;> (have Hd := hide hb; clear hb))
              | (go_at_call 165; refine (digit_any s[k] _).mono ?_; rintro e w' ⟨⟨_ | _, rfl, hb⟩, rfl⟩ <;> (have Hg := hide hb; clear hb)))
            all_goals first
              | (go_ret
                 exact ⟨RetB.no fun h => ((Hiff.out.1 h).2.2.2 _ (mem_idx s k hlt)).elim (by simpa using Hd.out) (by simpa using Hg.out), HB.out⟩)
              | (go_round
                 case rel => exact ⟨k + 1, by omega, by go_num, hide (all_step (P := fun c => Letter c ∨ Digit c) hall.out hlt (by first | exact .inl (by simpa using Hd.out) | exact .inr (by simpa using Hg.out)))⟩
                 case measure => simp [intOf]; omega)
          · have H := hide (all_done (P := fun c => Letter c ∨ Digit c) hall.out hlt)
            clear hall
            go_wp2_with fail
            go_ret
            exact ⟨RetB.yes (Hiff.out.2 ⟨h1, by simpa using Hb.out, by simpa using Hc.out, H.out⟩), HB.out⟩
      · go_ret
        exact ⟨RetB.no fun h => (Hiff.out.1 h).2.2.1 (by simpa using Hc.out), HB.out⟩
    · go_enter Tryz.func123, Tryz.ntmps123
      go_wp2_with fail
      go_ret
      exact ⟨RetB.no fun h => h1 h.1, Below.refl _ _⟩
  · have he : s.toList = [] := by rw [size_nil]; omega
    go_enter Tryz.func123, Tryz.ntmps123
    go_wp2_with fail
    go_ret
    exact ⟨RetB.no (lexName_no h0), Below.refl _ _⟩

end Go.Proofs.YtfhfkbdaglegpaaGreatDoor

namespace Go.Proofs.YtfhfkbdaglegpaaGreatDoor
open Go.RowKit

theorem expr6_any (k : Nat) (w : World) : Calls Tryz.prog 189 #[.int .u8 k] w fun e w' => RetB (Expr k) e ∧ w = w' := by
  go_enter Tryz.func189, Tryz.ntmps189
  go_wp2
  all_goals (go_ret; go_tidy; exact ⟨RetB.mk (by unfold Expr; grind), rfl⟩)
theorem stmt6_any (k : Nat) (w : World) : Calls Tryz.prog 196 #[.int .u8 k] w fun e w' => RetB (Stmt k) e ∧ w = w' := by
  go_enter Tryz.func196, Tryz.ntmps196
  go_wp2
  all_goals (go_ret; go_tidy; exact ⟨RetB.mk (by unfold Stmt; grind), rfl⟩)
theorem named6_any (k : Nat) (w : World) : Calls Tryz.prog 195 #[.int .u8 k] w fun e w' => RetB (Named k) e ∧ w = w' := by
  go_enter Tryz.func195, Tryz.ntmps195
  go_wp2
  all_goals (go_ret; go_tidy; exact ⟨RetB.mk (by unfold Named; grind), rfl⟩)
/-- how many kids; -1: any number -/
def manyI (k : Nat) : Int :=
  if k = 1 ∨ k = 3 ∨ k = 5 ∨ k = 25 then -1
  else if k = 2 ∨ k = 7 ∨ k = 9 ∨ k = 24 ∨ k = 26 ∨ k = 27 then 2
  else if k = 8 then 3
  else if k = 6 ∨ k = 10 ∨ k = 11 ∨ k = 23 ∨ k = 28 ∨ k = 12 then 1
  else 0
theorem manyI_some {k n : Nat} : many k = some n ↔ manyI k = n := by
  unfold many manyI
  repeat' split
  all_goals simp <;> omega
theorem manyI_is (k : Nat) : -1 ≤ manyI k ∧ manyI k ≤ 3 := by
  unfold manyI
  repeat' split
  all_goals omega
set_option maxHeartbeats 2000000 in
theorem many6_any (k : Nat) (w : World) : Calls Tryz.prog 190 #[.int .u8 k] w fun e w' => e = .returned (.int .i64 (manyI k)) ∧ w = w' := by
  go_enter Tryz.func190, Tryz.ntmps190
  go_wp2
  all_goals go_ret
  all_goals go_tidy
  all_goals first
    | (have e : manyI k = -1 := (by unfold manyI; grind); exact ⟨by rw [e]; rfl, rfl⟩)
    | (have e : manyI k = 2 := (by unfold manyI; grind); exact ⟨by rw [e]; rfl, rfl⟩)
    | (have e : manyI k = 3 := (by unfold manyI; grind); exact ⟨by rw [e]; rfl, rfl⟩)
    | (have e : manyI k = 1 := (by unfold manyI; grind); exact ⟨by rw [e]; rfl, rfl⟩)
    | (have e : manyI k = 0 := (by unfold manyI; grind); exact ⟨by rw [e]; rfl, rfl⟩)

set_option maxHeartbeats 2000000 in
theorem fits6_any (p k i : Nat) (w : World) : Calls Tryz.prog 192 #[.int .u8 p, .int .u8 k, .int .i64 i] w fun e w' => RetB (FitsIn p k i) e ∧ w = w' := by
  have hm := manyI_is p
  have hF : Hid (∀ i : Nat, FitsIn p k i ↔ (0 ≤ manyI p → (i : Int) < manyI p) ∧ (if p = 1 then k = 2
   else if p = 2 then (i = 0 ∧ k = 3) ∨ (i = 1 ∧ k = 5)
   else if p = 3 then k = 4
   else if p = 5 then Stmt k
   else if p = 7 then (i = 0 ∧ (k = 22 ∨ k = 26)) ∨ (i = 1 ∧ Expr k)
   else if p = 8 ∨ p = 9 then (i = 0 ∧ Expr k) ∨ (0 < i ∧ k = 5)
   else if p = 12 then k = 25
   else Expr k)) := hide (by
    intro i
    unfold FitsIn
    refine and_congr ⟨fun h h0 => ?_, fun h n hn => ?_⟩ Iff.rfl
    · have := h (manyI p).toNat (manyI_some.2 (by omega))
      omega
    · have h1 := manyI_some.1 hn
      have := h (by omega)
      omega)
  go_enter Tryz.func192, Tryz.ntmps192
  go_wp2_with (first
    | (go_at_call 190; (with_reducible refine (many6_any p _).mono ?_); rintro e w1 ⟨rfl, rfl⟩)
    | (go_at_call 196; (with_reducible refine (stmt6_any k _).mono ?_); rintro e w1 ⟨⟨b, rfl, hb⟩, rfl⟩)
    | (go_at_call 189; (with_reducible refine (expr6_any k _).mono ?_); rintro e w1 ⟨⟨b, rfl, hb⟩, rfl⟩))
  all_goals (go_ret; go_tidy; exact ⟨RetB.mk (by rw [hF.out]; clear hF; grind), rfl⟩)

end Go.Proofs.YtfhfkbdaglegpaaGreatDoor

namespace Go.Proofs.YtfhfkbdaglegpaaGreatDoor
open Go.RowKit

set_option maxRecDepth 100000 in
set_option maxHeartbeats 2000000 in
theorem text6_any {A : Option Addr} {k l c : Nat} {t : ByteArray} {n : Int} {w : World} (ht : t.size ≤ 9223372036854775807) :
    Calls Tryz.prog 191 #[.agg #[.int .u8 k, .string t, .int .i64 n, .slice A l c]] w fun e w' => RetB (TextOk k t) e ∧ Below w.heap.size w w' := by
  by_cases hN : Named k
  · have HN := hide hN
    have e : TextOk k t ↔ LexName t := by unfold TextOk; rw [if_pos hN]
    have He := hide e
    clear hN e
    go_enter Tryz.func191, Tryz.ntmps191
    go_wp2_with (first
      | (go_at_call 195; (with_reducible refine (named6_any k _).mono ?_); rintro e w1 ⟨⟨b, rfl, hb⟩, rfl⟩; have hb2 := hb.2 HN.out; subst hb2; clear hb)
      | (go_at_call 123; (with_reducible refine (name5_any t _ ht).mono ?_); rintro e w2 ⟨⟨b, rfl, hb⟩, hB⟩; have Hb := hide hb; have HB := hide hB; clear hb hB))
    go_ret
    exact ⟨RetB.mk (by rw [He.out]; exact Hb.out), blw_up (below_alloc _ _) HB.out⟩
  · have HN := hide hN
    by_cases h23 : k = 23
    · have e : TextOk k t ↔ (t.data.toList = [45] ∨ t.data.toList = [33]) := by unfold TextOk; rw [if_neg hN, if_pos h23]
      have He := hide e
      have g23 : ((k : Int) == 23) = true := by rw [beq_iff_eq]; omega
      clear hN e h23
      go_enter Tryz.func191, Tryz.ntmps191
      go_wp2_with (go_at_call 195; (with_reducible refine (named6_any k _).mono ?_); rintro e w1 ⟨⟨b, rfl, hb⟩, rfl⟩; have hb2 : b = false := (by cases b with | false => rfl | true => exact absurd (hb.1 rfl) HN.out); subst hb2; clear hb)
      all_goals (go_ret; go_tidy; exact ⟨RetB.mk (by rw [He.out, ← ByteArray.toList_eq]; clear He HN; grind), below_alloc _ _⟩)
    · by_cases h24 : k = 24
      · have e : TextOk k t ↔ t ∈ txts binaries := by
          unfold TextOk
          rw [if_neg hN, if_neg h23, if_pos h24]
          exact mem_txts.symm
        have He := hide e
        have g23 : ((k : Int) == 23) = false := by rw [beq_eq_false_iff_ne]; omega
        have g24 : ((k : Int) == 24) = true := by rw [beq_iff_eq]; omega
        clear hN e h23 h24
        go_enter Tryz.func191, Tryz.ntmps191
        go_wp2_with (go_at_call 195; (with_reducible refine (named6_any k _).mono ?_); rintro e w1 ⟨⟨b, rfl, hb⟩, rfl⟩; have hb2 : b = false := (by cases b with | false => rfl | true => exact absurd (hb.1 rfl) HN.out); subst hb2; clear hb)
        have hlen13 : (txts binaries).length = 13 := by decide
        obtain ⟨W, hW⟩ : ∃ W, W = (w.alloc (.cells #[.int .u8 k, .string t, .int .i64 n, .slice A l c] 55)).alloc (.cells ((txts binaries).map Value.string).toArray 9) := ⟨_, rfl⟩
        have hz : (w.alloc (.cells #[.int .u8 k, .string t, .int .i64 n, .slice A l c] 55)).heap.size = w.heap.size + 1 := by simp
        have Hrow : Hid (∀ (j : Nat) s, (txts binaries)[j]? = some s → W.cell? ⟨w.heap.size + 1, j, none⟩ = some (.string s)) := hide (by
          intro j s hs
          have h1 := Lib.cell_of_heap (heap_alloc_new (w.alloc (.cells #[.int .u8 k, .string t, .int .i64 n, .slice A l c] 55)) (.cells ((txts binaries).map Value.string).toArray 9)) j
          rw [hz, ← hW] at h1
          rw [h1]
          simp [hs])
        have Hbx : Hid (W.cell? ⟨w.heap.size, 1, none⟩ = some (.string t)) := hide (by
          rw [hW]
          exact ((below_alloc (w.alloc (.cells #[.int .u8 k, .string t, .int .i64 n, .slice A l c] 55)) _).cell (p := ⟨w.heap.size, 1, none⟩) (by simp)).trans (Lib.cell_of_heap (heap_alloc_new w _) 1))
        have HB0 : Hid (Below w.heap.size w W) := hide (by rw [hW]; exact (below_alloc w _).alloc (by simp) _)
        have hsW : w.heap.size + 1 < W.heap.size := by rw [hW]; simp
        change Code.wp _ _ _ _ ((w.alloc (.cells #[.int .u8 k, .string t, .int .i64 n, .slice A l c] 55)).alloc (.cells ((txts binaries).map Value.string).toArray 9))
        rw [← hW]
        clear hW hz
        go_loopw [4] (fun i wr => ∃ q : Nat, q ≤ 13 ∧ i = .int .i64 q ∧ Hid (Below W.heap.size W wr) ∧ Hid (∀ j, j < q → (txts binaries)[j]? ≠ some t)) (fun i _ => 13 - (intOf i).toNat)
        case atStart => exact ⟨0, by omega, rfl, hide (Below.refl _ _), hide (fun j h => absurd h (by omega))⟩
        case round =>
          obtain ⟨q, hq, rfl, HB, Hall⟩ := hrel
          have hbx := (HB.out.cell (p := ⟨w.heap.size, 1, none⟩) (by simp; omega)).trans Hbx.out
          by_cases hlt : q < 13
          · obtain ⟨s, E⟩ : ∃ s, (txts binaries)[q]? = some s := ⟨_, List.getElem?_eq_getElem (by omega)⟩
            have hrw := (HB.out.cell (p := ⟨w.heap.size + 1, q, none⟩) (by simp; omega)).trans (Hrow.out q s E)
            have E' := hide E
            clear E
            go_wp2_with fail
            go_quiet (fail)
            go_wp2_with fail
            · have ht : (t.toList == s.toList) = true := by assumption
              go_ret
              exact ⟨RetB.yes (He.out.2 (List.mem_of_getElem? (E'.out.trans (congrArg some (txt_eq.1 ht).symm)))), blw_up HB0.out (blw_drewN HB.out _)⟩
            · have ht : (t.toList == s.toList) = false := by assumption
              go_roundw
              case rel => exact ⟨q + 1, by omega, by go_num, hide (blw_drewN HB.out _), hide (ne_step Hall.out E'.out (fun e => by subst e; simp at ht))⟩
              case measure => simp [intOf]; omega
          · have hqe : q = 13 := by omega
            subst hqe
            go_wp2_with fail
            go_ret
            exact ⟨RetB.no (fun h => ne_done Hall.out (by rw [hlen13]; omega) (He.out.1 h)), blw_up HB0.out HB.out⟩
      · have e : TextOk k t ↔ t.data.toList = [] := by unfold TextOk; rw [if_neg hN, if_neg h23, if_neg h24]
        have He := hide e
        have g23 : ((k : Int) == 23) = false := by rw [beq_eq_false_iff_ne]; omega
        have g24 : ((k : Int) == 24) = false := by rw [beq_eq_false_iff_ne]; omega
        clear hN e h23 h24
        go_enter Tryz.func191, Tryz.ntmps191
        go_wp2_with (go_at_call 195; (with_reducible refine (named6_any k _).mono ?_); rintro e w1 ⟨⟨b, rfl, hb⟩, rfl⟩; have hb2 : b = false := (by cases b with | false => rfl | true => exact absurd (hb.1 rfl) HN.out); subst hb2; clear hb)
        all_goals (go_ret; go_tidy; exact ⟨RetB.mk (by rw [He.out, ← ByteArray.toList_eq]; clear He HN; grind), below_alloc _ _⟩)

end Go.Proofs.YtfhfkbdaglegpaaGreatDoor

namespace Go.Proofs.YtfhfkbdaglegpaaGreatDoor
open Go.RowKit

end Go.Proofs.YtfhfkbdaglegpaaGreatDoor
