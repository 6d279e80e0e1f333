/- Lines, and hunks that are right, as the document tells (ref03). -/
import Derived.Test.YtfhfkbdaglegpaaGreatDoorProg
import Derived.BigQuiet
import Derived.Test.YtfhfkbdaglegpaaGreatDoorGBase
import Derived.Test.YtfhfkbdaglegpaaGreatDoorGSame
import Derived.Test.YtfhfkbdaglegpaaGreatDoorGTabs

set_option linter.unusedVariables false
set_option linter.unusedSimpArgs false

namespace Go.Proofs.YtfhfkbdaglegpaaGreatDoor
open Go.RowKit

/-- what the two answers say of a text -/
def LineSays (s : List UInt8) (b1 b2 : Bool) : Prop := ∀ last : Bool, (b1 = true ∧ (b2 = true → last = true)) ↔ LineIn last s
theorem says_no {s : ByteArray} {k : Nat} (hk : k + 1 < s.size) (h : s[k] = 10) : LineSays s.data.toList false false := by
  intro last
  have hl : s.data.toList.length = s.size := by simp
  constructor
  · rintro ⟨h1, _⟩; cases h1
  · rintro ⟨_, h2, _⟩
    have hlt : k < s.data.toList.length := by omega
    exact absurd (show s.data.toList[k]? = some 10 by rw [List.getElem?_eq_getElem hlt]; exact congrArg some h) (h2 k (by omega))
theorem says_nil {s : ByteArray} (h : s.size = 0) : LineSays s.data.toList false true := by
  intro last
  have hl : s.data.toList.length = s.size := by simp
  have hn : s.data.toList = [] := List.length_eq_zero_iff.1 (by omega)
  constructor
  · rintro ⟨h1, _⟩; cases h1
  · rintro ⟨h1, _⟩; exact absurd hn h1
theorem says_end {s : ByteArray} {b : Bool} {k : Nat} (hk : k + 1 = s.size) (h : ∀ j, (h : j + 1 < s.size) → s[j] ≠ 10) (hb : b = true ↔ s[k] ≠ 10) : LineSays s.data.toList true b := by
  intro last
  have hl : s.data.toList.length = s.size := by simp
  have hne : s.data.toList ≠ [] := by intro e; rw [e] at hl; simp at hl; omega
  have hlast : s.data.toList.getLast? = some s[k] := by
    have hlt : k < s.data.toList.length := by omega
    rw [List.getLast?_eq_getElem?, hl, show s.size - 1 = k by omega, List.getElem?_eq_getElem hlt]
    rfl
  unfold LineIn
  rw [hlast]
  have h2 : ∀ i, i + 1 < s.data.toList.length → s.data.toList[i]? ≠ some 10 := by
    intro i hi e
    have hlt : i < s.data.toList.length := by omega
    rw [List.getElem?_eq_getElem hlt] at e
    exact h i (by omega) (Option.some.inj e)
  constructor
  · rintro ⟨_, h3⟩
    refine ⟨hne, h2, ?_⟩
    by_cases hb1 : b = true
    · exact .inl (h3 hb1)
    · refine .inr ?_
      by_cases h4 : s[k] = 10
      · rw [h4]
      · exact absurd (hb.2 h4) hb1
  · rintro ⟨_, _, h3⟩
    refine ⟨rfl, fun hb1 => ?_⟩
    rcases h3 with h3 | h3
    · exact h3
    · exact absurd (Option.some.inj h3) (hb.1 hb1)

set_option maxHeartbeats 1000000 in
theorem line3_any (s : ByteArray) (w : World) (hs : s.size ≤ 9223372036854775807) : Calls Tryz.prog 161 #[.string s] w fun e w' => (∃ b1 b2, e = .returned (.tuple #[.bool b1, .bool b2]) ∧ LineSays s.data.toList b1 b2) ∧ Below w.heap.size w w' := by
  have hz := hide (size_nil s)
  by_cases h0 : s.size = 0
  · have he : s.toList = [] := by rw [size_nil]; omega
    have He := hide he
    go_enter Tryz.func161, Tryz.ntmps161
    go_wp2
    go_loop [4] (fun i => i = .int .i64 0) (fun _ => 0)
    case atStart => rfl
    case round =>
      subst hrel
      go_wp2_with fail
      go_quiet (fail)
      go_wp2_with fail
      go_ret2
      exact ⟨⟨false, true, rfl, says_nil h0⟩, blw_drewN (Below.refl _ _) _⟩
  · have h1 : 1 ≤ s.size := by omega
    have hne : ¬ s.toList = [] := by rw [size_nil]; omega
    have hne2 : s.toList.isEmpty = false := by simpa using hne
    go_enter Tryz.func161, Tryz.ntmps161
    go_wp2
    go_loop [4] (fun i => ∃ k : Nat, k + 1 ≤ s.size ∧ i = .int .i64 k ∧ Hid (∀ j, j < k → (h : j + 1 < s.size) → s[j] ≠ 10)) (fun i => s.size - (intOf i).toNat)
    case atStart => exact ⟨0, by omega, rfl, hide (fun j h => absurd h (by omega))⟩
    case round =>
      obtain ⟨k, hk, rfl, hall⟩ := hrel
      by_cases hlt : k + 1 < s.size
      · go_wp2_with fail
        · have ht : ((s[k].toNat : Int) == 10) = true := by assumption
          go_ret2
          exact ⟨⟨false, false, rfl, says_no hlt (UInt8.toNat_inj.1 (by have := beq_iff_eq.1 ht; show s[k].toNat = 10; omega))⟩, Below.refl _ _⟩
        · have ht : ((s[k].toNat : Int) == 10) = false := by assumption
          go_round
          case rel => exact ⟨k + 1, by omega, by go_num, hide (fun j hj h => by
            rcases Nat.lt_or_ge j k with h2 | h2
            · exact hall.out j h2 h
            · obtain rfl : j = k := by omega
              intro e
              rw [e] at ht
              exact absurd ht (by decide))⟩
          case measure => simp [intOf]; omega
      · have hkk : (s.size : Int) - 1 = (k : Int) := by omega
        have hks : k < s.size := by omega
        go_wp2_with fail
        go_quiet (fail)
        go_wp2_with fail
        go_ret2
        refine ⟨⟨true, _, rfl, says_end (k := k) (by omega) (fun j h => hall.out j (by omega) h) ?_⟩, blw_drewN (Below.refl _ _) _⟩
        show ((s[k].toNat : Int) != 10) = true ↔ s[k] ≠ 10
        rw [bne_iff_ne]
        constructor
        · intro h1 h2
          rw [h2] at h1
          exact h1 rfl
        · intro h1 h2
          exact h1 (UInt8.toNat_inj.1 (by show s[k].toNat = 10; omega))

theorem linesOk_drop3 {l : List ByteArray} {k : Nat} (hk : k < l.length) {s : ByteArray} (hs : l[k]? = some s) : LinesOk (l.drop k) ↔ LineIn (decide (k + 1 = l.length)) s.data.toList ∧ LinesOk (l.drop (k + 1)) := by
  have e : l[k] = s := by
    have := List.getElem?_eq_getElem hk
    rw [this] at hs
    injection hs
  rw [List.drop_eq_getElem_cons hk, LinesOk, e]
  have : (l.drop (k + 1)).isEmpty = decide (k + 1 = l.length) := by
    rw [Bool.eq_iff_iff]
    simp
    omega
  rw [this]

set_option maxHeartbeats 1000000 in
theorem lines3_any {S : Nat → Prop} {A : Option Addr} {c : Nat} {l : List ByteArray} {w : World} (hl : StrsIn S w A l) :
    Calls Tryz.prog 121 #[.slice A l.length c] w fun e w' => RetB (LinesOk l) e ∧ Below w.heap.size w w' := by
  have hl3 := hl.2.2
  have Hl := hide hl
  clear hl
  go_enter Tryz.func121, Tryz.ntmps121
  go_wp2_with fail
  go_loopw [3] (fun i wr => ∃ k : Nat, k ≤ l.length ∧ i = .int .i64 k ∧ Hid (LinesOk l ↔ LinesOk (l.drop k)) ∧ Hid (Below w.heap.size w wr)) (fun i _ => l.length - (intOf i).toNat)
  case atStart => exact ⟨0, Nat.zero_le _, rfl, hide Iff.rfl, hide (Below.refl _ _)⟩
  case round =>
    obtain ⟨k, hk, rfl, hall, HB⟩ := hrel
    by_cases hlt : k < l.length
    · obtain ⟨b, o, rfl, h1⟩ := (Hl.out.below HB.out).1.at_ (j := k) (by simpa using hlt)
      simp only [List.getElem_map] at h1
      have hsz := Hl.out.2.1 _ (List.getElem_mem hlt)
      have hd := linesOk_drop3 hlt (s := l[k]) (by simp [hlt])
      generalize l[k] = s at h1 hsz hd
      have Hd := hide hd
      clear hd
      go_wp2_with (go_at_call 161; (with_reducible refine (line3_any s _ hsz).mono ?_); rintro e w1 ⟨⟨b1, b2, rfl, hsay⟩, hB1⟩; have Hsay := hide hsay; have HB1 := hide (blw_up HB.out hB1); clear hsay hB1)
      all_goals first
        | (go_ret
           exact ⟨RetB.no (fun h => by
            have h3 := (Hsay.out _).2 (Hd.out.1 (hall.out.1 h)).1
            have h4 := h3.1
            have h5 := h3.2
            simp only [decide_eq_true_eq] at h5
            first
              | contradiction
              | (have h6 := h5 (by assumption); omega)), HB1.out⟩)
        | (go_roundw
           case rel => exact ⟨k + 1, by omega, by go_num, hide ⟨fun h => (Hd.out.1 (hall.out.1 h)).2, fun h => hall.out.2 (Hd.out.2 ⟨(Hsay.out _).1 ⟨by assumption, fun hb => decide_eq_true (by first | contradiction | omega)⟩, h⟩)⟩, HB1⟩
           case measure => simp [intOf]; omega)
    · go_wp2_with fail
      go_ret
      exact ⟨RetB.yes (by have := hall.out; rw [List.drop_eq_nil_of_le (by omega)] at this; exact this.2 trivial), HB.out⟩

end Go.Proofs.YtfhfkbdaglegpaaGreatDoor

namespace Go.Proofs.YtfhfkbdaglegpaaGreatDoor
open Go.RowKit

set_option maxHeartbeats 1000000 in
theorem hunkRight3_any {S : Nat → Prop} {x : Hh} {a : Hk} {w : World} (ha : HkIn S w x a) :
    Calls Tryz.prog 59 #[.agg #[.int .i64 a.at_, .slice x.oA a.old.length x.oc, .slice x.nA a.new.length x.nc]] w
      fun e w' => RetB (HkOk a) e ∧ Below w.heap.size w w' := by
  have h1 := ha.at_
  unfold isInt64 at h1
  have Ha := hide ha
  have Hok : Hid (HkOk a ↔ 0 ≤ a.at_ ∧ a.at_ ≤ 1099511627776 ∧ LinesOk a.old ∧ LinesOk a.new ∧ a.old ≠ a.new) := hide Iff.rfl
  have hcell : ∀ w1, Below (w.heap.size + 1) (w.alloc (.cells #[.int .i64 a.at_, .slice x.oA a.old.length x.oc, .slice x.nA a.new.length x.nc] 25)) w1 → ∀ o, w1.cell? ⟨w.heap.size, o, none⟩ = (#[.int .i64 a.at_, .slice x.oA a.old.length x.oc, .slice x.nA a.new.length x.nc] : Array Value)[o]? :=
    fun w1 hB o => (hB.cell (p := ⟨w.heap.size, o, none⟩) (by simp)).trans (Lib.cell_of_heap (heap_alloc_new w _) o)
  have Hcell := hide hcell
  have hz : (w.alloc (.cells #[.int .i64 a.at_, .slice x.oA a.old.length x.oc, .slice x.nA a.new.length x.nc] 25)).heap.size = w.heap.size + 1 := by simp
  have Hz := hide hz
  clear ha hcell hz
  go_enter Tryz.func59, Tryz.ntmps59
  go_wp2_with (first
    | (go_at_call 121; (with_reducible refine (lines3_any (Ha.out.old.below (below_alloc _ _))).mono ?_); rintro e1 w1 ⟨⟨b1, rfl, hb⟩, hB1⟩; have hB1' := hB1; rw [Hz.out] at hB1'; have HB1 := hide (blw_up (below_alloc _ _) hB1); have hc1 := Hcell.out w1 hB1'; have hC1 := hide hB1'; have Hb1 := hide hb; clear hb hB1 hB1')
    | (go_at_call 121; (with_reducible refine (lines3_any (Ha.out.new.below HB1.out)).mono ?_); rintro e2 w2 ⟨⟨b2, rfl, hb⟩, hB2⟩; have HB2 := hide (blw_up HB1.out hB2); have hC2 := hide (hC1.out.trans (hB2.mono (by have := hC1.out.size; rw [Hz.out] at this; exact this))); have hc2 := Hcell.out w2 hC2.out; have Hb2 := hide hb; clear hb hB2)
    | (go_at_call 100; (with_reducible refine (sameTexts_any (Ha.out.old.below HB2.out) (Ha.out.new.below HB2.out)).mono ?_); rintro e3 w3 ⟨⟨b3, rfl, hb⟩, q, rfl⟩; have Hb3 := hide hb; clear hb))
  all_goals
    go_ret
    go_tidy
    refine ⟨RetB.mk ?_, ?_⟩
    · rw [Hok.out]
      first
        | (have h1 := Hb1.out; have h2 := Hb2.out; have h3 := Hb3.out; clear Hb1 Hb2 Hb3 Ha Hok Hcell; grind)
        | (have h1 := Hb1.out; have h2 := Hb2.out; clear Hb1 Hb2 Ha Hok Hcell; grind)
        | (have h1 := Hb1.out; clear Hb1 Ha Hok Hcell; grind)
        | (clear Ha Hok Hcell; grind)
    · first
        | exact blw_drewN HB2.out _
        | exact HB2.out
        | exact HB1.out
        | exact below_alloc _ _
theorem number14_any (n : Int) (w : World) : Calls Tryz.prog 122 #[.int .i64 n] w fun e w' => RetB (Number n) e ∧ w = w' := by
  go_enter Tryz.func122, Tryz.ntmps122
  go_wp2
  all_goals (go_ret; go_tidy; exact ⟨RetB.mk (by unfold Number; grind), rfl⟩)

end Go.Proofs.YtfhfkbdaglegpaaGreatDoor
