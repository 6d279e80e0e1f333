/- Lines, and hunks that are right: what the program's functions tell. -/
import Derived.Test.YtfhfkbdaglegpaaGreatDoorShelf
import Derived.Lib.IndexLaws
import Derived.Test.YtfhfkbdaglegpaaGreatDoorGSame

set_option linter.unusedVariables false
set_option linter.unusedSimpArgs false

namespace Go.Proofs.YtfhfkbdaglegpaaGreatDoor
open Go.RowKit

theorem lineIn_iff (last : Bool) (s : List UInt8) {p : Int} (hp : Lib.indexByte s 10 = p) : LineIn last s ↔ s ≠ [] ∧ ¬ (0 ≤ p ∧ p < s.length - 1) ∧ (p < 0 → last = true) := by
  have hge := Lib.indexByte_ge s 10
  rw [hp] at hge
  unfold LineIn
  by_cases h0 : p < 0
  · have e : p = -1 := by omega
    subst e
    have hn := Lib.indexByte_none hp
    constructor
    · rintro ⟨h1, h2, h3⟩
      refine ⟨h1, by omega, fun _ => ?_⟩
      rcases h3 with h3 | h3
      · exact h3
      · rw [List.getLast?_eq_getElem?] at h3
        exact absurd h3 (hn _)
    · rintro ⟨h1, _, h3⟩
      exact ⟨h1, fun i _ => hn i, .inl (h3 (by omega))⟩
  · obtain ⟨o, rfl⟩ := Int.eq_ofNat_of_zero_le (a := p) (by omega)
    obtain ⟨hs, hlt⟩ := Lib.indexByte_some hp
    have hol : o < s.length := (List.getElem?_eq_some_iff.1 hs).1
    constructor
    · rintro ⟨h1, h2, h3⟩
      refine ⟨h1, fun h => h2 o (by omega) hs, by omega⟩
    · rintro ⟨h1, h2, _⟩
      have e : o = s.length - 1 := by omega
      refine ⟨h1, fun i hi => hlt i (by omega), .inr ?_⟩
      rw [List.getLast?_eq_getElem?, ← e]
      exact hs

theorem linesOk_drop {l : List ByteArray} {k : Nat} (hk : k < l.length) {s : ByteArray} (hs : l[k]? = some s) : LinesOk (l.drop k) ↔ LineIn (decide (k + 1 = l.length)) s.data.toList ∧ LinesOk (l.drop (k + 1)) := by
  have e : l[k] = s := by
    have := List.getElem?_eq_getElem hk
    rw [this] at hs
    injection hs
  rw [List.drop_eq_getElem_cons hk, LinesOk, e]
  have : (l.drop (k + 1)).isEmpty = decide (k + 1 = l.length) := by
    rw [Bool.eq_iff_iff]
    simp
    omega
  rw [this]

theorem lines_step {l : List ByteArray} {k : Nat} (h : LinesOk l ↔ LinesOk (l.drop k)) (hk : k < l.length) {s : ByteArray} (hs : l[k]? = some s) {p : Int} (hp : Lib.indexByte s.data.toList 10 = p)
    (hok : ¬ s.toList = [] ∧ ¬ (0 ≤ p ∧ p < (s.size : Int) - 1) ∧ (p < 0 → k + 1 = l.length)) : LinesOk l ↔ LinesOk (l.drop (k + 1)) := by
  rw [ByteArray.toList_eq] at hok
  have hl : s.data.toList.length = s.size := by simp
  rw [← hl] at hok
  rw [h, linesOk_drop hk hs, lineIn_iff _ _ hp]
  simp only [decide_eq_true_eq]
  exact ⟨fun h => h.2, fun h => ⟨hok, h⟩⟩
theorem lines_no {l : List ByteArray} {k : Nat} (h : LinesOk l ↔ LinesOk (l.drop k)) (hk : k < l.length) {s : ByteArray} (hs : l[k]? = some s) {p : Int} (hp : Lib.indexByte s.data.toList 10 = p)
    (hok : ¬ (¬ s.toList = [] ∧ ¬ (0 ≤ p ∧ p < (s.size : Int) - 1) ∧ (p < 0 → k + 1 = l.length))) : ¬ LinesOk l := by
  rw [ByteArray.toList_eq] at hok
  have hl : s.data.toList.length = s.size := by simp
  rw [← hl] at hok
  rw [h, linesOk_drop hk hs, lineIn_iff _ _ hp]
  simp only [decide_eq_true_eq]
  exact fun h => hok h.1
theorem lines_end {l : List ByteArray} {k : Nat} (h : LinesOk l ↔ LinesOk (l.drop k)) (hk : ¬ k < l.length) : LinesOk l := by
  rw [h, List.drop_eq_nil_of_le (by omega)]
  trivial

set_option maxHeartbeats 400000 in
theorem lines_any {S : Nat → Prop} {A : Option Addr} {c : Nat} {l : List ByteArray} {w : World} (hl : StrsIn S w A l) :
    Calls Tryz.prog 107 #[.slice A l.length c] w fun e w' => RetB (LinesOk l) e ∧ w = w' := by
  have hl3 := hl.2.2
  have Hl := hide hl
  clear hl
  go_enter Tryz.func107, Tryz.ntmps107
  go_wp2_with fail
  go_loop [8, 3, 4, 5, 15, 29] (fun i _ _ _ _ _ => ∃ k : Nat, k ≤ l.length ∧ i = .int .i64 k ∧ Hid (LinesOk l ↔ LinesOk (l.drop k))) (fun i _ _ _ _ _ => l.length - (intOf i).toNat)
  case atStart => exact ⟨0, Nat.zero_le _, rfl, hide Iff.rfl⟩
  case round =>
    obtain ⟨k, hk, rfl, hall⟩ := hrel
    by_cases hlt : k < l.length
    · obtain ⟨b, o, rfl, h1⟩ := Hl.out.1.at_ (j := k) (by simpa using hlt)
      simp only [List.getElem_map] at h1
      have hsz := Hl.out.2.1 _ (List.getElem_mem hlt)
      have E := hide (show l[k]? = some l[k] by simp [hlt])
      generalize l[k] = s at h1 hsz E
      have hge := Lib.indexByte_ge s.data.toList 10
      obtain ⟨p, hp⟩ : ∃ p, Lib.indexByte s.data.toList 10 = p := ⟨_, rfl⟩
      rw [hp] at hge
      have hup : p < s.size + 1 := by
        rcases Int.lt_or_le p 0 with h | h
        · omega
        · obtain ⟨q, rfl⟩ := Int.eq_ofNat_of_zero_le h
          have := (List.getElem?_eq_some_iff.1 (Lib.indexByte_some hp).1).1
          simp at this
          omega
      have Hp := hide hp
      clear hp
      go_wp2_with (go_at_call 154; refine (Tryz.strings_IndexByte s 10 _).mono ?_; rintro e w' ⟨rfl, rfl⟩; simp only [show ((10 : Int).toNat.toUInt8) = 10 from rfl, Hp.out])
      all_goals first
        | (go_ret
           exact ⟨RetB.no (lines_no hall.out hlt E.out Hp.out (by go_tidy; clear hall Hp E Hl; grind)), rfl⟩)
        | (go_round
           case rel => exact ⟨k + 1, by omega, by go_num, hide (lines_step hall.out hlt E.out Hp.out (by go_tidy; clear hall Hp E Hl; grind))⟩
           case measure => simp [intOf]; omega)
    · go_wp2_with fail
      go_ret
      exact ⟨RetB.yes (lines_end hall.out hlt), rfl⟩

set_option maxHeartbeats 400000 in
theorem hunkRight_any {S : Nat → Prop} {x : Hh} {a : Hk} {w : World} (ha : HkIn S w x a) :
    Calls Tryz.prog 50 #[.agg #[.int .i64 a.at_, .slice x.oA a.old.length x.oc, .slice x.nA a.new.length x.nc]] w
      fun e w' => RetB (HkOk a) e ∧ Below w.heap.size w w' := by
  have h1 := ha.at_
  unfold isInt64 at h1
  have Ha := hide ha
  have Hok : Hid (HkOk a ↔ 0 ≤ a.at_ ∧ a.at_ ≤ 1099511627776 ∧ LinesOk a.old ∧ LinesOk a.new ∧ a.old ≠ a.new) := hide Iff.rfl
  clear ha
  go_enter Tryz.func50, Tryz.ntmps50
  go_wp2_with (first
    | (go_at_call 107; (with_reducible refine (lines_any (Ha.out.old.below (below_alloc _ _))).mono ?_); rintro e w1 ⟨⟨b1, rfl, hb⟩, rfl⟩; have Hb1 := hide hb; clear hb)
    | (go_at_call 107; (with_reducible refine (lines_any (Ha.out.new.below (below_alloc _ _))).mono ?_); rintro e w1 ⟨⟨b2, rfl, hb⟩, rfl⟩; have Hb2 := hide hb; clear hb)
    | (go_at_call 108; (with_reducible refine (equalTexts_any (Ha.out.old.below (below_alloc _ _)) (Ha.out.new.below (below_alloc _ _))).mono ?_); rintro e w1 ⟨⟨b3, rfl, hb⟩, q, rfl⟩; have Hb3 := hide hb; clear hb))
  all_goals
    go_ret
    go_tidy
    refine ⟨RetB.mk ?_, ?_⟩
    · rw [Hok.out]
      first
        | (have h1 := Hb1.out; have h2 := Hb2.out; have h3 := Hb3.out; clear Hb1 Hb2 Hb3 Ha Hok; grind)
        | (have h1 := Hb1.out; have h2 := Hb2.out; clear Hb1 Hb2 Ha Hok; grind)
        | (have h1 := Hb1.out; clear Hb1 Ha Hok; grind)
        | grind
    · first
        | exact below_alloc _ _
        | exact blw_drewN (below_alloc _ _) _
end Go.Proofs.YtfhfkbdaglegpaaGreatDoor
