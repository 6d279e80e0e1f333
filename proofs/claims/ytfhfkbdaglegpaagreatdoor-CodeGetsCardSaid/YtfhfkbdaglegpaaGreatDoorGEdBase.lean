/- Right nodes, right numbers: the small functions of an edit. -/
import Derived.Laws.EntriesVeiled
import Derived.Test.YtfhfkbdaglegpaaGreatDoorGRight
import Derived.Test.YtfhfkbdaglegpaaGreatDoorGBase
import Derived.Test.YtfhfkbdaglegpaaGreatDoorGSame

set_option linter.unusedVariables false
set_option linter.unusedSimpArgs false

namespace Go.Proofs.YtfhfkbdaglegpaaGreatDoor
open Go.RowKit

set_option maxHeartbeats 1000000 in
theorem right_any {S : Nat → Prop} {k : Nat} {t : ByteArray} {n : Int} {ks : Fo} {KA : Option Addr} {c : Nat} {w : World} (hk : k < 256) (ht : t.size ≤ 9223372036854775807) (hn : isInt64 n) (hl : ks.len ≤ c) (hc : c ≤ 9223372036854775807)
    (hks : FoIn S w KA ks) (htab : TabOk w) :
    Calls Tryz.prog 160 #[.agg #[.int .u8 k, .string t, .int .i64 n, .slice KA ks.len c]] w fun e w' => RetB (NodeOk 40 k t n ks) e ∧ Below w.heap.size w w' := by
  have Hks := hide hks
  have Htab : Hid (TabOk w) := htab
  have Hn := hide hn
  clear hks htab hn
  have hmf : ∀ (fn : Fn) (first cap : Array Value) (w : World), (Instr.makeFunc fn first cap).run Tryz.prog w = .ok (.func fn first cap) w := fun _ _ _ _ => rfl
  go_enter Tryz.func160, Tryz.ntmps160
  go_wp2_with (go_at_call 175; refine (right_upto (ks.cnt + 1) S k t n ks KA c _ 1 _ _ (by omega) (by omega) hk ht Hn.out hl hc (Hks.out.below (below2 _ _)) (Htab.out.below (below2 _ _)) (by simp) (by omega) (by omega)).mono ?_; rintro e w1 ⟨⟨b, rfl, hb⟩, hB⟩; have Hb := hide hb; have HB := hide (blw_up2 hB); clear hb hB)
  go_ret
  exact ⟨RetB.mk Hb.out, HB.out⟩

theorem number_any (n : Int) (w : World) (hn : isInt64 n) : Calls Tryz.prog 111 #[.int .i64 n] w fun e w' => RetB (Number n) e ∧ w' = w := by
  unfold isInt64 at hn
  go_enter Tryz.func111, Tryz.ntmps111
  go_wp2_with fail
  all_goals (go_ret; go_tidy; exact ⟨RetB.mk (by unfold Number; grind), rfl⟩)

theorem number_not (n : Int) (w : World) (hn : isInt64 n) : Calls Tryz.prog 110 #[.int .i64 n] w fun e w' => RetB (¬ Number n) e ∧ w' = w := by
  have Hn := hide hn
  clear hn
  go_enter Tryz.func110, Tryz.ntmps110
  go_wp2_with (go_at_call 111; refine (number_any n _ Hn.out).mono ?_; rintro e w1 ⟨⟨b, rfl, hb⟩, rfl⟩; have Hb := hide hb; clear hb)
  go_ret
  exact ⟨RetB.mk (by rw [← Hb.out]; simp), rfl⟩

set_option maxHeartbeats 1000000 in
theorem indexNumber_any {S : Nat → Prop} {A : Option Addr} {c : Nat} {l : List Int} {w : World} (hl : IntsIn S w A l) :
    Calls Tryz.prog 155 #[.slice A l.length c, .func (.func 110) #[] #[]] w fun e w' => (∃ r : Int, e = .returned (.int .i64 r) ∧ isInt64 r ∧ (0 ≤ r ↔ ∃ n ∈ l, ¬ Number n)) ∧ w' = w := by
  have Hl := hide hl
  have hlen : l.length ≤ 9223372036854775807 := hl.2.2
  clear hl
  go_enter Tryz.func155, Tryz.ntmps155
  go_wp2_with fail
  go_loopw [8, 5] (fun i _ wr => ∃ q : Nat, q ≤ l.length ∧ i = .int .i64 q ∧ wr = w ∧ Hid (∀ j, (h : j < l.length) → j < q → Number l[j])) (fun i _ _ => l.length - (intOf i).toNat)
  case atStart => exact ⟨0, Nat.zero_le _, rfl, rfl, hide (by omega)⟩
  case round =>
    obtain ⟨i, hi, rfl, rfl, hall⟩ := hrel
    by_cases hlt : i < l.length
    · obtain ⟨b, o, rfl, hc⟩ := Hl.out.1.at_ (j := i) (by simpa using hlt)
      simp only [List.getElem_map] at hc
      have hi64 := hide (Hl.out.2.1 l[i] (List.getElem_mem hlt))
      go_wp2_with (go_at_call 110; refine (number_not l[i] _ hi64.out).mono ?_; rintro e w1 ⟨⟨_ | _, rfl, hb⟩, rfl⟩ <;> (have Hb := hide hb; clear hb))
      · go_roundw
        case rel => exact ⟨i + 1, by omega, by go_num, (by first | rfl | trivial), hide fun j hj hji => if h : j = i then by subst h; exact Classical.byContradiction fun hn => absurd (Hb.out.mpr hn) (by decide) else hall.out j hj (by omega)⟩
        case measure => simp [intOf]; omega
      · go_ret
        exact ⟨⟨i, rfl, by unfold isInt64; omega, iff_of_true (by omega) ⟨l[i], List.getElem_mem hlt, Hb.out.mp (by first | rfl | trivial)⟩⟩, rfl⟩
    · go_wp2_with fail
      go_ret
      refine ⟨⟨-1, rfl, by unfold isInt64; omega, iff_of_false (by omega) ?_⟩, rfl⟩
      rintro ⟨n, hn, hnn⟩
      obtain ⟨j, hj, rfl⟩ := List.getElem_of_mem hn
      exact hnn (hall.out j hj (by omega))

theorem hasNumber_any {S : Nat → Prop} {A : Option Addr} {c : Nat} {l : List Int} {w : World} (hl : IntsIn S w A l) :
    Calls Tryz.prog 109 #[.slice A l.length c, .func (.func 110) #[] #[]] w fun e w' => RetB (∃ n ∈ l, ¬ Number n) e ∧ w' = w := by
  have Hl := hide hl
  clear hl
  go_enter Tryz.func109, Tryz.ntmps109
  go_wp2_with (go_at_call 155; refine (indexNumber_any Hl.out).mono ?_; rintro e w1 ⟨⟨r, rfl, hr, hb⟩, rfl⟩; have Hb := hide hb; clear hb)
  go_ret
  exact ⟨RetB.mk (by rw [← Hb.out]; simp), rfl⟩

set_option maxHeartbeats 1000000 in
theorem part_any {S : Nat → Prop} {A : Option Addr} {c : Nat} {f : Fo} {w : World} (hf : FoIn S w A f) (hl : f.len ≤ c) (hc : c ≤ 9223372036854775807) (htab : TabOk w) :
    Calls Tryz.prog 113 #[.slice A f.len c] w fun e w' => RetB (PartOk f) e ∧ Below w.heap.size w w' := by
  have Htab : Hid (TabOk w) := htab
  by_cases h1 : f.len = 1
  · obtain ⟨k, t, n, ks, r, rfl⟩ := fo_one (f := f) (by omega)
    have hr : r = .nil := by cases r with
      | nil => rfl
      | cons => simp [Fo.len] at h1
    subst hr
    obtain ⟨b, o, KA, c', rfl, hS, c0, c1, c2, c3, e1, e2, e3, e4, e5, hks, _⟩ := hf
    have Hks := hide hks
    have He := hide e3
    have hq : (((Fo.cons k t n ks .nil).len : Int) == 1) = true := by simp [Fo.len]
    have hl0 : 0 < (Fo.cons k t n ks .nil).len := by simp [Fo.len]
    clear hks htab h1 e3
    go_enter Tryz.func113, Tryz.ntmps113
    go_wp2_with (go_at_call 160; refine (right_any e1 e2 He.out e4 e5 Hks.out Htab.out).mono ?_; rintro e w1 ⟨⟨b, rfl, hb⟩, hB⟩; have Hb := hide hb; have HB := hide hB; clear hb hB)
    go_ret
    exact ⟨RetB.mk Hb.out, HB.out⟩
  · have hq : ((f.len : Int) == 1) = false := by simp; omega
    have H1 := hide h1
    clear htab h1 hf
    go_enter Tryz.func113, Tryz.ntmps113
    go_wp2_with fail
    go_ret
    refine ⟨RetB.no (fun h => ?_), Below.refl _ _⟩
    have h1 := H1.out
    cases f with
    | nil => exact h
    | cons k t n ks r => cases r with
      | nil => simp [Fo.len] at h1
      | cons => exact h

end Go.Proofs.YtfhfkbdaglegpaaGreatDoor

namespace Go.Proofs.YtfhfkbdaglegpaaGreatDoor
open Go.RowKit

theorem part_pos {f : Fo} (h : PartOk f) : (0 : Int) < f.len := by cases f with
  | nil => exact h.elim
  | cons => simp only [Fo.len]; omega
theorem number0 : Number 0 := by unfold Number; omega
theorem len_nil {f : Fo} : f = .nil ↔ f.len = 0 := by cases f <;> simp [Fo.len]
theorem tl_same {s t : ByteArray} : s = t ↔ (s.toList == t.toList) = true := by
  rw [beq_iff_eq, ByteArray.toList_eq, ByteArray.toList_eq]
  exact ⟨fun h => by rw [h], ba_ext⟩
theorem edOk_iff_1 {e : Ed} : EdOk { e with kind := 1 } ↔ ¬ (∃ n, n ∈ e.path ∧ ¬ Number n) ∧ e.at_ = 0 ∧ e.far = 0 ∧ e.old.len = 0 ∧ e.new.len = 0 ∧ ¬ ((e.path.length : Int) == 0) = true ∧ LexName e.frm ∧ LexName e.to ∧ ¬ (e.frm.toList == e.to.toList) = true := by
  rw [← tl_same, ← len_nil, ← len_nil]
  unfold EdOk
  simp
theorem edOk_iff_2 {e : Ed} : EdOk { e with kind := 2 } ↔ ¬ (∃ n, n ∈ e.path ∧ ¬ Number n) ∧ e.far = 0 ∧ e.frm = noTxt ∧ e.to = noTxt ∧ e.old.len = 0 ∧ Number e.at_ ∧ PartOk e.new := by
  rw [← len_nil]
  unfold EdOk
  simp
theorem edOk_iff_3 {e : Ed} : EdOk { e with kind := 3 } ↔ ¬ (∃ n, n ∈ e.path ∧ ¬ Number n) ∧ e.far = 0 ∧ e.frm = noTxt ∧ e.to = noTxt ∧ e.new.len = 0 ∧ Number e.at_ ∧ PartOk e.old := by
  rw [← len_nil]
  unfold EdOk
  simp
theorem edOk_iff_4 {e : Ed} : EdOk { e with kind := 4 } ↔ ¬ (∃ n, n ∈ e.path ∧ ¬ Number n) ∧ e.at_ = 0 ∧ e.far = 0 ∧ e.frm = noTxt ∧ e.to = noTxt ∧ ¬ ((e.path.length : Int) == 0) = true ∧ PartOk e.old ∧ PartOk e.new ∧ e.old ≠ e.new := by
  unfold EdOk
  simp
theorem edOk_iff_5 {e : Ed} : EdOk { e with kind := 5 } ↔ ¬ (∃ n, n ∈ e.path ∧ ¬ Number n) ∧ e.frm = noTxt ∧ e.to = noTxt ∧ e.new.len = 0 ∧ Number e.at_ ∧ Number e.far ∧ e.at_ ≠ e.far ∧ PartOk e.old := by
  rw [← len_nil]
  unfold EdOk
  simp
theorem edOk_iff_0 {e : Ed} : EdOk e ↔ ((e.kind : Int) = 1 ∨ (e.kind : Int) = 2 ∨ (e.kind : Int) = 3 ∨ (e.kind : Int) = 4 ∨ (e.kind : Int) = 5) ∧ EdOk e := by
  constructor
  · intro h
    refine ⟨?_, h⟩
    unfold EdOk at h
    omega
  · exact fun h => h.2
theorem txt_empty {s t : ByteArray} : (!(s ++ t).toList.isEmpty) = false ↔ s = noTxt ∧ t = noTxt := by
  rw [ByteArray.toList_eq]
  have hd : (s ++ t).data.toList = s.data.toList ++ t.data.toList := by simp
  rw [hd]
  constructor
  · intro h
    simp only [Bool.not_eq_false', List.isEmpty_iff, List.append_eq_nil_iff] at h
    exact ⟨ba_ext (by rw [h.1]; rfl), ba_ext (by rw [h.2]; rfl)⟩
  · rintro ⟨rfl, rfl⟩
    rfl
theorem txt_full {s t : ByteArray} (h : ¬ (s = noTxt ∧ t = noTxt)) : (!(s ++ t).toList.isEmpty) = true := by
  rcases hb : (!(s ++ t).toList.isEmpty) with _ | _
  · exact absurd (txt_empty.mp hb) h
  · rfl
theorem txt_nil : (!(({ data := #[] } : ByteArray) ++ ({ data := #[] } : ByteArray)).toList.isEmpty) = false := txt_empty.mpr ⟨rfl, rfl⟩
theorem lexName_noTxt : ¬ LexName noTxt := by
  rintro ⟨_, ⟨c, l, h, _⟩, _⟩
  cases h
theorem bbox {W w1 : World} {N : Nat} (hB : Below W.heap.size W w1) (hN : N < W.heap.size) : (∀ o, w1.cell? ⟨N, o, none⟩ = W.cell? ⟨N, o, none⟩) ∧ (∀ o, w1.frozen? ⟨N, o, none⟩ = W.frozen? ⟨N, o, none⟩) ∧ N < w1.heap.size :=
  ⟨fun o => hB.cell (p := ⟨N, o, none⟩) hN, fun o => hB.frozen (p := ⟨N, o, none⟩) hN, Nat.lt_of_lt_of_le hN hB.size⟩

end Go.Proofs.YtfhfkbdaglegpaaGreatDoor
