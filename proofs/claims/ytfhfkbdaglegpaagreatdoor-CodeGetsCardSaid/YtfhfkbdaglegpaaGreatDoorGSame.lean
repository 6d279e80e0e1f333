/- What the functions that hold rows against each other tell: texts, numbers, nodes. -/
import Derived.Test.YtfhfkbdaglegpaaGreatDoorProg
import Derived.StillTailTactics
import Derived.Test.YtfhfkbdaglegpaaGreatDoorGBase

set_option linter.unusedVariables false
set_option linter.unusedSimpArgs false

namespace Go.Proofs.YtfhfkbdaglegpaaGreatDoor
open Go.RowKit

theorem eq_step {α : Type} {l m : List α} {k : Nat} (h : ∀ j, j < k → l[j]? = m[j]?) (hk : l[k]? = m[k]?) : ∀ j, j < k + 1 → l[j]? = m[j]? := by
  intro j hj
  rcases Nat.lt_or_ge j k with h1 | h1
  · exact h j h1
  · obtain rfl : j = k := by omega
    exact hk
theorem eq_done {α : Type} {l m : List α} {k : Nat} (h : ∀ j, j < k → l[j]? = m[j]?) (hl : l.length = m.length) (hk : ¬ k < l.length) : l = m := by
  apply List.ext_getElem? 
  intro j
  by_cases hj : j < k
  · exact h j hj
  · rw [List.getElem?_eq_none (by omega), List.getElem?_eq_none (by omega)]

theorem txt_eq {s t : ByteArray} : (s.toList == t.toList) = true ↔ s = t := by
  rw [beq_iff_eq, ByteArray.toList_eq, ByteArray.toList_eq]
  obtain ⟨⟨a⟩⟩ := s
  obtain ⟨⟨b⟩⟩ := t
  simp
theorem tl_eq {s t : ByteArray} : s.toList = t.toList ↔ s = t := by rw [← beq_iff_eq, txt_eq]
theorem no_of_idx {α : Type} {l m : List α} {k : Nat} {x y : α} (h1 : l[k]? = some x) (h2 : m[k]? = some y) (h : x ≠ y) : l ≠ m := by
  rintro rfl
  rw [h1] at h2
  exact h (by injection h2)
theorem txt_ne {s t : ByteArray} (h : (!s.toList == t.toList) = true) : s ≠ t := by
  rintro rfl
  simp at h
theorem txt_eq' {s t : ByteArray} (h : (!s.toList == t.toList) = false) : s = t := txt_eq.1 (by simpa using h)
theorem len_ne {α : Type} {l m : List α} (h : ¬ l.length = m.length) : l ≠ m := by rintro rfl; exact h rfl

set_option maxHeartbeats 400000 in
theorem sameTexts_any {S S' : Nat → Prop} {A A' : Option Addr} {c c' : Nat} {l m : List ByteArray} {w : World} (hl : StrsIn S w A l) (hm : StrsIn S' w A' m) :
    Calls Tryz.prog 100 #[.slice A l.length c, .slice A' m.length c'] w fun e w' => RetB (l = m) e ∧ ∃ n, w' = w.drewN n := by
  have hl3 := hl.2.2
  have hm3 := hm.2.2
  have Hl := hide hl.1
  have Hm := hide hm.1
  clear hl hm
  by_cases hn : l.length = m.length
  · have hd : ((l.length : Int) != (m.length : Int)) = false := by simp [hn]
    have Hn := hide hn
    clear hn
    go_enter Tryz.func100, Tryz.ntmps100
    go_wp2
    go_loopw [5] (fun i wr => ∃ k q : Nat, k ≤ l.length ∧ i = .int .i64 k ∧ wr = w.drewN q ∧ Hid (∀ j, j < k → l[j]? = m[j]?)) (fun i _ => l.length - (intOf i).toNat)
    case atStart => exact ⟨0, 0, Nat.zero_le _, rfl, rfl, hide (fun j h => absurd h (by omega))⟩
    case round =>
      obtain ⟨k, q, hk, rfl, rfl, hall⟩ := hrel
      by_cases hlt : k < l.length
      · obtain ⟨b, o, rfl, h1⟩ := Hl.out.at_ (j := k) (by simpa using hlt)
        obtain ⟨b', o', rfl, h2⟩ := Hm.out.at_ (j := k) (by have := Hn.out; simp; omega)
        simp only [List.getElem_map] at h1 h2
        have hlt2 : k < m.length := by have := Hn.out; omega
        have e1 : l[k]? = some l[k] := by simp [hlt]
        have e2 : m[k]? = some m[k] := by simp [hlt2]
        have E1 := hide e1
        have E2 := hide e2
        clear e1 e2
        generalize l[k] = s at h1 E1
        generalize m[k] = s' at h2 E2
        go_wp2
        go_quiet (fail)
        go_wp2
        · have ht : (!s.toList == s'.toList) = true := by assumption
          go_ret
          exact ⟨RetB.no (no_of_idx E1.out E2.out (txt_ne ht)), _, World.drewN_drewN _ _ _⟩
        · have ht : (!s.toList == s'.toList) = false := by assumption
          go_roundw
          case rel => exact ⟨k + 1, _, by omega, by go_num, rfl, hide (eq_step hall.out (by rw [E1.out, E2.out, txt_eq' ht]))⟩
          case measure => simp [intOf]; omega
      · go_wp2
        go_ret
        exact ⟨RetB.yes (eq_done hall.out Hn.out hlt), _, rfl⟩
  · have hd : ((l.length : Int) != (m.length : Int)) = true := by simp; omega
    have Hn := hide hn
    clear hn
    go_enter Tryz.func100, Tryz.ntmps100
    go_wp2
    go_ret
    exact ⟨RetB.no (len_ne Hn.out), 0, rfl⟩

set_option maxHeartbeats 400000 in
theorem sameInts_any {S S' : Nat → Prop} {A A' : Option Addr} {c c' : Nat} {l m : List Int} {w : World} (hl : IntsIn S w A l) (hm : IntsIn S' w A' m) :
    Calls Tryz.prog 101 #[.slice A l.length c, .slice A' m.length c'] w fun e w' => RetB (l = m) e ∧ ∃ n, w' = w.drewN n := by
  have hl3 := hl.2.2
  have hm3 := hm.2.2
  have Hl := hide hl.1
  have Hm := hide hm.1
  clear hl hm
  by_cases hn : l.length = m.length
  · have hd : ((l.length : Int) != (m.length : Int)) = false := by simp [hn]
    have Hn := hide hn
    clear hn
    go_enter Tryz.func101, Tryz.ntmps101
    go_wp2
    go_loopw [5] (fun i wr => ∃ k q : Nat, k ≤ l.length ∧ i = .int .i64 k ∧ wr = w.drewN q ∧ Hid (∀ j, j < k → l[j]? = m[j]?)) (fun i _ => l.length - (intOf i).toNat)
    case atStart => exact ⟨0, 0, Nat.zero_le _, rfl, rfl, hide (fun j h => absurd h (by omega))⟩
    case round =>
      obtain ⟨k, q, hk, rfl, rfl, hall⟩ := hrel
      by_cases hlt : k < l.length
      · obtain ⟨b, o, rfl, h1⟩ := Hl.out.at_ (j := k) (by simpa using hlt)
        obtain ⟨b', o', rfl, h2⟩ := Hm.out.at_ (j := k) (by have := Hn.out; simp; omega)
        simp only [List.getElem_map] at h1 h2
        have hlt2 : k < m.length := by have := Hn.out; omega
        have e1 : l[k]? = some l[k] := by simp [hlt]
        have e2 : m[k]? = some m[k] := by simp [hlt2]
        have E1 := hide e1
        have E2 := hide e2
        clear e1 e2
        generalize l[k] = s at h1 E1
        generalize m[k] = s' at h2 E2
        go_wp2
        go_quiet (fail)
        go_wp2
        · have ht : (s != s') = true := by assumption
          go_ret
          exact ⟨RetB.no (no_of_idx E1.out E2.out (by simpa using ht)), _, World.drewN_drewN _ _ _⟩
        · have ht : (s != s') = false := by assumption
          go_roundw
          case rel => exact ⟨k + 1, _, by omega, by go_num, rfl, hide (eq_step hall.out (by rw [E1.out, E2.out, (by simpa using ht : s = s')]))⟩
          case measure => simp [intOf]; omega
      · go_wp2
        go_ret
        exact ⟨RetB.yes (eq_done hall.out Hn.out hlt), _, rfl⟩
  · have hd : ((l.length : Int) != (m.length : Int)) = true := by simp; omega
    have Hn := hide hn
    clear hn
    go_enter Tryz.func101, Tryz.ntmps101
    go_wp2
    go_ret
    exact ⟨RetB.no (len_ne Hn.out), 0, rfl⟩

set_option maxHeartbeats 400000 in
theorem equalTexts_any {S S' : Nat → Prop} {A A' : Option Addr} {c c' : Nat} {l m : List ByteArray} {w : World} (hl : StrsIn S w A l) (hm : StrsIn S' w A' m) :
    Calls Tryz.prog 108 #[.slice A l.length c, .slice A' m.length c'] w fun e w' => RetB (l = m) e ∧ ∃ n, w' = w.drewN n := by
  have hl3 := hl.2.2
  have hm3 := hm.2.2
  have Hl := hide hl.1
  have Hm := hide hm.1
  clear hl hm
  by_cases hn : l.length = m.length
  · have hd : ((l.length : Int) != (m.length : Int)) = false := by simp [hn]
    have Hn := hide hn
    clear hn
    go_enter Tryz.func108, Tryz.ntmps108
    go_wp2
    go_loopw [13, 5] (fun i _ wr => ∃ k q : Nat, k ≤ l.length ∧ i = .int .i64 k ∧ wr = w.drewN q ∧ Hid (∀ j, j < k → l[j]? = m[j]?)) (fun i _ _ => l.length - (intOf i).toNat)
    case atStart => exact ⟨0, 0, Nat.zero_le _, rfl, rfl, hide (fun j h => absurd h (by omega))⟩
    case round =>
      obtain ⟨k, q, hk, rfl, rfl, hall⟩ := hrel
      by_cases hlt : k < l.length
      · obtain ⟨b, o, rfl, h1⟩ := Hl.out.at_ (j := k) (by simpa using hlt)
        obtain ⟨b', o', rfl, h2⟩ := Hm.out.at_ (j := k) (by have := Hn.out; simp; omega)
        simp only [List.getElem_map] at h1 h2
        have hlt2 : k < m.length := by have := Hn.out; omega
        have e1 : l[k]? = some l[k] := by simp [hlt]
        have e2 : m[k]? = some m[k] := by simp [hlt2]
        have E1 := hide e1
        have E2 := hide e2
        clear e1 e2
        generalize l[k] = s at h1 E1
        generalize m[k] = s' at h2 E2
        go_wp2
        go_quiet (fail)
        go_wp2
        · have ht : (!s.toList == s'.toList) = true := by assumption
          go_ret
          exact ⟨RetB.no (no_of_idx E1.out E2.out (txt_ne ht)), _, World.drewN_drewN _ _ _⟩
        · have ht : (!s.toList == s'.toList) = false := by assumption
          go_roundw
          case rel => exact ⟨k + 1, _, by omega, by go_num, rfl, hide (eq_step hall.out (by rw [E1.out, E2.out, txt_eq' ht]))⟩
          case measure => simp [intOf]; omega
      · go_wp2
        go_ret
        exact ⟨RetB.yes (eq_done hall.out Hn.out hlt), _, rfl⟩
  · have hd : ((l.length : Int) != (m.length : Int)) = true := by simp; omega
    have Hn := hide hn
    clear hn
    go_enter Tryz.func108, Tryz.ntmps108
    go_wp2
    go_ret
    exact ⟨RetB.no (len_ne Hn.out), 0, rfl⟩

set_option maxHeartbeats 400000 in
theorem equalInts_any {S S' : Nat → Prop} {A A' : Option Addr} {c c' : Nat} {l m : List Int} {w : World} (hl : IntsIn S w A l) (hm : IntsIn S' w A' m) :
    Calls Tryz.prog 116 #[.slice A l.length c, .slice A' m.length c'] w fun e w' => RetB (l = m) e ∧ ∃ n, w' = w.drewN n := by
  have hl3 := hl.2.2
  have hm3 := hm.2.2
  have Hl := hide hl.1
  have Hm := hide hm.1
  clear hl hm
  by_cases hn : l.length = m.length
  · have hd : ((l.length : Int) != (m.length : Int)) = false := by simp [hn]
    have Hn := hide hn
    clear hn
    go_enter Tryz.func116, Tryz.ntmps116
    go_wp2
    go_loopw [13, 5] (fun i _ wr => ∃ k q : Nat, k ≤ l.length ∧ i = .int .i64 k ∧ wr = w.drewN q ∧ Hid (∀ j, j < k → l[j]? = m[j]?)) (fun i _ _ => l.length - (intOf i).toNat)
    case atStart => exact ⟨0, 0, Nat.zero_le _, rfl, rfl, hide (fun j h => absurd h (by omega))⟩
    case round =>
      obtain ⟨k, q, hk, rfl, rfl, hall⟩ := hrel
      by_cases hlt : k < l.length
      · obtain ⟨b, o, rfl, h1⟩ := Hl.out.at_ (j := k) (by simpa using hlt)
        obtain ⟨b', o', rfl, h2⟩ := Hm.out.at_ (j := k) (by have := Hn.out; simp; omega)
        simp only [List.getElem_map] at h1 h2
        have hlt2 : k < m.length := by have := Hn.out; omega
        have e1 : l[k]? = some l[k] := by simp [hlt]
        have e2 : m[k]? = some m[k] := by simp [hlt2]
        have E1 := hide e1
        have E2 := hide e2
        clear e1 e2
        generalize l[k] = s at h1 E1
        generalize m[k] = s' at h2 E2
        go_wp2
        go_quiet (fail)
        go_wp2
        · have ht : (s != s') = true := by assumption
          go_ret
          exact ⟨RetB.no (no_of_idx E1.out E2.out (by simpa using ht)), _, World.drewN_drewN _ _ _⟩
        · have ht : (s != s') = false := by assumption
          go_roundw
          case rel => exact ⟨k + 1, _, by omega, by go_num, rfl, hide (eq_step hall.out (by rw [E1.out, E2.out, (by simpa using ht : s = s')]))⟩
          case measure => simp [intOf]; omega
      · go_wp2
        go_ret
        exact ⟨RetB.yes (eq_done hall.out Hn.out hlt), _, rfl⟩
  · have hd : ((l.length : Int) != (m.length : Int)) = true := by simp; omega
    have Hn := hide hn
    clear hn
    go_enter Tryz.func116, Tryz.ntmps116
    go_wp2
    go_ret
    exact ⟨RetB.no (len_ne Hn.out), 0, rfl⟩

end Go.Proofs.YtfhfkbdaglegpaaGreatDoor

namespace Go.Proofs.YtfhfkbdaglegpaaGreatDoor
open Go.RowKit

set_option maxHeartbeats 400000 in
theorem sameNode_of {k k' : Nat} {t t' : ByteArray} {n n' : Int} {A A' : Option Addr} {c c' : Nat} {ks ks' : Fo} {w : World}
    (hk : ∀ W, Below w.heap.size w W → Calls Tryz.prog 102 #[.slice A ks.len c, .slice A' ks'.len c'] W fun e w' => RetB (ks = ks') e ∧ Below W.heap.size W w') :
    Calls Tryz.prog 125 #[.agg #[.int .u8 k, .string t, .int .i64 n, .slice A ks.len c], .agg #[.int .u8 k', .string t', .int .i64 n', .slice A' ks'.len c']] w
      fun e w' => RetB (k = k' ∧ t = t' ∧ n = n' ∧ ks = ks') e ∧ Below w.heap.size w w' := by
  have Hk := hide hk
  clear hk
  have htt := hide (tl_eq (s := t) (t := t'))
  go_enter Tryz.func125, Tryz.ntmps125
  go_wp2_with (go_at_call 102; refine (Hk.out _ (below2 _ _)).mono ?_; rintro e w' ⟨⟨b, rfl, hb⟩, hw⟩; have Hb := hide hb; have Hw := hide hw; clear hb hw)
  all_goals
    go_ret
    go_tidy
    have htt := htt.out
    refine ⟨RetB.mk (by first | (rw [Hb.out]; grind) | grind), ?_⟩
    first
      | exact blw_up2 Hw.out
      | exact below2 _ _

set_option maxHeartbeats 400000 in
theorem treeSame_of {k k' : Nat} {t t' : ByteArray} {n n' : Int} {A A' : Option Addr} {c c' : Nat} {ks ks' : Fo} {w : World}
    (hk : ∀ W, Below w.heap.size w W → Calls Tryz.prog 117 #[.slice A ks.len c, .slice A' ks'.len c', .func (.func 114) #[] #[]] W fun e w' => RetB (ks = ks') e ∧ Below W.heap.size W w') :
    Calls Tryz.prog 114 #[.agg #[.int .u8 k, .string t, .int .i64 n, .slice A ks.len c], .agg #[.int .u8 k', .string t', .int .i64 n', .slice A' ks'.len c']] w
      fun e w' => RetB (k = k' ∧ t = t' ∧ n = n' ∧ ks = ks') e ∧ Below w.heap.size w w' := by
  have Hk := hide hk
  clear hk
  have htt := hide (tl_eq (s := t) (t := t'))
  go_enter Tryz.func114, Tryz.ntmps114
  go_wp2_with (go_at_call 117; refine (Hk.out _ (below2 _ _)).mono ?_; rintro e w' ⟨⟨b, rfl, hb⟩, hw⟩; have Hb := hide hb; have Hw := hide hw; clear hb hw)
  all_goals
    go_ret
    go_tidy
    have htt := htt.out
    refine ⟨RetB.mk (by first | (rw [Hb.out]; grind) | grind), ?_⟩
    first
      | exact blw_up2 Hw.out
      | exact below2 _ _

theorem fo_step {f g : Fo} {i k k' : Nat} {t t' : ByteArray} {n n' : Int} {ks ks' r r' : Fo} (h : f = g ↔ f.drop i = g.drop i) (hf : f.drop i = .cons k t n ks r) (hg : g.drop i = .cons k' t' n' ks' r')
    (he : k = k' ∧ t = t' ∧ n = n' ∧ ks = ks') : f = g ↔ f.drop (i + 1) = g.drop (i + 1) := by
  obtain ⟨rfl, rfl, rfl, rfl⟩ := he
  rw [h, hf, hg, Fo.drop_succ hf, Fo.drop_succ hg]
  simp
theorem fo_no {f g : Fo} {i k k' : Nat} {t t' : ByteArray} {n n' : Int} {ks ks' r r' : Fo} (hf : f.drop i = .cons k t n ks r) (hg : g.drop i = .cons k' t' n' ks' r')
    (he : ¬ (k = k' ∧ t = t' ∧ n = n' ∧ ks = ks')) : ¬ f = g := by
  rintro rfl
  rw [hf] at hg
  injection hg with h1 h2 h3 h4
  exact he ⟨h1, h2, h3, h4⟩
theorem fo_end {f g : Fo} {i : Nat} (h : f = g ↔ f.drop i = g.drop i) (hl : f.len = g.len) (hi : ¬ i < f.len) : f = g := by
  rw [h, Fo.drop_len f i (by omega), Fo.drop_len g i (by omega)]

set_option maxRecDepth 100000 in
set_option maxHeartbeats 1000000 in
theorem sameNodes_upto (N : Nat) : ∀ (S S' : Nat → Prop) (A A' : Option Addr) (c c' : Nat) (f g : Fo) (w : World), f.cnt < N → FoIn S w A f → FoIn S' w A' g → f.len ≤ 9223372036854775807 → g.len ≤ 9223372036854775807 →
    Calls Tryz.prog 102 #[.slice A f.len c, .slice A' g.len c'] w fun e w' => RetB (f = g) e ∧ Below w.heap.size w w' := by
  induction N with
  | zero => intro _ _ _ _ _ _ _ _ _ h; omega
  | succ N ih =>
    intro S S' A A' c c' f g w hN hf hg hlf hlg
    have Hih := hide ih
    have HN := hide hN
    have Hf := hide hf
    have Hg := hide hg
    clear ih hN hf hg
    by_cases hn : f.len = g.len
    · have hd : ((f.len : Int) != (g.len : Int)) = false := by simp [hn]
      have Hn := hide hn
      clear hn
      go_enter Tryz.func102, Tryz.ntmps102
      go_wp2_with fail
      go_loopw [5] (fun i wr => ∃ k : Nat, k ≤ f.len ∧ i = .int .i64 k ∧ Below w.heap.size w wr ∧ Hid (f = g ↔ f.drop k = g.drop k)) (fun i _ => f.len - (intOf i).toNat)
      case atStart => exact ⟨0, Nat.zero_le _, rfl, Below.refl _ _, hide Iff.rfl⟩
      case round =>
        obtain ⟨i, hi, rfl, hB, hall⟩ := hrel
        by_cases hlt : i < f.len
        · obtain ⟨b, o, KA, kc, k, t, n, ks, r, rfl, hdf, c0, c1, c2, c3, e1, e2, e3, e4, e5, hks, hcnt⟩ := (Hf.out.below hB).at_ hlt
          have hlt2 : i < g.len := by have := Hn.out; omega
          obtain ⟨b', o', KA', kc', k', t', n', ks', r', rfl, hdg, d0, d1, d2, d3, f1, f2, f3, f4, f5, hks', hcnt'⟩ := (Hg.out.below hB).at_ hlt2
          have HB := hide hB
          have Hks := hide hks
          have Hks' := hide hks'
          have Hdf := hide hdf
          have Hdg := hide hdg
          have Hc := hide hcnt
          clear hB hks hks' hdf hdg hcnt hcnt'
          have Hsub : Hid (∀ W, Below wr.heap.size wr W → Calls Tryz.prog 102 #[.slice KA ks.len kc, .slice KA' ks'.len kc'] W fun e w' => RetB (ks = ks') e ∧ Below W.heap.size W w') :=
            hide fun W hW => Hih.out S S' KA KA' kc kc' ks ks' W (by have := Hc.out; have := HN.out; omega) (Hks.out.below hW) (Hks'.out.below hW) (by omega) (by omega)
          go_wp2_with fail
          go_still_tail 8, (by kernel_rfl)
          change wpList _ _ _ _ _ wr.drew
          go_wp2_with fail
          refine (sameNode_of (w := wr.drew) fun W hW => Hsub.out W (blw_undrew hW)).mono ?_
          rintro e w1 ⟨⟨_ | _, rfl, hb⟩, hw⟩
          all_goals
            have Hb := hide hb
            have Hw := hide hw
            clear hb hw
            go_wp2_with fail
          · go_ret
            exact ⟨RetB.no (fo_no Hdf.out Hdg.out (by simpa using Hb.out)), blw_up HB.out (blw_undrew Hw.out)⟩
          · go_roundw
            case rel => exact ⟨i + 1, by omega, by go_num, blw_up HB.out (blw_undrew Hw.out), hide (fo_step hall.out Hdf.out Hdg.out (by simpa using Hb.out))⟩
            case measure => simp [intOf]; omega
        · have HB := hide hB
          clear hB
          go_wp2_with fail
          go_ret
          exact ⟨RetB.yes (fo_end hall.out Hn.out hlt), HB.out⟩
    · have hd : ((f.len : Int) != (g.len : Int)) = true := by simp; omega
      have Hn := hide hn
      clear hn
      go_enter Tryz.func102, Tryz.ntmps102
      go_wp2_with fail
      go_ret
      exact ⟨RetB.no (fun h => Hn.out (by rw [h])), Below.refl _ _⟩

set_option maxRecDepth 100000 in
set_option maxHeartbeats 1000000 in
theorem equalFunc_upto (N : Nat) : ∀ (S S' : Nat → Prop) (A A' : Option Addr) (c c' : Nat) (f g : Fo) (w : World), f.cnt < N → FoIn S w A f → FoIn S' w A' g → f.len ≤ 9223372036854775807 → g.len ≤ 9223372036854775807 →
    Calls Tryz.prog 117 #[.slice A f.len c, .slice A' g.len c', .func (.func 114) #[] #[]] w fun e w' => RetB (f = g) e ∧ Below w.heap.size w w' := by
  induction N with
  | zero => intro _ _ _ _ _ _ _ _ _ h; omega
  | succ N ih =>
    intro S S' A A' c c' f g w hN hf hg hlf hlg
    have Hih := hide ih
    have HN := hide hN
    have Hf := hide hf
    have Hg := hide hg
    clear ih hN hf hg
    by_cases hn : f.len = g.len
    · have hd : ((f.len : Int) != (g.len : Int)) = false := by simp [hn]
      have Hn := hide hn
      clear hn
      go_enter Tryz.func117, Tryz.ntmps117
      go_wp2_with fail
      go_loopw [17, 7, 8, 9] (fun i _ _ _ wr => ∃ k : Nat, k ≤ f.len ∧ i = .int .i64 k ∧ Below w.heap.size w wr ∧ Hid (f = g ↔ f.drop k = g.drop k)) (fun i _ _ _ _ => f.len - (intOf i).toNat)
      case atStart => exact ⟨0, Nat.zero_le _, rfl, Below.refl _ _, hide Iff.rfl⟩
      case round =>
        obtain ⟨i, hi, rfl, hB, hall⟩ := hrel
        by_cases hlt : i < f.len
        · obtain ⟨b, o, KA, kc, k, t, n, ks, r, rfl, hdf, c0, c1, c2, c3, e1, e2, e3, e4, e5, hks, hcnt⟩ := (Hf.out.below hB).at_ hlt
          have hlt2 : i < g.len := by have := Hn.out; omega
          obtain ⟨b', o', KA', kc', k', t', n', ks', r', rfl, hdg, d0, d1, d2, d3, f1, f2, f3, f4, f5, hks', hcnt'⟩ := (Hg.out.below hB).at_ hlt2
          have HB := hide hB
          have Hks := hide hks
          have Hks' := hide hks'
          have Hdf := hide hdf
          have Hdg := hide hdg
          have Hc := hide hcnt
          clear hB hks hks' hdf hdg hcnt hcnt'
          have Hsub : Hid (∀ W, Below wr.heap.size wr W → Calls Tryz.prog 117 #[.slice KA ks.len kc, .slice KA' ks'.len kc', .func (.func 114) #[] #[]] W fun e w' => RetB (ks = ks') e ∧ Below W.heap.size W w') :=
            hide fun W hW => Hih.out S S' KA KA' kc kc' ks ks' W (by have := Hc.out; have := HN.out; omega) (Hks.out.below hW) (Hks'.out.below hW) (by omega) (by omega)
          have hb2 : b' < wr.heap.size := block_lt_of_cell d0
          go_wp2_with fail
          refine (treeSame_of fun W hW => Hsub.out W (blw_up2 hW)).mono ?_
          rintro e w1 ⟨⟨_ | _, rfl, hb⟩, hw⟩
          all_goals
            have Hb := hide hb
            have Hw := hide hw
            clear hb hw
            go_wp2_with fail
          · go_ret
            exact ⟨RetB.no (fo_no Hdf.out Hdg.out (by simpa using Hb.out)), blw_up HB.out (blw_up2 Hw.out)⟩
          · go_roundw
            case rel => exact ⟨i + 1, by omega, by go_num, blw_up HB.out (blw_up2 Hw.out), hide (fo_step hall.out Hdf.out Hdg.out (by simpa using Hb.out))⟩
            case measure => simp [intOf]; omega
        · have HB := hide hB
          clear hB
          go_wp2_with fail
          go_ret
          exact ⟨RetB.yes (fo_end hall.out Hn.out hlt), HB.out⟩
    · have hd : ((f.len : Int) != (g.len : Int)) = true := by simp; omega
      have Hn := hide hn
      clear hn
      go_enter Tryz.func117, Tryz.ntmps117
      go_wp2_with fail
      go_ret
      exact ⟨RetB.no (fun h => Hn.out (by rw [h])), Below.refl _ _⟩

theorem sameNodes_any {S S' : Nat → Prop} {A A' : Option Addr} {c c' : Nat} {f g : Fo} {w : World} (hf : FoIn S w A f) (hg : FoIn S' w A' g) (hlf : f.len ≤ 9223372036854775807) (hlg : g.len ≤ 9223372036854775807) :
    Calls Tryz.prog 102 #[.slice A f.len c, .slice A' g.len c'] w fun e w' => RetB (f = g) e ∧ Below w.heap.size w w' :=
  sameNodes_upto (f.cnt + 1) S S' A A' c c' f g w (by omega) hf hg hlf hlg
theorem sameNode_any {S S' : Nat → Prop} {k k' : Nat} {t t' : ByteArray} {n n' : Int} {A A' : Option Addr} {c c' : Nat} {f g : Fo} {w : World} (hf : FoIn S w A f) (hg : FoIn S' w A' g) (hlf : f.len ≤ 9223372036854775807) (hlg : g.len ≤ 9223372036854775807) :
    Calls Tryz.prog 125 #[.agg #[.int .u8 k, .string t, .int .i64 n, .slice A f.len c], .agg #[.int .u8 k', .string t', .int .i64 n', .slice A' g.len c']] w
      fun e w' => RetB (k = k' ∧ t = t' ∧ n = n' ∧ f = g) e ∧ Below w.heap.size w w' :=
  sameNode_of fun _ hW => sameNodes_any (hf.below hW) (hg.below hW) hlf hlg
theorem equalNodes_any {S S' : Nat → Prop} {A A' : Option Addr} {c c' : Nat} {f g : Fo} {w : World} (hf : FoIn S w A f) (hg : FoIn S' w A' g) (hlf : f.len ≤ 9223372036854775807) (hlg : g.len ≤ 9223372036854775807) :
    Calls Tryz.prog 117 #[.slice A f.len c, .slice A' g.len c', .func (.func 114) #[] #[]] w fun e w' => RetB (f = g) e ∧ Below w.heap.size w w' :=
  equalFunc_upto (f.cnt + 1) S S' A A' c c' f g w (by omega) hf hg hlf hlg
theorem treeSame_any {S S' : Nat → Prop} {k k' : Nat} {t t' : ByteArray} {n n' : Int} {A A' : Option Addr} {c c' : Nat} {f g : Fo} {w : World} (hf : FoIn S w A f) (hg : FoIn S' w A' g) (hlf : f.len ≤ 9223372036854775807) (hlg : g.len ≤ 9223372036854775807) :
    Calls Tryz.prog 114 #[.agg #[.int .u8 k, .string t, .int .i64 n, .slice A f.len c], .agg #[.int .u8 k', .string t', .int .i64 n', .slice A' g.len c']] w
      fun e w' => RetB (k = k' ∧ t = t' ∧ n = n' ∧ f = g) e ∧ Below w.heap.size w w' :=
  treeSame_of fun _ hW => equalNodes_any (hf.below hW) (hg.below hW) hlf hlg

end Go.Proofs.YtfhfkbdaglegpaaGreatDoor

namespace Go.Proofs.YtfhfkbdaglegpaaGreatDoor
open Go.RowKit

set_option maxHeartbeats 400000 in
theorem sameHunk_any {S S' : Nat → Prop} {x y : Hh} {a b : Hk} {w : World} (ha : HkIn S w x a) (hb : HkIn S' w y b) :
    Calls Tryz.prog 43 #[.agg #[.int .i64 a.at_, .slice x.oA a.old.length x.oc, .slice x.nA a.new.length x.nc], .agg #[.int .i64 b.at_, .slice y.oA b.old.length y.oc, .slice y.nA b.new.length y.nc]] w
      fun e w' => RetB (a = b) e ∧ Below w.heap.size w w' := by
  have Ha := hide ha
  have Hb := hide hb
  have Heq := hide (@Hk.eq_iff a b)
  have Htl := hide True.intro
  clear ha hb
  go_enter Tryz.func43, Tryz.ntmps43
  go_wp2_with (go_at_call 100; first
    | ((with_reducible refine (sameTexts_any (Ha.out.old.below (below2 _ _)) (Hb.out.old.below (below2 _ _))).mono ?_); rintro e w1 ⟨⟨b1, rfl, hb⟩, q, rfl⟩; have Hb1 := hide hb; clear hb)
    | ((with_reducible refine (sameTexts_any (Ha.out.new.below (blw_drewN (below2 _ _) _)) (Hb.out.new.below (blw_drewN (below2 _ _) _))).mono ?_); rintro e w2 ⟨⟨b2, rfl, hb⟩, q2, rfl⟩; have Hb2 := hide hb; clear hb))
  all_goals
    go_ret
    go_tidy
    refine ⟨RetB.mk ?_, ?_⟩
    · rw [Heq.out]
      first
        | (have hHb1 := Hb1.out; have hHb2 := Hb2.out; clear Hb1 Hb2; have ht := Htl.out; grind)
        | (have hHb1 := Hb1.out; clear Hb1; have ht := Htl.out; grind)
        | (have ht := Htl.out; grind)
    · first
        | exact below2 _ _
        | exact blw_drewN (below2 _ _) _

set_option maxRecDepth 100000 in
set_option maxHeartbeats 1000000 in
theorem sameEdit_any {S S' : Nat → Prop} {x y : Eh} {a b : Ed} {w : World} (ha : EdIn S w x a) (hb : EdIn S' w y b) :
    Calls Tryz.prog 44 #[.agg #[.int .u8 a.kind, .slice x.pA a.path.length x.pc, .int .i64 a.at_, .int .i64 a.far, .string a.frm, .string a.to, .slice x.oA a.old.len x.oc, .slice x.nA a.new.len x.nc], .agg #[.int .u8 b.kind, .slice y.pA b.path.length y.pc, .int .i64 b.at_, .int .i64 b.far, .string b.frm, .string b.to, .slice y.oA b.old.len y.oc, .slice y.nA b.new.len y.nc]] w
      fun e w' => RetB (a = b) e ∧ Below w.heap.size w w' := by
  have lo := Nat.le_trans ha.oc.1 ha.oc.2
  have ln := Nat.le_trans ha.nc.1 ha.nc.2
  have lo' := Nat.le_trans hb.oc.1 hb.oc.2
  have ln' := Nat.le_trans hb.nc.1 hb.nc.2
  have Ha := hide ha
  have Hb := hide hb
  have Heq := hide (@Ed.eq_iff a b)
  have Htl := hide (And.intro (tl_eq (s := a.frm) (t := b.frm)) (tl_eq (s := a.to) (t := b.to)))
  clear ha hb
  go_enter Tryz.func44, Tryz.ntmps44
  go_wp2_with (first
    | (go_at_call 101; (with_reducible refine (sameInts_any (Ha.out.path.below (below2 _ _)) (Hb.out.path.below (below2 _ _))).mono ?_); rintro e w1 ⟨⟨b1, rfl, hb⟩, q, rfl⟩; have Hb1 := hide hb; clear hb)
    | (go_at_call 102; (with_reducible refine (sameNodes_any (Ha.out.old.below (blw_drewN (below2 _ _) _)) (Hb.out.old.below (blw_drewN (below2 _ _) _)) lo lo').mono ?_); rintro e w2 ⟨⟨b2, rfl, hb⟩, hB⟩; have Hb2 := hide hb; have HB := hide (blw_up (blw_drewN (below2 _ _) _) hB); obtain ⟨hc, hf⟩ := bcell hB; have hz : w.heap.size + 1 < w2.heap.size := (by have := hB.size; simp at this; omega); clear hb hB)
    | (go_at_call 102; (with_reducible refine (sameNodes_any (Ha.out.new.below HB.out) (Hb.out.new.below HB.out) ln ln').mono ?_); rintro e w3 ⟨⟨b3, rfl, hb⟩, hB⟩; have Hb3 := hide hb; have HB3 := hide (blw_up HB.out hB); clear hb hB))
  all_goals
    go_ret
    go_tidy
    refine ⟨RetB.mk ?_, ?_⟩
    · rw [Heq.out]
      first
        | (have hHb1 := Hb1.out; have hHb2 := Hb2.out; have hHb3 := Hb3.out; clear Hb1 Hb2 Hb3; have ht := Htl.out; grind)
        | (have hHb1 := Hb1.out; have hHb2 := Hb2.out; clear Hb1 Hb2; have ht := Htl.out; grind)
        | (have hHb1 := Hb1.out; clear Hb1; have ht := Htl.out; grind)
        | (have ht := Htl.out; grind)
    · first
        | exact HB3.out
        | exact HB.out
        | exact below2 _ _
        | exact blw_drewN (below2 _ _) _

set_option maxRecDepth 100000 in
set_option maxHeartbeats 1000000 in
theorem samePatch_any {S S' : Nat → Prop} {x y : Ph} {a b : Pt} {w : World} (ha : PtIn S w x a) (hb : PtIn S' w y b) :
    Calls Tryz.prog 17 #[.agg #[.int .u8 a.kind, .string a.file, .string a.text, .int .i64 a.hunk.at_, .slice x.h.oA a.hunk.old.length x.h.oc, .slice x.h.nA a.hunk.new.length x.h.nc, .int .u8 a.edit.kind, .slice x.e.pA a.edit.path.length x.e.pc, .int .i64 a.edit.at_, .int .i64 a.edit.far, .string a.edit.frm, .string a.edit.to, .slice x.e.oA a.edit.old.len x.e.oc, .slice x.e.nA a.edit.new.len x.e.nc], .agg #[.int .u8 b.kind, .string b.file, .string b.text, .int .i64 b.hunk.at_, .slice y.h.oA b.hunk.old.length y.h.oc, .slice y.h.nA b.hunk.new.length y.h.nc, .int .u8 b.edit.kind, .slice y.e.pA b.edit.path.length y.e.pc, .int .i64 b.edit.at_, .int .i64 b.edit.far, .string b.edit.frm, .string b.edit.to, .slice y.e.oA b.edit.old.len y.e.oc, .slice y.e.nA b.edit.new.len y.e.nc]] w
      fun e w' => RetB (a = b) e ∧ Below w.heap.size w w' := by
  have Ha := hide ha
  have Hb := hide hb
  have Heq := hide (@Pt.eq_iff a b)
  have Htl := hide (And.intro (tl_eq (s := a.file) (t := b.file)) (tl_eq (s := a.text) (t := b.text)))
  clear ha hb
  go_enter Tryz.func17, Tryz.ntmps17
  go_wp2_with (first
    | (go_at_call 43; (with_reducible refine (sameHunk_any (Ha.out.hunk.below (below2 _ _)) (Hb.out.hunk.below (below2 _ _))).mono ?_); rintro e w1 ⟨⟨b1, rfl, hb⟩, hB⟩; have Hb1 := hide hb; have HB := hide (blw_up (below2 _ _) hB); obtain ⟨hc, hf⟩ := bcell hB; have hz : w.heap.size + 1 < w1.heap.size := (by have := hB.size; simp at this; omega); clear hb hB)
    | (go_at_call 44; (with_reducible refine (sameEdit_any (Ha.out.edit.below HB.out) (Hb.out.edit.below HB.out)).mono ?_); rintro e w2 ⟨⟨b2, rfl, hb⟩, hB⟩; have Hb2 := hide hb; have HB2 := hide (blw_up HB.out hB); clear hb hB))
  all_goals
    go_ret
    go_tidy
    refine ⟨RetB.mk ?_, ?_⟩
    · rw [Heq.out]
      first
        | (have hHb1 := Hb1.out; have hHb2 := Hb2.out; clear Hb1 Hb2; have ht := Htl.out; grind)
        | (have hHb1 := Hb1.out; clear Hb1; have ht := Htl.out; grind)
        | (have ht := Htl.out; grind)
    · first
        | exact HB2.out
        | exact HB.out
        | exact below2 _ _

set_option maxRecDepth 100000 in
set_option maxHeartbeats 2000000 in
theorem patchSame_any {S S' : Nat → Prop} {x y : Ph} {a b : Pt} {w : World} (ha : PtIn S w x a) (hb : PtIn S' w y b) :
    Calls Tryz.prog 53 #[.agg #[.int .u8 a.kind, .string a.file, .string a.text, .int .i64 a.hunk.at_, .slice x.h.oA a.hunk.old.length x.h.oc, .slice x.h.nA a.hunk.new.length x.h.nc, .int .u8 a.edit.kind, .slice x.e.pA a.edit.path.length x.e.pc, .int .i64 a.edit.at_, .int .i64 a.edit.far, .string a.edit.frm, .string a.edit.to, .slice x.e.oA a.edit.old.len x.e.oc, .slice x.e.nA a.edit.new.len x.e.nc], .agg #[.int .u8 b.kind, .string b.file, .string b.text, .int .i64 b.hunk.at_, .slice y.h.oA b.hunk.old.length y.h.oc, .slice y.h.nA b.hunk.new.length y.h.nc, .int .u8 b.edit.kind, .slice y.e.pA b.edit.path.length y.e.pc, .int .i64 b.edit.at_, .int .i64 b.edit.far, .string b.edit.frm, .string b.edit.to, .slice y.e.oA b.edit.old.len y.e.oc, .slice y.e.nA b.edit.new.len y.e.nc]] w
      fun e w' => RetB (a = b) e ∧ Below w.heap.size w w' := by
  have lo := Nat.le_trans ha.edit.oc.1 ha.edit.oc.2
  have ln := Nat.le_trans ha.edit.nc.1 ha.edit.nc.2
  have lo' := Nat.le_trans hb.edit.oc.1 hb.edit.oc.2
  have ln' := Nat.le_trans hb.edit.nc.1 hb.edit.nc.2
  have Ha := hide ha
  have Hb := hide hb
  have Heq := hide (Pt.eq_all (a := a) (b := b))
  have Htl := hide (And.intro (tl_eq (s := a.file) (t := b.file)) (And.intro (tl_eq (s := a.text) (t := b.text)) (And.intro (tl_eq (s := a.edit.frm) (t := b.edit.frm)) (tl_eq (s := a.edit.to) (t := b.edit.to)))))
  clear ha hb
  go_enter Tryz.func53, Tryz.ntmps53
  go_wp2_with fail
  go_region
  all_goals go_wp2_with (first
    | (go_at_call 108; (with_reducible refine (equalTexts_any (Ha.out.hunk.old.below (below4d _ _ _ _)) (Hb.out.hunk.old.below (below4d _ _ _ _))).mono ?_); rintro e w1 ⟨⟨b1, rfl, hb⟩, q, rfl⟩; have Hb1 := hide hb; clear hb)
    | (go_at_call 108; (with_reducible refine (equalTexts_any (Ha.out.hunk.new.below (blw_drewN (below4 _ _ _ _) _)) (Hb.out.hunk.new.below (blw_drewN (below4 _ _ _ _) _))).mono ?_); rintro e w1 ⟨⟨b2, rfl, hb⟩, q, rfl⟩; have Hb2 := hide hb; clear hb)
    | (go_at_call 116; (with_reducible refine (equalInts_any (Ha.out.edit.path.below (blw_drewN (below4 _ _ _ _) _)) (Hb.out.edit.path.below (blw_drewN (below4 _ _ _ _) _))).mono ?_); rintro e w1 ⟨⟨b3, rfl, hb⟩, q, rfl⟩; have Hb3 := hide hb; clear hb)
    | (go_at_call 117; (with_reducible refine (equalNodes_any (Ha.out.edit.old.below (blw_drewN (below4 _ _ _ _) _)) (Hb.out.edit.old.below (blw_drewN (below4 _ _ _ _) _)) lo lo').mono ?_); rintro e w2 ⟨⟨b4, rfl, hb⟩, hB⟩; have Hb4 := hide hb; have HB := hide (blw_up (blw_drewN (below4 _ _ _ _) _) hB); obtain ⟨hc, hf⟩ := bcell hB; have hz : w.heap.size + 3 < w2.heap.size := (by have := hB.size; simp at this; omega); clear hb hB)
    | (go_at_call 117; (with_reducible refine (equalNodes_any (Ha.out.edit.new.below HB.out) (Hb.out.edit.new.below HB.out) ln ln').mono ?_); rintro e w3 ⟨⟨b5, rfl, hb⟩, hB⟩; have Hb5 := hide hb; have HB3 := hide (blw_up HB.out hB); clear hb hB))
  all_goals
    go_ret
    go_tidy
    refine ⟨RetB.mk ?_, ?_⟩
    · rw [Heq.out]
      first
        | (have hHb1 := Hb1.out; have hHb2 := Hb2.out; have hHb3 := Hb3.out; have hHb4 := Hb4.out; have hHb5 := Hb5.out; clear Hb1 Hb2 Hb3 Hb4 Hb5; have ht := Htl.out; grind)
        | (have hHb1 := Hb1.out; have hHb2 := Hb2.out; have hHb3 := Hb3.out; have hHb4 := Hb4.out; clear Hb1 Hb2 Hb3 Hb4; have ht := Htl.out; grind)
        | (have hHb1 := Hb1.out; have hHb2 := Hb2.out; have hHb3 := Hb3.out; clear Hb1 Hb2 Hb3; have ht := Htl.out; grind)
        | (have hHb1 := Hb1.out; have hHb2 := Hb2.out; clear Hb1 Hb2; have ht := Htl.out; grind)
        | (have hHb1 := Hb1.out; clear Hb1; have ht := Htl.out; grind)
        | (have ht := Htl.out; grind)
    · first
        | exact HB3.out
        | exact HB.out
        | exact below4d _ _ _ _
        | exact blw_drewN (below4 _ _ _ _) _

end Go.Proofs.YtfhfkbdaglegpaaGreatDoor
