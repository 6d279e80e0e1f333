/- May a kind stand in another one? -/
import Derived.Test.YtfhfkbdaglegpaaGreatDoorGNames

set_option linter.unusedVariables false
set_option linter.unusedSimpArgs false

namespace Go.Proofs.YtfhfkbdaglegpaaGreatDoor
open Go.RowKit

theorem rows_none {p : Nat} (h : kindRow p = none) (w : World) :
    Calls Tryz.prog 176 #[.int .u8 p] w fun e w' => e = .returned (.tuple #[.agg #[.slice none 0 0, .bool false], .bool false]) ∧ Below w.heap.size w w' := by
  refine (rows_any p w).mono ?_
  rintro e w' ⟨hB, ⟨_, he⟩ | ⟨k', ks, all, A, c, hf, _⟩⟩
  · exact ⟨he, hB⟩
  · rw [h] at hf; cases hf
theorem rows_some {p : Nat} {k' : Int} {ks : List Int} {all : Bool} (h : kindRow p = some (k', ks, all)) (w : World) :
    Calls Tryz.prog 176 #[.int .u8 p] w fun e w' => ∃ A c, e = .returned (.tuple #[.agg #[.slice A ks.length c, .bool all], .bool true]) ∧ Rd (fun _ => True) w' A (ks.map (.int .u8)) ∧ Below w.heap.size w w' := by
  refine (rows_any p w).mono ?_
  rintro e w' ⟨hB, ⟨hf, _⟩ | ⟨k'', ks', all', A, c, hf, he, hr⟩⟩
  · rw [h] at hf; cases hf
  · rw [h] at hf; cases hf
    exact ⟨A, c, he, hr, hB⟩

theorem kindRows_ok : ∀ r ∈ kindRows, (∀ x ∈ r.2.1, 0 ≤ x ∧ x < 256) ∧ (r.2.2 = true → r.2.1.length = 1) ∧ r.2.1.length ≤ 3 := by decide
theorem kindRow_nat {p : Nat} {k' : Int} {ks : List Int} {all : Bool} (h : kindRow p = some (k', ks, all)) {j : Nat} (hj : j < ks.length) : ∃ n : Nat, ks[j] = n := by
  have := (kindRows_ok _ (kindRow_mem h).1).1 ks[j] (List.getElem_mem hj)
  exact ⟨ks[j].toNat, by omega⟩

set_option maxHeartbeats 1000000 in
theorem fits_any (p k i : Nat) (w : World) : Calls Tryz.prog 178 #[.int .u8 p, .int .u8 k, .int .i64 i] w fun e w' => RetB (FitsIn p k i) e ∧ Below w.heap.size w w' := by
  cases h : kindRow p with
  | none =>
    have H := hide h
    clear h
    go_enter Tryz.func178, Tryz.ntmps178
    go_wp2_with (go_at_call 176; refine (rows_none H.out _).mono ?_; rintro e w1 ⟨rfl, hB⟩; have HB := hide hB; clear hB)
    go_ret
    exact ⟨RetB.no (fits_none H.out k i), HB.out.alloc HB.out.size _⟩
  | some x =>
    obtain ⟨k', ks, all⟩ := x
    have H := hide h
    have hlen := (kindRows_ok _ (kindRow_mem h).1).2.2
    have hone := hide (kindRows_ok _ (kindRow_mem h).1).2.1
    simp only at hlen
    clear h
    by_cases hall : all = true
    · subst hall
      have h0 : 0 < ks.length := by have := hone.out rfl; simp only at this; omega
      obtain ⟨n, hn⟩ := kindRow_nat H.out h0
      have Hn := hide hn
      clear hn
      go_enter Tryz.func178, Tryz.ntmps178
      go_wp2_with (first
        | (go_at_call 176; refine (rows_some H.out _).mono ?_; rintro e w1 ⟨A, c, rfl, hrd, hB⟩; have HB := hide hB; clear hB; obtain ⟨b, o, rfl, hc⟩ := hrd.at_ (j := 0) (by simpa using h0); simp only [List.getElem_map, Hn.out, Nat.add_zero] at hc; have hb := block_lt_of_cell hc; clear hrd)
        | (go_at_call 188; refine (is_any k n _).mono ?_; rintro e w2 ⟨⟨b2, rfl, hb2⟩, rfl⟩; have Hb := hide hb2; clear hb2))
      go_ret
      exact ⟨RetB.mk (by rw [Hb.out, fits_some H.out]; simp [List.getElem?_eq_getElem h0, Hn.out, Int.natCast_inj]), HB.out.alloc HB.out.size _⟩
    · obtain rfl : all = false := by simpa using hall
      by_cases h0 : i < ks.length
      · obtain ⟨n, hn⟩ := kindRow_nat H.out h0
        have Hn := hide hn
        clear hn hall
        go_enter Tryz.func178, Tryz.ntmps178
        go_wp2_with (first
          | (go_at_call 176; refine (rows_some H.out _).mono ?_; rintro e w1 ⟨A, c, rfl, hrd, hB⟩; have HB := hide hB; clear hB; obtain ⟨b, o, rfl, hc⟩ := hrd.at_ (j := i) (by simpa using h0); simp only [List.getElem_map, Hn.out] at hc; have hb := block_lt_of_cell hc; clear hrd)
          | (go_at_call 188; refine (is_any k n _).mono ?_; rintro e w2 ⟨⟨b2, rfl, hb2⟩, rfl⟩; have Hb := hide hb2; clear hb2))
        go_ret
        exact ⟨RetB.mk (by rw [Hb.out, fits_some H.out]; simp [List.getElem?_eq_getElem h0, Hn.out, Int.natCast_inj]), HB.out.alloc HB.out.size _⟩
      · clear hall
        go_enter Tryz.func178, Tryz.ntmps178
        go_wp2_with (go_at_call 176; refine (rows_some H.out _).mono ?_; rintro e w1 ⟨A, c, rfl, hrd, hB⟩; have HB := hide hB; clear hB; have Hrd := hide hrd; clear hrd)
        go_ret
        refine ⟨RetB.no ?_, HB.out.alloc HB.out.size _⟩
        rw [fits_some H.out]
        simp [List.getElem?_eq_none (by omega : ks.length ≤ i)]

end Go.Proofs.YtfhfkbdaglegpaaGreatDoor

namespace Go.Proofs.YtfhfkbdaglegpaaGreatDoor
open Go.RowKit

theorem many_some {p : Nat} {k' : Int} {ks : List Int} {all : Bool} (h : kindRow p = some (k', ks, all)) (c : Nat) :
    (∀ m, many p = some m → c = m) ↔ (all = true ∨ c = ks.length) := by
  obtain ⟨h1, rfl⟩ := kindRow_mem h
  clear h
  simp [kindRows] at h1
  rcases h1 with ⟨hp, rfl, rfl⟩ | ⟨hp, rfl, rfl⟩ | ⟨hp, rfl, rfl⟩ | ⟨hp, rfl, rfl⟩ | ⟨hp, rfl, rfl⟩ | ⟨hp, rfl, rfl⟩ | ⟨hp, rfl, rfl⟩ | ⟨hp, rfl, rfl⟩ | ⟨hp, rfl, rfl⟩ | ⟨hp, rfl, rfl⟩ | ⟨hp, rfl, rfl⟩ | ⟨hp, rfl, rfl⟩ | ⟨hp, rfl, rfl⟩ | ⟨hp, rfl, rfl⟩ | ⟨hp, rfl, rfl⟩ | ⟨hp, rfl, rfl⟩ | ⟨hp, rfl, rfl⟩ | ⟨hp, rfl, rfl⟩ | ⟨hp, rfl, rfl⟩ | ⟨hp, rfl, rfl⟩ | ⟨hp, rfl, rfl⟩ | ⟨hp, rfl, rfl⟩
  all_goals
    norm_cast at hp
    subst hp
    simp [many]

theorem foOk_cons {m p i k : Nat} {t : ByteArray} {n : Int} {ks r : Fo} : FoOk m p i (.cons k t n ks r) ↔ FitsIn p k i ∧ NodeOk m k t n ks ∧ FoOk m p (i + 1) r := by
  rw [FoOk, NodeOk]; grind

theorem fo_one {f : Fo} (h : 0 < f.len) : ∃ k t n ks r, f = .cons k t n ks r := by
  cases f with
  | nil => simp [Fo.len] at h
  | cons k t n ks r => exact ⟨k, t, n, ks, r, rfl⟩

/-- a right Set has something to be set, and what is indexed is there -/
theorem set_has {m : Nat} {ks : Fo} (h : FoOk m 7 0 ks) (hl : ks.len = 2) : ∃ k0 t0 n0 ks0 r, ks = .cons k0 t0 n0 ks0 r ∧ (k0 = 22 ∨ (k0 = 26 ∧ ∃ k1 t1 n1 ks1 r1, ks0 = .cons k1 t1 n1 ks1 r1)) := by
  obtain ⟨k0, t0, n0, ks0, r, rfl⟩ := fo_one (f := ks) (by omega)
  refine ⟨k0, t0, n0, ks0, r, rfl, ?_⟩
  rw [foOk_cons] at h
  obtain ⟨⟨_, hf⟩, ⟨_, hh, _⟩, _⟩ := h
  simp at hf
  rcases hf with rfl | rfl
  · exact .inl rfl
  · refine .inr ⟨rfl, fo_one ?_⟩
    have := hh.2.2.2 2 (by simp [many])
    omega

theorem right_at {m p i k : Nat} {t : ByteArray} {n : Int} {ks r f : Fo} (hd : f.drop i = .cons k t n ks r) (h : FoOk m p i (f.drop i)) : FitsIn p k i ∧ NodeOk m k t n ks := by
  rw [hd, foOk_cons] at h; exact ⟨h.1, h.2.1⟩
theorem right_next {m p i k : Nat} {t : ByteArray} {n : Int} {ks r f : Fo} {P : Prop} (hd : f.drop i = .cons k t n ks r) (h : P ↔ FoOk m p i (f.drop i)) (h1 : FitsIn p k i) (h2 : NodeOk m k t n ks) : P ↔ FoOk m p (i + 1) (f.drop (i + 1)) := by
  rw [h, hd, foOk_cons, Fo.drop_succ hd]; exact ⟨fun h => h.2.2, fun h => ⟨h1, h2, h⟩⟩

theorem rightFn_cell {w w' : World} {fb : Nat} {v : Value} (h : w.cell? ⟨fb, 0, none⟩ = some v) (hB : Below w.heap.size w w') : w'.cell? ⟨fb, 0, none⟩ = some v :=
  (hB.cell (p := ⟨fb, 0, none⟩) (block_lt_of_cell h)).trans h

set_option maxRecDepth 100000 in
set_option maxHeartbeats 2000000 in
theorem right_upto (N : Nat) : ∀ (S : Nat → Prop) (k : Nat) (t : ByteArray) (n : Int) (ks : Fo) (KA : Option Addr) (c fb deep : Nat) (d : Int) (w : World), ks.cnt < N → d = deep → k < 256 → t.size ≤ 9223372036854775807 → isInt64 n → ks.len ≤ c → c ≤ 9223372036854775807 →
    FoIn S w KA ks → TabOk w → w.cell? ⟨fb, 0, none⟩ = some (.func (.func 175) #[] #[.pointer (some ⟨fb, 0, none⟩)]) → 1 ≤ deep → deep ≤ 41 →
    Calls Tryz.prog 175 #[.agg #[.int .u8 k, .string t, .int .i64 n, .slice KA ks.len c], .int .i64 d, .pointer (some ⟨fb, 0, none⟩)] w fun e w' => RetB (NodeOk (41 - deep) k t n ks) e ∧ Below w.heap.size w w' := by
  induction N with
  | zero => intro _ _ _ _ _ _ _ _ _ _ _ h; omega
  | succ N ih =>
    rintro S k t n ks KA c fb deep _ w hN rfl hk ht hn hl hc hks htab hfn hd1 hd2
    have Hih := hide ih
    have HN := hide hN
    have Hks := hide hks
    have Htab : Hid (TabOk w) := htab
    have Hfn := hide hfn
    have hfb := block_lt_of_cell hfn
    have Hn := hide hn
    clear ih hN hks htab hfn hn
    cases hr : kindRow k with
    | none =>
      have H := hide hr
      clear hr
      go_enter Tryz.func175, Tryz.ntmps175
      go_wp2_with (go_at_call 176; refine (rows_none H.out _).mono ?_; rintro e w1 ⟨rfl, hB⟩; have HB := hide (blw_up (below_alloc _ _) hB); obtain ⟨hc1, hf1⟩ := bcell hB; have hz : w.heap.size < w1.heap.size := (by have := hB.size; simp at this; omega); clear hB)
      go_ret
      exact ⟨RetB.no (fun h => by have := (known_iff k).mp h.2.1.1; rw [H.out] at this; cases this), HB.out.alloc HB.out.size _⟩
    | some x =>
      obtain ⟨k', kinds, all⟩ := x
      have H := hide hr
      have hlen : kinds.length ≤ 3 := (kindRows_ok _ (kindRow_mem hr).1).2.2
      clear hr
      rcases Nat.lt_or_ge 40 deep with h40 | h40
      · have hd : decide (40 < (deep : Int)) = true := by simp; omega
        go_enter Tryz.func175, Tryz.ntmps175
        go_wp2_with (go_at_call 176; refine (rows_some H.out _).mono ?_; rintro e w1 ⟨A, rc, rfl, hrd, hB⟩; have HB := hide (blw_up (below_alloc _ _) hB); obtain ⟨hc1, hf1⟩ := bcell hB; have hz : w.heap.size < w1.heap.size := (by have := hB.size; simp at this; omega); clear hB hrd)
        go_ret
        exact ⟨RetB.no (fun h => by have := h.1; omega), HB.out.alloc HB.out.size _⟩
      · have hd : decide (40 < (deep : Int)) = false := by simp; omega
        by_cases hm : all = true ∨ ks.len = kinds.length
        · have HM := hide ((many_some H.out ks.len).mpr hm)
          rcases Bool.eq_false_or_eq_true all with hall | hall
          · subst hall
            clear hm
            go_enter Tryz.func175, Tryz.ntmps175
            go_wp2_with (first
              | (go_at_call 176; refine (rows_some H.out _).mono ?_; rintro e w1 ⟨A, rc, rfl, hrd, hB⟩; have HB := hide (blw_up (below_alloc _ _) hB); obtain ⟨hc1, hf1⟩ := bcell hB; have hz : w.heap.size < w1.heap.size := (by have := hB.size; simp at this; omega); clear hB hrd)
              | (go_at_call 177; refine (says_any k t n KA ks.len c _ ((Htab.out.below HB.out).below (below_alloc _ _)) hk ht Hn.out).mono ?_; rintro e w2 ⟨⟨_ | _, rfl, hb⟩, hB⟩ <;> (have Hb := hide hb; have HB2 := hide (blw_up HB.out (blw_up (below_alloc _ _) hB)); obtain ⟨hc2, hf2⟩ := bcell hB; have hz2 : w1.heap.size < w2.heap.size := (by have := hB.size; simp at this; omega); clear hb hB)))
            · go_ret
              go_tidy
              exact ⟨RetB.no (fun h => absurd (Hb.out.mpr ⟨h.2.1.2.1, h.2.1.2.2.1⟩) (by decide)), HB2.out⟩
            · have Hd := hide (Hb.out.mp (by first | rfl | trivial))
              have hcw0 := hc2 w.heap.size 0 (by simp; omega)
              have hcw3 := hc2 w.heap.size 3 (by simp; omega)
              rw [World.cell?_alloc_past _ _ _ hz, hc1 _ _ (by simp), World.cell?_alloc_new] at hcw0 hcw3
              go_loopw [44, 8, 9] (fun i _ _ wr => ∃ q : Nat, q ≤ ks.len ∧ i = .int .i64 q ∧ Below w2.heap.size w2 wr ∧ Hid (FoOk (41 - deep - 1) k 0 ks ↔ FoOk (41 - deep - 1) k q (ks.drop q))) (fun i _ _ _ => ks.len - (intOf i).toNat)
              case atStart => exact ⟨0, Nat.zero_le _, rfl, Below.refl _ _, hide Iff.rfl⟩
              case round =>
                obtain ⟨i, hi, rfl, hB, hall⟩ := hrel
                have hz3 : w2.heap.size ≤ wr.heap.size := hB.size
                have HB3 := hide (blw_up HB2.out hB)
                have hB0 := hide hB
                have hw0 := (hB.cell (p := ⟨w.heap.size, 0, none⟩) (by simp; omega)).trans hcw0
                have hw3 := (hB.cell (p := ⟨w.heap.size, 3, none⟩) (by simp; omega)).trans hcw3
                have hwf := rightFn_cell Hfn.out HB3.out
                simp only [List.getElem?_toArray, List.getElem?_cons_zero, List.getElem?_cons_succ] at hw0 hw3
                by_cases hlt : i < ks.len
                · obtain ⟨b, o, KA', kc, k0, t0, n0, ks0, r, rfl, hdf, c0, c1, c2, c3, e1, e2, e3, e4, e5, hks', hcnt⟩ := (Hks.out.below HB3.out).at_ hlt
                  have Hks' := hide hks'
                  have Hdf := hide hdf
                  have Hc := hide hcnt
                  have He3 := hide e3
                  have hbw : b < wr.heap.size := block_lt_of_cell c0
                  have hwr : w.heap.size < wr.heap.size := by omega
                  have hfr : fb < wr.heap.size := by omega
                  clear hB hks' hdf hcnt e3
                  go_wp2_with (first
                    | (go_at_call 178; refine (fits_any k k0 i _).mono ?_; rintro e w4 ⟨⟨_ | _, rfl, hb⟩, hB⟩ <;> (have Hf := hide hb; have HB4 := hide (blw_up (below_alloc _ _) hB); obtain ⟨hc4, hf4⟩ := bcell hB; have hz4 : wr.heap.size < w4.heap.size := (by have := hB.size; simp at this; omega); clear hb hB))
                    | (go_at_call 175; refine (Hih.out S k0 t0 n0 ks0 KA' kc fb (deep + 1) _ _ (by have := Hc.out; have := HN.out; omega) (by omega) e1 e2 He3.out e4 e5 (Hks'.out.below HB4.out) (Htab.out.below (blw_up HB3.out HB4.out)) (rightFn_cell hwf HB4.out) (by omega) (by omega)).mono ?_; rintro e w5 ⟨⟨_ | _, rfl, hb⟩, hB⟩ <;> (have Hr := hide hb; have HB5 := hide (blw_up HB4.out hB); clear hb hB)))
                  · go_ret
                    exact ⟨RetB.no (fun h => absurd (Hf.out.mpr (right_at Hdf.out (hall.out.mp h.2.2.1)).1) (by decide)), blw_up HB3.out HB4.out⟩
                  · go_ret
                    exact ⟨RetB.no (fun h => absurd (Hr.out.mpr (right_at Hdf.out (hall.out.mp h.2.2.1)).2) (by decide)), blw_up HB3.out HB5.out⟩
                  · go_roundw
                    case rel => exact ⟨i + 1, by omega, by go_num, (by have h3 := HB3.out; exact blw_up hB0.out HB5.out), hide (right_next Hdf.out hall.out (Hf.out.mp (by first | rfl | trivial)) (Hr.out.mp (by first | rfl | trivial)))⟩
                    case measure => simp [intOf]; omega
                · have hfo : FoOk (41 - deep - 1) k 0 ks := hall.out.mpr (by rw [Fo.drop_len _ _ (by omega)]; exact trivial)
                  have Hall := hide hfo
                  by_cases h7 : k = 7
                  · subst h7
                    obtain ⟨k0, t0, n0, ks0, r, rfl, hset⟩ := set_has hfo (HM.out 2 (by simp [many]))
                    clear hfo hB
                    obtain ⟨b, o, KA0, c', rfl, hS, c0, c1, c2, c3, e1, e2, e3, e4, e5, hks0, hr⟩ := (Hks.out.below HB3.out)
                    have hl0 : 0 < (Fo.cons k0 t0 n0 ks0 r).len := by simp [Fo.len]
                    rcases hset with rfl | ⟨rfl, k1, t1, n1, ks1, r1, rfl⟩
                    · go_wp2_with fail
                      all_goals
                        go_ret
                        go_tidy
                        exact ⟨RetB.mk (iff_of_true (by first | rfl | simp) ⟨by omega, ⟨(known_iff _).mpr (by rw [H.out]; rfl), Hd.out.1, Hd.out.2, HM.out⟩, Hall.out, fun h => by first | (exact absurd h (by assumption)) | trivial | rfl⟩), HB3.out⟩
                    · obtain ⟨b1, o1, KA1, c1', rfl, hS1, d0, d1, d2, d3, f1, f2, f3, f4, f5, hks1, hr1⟩ := hks0
                      have hl1 : 0 < (Fo.cons k1 t1 n1 ks1 r1).len := by simp [Fo.len]
                      go_wp2_with fail
                      all_goals
                        go_ret
                        go_tidy
                        have hcore : 1 ≤ 41 - deep ∧ HeadOk 7 t n (Fo.cons 26 t0 n0 (Fo.cons k1 t1 n1 ks1 r1) r).len ∧ FoOk (41 - deep - 1) 7 0 (Fo.cons 26 t0 n0 (Fo.cons k1 t1 n1 ks1 r1) r) := ⟨by omega, ⟨(known_iff _).mpr (by rw [H.out]; rfl), Hd.out.1, Hd.out.2, HM.out⟩, Hall.out⟩
                        refine ⟨RetB.mk ⟨fun hb => ⟨hcore.1, hcore.2.1, hcore.2.2, fun _ => ?_⟩, fun h => ?_⟩, HB3.out⟩
                        · have hb' : (k1 : Int) = 22 := by simpa using hb
                          show k1 = 22
                          omega
                        · have h' : k1 = 22 := h.2.2.2 rfl
                          subst h'
                          rfl
                  · have h7' : ((k : Int) != 7) = true := by simp; omega
                    clear hfo hB
                    go_wp2_with fail
                    all_goals
                      go_ret
                      go_tidy
                      exact ⟨RetB.mk (iff_of_true (by first | rfl | simp) ⟨by omega, ⟨(known_iff _).mpr (by rw [H.out]; rfl), Hd.out.1, Hd.out.2, HM.out⟩, Hall.out, fun h => by first | (exact absurd h (by assumption)) | trivial | rfl⟩), HB3.out⟩
          · subst hall
            have hq : ((ks.len : Int) != (kinds.length : Int)) = false := by simp at hm; simp; omega
            clear hm
            go_enter Tryz.func175, Tryz.ntmps175
            go_wp2_with (first
              | (go_at_call 176; refine (rows_some H.out _).mono ?_; rintro e w1 ⟨A, rc, rfl, hrd, hB⟩; have HB := hide (blw_up (below_alloc _ _) hB); obtain ⟨hc1, hf1⟩ := bcell hB; have hz : w.heap.size < w1.heap.size := (by have := hB.size; simp at this; omega); clear hB hrd)
              | (go_at_call 177; refine (says_any k t n KA ks.len c _ ((Htab.out.below HB.out).below (below_alloc _ _)) hk ht Hn.out).mono ?_; rintro e w2 ⟨⟨_ | _, rfl, hb⟩, hB⟩ <;> (have Hb := hide hb; have HB2 := hide (blw_up HB.out (blw_up (below_alloc _ _) hB)); obtain ⟨hc2, hf2⟩ := bcell hB; have hz2 : w1.heap.size < w2.heap.size := (by have := hB.size; simp at this; omega); clear hb hB)))
            · go_ret
              go_tidy
              exact ⟨RetB.no (fun h => absurd (Hb.out.mpr ⟨h.2.1.2.1, h.2.1.2.2.1⟩) (by decide)), HB2.out⟩
            · have Hd := hide (Hb.out.mp (by first | rfl | trivial))
              have hcw0 := hc2 w.heap.size 0 (by simp; omega)
              have hcw3 := hc2 w.heap.size 3 (by simp; omega)
              rw [World.cell?_alloc_past _ _ _ hz, hc1 _ _ (by simp), World.cell?_alloc_new] at hcw0 hcw3
              go_loopw [44, 8, 9] (fun i _ _ wr => ∃ q : Nat, q ≤ ks.len ∧ i = .int .i64 q ∧ Below w2.heap.size w2 wr ∧ Hid (FoOk (41 - deep - 1) k 0 ks ↔ FoOk (41 - deep - 1) k q (ks.drop q))) (fun i _ _ _ => ks.len - (intOf i).toNat)
              case atStart => exact ⟨0, Nat.zero_le _, rfl, Below.refl _ _, hide Iff.rfl⟩
              case round =>
                obtain ⟨i, hi, rfl, hB, hall⟩ := hrel
                have hz3 : w2.heap.size ≤ wr.heap.size := hB.size
                have HB3 := hide (blw_up HB2.out hB)
                have hB0 := hide hB
                have hw0 := (hB.cell (p := ⟨w.heap.size, 0, none⟩) (by simp; omega)).trans hcw0
                have hw3 := (hB.cell (p := ⟨w.heap.size, 3, none⟩) (by simp; omega)).trans hcw3
                have hwf := rightFn_cell Hfn.out HB3.out
                simp only [List.getElem?_toArray, List.getElem?_cons_zero, List.getElem?_cons_succ] at hw0 hw3
                by_cases hlt : i < ks.len
                · obtain ⟨b, o, KA', kc, k0, t0, n0, ks0, r, rfl, hdf, c0, c1, c2, c3, e1, e2, e3, e4, e5, hks', hcnt⟩ := (Hks.out.below HB3.out).at_ hlt
                  have Hks' := hide hks'
                  have Hdf := hide hdf
                  have Hc := hide hcnt
                  have He3 := hide e3
                  have hbw : b < wr.heap.size := block_lt_of_cell c0
                  have hwr : w.heap.size < wr.heap.size := by omega
                  have hfr : fb < wr.heap.size := by omega
                  clear hB hks' hdf hcnt e3
                  go_wp2_with (first
                    | (go_at_call 178; refine (fits_any k k0 i _).mono ?_; rintro e w4 ⟨⟨_ | _, rfl, hb⟩, hB⟩ <;> (have Hf := hide hb; have HB4 := hide (blw_up (below_alloc _ _) hB); obtain ⟨hc4, hf4⟩ := bcell hB; have hz4 : wr.heap.size < w4.heap.size := (by have := hB.size; simp at this; omega); clear hb hB))
                    | (go_at_call 175; refine (Hih.out S k0 t0 n0 ks0 KA' kc fb (deep + 1) _ _ (by have := Hc.out; have := HN.out; omega) (by omega) e1 e2 He3.out e4 e5 (Hks'.out.below HB4.out) (Htab.out.below (blw_up HB3.out HB4.out)) (rightFn_cell hwf HB4.out) (by omega) (by omega)).mono ?_; rintro e w5 ⟨⟨_ | _, rfl, hb⟩, hB⟩ <;> (have Hr := hide hb; have HB5 := hide (blw_up HB4.out hB); clear hb hB)))
                  · go_ret
                    exact ⟨RetB.no (fun h => absurd (Hf.out.mpr (right_at Hdf.out (hall.out.mp h.2.2.1)).1) (by decide)), blw_up HB3.out HB4.out⟩
                  · go_ret
                    exact ⟨RetB.no (fun h => absurd (Hr.out.mpr (right_at Hdf.out (hall.out.mp h.2.2.1)).2) (by decide)), blw_up HB3.out HB5.out⟩
                  · go_roundw
                    case rel => exact ⟨i + 1, by omega, by go_num, (by have h3 := HB3.out; exact blw_up hB0.out HB5.out), hide (right_next Hdf.out hall.out (Hf.out.mp (by first | rfl | trivial)) (Hr.out.mp (by first | rfl | trivial)))⟩
                    case measure => simp [intOf]; omega
                · have hfo : FoOk (41 - deep - 1) k 0 ks := hall.out.mpr (by rw [Fo.drop_len _ _ (by omega)]; exact trivial)
                  have Hall := hide hfo
                  by_cases h7 : k = 7
                  · subst h7
                    obtain ⟨k0, t0, n0, ks0, r, rfl, hset⟩ := set_has hfo (HM.out 2 (by simp [many]))
                    clear hfo hB
                    obtain ⟨b, o, KA0, c', rfl, hS, c0, c1, c2, c3, e1, e2, e3, e4, e5, hks0, hr⟩ := (Hks.out.below HB3.out)
                    have hl0 : 0 < (Fo.cons k0 t0 n0 ks0 r).len := by simp [Fo.len]
                    rcases hset with rfl | ⟨rfl, k1, t1, n1, ks1, r1, rfl⟩
                    · go_wp2_with fail
                      all_goals
                        go_ret
                        go_tidy
                        exact ⟨RetB.mk (iff_of_true (by first | rfl | simp) ⟨by omega, ⟨(known_iff _).mpr (by rw [H.out]; rfl), Hd.out.1, Hd.out.2, HM.out⟩, Hall.out, fun h => by first | (exact absurd h (by assumption)) | trivial | rfl⟩), HB3.out⟩
                    · obtain ⟨b1, o1, KA1, c1', rfl, hS1, d0, d1, d2, d3, f1, f2, f3, f4, f5, hks1, hr1⟩ := hks0
                      have hl1 : 0 < (Fo.cons k1 t1 n1 ks1 r1).len := by simp [Fo.len]
                      go_wp2_with fail
                      all_goals
                        go_ret
                        go_tidy
                        have hcore : 1 ≤ 41 - deep ∧ HeadOk 7 t n (Fo.cons 26 t0 n0 (Fo.cons k1 t1 n1 ks1 r1) r).len ∧ FoOk (41 - deep - 1) 7 0 (Fo.cons 26 t0 n0 (Fo.cons k1 t1 n1 ks1 r1) r) := ⟨by omega, ⟨(known_iff _).mpr (by rw [H.out]; rfl), Hd.out.1, Hd.out.2, HM.out⟩, Hall.out⟩
                        refine ⟨RetB.mk ⟨fun hb => ⟨hcore.1, hcore.2.1, hcore.2.2, fun _ => ?_⟩, fun h => ?_⟩, HB3.out⟩
                        · have hb' : (k1 : Int) = 22 := by simpa using hb
                          show k1 = 22
                          omega
                        · have h' : k1 = 22 := h.2.2.2 rfl
                          subst h'
                          rfl
                  · have h7' : ((k : Int) != 7) = true := by simp; omega
                    clear hfo hB
                    go_wp2_with fail
                    all_goals
                      go_ret
                      go_tidy
                      exact ⟨RetB.mk (iff_of_true (by first | rfl | simp) ⟨by omega, ⟨(known_iff _).mpr (by rw [H.out]; rfl), Hd.out.1, Hd.out.2, HM.out⟩, Hall.out, fun h => by first | (exact absurd h (by assumption)) | trivial | rfl⟩), HB3.out⟩
        · have HM := hide (fun h => hm ((many_some H.out ks.len).mp h))
          obtain ⟨rfl, hq0⟩ : all = false ∧ ks.len ≠ kinds.length := by simpa using hm
          have hq : ((ks.len : Int) != (kinds.length : Int)) = true := by simp; omega
          clear hm hq0
          go_enter Tryz.func175, Tryz.ntmps175
          go_wp2_with (first
            | (go_at_call 176; refine (rows_some H.out _).mono ?_; rintro e w1 ⟨A, rc, rfl, hrd, hB⟩; have HB := hide (blw_up (below_alloc _ _) hB); obtain ⟨hc1, hf1⟩ := bcell hB; have hz : w.heap.size < w1.heap.size := (by have := hB.size; simp at this; omega); clear hB hrd)
            | (go_at_call 177; refine (says_any k t n KA ks.len c _ ((Htab.out.below HB.out).below (below_alloc _ _)) hk ht Hn.out).mono ?_; rintro e w2 ⟨⟨_ | _, rfl, hb⟩, hB⟩ <;> (have Hb := hide hb; have HB2 := hide (blw_up HB.out (blw_up (below_alloc _ _) hB)); obtain ⟨hc2, hf2⟩ := bcell hB; have hz2 : w1.heap.size < w2.heap.size := (by have := hB.size; simp at this; omega); clear hb hB)))
          all_goals
            go_ret
            go_tidy
            exact ⟨RetB.no (fun h => HM.out h.2.1.2.2.2), HB2.out⟩

end Go.Proofs.YtfhfkbdaglegpaaGreatDoor
