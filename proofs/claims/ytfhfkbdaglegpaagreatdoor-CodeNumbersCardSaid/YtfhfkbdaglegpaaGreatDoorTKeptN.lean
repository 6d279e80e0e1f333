/- Rows of nodes that were lent are as they were (kit.KeptNodes). Printed by gen_kept.py. -/
import Derived.Deep.RegionHeld
import Derived.BigQuiet
import Derived.Test.YtfhfkbdaglegpaaGreatDoorTLentB
import Derived.Test.YtfhfkbdaglegpaaGreatDoorTSame
import Derived.Test.YtfhfkbdaglegpaaGreatDoorTBase

set_option linter.unusedVariables false
set_option linter.unusedSimpArgs false

namespace Go.Proofs.YtfhfkbdaglegpaaGreatDoor
open Go.RowKit

section
variable {S : Nat → Prop} {w w' : World}
theorem LentAt.node_at : ∀ {f : Fo} {g o i k : Nat} {t : ByteArray} {n : Int} {ks r : Fo}, LentAt S w g o f → f.drop i = .cons k t n ks r → ∃ g' kc, w.cell? ⟨g, o + i * 4, none⟩ = some (.int .u8 k) ∧ w.cell? ⟨g, o + i * 4 + 1, none⟩ = some (.string t) ∧ w.cell? ⟨g, o + i * 4 + 2, none⟩ = some (.int .i64 n) ∧ w.cell? ⟨g, o + i * 4 + 3, none⟩ = some (.slice (some ⟨g', 0, none⟩) ks.len kc) ∧ LentFo S w (some ⟨g', 0, none⟩) kc ks
  | .nil, _, _, i, _, _, _, _, _, _, hd => by cases i <;> cases hd
  | .cons k' t' n' ks' r', g, o, 0, k, t, n, ks, r, ⟨g', kc, c0, c1, c2, c3, h1, h2, h3, h4, h5, h6, h7, h8⟩, hd => by
    cases hd
    exact ⟨g', kc, by simpa using c0, by simpa using c1, by simpa using c2, by simpa using c3, g', rfl, h6, h4, h5, h7⟩
  | .cons k' t' n' ks' r', g, o, i + 1, k, t, n, ks, r, ⟨g', kc, c0, c1, c2, c3, h1, h2, h3, h4, h5, h6, h7, h8⟩, hd => by
    have := LentAt.node_at (i := i) h8 hd
    rwa [show o + 4 + i * 4 = o + (i + 1) * 4 by omega] at this
theorem LentAt.mark_at : ∀ {f : Fo} {g o i : Nat}, LentAt S w g o f → i < 12 → w.cell? ⟨g, o + (f.len + i) * 4, none⟩ = some (.int .u8 0) ∧ w.cell? ⟨g, o + (f.len + i) * 4 + 1, none⟩ = some (.string ⟨#[]⟩) ∧ w.cell? ⟨g, o + (f.len + i) * 4 + 2, none⟩ = some (.int .i64 (markN i)) ∧ w.cell? ⟨g, o + (f.len + i) * 4 + 3, none⟩ = some (.slice none 0 0)
  | .nil, g, o, i, h, hi => by simpa [Fo.len] using h i hi
  | .cons k t n ks r, g, o, i, ⟨g', kc, c0, c1, c2, c3, h1, h2, h3, h4, h5, h6, h7, h8⟩, hi => by
    have := LentAt.mark_at h8 hi
    rwa [show o + 4 + (r.len + i) * 4 = o + ((Fo.cons k t n ks r).len + i) * 4 by simp only [Fo.len]; omega] at this
theorem sameNode_yes {S S' : Nat → Prop} {k : Nat} {t : ByteArray} {n : Int} {A A' : Option Addr} {c c' : Nat} {ks : Fo} {w : World} (h : FoIn S w A ks) (h' : FoIn S' w A' ks) (hl : ks.len ≤ 9223372036854775807) :
    Calls Tryz.prog 125 #[.agg #[.int .u8 k, .string t, .int .i64 n, .slice A ks.len c], .agg #[.int .u8 k, .string t, .int .i64 n, .slice A' ks.len c']] w fun e w' => e = .returned (.bool true) ∧ Below w.heap.size w w' := by
  refine (sameNode_any h h' hl hl).mono ?_
  rintro e w' ⟨⟨b, rfl, hb⟩, hB⟩
  exact ⟨by rw [hb.2 ⟨rfl, rfl, rfl, rfl⟩], hB⟩
theorem sameMark_yes (n : Int) (w : World) : Calls Tryz.prog 125 #[.agg #[.int .u8 0, .string ⟨#[]⟩, .int .i64 n, .slice none 0 0], .agg #[.int .u8 0, .string ⟨#[]⟩, .int .i64 n, .slice none 0 0]] w fun e w' => e = .returned (.bool true) ∧ Below w.heap.size w w' := by
  have h := sameNode_yes (S := fun _ => True) (S' := fun _ => True) (k := 0) (t := ⟨#[]⟩) (n := n) (A := none) (A' := none) (c := 0) (c' := 0) (ks := .nil) (w := w) trivial trivial (by simp [Fo.len])
  exact h
end
abbrev KeptCall (A : Option Addr) (c : Nat) (A' : Option Addr) (c' : Nat) (f : Fo) (W : World) : Prop :=
  Calls Tryz.prog 66 #[.slice A f.len c, .slice A' f.len c'] W fun e w' => e = .returned (.bool true) ∧ Below W.heap.size W w'
set_option maxHeartbeats 2000000 in
theorem keptNode_of {S S' : Nat → Prop} {k : Nat} {t : ByteArray} {n : Int} {A A' : Option Addr} {c c' : Nat} {ks : Fo} {w : World} (ho : FoIn S w A ks) (hl : FoIn S' w A' ks) (hlen : ks.len ≤ 9223372036854775807) (hk : ∀ W, Below w.heap.size w W → KeptCall A c A' c' ks W) :
    Calls Tryz.prog 126 #[.agg #[.int .u8 k, .string t, .int .i64 n, .slice A ks.len c], .agg #[.int .u8 k, .string t, .int .i64 n, .slice A' ks.len c']] w fun e w' => e = .returned (.bool true) ∧ Below w.heap.size w w' := by
  have Ho := hide ho
  have Hl := hide hl
  have Hk := hide hk
  clear ho hl hk
  go_enter Tryz.func126, Tryz.ntmps126
  go_wp2_with (first
    | (go_at_call 125; (with_reducible refine (sameNode_yes (Ho.out.below (below2 _ _)) (Hl.out.below (below2 _ _)) hlen).mono ?_); rintro e1 w1 ⟨rfl, hB⟩; have hx := (hB.cell (p := ⟨w.heap.size, 3, none⟩) (by simp; omega)).trans (World.cell?_alloc2_first ..); have hy := (hB.cell (p := ⟨w.heap.size + 1, 3, none⟩) (by simp)).trans (World.cell?_alloc2_new ..); simp only [List.getElem?_toArray, List.getElem?_cons_zero, List.getElem?_cons_succ] at hx hy; have HB1 := hide (blw_up (below2 _ _) hB); have hs1 := HB1.out.size; clear hB)
    | (go_at_call 66; (with_reducible refine (Hk.out _ HB1.out).mono ?_); rintro e2 w2 ⟨rfl, hB⟩; have HB2 := hide (HB1.out.trans (hB.mono hs1)); clear hB))
  go_ret
  exact ⟨rfl, HB2.out⟩

set_option maxRecDepth 100000 in
set_option maxHeartbeats 8000000 in
theorem keptNodes_upto (N : Nat) : ∀ (S S' : Nat → Prop) (A A' : Option Addr) (c c' : Nat) (f : Fo) (w : World), f.cnt < N → LentFo S w A c f → FoIn S' w A' f → KeptCall A c A' c' f w := by
  induction N with
  | zero => intro _ _ _ _ _ _ _ _ h; omega
  | succ N ih =>
    intro S S' A A' c c' f w hN ho hl
    have Hih := hide ih
    have HN := hide hN
    have Ho := hide ho
    have Hl := hide hl
    have hcap : f.len + 12 ≤ c ∧ c ≤ 9223372036854775807 := by obtain ⟨_, _, _, h1, h2, _⟩ := ho; exact ⟨h1, h2⟩
    obtain ⟨g, rfl⟩ : ∃ g, A = some ⟨g, 0, none⟩ := by obtain ⟨g, e, _⟩ := ho; exact ⟨g, e⟩
    have hd : ((f.len : Int) != (f.len : Int)) = false := by simp
    clear ih hN ho hl
    show Calls Tryz.prog 66 #[.slice (some ⟨g, 0, none⟩) f.len c, .slice A' f.len c'] w fun e w' => e = .returned (.bool true) ∧ Below w.heap.size w w'
    go_enter Tryz.func66, Tryz.ntmps66
    go_wp2_with fail
    go_loopw [6] (fun i wr => ∃ q : Nat, q ≤ f.len + 12 ∧ i = .int .i64 q ∧ Hid (Below w.heap.size w wr)) (fun i _ => f.len + 12 - (intOf i).toNat)
    case atStart => exact ⟨0, by omega, rfl, hide (Below.refl _ _)⟩
    case round =>
      obtain ⟨q, hq, rfl, HB⟩ := hrel
      by_cases hlt : q < f.len + 12
      · obtain ⟨g', e1, _, _, _, hat⟩ := Ho.out.below HB.out
        injection e1 with e1
        injection e1 with e1
        subst e1
        by_cases hin : q < f.len
        · obtain ⟨b, o, KA, kc, k, t, n, ks, r, rfl, hdr, c0, c1, c2, c3, e1, e2, e3, e4, e5, hks, hcn⟩ := (Hl.out.below HB.out).at_ hin
          obtain ⟨g2, kc2, d0, d1, d2, d3, hL⟩ := hat.node_at hdr
          have hgb := block_lt_of_cell d0
          have hbb := block_lt_of_cell c0
          simp only [Nat.zero_add] at d0 d1 d2 d3
          have hR : Hid (∀ W, Below wr.heap.size wr W → Calls Tryz.prog 126 #[.agg #[.int .u8 k, .string t, .int .i64 n, .slice (some ⟨g2, 0, none⟩) ks.len kc2], .agg #[.int .u8 k, .string t, .int .i64 n, .slice KA ks.len kc]] W fun e w' => e = .returned (.bool true) ∧ Below W.heap.size W w') :=
            hide fun W hW => keptNode_of (hL.below hW).fo.1 (hks.below hW) (by omega) (fun W2 hW2 => Hih.out S S' _ KA kc2 kc ks W2 (by have := HN.out; omega) ((hL.below hW).below hW2) ((hks.below hW).below hW2))
          clear hL hks hat hdr hcn
          have g1 : decide ((q : Int) < (f.len : Int)) = true := by simp; omega
          have g2 : decide ((f.len : Int) ≤ (q : Int)) = false := by simp; omega
          have g3 : decide (q < f.len) = true := by simp; omega
          have g4 : decide (f.len ≤ q) = false := by simp; omega
          go_wp2_with fail
          have hd1 : Below wr.heap.size wr wr.drew := blw_drewN (Below.refl _ _) 1
          refine wp_region_held_drew (S := Below wr.heap.size wr) (by kernel_rfl) hd1 (fun hHeld => ?_)
          generalize wr.drew = wD at hHeld ⊢
          refine tk (v := ?_) 0 hHeld ?_ ?_
          rotate_left
          · intro w' hSw
            first | (go_simp; done) | (go_simp; with_reducible rfl)
          try simp only [List.set_cons_zero, List.set_cons_succ]
          refine tk (v := ?_) 1 hHeld ?_ ?_
          rotate_left
          · intro w' hSw
            first | (go_simp; done) | (go_simp; with_reducible rfl)
          try simp only [List.set_cons_zero, List.set_cons_succ]
          refine tk (v := ?_) 2 hHeld ?_ ?_
          rotate_left
          · intro w' hSw
            first | (go_simp; done) | (go_simp; with_reducible rfl)
          try simp only [List.set_cons_zero, List.set_cons_succ]
          refine tk (v := ?_) 3 hHeld ?_ ?_
          rotate_left
          · intro w' hSw
            first | (go_simp; done) | (go_simp; with_reducible rfl)
          try simp only [List.set_cons_zero, List.set_cons_succ]
          refine tk (v := ?_) 4 hHeld ?_ ?_
          rotate_left
          · intro w' hSw
            first | (go_simp; done) | (go_simp; with_reducible rfl)
          try simp only [List.set_cons_zero, List.set_cons_succ]
          refine tk (v := ?_) 5 hHeld ?_ ?_
          rotate_left
          · intro w' hSw
            first | (go_simp; done) | (go_simp; with_reducible rfl)
          try simp only [List.set_cons_zero, List.set_cons_succ]
          refine tk (v := ?_) 6 hHeld ?_ ?_
          rotate_left
          · intro w' hSw
            first | (go_simp; done) | (go_simp; with_reducible rfl)
          try simp only [List.set_cons_zero, List.set_cons_succ]
          refine tk (v := ?_) 7 hHeld ?_ ?_
          rotate_left
          · intro w' hSw
            first | (go_simp; done) | (go_simp; with_reducible rfl)
          try simp only [List.set_cons_zero, List.set_cons_succ]
          refine tk (v := ?_) 8 hHeld ?_ ?_
          rotate_left
          · intro w' hSw
            have d0' := (hSw.cell (p := ⟨g, _, none⟩) hgb).trans d0
            have d1' := (hSw.cell (p := ⟨g, _, none⟩) hgb).trans d1
            have d2' := (hSw.cell (p := ⟨g, _, none⟩) hgb).trans d2
            have d3' := (hSw.cell (p := ⟨g, _, none⟩) hgb).trans d3
            first | (go_simp; done) | (go_simp; with_reducible rfl)
          try simp only [List.set_cons_zero, List.set_cons_succ]
          refine tk (v := ?_) 9 hHeld ?_ ?_
          rotate_left
          · intro w' hSw
            first | (go_simp; done) | (go_simp; with_reducible rfl)
          try simp only [List.set_cons_zero, List.set_cons_succ]
          refine tk (v := ?_) 10 hHeld ?_ ?_
          rotate_left
          · intro w' hSw
            first | (go_simp; done) | (go_simp; with_reducible rfl)
          try simp only [List.set_cons_zero, List.set_cons_succ]
          refine tk (v := ?_) 11 hHeld ?_ ?_
          rotate_left
          · intro w' hSw
            first | (go_simp; done) | (go_simp; with_reducible rfl)
          try simp only [List.set_cons_zero, List.set_cons_succ]
          refine tk (v := ?_) 12 hHeld ?_ ?_
          rotate_left
          · intro w' hSw
            have c0' := (hSw.cell (p := ⟨b, _, none⟩) hbb).trans c0
            have c1' := (hSw.cell (p := ⟨b, _, none⟩) hbb).trans c1
            have c2' := (hSw.cell (p := ⟨b, _, none⟩) hbb).trans c2
            have c3' := (hSw.cell (p := ⟨b, _, none⟩) hbb).trans c3
            first | (go_simp; done) | (go_simp; with_reducible rfl)
          try simp only [List.set_cons_zero, List.set_cons_succ]
          refine wpAnyH_ready (rs := [13]) (by kernel_rfl) (by simp) ?_
          refine AllReadyH.cons rfl (fun K hK => ?_) AllReadyH.nil
          go_simp
          go_wp2_with (go_at_call 126; (with_reducible refine (hR.out _ hHeld).mono ?_); rintro e1 w1 ⟨rfl, hB1⟩)
          have hH2 := hHeld.trans (hB1.mono hHeld.size)
          refine hK.out _ _ hH2 (fun _ => ?_)
          clear hK K
          try simp only [Act.put, List.getElem_toArray, List.getElem_cons_zero, List.getElem_cons_succ, List.setIfInBounds_toArray, List.set_cons_zero, List.set_cons_succ]
          refine tk (v := ?_) 14 hH2 ?_ ?_
          rotate_left
          · intro w' hSw
            first | (go_simp; done) | (go_simp; with_reducible rfl)
          try simp only [List.set_cons_zero, List.set_cons_succ]
          refine tk (v := ?_) 15 hH2 ?_ ?_
          rotate_left
          · intro w' hSw
            first | (go_simp; done) | (go_simp; with_reducible rfl)
          try simp only [List.set_cons_zero, List.set_cons_succ]
          refine tk (v := ?_) 16 hH2 ?_ ?_
          rotate_left
          · intro w' hSw
            first | (go_simp; done) | (go_simp; with_reducible rfl)
          try simp only [List.set_cons_zero, List.set_cons_succ]
          refine tk (v := ?_) 17 hH2 ?_ ?_
          rotate_left
          · intro w' hSw
            first | (go_simp; done) | (go_simp; with_reducible rfl)
          try simp only [List.set_cons_zero, List.set_cons_succ]
          refine tk (v := ?_) 18 hH2 ?_ ?_
          rotate_left
          · intro w' hSw
            first | (go_simp; done) | (go_simp; with_reducible rfl)
          try simp only [List.set_cons_zero, List.set_cons_succ]
          refine tk (v := ?_) 19 hH2 ?_ ?_
          rotate_left
          · intro w' hSw
            first | (go_simp; done) | (go_simp; with_reducible rfl)
          try simp only [List.set_cons_zero, List.set_cons_succ]
          refine tk (v := ?_) 20 hH2 ?_ ?_
          rotate_left
          · intro w' hSw
            first | (go_simp; done) | (go_simp; with_reducible rfl)
          try simp only [List.set_cons_zero, List.set_cons_succ]
          refine tk (v := ?_) 21 hH2 ?_ ?_
          rotate_left
          · intro w' hSw
            first | (go_simp; done) | (go_simp; with_reducible rfl)
          try simp only [List.set_cons_zero, List.set_cons_succ]
          refine tn 22 hH2 ?_
          try simp only [List.set_cons_zero, List.set_cons_succ]
          refine tn 23 hH2 ?_
          try simp only [List.set_cons_zero, List.set_cons_succ]
          refine tn 24 hH2 ?_
          try simp only [List.set_cons_zero, List.set_cons_succ]
          refine tn 25 hH2 ?_
          try simp only [List.set_cons_zero, List.set_cons_succ]
          refine tn 26 hH2 ?_
          try simp only [List.set_cons_zero, List.set_cons_succ]
          refine tn 27 hH2 ?_
          try simp only [List.set_cons_zero, List.set_cons_succ]
          refine tn 28 hH2 ?_
          try simp only [List.set_cons_zero, List.set_cons_succ]
          refine tn 29 hH2 ?_
          try simp only [List.set_cons_zero, List.set_cons_succ]
          refine tn 30 hH2 ?_
          try simp only [List.set_cons_zero, List.set_cons_succ]
          refine tn 31 hH2 ?_
          try simp only [List.set_cons_zero, List.set_cons_succ]
          refine tn 32 hH2 ?_
          try simp only [List.set_cons_zero, List.set_cons_succ]
          refine tk (v := ?_) 33 hH2 ?_ ?_
          rotate_left
          · intro w' hSw
            first | (go_simp; done) | (go_simp; with_reducible rfl)
          try simp only [List.set_cons_zero, List.set_cons_succ]
          refine tk (v := ?_) 34 hH2 ?_ ?_
          rotate_left
          · intro w' hSw
            first | (go_simp; done) | (go_simp; with_reducible rfl)
          try simp only [List.set_cons_zero, List.set_cons_succ]
          have HB4 : Hid (Below w.heap.size w _) := hide (blw_up HB.out hH2)
          refine wpAnyH_done (by kernel_rfl) ?_ _
          try simp only [Act.put, List.getElem_toArray, List.getElem_cons_zero, List.getElem_cons_succ, List.setIfInBounds_toArray, List.set_cons_zero, List.set_cons_succ]
          go_wp2_with fail
          go_roundw
          case rel => exact ⟨q + 1, by omega, by go_num, HB4⟩
          case measure => simp [intOf]; omega
        · obtain ⟨d0, d1, d2, d3⟩ := hat.mark_at (i := q - f.len) (by omega)
          have hgb := block_lt_of_cell d0
          have hqe : f.len + (q - f.len) = q := by omega
          have hmk : markN (q - f.len) = 8000024 + ((q : Int) - (f.len : Int)) := by unfold markN; omega
          rw [hqe] at d0 d1 d2 d3
          rw [hmk] at d2
          simp only [Nat.zero_add] at d0 d1 d2 d3
          clear hat hqe hmk
          have g1 : decide ((q : Int) < (f.len : Int)) = false := by simp; omega
          have g2 : decide ((f.len : Int) ≤ (q : Int)) = true := by simp; omega
          have g3 : decide (q < f.len) = false := by simp; omega
          have g4 : decide (f.len ≤ q) = true := by simp; omega
          have hr12 : (0 : Int) ≤ (q : Int) - (f.len : Int) ∧ (q : Int) - (f.len : Int) < 12 := by omega
          have hw64 : IntKind.i64.wrap ((q : Int) - (f.len : Int)) = (q : Int) - (f.len : Int) := by rw [IntKind.wrap_i64]; omega
          go_wp2_with fail
          have hd1 : Below wr.heap.size wr wr.drew := blw_drewN (Below.refl _ _) 1
          refine wp_region_held_drew (S := Below wr.heap.size wr) (by kernel_rfl) hd1 (fun hHeld => ?_)
          generalize wr.drew = wD at hHeld ⊢
          refine tk (v := ?_) 0 hHeld ?_ ?_
          rotate_left
          · intro w' hSw
            first | (go_simp; done) | (go_simp; with_reducible rfl)
          try simp only [List.set_cons_zero, List.set_cons_succ]
          refine tk (v := ?_) 1 hHeld ?_ ?_
          rotate_left
          · intro w' hSw
            first | (go_simp; done) | (go_simp; with_reducible rfl)
          try simp only [List.set_cons_zero, List.set_cons_succ]
          refine tk (v := ?_) 2 hHeld ?_ ?_
          rotate_left
          · intro w' hSw
            first | (go_simp; done) | (go_simp; with_reducible rfl)
          try simp only [List.set_cons_zero, List.set_cons_succ]
          refine tk (v := ?_) 3 hHeld ?_ ?_
          rotate_left
          · intro w' hSw
            first | (go_simp; done) | (go_simp; with_reducible rfl)
          try simp only [List.set_cons_zero, List.set_cons_succ]
          refine tk (v := ?_) 4 hHeld ?_ ?_
          rotate_left
          · intro w' hSw
            first | (go_simp; done) | (go_simp; with_reducible rfl)
          try simp only [List.set_cons_zero, List.set_cons_succ]
          refine tn 5 hHeld ?_
          try simp only [List.set_cons_zero, List.set_cons_succ]
          refine tn 6 hHeld ?_
          try simp only [List.set_cons_zero, List.set_cons_succ]
          refine tn 7 hHeld ?_
          try simp only [List.set_cons_zero, List.set_cons_succ]
          refine tn 8 hHeld ?_
          try simp only [List.set_cons_zero, List.set_cons_succ]
          refine tn 9 hHeld ?_
          try simp only [List.set_cons_zero, List.set_cons_succ]
          refine tn 10 hHeld ?_
          try simp only [List.set_cons_zero, List.set_cons_succ]
          refine tn 11 hHeld ?_
          try simp only [List.set_cons_zero, List.set_cons_succ]
          refine tn 12 hHeld ?_
          try simp only [List.set_cons_zero, List.set_cons_succ]
          refine tn 13 hHeld ?_
          try simp only [List.set_cons_zero, List.set_cons_succ]
          refine tn 14 hHeld ?_
          try simp only [List.set_cons_zero, List.set_cons_succ]
          refine tk (v := ?_) 15 hHeld ?_ ?_
          rotate_left
          · intro w' hSw
            first | (go_simp; done) | (go_simp; with_reducible rfl)
          try simp only [List.set_cons_zero, List.set_cons_succ]
          refine tk (v := ?_) 16 hHeld ?_ ?_
          rotate_left
          · intro w' hSw
            first | (go_simp; done) | (go_simp; with_reducible rfl)
          try simp only [List.set_cons_zero, List.set_cons_succ]
          refine tk (v := ?_) 17 hHeld ?_ ?_
          rotate_left
          · intro w' hSw
            first | (go_simp; done) | (go_simp; with_reducible rfl)
          try simp only [List.set_cons_zero, List.set_cons_succ]
          refine tk (v := ?_) 18 hHeld ?_ ?_
          rotate_left
          · intro w' hSw
            first | (go_simp; done) | (go_simp; with_reducible rfl)
          try simp only [List.set_cons_zero, List.set_cons_succ]
          refine tk (v := ?_) 19 hHeld ?_ ?_
          rotate_left
          · intro w' hSw
            first | (go_simp; done) | (go_simp; with_reducible rfl)
          try simp only [List.set_cons_zero, List.set_cons_succ]
          refine tk (v := ?_) 20 hHeld ?_ ?_
          rotate_left
          · intro w' hSw
            first | (go_simp; done) | (go_simp; with_reducible rfl)
          try simp only [List.set_cons_zero, List.set_cons_succ]
          refine tk (v := ?_) 21 hHeld ?_ ?_
          rotate_left
          · intro w' hSw
            first | (go_simp; done) | (go_simp; with_reducible rfl)
          try simp only [List.set_cons_zero, List.set_cons_succ]
          refine tk (v := ?_) 22 hHeld ?_ ?_
          rotate_left
          · intro w' hSw
            first | (go_simp; done) | (go_simp; with_reducible rfl)
          try simp only [List.set_cons_zero, List.set_cons_succ]
          refine tk (v := ?_) 23 hHeld ?_ ?_
          rotate_left
          · intro w' hSw
            first | (go_simp; done) | (go_simp; with_reducible rfl)
          try simp only [List.set_cons_zero, List.set_cons_succ]
          refine tk (v := ?_) 24 hHeld ?_ ?_
          rotate_left
          · intro w' hSw
            first | (go_simp; done) | (go_simp; with_reducible rfl)
          try simp only [List.set_cons_zero, List.set_cons_succ]
          refine tk (v := ?_) 25 hHeld ?_ ?_
          rotate_left
          · intro w' hSw
            have d0' := (hSw.cell (p := ⟨g, _, none⟩) hgb).trans d0
            have d1' := (hSw.cell (p := ⟨g, _, none⟩) hgb).trans d1
            have d2' := (hSw.cell (p := ⟨g, _, none⟩) hgb).trans d2
            have d3' := (hSw.cell (p := ⟨g, _, none⟩) hgb).trans d3
            first | (go_simp; done) | (go_simp; with_reducible rfl)
          try simp only [List.set_cons_zero, List.set_cons_succ]
          refine tk (v := ?_) 26 hHeld ?_ ?_
          rotate_left
          · intro w' hSw
            first | (go_simp; done) | (go_simp; with_reducible rfl)
          try simp only [List.set_cons_zero, List.set_cons_succ]
          refine tk (v := ?_) 27 hHeld ?_ ?_
          rotate_left
          · intro w' hSw
            first | (go_simp; done) | (go_simp; with_reducible rfl)
          try simp only [List.set_cons_zero, List.set_cons_succ]
          refine tk (v := ?_) 28 hHeld ?_ ?_
          rotate_left
          · intro w' hSw
            first | (go_simp; done) | (go_simp; with_reducible rfl)
          try simp only [List.set_cons_zero, List.set_cons_succ]
          refine tk (v := ?_) 29 hHeld ?_ ?_
          rotate_left
          · intro w' hSw
            first | (go_simp; done) | (go_simp; with_reducible rfl)
          try simp only [List.set_cons_zero, List.set_cons_succ]
          refine wpAnyH_ready (rs := [30]) (by kernel_rfl) (by simp) ?_
          refine AllReadyH.cons rfl (fun K hK => ?_) AllReadyH.nil
          go_simp
          go_wp2_with (go_at_call 106; (with_reducible refine (markNode_any hr12 _).mono ?_); rintro e1 w1 ⟨rfl, hB1⟩)
          have hH2 := hHeld.trans (hB1.mono hHeld.size)
          refine hK.out _ _ hH2 (fun _ => ?_)
          clear hK K
          try simp only [Act.put, List.getElem_toArray, List.getElem_cons_zero, List.getElem_cons_succ, List.setIfInBounds_toArray, List.set_cons_zero, List.set_cons_succ]
          refine wpAnyH_ready (rs := [31]) (by kernel_rfl) (by simp) ?_
          refine AllReadyH.cons rfl (fun K hK => ?_) AllReadyH.nil
          go_simp
          go_wp2_with (go_at_call 125; (with_reducible refine (sameMark_yes _ _).mono ?_); rintro e2 w2 ⟨rfl, hB2⟩)
          have hH3 := hH2.trans (hB2.mono hH2.size)
          refine hK.out _ _ hH3 (fun _ => ?_)
          clear hK K
          try simp only [Act.put, List.getElem_toArray, List.getElem_cons_zero, List.getElem_cons_succ, List.setIfInBounds_toArray, List.set_cons_zero, List.set_cons_succ]
          refine tk (v := ?_) 32 hH3 ?_ ?_
          rotate_left
          · intro w' hSw
            first | (go_simp; done) | (go_simp; with_reducible rfl)
          try simp only [List.set_cons_zero, List.set_cons_succ]
          refine tk (v := ?_) 33 hH3 ?_ ?_
          rotate_left
          · intro w' hSw
            first | (go_simp; done) | (go_simp; with_reducible rfl)
          try simp only [List.set_cons_zero, List.set_cons_succ]
          refine tk (v := ?_) 34 hH3 ?_ ?_
          rotate_left
          · intro w' hSw
            first | (go_simp; done) | (go_simp; with_reducible rfl)
          try simp only [List.set_cons_zero, List.set_cons_succ]
          have HB4 : Hid (Below w.heap.size w _) := hide (blw_up HB.out hH3)
          refine wpAnyH_done (by kernel_rfl) ?_ _
          try simp only [Act.put, List.getElem_toArray, List.getElem_cons_zero, List.getElem_cons_succ, List.setIfInBounds_toArray, List.set_cons_zero, List.set_cons_succ]
          go_wp2_with fail
          go_roundw
          case rel => exact ⟨q + 1, by omega, by go_num, HB4⟩
          case measure => simp [intOf]; omega
      · go_wp2_with fail
        go_ret
        exact ⟨rfl, HB.out⟩
theorem keptNodes_any {S S' : Nat → Prop} {A A' : Option Addr} {c c' : Nat} {f : Fo} {w : World} (ho : LentFo S w A c f) (hl : FoIn S' w A' f) : KeptCall A c A' c' f w := keptNodes_upto (f.cnt + 1) S S' A A' c c' f w (Nat.lt_succ_self _) ho hl

end Go.Proofs.YtfhfkbdaglegpaaGreatDoor
