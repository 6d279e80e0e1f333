/- A node copied. Printed by gen_inv.py. -/
import Derived.Deep.RegionWith
import Derived.Laws.IdiomCopy
import Derived.Deep.RegionHeld
import Derived.Test.YtpocmfilpecfdaaGreatDoorRKeep
import Derived.Test.YtpocmfilpecfdaaGreatDoorREdBase
import Derived.Test.YtpocmfilpecfdaaGreatDoorRBase
import Derived.Test.YtpocmfilpecfdaaGreatDoorRPatRight

set_option linter.unusedVariables false
set_option linter.unusedSimpArgs false

namespace Go.Proofs.YtpocmfilpecfdaaGreatDoor
open Go.RowKit

/-- what a call of copied does -/
def Copied (S : Nat → Prop) (k : Nat) (t : ByteArray) (n : Int) (ks : Fo) (w : World) (e : Ending) (w' : World) : Prop :=
  ∃ KA c, e = .returned (.agg #[.int .u8 k, .string t, .int .i64 n, .slice KA ks.len c]) ∧ FoIn S w' KA ks ∧ ks.len ≤ c ∧ c ≤ 9223372036854775807 ∧ Below w.heap.size w w'
theorem own_top {w : World} {e : TypeId} {n : Nat} {v : Value} {vs : List Value} (h : w.ownsRow 0 e 4 v n vs) (hn : 0 < n) :
    ∃ R cap, v = .slice (some ⟨R, 0, none⟩) n cap ∧ (∀ j u, vs[j]? = some u → w.cell? ⟨R, 0 + j, none⟩ = some u) ∧ (∀ o, w.frozen? ⟨R, o, none⟩ = false) ∧ n ≤ cap ∧ cap ≤ 9223372036854775807 ∧ R < w.heap.size := by
  rcases h.2 with ⟨rfl, h0⟩ | ⟨g, cap, cur, rfl, hb, hgg, hnc, hcm, _⟩
  · omega
  · refine ⟨g, cap, rfl, fun j u hu => ?_, fun o => ?_, hnc, by unfold maxLen at hcm; omega, (Array.getElem?_eq_some_iff.mp hgg).1⟩
    · have := h.cells (g := g) rfl j u hu
      rwa [Addr.add_lit] at this
    · unfold World.frozen?
      rw [hgg]
      simp
theorem own_cap {w : World} {e : TypeId} {n : Nat} {v : Value} {vs : List Value} (h : w.ownsRow 0 e 4 v n vs) : ∃ A c, v = .slice A n c ∧ True ∧ n ≤ c ∧ c ≤ 9223372036854775807 := by
  rcases h.2 with ⟨rfl, h0⟩ | ⟨g, cap, cur, rfl, _, _, hnc, hcm, _⟩
  · have : n = 0 := by omega
    subst this
    exact ⟨none, 0, rfl, trivial, Nat.le_refl _, by omega⟩
  · exact ⟨_, _, rfl, trivial, hnc, by unfold maxLen at hcm; omega⟩
theorem fo_len0 {f : Fo} (h : f.len = 0) : f = .nil := by
  cases f with
  | nil => rfl
  | cons => simp [Fo.len] at h
theorem foB_len8 (f : Fo) : 8 * f.len ≤ (foB f).length := foB_len f

theorem heap4 (w : World) (R a b c d : Nat) (x y z u : Value) {k : Nat} (hk : k ≠ R) : ((((w.setCell ⟨R, a, none⟩ x).setCell ⟨R, b, none⟩ y).setCell ⟨R, c, none⟩ z).setCell ⟨R, d, none⟩ u).heap[k]? = w.heap[k]? := by
  rw [Below.heap_setCell _ _ _ k hk, Below.heap_setCell _ _ _ k hk, Below.heap_setCell _ _ _ k hk, Below.heap_setCell _ _ _ k hk]
theorem frozen4 (w : World) (R a b c d : Nat) (x y z u : Value) (q : Addr) : ((((w.setCell ⟨R, a, none⟩ x).setCell ⟨R, b, none⟩ y).setCell ⟨R, c, none⟩ z).setCell ⟨R, d, none⟩ u).frozen? q = w.frozen? q := by
  rw [World.frozen?_setCell, World.frozen?_setCell, World.frozen?_setCell, World.frozen?_setCell]
theorem other4 (w : World) (R p q : Nat) (x y z u : Value) (hq : q < p ∨ p + 4 ≤ q) : ((((w.setCell ⟨R, p, none⟩ x).setCell ⟨R, p + 1, none⟩ y).setCell ⟨R, p + 2, none⟩ z).setCell ⟨R, p + 3, none⟩ u).cell? ⟨R, q, none⟩ = w.cell? ⟨R, q, none⟩ := by
  rw [World.cell?_setCell_other _ _ _ _ (by simp <;> omega), World.cell?_setCell_other _ _ _ _ (by simp <;> omega), World.cell?_setCell_other _ _ _ _ (by simp <;> omega), World.cell?_setCell_other _ _ _ _ (by simp <;> omega)]
theorem same4 {w : World} {R p : Nat} {x y z u a b c d : Value} (h0 : w.cell? ⟨R, p, none⟩ = some a) (h1 : w.cell? ⟨R, p + 1, none⟩ = some b) (h2 : w.cell? ⟨R, p + 2, none⟩ = some c) (h3 : w.cell? ⟨R, p + 3, none⟩ = some d) :
    ((((w.setCell ⟨R, p, none⟩ x).setCell ⟨R, p + 1, none⟩ y).setCell ⟨R, p + 2, none⟩ z).setCell ⟨R, p + 3, none⟩ u).cell? ⟨R, p, none⟩ = some x ∧
    ((((w.setCell ⟨R, p, none⟩ x).setCell ⟨R, p + 1, none⟩ y).setCell ⟨R, p + 2, none⟩ z).setCell ⟨R, p + 3, none⟩ u).cell? ⟨R, p + 1, none⟩ = some y ∧
    ((((w.setCell ⟨R, p, none⟩ x).setCell ⟨R, p + 1, none⟩ y).setCell ⟨R, p + 2, none⟩ z).setCell ⟨R, p + 3, none⟩ u).cell? ⟨R, p + 2, none⟩ = some z ∧
    ((((w.setCell ⟨R, p, none⟩ x).setCell ⟨R, p + 1, none⟩ y).setCell ⟨R, p + 2, none⟩ z).setCell ⟨R, p + 3, none⟩ u).cell? ⟨R, p + 3, none⟩ = some u := by
  refine ⟨?_, ?_, ?_, ?_⟩
  · rw [World.cell?_setCell_other _ _ _ _ (by simp), World.cell?_setCell_other _ _ _ _ (by simp), World.cell?_setCell_other _ _ _ _ (by simp)]
    exact World.cell?_setCell_same _ _ _ h0
  · rw [World.cell?_setCell_other _ _ _ _ (by simp), World.cell?_setCell_other _ _ _ _ (by simp)]
    exact World.cell?_setCell_same _ _ _ ((World.cell?_setCell_other _ _ _ _ (by simp)).trans h1)
  · rw [World.cell?_setCell_other _ _ _ _ (by simp)]
    exact World.cell?_setCell_same _ _ _ ((World.cell?_setCell_other _ _ _ _ (by simp)).trans ((World.cell?_setCell_other _ _ _ _ (by simp)).trans h2))
  · exact World.cell?_setCell_same _ _ _ ((World.cell?_setCell_other _ _ _ _ (by simp)).trans ((World.cell?_setCell_other _ _ _ _ (by simp)).trans ((World.cell?_setCell_other _ _ _ _ (by simp)).trans h3)))
theorem FoIn.keep2 {S : Nat → Prop} {w w' : World} {A : Option Addr} {f : Fo} (h : FoIn S w A f) (hk : ∀ b, S b → w'.heap[b]? = w.heap[b]?) : FoIn S w' A f := h.keep hk
theorem TopIn.put4 {S : Nat → Prop} {w : World} {R o i p k : Nat} {t : ByteArray} {n : Int} {ks r f : Fo} {KA : Option Addr} {c : Nat} (h : TopIn S w R o f) (hd : f.drop i = .cons k t n ks r) (hi : i < f.len) (hS : ∀ b, S b → b ≠ R)
    (h4 : ks.len ≤ c) (h5 : c ≤ 9223372036854775807) (h6 : FoIn S w KA ks) (hp : p = o + i * 4) :
    TopIn S ((((w.setCell ⟨R, p, none⟩ (.int .u8 k)).setCell ⟨R, p + 1, none⟩ (.string t)).setCell ⟨R, p + 2, none⟩ (.int .i64 n)).setCell ⟨R, p + 3, none⟩ (.slice KA ks.len c)) R o f := by
  subst hp
  obtain ⟨KA', c', k', t', n', kk, r', hd', d0, d1, d2, d3, _⟩ := h.at_ hi
  obtain ⟨s0, s1, s2, s3⟩ := same4 (x := .int .u8 k) (y := .string t) (z := .int .i64 n) (u := .slice KA ks.len c) d0 d1 d2 d3
  exact h.set (fun b hb _ => heap4 w R _ _ _ _ _ _ _ _ (hS b hb)) h4 h5 (h6.keep fun b hb => heap4 w R _ _ _ _ _ _ _ _ (hS b hb)) hd (fun q hq => other4 w R _ q _ _ _ _ hq) s0 s1 s2 s3

set_option maxHeartbeats 4000000 in
set_option maxRecDepth 1000000 in
theorem copied_of {S : Nat → Prop} {k : Nat} {t : ByteArray} {n : Int} {ks : Fo} {KA : Option Addr} {c : Nat} {w : World}
    (ih : ∀ (S' : Nat → Prop) (w' : World) (KA' : Option Addr) (c' k' : Nat) (n' : Int) (t' : ByteArray) (ks' : Fo), ks'.cnt < ks.cnt → FoIn S' w' KA' ks' → ks'.len ≤ c' → c' ≤ 9223372036854775807 → (foB ks').length ≤ 549755813888 → (∀ b, w'.heap.size ≤ b → S' b) →
      Calls Tryz.prog 82 #[.agg #[.int .u8 k', .string t', .int .i64 n', .slice KA' ks'.len c']] w' (Copied S' k' t' n' ks' w'))
    (h : FoIn S w KA ks) (hc : ks.len ≤ c) (hc2 : c ≤ 9223372036854775807) (hb : (foB ks).length ≤ 549755813888) (hS : ∀ b, w.heap.size ≤ b → S b) :
    Calls Tryz.prog 82 #[.agg #[.int .u8 k, .string t, .int .i64 n, .slice KA ks.len c]] w (Copied S k t n ks w) := by
  have hlen : ks.len ≤ 549755813888 := by have := foB_len ks; omega
  obtain ⟨vs, hv1, hv2, hv3, hv4⟩ := h.row
  have Hih := hide ih
  have Hv1 := hide hv1
  have Hv2 := hide hv2
  have Hv3 := hide hv3
  have Hv4 := hide hv4
  have HS := hide hS
  clear ih h hv1 hv2 hv3 hv4 hS
  by_cases h0 : ks.len = 0
  · have hlt : decide ((0 : Int) < (ks.len : Int)) = false := by simp; omega
    have hlt2 : ¬ 0 < ks.len := by omega
    have H0 := hide h0
    clear h0
    go_enter Tryz.func82, Tryz.ntmps82
    go_wp2_with (go_at_call 95; (with_reducible refine (cloneNodes_any (xs := vs) (Hv2.out.below (below2 _ _)) Hv3.out Hv4.out hlen).mono ?_); rintro e1 w1 ⟨v, rfl, hown, hg, hB⟩; obtain ⟨A1, c1, rfl⟩ := own_shape hown; have Hown := hide hown; have HB1 : Hid (Below w.heap.size w w1) := hide (blw_up2 hB); obtain ⟨hx1, hf1, hz1⟩ := bbox (N := w.heap.size) hB (by simp <;> omega); obtain ⟨hy1, hg1, hu1⟩ := bbox (N := w.heap.size + 1) hB (by simp); clear hB hown hg)
    have HWB : Hid (Below w.heap.size w (w1.setCell ⟨w.heap.size, 3, none⟩ (.slice A1 ks.len c1))) := hide (HB1.out.setCell (by simp) _)
    have hoth : ∀ b o, ¬ (b = w.heap.size ∧ o = 3) → (w1.setCell ⟨w.heap.size, 3, none⟩ (.slice A1 ks.len c1)).cell? ⟨b, o, none⟩ = w1.cell? ⟨b, o, none⟩ := fun b o h => World.cell?_setCell_other _ _ _ _ (fun e => h (by injection e with e1 e2; exact ⟨e1.symm, e2.symm⟩))
    have hb0 := (hoth w.heap.size 0 (by omega)).trans ((hx1 0).trans (World.cell?_alloc2_first _ _ _ _))
    have hb1 := (hoth w.heap.size 1 (by omega)).trans ((hx1 1).trans (World.cell?_alloc2_first _ _ _ _))
    have hb2 := (hoth w.heap.size 2 (by omega)).trans ((hx1 2).trans (World.cell?_alloc2_first _ _ _ _))
    have hbx : (w1.setCell ⟨w.heap.size, 3, none⟩ (.slice A1 ks.len c1)).cell? ⟨w.heap.size, 3, none⟩ = some (.slice A1 ks.len c1) := World.cell?_setCell_same (u := .slice KA ks.len c) _ _ _ ((hx1 3).trans (World.cell?_alloc2_first _ _ _ _))
    have hr0 := (hoth (w.heap.size + 1) 0 (by omega)).trans ((hy1 0).trans (World.cell?_alloc2_new _ _ _ _))
    have hr1 := (hoth (w.heap.size + 1) 1 (by omega)).trans ((hy1 1).trans (World.cell?_alloc2_new _ _ _ _))
    have hr2 := (hoth (w.heap.size + 1) 2 (by omega)).trans ((hy1 2).trans (World.cell?_alloc2_new _ _ _ _))
    have hr3 := (hoth (w.heap.size + 1) 3 (by omega)).trans ((hy1 3).trans (World.cell?_alloc2_new _ _ _ _))
    have hrf : ∀ o, (w1.setCell ⟨w.heap.size, 3, none⟩ (.slice A1 ks.len c1)).frozen? ⟨w.heap.size + 1, o, none⟩ = false := fun o => (World.frozen?_setCell _ _ _ _).trans ((hg1 o).trans (World.frozen?_alloc2_new _ _ _ _))
    simp only [List.getElem?_toArray, List.getElem?_cons_zero, List.getElem?_cons_succ] at hb0 hb1 hb2 hr0 hr1 hr2 hr3
    generalize hW : w1.setCell ⟨w.heap.size, 3, none⟩ (.slice A1 ks.len c1) = W1 at *
    have HW := hide hW
    clear hW
    go_loopw [11, 3] (fun i kk wr => i = .int .i64 0 ∧ wr = W1) (fun i _ _ => 0)
    case atStart => exact ⟨rfl, rfl⟩
    case round =>
      obtain ⟨rfl, rfl⟩ := hrel
      obtain ⟨s0, s1, s2, s3⟩ := same4 (x := .int .u8 k) (y := .string t) (z := .int .i64 n) (u := .slice A1 ks.len c1) hr0 hr1 hr2 hr3
      go_wp2_with fail
      refine bodyPost_ret (v := .agg #[.int .u8 k, .string t, .int .i64 n, .slice A1 ks.len c1]) ?_ rfl ?_
      · simp only [results, Tryz.results82]
        go_simp
      · obtain ⟨_, _, q1, _, q2, q3⟩ := own_cap Hown.out
        injection q1 with _ _ q4
        subst q4
        refine ⟨_, _, rfl, by rw [fo_len0 H0.out]; exact trivial, q2, q3, ?_⟩
        exact (((HWB.out.setCell (by simp) _).setCell (by simp) _).setCell (by simp) _).setCell (by simp) _
  · have hpos : 0 < ks.len := by omega
    clear h0
    go_enter Tryz.func82, Tryz.ntmps82
    go_wp2_with (go_at_call 95; (with_reducible refine (cloneNodes_any (xs := vs) (Hv2.out.below (below2 _ _)) Hv3.out Hv4.out hlen).mono ?_); rintro e1 w1 ⟨v, rfl, hown, hg, hB⟩; obtain ⟨R, cap, rfl, hcell, hfz, hcap, hcap2, hR⟩ := own_top hown hpos; have hRg := hg R rfl; have Hcell := hide hcell; have HB1 : Hid (Below w.heap.size w w1) := hide (blw_up2 hB); obtain ⟨hx1, hf1, hz1⟩ := bbox (N := w.heap.size) hB (by simp <;> omega); obtain ⟨hy1, hg1, hu1⟩ := bbox (N := w.heap.size + 1) hB (by simp); clear hB hown hg hcell)
    have hR2 : w.heap.size + 1 < R := by simp at hRg; omega
    have hr1 : R < w1.heap.size := hR
    have Htop : Hid (TopIn (fun b => S b ∧ b ≠ R ∧ b ≠ w.heap.size ∧ b ≠ w.heap.size + 1) (w1.setCell ⟨w.heap.size, 3, none⟩ (.slice (some ⟨R, 0, none⟩) ks.len cap)) R 0 ks) := by
      have hf : FoCells (fun b => S b ∧ b ≠ R ∧ b ≠ w.heap.size ∧ b ≠ w.heap.size + 1) w1 vs ks :=
        FoCells.keep (fun b hb _ => HB1.out.block b hb) (fun b hb h => ⟨h, by omega, by omega, by omega⟩) Hv1.out
      refine hide ((hf.top Hcell.out).keep (fun b hb _ => Below.heap_setCell w1 _ _ b hb.2.2.1) (fun q => World.cell?_of_block (a := ⟨R, q, none⟩) (Below.heap_setCell w1 _ _ R (fun e => by have e2 : R = w.heap.size := e; omega))))
    have hfz1 : ∀ o, (w1.setCell ⟨w.heap.size, 3, none⟩ (.slice (some ⟨R, 0, none⟩) ks.len cap)).frozen? ⟨R, o, none⟩ = false := fun o => (World.frozen?_of_block (a := ⟨R, o, none⟩) (Below.heap_setCell w1 _ _ R (fun e => by have e2 : R = w.heap.size := e; omega))).trans (hfz o)
    have hbx : (w1.setCell ⟨w.heap.size, 3, none⟩ (.slice (some ⟨R, 0, none⟩) ks.len cap)).cell? ⟨w.heap.size, 3, none⟩ = some (.slice (some ⟨R, 0, none⟩) ks.len cap) := World.cell?_setCell_same (u := .slice KA ks.len c) _ _ _ ((hx1 3).trans (by first | (simp; done) | (go_simp; done) | (rw [World.cell?_alloc_old (h := by simp), World.cell?_alloc_new]; rfl)))
    have Hfz1 := hide hfz1
    have HWB : Hid (Below w.heap.size w (w1.setCell ⟨w.heap.size, 3, none⟩ (.slice (some ⟨R, 0, none⟩) ks.len cap))) := hide (HB1.out.setCell (by simp) _)
    have hoth : ∀ b o, ¬ (b = w.heap.size ∧ o = 3) → (w1.setCell ⟨w.heap.size, 3, none⟩ (.slice (some ⟨R, 0, none⟩) ks.len cap)).cell? ⟨b, o, none⟩ = w1.cell? ⟨b, o, none⟩ := fun b o h => World.cell?_setCell_other _ _ _ _ (fun e => h (by injection e with e1 e2; exact ⟨e1.symm, e2.symm⟩))
    have hb0 := (hoth w.heap.size 0 (by omega)).trans ((hx1 0).trans (World.cell?_alloc2_first _ _ _ _))
    have hb1 := (hoth w.heap.size 1 (by omega)).trans ((hx1 1).trans (World.cell?_alloc2_first _ _ _ _))
    have hb2 := (hoth w.heap.size 2 (by omega)).trans ((hx1 2).trans (World.cell?_alloc2_first _ _ _ _))
    have hr0 := (hoth (w.heap.size + 1) 0 (by omega)).trans ((hy1 0).trans (World.cell?_alloc2_new _ _ _ _))
    have hr1 := (hoth (w.heap.size + 1) 1 (by omega)).trans ((hy1 1).trans (World.cell?_alloc2_new _ _ _ _))
    have hr2 := (hoth (w.heap.size + 1) 2 (by omega)).trans ((hy1 2).trans (World.cell?_alloc2_new _ _ _ _))
    have hr3 := (hoth (w.heap.size + 1) 3 (by omega)).trans ((hy1 3).trans (World.cell?_alloc2_new _ _ _ _))
    have hrf : ∀ o, (w1.setCell ⟨w.heap.size, 3, none⟩ (.slice (some ⟨R, 0, none⟩) ks.len cap)).frozen? ⟨w.heap.size + 1, o, none⟩ = false := fun o => (World.frozen?_setCell _ _ _ _).trans ((hg1 o).trans (World.frozen?_alloc2_new _ _ _ _))
    simp only [List.getElem?_toArray, List.getElem?_cons_zero, List.getElem?_cons_succ] at hb0 hb1 hb2 hr0 hr1 hr2 hr3
    have hws : (w1.setCell ⟨w.heap.size, 3, none⟩ (.slice (some ⟨R, 0, none⟩) ks.len cap)).heap.size = w1.heap.size := by simp [World.setCell]
    clear hfz1
    generalize hW : w1.setCell ⟨w.heap.size, 3, none⟩ (.slice (some ⟨R, 0, none⟩) ks.len cap) = W1 at *
    have HW := hide hW
    clear hW
    go_loopw [11, 3] (fun i kk wr => ∃ j : Nat, i = .int .i64 j ∧ j ≤ ks.len ∧ Hid (TopIn (fun b => S b ∧ b ≠ R ∧ b ≠ w.heap.size ∧ b ≠ w.heap.size + 1) wr R 0 ks) ∧ Hid (Keep (fun b => b < W1.heap.size ∧ b ≠ R) W1 wr) ∧ Hid (∀ o, wr.frozen? ⟨R, o, none⟩ = false)) (fun i _ _ => ks.len - (intOf i).toNat)
    case atStart => exact ⟨0, rfl, Nat.zero_le _, Htop, hide (Keep.refl _ _), Hfz1⟩
    case round =>
      obtain ⟨j, rfl, hj, HT, HK, HF⟩ := hrel
      obtain ⟨bx, bf⟩ := HK.out.box (N := w.heap.size) ⟨by omega, by omega⟩
      have hks := HK.out.size
      have bx3 := (bx 3).trans hbx
      have hF := HF.out
      by_cases hlt : j < ks.len
      · obtain ⟨KA', c', k', t', n', kk, r', hd, d0, d1, d2, d3, g1, g2, g3, g4, g5, g6, g7, g8⟩ := HT.out.at_ hlt
        simp only [Nat.zero_add] at d0 d1 d2 d3
        have HG := hide g6
        have Hd := hide hd
        clear g6 hd
        go_upto_region 5 with fail
        go_region_with (go_at_call 82; (with_reducible refine (Hih.out (fun b => S b ∧ b ≠ R ∧ b ≠ w.heap.size ∧ b ≠ w.heap.size + 1) _ KA' c' k' n' t' kk g7 (HG.out.below (by repeat first | exact Below.refl _ _ | refine Below.drew ?_)) g4 g5 (Nat.le_trans g8 hb) (by intro b hb; have h9 : wr.heap.size ≤ b := (by simpa using hb); exact ⟨HS.out b (by omega), by omega, by omega, by omega⟩)).mono ?_); rintro e2 w2 ⟨KA2, c2, rfl, hin, hca, hcb, hB⟩; obtain ⟨hx2, hf2, hz2⟩ := bbox (N := w.heap.size) hB (by simp; omega); obtain ⟨hy2, hg2, hu2⟩ := bbox (N := R) hB (by simp; omega); have Hin := hide hin; have HB2 := hide hB; clear hin hB)
        all_goals
          go_wp2_with fail
          go_roundw
          case rel =>
            refine ⟨j + 1, by go_num, by omega, hide (((HT.out.keep (w := wr) (w' := w2) (fun b _ hb => HB2.out.block b hb) hy2).put4 Hd.out hlt (fun b hb => hb.2.1) hca hcb Hin.out (by omega))), hide ?_, hide ?_⟩
            · exact ((((HK.out.drew.trans (Keep.of_below HB2.out (fun b hb => Nat.lt_of_lt_of_le hb.1 hks))).setCell (fun h => h.2 rfl) _).setCell (fun h => h.2 rfl) _).setCell (fun h => h.2 rfl) _).setCell (fun h => h.2 rfl) _
            · intro o
              rw [frozen4]
              exact (hg2 o).trans (hF o)
          case measure => simp [intOf]; omega
      · obtain ⟨cx, cf⟩ := HK.out.box (N := w.heap.size + 1) ⟨by omega, by omega⟩
        have bx0 := (bx 0).trans hb0
        have bx1 := (bx 1).trans hb1
        have bx2 := (bx 2).trans hb2
        have cx0 := (cx 0).trans hr0
        have cx1 := (cx 1).trans hr1
        have cx2 := (cx 2).trans hr2
        have cx3 := (cx 3).trans hr3
        have hne : R ≠ w.heap.size + 1 := by omega
        have cg : ∀ o, wr.frozen? ⟨w.heap.size + 1, o, none⟩ = false := fun o => (cf o).trans (hrf o)
        obtain ⟨s0, s1, s2, s3⟩ := same4 (x := .int .u8 k) (y := .string t) (z := .int .i64 n) (u := .slice (some ⟨R, 0, none⟩) ks.len cap) cx0 cx1 cx2 cx3
        go_wp2_with fail
        refine bodyPost_ret (v := .agg #[.int .u8 k, .string t, .int .i64 n, .slice (some ⟨R, 0, none⟩) ks.len cap]) ?_ rfl ?_
        · simp only [results, Tryz.results82]
          go_simp
        · refine ⟨_, _, rfl, FoIn.mono (S := S) ?_ (fun _ _ h => h), hcap, hcap2, ?_⟩
          · exact ((HT.out.keep (fun b hb _ => heap4 _ _ _ _ _ _ _ _ _ _ hb.2.2.2) (fun q => World.cell?_of_block (a := ⟨R, q, none⟩) (heap4 _ _ _ _ _ _ _ _ _ _ hne))).fo (HS.out R (by omega)) (fun b hb => hb.1))
          · exact ((((HWB.out.trans (HK.out.mono (P := fun b => b < w.heap.size) (fun b hb => ⟨by omega, by omega⟩)).below).setCell (by simp) _).setCell (by simp) _).setCell (by simp) _).setCell (by simp) _

end Go.Proofs.YtpocmfilpecfdaaGreatDoor

namespace Go.Proofs.YtpocmfilpecfdaaGreatDoor
open Go.RowKit

theorem copied_upto (N : Nat) : ∀ (S : Nat → Prop) (w : World) (KA : Option Addr) (c k : Nat) (n : Int) (t : ByteArray) (ks : Fo), ks.cnt < N → FoIn S w KA ks → ks.len ≤ c → c ≤ 9223372036854775807 → (foB ks).length ≤ 549755813888 → (∀ b, w.heap.size ≤ b → S b) →
    Calls Tryz.prog 82 #[.agg #[.int .u8 k, .string t, .int .i64 n, .slice KA ks.len c]] w (Copied S k t n ks w) := by
  induction N with
  | zero => intro S w KA c k n t ks h; omega
  | succ N ih =>
    intro S w KA c k n t ks hN h hc hc2 hb hS
    exact copied_of (fun S' w' KA' c' k' n' t' ks' hlt h' hc' hc2' hb' hS' => ih S' w' KA' c' k' n' t' ks' (by omega) h' hc' hc2' hb' hS') h hc hc2 hb hS
theorem copied_any {S : Nat → Prop} {w : World} {KA : Option Addr} {c k : Nat} {n : Int} {t : ByteArray} {ks : Fo} (h : FoIn S w KA ks) (hc : ks.len ≤ c) (hc2 : c ≤ 9223372036854775807) (hb : (foB ks).length ≤ 549755813888) (hS : ∀ b, w.heap.size ≤ b → S b) :
    Calls Tryz.prog 82 #[.agg #[.int .u8 k, .string t, .int .i64 n, .slice KA ks.len c]] w (Copied S k t n ks w) := copied_upto (ks.cnt + 1) S w KA c k n t ks (by omega) h hc hc2 hb hS

set_option maxHeartbeats 1000000 in
set_option maxRecDepth 1000000 in
theorem find_nil (b : Nat) (w : World) : Calls Tryz.prog 81 #[.pointer (some ⟨b, 0, none⟩), .slice none 0 0] w fun e w' => e = .returned (.pointer (some ⟨b, 0, none⟩)) ∧ w' = w := by
  go_enter Tryz.func81, Tryz.ntmps81
  go_wp2_with fail
  go_loopw [9, 0] (fun i p wr => i = .int .i64 0 ∧ p = .pointer (some ⟨b, 0, none⟩) ∧ wr = w) (fun _ _ _ => 0)
  case atStart => exact ⟨rfl, rfl, rfl⟩
  case round =>
    obtain ⟨rfl, rfl, rfl⟩ := hrel
    go_wp2_with fail
    go_ret
    exact ⟨rfl, rfl⟩

set_option maxHeartbeats 2000000 in
set_option maxRecDepth 1000000 in
theorem getNode_any {S : Nat → Prop} {w : World} {KA : Option Addr} {c k : Nat} {n : Int} {t : ByteArray} {ks : Fo} (h : FoIn S w KA ks) (hc : ks.len ≤ c) (hc2 : c ≤ 9223372036854775807) (hb : (foB ks).length ≤ 549755813888) (hS : ∀ b, w.heap.size ≤ b → S b) :
    Calls Tryz.prog 61 #[.agg #[.int .u8 k, .string t, .int .i64 n, .slice KA ks.len c], .slice none 0 0] w fun e w' => (∃ KA c, e = .returned (.tuple #[.agg #[.int .u8 k, .string t, .int .i64 n, .slice KA ks.len c], .bool true]) ∧ FoIn S w' KA ks ∧ ks.len ≤ c ∧ c ≤ 9223372036854775807) ∧ Below w.heap.size w w' := by
  have H := hide (h.mono (S' := fun b => S b ∧ b ≠ w.heap.size + 1) (fun b hb h => ⟨h, by omega⟩))
  have HS := hide hS
  clear h hS
  go_enter Tryz.func61, Tryz.ntmps61
  go_wp2_with (first
    | (go_at_call 81; (with_reducible refine (find_nil _ _).mono ?_); rintro e1 w1 ⟨rfl, rfl⟩)
    | (go_at_call 82; (with_reducible refine (copied_any (S := fun b => S b ∧ b ≠ w.heap.size + 1) (H.out.below (below2 _ _)) hc hc2 hb (by intro b hb; simp at hb; exact ⟨HS.out b (by omega), by omega⟩)).mono ?_); rintro e2 w2 ⟨KA2, c2, rfl, hin, hca, hcb, hB⟩; obtain ⟨hy2, hg2, hu2⟩ := bbox (N := w.heap.size + 1) hB (by simp); have Hin := hide hin; have HB2 : Hid (Below w.heap.size w w2) := hide (blw_up2 hB); clear hin hB))
  have cx0 := (hy2 0).trans (World.cell?_alloc2_new _ _ _ _)
  have cx1 := (hy2 1).trans (World.cell?_alloc2_new _ _ _ _)
  have cx2 := (hy2 2).trans (World.cell?_alloc2_new _ _ _ _)
  have cx3 := (hy2 3).trans (World.cell?_alloc2_new _ _ _ _)
  simp only [List.getElem?_toArray, List.getElem?_cons_zero, List.getElem?_cons_succ] at cx0 cx1 cx2 cx3
  obtain ⟨s0, s1, s2, s3⟩ := same4 (x := .int .u8 k) (y := .string t) (z := .int .i64 n) (u := .slice KA2 ks.len c2) cx0 cx1 cx2 cx3
  refine bodyPost_ret (v := .tuple #[.agg #[.int .u8 k, .string t, .int .i64 n, .slice KA2 ks.len c2], .bool true]) ?_ rfl ?_
  · simp only [results, Tryz.results61]
    go_simp
  · exact ⟨⟨_, _, rfl, (Hin.out.keep fun b hb => heap4 _ _ _ _ _ _ _ _ _ _ hb.2).mono (fun b _ h => h.1), hca, hcb⟩, (((HB2.out.setCell (by simp) _).setCell (by simp) _).setCell (by simp) _).setCell (by simp) _⟩

/-! ### rows of nodes -/
theorem own_foS {S : Nat → Prop} {n : Nat} {w : World} {v : Value} {vs : List Value} {f : Fo} (h : w.ownsRow 0 81 4 v n vs) (hB : ∀ g, v.ownBlock = some g → S g) (hf : FoCells (fun b => S b ∧ v.ownBlock ≠ some b) w vs f) (hn : n = f.len) :
    ∃ A c, v = .slice A f.len c ∧ FoIn S w A f ∧ f.len ≤ c ∧ c ≤ 9223372036854775807 := by
  subst hn
  rcases h.2 with ⟨rfl, h0⟩ | ⟨g, cap, cur, rfl, hb, hgg, hn, hc, _⟩
  · have : f = .nil := by cases f with
      | nil => rfl
      | cons => simp [Fo.len] at h0
    subst this
    exact ⟨none, 0, rfl, trivial, Nat.le_refl _, by omega⟩
  · refine ⟨_, _, rfl, hf.at_ (fun b hS => hS.1) (hB g rfl) (fun j u hu => ?_), hn, by unfold maxLen at hc; omega⟩
    have := h.cells (g := g) rfl j u hu
    rwa [Addr.add_lit] at this
theorem cell_four_new2 (w : World) (ob : Obj) (a b c d : Value) (t : TypeId) : ∀ j u, [a, b, c, d][j]? = some u → ((w.alloc ob).alloc (.cells #[a, b, c, d] t)).cell? ((⟨w.heap.size + 1, 0, none⟩ : Addr).add j) = some u := by
  intro j u hu
  rw [Addr.add_lit, Nat.zero_add, World.cell?_alloc2_new]
  simpa using hu
theorem own_below {e : TypeId} {size n : Nat} {w w' : World} {v : Value} {xs : List Value} (h : w.ownsRow 0 e size v n xs) (hl : ∀ g, v.ownBlock = some g → g < w.heap.size) (hB : Below w.heap.size w w') : w'.ownsRow 0 e size v n xs := by
  refine ⟨h.1, ?_⟩
  rcases h.2 with ⟨rfl, h0⟩ | ⟨g, cap, cur, rfl, hb, hg, hr⟩
  · exact .inl ⟨rfl, h0⟩
  · exact .inr ⟨g, cap, cur, rfl, hb, (hB.block g (hl g rfl)).trans hg, hr⟩
theorem Fo.take_next : ∀ {f : Fo} {i k : Nat} {t : ByteArray} {n : Int} {ks r : Fo}, f.drop i = .cons k t n ks r → f.take (i + 1) = (f.take i).app (.cons k t n ks .nil) := by
  intro f
  induction f with
  | nil => intro i k t n ks r h; cases i <;> cases h
  | cons k' t' n' ks' r' _ ih =>
    intro i k t n ks r h
    cases i with
    | zero => cases h; cases r' <;> rfl
    | succ i => simp only [Fo.take, Fo.app]; rw [← ih (i := i) h]
theorem Fo.take_whole : ∀ f : Fo, f.take f.len = f := by
  intro f
  induction f with
  | nil => rfl
  | cons k t n ks r _ ih => simp only [Fo.len, Fo.take, ih]
theorem drop_foB : ∀ {f : Fo} {i k : Nat} {t : ByteArray} {n : Int} {ks r : Fo}, f.drop i = .cons k t n ks r → (foB ks).length ≤ (foB f).length := by
  intro f
  induction f with
  | nil => intro i k t n ks r h; cases i <;> cases h
  | cons k' t' n' ks' r' _ ih =>
    intro i k t n ks r h
    cases i with
    | zero => cases h; simp [foB]; omega
    | succ i => have := ih (i := i) h; simp [foB]; omega

set_option maxHeartbeats 2000000 in
set_option maxRecDepth 1000000 in
theorem rowCopied {S : Nat → Prop} {w : World} {A : Option Addr} {c : Nat} {f : Fo} (h : FoIn S w A f) (hc : f.len ≤ c) (hc2 : c ≤ 9223372036854775807) (hb : (foB f).length ≤ 549755813888) (hS : ∀ b, w.heap.size ≤ b → S b) :
    Calls Tryz.prog 44 #[.slice A f.len c] w fun e w' => (∃ A c, e = .returned (.slice A f.len c) ∧ FoIn S w' A f ∧ f.len ≤ c ∧ c ≤ 9223372036854775807) ∧ Below w.heap.size w w' := by
  have hlen : f.len ≤ 549755813888 := by have := foB_len f; omega
  have H := hide (h.mono (S' := fun b => S b ∧ b < w.heap.size) fun b hb h => ⟨h, hb⟩)
  have HS := hide hS
  clear hS
  obtain ⟨i0, hi, hz0, hz1, hz2⟩ := info_parts InfoNode
  clear h
  go_enter Tryz.func44, Tryz.ntmps44
  go_wp2_with fail
  go_loopw [10, 3] (fun i v wr => ∃ (j : Nat) (vs : List Value), i = .int .i64 j ∧ j ≤ f.len ∧ Hid (wr.ownsRow 0 81 4 v j vs) ∧ Hid (∀ g, v.ownBlock = some g → w.heap.size ≤ g ∧ g < wr.heap.size) ∧
    Hid (FoCells (fun b => S b ∧ v.ownBlock ≠ some b) wr vs (f.take j)) ∧ Hid (Below w.heap.size w wr)) (fun i _ _ => f.len - (intOf i).toNat)
  case atStart => exact ⟨0, [], rfl, Nat.zero_le _, hide (World.ownsRow_nil _ _ _ _), hide (by simp [Value.ownBlock]), hide (by cases f <;> rfl), hide (Below.refl _ _)⟩
  case round =>
    obtain ⟨j, vs, rfl, hj, Ho, Hg, Hc, HB⟩ := hrel
    by_cases hlt : j < f.len
    · obtain ⟨b, o, KA, kc, k, t, n, ks, r, rfl, hd, d0, d1, d2, d3, g1, g2, g3, g4, g5, g6, _⟩ := (H.out.below HB.out).at_ hlt
      have hkb := Nat.le_trans (drop_foB hd) hb
      have HG := hide (g6.mono (S' := fun b => S b ∧ u3.ownBlock ≠ some b) (fun b hb hS => ⟨hS.1, fun e => by have := (Hg.out b e).1; have := hS.2; omega⟩))
      have Hd := hide hd
      clear g6 hd
      go_wp2_with (first
        | (go_at_call 61; (with_reducible refine (getNode_any (S := fun b => S b ∧ u3.ownBlock ≠ some b) (HG.out.below (below_alloc _ _)) g4 g5 hkb (fun b hb => ⟨HS.out b (by have := HB.out.size; simp at hb; omega), fun e => by have := (Hg.out b e).2; simp at hb; omega⟩)).mono ?_); rintro e3 w3 ⟨⟨KA3, c3, rfl, hin, hca, hcb⟩, hB⟩; have hsz3 := hB.size; simp at hsz3; have Hin := hide hin; have HB3 : Hid (Below w.heap.size w w3) := hide (HB.out.trans (((below_alloc _ _).mono HB.out.size).trans (hB.mono (Nat.le_trans HB.out.size (by simp))))); have HR3 : Hid (Below wr.heap.size wr w3) := hide (blw_up (below_alloc _ _) hB); clear hin hB)
        | (at_builtin; refine wpList_append_own2 _ rfl _ _ 33 rfl 81 i0 (.agg #[.int .u8 0, .string ByteArray.empty, .int .i64 0, .slice none 0 0]) 4 56 Tryz.underlying33 hi hz0 hz1 hz2 rfl (by decide) _ j vs rfl ((own_below Ho.out (fun g hg => (Hg.out g hg).2) (HR3.out.trans ((below2 _ _).mono HR3.out.size)))) ⟨w3.heap.size + 1, 0, none⟩ 1 1 [.int .u8 k, .string t, .int .i64 n, .slice KA3 ks.len c3] rfl rfl (cell_four_new2 _ _ _ _ _ _ _) (by intro u hu; simp at hu; rcases hu with rfl | rfl | rfl | rfl <;> rfl) (by unfold maxLen; omega) (by omega) ?_; intro v' w4 hown hgrow hnil hwhere))
      have hT : Hid (Below w.heap.size w ((w3.alloc (.cells #[.int .u8 k, .string t, .int .i64 n, .slice KA3 ks.len c3] 81)).alloc (.cells #[.int .u8 k, .string t, .int .i64 n, .slice KA3 ks.len c3] 81))) := hide (HB3.out.trans ((below2 _ _).mono HB3.out.size))
      have hR : Below wr.heap.size wr ((w3.alloc (.cells #[.int .u8 k, .string t, .int .i64 n, .slice KA3 ks.len c3] 81)).alloc (.cells #[.int .u8 k, .string t, .int .i64 n, .slice KA3 ks.len c3] 81)) := HR3.out.trans ((below2 _ _).mono HR3.out.size)
      refine ⟨⟨j + 1, _, by simp, by omega, hide hown, hide ?_, hide ?_, hide ?_⟩, by simp [intOf]; omega⟩
      · intro g hg
        refine ⟨?_, (hown.lt g hg).2⟩
        rcases hwhere with e | e
        · exact (Hg.out g (e ▸ hg)).1
        · rw [hg] at e; injection e with e; have := hT.out.size; omega
      · rw [Fo.take_next Hd.out]
        refine FoCells.snoc g1 g2 g3 hca hcb ?_ ?_
        · have hi2 : FoIn (fun b => (S b ∧ u3.ownBlock ≠ some b) ∧ b < w3.heap.size) w3 KA3 ks := Hin.out.mono fun b hb hS => ⟨hS, hb⟩
          refine (hi2.keep (w' := w4) fun b hb => ?_).mono fun b _ hb => ⟨hb.1.1, fun e => ?_⟩
          · rw [hgrow.block b (by have := hb.2; simp; omega) (fun e => hb.1.2 e.symm)]
            exact (below2 _ _).block b hb.2
          · rcases hwhere with e2 | e2
            · exact hb.1.2 (e2 ▸ e)
            · rw [e] at e2; injection e2 with e2; have := hb.2; simp at e2; omega
        · refine FoCells.keep (fun b hb hS => ?_) (fun b hb hS => ⟨hS.1, fun e => ?_⟩) Hc.out
          · rw [hgrow.block b (by simp; omega) (fun e => hS.2 e.symm)]
            exact hR.block b hb
          · rcases hwhere with e2 | e2
            · exact hS.2 (e2 ▸ e)
            · rw [e] at e2; injection e2 with e2; simp at e2; omega
      · exact Below.grown hT.out hgrow hT.out.size (fun k hk => (Hg.out k hk).1)
    · have hje : j = f.len := by omega
      go_wp2_with fail
      go_ret
      have hfe : f.take j = f := by rw [hje]; exact Fo.take_whole f
      obtain ⟨A1, c1, rfl, q1, q2, q3⟩ := own_foS Ho.out (fun g hg => HS.out g (Hg.out g hg).1) (by rw [← hfe]; exact Hc.out) hje
      exact ⟨⟨_, _, rfl, q1, q2, q3⟩, HB.out⟩

end Go.Proofs.YtpocmfilpecfdaaGreatDoor

namespace Go.Proofs.YtpocmfilpecfdaaGreatDoor
open Go.RowKit

/-- blocks N and N + 1 are a call's own boxes; everything else that is there is kept -/
abbrev Apart (N : Nat) (w w' : World) : Prop := Keep (fun b => b < w.heap.size ∧ b ≠ N ∧ b ≠ N + 1) w w'
abbrev Free (S : Nat → Prop) (N : Nat) : Nat → Prop := fun b => S b ∧ b ≠ N ∧ b ≠ N + 1
section
variable {S : Nat → Prop} {N : Nat} {w w' w'' : World} {A : Option Addr}
theorem Apart.refl (N : Nat) (w : World) : Apart N w w := Keep.refl _ _
theorem Apart.below (h : Apart N w w') (hB : Below w'.heap.size w' w'') : Apart N w w'' := Keep.trans h (Keep.of_below hB fun _ hk => Nat.lt_of_lt_of_le hk.1 h.size)
theorem Apart.set (h : Apart N w w') {a : Addr} (ha : a.block = N ∨ a.block = N + 1) (u : Value) : Apart N w (w'.setCell a u) :=
  Keep.setCell h (fun hk => by rcases ha with e | e; exact hk.2.1 e; exact hk.2.2 e) u
theorem Rd.apart {xs : List Value} (h : Rd (Free S N) w A xs) (hl : Apart N w w') : Rd (Free S N) w' A xs :=
  ((h.mono (S' := fun b => (b < w.heap.size ∧ b ≠ N ∧ b ≠ N + 1) ∧ S b) fun _ h1 h2 => ⟨⟨h1, h2.2⟩, h2.1⟩).keep (fun b hb => hl.block b hb.1)).mono fun _ _ h => ⟨h.2, h.1.2⟩
theorem IntsIn.apart {l : List Int} (h : IntsIn (Free S N) w A l) (hl : Apart N w w') : IntsIn (Free S N) w' A l := ⟨h.1.apart hl, h.2⟩
theorem StrsIn.apart {l : List ByteArray} (h : StrsIn (Free S N) w A l) (hl : Apart N w w') : StrsIn (Free S N) w' A l := ⟨h.1.apart hl, h.2⟩
theorem FoIn.apart {f : Fo} (h : FoIn (Free S N) w A f) (hl : Apart N w w') : FoIn (Free S N) w' A f :=
  ((h.mono (S' := fun b => (b < w.heap.size ∧ b ≠ N ∧ b ≠ N + 1) ∧ S b) fun _ h1 h2 => ⟨⟨h1, h2.2⟩, h2.1⟩).keep (fun b hb => hl.block b hb.1)).mono fun _ _ h => ⟨h.2, h.1.2⟩
theorem HkIn.apart {x : Hh} {h : Hk} (a : HkIn (Free S N) w x h) (hl : Apart N w w') : HkIn (Free S N) w' x h := ⟨a.at_, a.old.apart hl, a.new.apart hl, a.oc, a.nc⟩
theorem EdIn.apart {x : Eh} {e : Ed} (a : EdIn (Free S N) w x e) (hl : Apart N w w') : EdIn (Free S N) w' x e :=
  ⟨a.kind, a.path.apart hl, a.at_, a.far, a.frm, a.to, a.old.apart hl, a.new.apart hl, a.pc, a.oc, a.nc⟩
end

/-- the cells of a block, from its head on -/
def Cells (w : World) (N : Nat) (vs : List Value) : Prop := ∀ j u, vs[j]? = some u → w.cell? ⟨N, j, none⟩ = some u
theorem Cells.of_eq {w w' : World} {N : Nat} {vs : List Value} (h : Cells w N vs) (he : ∀ o, w'.cell? ⟨N, o, none⟩ = w.cell? ⟨N, o, none⟩) : Cells w' N vs := fun j u hu => (he j).trans (h j u hu)
theorem keep_setCells (b : Nat) {P : Nat → Prop} (hP : ¬ P b) : ∀ (vs : List Value) (o : Nat) (w : World), Keep P w (w.setCells b o vs)
  | [], _, w => Keep.refl _ _
  | v :: r, o, w => Keep.trans ((Keep.refl P w).setCell (a := ⟨b, o, none⟩) hP v) (keep_setCells b hP r (o + 1) (w.setCell ⟨b, o, none⟩ v))
theorem size_setCells (b : Nat) : ∀ (vs : List Value) (o : Nat) (w : World), (w.setCells b o vs).heap.size = w.heap.size
  | [], _, _ => rfl
  | v :: r, o, w => by rw [World.setCells, size_setCells b r]; simp [World.setCell]
/-- cells stored one behind the other -/
theorem puts {w : World} {N : Nat} {us : List Value} (hu : Cells w N us) (o : Nat) (vs : List Value) (ho : o + vs.length ≤ us.length) :
    ∃ wF, wF = w.setCells N o vs ∧ Cells wF N (us.take o ++ vs ++ us.drop (o + vs.length)) ∧ (∀ M, M ≠ N → ∀ q, wF.cell? ⟨M, q, none⟩ = w.cell? ⟨M, q, none⟩) ∧ (∀ P : Nat → Prop, ¬ P N → Keep P w wF) ∧ (∀ a, wF.frozen? a = w.frozen? a) ∧ wF.heap.size = w.heap.size := by
  refine ⟨_, rfl, ?_, fun M hM q => World.cell?_setCells_out N vs o w ⟨M, q, none⟩ (fun e _ => absurd e hM), fun P hP => keep_setCells N hP vs o w, fun a => World.frozen?_setCells N vs o w a, size_setCells N vs o w⟩
  intro j u hj
  have hl : (us.take o).length = o := by simp; omega
  by_cases h1 : j < o
  · rw [World.cell?_setCells_out N vs o w ⟨N, j, none⟩ (fun _ _ => .inl h1)]
    rw [List.append_assoc, List.getElem?_append_left (by omega), List.getElem?_take, if_pos h1] at hj
    exact hu j u hj
  · by_cases h2 : j < o + vs.length
    · have h3 := World.cell?_setCells_in N vs o w (fun i hi => by
        have : us[o + i]? = some us[o + i] := List.getElem?_eq_getElem (by omega)
        rw [hu _ _ this]; rfl) (j - o) (by omega)
      rw [show o + (j - o) = j by omega] at h3
      rw [h3]
      rw [List.append_assoc, List.getElem?_append_right (by omega), hl, List.getElem?_append_left (by omega), List.getElem?_eq_getElem (by omega)] at hj
      exact hj
    · rw [World.cell?_setCells_out N vs o w ⟨N, j, none⟩ (fun _ _ => .inr (by show o + vs.length ≤ j; omega))]
      rw [List.append_assoc, List.getElem?_append_right (by omega), hl, List.getElem?_append_right (by omega), List.getElem?_drop] at hj
      rw [show o + vs.length + (j - o - vs.length) = j by omega] at hj
      exact hu j u hj
theorem cells_first (w : World) (cs ds : Array Value) (t u : TypeId) : Cells ((w.alloc (.cells cs t)).alloc (.cells ds u)) w.heap.size cs.toList := fun j v hv => by
  rw [World.cell?_alloc2_first]; simpa using hv
theorem cells_second (w : World) (o : Obj) (ds : Array Value) (u : TypeId) : Cells ((w.alloc o).alloc (.cells ds u)) (w.heap.size + 1) ds.toList := fun j v hv => by
  rw [World.cell?_alloc2_new]; simpa using hv

theorem cells_first_drew (w : World) (cs ds : Array Value) (t u : TypeId) : Cells ((w.alloc (.cells cs t)).alloc (.cells ds u)).drew w.heap.size cs.toList := cells_first w cs ds t u
theorem cells_second_drew (w : World) (o : Obj) (ds : Array Value) (u : TypeId) : Cells ((w.alloc o).alloc (.cells ds u)).drew (w.heap.size + 1) ds.toList := cells_second w o ds u
theorem Apart.puts {N M : Nat} {w w' wF : World} (h : Apart N w w') (hk : ∀ P : Nat → Prop, ¬ P M → Keep P w' wF) (hM : M = N ∨ M = N + 1) : Apart N w wF :=
  Keep.trans h (Keep.mono (hk (fun b => b ≠ N ∧ b ≠ N + 1) (fun h => by rcases hM with e | e; exact h.1 e; exact h.2 e)) (fun _ hb => hb.2))

set_option maxHeartbeats 4000000 in
set_option maxRecDepth 1000000 in
theorem hunkInvert_any {S : Nat → Prop} {x : Hh} {h : Hk} {w : World} (H : HkIn S w x h) (h1 : h.old.length ≤ 549755813888) (h2 : h.new.length ≤ 549755813888) (hS : ∀ b, w.heap.size ≤ b → S b) :
    Calls Tryz.prog 20 #[.agg #[.int .i64 h.at_, .slice x.oA h.old.length x.oc, .slice x.nA h.new.length x.nc]] w fun e w' =>
      (∃ y : Hh, e = .returned (.agg #[.int .i64 h.at_, .slice y.oA h.new.length y.oc, .slice y.nA h.old.length y.nc]) ∧ HkIn S w' y ⟨h.at_, h.new, h.old⟩) ∧ Below w.heap.size w w' := by
  have Ho := hide H.old
  have Hn := hide H.new
  have hat := H.at_
  have HS := hide hS
  clear H hS
  go_enter Tryz.func20, Tryz.ntmps20
  go_upto_region 1 with fail
  go_region_held (fun w' => w'.cell? ⟨w.heap.size, 0, none⟩ = some (.int .i64 h.at_) ∧ w'.cell? ⟨w.heap.size, 1, none⟩ = some (.slice x.oA h.old.length x.oc) ∧ w'.cell? ⟨w.heap.size, 2, none⟩ = some (.slice x.nA h.new.length x.nc)) (go_keep) (first
    | (go_at_call 42; (with_reducible refine (cloneStrs_in (l := h.new) (Hn.out.below (by first | exact HBO.out | exact HBN.out | (repeat first | exact Below.refl _ _ | refine Below.drew ?_ | refine Below.alloc ?_ (by simp) _))) rfl h2).mono ?_); rintro eN wN ⟨⟨AN, cN, rfl, hN, hN1, hN2⟩, hB⟩; obtain ⟨hxN, hfN, hzN⟩ := bbox (N := w.heap.size) hB (by first | exact hzO | (simp <;> omega)); obtain ⟨hyN, hgN, huN⟩ := bbox (N := w.heap.size + 1) hB (by first | exact huO | (simp <;> omega)); have HN : Hid (StrsIn (Free S w.heap.size) wN AN h.new) := hide (hN.mono (fun b _ hb => by first | exact ⟨HS.out b (by have := Nat.lt_of_lt_of_le huO hb; omega), by have := Nat.lt_of_lt_of_le huO hb; omega, by have := Nat.lt_of_lt_of_le huO hb; omega⟩ | (simp at hb; exact ⟨HS.out b (by omega), by omega, by omega⟩))); have HBN : Hid (Below w.heap.size w wN) := hide (by first | exact blw_up HBO.out hB | exact blw_up (by repeat first | exact Below.refl _ _ | refine Below.drew ?_ | refine Below.alloc ?_ (by simp) _) hB); have HAN := hide hB; clear hN hB)
    | (go_at_call 42; (with_reducible refine (cloneStrs_in (l := h.old) (Ho.out.below (by first | exact HBN.out | exact HBO.out | (repeat first | exact Below.refl _ _ | refine Below.drew ?_ | refine Below.alloc ?_ (by simp) _))) rfl h1).mono ?_); rintro eO wO ⟨⟨AO, cO, rfl, hO, hO1, hO2⟩, hB⟩; obtain ⟨hxO, hfO, hzO⟩ := bbox (N := w.heap.size) hB (by first | exact hzN | (simp <;> omega)); obtain ⟨hyO, hgO, huO⟩ := bbox (N := w.heap.size + 1) hB (by first | exact huN | (simp <;> omega)); have HO : Hid (StrsIn (Free S w.heap.size) wO AO h.old) := hide (hO.mono (fun b _ hb => by first | exact ⟨HS.out b (by have := Nat.lt_of_lt_of_le huN hb; omega), by have := Nat.lt_of_lt_of_le huN hb; omega, by have := Nat.lt_of_lt_of_le huN hb; omega⟩ | (simp at hb; exact ⟨HS.out b (by omega), by omega, by omega⟩))); have HBO : Hid (Below w.heap.size w wO) := hide (by first | exact blw_up HBN.out hB | exact blw_up (by repeat first | exact Below.refl _ _ | refine Below.drew ?_ | refine Below.alloc ?_ (by simp) _) hB); have HAO := hide hB; clear hO hB))
  all_goals
    have hc : Cells wO (w.heap.size + 1) [.int .i64 0, .slice none 0 0, .slice none 0 0] := ((cells_second_drew w _ #[.int .i64 0, .slice none 0 0, .slice none 0 0] _).of_eq hyN).of_eq hyO
    obtain ⟨wF, hF, hcF, hoth, hkeep, hfz, hsz⟩ := puts hc 0 [.int .i64 h.at_, .slice AN h.new.length cN, .slice AO h.old.length cO] (by simp)
    simp only [World.setCells, Nat.zero_add, Nat.reduceAdd] at hF
    rw [← hF]
    have f0 := hcF 0 _ rfl
    have f1 := hcF 1 _ rfl
    have f2 := hcF 2 _ rfl
    have HF := hide hF
    clear hF
    go_wp2_with fail
    refine bodyPost_ret (v := .agg #[.int .i64 h.at_, .slice AN h.new.length cN, .slice AO h.old.length cO]) ?_ rfl ?_
    · simp only [results, Tryz.results20]
      go_simp
    · exact ⟨⟨⟨AN, cN, AO, cO⟩, rfl, ⟨hat, (HN.out.apart (((Apart.refl _ _).below HAO.out).puts hkeep (.inr rfl))).mono (fun _ _ h => h.1), (HO.out.apart ((Apart.refl _ _).puts hkeep (.inr rfl))).mono (fun _ _ h => h.1), ⟨hN1, hN2⟩, ⟨hO1, hO2⟩⟩⟩, HBO.out.trans (hkeep (fun b => b < w.heap.size) (by simp)).below⟩

end Go.Proofs.YtpocmfilpecfdaaGreatDoor

namespace Go.Proofs.YtpocmfilpecfdaaGreatDoor
open Go.RowKit

theorem Apart.drewn {N : Nat} {w w' : World} (h : Apart N w w') : Apart N w w'.drew := Keep.drew h
theorem edRight_yes {S : Nat → Prop} {x : Eh} {e : Ed} {w : World} (he : EdIn S w x e) (htab : TabOk w) (hsum : e.frm.size + e.to.size ≤ 9223372036854775807) (hok : EdOk e) :
    Calls Tryz.prog 17 #[.agg #[.int .u8 e.kind, .slice x.pA e.path.length x.pc, .int .i64 e.at_, .int .i64 e.far, .string e.frm, .string e.to, .slice x.oA e.old.len x.oc, .slice x.nA e.new.len x.nc]] w fun e1 w' => e1 = .returned (.bool true) ∧ Below w.heap.size w w' := by
  refine (edRight_any he htab hsum).mono ?_
  rintro e1 w' ⟨⟨b, rfl, hb⟩, hB⟩
  exact ⟨by rw [hb.mpr hok], hB⟩

end Go.Proofs.YtpocmfilpecfdaaGreatDoor
