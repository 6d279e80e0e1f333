/- A line that is read: its words and its command; alone, unpull, merge, checkout. Printed by gen_scrline.py. -/
import Derived.Deep.RegionWith
import Derived.Deep.RegionHeld
import Derived.Test.YtjjaojnglnpgaaaGreatDoorLWb
import Derived.Test.YtjjaojnglnpgaaaGreatDoorLBase

set_option linter.unusedVariables false
set_option linter.unusedSimpArgs false

namespace Go.Proofs.YtjjaojnglnpgaaaGreatDoor
open Go.RowKit

/-- the line in block N: the words that are left, the command's twenty cells -/
structure LnIn (D : Nat → Prop) (N : Nat) (w : World) (l : List ByteArray) (vs : List Value) : Prop where
  wd : WdIn D N w l
  len : vs.length = 20
  cells : ∀ j u, vs[j]? = some u → w.cell? ⟨N, 1 + j, none⟩ = some u
  free : ∀ o, w.frozen? ⟨N, o, none⟩ = false
section
variable {D : Nat → Prop} {N : Nat} {w w' : World} {l r : List ByteArray} {vs : List Value}
theorem LnIn.lt (h : LnIn D N w l vs) : N < w.heap.size := by
  obtain ⟨A, c, h1, _⟩ := h.wd.at_
  exact block_lt_of_cell h1
theorem LnIn.below (h : LnIn D N w l vs) (hb : Below w.heap.size w w') : LnIn D N w' l vs :=
  ⟨h.wd.below hb, h.len, fun j u hj => (hb.cell (p := ⟨N, 1 + j, none⟩) h.lt).trans (h.cells j u hj), fun o => (hb.frozen (p := ⟨N, o, none⟩) h.lt).trans (h.free o)⟩
theorem LnIn.take (h : LnIn D N w l vs) {v : Value} (hw : w' = w.setCell ⟨N, 0, none⟩ v) (hr : WdIn D N w' r) : LnIn D N w' r vs := by
  subst hw
  refine ⟨hr, h.len, fun j u hj => ?_, fun o => by rw [World.frozen?_setCell]; exact h.free o⟩
  rw [World.cell?_setCell_other]
  · exact h.cells j u hj
  · simp
theorem LnIn.put (h : LnIn D N w l vs) {j : Nat} (hj : j < 20) (v : Value) : LnIn D N (w.setCell ⟨N, 1 + j, none⟩ v) l (vs.set j v) := by
  have hjl : j < vs.length := by rw [h.len]; exact hj
  obtain ⟨A, c, h1, h2, h3⟩ := h.wd.at_
  refine ⟨⟨⟨A, c, ?_, h2.keep (fun b hb => Below.heap_setCell w _ _ b (h.wd.off b hb)), h3⟩, by rw [World.frozen?_setCell]; exact h.wd.free, h.wd.off⟩, by simpa using h.len, fun i u hi => ?_, fun o => by rw [World.frozen?_setCell]; exact h.free o⟩
  · rw [World.cell?_setCell_other]
    · exact h1
    · simp
  · by_cases e : i = j
    · subst e
      rw [List.getElem?_set_self hjl] at hi
      injection hi with hi
      subst hi
      exact World.cell?_setCell_same _ _ _ (h.cells i _ (List.getElem?_eq_getElem hjl))
    · rw [List.getElem?_set_ne (by omega)] at hi
      rw [World.cell?_setCell_other]
      · exact h.cells i u hi
      · simp
        try omega
theorem LnIn.cellAt (h : LnIn D N w l vs) (k : Nat) (hk : 1 ≤ k ∧ k ≤ 20) : ∃ u, w.cell? ⟨N, k, none⟩ = some u := by
  have hj : k - 1 < vs.length := by rw [h.len]; omega
  have := h.cells (k - 1) _ (List.getElem?_eq_getElem hj)
  rw [show 1 + (k - 1) = k by omega] at this
  exact ⟨_, this⟩
end
/-- what lies before the line, and beside it, is as it was -/
abbrev SideN (N : Nat) (w w' : World) : Prop := Keep (fun k => k < w.heap.size ∧ k ≠ N) w w'
set_option maxHeartbeats 1000000 in
theorem alone_any (N : Nat) (w : World) : Calls Tryz.prog 105 #[.pointer (some ⟨N, 0, none⟩)] w fun e w' => e = .returned (.tuple #[]) ∧ w' = w := by
  go_enter Tryz.func105, Tryz.ntmps105
  go_wp2_with fail
  all_goals go_end0
  all_goals exact ⟨rfl, rfl⟩
set_option maxHeartbeats 2000000 in
set_option maxRecDepth 1000000 in
theorem unpull_yes {D : Nat → Prop} {N : Nat} {w : World} {s : ByteArray} {r : List ByteArray} {vs : List Value} (h : LnIn D N w (s :: r) vs) (hs : isWord s = true) :
    Calls Tryz.prog 108 #[.pointer (some ⟨N, 0, none⟩)] w fun e w' => e = .returned (.tuple #[]) ∧ LnIn D N w' r (vs.set 3 (.string s)) ∧ SideN N w w' := by
  have H := hide h
  clear h
  go_enter Tryz.func108, Tryz.ntmps108
  go_wp2_with (go_at_call 77; (with_reducible refine (wword_yes H.out.wd hs).mono ?_); rintro e1 w1 ⟨rfl, h1, u, hu⟩; have h2 := H.out.take hu h1; obtain ⟨x, hc⟩ := h2.cellAt 4 (by decide); have hf := h2.free 4; have H2 := hide h2; have HU := hide hu; clear h1 h2 hu)
  all_goals go_end0
  refine ⟨rfl, H2.out.put (j := 3) (by decide) _, ?_⟩
  rw [HU.out]
  exact ((Keep.refl _ w).setCell (fun hk => hk.2 rfl) _).setCell (fun hk => hk.2 rfl) _
set_option maxHeartbeats 2000000 in
set_option maxRecDepth 1000000 in
theorem merge_yes {D : Nat → Prop} {N : Nat} {w : World} {s : ByteArray} {r : List ByteArray} {vs : List Value} (h : LnIn D N w (s :: r) vs) (hs : isWord s = true) :
    Calls Tryz.prog 109 #[.pointer (some ⟨N, 0, none⟩)] w fun e w' => e = .returned (.tuple #[]) ∧ LnIn D N w' r (vs.set 2 (.string s)) ∧ SideN N w w' := by
  have H := hide h
  clear h
  go_enter Tryz.func109, Tryz.ntmps109
  go_wp2_with (go_at_call 77; (with_reducible refine (wword_yes H.out.wd hs).mono ?_); rintro e1 w1 ⟨rfl, h1, u, hu⟩; have h2 := H.out.take hu h1; obtain ⟨x, hc⟩ := h2.cellAt 3 (by decide); have hf := h2.free 3; have H2 := hide h2; have HU := hide hu; clear h1 h2 hu)
  all_goals go_end0
  refine ⟨rfl, H2.out.put (j := 2) (by decide) _, ?_⟩
  rw [HU.out]
  exact ((Keep.refl _ w).setCell (fun hk => hk.2 rfl) _).setCell (fun hk => hk.2 rfl) _
set_option maxHeartbeats 2000000 in
set_option maxRecDepth 1000000 in
theorem checkout_yes {D : Nat → Prop} {N : Nat} {w : World} {s : ByteArray} {r : List ByteArray} {vs : List Value} (h : LnIn D N w (s :: r) vs) (hs : isWord s = true) :
    Calls Tryz.prog 110 #[.pointer (some ⟨N, 0, none⟩)] w fun e w' => e = .returned (.tuple #[]) ∧ LnIn D N w' r (vs.set 4 (.string s)) ∧ SideN N w w' := by
  have H := hide h
  clear h
  go_enter Tryz.func110, Tryz.ntmps110
  go_wp2_with (go_at_call 77; (with_reducible refine (wword_yes H.out.wd hs).mono ?_); rintro e1 w1 ⟨rfl, h1, u, hu⟩; have h2 := H.out.take hu h1; obtain ⟨x, hc⟩ := h2.cellAt 5 (by decide); have hf := h2.free 5; have H2 := hide h2; have HU := hide hu; clear h1 h2 hu)
  all_goals go_end0
  refine ⟨rfl, H2.out.put (j := 4) (by decide) _, ?_⟩
  rw [HU.out]
  exact ((Keep.refl _ w).setCell (fun hk => hk.2 rfl) _).setCell (fun hk => hk.2 rfl) _

set_option maxHeartbeats 1000000 in
theorem unpull_no {D : Nat → Prop} {N : Nat} {w : World} {l : List ByteArray} {vs : List Value} (h : LnIn D N w l vs) (hs : ∀ s r, l = s :: r → isWord s = false) :
    Calls Tryz.prog 108 #[.pointer (some ⟨N, 0, none⟩)] w fun e w' => e = nones ∧ SideN N w w' := by
  rcases l with _ | ⟨s, r⟩
  · have H := hide h
    clear h
    go_enter Tryz.func108, Tryz.ntmps108
    go_wp2_with (go_at_call 77; (with_reducible refine (wword_nil H.out.wd).mono ?_); rintro e1 w1 ⟨rfl, rfl⟩)
    exact ⟨rfl, rfl, Keep.refl _ _⟩
  · have H := hide h
    have Hw := hide (hs s r rfl)
    clear h hs
    go_enter Tryz.func108, Tryz.ntmps108
    go_wp2_with (go_at_call 77; (with_reducible refine (wword_no H.out.wd Hw.out).mono ?_); rintro e1 w1 ⟨rfl, u, hu⟩)
    refine ⟨rfl, rfl, ?_⟩
    try rw [hu]
    exact (Keep.refl _ w).setCell (fun hk => hk.2 rfl) _

set_option maxHeartbeats 1000000 in
theorem merge_no {D : Nat → Prop} {N : Nat} {w : World} {l : List ByteArray} {vs : List Value} (h : LnIn D N w l vs) (hs : ∀ s r, l = s :: r → isWord s = false) :
    Calls Tryz.prog 109 #[.pointer (some ⟨N, 0, none⟩)] w fun e w' => e = nones ∧ SideN N w w' := by
  rcases l with _ | ⟨s, r⟩
  · have H := hide h
    clear h
    go_enter Tryz.func109, Tryz.ntmps109
    go_wp2_with (go_at_call 77; (with_reducible refine (wword_nil H.out.wd).mono ?_); rintro e1 w1 ⟨rfl, rfl⟩)
    exact ⟨rfl, rfl, Keep.refl _ _⟩
  · have H := hide h
    have Hw := hide (hs s r rfl)
    clear h hs
    go_enter Tryz.func109, Tryz.ntmps109
    go_wp2_with (go_at_call 77; (with_reducible refine (wword_no H.out.wd Hw.out).mono ?_); rintro e1 w1 ⟨rfl, u, hu⟩)
    refine ⟨rfl, rfl, ?_⟩
    try rw [hu]
    exact (Keep.refl _ w).setCell (fun hk => hk.2 rfl) _

set_option maxHeartbeats 1000000 in
theorem checkout_no {D : Nat → Prop} {N : Nat} {w : World} {l : List ByteArray} {vs : List Value} (h : LnIn D N w l vs) (hs : ∀ s r, l = s :: r → isWord s = false) :
    Calls Tryz.prog 110 #[.pointer (some ⟨N, 0, none⟩)] w fun e w' => e = nones ∧ SideN N w w' := by
  rcases l with _ | ⟨s, r⟩
  · have H := hide h
    clear h
    go_enter Tryz.func110, Tryz.ntmps110
    go_wp2_with (go_at_call 77; (with_reducible refine (wword_nil H.out.wd).mono ?_); rintro e1 w1 ⟨rfl, rfl⟩)
    exact ⟨rfl, rfl, Keep.refl _ _⟩
  · have H := hide h
    have Hw := hide (hs s r rfl)
    clear h hs
    go_enter Tryz.func110, Tryz.ntmps110
    go_wp2_with (go_at_call 77; (with_reducible refine (wword_no H.out.wd Hw.out).mono ?_); rintro e1 w1 ⟨rfl, u, hu⟩)
    refine ⟨rfl, rfl, ?_⟩
    try rw [hu]
    exact (Keep.refl _ w).setCell (fun hk => hk.2 rfl) _

end Go.Proofs.YtjjaojnglnpgaaaGreatDoor

namespace Go.Proofs.YtjjaojnglnpgaaaGreatDoor
open Go.RowKit

theorem own_set {w : World} {B e k n N o : Nat} {v u : Value} {xs : List Value} (h : w.ownsRow B e k v n xs) (hN : N < B) : (w.setCell ⟨N, o, none⟩ u).ownsRow B e k v n xs :=
  ⟨h.1, h.2.imp id fun ⟨g, cap, cur, e1, hB, hg, hr⟩ => ⟨g, cap, cur, e1, hB, (Below.heap_setCell w _ _ g (by show g ≠ N; omega)).trans hg, hr⟩⟩
theorem LnIn.taken {D : Nat → Prop} {N : Nat} {w w' : World} {l r : List ByteArray} {vs : List Value} {u : Value} (h : LnIn D N w l vs) (hB : Below w.heap.size (w.setCell ⟨N, 0, none⟩ u) w') (hr : WdIn D N w' r) : LnIn D N w' r vs := by
  have hN := h.lt
  refine ⟨hr, h.len, fun j v hj => ?_, fun o => ?_⟩
  · refine (hB.cell (p := ⟨N, 1 + j, none⟩) hN).trans ?_
    rw [World.cell?_setCell_other]
    · exact h.cells j v hj
    · simp
  · refine (hB.frozen (p := ⟨N, o, none⟩) hN).trans ?_
    rw [World.frozen?_setCell]
    exact h.free o
theorem sideN_of {N : Nat} {w w' : World} {u : Value} (hB : Below w.heap.size (w.setCell ⟨N, 0, none⟩ u) w') : SideN N w w' :=
  ((Keep.refl _ w).setCell (fun hk => hk.2 rfl) u).trans (Keep.of_below (by simpa using hB) fun _ hk => by simpa using hk.1)
set_option maxHeartbeats 2000000 in
set_option maxRecDepth 1000000 in
theorem load_yes {D : Nat → Prop} {N : Nat} {w : World} {s : ByteArray} {r : List ByteArray} {vs : List Value} {b : List UInt8} (h : LnIn D N w (s :: r) vs) (hu : unhexL s.data.toList = some b) (hl : s.size ≤ 1099511627776) :
    Calls Tryz.prog 111 #[.pointer (some ⟨N, 0, none⟩)] w fun e w' => e = .returned (.tuple #[]) ∧ ∃ v, w'.ownsRow w.heap.size 5 1 v b.length (Lib.byteCells b) ∧ LnIn D N w' r (vs.set 19 v) ∧ SideN N w w' := by
  have H := hide h
  have HU := hide hu
  clear h hu
  go_enter Tryz.func111, Tryz.ntmps111
  go_wp2_with (go_at_call 170; (with_reducible refine (wbytes_ok H.out.wd HU.out hl).mono ?_); rintro e1 w1 ⟨v, rfl, ho, h1, u, hB⟩; obtain ⟨Av, cv, rfl⟩ := own_shape ho; have h2 := H.out.taken hB h1; obtain ⟨x, hc⟩ := h2.cellAt 20 (by decide); have hf := h2.free 20; have H2 := hide h2; have HO := hide ho; have HB := hide hB; clear h1 h2 ho hB)
  all_goals go_end0
  exact ⟨rfl, _, own_set HO.out H.out.lt, H2.out.put (j := 19) (by decide) _, (sideN_of HB.out).setCell (fun hk => hk.2 rfl) _⟩
set_option maxHeartbeats 2000000 in
set_option maxRecDepth 1000000 in
theorem load_no {D : Nat → Prop} {N : Nat} {w : World} {s : ByteArray} {r : List ByteArray} {vs : List Value} (h : LnIn D N w (s :: r) vs) (hu : unhexL s.data.toList = none) (hl : s.size ≤ 1099511627776) :
    Calls Tryz.prog 111 #[.pointer (some ⟨N, 0, none⟩)] w fun e w' => e = nones ∧ SideN N w w' := by
  have H := hide h
  have HU := hide hu
  clear h hu
  go_enter Tryz.func111, Tryz.ntmps111
  go_wp2_with (go_at_call 170; (with_reducible refine (wbytes_bad H.out.wd HU.out hl).mono ?_); rintro e1 w1 ⟨rfl, u, hB⟩; have HB := hide hB; clear hB)
  exact ⟨rfl, rfl, sideN_of HB.out⟩

end Go.Proofs.YtjjaojnglnpgaaaGreatDoor

namespace Go.Proofs.YtjjaojnglnpgaaaGreatDoor
open Go.RowKit

set_option maxHeartbeats 4000000 in
set_option maxRecDepth 1000000 in
theorem pull_yes {D : Nat → Prop} {N : Nat} {w : World} {s t : ByteArray} {r : List ByteArray} {vs : List Value} (h : LnIn D N w (s :: t :: r) vs) (hs : isWord s = true) (ht : isWord t = true) :
    Calls Tryz.prog 107 #[.pointer (some ⟨N, 0, none⟩)] w fun e w' => e = .returned (.tuple #[]) ∧ LnIn D N w' r ((vs.set 2 (.string s)).set 3 (.string t)) ∧ SideN N w w' := by
  have H : Hid (LnIn D N w.drew (s :: t :: r) vs) := hide (h.below ((Below.refl _ w).drew))
  have hN := h.lt
  clear h
  go_enter Tryz.func107, Tryz.ntmps107
  go_wp2_with fail
  go_region_with (first
    | (go_at_call 77; (with_reducible refine (wword_yes H.out.wd hs).mono ?_); rintro e1 w1 ⟨rfl, h1, u, hu⟩; have h2 := H.out.take hu h1; have H2 := hide h2; have HU := hide hu; clear h1 h2 hu)
    | (go_at_call 77; (with_reducible refine (wword_yes H2.out.wd ht).mono ?_); rintro e2 w2 ⟨rfl, h3, u2, hu2⟩; have h4 := H2.out.take hu2 h3; obtain ⟨x, hc⟩ := h4.cellAt 3 (by decide); obtain ⟨x2, hc2⟩ := h4.cellAt 4 (by decide); have hf := h4.free 3; have hf2 := h4.free 4; have H4 := hide h4; have HU2 := hide hu2; clear h3 h4 hu2))
  all_goals go_end0
  refine ⟨rfl, (H4.out.put (j := 2) (by decide) (.string s)).put (j := 3) (by decide) (.string t), ?_⟩
  have h0 : SideN N w w.drew := (Keep.refl _ w).drew
  have h1 : SideN N w w1 := by rw [HU.out]; exact h0.setCell (fun hk => hk.2 rfl) u
  have h2 : SideN N w w2 := by rw [HU2.out]; exact h1.setCell (fun hk => hk.2 rfl) u2
  exact (h2.setCell (fun hk => hk.2 rfl) _).setCell (fun hk => hk.2 rfl) _

end Go.Proofs.YtjjaojnglnpgaaaGreatDoor

namespace Go.Proofs.YtjjaojnglnpgaaaGreatDoor
open Go.RowKit

set_option maxHeartbeats 1000000 in
theorem wbytes_nil {D : Nat → Prop} {N : Nat} {w : World} (h : WdIn D N w []) :
    Calls Tryz.prog 170 #[.pointer (some ⟨N, 0, none⟩)] w fun e w' => e = nones ∧ w' = w := by
  have H := hide h
  clear h
  go_enter Tryz.func170, Tryz.ntmps170
  go_wp2_with (go_at_call 76; (with_reducible refine (wtake_nil H.out).mono ?_); rintro e1 w1 ⟨rfl, rfl⟩)
  exact ⟨rfl, rfl, rfl⟩
set_option maxHeartbeats 1000000 in
theorem load_nil {D : Nat → Prop} {N : Nat} {w : World} {vs : List Value} (h : LnIn D N w [] vs) :
    Calls Tryz.prog 111 #[.pointer (some ⟨N, 0, none⟩)] w fun e w' => e = nones ∧ SideN N w w' := by
  have H := hide h
  clear h
  go_enter Tryz.func111, Tryz.ntmps111
  go_wp2_with (go_at_call 170; (with_reducible refine (wbytes_nil H.out.wd).mono ?_); rintro e1 w1 ⟨rfl, rfl⟩)
  exact ⟨rfl, rfl, Keep.refl _ _⟩

end Go.Proofs.YtjjaojnglnpgaaaGreatDoor

namespace Go.Proofs.YtjjaojnglnpgaaaGreatDoor
open Go.RowKit

theorem wword_stop {D : Nat → Prop} {N : Nat} {w : World} {l : List ByteArray} (h : WdIn D N w l) (hs : ∀ s r, l = s :: r → isWord s = false) :
    Calls Tryz.prog 77 #[.pointer (some ⟨N, 0, none⟩)] w fun e w' => e = nones ∧ SideN N w w' := by
  rcases l with _ | ⟨s, r⟩
  · refine (wword_nil h).mono ?_
    rintro e w' ⟨rfl, rfl⟩
    exact ⟨rfl, Keep.refl _ _⟩
  · refine (wword_no h (hs s r rfl)).mono ?_
    rintro e w' ⟨rfl, u, rfl⟩
    exact ⟨rfl, (Keep.refl _ w).setCell (fun hk => hk.2 rfl) _⟩
set_option maxHeartbeats 4000000 in
set_option maxRecDepth 1000000 in
theorem pull_no1 {D : Nat → Prop} {N : Nat} {w : World} {l : List ByteArray} {vs : List Value} (h : LnIn D N w l vs) (hs : ∀ s r, l = s :: r → isWord s = false) :
    Calls Tryz.prog 107 #[.pointer (some ⟨N, 0, none⟩)] w fun e w' => e = nones ∧ SideN N w w' := by
  have H : Hid (LnIn D N w.drew l vs) := hide (h.below ((Below.refl _ w).drew))
  have h0 : SideN N w w.drew := (Keep.refl _ w).drew
  clear h
  go_enter Tryz.func107, Tryz.ntmps107
  go_upto_region 0 with fail
  refine wp_region_held_drew (S := fun _ => True) (by kernel_rfl) trivial (fun hHeld => ?_)
  refine tk (v := ?_) 0 hHeld ?_ ?_
  rotate_left
  · intro w' hSw
    first | (go_simp; done) | (go_simp; with_reducible rfl)
  try simp only [List.set_cons_zero, List.set_cons_succ]
  refine tk (v := ?_) 1 hHeld ?_ ?_
  rotate_left
  · intro w' hSw
    first | (go_simp; done) | (go_simp; with_reducible rfl)
  try simp only [List.set_cons_zero, List.set_cons_succ]
  refine tk (v := ?_) 2 hHeld ?_ ?_
  rotate_left
  · intro w' hSw
    first | (go_simp; done) | (go_simp; with_reducible rfl)
  try simp only [List.set_cons_zero, List.set_cons_succ]
  refine tk (v := ?_) 3 hHeld ?_ ?_
  rotate_left
  · intro w' hSw
    first | (go_simp; done) | (go_simp; with_reducible rfl)
  try simp only [List.set_cons_zero, List.set_cons_succ]
  refine tk (v := ?_) 4 hHeld ?_ ?_
  rotate_left
  · intro w' hSw
    first | (go_simp; done) | (go_simp; with_reducible rfl)
  try simp only [List.set_cons_zero, List.set_cons_succ]
  refine tk (v := ?_) 6 hHeld ?_ ?_
  rotate_left
  · intro w' hSw
    first | (go_simp; done) | (go_simp; with_reducible rfl)
  try simp only [List.set_cons_zero, List.set_cons_succ]
  refine tk (v := ?_) 7 hHeld ?_ ?_
  rotate_left
  · intro w' hSw
    first | (go_simp; done) | (go_simp; with_reducible rfl)
  try simp only [List.set_cons_zero, List.set_cons_succ]
  refine tk (v := ?_) 8 hHeld ?_ ?_
  rotate_left
  · intro w' hSw
    first | (go_simp; done) | (go_simp; with_reducible rfl)
  try simp only [List.set_cons_zero, List.set_cons_succ]
  refine wpAnyH_ready (rs := [5]) (by kernel_rfl) (by simp) ?_
  refine AllReadyH.cons rfl (fun K hK => ?_) AllReadyH.nil
  go_simp
  go_wp2_with (go_at_call 77; (with_reducible refine (wword_stop H.out.wd hs).mono ?_); rintro e1 w1 ⟨rfl, h1⟩)
  exact ⟨rfl, rfl, h0.trans (h1.mono fun k hk => ⟨Nat.lt_of_lt_of_le hk.1 h0.size, hk.2⟩)⟩

set_option maxHeartbeats 4000000 in
set_option maxRecDepth 1000000 in
theorem pull_no2 {D : Nat → Prop} {N : Nat} {w : World} {s : ByteArray} {l : List ByteArray} {vs : List Value} (h : LnIn D N w (s :: l) vs) (hw : isWord s = true) (hs : ∀ s r, l = s :: r → isWord s = false) :
    Calls Tryz.prog 107 #[.pointer (some ⟨N, 0, none⟩)] w fun e w' => e = nones ∧ SideN N w w' := by
  have H : Hid (LnIn D N w.drew (s :: l) vs) := hide (h.below ((Below.refl _ w).drew))
  have h0 : SideN N w w.drew := (Keep.refl _ w).drew
  clear h
  go_enter Tryz.func107, Tryz.ntmps107
  go_upto_region 0 with fail
  refine wp_region_held_drew (S := fun _ => True) (by kernel_rfl) trivial (fun hHeld => ?_)
  refine tk (v := ?_) 0 hHeld ?_ ?_
  rotate_left
  · intro w' hSw
    first | (go_simp; done) | (go_simp; with_reducible rfl)
  try simp only [List.set_cons_zero, List.set_cons_succ]
  refine tk (v := ?_) 1 hHeld ?_ ?_
  rotate_left
  · intro w' hSw
    first | (go_simp; done) | (go_simp; with_reducible rfl)
  try simp only [List.set_cons_zero, List.set_cons_succ]
  refine tk (v := ?_) 2 hHeld ?_ ?_
  rotate_left
  · intro w' hSw
    first | (go_simp; done) | (go_simp; with_reducible rfl)
  try simp only [List.set_cons_zero, List.set_cons_succ]
  refine tk (v := ?_) 3 hHeld ?_ ?_
  rotate_left
  · intro w' hSw
    first | (go_simp; done) | (go_simp; with_reducible rfl)
  try simp only [List.set_cons_zero, List.set_cons_succ]
  refine tk (v := ?_) 4 hHeld ?_ ?_
  rotate_left
  · intro w' hSw
    first | (go_simp; done) | (go_simp; with_reducible rfl)
  try simp only [List.set_cons_zero, List.set_cons_succ]
  refine tk (v := ?_) 6 hHeld ?_ ?_
  rotate_left
  · intro w' hSw
    first | (go_simp; done) | (go_simp; with_reducible rfl)
  try simp only [List.set_cons_zero, List.set_cons_succ]
  refine tk (v := ?_) 7 hHeld ?_ ?_
  rotate_left
  · intro w' hSw
    first | (go_simp; done) | (go_simp; with_reducible rfl)
  try simp only [List.set_cons_zero, List.set_cons_succ]
  refine tk (v := ?_) 8 hHeld ?_ ?_
  rotate_left
  · intro w' hSw
    first | (go_simp; done) | (go_simp; with_reducible rfl)
  try simp only [List.set_cons_zero, List.set_cons_succ]
  refine wpAnyH_ready (rs := [5]) (by kernel_rfl) (by simp) ?_
  refine AllReadyH.cons rfl (fun K hK => ?_) AllReadyH.nil
  go_simp
  go_wp2_with (go_at_call 77; (with_reducible refine (wword_yes H.out.wd hw).mono ?_); rintro e1 w1 ⟨rfl, h1, u, hu⟩; have h2 := H.out.take hu h1; have H2 := hide h2; have h3 : SideN N w w1 := (by rw [hu]; exact h0.setCell (fun hk => hk.2 rfl) u); clear hu h1 h2)
  refine hK.out _ _ trivial (fun hHeld => ?_)
  clear hK K
  try simp only [Act.put, List.getElem_toArray, List.getElem_cons_zero, List.getElem_cons_succ, List.setIfInBounds_toArray, List.set_cons_zero, List.set_cons_succ]
  refine wpAnyH_ready (rs := [9]) (by kernel_rfl) (by simp) ?_
  refine AllReadyH.cons rfl (fun K hK => ?_) AllReadyH.nil
  go_simp
  go_wp2_with (go_at_call 77; (with_reducible refine (wword_stop H2.out.wd hs).mono ?_); rintro e4 w4 ⟨rfl, h4⟩)
  exact ⟨rfl, rfl, h3.trans (h4.mono fun k hk => ⟨Nat.lt_of_lt_of_le hk.1 h3.size, hk.2⟩)⟩

end Go.Proofs.YtjjaojnglnpgaaaGreatDoor
