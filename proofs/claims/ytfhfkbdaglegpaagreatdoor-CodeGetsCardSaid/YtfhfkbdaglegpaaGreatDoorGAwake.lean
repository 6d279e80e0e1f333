/- awake: the chapter's example. Printed by gen_awake.py. -/
import Derived.Test.YtfhfkbdaglegpaaGreatDoorGGet2
import Derived.Test.YtfhfkbdaglegpaaGreatDoorGWrit
import Derived.Test.YtfhfkbdaglegpaaGreatDoorGKit

set_option linter.unusedVariables false
set_option linter.unusedSimpArgs false

namespace Go.Proofs.YtfhfkbdaglegpaaGreatDoor
open Go.RowKit

def p0 : Pt := ⟨1, txt [97], noTxt, Hk.zero, Ed.zero⟩
theorem p0_ok : PtOk p0 := by
  refine ⟨⟨by decide, by decide, ?_⟩, .inl ⟨.inl rfl, rfl, rfl⟩⟩
  intro c hc
  have : c = 97 := by simpa [p0, txt] using hc
  subst this
  exact .inl ⟨by decide, by decide⟩
theorem p0_fit : PtFit p0 := ⟨by decide, by decide, by decide, fitZero.1, fitZero.2⟩
theorem p0_len : (ptB p0).length = 18 := by decide
theorem p0_in {S : Nat → Prop} {w : World} : PtIn S w ⟨⟨none, 0, none, 0⟩, ⟨none, 0, none, 0, none, 0⟩⟩ p0 := ⟨by decide, by decide, by decide, ptZero.1, ptZero.2⟩
theorem p0_put {w : World} (htab : TabOk w) : Calls Tryz.prog 9 #[.agg #[.int .u8 1, .string { data := #[97] }, .string { data := #[] }, .int .i64 0, .slice none 0 0, .slice none 0 0, .int .u8 0, .slice none 0 0, .int .i64 0, .int .i64 0, .string { data := #[] }, .string { data := #[] }, .slice none 0 0, .slice none 0 0]] w fun e w' => Below w.heap.size w w' ∧
    ∃ A c, e = .returned (.tuple #[.slice A 18 c, .int .i64 0]) ∧ BytesIn (fun b => w.heap.size ≤ b) w' A (ptB p0) ∧ 18 ≤ c ∧ c ≤ 9223372036854775807 := by
  have h := put_get (S := fun _ => True) (p := p0) (w := w) p0_in htab (by decide) (by rw [p0_len]; decide)
  refine Calls.mono h ?_
  rintro e w' ⟨hB, ⟨_, A, c, e1, e2, e3, e4⟩ | ⟨hno, _⟩⟩
  · rw [p0_len] at e1 e3
    exact ⟨hB, A, c, e1, e2, e3, e4⟩
  · exact absurd p0_ok hno
theorem n17 : 17 ≤ lid := by decide
theorem n18 : 18 ≤ lid := by decide
theorem n19 : 19 ≤ lid := by decide
theorem p0_cut : ((ptB p0).take 17).length = 17 := by decide
theorem pat_cut {p : Pt} (hf : PtFit p) (ho : PtOk p) {k : Nat} (hk : k < (ptB p).length) : ¬ PatAt ((ptB p).take k) := by
  rintro ⟨q, hq, hqo, he⟩
  have h := List.take_append_drop k (ptB p)
  rw [he] at h
  have := (ptB_split hq hf hqo.bare ho.bare (x := (ptB p).drop k) (y := []) (by rw [List.append_nil]; exact h)).2
  rw [List.drop_eq_nil_iff] at this
  omega
theorem own_bytes {S : Nat → Prop} {n : Nat} {w : World} {v : Value} {l : List UInt8} (h : w.ownsRow 0 5 1 v n (bytesV l)) (hS : ∀ g, v.ownBlock = some g → S g) : ∃ A c, v = .slice A n c ∧ BytesIn S w A l ∧ n ≤ c ∧ c ≤ 9223372036854775807 := by
  have hn : l.length = n := by have := h.1; simpa [bytesV] using this
  obtain ⟨A, c, rfl, h1, h2, h3⟩ := own_rd h hS
  exact ⟨A, c, rfl, ⟨h1, by omega⟩, h2, h3⟩

theorem copy_n {S : Nat → Prop} {A : Option Addr} {c n : Nat} {l : List UInt8} {w : World} (hb : BytesIn S w A l) (hn : l.length = n) (hlen : n ≤ lid) :
    Calls Tryz.prog 22 #[.slice A n c] w fun e w' => ∃ v, e = .returned v ∧ w'.ownsRow 0 5 1 v n (bytesV l) ∧ (∀ g, v.ownBlock = some g → w.heap.size ≤ g) ∧ Below w.heap.size w w' := by
  subst hn
  exact copyBytes_any hb hlen
theorem p0_more : (ptB p0 ++ [0]).length = 19 := by decide
theorem own_more {w : World} {v : Value} {n m : Nat} {l r : List UInt8} {vs : List Value} (h : w.ownsRow 0 5 1 v (n + m) (bytesV l ++ vs)) (hv : vs = bytesV r) : w.ownsRow 0 5 1 v (n + m) (bytesV (l ++ r)) := by
  subst hv
  rwa [bytesV_app]

set_option maxHeartbeats 4000000 in
set_option maxRecDepth 1000000 in
theorem awake_any {w : World} (htab : TabOk w) : Calls Tryz.prog 7 #[] w fun e w' => e = .returned (.bool true) ∧ Below w.heap.size w w' := by
  have Htab := hide htab
  obtain ⟨i0, hi, hz0, hz1, hz2⟩ := info_parts Tryu8
  have hfe : p0.file.toList = [97] := by rw [ByteArray.toList_eq]; rfl
  clear htab
  go_enter Tryz.func7, Tryz.ntmps7
  go_wp2_with (first
    | (go_at_call 9; (refine (p0_put Htab.out).mono ?_); rintro e1 w1 ⟨hB, A, c, rfl, hb, hc, hc2⟩; have Hb1 := hide hb; have HB1 := hide hB; clear hb hB)
    | (go_at_call 15; (with_reducible refine (get_yes (n := 18) (p := p0) Hb1.out p0_len hc hc2 n18 (Htab.out.below HB1.out) p0_fit p0_ok rfl).mono ?_); rintro e2 w2 ⟨hB, x, rfl, hp⟩; have HB2 : Hid (Below w.heap.size w w2) := hide (blw_up HB1.out hB); have Hb2 := hide (Hb1.out.below hB); have Hp := hide hp; clear hp hB)
    | (go_at_call 15; (with_reducible refine (get_no (n := 17) ((Hb2.out.below (below_alloc _ _)).take 17) p0_cut (Nat.le_of_succ_le hc) hc2 n17 (Htab.out.below (HB2.out.trans ((below_alloc _ _).mono HB2.out.size))) (pat_cut p0_fit p0_ok (Nat.lt_of_lt_of_eq (Nat.lt_succ_self 17) p0_len.symm))).mono ?_); rintro e3 w3 ⟨hB, rfl⟩; have HB3 : Hid (Below w.heap.size w w3) := hide (HB2.out.trans (((below_alloc _ _).mono HB2.out.size).trans (hB.mono (Nat.le_trans HB2.out.size (by simp))))); have Hb3 := hide ((Hb2.out.below (below_alloc _ _)).below hB); obtain ⟨hc3, hf3, hz3⟩ := bbox (N := w2.heap.size) hB (by simp); clear hB)
    | (go_at_call 22; (with_reducible refine (copy_n (Hb3.out.below (below_alloc _ _)) p0_len n18).mono ?_); rintro e4 w4 ⟨v, rfl, hown, hg, hB⟩; have Hown := hide hown; have Hg := hide hg; have HB4 : Hid (Below w.heap.size w w4) := hide (HB3.out.trans (((below_alloc _ _).mono HB3.out.size).trans (hB.mono (Nat.le_trans HB3.out.size (by simp))))); obtain ⟨hc4, hf4, hz4⟩ := bbox (N := w2.heap.size) hB (by simp; omega); have hs4 := hB.size; clear hB hown hg)
    | (at_builtin; refine wpList_append_own2 _ rfl _ _ 36 rfl 5 i0 (.int .u8 0) 1 1 Tryz.underlying36 hi hz0 hz1 hz2 rfl (by decide) v 18 (bytesV (ptB p0)) rfl (Hown.out.alloc _) ⟨w4.heap.size, 0, none⟩ 1 1 [.int .u8 0] rfl rfl (cell_one_new _ _ _) (by intro u hu; simp at hu; subst hu; rfl) (by unfold maxLen; omega) (by omega) ?_; intro v5 w5 hown5 hgrow hnil hwhere; have h5 := own_more (r := [0]) hown5 rfl; obtain ⟨A5, c5, rfl, hb5, hc5, hd5⟩ := own_bytes (S := fun _ => True) h5 (fun _ _ => trivial); have Hb5 := hide hb5; have HB5 : Hid (Below w.heap.size w w5) := hide (Below.grown (HB4.out.alloc HB4.out.size _) hgrow (Nat.le_trans HB4.out.size (by simp)) (fun k hk => Nat.le_trans HB3.out.size (Nat.le_trans (by simp) (Hg.out k hk)))); have hc5' : ∀ o, w5.cell? ⟨w2.heap.size, o, none⟩ = w4.cell? ⟨w2.heap.size, o, none⟩ := (fun o => (World.cell?_of_block (a := ⟨w2.heap.size, o, none⟩) (hgrow.block w2.heap.size (by simp; omega) (fun e => by have := Hg.out _ e.symm; simp at this; omega))).trans ((below_alloc w4 _).cell (p := ⟨w2.heap.size, o, none⟩) hz4)); have hz5 : w2.heap.size < w5.heap.size := (by have := hgrow.size; simp at this; omega); clear hown5 hgrow hnil hwhere h5 hb5)
    | (go_at_call 15; (with_reducible refine (get_no (n := 19) Hb5.out p0_more hc5 hd5 n19 (Htab.out.below HB5.out) (pat_more p0_fit p0_ok.bare (List.cons_ne_nil _ _))).mono ?_); rintro e6 w6 ⟨hB, rfl⟩; have HB6 : Hid (Below w.heap.size w w6) := hide (blw_up HB5.out hB); obtain ⟨hc6, hf6, hz6⟩ := bbox (N := w2.heap.size) hB hz5; clear hB))
  all_goals go_ret
  all_goals refine ⟨?_, HB6.out.alloc HB6.out.size _⟩
  all_goals first | rfl | (exfalso; exact ‹¬ p0.file.toList = [97]› hfe)

end Go.Proofs.YtfhfkbdaglegpaaGreatDoor
