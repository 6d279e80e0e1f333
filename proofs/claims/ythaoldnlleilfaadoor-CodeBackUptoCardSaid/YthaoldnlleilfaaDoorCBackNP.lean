/- CodeBack, one way: np. Printed by gen_back.py. -/
import Derived.Test.YthaoldnlleilfaaDoorCBackBase

set_option linter.unusedVariables false
set_option linter.unusedSimpArgs false

namespace Go.Proofs.YthaoldnlleilfaaDoor
open Go.RowKit

set_option maxHeartbeats 4000000 in
set_option maxRecDepth 1000000 in
theorem codeBack_np {S S' : Nat → Prop} {x : Ph} {p : Pt} {cut : Int} {A : Option Addr} {c : Nat} {b : List UInt8} {w : World} (hp : PtIn S w x p) (hcut : is63 cut) (hb : BytesIn S' w A b) (hc : b.length ≤ c) (hc2 : c ≤ 9223372036854775807) (htab : TabOk w)
    (hsum : p.edit.frm.size + p.edit.to.size ≤ 9223372036854775807) (hlen : (ptB p).length ≤ 549755813888) (h20 : b.length ≤ 20000) (hnil : A = none → b.length = 0 ∧ c = 0) (hno : ¬ PatAt b) (hok : PtOk p) (hbne : ¬ b = []) :
    Calls Tryd.prog 3 #[.agg #[.int .u8 p.kind, .string p.file, .string p.text, .int .i64 p.hunk.at_, .slice x.h.oA p.hunk.old.length x.h.oc, .slice x.h.nA p.hunk.new.length x.h.nc, .int .u8 p.edit.kind, .slice x.e.pA p.edit.path.length x.e.pc, .int .i64 p.edit.at_, .int .i64 p.edit.far, .string p.edit.frm, .string p.edit.to, .slice x.e.oA p.edit.old.len x.e.oc, .slice x.e.nA p.edit.new.len x.e.nc], .int .i64 cut, .slice A b.length c] w fun e w' => e = .returned (.bool true) ∧ Below w.heap.size w w' := by
  have Hp := hide hp
  have Hb := hide hb
  have Htab := hide htab
  have hlid : (ptB p).length ≤ lid := Nat.le_trans hlen (by decide)
  have hbl : b.length ≤ lid := Nat.le_trans h20 (by decide)
  obtain ⟨i0, hi, ia0, ia1, ia2⟩ := info_parts Tryu8
  have hbv : (bytesV b).length = b.length * 1 := by simp [bytesV]
  have hapm : (ptB p).length + b.length ≤ maxLen := by unfold maxLen; omega
  have hapb : ((ptB p).length + b.length) * 1 ≤ 140737488355328 := by omega
  have hsl : (ptB p).length + b.length ≤ lid := Nat.le_trans (Nat.add_le_add hlen h20) (by decide)
  have hbz : ((b.length : Int) == 0) = false := by have := List.length_pos_iff.mpr hbne; simp; omega
  clear hp hb htab
  go_enter Tryd.func3, Tryd.ntmps3
  go_wp2_with (first
    | (go_at_call 5; (with_reducible refine (awake_any (Htab.out.below (below_alloc _ _))).mono ?_); rintro e1 w1 ⟨rfl, hB⟩; have HB1 : Hid (Below w.heap.size w w1) := hide (blw_up (below_alloc _ _) hB); obtain ⟨hx1, hf1, hz1⟩ := bbox (N := w.heap.size) hB (by simp); clear hB)
    | (go_at_call 6; (with_reducible refine (patchOf_any (Hp.out.below HB1.out) is2500).mono ?_); rintro e2 w2 ⟨⟨r, rfl, hr⟩, hB⟩; have HB2 : Hid (Below w.heap.size w w2) := hide (blw_up HB1.out hB); obtain ⟨hx2, hf2, hz2⟩ := bbox (N := w.heap.size) hB (by first | exact hz1 | (simp; omega)); clear hB)
    | (go_at_call 7; (with_reducible refine (get_no (n := b.length) (Hb.out.below HB2.out) rfl hc hc2 hbl (Htab.out.below HB2.out) hno).mono ?_); rintro e3 w3 ⟨hB, rfl⟩; have HB3 : Hid (Below w.heap.size w w3) := hide (blw_up HB2.out hB); obtain ⟨hx3, hf3, hz3⟩ := bbox (N := w.heap.size) hB (by first | exact hz2 | (simp; omega)); clear hB)
    | (go_at_call 11; (with_reducible refine (samePatch_zero).mono ?_); rintro e4 w4 ⟨rfl, hB⟩; have HB4 : Hid (Below w.heap.size w w4) := hide (HB3.out.trans (((below_alloc _ _).mono HB3.out.size).trans (hB.mono (Nat.le_trans HB3.out.size (by simp))))); obtain ⟨hx4, hf4, hz4⟩ := bbox (N := w.heap.size) hB (by simp; omega); clear hB)
    | (go_at_call 8; (with_reducible refine (put_yes (Hp.out.below HB4.out) (Htab.out.below HB4.out) hsum hlid hok).mono ?_); rintro e5 w5 ⟨⟨Aa, ca, rfl, hba, hca, hda⟩, hB⟩; have HB5 : Hid (Below w.heap.size w w5) := hide (blw_up HB4.out hB); obtain ⟨hx5, hf5, hz5⟩ := bbox (N := w.heap.size) hB (by first | exact hz4 | (simp; omega)); have Hb5 := hide hba; clear hba; clear hB)
    | (go_at_call 9; (with_reducible refine (right_yes (Hp.out.below HB5.out) (Htab.out.below HB5.out) hsum hok).mono ?_); rintro e6 w6 ⟨rfl, hB⟩; have HB6 : Hid (Below w.heap.size w w6) := hide (blw_up HB5.out hB); obtain ⟨hx6, hf6, hz6⟩ := bbox (N := w.heap.size) hB (by first | exact hz5 | (simp; omega)); have Hb6 := hide (Hb5.out.below hB); clear hB)
    | (go_at_call 7; (with_reducible refine (get_yes (n := (ptB p).length) (Hb6.out) rfl hca hda hlid (Htab.out.below HB6.out) Hp.out.fit hok rfl).mono ?_); rintro e7 w7 ⟨hB, y, rfl, hqy⟩; have HB7 : Hid (Below w.heap.size w w7) := hide (blw_up HB6.out hB); obtain ⟨hx7, hf7, hz7⟩ := bbox (N := w.heap.size) hB (by first | exact hz6 | (simp; omega)); have HY := hide hqy; clear hqy; have Hb7 := hide (Hb6.out.below hB); clear hB)
    | (go_at_call 12; (with_reducible refine (pick_nat hcut hlid (ptB_pos p)).mono ?_); rintro ek wk ⟨⟨k, rfl, hk⟩, rfl⟩; have hk1 := Nat.le_trans (Nat.le_of_lt hk) hca; have hk2 := Nat.le_trans (Nat.le_of_lt hk) hlid; have hk3 := take_len hk)
    | (go_at_call 7; (with_reducible refine (get_no (n := k) ((Hb7.out.below (below_alloc _ _)).take k) hk3 hk1 hda hk2 (Htab.out.below (HB7.out.trans ((below_alloc _ _).mono HB7.out.size))) (pat_cut Hp.out.fit hok hk)).mono ?_); rintro e8 w8 ⟨hB, rfl⟩; have HB8 : Hid (Below w.heap.size w w8) := hide (HB7.out.trans (((below_alloc _ _).mono HB7.out.size).trans (hB.mono (Nat.le_trans HB7.out.size (by simp))))); obtain ⟨hx8, hf8, hz8⟩ := bbox (N := w.heap.size) hB (by simp; omega); have Hb8 := hide ((Hb7.out.below (below_alloc _ _)).below hB); have HZ8 : Hid (Below w7.heap.size w7 w8) := hide (blw_up (below_alloc _ _) hB); obtain ⟨hy8, hyf8, hyz8⟩ := bbox (N := w7.heap.size) hB (by simp); clear hB)
    | (go_at_call 13; (with_reducible refine (copy_n (n := (ptB p).length) (Hb8.out.below (below_alloc _ _)) rfl hlid).mono ?_); rintro e9 w9 ⟨v, rfl, hown, hg, hB⟩; have HB9 : Hid (Below w.heap.size w w9) := hide (HB8.out.trans (((below_alloc _ _).mono HB8.out.size).trans (hB.mono (Nat.le_trans HB8.out.size (by simp))))); obtain ⟨hx9, hf9, hz9⟩ := bbox (N := w.heap.size) hB (by simp; omega); have Hown := hide hown; have Hg := hide hg; clear hown hg; have HZ9 : Hid (Below w7.heap.size w7 w9) := hide (HZ8.out.trans (((below_alloc _ _).mono HZ8.out.size).trans (hB.mono (Nat.le_trans HZ8.out.size (by simp))))); obtain ⟨hy9, hyf9, hyz9⟩ := bbox (N := w7.heap.size) hB (by simp; omega); clear hB)
    | (at_builtin; refine wpList_append_any _ rfl _ _ 33 rfl 5 i0 (.int .u8 0) 1 1 Tryd.underlying33 hi ia0 ia1 ia2 rfl (by decide) v _ _ rfl Hown.out A b.length c (bytesV b) rfl hbv hnil (rd_cells (Hb.out.below HB9.out).1) (bytes_one b) hapm hapb ?_; intro va w10 howna hgrow hwhere; obtain ⟨Av, cv, rfl, hbA, hcv, hdv⟩ := own_bytes (S := fun _ => True) (own_app howna) (fun _ _ => trivial); have HbA := hide hbA; have HB10 : Hid (Below w.heap.size w w10) := hide (Below.grown HB9.out hgrow HB9.out.size (fun k hk => Nat.le_trans HB8.out.size (Nat.le_trans (by simp) (Hg.out k hk)))); have HZ10 : Hid (Below w7.heap.size w7 w10) := hide (Below.grown HZ9.out hgrow HZ9.out.size (fun k hk => Nat.le_trans HZ8.out.size (Nat.le_trans (by simp) (Hg.out k hk)))); have hx10 : ∀ o, w10.cell? ⟨w.heap.size, o, none⟩ = w9.cell? ⟨w.heap.size, o, none⟩ := (fun o => World.cell?_of_block (a := ⟨w.heap.size, o, none⟩) (hgrow.block w.heap.size hz9 (fun e => by have := Hg.out _ e.symm; simp at this; omega))); have hz10 : w.heap.size < w10.heap.size := Nat.lt_of_lt_of_le hz9 hgrow.size; have hy10 : ∀ o, w10.cell? ⟨w7.heap.size, o, none⟩ = w9.cell? ⟨w7.heap.size, o, none⟩ := (fun o => World.cell?_of_block (a := ⟨w7.heap.size, o, none⟩) (hgrow.block w7.heap.size hyz9 (fun e => by have := Hg.out _ e.symm; simp at this; omega))); have hyz10 : w7.heap.size < w10.heap.size := Nat.lt_of_lt_of_le hyz9 hgrow.size; clear howna hgrow hwhere hbA)
    | (go_at_call 7; (with_reducible refine (get_no (n := (ptB p).length + b.length) HbA.out (List.length_append) hcv hdv hsl (Htab.out.below HB10.out) (pat_more Hp.out.fit hok.bare hbne)).mono ?_); rintro e11 w11 ⟨hB, rfl⟩; have HB11 : Hid (Below w.heap.size w w11) := hide (blw_up HB10.out hB); obtain ⟨hx11, hf11, hz11⟩ := bbox (N := w.heap.size) hB (by first | exact hz10 | (simp; omega)); have HZ11 : Hid (Below w7.heap.size w7 w11) := hide (blw_up HZ10.out hB); obtain ⟨hy11, hyf11, hyz11⟩ := bbox (N := w7.heap.size) hB hyz10; clear hB)
    | (go_at_call 14; (with_reducible refine (patchSame_self (Hp.out.below (HB11.out.trans ((below_alloc _ _).mono HB11.out.size))) (HY.out.below (HZ11.out.trans ((below_alloc _ _).mono HZ11.out.size)))).mono ?_); rintro e12 w12 ⟨rfl, hB⟩; have HB12 : Hid (Below w.heap.size w w12) := hide (HB11.out.trans (((below_alloc _ _).mono HB11.out.size).trans (hB.mono (Nat.le_trans HB11.out.size (by simp))))); obtain ⟨hx12, hf12, hz12⟩ := bbox (N := w.heap.size) hB (by simp; omega); clear hB))
  all_goals (go_ret; go_tidy)
  all_goals first | exact ⟨rfl, HB12.out⟩ | exact ⟨rfl, HB2.out⟩

end Go.Proofs.YthaoldnlleilfaaDoor
