/- CodeBack, one way: nn. Printed by gen_back.py. -/
import Derived.Test.YthaoldnlleilfaaDoorCBackBase

set_option linter.unusedVariables false
set_option linter.unusedSimpArgs false

namespace Go.Proofs.YthaoldnlleilfaaDoor
open Go.RowKit

set_option maxHeartbeats 4000000 in
set_option maxRecDepth 1000000 in
theorem codeBack_nn {S S' : Nat → Prop} {x : Ph} {p : Pt} {cut : Int} {A : Option Addr} {c : Nat} {b : List UInt8} {w : World} (hp : PtIn S w x p) (hcut : is63 cut) (hb : BytesIn S' w A b) (hc : b.length ≤ c) (hc2 : c ≤ 9223372036854775807) (htab : TabOk w)
    (hsum : p.edit.frm.size + p.edit.to.size ≤ 9223372036854775807) (hlen : (ptB p).length ≤ 549755813888) (h20 : b.length ≤ 20000) (hno : ¬ PatAt b) (hok : ¬ PtOk p) :
    Calls Tryd.prog 3 #[.agg #[.int .u8 p.kind, .string p.file, .string p.text, .int .i64 p.hunk.at_, .slice x.h.oA p.hunk.old.length x.h.oc, .slice x.h.nA p.hunk.new.length x.h.nc, .int .u8 p.edit.kind, .slice x.e.pA p.edit.path.length x.e.pc, .int .i64 p.edit.at_, .int .i64 p.edit.far, .string p.edit.frm, .string p.edit.to, .slice x.e.oA p.edit.old.len x.e.oc, .slice x.e.nA p.edit.new.len x.e.nc], .int .i64 cut, .slice A b.length c] w fun e w' => e = .returned (.bool true) ∧ Below w.heap.size w w' := by
  have Hp := hide hp
  have Hb := hide hb
  have Htab := hide htab
  have hlid : (ptB p).length ≤ lid := Nat.le_trans hlen (by decide)
  have hbl : b.length ≤ lid := Nat.le_trans h20 (by decide)
  clear hp hb htab
  go_enter Tryd.func3, Tryd.ntmps3
  go_wp2_with (first
    | (go_at_call 5; (with_reducible refine (awake_any (Htab.out.below (below_alloc _ _))).mono ?_); rintro e1 w1 ⟨rfl, hB⟩; have HB1 : Hid (Below w.heap.size w w1) := hide (blw_up (below_alloc _ _) hB); obtain ⟨hx1, hf1, hz1⟩ := bbox (N := w.heap.size) hB (by simp); clear hB)
    | (go_at_call 6; (with_reducible refine (patchOf_any (Hp.out.below HB1.out) is2500).mono ?_); rintro e2 w2 ⟨⟨r, rfl, hr⟩, hB⟩; have HB2 : Hid (Below w.heap.size w w2) := hide (blw_up HB1.out hB); obtain ⟨hx2, hf2, hz2⟩ := bbox (N := w.heap.size) hB (by first | exact hz1 | (simp; omega)); clear hB)
    | (go_at_call 7; (with_reducible refine (get_no (n := b.length) (Hb.out.below HB2.out) rfl hc hc2 hbl (Htab.out.below HB2.out) hno).mono ?_); rintro e3 w3 ⟨hB, rfl⟩; have HB3 : Hid (Below w.heap.size w w3) := hide (blw_up HB2.out hB); obtain ⟨hx3, hf3, hz3⟩ := bbox (N := w.heap.size) hB (by first | exact hz2 | (simp; omega)); clear hB)
    | (go_at_call 11; (with_reducible refine (samePatch_zero).mono ?_); rintro e4 w4 ⟨rfl, hB⟩; have HB4 : Hid (Below w.heap.size w w4) := hide (HB3.out.trans (((below_alloc _ _).mono HB3.out.size).trans (hB.mono (Nat.le_trans HB3.out.size (by simp))))); obtain ⟨hx4, hf4, hz4⟩ := bbox (N := w.heap.size) hB (by simp; omega); clear hB)
    | (go_at_call 8; (with_reducible refine (put_no (Hp.out.below HB4.out) (Htab.out.below HB4.out) hsum hlid hok).mono ?_); rintro e5 w5 ⟨rfl, hB⟩; have HB5 : Hid (Below w.heap.size w w5) := hide (blw_up HB4.out hB); obtain ⟨hx5, hf5, hz5⟩ := bbox (N := w.heap.size) hB (by first | exact hz4 | (simp; omega)); clear hB)
    | (go_at_call 9; (with_reducible refine (right_no (Hp.out.below HB5.out) (Htab.out.below HB5.out) hsum hok).mono ?_); rintro e6 w6 ⟨rfl, hB⟩; have HB6 : Hid (Below w.heap.size w w6) := hide (blw_up HB5.out hB); obtain ⟨hx6, hf6, hz6⟩ := bbox (N := w.heap.size) hB (by first | exact hz5 | (simp; omega)); clear hB))
  all_goals (go_ret; go_tidy)
  all_goals first | exact ⟨rfl, HB6.out⟩ | exact ⟨rfl, HB2.out⟩

end Go.Proofs.YthaoldnlleilfaaDoor
