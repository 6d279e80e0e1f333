/- When is an edit right? All kinds. -/
import Derived.Test.YtfhfkbdaglegpaaGreatDoorGEdR1
import Derived.Test.YtfhfkbdaglegpaaGreatDoorGEdR2
import Derived.Test.YtfhfkbdaglegpaaGreatDoorGEdR3
import Derived.Test.YtfhfkbdaglegpaaGreatDoorGEdR4
import Derived.Test.YtfhfkbdaglegpaaGreatDoorGEdR4c
import Derived.Test.YtfhfkbdaglegpaaGreatDoorGEdR0
import Derived.Test.YtfhfkbdaglegpaaGreatDoorGPatRt1

set_option linter.unusedVariables false
set_option linter.unusedSimpArgs false

namespace Go.Proofs.YtfhfkbdaglegpaaGreatDoor
open Go.RowKit

theorem part_cons {f : Fo} (h : PartOk f) : ∃ k t n ks, f = .cons k t n ks .nil ∧ NodeOk 40 k t n ks := by
  match f, h with
  | .cons k t n ks .nil, h => exact ⟨k, t, n, ks, rfl, h⟩
theorem edRight_any {S : Nat → Prop} {x : Eh} {e : Ed} {w : World} (he : EdIn S w x e) (htab : TabOk w) (hsum : e.frm.size + e.to.size ≤ 9223372036854775807) :
    Calls Tryz.prog 51 #[.agg #[.int .u8 e.kind, .slice x.pA e.path.length x.pc, .int .i64 e.at_, .int .i64 e.far, .string e.frm, .string e.to, .slice x.oA e.old.len x.oc, .slice x.nA e.new.len x.nc]] w fun e1 w' => RetB (EdOk e) e1 ∧ Below w.heap.size w w' := by
  have hkk := he.kind
  obtain ⟨kd, path, at_, far, frm, tto, old, new⟩ := e
  simp only at hsum hkk
  by_cases h1 : kd = 1
  · subst h1; exact edRight_1 he htab hsum
  by_cases h2 : kd = 2
  · subst h2
    by_cases hq : frm = noTxt ∧ tto = noTxt
    · obtain ⟨rfl, rfl⟩ := hq
      exact edRight_2a he htab hsum rfl rfl
    · exact edRight_2b he htab hsum hq
  by_cases h3 : kd = 3
  · subst h3
    by_cases hq : frm = noTxt ∧ tto = noTxt
    · obtain ⟨rfl, rfl⟩ := hq
      exact edRight_3a he htab hsum rfl rfl
    · exact edRight_3b he htab hsum hq
  by_cases h5 : kd = 5
  · subst h5
    by_cases hq : frm = noTxt ∧ tto = noTxt
    · obtain ⟨rfl, rfl⟩ := hq
      exact edRight_5a he htab hsum rfl rfl
    · exact edRight_5b he htab hsum hq
  by_cases h4 : kd = 4
  · subst h4
    by_cases hq : frm = noTxt ∧ tto = noTxt
    · obtain ⟨rfl, rfl⟩ := hq
      by_cases hp : PartOk old ∧ PartOk new ∧ at_ = 0 ∧ far = 0
      · obtain ⟨hp1, hp2, rfl, rfl⟩ := hp
        obtain ⟨k, t, n, ks, rfl, g1⟩ := part_cons hp1
        obtain ⟨k2, t2, n2, ks2, rfl, g2⟩ := part_cons hp2
        exact edRight_4c he.path he.oc he.nc he.old he.new g1 g2 htab
      · exact edRight_4a2 he htab hsum rfl rfl hp
    · exact edRight_4b he htab hsum hq
  by_cases hq : frm = noTxt ∧ tto = noTxt
  · obtain ⟨rfl, rfl⟩ := hq
    exact edRight_0a he htab hsum rfl rfl (by simp only; omega) (by simp only; omega) (by simp only; omega) (by simp only; omega) (by simp only; omega)
  · exact edRight_0b he htab hsum hq (by simp only; omega) (by simp only; omega) (by simp only; omega) (by simp only; omega) (by simp only; omega)

end Go.Proofs.YtfhfkbdaglegpaaGreatDoor

namespace Go.Proofs.YtfhfkbdaglegpaaGreatDoor
open Go.RowKit

set_option maxRecDepth 100000 in
set_option maxHeartbeats 4000000 in
theorem patchRight_4 {S : Nat → Prop} {x : Ph} {p : Pt} {w : World} (hp : PtIn S w x p) (htab : TabOk w) (hsum : p.edit.frm.size + p.edit.to.size ≤ 9223372036854775807) :
    Calls Tryz.prog 28 #[.agg #[.int .u8 4, .string p.file, .string p.text, .int .i64 p.hunk.at_, .slice x.h.oA p.hunk.old.length x.h.oc, .slice x.h.nA p.hunk.new.length x.h.nc, .int .u8 p.edit.kind, .slice x.e.pA p.edit.path.length x.e.pc, .int .i64 p.edit.at_, .int .i64 p.edit.far, .string p.edit.frm, .string p.edit.to, .slice x.e.oA p.edit.old.len x.e.oc, .slice x.e.nA p.edit.new.len x.e.nc]] w fun e w' => RetB (PtOk { p with kind := 4 }) e ∧ Below w.heap.size w w' := by
  have Hp := hide hp
  have hfile := hp.file
  have Hok := hide (@ptOk_4 p)
  have Htab : Hid (TabOk w) := htab
  clear hp htab
  go_enter Tryz.func28, Tryz.ntmps28
  go_upto_region 10 with fail
  go_region_with (go_at_call 51; (with_reducible refine (edRight_any (x := x.e) (e := p.edit) (Hp.out.edit.below (by repeat first | exact Below.refl _ _ | refine Below.drew ?_ | refine Below.setCell ?_ (by simp) _ | refine Below.alloc ?_ (by simp) _)) (Htab.out.below (by repeat first | exact Below.refl _ _ | refine Below.drew ?_ | refine Below.setCell ?_ (by simp) _ | refine Below.alloc ?_ (by simp) _)) hsum).mono ?_); rintro e1 w1 ⟨⟨b, rfl, hb⟩, hB⟩; have Hc := hide hb; obtain ⟨hc1, hf1, hz1⟩ := bbox (N := w.heap.size) hB (by simp <;> omega); obtain ⟨hc2, hf2, hz2⟩ := bbox (N := w.heap.size + 1) hB (by simp <;> omega); have Hh : Hid (Has w1 (w.heap.size + 1) 14) := hide (Has.of_eq (Has.new2 _ _ _ _ _ (by simp)) hc2); have HBw : Hid (Below w.heap.size w w1) := hide (blw_up (w := w) (by repeat first | exact Below.refl _ _ | refine Below.drew ?_ | refine Below.setCell ?_ (by simp) _ | refine Below.alloc ?_ (by simp) _) hB); clear hb hB)
  all_goals have g6 : (w1.setCell ⟨w.heap.size + 1, 6, none⟩ (.int .u8 p.edit.kind)).cell? ⟨w.heap.size + 1, 6, none⟩ = some (.int .u8 p.edit.kind) := cell_set_at (n := 14) Hh.out (by omega)
  all_goals have g7 : ((w1.setCell ⟨w.heap.size + 1, 6, none⟩ (.int .u8 p.edit.kind)).setCell ⟨w.heap.size + 1, 7, none⟩ (.slice x.e.pA p.edit.path.length x.e.pc)).cell? ⟨w.heap.size + 1, 7, none⟩ = some (.slice x.e.pA p.edit.path.length x.e.pc) := cell_set_at (n := 14) (Has.set Hh.out ⟨w.heap.size + 1, 6, none⟩ _) (by omega)
  all_goals have g8 : (((w1.setCell ⟨w.heap.size + 1, 6, none⟩ (.int .u8 p.edit.kind)).setCell ⟨w.heap.size + 1, 7, none⟩ (.slice x.e.pA p.edit.path.length x.e.pc)).setCell ⟨w.heap.size + 1, 8, none⟩ (.int .i64 p.edit.at_)).cell? ⟨w.heap.size + 1, 8, none⟩ = some (.int .i64 p.edit.at_) := cell_set_at (n := 14) (Has.set (Has.set Hh.out ⟨w.heap.size + 1, 6, none⟩ _) ⟨w.heap.size + 1, 7, none⟩ _) (by omega)
  all_goals have g9 : ((((w1.setCell ⟨w.heap.size + 1, 6, none⟩ (.int .u8 p.edit.kind)).setCell ⟨w.heap.size + 1, 7, none⟩ (.slice x.e.pA p.edit.path.length x.e.pc)).setCell ⟨w.heap.size + 1, 8, none⟩ (.int .i64 p.edit.at_)).setCell ⟨w.heap.size + 1, 9, none⟩ (.int .i64 p.edit.far)).cell? ⟨w.heap.size + 1, 9, none⟩ = some (.int .i64 p.edit.far) := cell_set_at (n := 14) (Has.set (Has.set (Has.set Hh.out ⟨w.heap.size + 1, 6, none⟩ _) ⟨w.heap.size + 1, 7, none⟩ _) ⟨w.heap.size + 1, 8, none⟩ _) (by omega)
  all_goals have g10 : (((((w1.setCell ⟨w.heap.size + 1, 6, none⟩ (.int .u8 p.edit.kind)).setCell ⟨w.heap.size + 1, 7, none⟩ (.slice x.e.pA p.edit.path.length x.e.pc)).setCell ⟨w.heap.size + 1, 8, none⟩ (.int .i64 p.edit.at_)).setCell ⟨w.heap.size + 1, 9, none⟩ (.int .i64 p.edit.far)).setCell ⟨w.heap.size + 1, 10, none⟩ (.string p.edit.frm)).cell? ⟨w.heap.size + 1, 10, none⟩ = some (.string p.edit.frm) := cell_set_at (n := 14) (Has.set (Has.set (Has.set (Has.set Hh.out ⟨w.heap.size + 1, 6, none⟩ _) ⟨w.heap.size + 1, 7, none⟩ _) ⟨w.heap.size + 1, 8, none⟩ _) ⟨w.heap.size + 1, 9, none⟩ _) (by omega)
  all_goals have g11 : ((((((w1.setCell ⟨w.heap.size + 1, 6, none⟩ (.int .u8 p.edit.kind)).setCell ⟨w.heap.size + 1, 7, none⟩ (.slice x.e.pA p.edit.path.length x.e.pc)).setCell ⟨w.heap.size + 1, 8, none⟩ (.int .i64 p.edit.at_)).setCell ⟨w.heap.size + 1, 9, none⟩ (.int .i64 p.edit.far)).setCell ⟨w.heap.size + 1, 10, none⟩ (.string p.edit.frm)).setCell ⟨w.heap.size + 1, 11, none⟩ (.string p.edit.to)).cell? ⟨w.heap.size + 1, 11, none⟩ = some (.string p.edit.to) := cell_set_at (n := 14) (Has.set (Has.set (Has.set (Has.set (Has.set Hh.out ⟨w.heap.size + 1, 6, none⟩ _) ⟨w.heap.size + 1, 7, none⟩ _) ⟨w.heap.size + 1, 8, none⟩ _) ⟨w.heap.size + 1, 9, none⟩ _) ⟨w.heap.size + 1, 10, none⟩ _) (by omega)
  all_goals have g12 : (((((((w1.setCell ⟨w.heap.size + 1, 6, none⟩ (.int .u8 p.edit.kind)).setCell ⟨w.heap.size + 1, 7, none⟩ (.slice x.e.pA p.edit.path.length x.e.pc)).setCell ⟨w.heap.size + 1, 8, none⟩ (.int .i64 p.edit.at_)).setCell ⟨w.heap.size + 1, 9, none⟩ (.int .i64 p.edit.far)).setCell ⟨w.heap.size + 1, 10, none⟩ (.string p.edit.frm)).setCell ⟨w.heap.size + 1, 11, none⟩ (.string p.edit.to)).setCell ⟨w.heap.size + 1, 12, none⟩ (.slice x.e.oA p.edit.old.len x.e.oc)).cell? ⟨w.heap.size + 1, 12, none⟩ = some (.slice x.e.oA p.edit.old.len x.e.oc) := cell_set_at (n := 14) (Has.set (Has.set (Has.set (Has.set (Has.set (Has.set Hh.out ⟨w.heap.size + 1, 6, none⟩ _) ⟨w.heap.size + 1, 7, none⟩ _) ⟨w.heap.size + 1, 8, none⟩ _) ⟨w.heap.size + 1, 9, none⟩ _) ⟨w.heap.size + 1, 10, none⟩ _) ⟨w.heap.size + 1, 11, none⟩ _) (by omega)
  all_goals have g13 : ((((((((w1.setCell ⟨w.heap.size + 1, 6, none⟩ (.int .u8 p.edit.kind)).setCell ⟨w.heap.size + 1, 7, none⟩ (.slice x.e.pA p.edit.path.length x.e.pc)).setCell ⟨w.heap.size + 1, 8, none⟩ (.int .i64 p.edit.at_)).setCell ⟨w.heap.size + 1, 9, none⟩ (.int .i64 p.edit.far)).setCell ⟨w.heap.size + 1, 10, none⟩ (.string p.edit.frm)).setCell ⟨w.heap.size + 1, 11, none⟩ (.string p.edit.to)).setCell ⟨w.heap.size + 1, 12, none⟩ (.slice x.e.oA p.edit.old.len x.e.oc)).setCell ⟨w.heap.size + 1, 13, none⟩ (.slice x.e.nA p.edit.new.len x.e.nc)).cell? ⟨w.heap.size + 1, 13, none⟩ = some (.slice x.e.nA p.edit.new.len x.e.nc) := cell_set_at (n := 14) (Has.set (Has.set (Has.set (Has.set (Has.set (Has.set (Has.set Hh.out ⟨w.heap.size + 1, 6, none⟩ _) ⟨w.heap.size + 1, 7, none⟩ _) ⟨w.heap.size + 1, 8, none⟩ _) ⟨w.heap.size + 1, 9, none⟩ _) ⟨w.heap.size + 1, 10, none⟩ _) ⟨w.heap.size + 1, 11, none⟩ _) ⟨w.heap.size + 1, 12, none⟩ _) (by omega)
  all_goals have HBx : Hid (Below w.heap.size w ((((((((w1.setCell ⟨w.heap.size + 1, 6, none⟩ (.int .u8 p.edit.kind)).setCell ⟨w.heap.size + 1, 7, none⟩ (.slice x.e.pA p.edit.path.length x.e.pc)).setCell ⟨w.heap.size + 1, 8, none⟩ (.int .i64 p.edit.at_)).setCell ⟨w.heap.size + 1, 9, none⟩ (.int .i64 p.edit.far)).setCell ⟨w.heap.size + 1, 10, none⟩ (.string p.edit.frm)).setCell ⟨w.heap.size + 1, 11, none⟩ (.string p.edit.to)).setCell ⟨w.heap.size + 1, 12, none⟩ (.slice x.e.oA p.edit.old.len x.e.oc)).setCell ⟨w.heap.size + 1, 13, none⟩ (.slice x.e.nA p.edit.new.len x.e.nc))) := hide (Below.setCell (Below.setCell (Below.setCell (Below.setCell (Below.setCell (Below.setCell (Below.setCell (Below.setCell HBw.out (p := ⟨w.heap.size + 1, 6, none⟩) (Nat.le_succ _) _) (p := ⟨w.heap.size + 1, 7, none⟩) (Nat.le_succ _) _) (p := ⟨w.heap.size + 1, 8, none⟩) (Nat.le_succ _) _) (p := ⟨w.heap.size + 1, 9, none⟩) (Nat.le_succ _) _) (p := ⟨w.heap.size + 1, 10, none⟩) (Nat.le_succ _) _) (p := ⟨w.heap.size + 1, 11, none⟩) (Nat.le_succ _) _) (p := ⟨w.heap.size + 1, 12, none⟩) (Nat.le_succ _) _) (p := ⟨w.heap.size + 1, 13, none⟩) (Nat.le_succ _) _)
  all_goals (cases b <;> go_wp2_with (first
    | (go_at_call 52; (with_reducible refine (patchName_any p.file _ hfile).mono ?_); rintro e2 w2 ⟨⟨_ | _, rfl, hb⟩, rfl⟩ <;> (have Hn := hide hb; clear hb))
    | (go_at_call 53; (with_reducible refine (patchSame_4 (Hp.out.below HBx.out)).mono ?_); rintro e3 w3 ⟨⟨b3, rfl, hb⟩, hB⟩; have Hs := hide hb; have HB : Hid (Below w.heap.size w w3) := hide (blw_up (w := w) HBx.out hB); clear hb hB)))
  all_goals (go_ret; go_tidy)
  all_goals refine ⟨RetB.mk ?_, (by first | exact HB.out | with_reducible exact HBx.out | (repeat first | exact HBw.out | exact Below.refl _ _ | refine Below.setCell ?_ (by simp) _ | refine Below.drew ?_ | refine Below.alloc ?_ (by simp) _))⟩
  all_goals rw [Hok.out]
  all_goals have hc := Hc.out
  all_goals (try have hn := Hn.out)
  all_goals (try have hs := Hs.out)
  all_goals (try clear hc1 hf1 hc2 hf2)
  all_goals grind

end Go.Proofs.YtfhfkbdaglegpaaGreatDoor

namespace Go.Proofs.YtfhfkbdaglegpaaGreatDoor
open Go.RowKit

theorem patchRight_any {S : Nat → Prop} {x : Ph} {p : Pt} {w : World} (hp : PtIn S w x p) (htab : TabOk w) (hsum : p.edit.frm.size + p.edit.to.size ≤ 9223372036854775807) :
    Calls Tryz.prog 28 #[.agg #[.int .u8 p.kind, .string p.file, .string p.text, .int .i64 p.hunk.at_, .slice x.h.oA p.hunk.old.length x.h.oc, .slice x.h.nA p.hunk.new.length x.h.nc, .int .u8 p.edit.kind, .slice x.e.pA p.edit.path.length x.e.pc, .int .i64 p.edit.at_, .int .i64 p.edit.far, .string p.edit.frm, .string p.edit.to, .slice x.e.oA p.edit.old.len x.e.oc, .slice x.e.nA p.edit.new.len x.e.nc]] w
      fun e w' => RetB (PtOk p) e ∧ Below w.heap.size w w' := by
  obtain ⟨kd, file, text, hunk, edit⟩ := p
  by_cases h1 : kd = 1
  · subst h1; exact patchRight_1 hp
  by_cases h2 : kd = 2
  · subst h2; exact patchRight_2 hp
  by_cases h3 : kd = 3
  · subst h3; exact patchRight_3 hp
  by_cases h4 : kd = 4
  · subst h4; exact patchRight_4 hp htab hsum
  exact patchRight_0 hp (by simp only; omega) (by simp only; omega) (by simp only; omega) (by simp only; omega)

end Go.Proofs.YtfhfkbdaglegpaaGreatDoor
