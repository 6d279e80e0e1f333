/- log.Line of a right patch of kind 1. Printed by gen_logln.py. -/
import Derived.Deep.RegionHeld
import Derived.Test.YtadilmijppdpoaaGreatDoorTLogLn
import Derived.Test.YtadilmijppdpoaaGreatDoorTPatRight

set_option linter.unusedVariables false
set_option linter.unusedSimpArgs false

namespace Go.Proofs.YtadilmijppdpoaaGreatDoor
open Go.RowKit

set_option maxHeartbeats 4000000 in
set_option maxRecDepth 1000000 in
theorem line_yes1 {S : Nat → Prop} {x : Ph} {file text : ByteArray} {hunk : Hk} {edit : Ed} {w : World} (hp : PtIn S w x ⟨1, file, text, hunk, edit⟩) (htab : TabOk w) (hpow : TabP w.heap.size w) (hok : PtOk ⟨1, file, text, hunk, edit⟩) (hsum : edit.frm.size + edit.to.size ≤ 9223372036854775807)
    (hlen : (ptB ⟨1, file, text, hunk, edit⟩).length ≤ 549755813888) :
    Calls Tryz.prog 8 #[.agg #[.int .u8 1, .string file, .string text, .int .i64 hunk.at_, .slice x.h.oA hunk.old.length x.h.oc, .slice x.h.nA hunk.new.length x.h.nc, .int .u8 edit.kind, .slice x.e.pA edit.path.length x.e.pc, .int .i64 edit.at_, .int .i64 edit.far, .string edit.frm, .string edit.to, .slice x.e.oA edit.old.len x.e.oc, .slice x.e.nA edit.new.len x.e.nc]] w fun e w' => e = .returned (.string ⟨(lineB ⟨1, file, text, hunk, edit⟩).toArray⟩) ∧ Below w.heap.size w w' := by
  have Hp := hide hp
  have HT := hide htab
  have HP := hide hpow
  have Hok := hide hok
  have Hlen := hide hlen
  have HR : Hid (∀ W, Below w.heap.size w W → Calls Tryz.prog 16 #[.agg #[.int .u8 1, .string file, .string text, .int .i64 hunk.at_, .slice x.h.oA hunk.old.length x.h.oc, .slice x.h.nA hunk.new.length x.h.nc, .int .u8 edit.kind, .slice x.e.pA edit.path.length x.e.pc, .int .i64 edit.at_, .int .i64 edit.far, .string edit.frm, .string edit.to, .slice x.e.oA edit.old.len x.e.oc, .slice x.e.nA edit.new.len x.e.nc]] W fun e w' => e = .returned (.bool true) ∧ Below W.heap.size W w') := hide (by
    intro W hW
    have h := right_yes (S := S) (x := x) (p := ⟨1, file, text, hunk, edit⟩) (w := W) (hp.below hW) (htab.below hW) hsum hok
    exact h)
  have HWr : Hid (∀ (W : World) (L : Nat), IsLine L L (Lib.byteCells []) W → PtIn (fun k => k < L) W x ⟨1, file, text, hunk, edit⟩ → TabP L W → L < W.heap.size → Calls Tryz.prog 33 #[.pointer (some ⟨L, 0, none⟩), .agg #[.int .u8 1, .string file, .string text, .int .i64 hunk.at_, .slice x.h.oA hunk.old.length x.h.oc, .slice x.h.nA hunk.new.length x.h.nc, .int .u8 edit.kind, .slice x.e.pA edit.path.length x.e.pc, .int .i64 edit.at_, .int .i64 edit.far, .string edit.frm, .string edit.to, .slice x.e.oA edit.old.len x.e.oc, .slice x.e.nA edit.new.len x.e.nc]] W (Wrote L L ⟨1, file, text, hunk, edit⟩ W)) :=
    hide (by
      intro W L h1 h2 h3 h4
      have h := write_1 (x := x) (p := ⟨1, file, text, hunk, edit⟩) h1 h2 h3 (Nat.le_of_lt h4) h4 hok hlen rfl
      exact h)
  clear hp htab hpow hok hlen
  go_enter Tryz.func8, Tryz.ntmps8
  go_wp2_with (go_at_call 16; (with_reducible refine (HR.out _ (below_alloc _ _)).mono ?_); rintro e1 w1 ⟨rfl, hB1⟩; have HB1 : Hid (Below w.heap.size w w1) := hide ((below_alloc w _).trans (hB1.mono (by simp))); have HX1 : Hid (w1.heap[w.heap.size]? = some (.cells #[.int .u8 1, .string file, .string text, .int .i64 hunk.at_, .slice x.h.oA hunk.old.length x.h.oc, .slice x.h.nA hunk.new.length x.h.nc, .int .u8 edit.kind, .slice x.e.pA edit.path.length x.e.pc, .int .i64 edit.at_, .int .i64 edit.far, .string edit.frm, .string edit.to, .slice x.e.oA edit.old.len x.e.oc, .slice x.e.nA edit.new.len x.e.nc] 37)) := hide ((hB1.block _ (by simp)).trans (heap_alloc_new w _)); have hs1 := HB1.out.size; have hP1 : w.heap.size < w1.heap.size := (Array.getElem?_eq_some_iff.1 HX1.out).1; clear hB1)
  have HX2 : Hid ((w1.alloc (.cells #[.pointer none, .slice none 0 0] 59)).heap[w.heap.size]? = some (.cells #[.int .u8 1, .string file, .string text, .int .i64 hunk.at_, .slice x.h.oA hunk.old.length x.h.oc, .slice x.h.nA hunk.new.length x.h.nc, .int .u8 edit.kind, .slice x.e.pA edit.path.length x.e.pc, .int .i64 edit.at_, .int .i64 edit.far, .string edit.frm, .string edit.to, .slice x.e.oA edit.old.len x.e.oc, .slice x.e.nA edit.new.len x.e.nc] 37)) := hide (((below_alloc w1 _).block _ hP1).trans HX1.out)
  have HL2 : Hid (IsLine w1.heap.size w1.heap.size (Lib.byteCells []) (w1.alloc (.cells #[.pointer none, .slice none 0 0] 59))) := hide (Lib.fresh_isBuilder _ _ _)
  have HB2 : Hid (Below w.heap.size w (w1.alloc (.cells #[.pointer none, .slice none 0 0] 59))) := hide (HB1.out.alloc hs1 _)
  have HC2 : Hid (Below w1.heap.size w1 (w1.alloc (.cells #[.pointer none, .slice none 0 0] 59))) := hide (below_alloc w1 _)
  have hs2 : w1.heap.size < (w1.alloc (.cells #[.pointer none, .slice none 0 0] 59)).heap.size := by simp
  have HQ := hide ((Hp.out.below HB1.out).mono (S' := fun k => k < w1.heap.size) fun b hb _ => hb)
  generalize w1.alloc (.cells #[.pointer none, .slice none 0 0] 59) = w2 at HX2 HL2 HB2 HC2 hs2 ⊢
  generalize w1.heap.size = L at HL2 HC2 hs2 hs1 hP1 HQ ⊢
  refine wp_region_held_drew (S := fun w' => w'.heap[w.heap.size]? = some (.cells #[.int .u8 1, .string file, .string text, .int .i64 hunk.at_, .slice x.h.oA hunk.old.length x.h.oc, .slice x.h.nA hunk.new.length x.h.nc, .int .u8 edit.kind, .slice x.e.pA edit.path.length x.e.pc, .int .i64 edit.at_, .int .i64 edit.far, .string edit.frm, .string edit.to, .slice x.e.oA edit.old.len x.e.oc, .slice x.e.nA edit.new.len x.e.nc] 37)) (by kernel_rfl) HX2.out (fun hHeld => ?_)
  have hd2 : Below w2.heap.size w2 w2.drew := blw_drewN (Below.refl _ _) 1
  have HL3 := hide (HL2.out.below hd2)
  have HB3 := hide (HB2.out.trans (hd2.mono (by omega)))
  have HC3 := hide (HC2.out.trans (hd2.mono (by omega)))
  have hs3 : L < w2.drew.heap.size := hs2
  clear HX2 HL2 HB2 HC2 hs2 hd2 HX1
  generalize w2.drew = w3 at HL3 HB3 HC3 hs3 hHeld ⊢
  refine wpAnyH_take (i := 1) (v := ?_) rfl (by kernel_rfl) (by kernel_rfl) (by kernel_rfl) (fun _ _ _ h => h) (Or.inl ⟨by rfl, ?_⟩) hHeld ?_
  rotate_left
  · intro w' hSw
    first | (go_simp; done) | (go_simp; with_reducible rfl)
  try simp only [Act.put, List.getElem_toArray, List.getElem_cons_zero, List.getElem_cons_succ, List.setIfInBounds_toArray, List.set_cons_zero, List.set_cons_succ]
  refine wpAnyH_take (i := 2) (v := ?_) rfl (by kernel_rfl) (by kernel_rfl) (by kernel_rfl) (fun _ _ _ h => h) (Or.inl ⟨by rfl, ?_⟩) hHeld ?_
  rotate_left
  · intro w' hSw
    have hc : ∀ o, w'.cell? ⟨w.heap.size, o, none⟩ = (#[.int .u8 1, .string file, .string text, .int .i64 hunk.at_, .slice x.h.oA hunk.old.length x.h.oc, .slice x.h.nA hunk.new.length x.h.nc, .int .u8 edit.kind, .slice x.e.pA edit.path.length x.e.pc, .int .i64 edit.at_, .int .i64 edit.far, .string edit.frm, .string edit.to, .slice x.e.oA edit.old.len x.e.oc, .slice x.e.nA edit.new.len x.e.nc] : Array Value)[o]? := fun o => Lib.cell_of_heap hSw o
    first | (go_simp; done) | (go_simp; with_reducible rfl)
  try simp only [Act.put, List.getElem_toArray, List.getElem_cons_zero, List.getElem_cons_succ, List.setIfInBounds_toArray, List.set_cons_zero, List.set_cons_succ]
  refine wpAnyH_take (i := 4) (v := ?_) rfl (by kernel_rfl) (by kernel_rfl) (by kernel_rfl) (fun _ _ _ h => h) (Or.inl ⟨by rfl, ?_⟩) hHeld ?_
  rotate_left
  · intro w' hSw
    first | (go_simp; done) | (go_simp; with_reducible rfl)
  try simp only [Act.put, List.getElem_toArray, List.getElem_cons_zero, List.getElem_cons_succ, List.setIfInBounds_toArray, List.set_cons_zero, List.set_cons_succ]
  refine wpAnyH_take (i := 5) (v := ?_) rfl (by kernel_rfl) (by kernel_rfl) (by kernel_rfl) (fun _ _ _ h => h) (Or.inl ⟨by rfl, ?_⟩) hHeld ?_
  rotate_left
  · intro w' hSw
    have hc : ∀ o, w'.cell? ⟨w.heap.size, o, none⟩ = (#[.int .u8 1, .string file, .string text, .int .i64 hunk.at_, .slice x.h.oA hunk.old.length x.h.oc, .slice x.h.nA hunk.new.length x.h.nc, .int .u8 edit.kind, .slice x.e.pA edit.path.length x.e.pc, .int .i64 edit.at_, .int .i64 edit.far, .string edit.frm, .string edit.to, .slice x.e.oA edit.old.len x.e.oc, .slice x.e.nA edit.new.len x.e.nc] : Array Value)[o]? := fun o => Lib.cell_of_heap hSw o
    first | (go_simp; done) | (go_simp; with_reducible rfl)
  try simp only [Act.put, List.getElem_toArray, List.getElem_cons_zero, List.getElem_cons_succ, List.setIfInBounds_toArray, List.set_cons_zero, List.set_cons_succ]
  refine wpAnyH_ready (rs := [0]) (by kernel_rfl) (by simp) ?_
  refine AllReadyH.cons rfl (fun K hK => ?_) AllReadyH.nil
  go_simp
  go_wp2_with (go_at_call 17; (with_reducible refine (ways_any w3).mono ?_); rintro e4 w4 ⟨rfl, hT4, hB4⟩)
  have hHeld4 : w4.heap[w.heap.size]? = some (.cells #[.int .u8 1, .string file, .string text, .int .i64 hunk.at_, .slice x.h.oA hunk.old.length x.h.oc, .slice x.h.nA hunk.new.length x.h.nc, .int .u8 edit.kind, .slice x.e.pA edit.path.length x.e.pc, .int .i64 edit.at_, .int .i64 edit.far, .string edit.frm, .string edit.to, .slice x.e.oA edit.old.len x.e.oc, .slice x.e.nA edit.new.len x.e.nc] 37) := (hB4.block _ (by omega)).trans hHeld
  refine hK.out _ _ hHeld4 (fun _ => ?_)
  clear hK K
  try simp only [Act.put, List.getElem_toArray, List.getElem_cons_zero, List.getElem_cons_succ, List.setIfInBounds_toArray, List.set_cons_zero, List.set_cons_succ]
  have hlk := run_lookup_val (P := Tryz.prog) (k := 1) (k' := 1) (v := .func (.func 33) #[] #[]) hT4 Tryz.underlying61 Tryz.underlying27 rfl
  refine wpAnyH_ready (rs := [3]) (by kernel_rfl) (by simp) ?_
  refine AllReadyH.cons rfl (fun K hK => ?_) AllReadyH.nil
  refine step_value rfl (exec_lookup (v1 := .map (some w3.heap.size)) (v2 := .int .u8 1) _ _ _ rfl (by rfl) (by rfl) w4 hlk) ?_
  refine hK.out _ _ hHeld4 (fun _ => ?_)
  clear hK K
  try simp only [Act.put, List.getElem_toArray, List.getElem_cons_zero, List.getElem_cons_succ, List.setIfInBounds_toArray, List.set_cons_zero, List.set_cons_succ]
  have HL4 := hide (HL3.out.below hB4)
  have HB4 : Hid (Below w.heap.size w w4) := hide (HB3.out.trans (hB4.mono (by omega)))
  have HC4 := hide (HC3.out.trans (hB4.mono (by omega)))
  have hs4 : L < w4.heap.size := Nat.lt_of_lt_of_le hs3 hB4.size
  have HQ4 := hide (HQ.out.belowB HC4.out)
  have HP4 := hide ((HP.out.below HB4.out).up hs1)
  clear hB4 hT4 hlk HL3 HB3 HC3
  refine wpAnyH_ready (rs := [6]) (by kernel_rfl) (by simp) ?_
  refine AllReadyH.cons rfl (fun K hK => ?_) AllReadyH.nil
  go_simp
  go_wp2_with (go_at_call 33; (with_reducible refine (HWr.out _ _ HL4.out HQ4.out HP4.out hs4).mono ?_); rintro e5 w5 ⟨rfl, hL5, hB5, _⟩)
  have hHeld5 : w5.heap[w.heap.size]? = some (.cells #[.int .u8 1, .string file, .string text, .int .i64 hunk.at_, .slice x.h.oA hunk.old.length x.h.oc, .slice x.h.nA hunk.new.length x.h.nc, .int .u8 edit.kind, .slice x.e.pA edit.path.length x.e.pc, .int .i64 edit.at_, .int .i64 edit.far, .string edit.frm, .string edit.to, .slice x.e.oA edit.old.len x.e.oc, .slice x.e.nA edit.new.len x.e.nc] 37) := (hB5.block _ hP1).trans hHeld4
  refine hK.out _ _ hHeld5 (fun _ => ?_)
  clear hK K
  try simp only [Act.put, List.getElem_toArray, List.getElem_cons_zero, List.getElem_cons_succ, List.setIfInBounds_toArray, List.set_cons_zero, List.set_cons_succ]
  have HL5 := hide hL5
  have HB5 := hide (HB4.out.trans (hB5.mono hs1))
  clear hL5 hB5
  refine wpAnyH_done (by kernel_rfl) ?_ _
  try simp only [Act.put, List.getElem_toArray, List.getElem_cons_zero, List.getElem_cons_succ, List.setIfInBounds_toArray, List.set_cons_zero, List.set_cons_succ]
  go_wp2_with (go_at_call 18; (with_reducible refine (line_string _ _ _ _ HL5.out (lineS_head Hok.out).2).mono ?_); rintro e6 w6 ⟨rfl, hB6, _⟩; have HB6 := hide (HB5.out.trans (hB6.mono hs1)); clear hB6)
  go_ret
  generalize lineB ⟨1, file, text, hunk, edit⟩ = l
  exact ⟨rfl, HB6.out⟩

end Go.Proofs.YtadilmijppdpoaaGreatDoor

namespace Go.Proofs.YtadilmijppdpoaaGreatDoor
open Go.RowKit

set_option maxHeartbeats 4000000 in
set_option maxRecDepth 1000000 in
theorem line_yes2 {S : Nat → Prop} {x : Ph} {file text : ByteArray} {hunk : Hk} {edit : Ed} {w : World} (hp : PtIn S w x ⟨2, file, text, hunk, edit⟩) (htab : TabOk w) (hpow : TabP w.heap.size w) (hok : PtOk ⟨2, file, text, hunk, edit⟩) (hsum : edit.frm.size + edit.to.size ≤ 9223372036854775807)
    (hlen : (ptB ⟨2, file, text, hunk, edit⟩).length ≤ 549755813888) :
    Calls Tryz.prog 8 #[.agg #[.int .u8 2, .string file, .string text, .int .i64 hunk.at_, .slice x.h.oA hunk.old.length x.h.oc, .slice x.h.nA hunk.new.length x.h.nc, .int .u8 edit.kind, .slice x.e.pA edit.path.length x.e.pc, .int .i64 edit.at_, .int .i64 edit.far, .string edit.frm, .string edit.to, .slice x.e.oA edit.old.len x.e.oc, .slice x.e.nA edit.new.len x.e.nc]] w fun e w' => e = .returned (.string ⟨(lineB ⟨2, file, text, hunk, edit⟩).toArray⟩) ∧ Below w.heap.size w w' := by
  have Hp := hide hp
  have HT := hide htab
  have HP := hide hpow
  have Hok := hide hok
  have Hlen := hide hlen
  have HR : Hid (∀ W, Below w.heap.size w W → Calls Tryz.prog 16 #[.agg #[.int .u8 2, .string file, .string text, .int .i64 hunk.at_, .slice x.h.oA hunk.old.length x.h.oc, .slice x.h.nA hunk.new.length x.h.nc, .int .u8 edit.kind, .slice x.e.pA edit.path.length x.e.pc, .int .i64 edit.at_, .int .i64 edit.far, .string edit.frm, .string edit.to, .slice x.e.oA edit.old.len x.e.oc, .slice x.e.nA edit.new.len x.e.nc]] W fun e w' => e = .returned (.bool true) ∧ Below W.heap.size W w') := hide (by
    intro W hW
    have h := right_yes (S := S) (x := x) (p := ⟨2, file, text, hunk, edit⟩) (w := W) (hp.below hW) (htab.below hW) hsum hok
    exact h)
  have HWr : Hid (∀ (W : World) (L : Nat), IsLine L L (Lib.byteCells []) W → PtIn (fun k => k < L) W x ⟨2, file, text, hunk, edit⟩ → TabP L W → L < W.heap.size → Calls Tryz.prog 34 #[.pointer (some ⟨L, 0, none⟩), .agg #[.int .u8 2, .string file, .string text, .int .i64 hunk.at_, .slice x.h.oA hunk.old.length x.h.oc, .slice x.h.nA hunk.new.length x.h.nc, .int .u8 edit.kind, .slice x.e.pA edit.path.length x.e.pc, .int .i64 edit.at_, .int .i64 edit.far, .string edit.frm, .string edit.to, .slice x.e.oA edit.old.len x.e.oc, .slice x.e.nA edit.new.len x.e.nc]] W (Wrote L L ⟨2, file, text, hunk, edit⟩ W)) :=
    hide (by
      intro W L h1 h2 h3 h4
      have h := write_2 (x := x) (p := ⟨2, file, text, hunk, edit⟩) h1 h2 h3 (Nat.le_of_lt h4) h4 hok hlen rfl
      exact h)
  clear hp htab hpow hok hlen
  go_enter Tryz.func8, Tryz.ntmps8
  go_wp2_with (go_at_call 16; (with_reducible refine (HR.out _ (below_alloc _ _)).mono ?_); rintro e1 w1 ⟨rfl, hB1⟩; have HB1 : Hid (Below w.heap.size w w1) := hide ((below_alloc w _).trans (hB1.mono (by simp))); have HX1 : Hid (w1.heap[w.heap.size]? = some (.cells #[.int .u8 2, .string file, .string text, .int .i64 hunk.at_, .slice x.h.oA hunk.old.length x.h.oc, .slice x.h.nA hunk.new.length x.h.nc, .int .u8 edit.kind, .slice x.e.pA edit.path.length x.e.pc, .int .i64 edit.at_, .int .i64 edit.far, .string edit.frm, .string edit.to, .slice x.e.oA edit.old.len x.e.oc, .slice x.e.nA edit.new.len x.e.nc] 37)) := hide ((hB1.block _ (by simp)).trans (heap_alloc_new w _)); have hs1 := HB1.out.size; have hP1 : w.heap.size < w1.heap.size := (Array.getElem?_eq_some_iff.1 HX1.out).1; clear hB1)
  have HX2 : Hid ((w1.alloc (.cells #[.pointer none, .slice none 0 0] 59)).heap[w.heap.size]? = some (.cells #[.int .u8 2, .string file, .string text, .int .i64 hunk.at_, .slice x.h.oA hunk.old.length x.h.oc, .slice x.h.nA hunk.new.length x.h.nc, .int .u8 edit.kind, .slice x.e.pA edit.path.length x.e.pc, .int .i64 edit.at_, .int .i64 edit.far, .string edit.frm, .string edit.to, .slice x.e.oA edit.old.len x.e.oc, .slice x.e.nA edit.new.len x.e.nc] 37)) := hide (((below_alloc w1 _).block _ hP1).trans HX1.out)
  have HL2 : Hid (IsLine w1.heap.size w1.heap.size (Lib.byteCells []) (w1.alloc (.cells #[.pointer none, .slice none 0 0] 59))) := hide (Lib.fresh_isBuilder _ _ _)
  have HB2 : Hid (Below w.heap.size w (w1.alloc (.cells #[.pointer none, .slice none 0 0] 59))) := hide (HB1.out.alloc hs1 _)
  have HC2 : Hid (Below w1.heap.size w1 (w1.alloc (.cells #[.pointer none, .slice none 0 0] 59))) := hide (below_alloc w1 _)
  have hs2 : w1.heap.size < (w1.alloc (.cells #[.pointer none, .slice none 0 0] 59)).heap.size := by simp
  have HQ := hide ((Hp.out.below HB1.out).mono (S' := fun k => k < w1.heap.size) fun b hb _ => hb)
  generalize w1.alloc (.cells #[.pointer none, .slice none 0 0] 59) = w2 at HX2 HL2 HB2 HC2 hs2 ⊢
  generalize w1.heap.size = L at HL2 HC2 hs2 hs1 hP1 HQ ⊢
  refine wp_region_held_drew (S := fun w' => w'.heap[w.heap.size]? = some (.cells #[.int .u8 2, .string file, .string text, .int .i64 hunk.at_, .slice x.h.oA hunk.old.length x.h.oc, .slice x.h.nA hunk.new.length x.h.nc, .int .u8 edit.kind, .slice x.e.pA edit.path.length x.e.pc, .int .i64 edit.at_, .int .i64 edit.far, .string edit.frm, .string edit.to, .slice x.e.oA edit.old.len x.e.oc, .slice x.e.nA edit.new.len x.e.nc] 37)) (by kernel_rfl) HX2.out (fun hHeld => ?_)
  have hd2 : Below w2.heap.size w2 w2.drew := blw_drewN (Below.refl _ _) 1
  have HL3 := hide (HL2.out.below hd2)
  have HB3 := hide (HB2.out.trans (hd2.mono (by omega)))
  have HC3 := hide (HC2.out.trans (hd2.mono (by omega)))
  have hs3 : L < w2.drew.heap.size := hs2
  clear HX2 HL2 HB2 HC2 hs2 hd2 HX1
  generalize w2.drew = w3 at HL3 HB3 HC3 hs3 hHeld ⊢
  refine wpAnyH_take (i := 1) (v := ?_) rfl (by kernel_rfl) (by kernel_rfl) (by kernel_rfl) (fun _ _ _ h => h) (Or.inl ⟨by rfl, ?_⟩) hHeld ?_
  rotate_left
  · intro w' hSw
    first | (go_simp; done) | (go_simp; with_reducible rfl)
  try simp only [Act.put, List.getElem_toArray, List.getElem_cons_zero, List.getElem_cons_succ, List.setIfInBounds_toArray, List.set_cons_zero, List.set_cons_succ]
  refine wpAnyH_take (i := 2) (v := ?_) rfl (by kernel_rfl) (by kernel_rfl) (by kernel_rfl) (fun _ _ _ h => h) (Or.inl ⟨by rfl, ?_⟩) hHeld ?_
  rotate_left
  · intro w' hSw
    have hc : ∀ o, w'.cell? ⟨w.heap.size, o, none⟩ = (#[.int .u8 2, .string file, .string text, .int .i64 hunk.at_, .slice x.h.oA hunk.old.length x.h.oc, .slice x.h.nA hunk.new.length x.h.nc, .int .u8 edit.kind, .slice x.e.pA edit.path.length x.e.pc, .int .i64 edit.at_, .int .i64 edit.far, .string edit.frm, .string edit.to, .slice x.e.oA edit.old.len x.e.oc, .slice x.e.nA edit.new.len x.e.nc] : Array Value)[o]? := fun o => Lib.cell_of_heap hSw o
    first | (go_simp; done) | (go_simp; with_reducible rfl)
  try simp only [Act.put, List.getElem_toArray, List.getElem_cons_zero, List.getElem_cons_succ, List.setIfInBounds_toArray, List.set_cons_zero, List.set_cons_succ]
  refine wpAnyH_take (i := 4) (v := ?_) rfl (by kernel_rfl) (by kernel_rfl) (by kernel_rfl) (fun _ _ _ h => h) (Or.inl ⟨by rfl, ?_⟩) hHeld ?_
  rotate_left
  · intro w' hSw
    first | (go_simp; done) | (go_simp; with_reducible rfl)
  try simp only [Act.put, List.getElem_toArray, List.getElem_cons_zero, List.getElem_cons_succ, List.setIfInBounds_toArray, List.set_cons_zero, List.set_cons_succ]
  refine wpAnyH_take (i := 5) (v := ?_) rfl (by kernel_rfl) (by kernel_rfl) (by kernel_rfl) (fun _ _ _ h => h) (Or.inl ⟨by rfl, ?_⟩) hHeld ?_
  rotate_left
  · intro w' hSw
    have hc : ∀ o, w'.cell? ⟨w.heap.size, o, none⟩ = (#[.int .u8 2, .string file, .string text, .int .i64 hunk.at_, .slice x.h.oA hunk.old.length x.h.oc, .slice x.h.nA hunk.new.length x.h.nc, .int .u8 edit.kind, .slice x.e.pA edit.path.length x.e.pc, .int .i64 edit.at_, .int .i64 edit.far, .string edit.frm, .string edit.to, .slice x.e.oA edit.old.len x.e.oc, .slice x.e.nA edit.new.len x.e.nc] : Array Value)[o]? := fun o => Lib.cell_of_heap hSw o
    first | (go_simp; done) | (go_simp; with_reducible rfl)
  try simp only [Act.put, List.getElem_toArray, List.getElem_cons_zero, List.getElem_cons_succ, List.setIfInBounds_toArray, List.set_cons_zero, List.set_cons_succ]
  refine wpAnyH_ready (rs := [0]) (by kernel_rfl) (by simp) ?_
  refine AllReadyH.cons rfl (fun K hK => ?_) AllReadyH.nil
  go_simp
  go_wp2_with (go_at_call 17; (with_reducible refine (ways_any w3).mono ?_); rintro e4 w4 ⟨rfl, hT4, hB4⟩)
  have hHeld4 : w4.heap[w.heap.size]? = some (.cells #[.int .u8 2, .string file, .string text, .int .i64 hunk.at_, .slice x.h.oA hunk.old.length x.h.oc, .slice x.h.nA hunk.new.length x.h.nc, .int .u8 edit.kind, .slice x.e.pA edit.path.length x.e.pc, .int .i64 edit.at_, .int .i64 edit.far, .string edit.frm, .string edit.to, .slice x.e.oA edit.old.len x.e.oc, .slice x.e.nA edit.new.len x.e.nc] 37) := (hB4.block _ (by omega)).trans hHeld
  refine hK.out _ _ hHeld4 (fun _ => ?_)
  clear hK K
  try simp only [Act.put, List.getElem_toArray, List.getElem_cons_zero, List.getElem_cons_succ, List.setIfInBounds_toArray, List.set_cons_zero, List.set_cons_succ]
  have hlk := run_lookup_val (P := Tryz.prog) (k := 2) (k' := 2) (v := .func (.func 34) #[] #[]) hT4 Tryz.underlying61 Tryz.underlying27 rfl
  refine wpAnyH_ready (rs := [3]) (by kernel_rfl) (by simp) ?_
  refine AllReadyH.cons rfl (fun K hK => ?_) AllReadyH.nil
  refine step_value rfl (exec_lookup (v1 := .map (some w3.heap.size)) (v2 := .int .u8 2) _ _ _ rfl (by rfl) (by rfl) w4 hlk) ?_
  refine hK.out _ _ hHeld4 (fun _ => ?_)
  clear hK K
  try simp only [Act.put, List.getElem_toArray, List.getElem_cons_zero, List.getElem_cons_succ, List.setIfInBounds_toArray, List.set_cons_zero, List.set_cons_succ]
  have HL4 := hide (HL3.out.below hB4)
  have HB4 : Hid (Below w.heap.size w w4) := hide (HB3.out.trans (hB4.mono (by omega)))
  have HC4 := hide (HC3.out.trans (hB4.mono (by omega)))
  have hs4 : L < w4.heap.size := Nat.lt_of_lt_of_le hs3 hB4.size
  have HQ4 := hide (HQ.out.belowB HC4.out)
  have HP4 := hide ((HP.out.below HB4.out).up hs1)
  clear hB4 hT4 hlk HL3 HB3 HC3
  refine wpAnyH_ready (rs := [6]) (by kernel_rfl) (by simp) ?_
  refine AllReadyH.cons rfl (fun K hK => ?_) AllReadyH.nil
  go_simp
  go_wp2_with (go_at_call 34; (with_reducible refine (HWr.out _ _ HL4.out HQ4.out HP4.out hs4).mono ?_); rintro e5 w5 ⟨rfl, hL5, hB5, _⟩)
  have hHeld5 : w5.heap[w.heap.size]? = some (.cells #[.int .u8 2, .string file, .string text, .int .i64 hunk.at_, .slice x.h.oA hunk.old.length x.h.oc, .slice x.h.nA hunk.new.length x.h.nc, .int .u8 edit.kind, .slice x.e.pA edit.path.length x.e.pc, .int .i64 edit.at_, .int .i64 edit.far, .string edit.frm, .string edit.to, .slice x.e.oA edit.old.len x.e.oc, .slice x.e.nA edit.new.len x.e.nc] 37) := (hB5.block _ hP1).trans hHeld4
  refine hK.out _ _ hHeld5 (fun _ => ?_)
  clear hK K
  try simp only [Act.put, List.getElem_toArray, List.getElem_cons_zero, List.getElem_cons_succ, List.setIfInBounds_toArray, List.set_cons_zero, List.set_cons_succ]
  have HL5 := hide hL5
  have HB5 := hide (HB4.out.trans (hB5.mono hs1))
  clear hL5 hB5
  refine wpAnyH_done (by kernel_rfl) ?_ _
  try simp only [Act.put, List.getElem_toArray, List.getElem_cons_zero, List.getElem_cons_succ, List.setIfInBounds_toArray, List.set_cons_zero, List.set_cons_succ]
  go_wp2_with (go_at_call 18; (with_reducible refine (line_string _ _ _ _ HL5.out (lineS_head Hok.out).2).mono ?_); rintro e6 w6 ⟨rfl, hB6, _⟩; have HB6 := hide (HB5.out.trans (hB6.mono hs1)); clear hB6)
  go_ret
  generalize lineB ⟨2, file, text, hunk, edit⟩ = l
  exact ⟨rfl, HB6.out⟩

end Go.Proofs.YtadilmijppdpoaaGreatDoor

namespace Go.Proofs.YtadilmijppdpoaaGreatDoor
open Go.RowKit

set_option maxHeartbeats 4000000 in
set_option maxRecDepth 1000000 in
theorem line_yes3 {S : Nat → Prop} {x : Ph} {file text : ByteArray} {hunk : Hk} {edit : Ed} {w : World} (hp : PtIn S w x ⟨3, file, text, hunk, edit⟩) (htab : TabOk w) (hpow : TabP w.heap.size w) (hok : PtOk ⟨3, file, text, hunk, edit⟩) (hsum : edit.frm.size + edit.to.size ≤ 9223372036854775807)
    (hlen : (ptB ⟨3, file, text, hunk, edit⟩).length ≤ 549755813888) :
    Calls Tryz.prog 8 #[.agg #[.int .u8 3, .string file, .string text, .int .i64 hunk.at_, .slice x.h.oA hunk.old.length x.h.oc, .slice x.h.nA hunk.new.length x.h.nc, .int .u8 edit.kind, .slice x.e.pA edit.path.length x.e.pc, .int .i64 edit.at_, .int .i64 edit.far, .string edit.frm, .string edit.to, .slice x.e.oA edit.old.len x.e.oc, .slice x.e.nA edit.new.len x.e.nc]] w fun e w' => e = .returned (.string ⟨(lineB ⟨3, file, text, hunk, edit⟩).toArray⟩) ∧ Below w.heap.size w w' := by
  have Hp := hide hp
  have HT := hide htab
  have HP := hide hpow
  have Hok := hide hok
  have Hlen := hide hlen
  have HR : Hid (∀ W, Below w.heap.size w W → Calls Tryz.prog 16 #[.agg #[.int .u8 3, .string file, .string text, .int .i64 hunk.at_, .slice x.h.oA hunk.old.length x.h.oc, .slice x.h.nA hunk.new.length x.h.nc, .int .u8 edit.kind, .slice x.e.pA edit.path.length x.e.pc, .int .i64 edit.at_, .int .i64 edit.far, .string edit.frm, .string edit.to, .slice x.e.oA edit.old.len x.e.oc, .slice x.e.nA edit.new.len x.e.nc]] W fun e w' => e = .returned (.bool true) ∧ Below W.heap.size W w') := hide (by
    intro W hW
    have h := right_yes (S := S) (x := x) (p := ⟨3, file, text, hunk, edit⟩) (w := W) (hp.below hW) (htab.below hW) hsum hok
    exact h)
  have HWr : Hid (∀ (W : World) (L : Nat), IsLine L L (Lib.byteCells []) W → PtIn (fun k => k < L) W x ⟨3, file, text, hunk, edit⟩ → TabP L W → L < W.heap.size → Calls Tryz.prog 35 #[.pointer (some ⟨L, 0, none⟩), .agg #[.int .u8 3, .string file, .string text, .int .i64 hunk.at_, .slice x.h.oA hunk.old.length x.h.oc, .slice x.h.nA hunk.new.length x.h.nc, .int .u8 edit.kind, .slice x.e.pA edit.path.length x.e.pc, .int .i64 edit.at_, .int .i64 edit.far, .string edit.frm, .string edit.to, .slice x.e.oA edit.old.len x.e.oc, .slice x.e.nA edit.new.len x.e.nc]] W (Wrote L L ⟨3, file, text, hunk, edit⟩ W)) :=
    hide (by
      intro W L h1 h2 h3 h4
      have h := write_3 (x := x) (p := ⟨3, file, text, hunk, edit⟩) h1 h2 h3 (Nat.le_of_lt h4) h4 hok hlen rfl
      exact h)
  clear hp htab hpow hok hlen
  go_enter Tryz.func8, Tryz.ntmps8
  go_wp2_with (go_at_call 16; (with_reducible refine (HR.out _ (below_alloc _ _)).mono ?_); rintro e1 w1 ⟨rfl, hB1⟩; have HB1 : Hid (Below w.heap.size w w1) := hide ((below_alloc w _).trans (hB1.mono (by simp))); have HX1 : Hid (w1.heap[w.heap.size]? = some (.cells #[.int .u8 3, .string file, .string text, .int .i64 hunk.at_, .slice x.h.oA hunk.old.length x.h.oc, .slice x.h.nA hunk.new.length x.h.nc, .int .u8 edit.kind, .slice x.e.pA edit.path.length x.e.pc, .int .i64 edit.at_, .int .i64 edit.far, .string edit.frm, .string edit.to, .slice x.e.oA edit.old.len x.e.oc, .slice x.e.nA edit.new.len x.e.nc] 37)) := hide ((hB1.block _ (by simp)).trans (heap_alloc_new w _)); have hs1 := HB1.out.size; have hP1 : w.heap.size < w1.heap.size := (Array.getElem?_eq_some_iff.1 HX1.out).1; clear hB1)
  have HX2 : Hid ((w1.alloc (.cells #[.pointer none, .slice none 0 0] 59)).heap[w.heap.size]? = some (.cells #[.int .u8 3, .string file, .string text, .int .i64 hunk.at_, .slice x.h.oA hunk.old.length x.h.oc, .slice x.h.nA hunk.new.length x.h.nc, .int .u8 edit.kind, .slice x.e.pA edit.path.length x.e.pc, .int .i64 edit.at_, .int .i64 edit.far, .string edit.frm, .string edit.to, .slice x.e.oA edit.old.len x.e.oc, .slice x.e.nA edit.new.len x.e.nc] 37)) := hide (((below_alloc w1 _).block _ hP1).trans HX1.out)
  have HL2 : Hid (IsLine w1.heap.size w1.heap.size (Lib.byteCells []) (w1.alloc (.cells #[.pointer none, .slice none 0 0] 59))) := hide (Lib.fresh_isBuilder _ _ _)
  have HB2 : Hid (Below w.heap.size w (w1.alloc (.cells #[.pointer none, .slice none 0 0] 59))) := hide (HB1.out.alloc hs1 _)
  have HC2 : Hid (Below w1.heap.size w1 (w1.alloc (.cells #[.pointer none, .slice none 0 0] 59))) := hide (below_alloc w1 _)
  have hs2 : w1.heap.size < (w1.alloc (.cells #[.pointer none, .slice none 0 0] 59)).heap.size := by simp
  have HQ := hide ((Hp.out.below HB1.out).mono (S' := fun k => k < w1.heap.size) fun b hb _ => hb)
  generalize w1.alloc (.cells #[.pointer none, .slice none 0 0] 59) = w2 at HX2 HL2 HB2 HC2 hs2 ⊢
  generalize w1.heap.size = L at HL2 HC2 hs2 hs1 hP1 HQ ⊢
  refine wp_region_held_drew (S := fun w' => w'.heap[w.heap.size]? = some (.cells #[.int .u8 3, .string file, .string text, .int .i64 hunk.at_, .slice x.h.oA hunk.old.length x.h.oc, .slice x.h.nA hunk.new.length x.h.nc, .int .u8 edit.kind, .slice x.e.pA edit.path.length x.e.pc, .int .i64 edit.at_, .int .i64 edit.far, .string edit.frm, .string edit.to, .slice x.e.oA edit.old.len x.e.oc, .slice x.e.nA edit.new.len x.e.nc] 37)) (by kernel_rfl) HX2.out (fun hHeld => ?_)
  have hd2 : Below w2.heap.size w2 w2.drew := blw_drewN (Below.refl _ _) 1
  have HL3 := hide (HL2.out.below hd2)
  have HB3 := hide (HB2.out.trans (hd2.mono (by omega)))
  have HC3 := hide (HC2.out.trans (hd2.mono (by omega)))
  have hs3 : L < w2.drew.heap.size := hs2
  clear HX2 HL2 HB2 HC2 hs2 hd2 HX1
  generalize w2.drew = w3 at HL3 HB3 HC3 hs3 hHeld ⊢
  refine wpAnyH_take (i := 1) (v := ?_) rfl (by kernel_rfl) (by kernel_rfl) (by kernel_rfl) (fun _ _ _ h => h) (Or.inl ⟨by rfl, ?_⟩) hHeld ?_
  rotate_left
  · intro w' hSw
    first | (go_simp; done) | (go_simp; with_reducible rfl)
  try simp only [Act.put, List.getElem_toArray, List.getElem_cons_zero, List.getElem_cons_succ, List.setIfInBounds_toArray, List.set_cons_zero, List.set_cons_succ]
  refine wpAnyH_take (i := 2) (v := ?_) rfl (by kernel_rfl) (by kernel_rfl) (by kernel_rfl) (fun _ _ _ h => h) (Or.inl ⟨by rfl, ?_⟩) hHeld ?_
  rotate_left
  · intro w' hSw
    have hc : ∀ o, w'.cell? ⟨w.heap.size, o, none⟩ = (#[.int .u8 3, .string file, .string text, .int .i64 hunk.at_, .slice x.h.oA hunk.old.length x.h.oc, .slice x.h.nA hunk.new.length x.h.nc, .int .u8 edit.kind, .slice x.e.pA edit.path.length x.e.pc, .int .i64 edit.at_, .int .i64 edit.far, .string edit.frm, .string edit.to, .slice x.e.oA edit.old.len x.e.oc, .slice x.e.nA edit.new.len x.e.nc] : Array Value)[o]? := fun o => Lib.cell_of_heap hSw o
    first | (go_simp; done) | (go_simp; with_reducible rfl)
  try simp only [Act.put, List.getElem_toArray, List.getElem_cons_zero, List.getElem_cons_succ, List.setIfInBounds_toArray, List.set_cons_zero, List.set_cons_succ]
  refine wpAnyH_take (i := 4) (v := ?_) rfl (by kernel_rfl) (by kernel_rfl) (by kernel_rfl) (fun _ _ _ h => h) (Or.inl ⟨by rfl, ?_⟩) hHeld ?_
  rotate_left
  · intro w' hSw
    first | (go_simp; done) | (go_simp; with_reducible rfl)
  try simp only [Act.put, List.getElem_toArray, List.getElem_cons_zero, List.getElem_cons_succ, List.setIfInBounds_toArray, List.set_cons_zero, List.set_cons_succ]
  refine wpAnyH_take (i := 5) (v := ?_) rfl (by kernel_rfl) (by kernel_rfl) (by kernel_rfl) (fun _ _ _ h => h) (Or.inl ⟨by rfl, ?_⟩) hHeld ?_
  rotate_left
  · intro w' hSw
    have hc : ∀ o, w'.cell? ⟨w.heap.size, o, none⟩ = (#[.int .u8 3, .string file, .string text, .int .i64 hunk.at_, .slice x.h.oA hunk.old.length x.h.oc, .slice x.h.nA hunk.new.length x.h.nc, .int .u8 edit.kind, .slice x.e.pA edit.path.length x.e.pc, .int .i64 edit.at_, .int .i64 edit.far, .string edit.frm, .string edit.to, .slice x.e.oA edit.old.len x.e.oc, .slice x.e.nA edit.new.len x.e.nc] : Array Value)[o]? := fun o => Lib.cell_of_heap hSw o
    first | (go_simp; done) | (go_simp; with_reducible rfl)
  try simp only [Act.put, List.getElem_toArray, List.getElem_cons_zero, List.getElem_cons_succ, List.setIfInBounds_toArray, List.set_cons_zero, List.set_cons_succ]
  refine wpAnyH_ready (rs := [0]) (by kernel_rfl) (by simp) ?_
  refine AllReadyH.cons rfl (fun K hK => ?_) AllReadyH.nil
  go_simp
  go_wp2_with (go_at_call 17; (with_reducible refine (ways_any w3).mono ?_); rintro e4 w4 ⟨rfl, hT4, hB4⟩)
  have hHeld4 : w4.heap[w.heap.size]? = some (.cells #[.int .u8 3, .string file, .string text, .int .i64 hunk.at_, .slice x.h.oA hunk.old.length x.h.oc, .slice x.h.nA hunk.new.length x.h.nc, .int .u8 edit.kind, .slice x.e.pA edit.path.length x.e.pc, .int .i64 edit.at_, .int .i64 edit.far, .string edit.frm, .string edit.to, .slice x.e.oA edit.old.len x.e.oc, .slice x.e.nA edit.new.len x.e.nc] 37) := (hB4.block _ (by omega)).trans hHeld
  refine hK.out _ _ hHeld4 (fun _ => ?_)
  clear hK K
  try simp only [Act.put, List.getElem_toArray, List.getElem_cons_zero, List.getElem_cons_succ, List.setIfInBounds_toArray, List.set_cons_zero, List.set_cons_succ]
  have hlk := run_lookup_val (P := Tryz.prog) (k := 3) (k' := 3) (v := .func (.func 35) #[] #[]) hT4 Tryz.underlying61 Tryz.underlying27 rfl
  refine wpAnyH_ready (rs := [3]) (by kernel_rfl) (by simp) ?_
  refine AllReadyH.cons rfl (fun K hK => ?_) AllReadyH.nil
  refine step_value rfl (exec_lookup (v1 := .map (some w3.heap.size)) (v2 := .int .u8 3) _ _ _ rfl (by rfl) (by rfl) w4 hlk) ?_
  refine hK.out _ _ hHeld4 (fun _ => ?_)
  clear hK K
  try simp only [Act.put, List.getElem_toArray, List.getElem_cons_zero, List.getElem_cons_succ, List.setIfInBounds_toArray, List.set_cons_zero, List.set_cons_succ]
  have HL4 := hide (HL3.out.below hB4)
  have HB4 : Hid (Below w.heap.size w w4) := hide (HB3.out.trans (hB4.mono (by omega)))
  have HC4 := hide (HC3.out.trans (hB4.mono (by omega)))
  have hs4 : L < w4.heap.size := Nat.lt_of_lt_of_le hs3 hB4.size
  have HQ4 := hide (HQ.out.belowB HC4.out)
  have HP4 := hide ((HP.out.below HB4.out).up hs1)
  clear hB4 hT4 hlk HL3 HB3 HC3
  refine wpAnyH_ready (rs := [6]) (by kernel_rfl) (by simp) ?_
  refine AllReadyH.cons rfl (fun K hK => ?_) AllReadyH.nil
  go_simp
  go_wp2_with (go_at_call 35; (with_reducible refine (HWr.out _ _ HL4.out HQ4.out HP4.out hs4).mono ?_); rintro e5 w5 ⟨rfl, hL5, hB5, _⟩)
  have hHeld5 : w5.heap[w.heap.size]? = some (.cells #[.int .u8 3, .string file, .string text, .int .i64 hunk.at_, .slice x.h.oA hunk.old.length x.h.oc, .slice x.h.nA hunk.new.length x.h.nc, .int .u8 edit.kind, .slice x.e.pA edit.path.length x.e.pc, .int .i64 edit.at_, .int .i64 edit.far, .string edit.frm, .string edit.to, .slice x.e.oA edit.old.len x.e.oc, .slice x.e.nA edit.new.len x.e.nc] 37) := (hB5.block _ hP1).trans hHeld4
  refine hK.out _ _ hHeld5 (fun _ => ?_)
  clear hK K
  try simp only [Act.put, List.getElem_toArray, List.getElem_cons_zero, List.getElem_cons_succ, List.setIfInBounds_toArray, List.set_cons_zero, List.set_cons_succ]
  have HL5 := hide hL5
  have HB5 := hide (HB4.out.trans (hB5.mono hs1))
  clear hL5 hB5
  refine wpAnyH_done (by kernel_rfl) ?_ _
  try simp only [Act.put, List.getElem_toArray, List.getElem_cons_zero, List.getElem_cons_succ, List.setIfInBounds_toArray, List.set_cons_zero, List.set_cons_succ]
  go_wp2_with (go_at_call 18; (with_reducible refine (line_string _ _ _ _ HL5.out (lineS_head Hok.out).2).mono ?_); rintro e6 w6 ⟨rfl, hB6, _⟩; have HB6 := hide (HB5.out.trans (hB6.mono hs1)); clear hB6)
  go_ret
  generalize lineB ⟨3, file, text, hunk, edit⟩ = l
  exact ⟨rfl, HB6.out⟩

end Go.Proofs.YtadilmijppdpoaaGreatDoor

namespace Go.Proofs.YtadilmijppdpoaaGreatDoor
open Go.RowKit

set_option maxHeartbeats 4000000 in
set_option maxRecDepth 1000000 in
theorem line_yes4 {S : Nat → Prop} {x : Ph} {file text : ByteArray} {hunk : Hk} {edit : Ed} {w : World} (hp : PtIn S w x ⟨4, file, text, hunk, edit⟩) (htab : TabOk w) (hpow : TabP w.heap.size w) (hok : PtOk ⟨4, file, text, hunk, edit⟩) (hsum : edit.frm.size + edit.to.size ≤ 9223372036854775807)
    (hlen : (ptB ⟨4, file, text, hunk, edit⟩).length ≤ 549755813888) :
    Calls Tryz.prog 8 #[.agg #[.int .u8 4, .string file, .string text, .int .i64 hunk.at_, .slice x.h.oA hunk.old.length x.h.oc, .slice x.h.nA hunk.new.length x.h.nc, .int .u8 edit.kind, .slice x.e.pA edit.path.length x.e.pc, .int .i64 edit.at_, .int .i64 edit.far, .string edit.frm, .string edit.to, .slice x.e.oA edit.old.len x.e.oc, .slice x.e.nA edit.new.len x.e.nc]] w fun e w' => e = .returned (.string ⟨(lineB ⟨4, file, text, hunk, edit⟩).toArray⟩) ∧ Below w.heap.size w w' := by
  have Hp := hide hp
  have HT := hide htab
  have HP := hide hpow
  have Hok := hide hok
  have Hlen := hide hlen
  have HR : Hid (∀ W, Below w.heap.size w W → Calls Tryz.prog 16 #[.agg #[.int .u8 4, .string file, .string text, .int .i64 hunk.at_, .slice x.h.oA hunk.old.length x.h.oc, .slice x.h.nA hunk.new.length x.h.nc, .int .u8 edit.kind, .slice x.e.pA edit.path.length x.e.pc, .int .i64 edit.at_, .int .i64 edit.far, .string edit.frm, .string edit.to, .slice x.e.oA edit.old.len x.e.oc, .slice x.e.nA edit.new.len x.e.nc]] W fun e w' => e = .returned (.bool true) ∧ Below W.heap.size W w') := hide (by
    intro W hW
    have h := right_yes (S := S) (x := x) (p := ⟨4, file, text, hunk, edit⟩) (w := W) (hp.below hW) (htab.below hW) hsum hok
    exact h)
  have HWr : Hid (∀ (W : World) (L : Nat), IsLine L L (Lib.byteCells []) W → PtIn (fun k => k < L) W x ⟨4, file, text, hunk, edit⟩ → TabP L W → L < W.heap.size → Calls Tryz.prog 36 #[.pointer (some ⟨L, 0, none⟩), .agg #[.int .u8 4, .string file, .string text, .int .i64 hunk.at_, .slice x.h.oA hunk.old.length x.h.oc, .slice x.h.nA hunk.new.length x.h.nc, .int .u8 edit.kind, .slice x.e.pA edit.path.length x.e.pc, .int .i64 edit.at_, .int .i64 edit.far, .string edit.frm, .string edit.to, .slice x.e.oA edit.old.len x.e.oc, .slice x.e.nA edit.new.len x.e.nc]] W (Wrote L L ⟨4, file, text, hunk, edit⟩ W)) :=
    hide (by
      intro W L h1 h2 h3 h4
      have h := write_4 (x := x) (p := ⟨4, file, text, hunk, edit⟩) h1 h2 h3 (Nat.le_of_lt h4) h4 hok hlen rfl
      exact h)
  clear hp htab hpow hok hlen
  go_enter Tryz.func8, Tryz.ntmps8
  go_wp2_with (go_at_call 16; (with_reducible refine (HR.out _ (below_alloc _ _)).mono ?_); rintro e1 w1 ⟨rfl, hB1⟩; have HB1 : Hid (Below w.heap.size w w1) := hide ((below_alloc w _).trans (hB1.mono (by simp))); have HX1 : Hid (w1.heap[w.heap.size]? = some (.cells #[.int .u8 4, .string file, .string text, .int .i64 hunk.at_, .slice x.h.oA hunk.old.length x.h.oc, .slice x.h.nA hunk.new.length x.h.nc, .int .u8 edit.kind, .slice x.e.pA edit.path.length x.e.pc, .int .i64 edit.at_, .int .i64 edit.far, .string edit.frm, .string edit.to, .slice x.e.oA edit.old.len x.e.oc, .slice x.e.nA edit.new.len x.e.nc] 37)) := hide ((hB1.block _ (by simp)).trans (heap_alloc_new w _)); have hs1 := HB1.out.size; have hP1 : w.heap.size < w1.heap.size := (Array.getElem?_eq_some_iff.1 HX1.out).1; clear hB1)
  have HX2 : Hid ((w1.alloc (.cells #[.pointer none, .slice none 0 0] 59)).heap[w.heap.size]? = some (.cells #[.int .u8 4, .string file, .string text, .int .i64 hunk.at_, .slice x.h.oA hunk.old.length x.h.oc, .slice x.h.nA hunk.new.length x.h.nc, .int .u8 edit.kind, .slice x.e.pA edit.path.length x.e.pc, .int .i64 edit.at_, .int .i64 edit.far, .string edit.frm, .string edit.to, .slice x.e.oA edit.old.len x.e.oc, .slice x.e.nA edit.new.len x.e.nc] 37)) := hide (((below_alloc w1 _).block _ hP1).trans HX1.out)
  have HL2 : Hid (IsLine w1.heap.size w1.heap.size (Lib.byteCells []) (w1.alloc (.cells #[.pointer none, .slice none 0 0] 59))) := hide (Lib.fresh_isBuilder _ _ _)
  have HB2 : Hid (Below w.heap.size w (w1.alloc (.cells #[.pointer none, .slice none 0 0] 59))) := hide (HB1.out.alloc hs1 _)
  have HC2 : Hid (Below w1.heap.size w1 (w1.alloc (.cells #[.pointer none, .slice none 0 0] 59))) := hide (below_alloc w1 _)
  have hs2 : w1.heap.size < (w1.alloc (.cells #[.pointer none, .slice none 0 0] 59)).heap.size := by simp
  have HQ := hide ((Hp.out.below HB1.out).mono (S' := fun k => k < w1.heap.size) fun b hb _ => hb)
  generalize w1.alloc (.cells #[.pointer none, .slice none 0 0] 59) = w2 at HX2 HL2 HB2 HC2 hs2 ⊢
  generalize w1.heap.size = L at HL2 HC2 hs2 hs1 hP1 HQ ⊢
  refine wp_region_held_drew (S := fun w' => w'.heap[w.heap.size]? = some (.cells #[.int .u8 4, .string file, .string text, .int .i64 hunk.at_, .slice x.h.oA hunk.old.length x.h.oc, .slice x.h.nA hunk.new.length x.h.nc, .int .u8 edit.kind, .slice x.e.pA edit.path.length x.e.pc, .int .i64 edit.at_, .int .i64 edit.far, .string edit.frm, .string edit.to, .slice x.e.oA edit.old.len x.e.oc, .slice x.e.nA edit.new.len x.e.nc] 37)) (by kernel_rfl) HX2.out (fun hHeld => ?_)
  have hd2 : Below w2.heap.size w2 w2.drew := blw_drewN (Below.refl _ _) 1
  have HL3 := hide (HL2.out.below hd2)
  have HB3 := hide (HB2.out.trans (hd2.mono (by omega)))
  have HC3 := hide (HC2.out.trans (hd2.mono (by omega)))
  have hs3 : L < w2.drew.heap.size := hs2
  clear HX2 HL2 HB2 HC2 hs2 hd2 HX1
  generalize w2.drew = w3 at HL3 HB3 HC3 hs3 hHeld ⊢
  refine wpAnyH_take (i := 1) (v := ?_) rfl (by kernel_rfl) (by kernel_rfl) (by kernel_rfl) (fun _ _ _ h => h) (Or.inl ⟨by rfl, ?_⟩) hHeld ?_
  rotate_left
  · intro w' hSw
    first | (go_simp; done) | (go_simp; with_reducible rfl)
  try simp only [Act.put, List.getElem_toArray, List.getElem_cons_zero, List.getElem_cons_succ, List.setIfInBounds_toArray, List.set_cons_zero, List.set_cons_succ]
  refine wpAnyH_take (i := 2) (v := ?_) rfl (by kernel_rfl) (by kernel_rfl) (by kernel_rfl) (fun _ _ _ h => h) (Or.inl ⟨by rfl, ?_⟩) hHeld ?_
  rotate_left
  · intro w' hSw
    have hc : ∀ o, w'.cell? ⟨w.heap.size, o, none⟩ = (#[.int .u8 4, .string file, .string text, .int .i64 hunk.at_, .slice x.h.oA hunk.old.length x.h.oc, .slice x.h.nA hunk.new.length x.h.nc, .int .u8 edit.kind, .slice x.e.pA edit.path.length x.e.pc, .int .i64 edit.at_, .int .i64 edit.far, .string edit.frm, .string edit.to, .slice x.e.oA edit.old.len x.e.oc, .slice x.e.nA edit.new.len x.e.nc] : Array Value)[o]? := fun o => Lib.cell_of_heap hSw o
    first | (go_simp; done) | (go_simp; with_reducible rfl)
  try simp only [Act.put, List.getElem_toArray, List.getElem_cons_zero, List.getElem_cons_succ, List.setIfInBounds_toArray, List.set_cons_zero, List.set_cons_succ]
  refine wpAnyH_take (i := 4) (v := ?_) rfl (by kernel_rfl) (by kernel_rfl) (by kernel_rfl) (fun _ _ _ h => h) (Or.inl ⟨by rfl, ?_⟩) hHeld ?_
  rotate_left
  · intro w' hSw
    first | (go_simp; done) | (go_simp; with_reducible rfl)
  try simp only [Act.put, List.getElem_toArray, List.getElem_cons_zero, List.getElem_cons_succ, List.setIfInBounds_toArray, List.set_cons_zero, List.set_cons_succ]
  refine wpAnyH_take (i := 5) (v := ?_) rfl (by kernel_rfl) (by kernel_rfl) (by kernel_rfl) (fun _ _ _ h => h) (Or.inl ⟨by rfl, ?_⟩) hHeld ?_
  rotate_left
  · intro w' hSw
    have hc : ∀ o, w'.cell? ⟨w.heap.size, o, none⟩ = (#[.int .u8 4, .string file, .string text, .int .i64 hunk.at_, .slice x.h.oA hunk.old.length x.h.oc, .slice x.h.nA hunk.new.length x.h.nc, .int .u8 edit.kind, .slice x.e.pA edit.path.length x.e.pc, .int .i64 edit.at_, .int .i64 edit.far, .string edit.frm, .string edit.to, .slice x.e.oA edit.old.len x.e.oc, .slice x.e.nA edit.new.len x.e.nc] : Array Value)[o]? := fun o => Lib.cell_of_heap hSw o
    first | (go_simp; done) | (go_simp; with_reducible rfl)
  try simp only [Act.put, List.getElem_toArray, List.getElem_cons_zero, List.getElem_cons_succ, List.setIfInBounds_toArray, List.set_cons_zero, List.set_cons_succ]
  refine wpAnyH_ready (rs := [0]) (by kernel_rfl) (by simp) ?_
  refine AllReadyH.cons rfl (fun K hK => ?_) AllReadyH.nil
  go_simp
  go_wp2_with (go_at_call 17; (with_reducible refine (ways_any w3).mono ?_); rintro e4 w4 ⟨rfl, hT4, hB4⟩)
  have hHeld4 : w4.heap[w.heap.size]? = some (.cells #[.int .u8 4, .string file, .string text, .int .i64 hunk.at_, .slice x.h.oA hunk.old.length x.h.oc, .slice x.h.nA hunk.new.length x.h.nc, .int .u8 edit.kind, .slice x.e.pA edit.path.length x.e.pc, .int .i64 edit.at_, .int .i64 edit.far, .string edit.frm, .string edit.to, .slice x.e.oA edit.old.len x.e.oc, .slice x.e.nA edit.new.len x.e.nc] 37) := (hB4.block _ (by omega)).trans hHeld
  refine hK.out _ _ hHeld4 (fun _ => ?_)
  clear hK K
  try simp only [Act.put, List.getElem_toArray, List.getElem_cons_zero, List.getElem_cons_succ, List.setIfInBounds_toArray, List.set_cons_zero, List.set_cons_succ]
  have hlk := run_lookup_val (P := Tryz.prog) (k := 4) (k' := 4) (v := .func (.func 36) #[] #[]) hT4 Tryz.underlying61 Tryz.underlying27 rfl
  refine wpAnyH_ready (rs := [3]) (by kernel_rfl) (by simp) ?_
  refine AllReadyH.cons rfl (fun K hK => ?_) AllReadyH.nil
  refine step_value rfl (exec_lookup (v1 := .map (some w3.heap.size)) (v2 := .int .u8 4) _ _ _ rfl (by rfl) (by rfl) w4 hlk) ?_
  refine hK.out _ _ hHeld4 (fun _ => ?_)
  clear hK K
  try simp only [Act.put, List.getElem_toArray, List.getElem_cons_zero, List.getElem_cons_succ, List.setIfInBounds_toArray, List.set_cons_zero, List.set_cons_succ]
  have HL4 := hide (HL3.out.below hB4)
  have HB4 : Hid (Below w.heap.size w w4) := hide (HB3.out.trans (hB4.mono (by omega)))
  have HC4 := hide (HC3.out.trans (hB4.mono (by omega)))
  have hs4 : L < w4.heap.size := Nat.lt_of_lt_of_le hs3 hB4.size
  have HQ4 := hide (HQ.out.belowB HC4.out)
  have HP4 := hide ((HP.out.below HB4.out).up hs1)
  clear hB4 hT4 hlk HL3 HB3 HC3
  refine wpAnyH_ready (rs := [6]) (by kernel_rfl) (by simp) ?_
  refine AllReadyH.cons rfl (fun K hK => ?_) AllReadyH.nil
  go_simp
  go_wp2_with (go_at_call 36; (with_reducible refine (HWr.out _ _ HL4.out HQ4.out HP4.out hs4).mono ?_); rintro e5 w5 ⟨rfl, hL5, hB5, _⟩)
  have hHeld5 : w5.heap[w.heap.size]? = some (.cells #[.int .u8 4, .string file, .string text, .int .i64 hunk.at_, .slice x.h.oA hunk.old.length x.h.oc, .slice x.h.nA hunk.new.length x.h.nc, .int .u8 edit.kind, .slice x.e.pA edit.path.length x.e.pc, .int .i64 edit.at_, .int .i64 edit.far, .string edit.frm, .string edit.to, .slice x.e.oA edit.old.len x.e.oc, .slice x.e.nA edit.new.len x.e.nc] 37) := (hB5.block _ hP1).trans hHeld4
  refine hK.out _ _ hHeld5 (fun _ => ?_)
  clear hK K
  try simp only [Act.put, List.getElem_toArray, List.getElem_cons_zero, List.getElem_cons_succ, List.setIfInBounds_toArray, List.set_cons_zero, List.set_cons_succ]
  have HL5 := hide hL5
  have HB5 := hide (HB4.out.trans (hB5.mono hs1))
  clear hL5 hB5
  refine wpAnyH_done (by kernel_rfl) ?_ _
  try simp only [Act.put, List.getElem_toArray, List.getElem_cons_zero, List.getElem_cons_succ, List.setIfInBounds_toArray, List.set_cons_zero, List.set_cons_succ]
  go_wp2_with (go_at_call 18; (with_reducible refine (line_string _ _ _ _ HL5.out (lineS_head Hok.out).2).mono ?_); rintro e6 w6 ⟨rfl, hB6, _⟩; have HB6 := hide (HB5.out.trans (hB6.mono hs1)); clear hB6)
  go_ret
  generalize lineB ⟨4, file, text, hunk, edit⟩ = l
  exact ⟨rfl, HB6.out⟩

end Go.Proofs.YtadilmijppdpoaaGreatDoor

namespace Go.Proofs.YtadilmijppdpoaaGreatDoor
open Go.RowKit

theorem line_yes {S : Nat → Prop} {x : Ph} {p : Pt} {w : World} (hp : PtIn S w x p) (htab : TabOk w) (hpow : TabP w.heap.size w) (hok : PtOk p) (hlen : (ptB p).length ≤ 549755813888) :
    Calls Tryz.prog 8 #[.agg #[.int .u8 p.kind, .string p.file, .string p.text, .int .i64 p.hunk.at_, .slice x.h.oA p.hunk.old.length x.h.oc, .slice x.h.nA p.hunk.new.length x.h.nc, .int .u8 p.edit.kind, .slice x.e.pA p.edit.path.length x.e.pc, .int .i64 p.edit.at_, .int .i64 p.edit.far, .string p.edit.frm, .string p.edit.to, .slice x.e.oA p.edit.old.len x.e.oc, .slice x.e.nA p.edit.new.len x.e.nc]] w fun e w' => e = .returned (.string ⟨(lineB p).toArray⟩) ∧ Below w.heap.size w w' := by
  have hsum := ptOk_sum hok
  have hk : p.kind = 1 ∨ p.kind = 2 ∨ p.kind = 3 ∨ p.kind = 4 := by
    obtain ⟨_, ⟨hk1 | hk1, _⟩ | ⟨hk1, _⟩ | ⟨hk1, _⟩⟩ := hok
    · exact .inl hk1
    · exact .inr (.inl hk1)
    · exact .inr (.inr (.inl hk1))
    · exact .inr (.inr (.inr hk1))
  obtain ⟨kd, file, text, hunk, edit⟩ := p
  simp only at hk
  rcases hk with rfl | rfl | rfl | rfl
  · exact line_yes1 hp htab hpow hok hsum hlen
  · exact line_yes2 hp htab hpow hok hsum hlen
  · exact line_yes3 hp htab hpow hok hsum hlen
  · exact line_yes4 hp htab hpow hok hsum hlen

set_option maxHeartbeats 1000000 in
set_option maxRecDepth 1000000 in
theorem line_no {S : Nat → Prop} {x : Ph} {p : Pt} {w : World} (hp : PtIn S w x p) (htab : TabOk w) (hsum : p.edit.frm.size + p.edit.to.size ≤ 9223372036854775807) (hno : ¬ PtOk p) :
    Calls Tryz.prog 8 #[.agg #[.int .u8 p.kind, .string p.file, .string p.text, .int .i64 p.hunk.at_, .slice x.h.oA p.hunk.old.length x.h.oc, .slice x.h.nA p.hunk.new.length x.h.nc, .int .u8 p.edit.kind, .slice x.e.pA p.edit.path.length x.e.pc, .int .i64 p.edit.at_, .int .i64 p.edit.far, .string p.edit.frm, .string p.edit.to, .slice x.e.oA p.edit.old.len x.e.oc, .slice x.e.nA p.edit.new.len x.e.nc]] w fun e w' => e = .returned (.string ⟨#[63]⟩) ∧ Below w.heap.size w w' := by
  have Hp := hide hp
  have HT := hide htab
  clear hp htab
  go_enter Tryz.func8, Tryz.ntmps8
  go_wp2_with (go_at_call 16; (with_reducible refine (patchRight_any (Hp.out.below (below_alloc _ _)) (HT.out.below (below_alloc _ _)) hsum).mono ?_); rintro e1 w1 ⟨⟨b1, rfl, hb1⟩, hB1⟩; have hb2 : b1 = false := (by cases b1 with | false => rfl | true => exact absurd (hb1.1 rfl) hno); subst hb2; have HB1 : Hid (Below w.heap.size w w1) := hide ((below_alloc w _).trans (hB1.mono (by simp))); clear hB1 hb1)
  go_ret
  exact ⟨rfl, HB1.out⟩

open Classical in
/-- what log.Line tells -/
noncomputable def saidB (p : Pt) : List UInt8 := if PtOk p then lineB p else [63]
theorem line_any {S : Nat → Prop} {x : Ph} {p : Pt} {w : World} (hp : PtIn S w x p) (htab : TabOk w) (hpow : TabP w.heap.size w) (hsum : p.edit.frm.size + p.edit.to.size ≤ 9223372036854775807) (hlen : (ptB p).length ≤ 549755813888) :
    Calls Tryz.prog 8 #[.agg #[.int .u8 p.kind, .string p.file, .string p.text, .int .i64 p.hunk.at_, .slice x.h.oA p.hunk.old.length x.h.oc, .slice x.h.nA p.hunk.new.length x.h.nc, .int .u8 p.edit.kind, .slice x.e.pA p.edit.path.length x.e.pc, .int .i64 p.edit.at_, .int .i64 p.edit.far, .string p.edit.frm, .string p.edit.to, .slice x.e.oA p.edit.old.len x.e.oc, .slice x.e.nA p.edit.new.len x.e.nc]] w fun e w' => e = .returned (.string ⟨(saidB p).toArray⟩) ∧ Below w.heap.size w w' := by
  by_cases h : PtOk p
  · have e : saidB p = lineB p := by unfold saidB; rw [if_pos h]
    rw [e]
    exact line_yes hp htab hpow h hlen
  · have e : saidB p = [63] := by unfold saidB; rw [if_neg h]
    rw [e]
    exact line_no hp htab hsum h

end Go.Proofs.YtadilmijppdpoaaGreatDoor
