/- The line of an edit's patch, kind 4. Printed by gen_logtree.py. -/
import Derived.Deep.RegionHeld
import Derived.Test.YtadilmijppdpoaaGreatDoorTLogB

set_option linter.unusedVariables false
set_option linter.unusedSimpArgs false

namespace Go.Proofs.YtadilmijppdpoaaGreatDoor
open Go.RowKit

set_option maxHeartbeats 4000000 in
set_option maxRecDepth 1000000 in
theorem line_tree4 {B b : Nat} {x : Ph} {file text frm tto : ByteArray} {hunk : Hk} {path : List Int} {at_ far : Int} {old new : Fo} {w : World} (h : IsLine B b (Lib.byteCells []) w) (hp : PtIn (fun k => k < B) w x ⟨4, file, text, hunk, ⟨4, path, at_, far, frm, tto, old, new⟩⟩) (htab : TabP B w) (hBw : B ≤ w.heap.size) (hbl : b < w.heap.size)
    (hns : ∀ n ∈ numsN ⟨4, path, at_, far, frm, tto, old, new⟩ ++ (sizesN old ++ sizesN new), isInt64 n) (hlen : roomB (treeS file ⟨4, path, at_, far, frm, tto, old, new⟩) ≤ 140737488355328) (hpl : path.length ≤ 549755813888) (hol : (old.len + new.len) * 56 ≤ 140737488355328) :
    Calls Tryz.prog 36 #[.pointer (some ⟨b, 0, none⟩), .agg #[.int .u8 4, .string file, .string text, .int .i64 hunk.at_, .slice x.h.oA hunk.old.length x.h.oc, .slice x.h.nA hunk.new.length x.h.nc, .int .u8 4, .slice x.e.pA path.length x.e.pc, .int .i64 at_, .int .i64 far, .string frm, .string tto, .slice x.e.oA old.len x.e.oc, .slice x.e.nA new.len x.e.nc]] w fun e w' => e = .returned (.tuple #[]) ∧ IsLine B b (Lib.byteCells (putsB [] (treeS file ⟨4, path, at_, far, frm, tto, old, new⟩))) w' ∧ Below B w w' ∧ Lib.OthersKept 5 (some b) w w' := by
  have hmm := @run_makeMap Tryz.prog
  have H := hide h
  have Hp := hide hp
  have HT := hide htab
  have Hns := hide hns
  have Hroom := hide hlen
  have Hns1 : Hid (∀ n ∈ (([] : List Int) : List Int), isInt64 n) := hide (fun n hn => hns n (List.mem_append.2 (Or.inl hn)))
  have Hns2 : Hid (∀ n ∈ sizesN old ++ sizesN new, isInt64 n) := hide (fun n hn => hns n (List.mem_append.2 (Or.inr hn)))
  have hdot : (dotW path).length ≤ 140737488355328 := Nat.le_trans (tree_dot (e := ⟨4, path, at_, far, frm, tto, old, new⟩)) hlen
  have T : Hid (Tab EqV .u8 ((w.alloc (.cells #[.int .u8 4, .string file, .string text, .int .i64 hunk.at_, .slice x.h.oA hunk.old.length x.h.oc, .slice x.h.nA hunk.new.length x.h.nc, .int .u8 4, .slice x.e.pA path.length x.e.pc, .int .i64 at_, .int .i64 far, .string frm, .string tto, .slice x.e.oA old.len x.e.oc, .slice x.e.nA new.len x.e.nc] 37)).alloc (.map #[] 0)) (w.heap.size + 1) []) := hide (by
    have := Tab.new (V := EqV) (kd := .u8) (w.alloc (.cells #[.int .u8 4, .string file, .string text, .int .i64 hunk.at_, .slice x.h.oA hunk.old.length x.h.oc, .slice x.h.nA hunk.new.length x.h.nc, .int .u8 4, .slice x.e.pA path.length x.e.pc, .int .i64 at_, .int .i64 far, .string frm, .string tto, .slice x.e.oA old.len x.e.oc, .slice x.e.nA new.len x.e.nc] 37))
    rw [show (w.alloc (.cells #[.int .u8 4, .string file, .string text, .int .i64 hunk.at_, .slice x.h.oA hunk.old.length x.h.oc, .slice x.h.nA hunk.new.length x.h.nc, .int .u8 4, .slice x.e.pA path.length x.e.pc, .int .i64 at_, .int .i64 far, .string frm, .string tto, .slice x.e.oA old.len x.e.oc, .slice x.e.nA new.len x.e.nc] 37)).heap.size = w.heap.size + 1 from by simp] at this
    exact this)
  have HB : Hid (Below (w.heap.size + 1) (w.alloc (.cells #[.int .u8 4, .string file, .string text, .int .i64 hunk.at_, .slice x.h.oA hunk.old.length x.h.oc, .slice x.h.nA hunk.new.length x.h.nc, .int .u8 4, .slice x.e.pA path.length x.e.pc, .int .i64 at_, .int .i64 far, .string frm, .string tto, .slice x.e.oA old.len x.e.oc, .slice x.e.nA new.len x.e.nc] 37)) ((w.alloc (.cells #[.int .u8 4, .string file, .string text, .int .i64 hunk.at_, .slice x.h.oA hunk.old.length x.h.oc, .slice x.h.nA hunk.new.length x.h.nc, .int .u8 4, .slice x.e.pA path.length x.e.pc, .int .i64 at_, .int .i64 far, .string frm, .string tto, .slice x.e.oA old.len x.e.oc, .slice x.e.nA new.len x.e.nc] 37)).alloc (.map #[] 0))) := hide ((Below.refl _ _).alloc (by simp) _)
  have Hr : Hid (w.heap.size + 1 ≤ (w.alloc (.cells #[.int .u8 4, .string file, .string text, .int .i64 hunk.at_, .slice x.h.oA hunk.old.length x.h.oc, .slice x.h.nA hunk.new.length x.h.nc, .int .u8 4, .slice x.e.pA path.length x.e.pc, .int .i64 at_, .int .i64 far, .string frm, .string tto, .slice x.e.oA old.len x.e.oc, .slice x.e.nA new.len x.e.nc] 37)).heap.size) := hide (by simp)
  have Hr3 : Hid (roomB [⟨#[114, 101, 112, 108, 97, 99, 101]⟩, file, dotS path] + roomB ((([] : List Int) ++ (sizesN old ++ sizesN new)).map itoaS) ≤ 140737488355328) := hide (Nat.le_trans (Nat.le_of_eq (tree_head (file := file) (e := ⟨4, path, at_, far, frm, tto, old, new⟩) (r := (([] : List Int) ++ (sizesN old ++ sizesN new)).map itoaS) rfl)) hlen)
  have Hl3 := hide (putsB_len [⟨#[114, 101, 112, 108, 97, 99, 101]⟩, file, dotS path] [])
  obtain ⟨iN, hiN, _, _, _⟩ := info_parts InfoNode
  have hoc : old.len ≤ x.e.oc := hp.edit.oc.1
  clear h hp htab hns hlen
  go_enter Tryz.func36, Tryz.ntmps36
  go_wp2_with fail
  generalize (w.alloc (.cells #[.int .u8 4, .string file, .string text, .int .i64 hunk.at_, .slice x.h.oA hunk.old.length x.h.oc, .slice x.h.nA hunk.new.length x.h.nc, .int .u8 4, .slice x.e.pA path.length x.e.pc, .int .i64 at_, .int .i64 far, .string frm, .string tto, .slice x.e.oA old.len x.e.oc, .slice x.e.nA new.len x.e.nc] 37)).alloc (.map #[] 0) = wb at T HB ⊢
  go_wp2_with (first
    | ((with_reducible refine upon_insert_val ?_ Tryz.underlying99 Tryz.underlying31 T.out HB.out Hr.out ?_ ?_); exact rfl; exact rfl; clear T HB; (try clear hbox); intro w1 T HB; have hbox : ∀ o, w1.cell? ⟨w.heap.size, o, none⟩ = (#[.int .u8 4, .string file, .string text, .int .i64 hunk.at_, .slice x.h.oA hunk.old.length x.h.oc, .slice x.h.nA hunk.new.length x.h.nc, .int .u8 4, .slice x.e.pA path.length x.e.pc, .int .i64 at_, .int .i64 far, .string frm, .string tto, .slice x.e.oA old.len x.e.oc, .slice x.e.nA new.len x.e.nc] : Array Value)[o]? := (fun o => (HB.out.cell (p := ⟨w.heap.size, o, none⟩) (by simp)).trans (Lib.cell_of_heap (heap_alloc_new w _) o))))
  clear hbox hmm
  obtain ⟨es, cc, e1, e2⟩ := T.out
  have HL := hide (look_block (P := Tryz.prog) (r := w.heap.size + 1) (k := 4) (k' := 4) (v := .string ⟨#[114, 101, 112, 108, 97, 99, 101]⟩) (cc := cc) e2 Tryz.underlying99 Tryz.underlying31 rfl)
  have hs1 : w.heap.size + 2 ≤ w1.heap.size := by have := (Array.getElem?_eq_some_iff.1 e1).1; omega
  have hP1 : w1.heap[w.heap.size]? = some (.cells #[.int .u8 4, .string file, .string text, .int .i64 hunk.at_, .slice x.h.oA hunk.old.length x.h.oc, .slice x.h.nA hunk.new.length x.h.nc, .int .u8 4, .slice x.e.pA path.length x.e.pc, .int .i64 at_, .int .i64 far, .string frm, .string tto, .slice x.e.oA old.len x.e.oc, .slice x.e.nA new.len x.e.nc] 37) := (HB.out.block _ (by simp)).trans (heap_alloc_new w _)
  have HBx : Hid (Boxes w1.heap.size w.heap.size (w.heap.size + 1) #[.int .u8 4, .slice x.e.pA path.length x.e.pc, .int .i64 at_, .int .i64 far, .string frm, .string tto, .slice x.e.oA old.len x.e.oc, .slice x.e.nA new.len x.e.nc] #[.int .u8 4, .string file, .string text, .int .i64 hunk.at_, .slice x.h.oA hunk.old.length x.h.oc, .slice x.h.nA hunk.new.length x.h.nc, .int .u8 4, .slice x.e.pA path.length x.e.pc, .int .i64 at_, .int .i64 far, .string frm, .string tto, .slice x.e.oA old.len x.e.oc, .slice x.e.nA new.len x.e.nc] es cc (w1.alloc (.cells #[.int .u8 4, .slice x.e.pA path.length x.e.pc, .int .i64 at_, .int .i64 far, .string frm, .string tto, .slice x.e.oA old.len x.e.oc, .slice x.e.nA new.len x.e.nc] 35))) :=
    hide ⟨heap_alloc_new w1 _, ((below_alloc w1 _).block _ (by omega)).trans hP1, ((below_alloc w1 _).block _ (by omega)).trans e1⟩
  have HW : Hid (Below w.heap.size w (w1.alloc (.cells #[.int .u8 4, .slice x.e.pA path.length x.e.pc, .int .i64 at_, .int .i64 far, .string frm, .string tto, .slice x.e.oA old.len x.e.oc, .slice x.e.nA new.len x.e.nc] 35))) := hide (((below_alloc w _).trans (HB.out.mono (by omega))).alloc (by omega) _)
  have hE2 : w1.heap.size < (w1.alloc (.cells #[.int .u8 4, .slice x.e.pA path.length x.e.pc, .int .i64 at_, .int .i64 far, .string frm, .string tto, .slice x.e.oA old.len x.e.oc, .slice x.e.nA new.len x.e.nc] 35)).heap.size := by simp
  clear T HB e1 e2 hP1
  generalize w1.alloc (.cells #[.int .u8 4, .slice x.e.pA path.length x.e.pc, .int .i64 at_, .int .i64 far, .string frm, .string tto, .slice x.e.oA old.len x.e.oc, .slice x.e.nA new.len x.e.nc] 35) = wE at HBx HW hE2 ⊢
  generalize w1.heap.size = E at hs1 HBx hE2 ⊢
  have hsW := HW.out.size
  have hdr : Below wE.heap.size wE wE.drew := blw_drewN (Below.refl _ _) 1
  refine wp_region_held_drew (S := Boxes E w.heap.size (w.heap.size + 1) #[.int .u8 4, .slice x.e.pA path.length x.e.pc, .int .i64 at_, .int .i64 far, .string frm, .string tto, .slice x.e.oA old.len x.e.oc, .slice x.e.nA new.len x.e.nc] #[.int .u8 4, .string file, .string text, .int .i64 hunk.at_, .slice x.h.oA hunk.old.length x.h.oc, .slice x.h.nA hunk.new.length x.h.nc, .int .u8 4, .slice x.e.pA path.length x.e.pc, .int .i64 at_, .int .i64 far, .string frm, .string tto, .slice x.e.oA old.len x.e.oc, .slice x.e.nA new.len x.e.nc] es cc) (by kernel_rfl) HBx.out (fun hHeld => ?_)
  have HWd : Hid (Below w.heap.size w wE.drew) := hide (HW.out.trans ((blw_drewN (Below.refl _ _) 1 : Below wE.heap.size wE wE.drew).mono hsW))
  have hE3 : E < wE.drew.heap.size := hE2
  clear HW HBx hE2 hdr hsW
  generalize wE.drew = wD at HWd hE3 hHeld ⊢
  have hsD := HWd.out.size
  refine wpAnyH_take (i := 0) (v := ?_) rfl (by kernel_rfl) (by kernel_rfl) (by kernel_rfl) (fun _ _ _ h => h) (Or.inl ⟨by rfl, ?_⟩) hHeld ?_
  rotate_left
  · intro w' hSw
    first | (go_simp; done) | (go_simp; with_reducible rfl)
  try simp only [Act.put, List.getElem_toArray, List.getElem_cons_zero, List.getElem_cons_succ, List.setIfInBounds_toArray, List.set_cons_zero, List.set_cons_succ]
  refine wpAnyH_take (i := 1) (v := ?_) rfl (by kernel_rfl) (by kernel_rfl) (by kernel_rfl) (fun _ _ _ h => h) (Or.inl ⟨by rfl, ?_⟩) hHeld ?_
  rotate_left
  · intro w' hSw
    first | (go_simp; done) | (go_simp; with_reducible rfl)
  try simp only [Act.put, List.getElem_toArray, List.getElem_cons_zero, List.getElem_cons_succ, List.setIfInBounds_toArray, List.set_cons_zero, List.set_cons_succ]
  refine wpAnyH_take (i := 2) (v := ?_) rfl (by kernel_rfl) (by kernel_rfl) (by kernel_rfl) (fun _ _ _ h => h) (Or.inl ⟨by rfl, ?_⟩) hHeld ?_
  rotate_left
  · intro w' hSw
    first | (go_simp; done) | (go_simp; with_reducible rfl)
  try simp only [Act.put, List.getElem_toArray, List.getElem_cons_zero, List.getElem_cons_succ, List.setIfInBounds_toArray, List.set_cons_zero, List.set_cons_succ]
  refine wpAnyH_take (i := 3) (v := ?_) rfl (by kernel_rfl) (by kernel_rfl) (by kernel_rfl) (fun _ _ _ h => h) (Or.inl ⟨by rfl, ?_⟩) hHeld ?_
  rotate_left
  · intro w' hSw
    have hc : ∀ o, w'.cell? ⟨E, o, none⟩ = (#[.int .u8 4, .slice x.e.pA path.length x.e.pc, .int .i64 at_, .int .i64 far, .string frm, .string tto, .slice x.e.oA old.len x.e.oc, .slice x.e.nA new.len x.e.nc] : Array Value)[o]? := fun o => Lib.cell_of_heap hSw.1 o
    first | (go_simp; done) | (go_simp; with_reducible rfl)
  try simp only [Act.put, List.getElem_toArray, List.getElem_cons_zero, List.getElem_cons_succ, List.setIfInBounds_toArray, List.set_cons_zero, List.set_cons_succ]
  refine wpAnyH_take (i := 4) (v := ?_) rfl (by kernel_rfl) (by kernel_rfl) (by kernel_rfl) (fun _ _ _ h => h) (Or.inl ⟨by rfl, ?_⟩) hHeld ?_
  rotate_left
  · intro w' hSw
    have hc := HL.out w' hSw.2.2
    simp only [execOp, Act.eval]; (simp [hc, Result.andThen]); with_reducible rfl
  try simp only [Act.put, List.getElem_toArray, List.getElem_cons_zero, List.getElem_cons_succ, List.setIfInBounds_toArray, List.set_cons_zero, List.set_cons_succ]
  refine wpAnyH_take (i := 5) (v := ?_) rfl (by kernel_rfl) (by kernel_rfl) (by kernel_rfl) (fun _ _ _ h => h) (Or.inl ⟨by rfl, ?_⟩) hHeld ?_
  rotate_left
  · intro w' hSw
    first | (go_simp; done) | (go_simp; with_reducible rfl)
  try simp only [Act.put, List.getElem_toArray, List.getElem_cons_zero, List.getElem_cons_succ, List.setIfInBounds_toArray, List.set_cons_zero, List.set_cons_succ]
  refine wpAnyH_take (i := 6) (v := ?_) rfl (by kernel_rfl) (by kernel_rfl) (by kernel_rfl) (fun _ _ _ h => h) (Or.inl ⟨by rfl, ?_⟩) hHeld ?_
  rotate_left
  · intro w' hSw
    have hc : w'.cell? ⟨w.heap.size, 1, none⟩ = some (.string file) := Lib.cell_of_heap hSw.2.1 1
    first | (go_simp; done) | (go_simp; with_reducible rfl)
  try simp only [Act.put, List.getElem_toArray, List.getElem_cons_zero, List.getElem_cons_succ, List.setIfInBounds_toArray, List.set_cons_zero, List.set_cons_succ]
  refine wpAnyH_take (i := 7) (v := ?_) rfl (by kernel_rfl) (by kernel_rfl) (by kernel_rfl) (fun _ _ _ h => h) (Or.inl ⟨by rfl, ?_⟩) hHeld ?_
  rotate_left
  · intro w' hSw
    first | (go_simp; done) | (go_simp; with_reducible rfl)
  try simp only [Act.put, List.getElem_toArray, List.getElem_cons_zero, List.getElem_cons_succ, List.setIfInBounds_toArray, List.set_cons_zero, List.set_cons_succ]
  refine wpAnyH_take (i := 8) (v := ?_) rfl (by kernel_rfl) (by kernel_rfl) (by kernel_rfl) (fun _ _ _ h => h) (Or.inl ⟨by rfl, ?_⟩) hHeld ?_
  rotate_left
  · intro w' hSw
    have hc : ∀ o, w'.cell? ⟨E, o, none⟩ = (#[.int .u8 4, .slice x.e.pA path.length x.e.pc, .int .i64 at_, .int .i64 far, .string frm, .string tto, .slice x.e.oA old.len x.e.oc, .slice x.e.nA new.len x.e.nc] : Array Value)[o]? := fun o => Lib.cell_of_heap hSw.1 o
    first | (go_simp; done) | (go_simp; with_reducible rfl)
  try simp only [Act.put, List.getElem_toArray, List.getElem_cons_zero, List.getElem_cons_succ, List.setIfInBounds_toArray, List.set_cons_zero, List.set_cons_succ]
  refine wpAnyH_ready (rs := [9]) (by kernel_rfl) (by simp) ?_
  refine AllReadyH.cons rfl (fun K hK => ?_) AllReadyH.nil
  go_simp
  go_wp2_with (go_at_call 62; (with_reducible refine (path_any (w := wD) (p := path) (Hp.out.belowB (HWd.out.mono hBw)).edit.path hpl ((HT.out.below (HWd.out.mono hBw)).up (Nat.le_trans hBw hsD)) hdot).mono ?_); rintro e2 w2 ⟨rfl, hB2⟩)
  refine hK.out _ _ (hHeld.below hB2) (fun hHeld2 => ?_)
  clear hK K
  try simp only [Act.put, List.getElem_toArray, List.getElem_cons_zero, List.getElem_cons_succ, List.setIfInBounds_toArray, List.set_cons_zero, List.set_cons_succ]
  refine wpAnyH_ready (rs := [10]) (by kernel_rfl) (by simp) ?_
  refine AllReadyH.cons rfl (fun K hK => ?_) AllReadyH.nil
  go_simp
  refine hK.out _ _ (hHeld2.below (below_alloc _ _)) (fun hHeld3 => ?_)
  clear hK K hHeld hHeld2
  try simp only [Act.put, List.getElem_toArray, List.getElem_cons_zero, List.getElem_cons_succ, List.setIfInBounds_toArray, List.set_cons_zero, List.set_cons_succ]
  have HW2 : Hid (Below w.heap.size w w2) := hide (HWd.out.trans (hB2.mono hsD))
  have hs2 := HW2.out.size
  have hE4 := Nat.lt_of_lt_of_le hE3 hB2.size
  clear hB2 hE3
  refine wpAnyH_ready (rs := [11]) (by kernel_rfl) (by simp) ?_
  refine AllReadyH.cons rfl (fun K hK => ?_) AllReadyH.nil
  go_simp
  go_wp2_with (go_at_call 60; (with_reducible refine (line_put_n (n := 3) (l := []) (ws := [⟨#[114, 101, 112, 108, 97, 99, 101]⟩, file, dotS path]) ((H.out.below HW2.out).below (below_alloc _ _)) (str_row3 _ _ _ _) rfl (by intro k o e; injection e with e; injection e with e1 _; omega) (by have := Hr3.out; simp only [List.length_nil]; omega) (by simp; omega) (by simp)).mono ?_); rintro e3 w3 ⟨rfl, h3, hb3, hk3⟩)
  refine hK.out _ _ (hHeld3.kept hk3 (by omega) (by omega) (by omega)) (fun hHeld4 => ?_)
  clear hK K hHeld3
  have H3 := hide h3
  have HB3 : Hid (Below B w w3) := hide (((HW2.out.mono hBw).alloc (by omega) _).trans hb3)
  have HK3 : Hid (Lib.OthersKept 5 (some b) w w3) := hide (((kept_below b HW2.out).alloc _).trans hk3)
  have hcE : ∀ o, w3.cell? ⟨E, o, none⟩ = (#[.int .u8 4, .slice x.e.pA path.length x.e.pc, .int .i64 at_, .int .i64 far, .string frm, .string tto, .slice x.e.oA old.len x.e.oc, .slice x.e.nA new.len x.e.nc] : Array Value)[o]? := fun o => Lib.cell_of_heap hHeld4.1 o
  have HX3 := hide hHeld4
  have hs3 := HB3.out.size
  have hE5 : E < w3.heap.size := (Array.getElem?_eq_some_iff.1 hHeld4.1).1
  clear h3 hb3 hk3 hHeld4 HW2 hs2 hE4 HWd hsD
  refine wpAnyH_done (by kernel_rfl) ?_ _
  try simp only [Act.put, List.getElem_toArray, List.getElem_cons_zero, List.getElem_cons_succ, List.setIfInBounds_toArray, List.set_cons_zero, List.set_cons_succ]
  have H4 : Hid (IsLine B b (Lib.byteCells (putsB (putsB [] [⟨#[114, 101, 112, 108, 97, 99, 101]⟩, file, dotS path]) (([] : List Int).map itoaS))) w3) := H3
  have HB4 := HB3
  have HK4 := HK3
  have HX4 := HX3
  go_wp2_with fail
  have hs4 := HB4.out.size
  have Hno := hide ((Hp.out.belowB HB4.out).edit.old)
  have Hnn := hide ((Hp.out.belowB HB4.out).edit.new)
  refine wp_region_held_drew (S := Boxes E w.heap.size (w.heap.size + 1) #[.int .u8 4, .slice x.e.pA path.length x.e.pc, .int .i64 at_, .int .i64 far, .string frm, .string tto, .slice x.e.oA old.len x.e.oc, .slice x.e.nA new.len x.e.nc] #[.int .u8 4, .string file, .string text, .int .i64 hunk.at_, .slice x.h.oA hunk.old.length x.h.oc, .slice x.h.nA hunk.new.length x.h.nc, .int .u8 4, .slice x.e.pA path.length x.e.pc, .int .i64 at_, .int .i64 far, .string frm, .string tto, .slice x.e.oA old.len x.e.oc, .slice x.e.nA new.len x.e.nc] es cc) (by kernel_rfl) HX4.out (fun hHeld => ?_)
  have HD4 : Hid (Below B w w3.drew) := hide (HB4.out.trans ((blw_drewN (Below.refl _ _) 1 : Below w3.heap.size w3 w3.drew).mono (Nat.le_trans hBw hs4)))
  have HDK : Hid (Lib.OthersKept 5 (some b) w w3.drew) := HK4
  have HDL : Hid (IsLine B b (Lib.byteCells (putsB (putsB [] [⟨#[114, 101, 112, 108, 97, 99, 101]⟩, file, dotS path]) ((([] : List Int) : List Int).map itoaS))) w3.drew) := hide (H4.out.below (blw_drewN (Below.refl _ _) 1 : Below w3.heap.size w3 w3.drew))
  have Hdo : Hid (FoIn (fun k => k < B) w3.drew x.e.oA old) := hide (Hno.out.below (blw_drewN (Below.refl _ _) 1 : Below w3.heap.size w3 w3.drew))
  have Hdn : Hid (FoIn (fun k => k < B) w3.drew x.e.nA new) := hide (Hnn.out.below (blw_drewN (Below.refl _ _) 1 : Below w3.heap.size w3 w3.drew))
  clear HB4 HK4 H4 HX4 Hno Hnn hs4 hcE
  generalize w3.drew = wD at HD4 HDK HDL Hdo Hdn hHeld ⊢
  have hsD := HD4.out.size
  have Hrun := hide (edit_append (nc := x.e.nc) Hdo.out Hdn.out (Nat.le_trans hBw hsD) hol 33)
  have hsl := fun w' => run_sliceAt_all (P := Tryz.prog) (T := 33) la_n hiN rfl x.e.oA old.len x.e.oc hoc w'
  refine wpAnyH_take (i := 0) (v := ?_) rfl (by kernel_rfl) (by kernel_rfl) (by kernel_rfl) (fun _ _ _ h => h) (Or.inl ⟨by rfl, ?_⟩) hHeld ?_
  rotate_left
  · intro w' hSw
    first | (go_simp; done) | (go_simp; with_reducible rfl)
  try simp only [Act.put, List.getElem_toArray, List.getElem_cons_zero, List.getElem_cons_succ, List.setIfInBounds_toArray, List.set_cons_zero, List.set_cons_succ]
  refine wpAnyH_take (i := 1) (v := ?_) rfl (by kernel_rfl) (by kernel_rfl) (by kernel_rfl) (fun _ _ _ h => h) (Or.inl ⟨by rfl, ?_⟩) hHeld ?_
  rotate_left
  · intro w' hSw
    have hc : ∀ o, w'.cell? ⟨E, o, none⟩ = (#[.int .u8 4, .slice x.e.pA path.length x.e.pc, .int .i64 at_, .int .i64 far, .string frm, .string tto, .slice x.e.oA old.len x.e.oc, .slice x.e.nA new.len x.e.nc] : Array Value)[o]? := fun o => Lib.cell_of_heap hSw.1 o
    first | (go_simp; done) | (go_simp; with_reducible rfl)
  try simp only [Act.put, List.getElem_toArray, List.getElem_cons_zero, List.getElem_cons_succ, List.setIfInBounds_toArray, List.set_cons_zero, List.set_cons_succ]
  refine wpAnyH_take (i := 2) (v := ?_) rfl (by kernel_rfl) (by kernel_rfl) (by kernel_rfl) (fun _ _ _ h => h) (Or.inl ⟨by rfl, ?_⟩) hHeld ?_
  rotate_left
  · intro w' hSw
    first | (go_simp; done) | (go_simp; with_reducible rfl)
  try simp only [Act.put, List.getElem_toArray, List.getElem_cons_zero, List.getElem_cons_succ, List.setIfInBounds_toArray, List.set_cons_zero, List.set_cons_succ]
  refine wpAnyH_take (i := 3) (v := ?_) rfl (by kernel_rfl) (by kernel_rfl) (by kernel_rfl) (fun _ _ _ h => h) (Or.inl ⟨by rfl, ?_⟩) hHeld ?_
  rotate_left
  · intro w' hSw
    have hc : ∀ o, w'.cell? ⟨E, o, none⟩ = (#[.int .u8 4, .slice x.e.pA path.length x.e.pc, .int .i64 at_, .int .i64 far, .string frm, .string tto, .slice x.e.oA old.len x.e.oc, .slice x.e.nA new.len x.e.nc] : Array Value)[o]? := fun o => Lib.cell_of_heap hSw.1 o
    first | (go_simp; done) | (go_simp; with_reducible rfl)
  try simp only [Act.put, List.getElem_toArray, List.getElem_cons_zero, List.getElem_cons_succ, List.setIfInBounds_toArray, List.set_cons_zero, List.set_cons_succ]
  refine wpAnyH_take (i := 4) (v := ?_) rfl (by kernel_rfl) (by kernel_rfl) (by kernel_rfl) (fun _ _ _ h => h) (Or.inl ⟨by rfl, ?_⟩) hHeld ?_
  rotate_left
  · intro w' hSw
    first | (go_simp; done) | (go_simp; with_reducible rfl)
  try simp only [Act.put, List.getElem_toArray, List.getElem_cons_zero, List.getElem_cons_succ, List.setIfInBounds_toArray, List.set_cons_zero, List.set_cons_succ]
  refine wpAnyH_take (i := 5) (v := ?_) rfl (by kernel_rfl) (by kernel_rfl) (by kernel_rfl) (fun _ _ _ h => h) (Or.inl ⟨by rfl, ?_⟩) hHeld ?_
  rotate_left
  · intro w' hSw
    first | (go_simp; done) | (go_simp; with_reducible rfl)
  try simp only [Act.put, List.getElem_toArray, List.getElem_cons_zero, List.getElem_cons_succ, List.setIfInBounds_toArray, List.set_cons_zero, List.set_cons_succ]
  refine wpAnyH_take (i := 6) (v := ?_) rfl (by kernel_rfl) (by kernel_rfl) (by kernel_rfl) (fun _ _ _ h => h) (Or.inl ⟨by rfl, ?_⟩) hHeld ?_
  rotate_left
  · intro w' hSw
    have hc : ∀ o, w'.cell? ⟨E, o, none⟩ = (#[.int .u8 4, .slice x.e.pA path.length x.e.pc, .int .i64 at_, .int .i64 far, .string frm, .string tto, .slice x.e.oA old.len x.e.oc, .slice x.e.nA new.len x.e.nc] : Array Value)[o]? := fun o => Lib.cell_of_heap hSw.1 o
    first | (go_simp; done) | (go_simp; with_reducible rfl)
  try simp only [Act.put, List.getElem_toArray, List.getElem_cons_zero, List.getElem_cons_succ, List.setIfInBounds_toArray, List.set_cons_zero, List.set_cons_succ]
  refine wpAnyH_take (i := 7) (v := ?_) rfl (by kernel_rfl) (by kernel_rfl) (by kernel_rfl) (fun _ _ _ h => h) (Or.inl ⟨by rfl, ?_⟩) hHeld ?_
  rotate_left
  · intro w' hSw
    first | (go_simp; done) | (go_simp; with_reducible rfl)
  try simp only [Act.put, List.getElem_toArray, List.getElem_cons_zero, List.getElem_cons_succ, List.setIfInBounds_toArray, List.set_cons_zero, List.set_cons_succ]
  refine wpAnyH_take (i := 8) (v := .slice x.e.oA old.len old.len) rfl (by kernel_rfl) (by kernel_rfl) (by kernel_rfl) (fun _ _ _ h => h) (Or.inl ⟨by rfl, ?_⟩) hHeld ?_
  · intro w' hSw
    exact exec_slice (v1 := .slice x.e.oA old.len x.e.oc) (v2 := .int .i64 old.len) (v3 := .int .i64 old.len) _ _ _ _ rfl (by rfl) (by rfl) (by rfl) w' (hsl w')
  try simp only [Act.put, List.getElem_toArray, List.getElem_cons_zero, List.getElem_cons_succ, List.setIfInBounds_toArray, List.set_cons_zero, List.set_cons_succ]
  refine wpAnyH_take (i := 9) (v := ?_) rfl (by kernel_rfl) (by kernel_rfl) (by kernel_rfl) (fun _ _ _ h => h) (Or.inl ⟨by rfl, ?_⟩) hHeld ?_
  rotate_left
  · intro w' hSw
    first | (go_simp; done) | (go_simp; with_reducible rfl)
  try simp only [Act.put, List.getElem_toArray, List.getElem_cons_zero, List.getElem_cons_succ, List.setIfInBounds_toArray, List.set_cons_zero, List.set_cons_succ]
  refine wpAnyH_take (i := 10) (v := ?_) rfl (by kernel_rfl) (by kernel_rfl) (by kernel_rfl) (fun _ _ _ h => h) (Or.inl ⟨by rfl, ?_⟩) hHeld ?_
  rotate_left
  · intro w' hSw
    have hc : ∀ o, w'.cell? ⟨E, o, none⟩ = (#[.int .u8 4, .slice x.e.pA path.length x.e.pc, .int .i64 at_, .int .i64 far, .string frm, .string tto, .slice x.e.oA old.len x.e.oc, .slice x.e.nA new.len x.e.nc] : Array Value)[o]? := fun o => Lib.cell_of_heap hSw.1 o
    first | (go_simp; done) | (go_simp; with_reducible rfl)
  try simp only [Act.put, List.getElem_toArray, List.getElem_cons_zero, List.getElem_cons_succ, List.setIfInBounds_toArray, List.set_cons_zero, List.set_cons_succ]
  refine wpAnyH_take (i := 13) (v := ?_) rfl (by kernel_rfl) (by kernel_rfl) (by kernel_rfl) (fun _ _ _ h => h) (Or.inl ⟨by rfl, ?_⟩) hHeld ?_
  rotate_left
  · intro w' hSw
    first | (go_simp; done) | (go_simp; with_reducible rfl)
  try simp only [Act.put, List.getElem_toArray, List.getElem_cons_zero, List.getElem_cons_succ, List.setIfInBounds_toArray, List.set_cons_zero, List.set_cons_succ]
  obtain ⟨A5, c5, w5, hrun, hF, hB5⟩ := Hrun.out
  refine wpAnyH_ready (rs := [11]) (by kernel_rfl) (by simp) ?_
  refine AllReadyH.cons rfl (fun K hK => ?_) AllReadyH.nil
  refine step_append_run (v1 := .slice x.e.oA old.len old.len) (v2 := .slice x.e.nA new.len x.e.nc) rfl _ _ _ rfl (by rfl) (by rfl) hrun ?_
  refine hK.out _ _ (hHeld.below hB5) (fun hHeld5 => ?_)
  clear hK K
  try simp only [Act.put, List.getElem_toArray, List.getElem_cons_zero, List.getElem_cons_succ, List.setIfInBounds_toArray, List.set_cons_zero, List.set_cons_succ]
  refine wpAnyH_take (i := 12) (v := ?_) rfl (by kernel_rfl) (by kernel_rfl) (by kernel_rfl) (fun _ _ _ h => h) (Or.inl ⟨by rfl, ?_⟩) hHeld5 ?_
  rotate_left
  · intro w' hSw
    first | (go_simp; done) | (go_simp; with_reducible rfl)
  try simp only [Act.put, List.getElem_toArray, List.getElem_cons_zero, List.getElem_cons_succ, List.setIfInBounds_toArray, List.set_cons_zero, List.set_cons_succ]
  have HF := hide hF
  have H5 := hide (HDL.out.below hB5)
  have HB5 := hide (HD4.out.trans (hB5.mono (Nat.le_trans hBw hsD)))
  have HK5 := hide (HDK.out.trans (kept_below b hB5))
  clear hrun hF hHeld hHeld5 hB5 Hrun hsl HDL HD4 HDK Hdo Hdn
  refine wpAnyH_done (by kernel_rfl) ?_ _
  try simp only [Act.put, List.getElem_toArray, List.getElem_cons_zero, List.getElem_cons_succ, List.setIfInBounds_toArray, List.set_cons_zero, List.set_cons_succ]
  have hFl : (old.app new).len ≤ 9223372036854775807 := by have := Fo.len_app old new; omega
  have HNF : Hid (∀ n ∈ sizesN (old.app new), isInt64 n) := hide (by rw [sizesN_app]; exact Hns2.out)
  have HRF : Hid ((putsB (putsB [] [⟨#[114, 101, 112, 108, 97, 99, 101]⟩, file, dotS path]) ((([] : List Int) : List Int).map itoaS)).length + roomB ((sizesN (old.app new)).map itoaS) ≤ 140737488355328) := hide (by
    rw [sizesN_app]
    have h1 := Hr3.out
    rw [List.map_append, roomB_app] at h1
    have h2 := Hl3.out
    have h3 := putsB_len ((([] : List Int) : List Int).map itoaS) (putsB [] [⟨#[114, 101, 112, 108, 97, 99, 101]⟩, file, dotS path])
    simp only [List.length_nil] at h2
    omega)
  have HFin : Hid (putsB (putsB (putsB [] [⟨#[114, 101, 112, 108, 97, 99, 101]⟩, file, dotS path]) ((([] : List Int) : List Int).map itoaS)) ((sizesN (old.app new)).map itoaS) = putsB [] (treeS file ⟨4, path, at_, far, frm, tto, old, new⟩)) := hide (by
    rw [sizesN_app, puts_app, puts_app, ← List.map_append]
    rfl)
  generalize old.app new = F at HF hFl HNF HRF HFin ⊢
  generalize putsB (putsB [] [⟨#[114, 101, 112, 108, 97, 99, 101]⟩, file, dotS path]) ((([] : List Int) : List Int).map itoaS) = M0 at H5 HRF HFin
  clear Hr3 Hl3 Hns2 Hns1 Hns Hroom hdot hol hoc hpl Hp
  have hs5 := HB5.out.size
  go_wp2_with fail
  go_loopw [65] (fun i wr => ∃ q : Nat, q ≤ F.len ∧ i = .int .i64 q ∧ Hid (IsLine B b (Lib.byteCells (putsB M0 (((sizesN F).take q).map itoaS))) wr) ∧ Hid (FoIn (Safe B wr) wr A5 F) ∧ Hid (Below B w wr) ∧ Hid (Lib.OthersKept 5 (some b) w wr)) (fun i _ => F.len - (intOf i).toNat)
  case atStart => exact ⟨0, Nat.zero_le _, rfl, H5, HF, HB5, HK5⟩
  case round =>
    obtain ⟨q, hq, rfl, HL', HF', HB', HK'⟩ := hrel
    by_cases hlt : q < F.len
    · obtain ⟨b', o', KA, c', k, t, n, ks, r, rfl, hd, c0, c1, c2, c3, g1, g2, g3, g4, g5, hks, _⟩ := HF'.out.at_ hlt
      have hsr := HB'.out.size
      have hlq : q < ((sizesN F).map itoaS).length := by rw [List.length_map, sizesN_len]; exact hlt
      have hrt := room_take hlq
      have hl1 := putsB_len (((sizesN F).map itoaS).take q) M0
      have hnx := puts_next (l := M0) hlq
      have hcs : ((sizesN F).map itoaS)[q] = itoaS ((1 + cntNodes ks : Nat) : Int) := by
        have h1 := sizesN_at hd
        have hq2 : q < (sizesN F).length := by rw [sizesN_len]; exact hlt
        rw [List.take_succ_eq_append_getElem hq2] at h1
        have h2 := List.append_cancel_left h1
        rw [List.getElem_map]
        injection h2 with h2 _
        rw [h2]
      have hin : isInt64 ((1 + cntNodes ks : Nat) : Int) := HNF.out _ (by
        have h1 := sizesN_at hd
        have : ((1 + cntNodes ks : Nat) : Int) ∈ (sizesN F).take (q + 1) := by rw [h1]; simp
        exact List.mem_of_mem_take this)
      rw [hcs] at hrt hnx
      rw [← List.map_take] at hrt hl1 hnx
      rw [← List.map_take] at hnx
      have Hnx := hide hnx
      have HRq : Hid ((putsB M0 (((sizesN F).take q).map itoaS)).length + ((itoaS ((1 + cntNodes ks : Nat) : Int)).size + 1) ≤ 140737488355328) := hide (by have := HRF.out; omega)
      have hne := hide (line_block HL'.out)
      have hcnt : 1 + cntNodes ks ≤ 9223372036854775807 := by unfold isInt64 at hin; omega
      have Hin : Hid (∀ n ∈ [((1 + cntNodes ks : Nat) : Int)], isInt64 n) := hide (by intro n hn; simp only [List.mem_singleton] at hn; subst hn; exact hin)
      have Hks := hide hks
      have hg3 := hide g3
      have HSize : Hid (∀ W, Below wr.heap.size wr W → Calls Tryz.prog 63 #[.agg #[.int .u8 k, .string t, .int .i64 n, .slice KA ks.len c']] W fun e w' => e = .returned (.int .i64 ((1 + cntNodes ks : Nat) : Int)) ∧ Below W.heap.size W w') := hide (fun W hW => size_any (Hks.out.below hW) g1 g2 hg3.out g4 g5 hcnt)
      clear hrt hl1 hnx hcs hd hks hin g3 Hks hg3 hcnt
      generalize ((1 + cntNodes ks : Nat) : Int) = sz at HSize HRq Hnx Hin
      generalize putsB M0 (((sizesN F).take q).map itoaS) = M at HL' HRq Hnx
      go_wp2_with (first
        | (go_at_call 63; (with_reducible refine (HSize.out _ (below_alloc _ _)).mono ?_); rintro e6 w6 ⟨rfl, hB6⟩; have HB6 : Hid (Below wr.heap.size wr w6) := hide ((below_alloc wr _).trans (hB6.mono (by simp))); have hs6 := HB6.out.size; have HL6 := hide (HL'.out.below HB6.out); clear hB6)
        | (go_at_call 61; (with_reducible refine (line_numbers_n (n := 1) (l := M) (ns := [sz]) (HL6.out.below (below_alloc _ _)) (num_row1 _ _ Hin.out) rfl (by intro k o e; injection e with e; injection e with e1 _; omega) (HT.out.below ((HB'.out.trans (HB6.out.mono (Nat.le_trans hBw hsr))).alloc (by omega) _)) (by have := HRq.out; rw [List.map_cons, List.map_nil, roomB_cons, roomB_nil]; omega) (by simp; omega) (by simp; omega) (by simp)).mono ?_); rintro e7 w7 ⟨rfl, h7, hb7, hk7⟩; have H7 := hide h7; have hBr : Below B wr w7 := (((HB6.out.mono (Nat.le_trans hBw hsr)).alloc (by omega) _).trans hb7); have hKr : Lib.OthersKept 5 (some b) wr w7 := (((kept_below b HB6.out).alloc _).trans hk7); have HB7 := hide (HB'.out.trans hBr); have HK7 := hide (HK'.out.trans hKr); have HF7 := hide (HF'.out.safe hBr hKr hne.out.1); clear h7 hb7 hk7 hBr hKr))
      go_roundw
      case rel => exact ⟨q + 1, by omega, by go_num, hide (by rw [Hnx.out]; exact H7.out), HF7, HB7, HK7⟩
      case measure => simp [intOf]; omega
    · have hqe : q = F.len := by omega
      go_wp2_with fail
      go_end0
      subst hqe
      refine ⟨rfl, ?_, HB'.out, HK'.out⟩
      have := HL'.out
      rw [← sizesN_len F, List.take_length, HFin.out] at this
      exact this

end Go.Proofs.YtadilmijppdpoaaGreatDoor
