/- The line of an edit's patch, kind 1. Printed by gen_logtree.py. -/
import Derived.Deep.RegionHeld
import Derived.Test.YtadilmijppdpoaaGreatDoorTLogB

set_option linter.unusedVariables false
set_option linter.unusedSimpArgs false

namespace Go.Proofs.YtadilmijppdpoaaGreatDoor
open Go.RowKit

set_option maxHeartbeats 4000000 in
set_option maxRecDepth 1000000 in
theorem line_tree1 {B b : Nat} {x : Ph} {file text frm tto : ByteArray} {hunk : Hk} {path : List Int} {at_ far : Int} {old new : Fo} {w : World} (h : IsLine B b (Lib.byteCells []) w) (hp : PtIn (fun k => k < B) w x ⟨4, file, text, hunk, ⟨1, path, at_, far, frm, tto, old, new⟩⟩) (htab : TabP B w) (hBw : B ≤ w.heap.size) (hbl : b < w.heap.size)
    (hns : ∀ n ∈ numsN ⟨1, path, at_, far, frm, tto, old, new⟩ ++ (sizesN old ++ sizesN new), isInt64 n) (hlen : roomB (treeS file ⟨1, path, at_, far, frm, tto, old, new⟩) ≤ 140737488355328) (hpl : path.length ≤ 549755813888) (hol : (old.len + new.len) * 56 ≤ 140737488355328) :
    Calls Tryz.prog 36 #[.pointer (some ⟨b, 0, none⟩), .agg #[.int .u8 4, .string file, .string text, .int .i64 hunk.at_, .slice x.h.oA hunk.old.length x.h.oc, .slice x.h.nA hunk.new.length x.h.nc, .int .u8 1, .slice x.e.pA path.length x.e.pc, .int .i64 at_, .int .i64 far, .string frm, .string tto, .slice x.e.oA old.len x.e.oc, .slice x.e.nA new.len x.e.nc]] w fun e w' => e = .returned (.tuple #[]) ∧ IsLine B b (Lib.byteCells (putsB [] (treeS file ⟨1, path, at_, far, frm, tto, old, new⟩))) w' ∧ Below B w w' ∧ Lib.OthersKept 5 (some b) w w' := by
  have hmm := @run_makeMap Tryz.prog
  have H := hide h
  have Hp := hide hp
  have HT := hide htab
  have Hns := hide hns
  have Hroom := hide hlen
  have hdot : (dotW path).length ≤ 140737488355328 := Nat.le_trans (tree_dot (e := ⟨1, path, at_, far, frm, tto, old, new⟩)) hlen
  have T : Hid (Tab EqV .u8 ((w.alloc (.cells #[.int .u8 4, .string file, .string text, .int .i64 hunk.at_, .slice x.h.oA hunk.old.length x.h.oc, .slice x.h.nA hunk.new.length x.h.nc, .int .u8 1, .slice x.e.pA path.length x.e.pc, .int .i64 at_, .int .i64 far, .string frm, .string tto, .slice x.e.oA old.len x.e.oc, .slice x.e.nA new.len x.e.nc] 37)).alloc (.map #[] 0)) (w.heap.size + 1) []) := hide (by
    have := Tab.new (V := EqV) (kd := .u8) (w.alloc (.cells #[.int .u8 4, .string file, .string text, .int .i64 hunk.at_, .slice x.h.oA hunk.old.length x.h.oc, .slice x.h.nA hunk.new.length x.h.nc, .int .u8 1, .slice x.e.pA path.length x.e.pc, .int .i64 at_, .int .i64 far, .string frm, .string tto, .slice x.e.oA old.len x.e.oc, .slice x.e.nA new.len x.e.nc] 37))
    rw [show (w.alloc (.cells #[.int .u8 4, .string file, .string text, .int .i64 hunk.at_, .slice x.h.oA hunk.old.length x.h.oc, .slice x.h.nA hunk.new.length x.h.nc, .int .u8 1, .slice x.e.pA path.length x.e.pc, .int .i64 at_, .int .i64 far, .string frm, .string tto, .slice x.e.oA old.len x.e.oc, .slice x.e.nA new.len x.e.nc] 37)).heap.size = w.heap.size + 1 from by simp] at this
    exact this)
  have HB : Hid (Below (w.heap.size + 1) (w.alloc (.cells #[.int .u8 4, .string file, .string text, .int .i64 hunk.at_, .slice x.h.oA hunk.old.length x.h.oc, .slice x.h.nA hunk.new.length x.h.nc, .int .u8 1, .slice x.e.pA path.length x.e.pc, .int .i64 at_, .int .i64 far, .string frm, .string tto, .slice x.e.oA old.len x.e.oc, .slice x.e.nA new.len x.e.nc] 37)) ((w.alloc (.cells #[.int .u8 4, .string file, .string text, .int .i64 hunk.at_, .slice x.h.oA hunk.old.length x.h.oc, .slice x.h.nA hunk.new.length x.h.nc, .int .u8 1, .slice x.e.pA path.length x.e.pc, .int .i64 at_, .int .i64 far, .string frm, .string tto, .slice x.e.oA old.len x.e.oc, .slice x.e.nA new.len x.e.nc] 37)).alloc (.map #[] 0))) := hide ((Below.refl _ _).alloc (by simp) _)
  have Hr : Hid (w.heap.size + 1 ≤ (w.alloc (.cells #[.int .u8 4, .string file, .string text, .int .i64 hunk.at_, .slice x.h.oA hunk.old.length x.h.oc, .slice x.h.nA hunk.new.length x.h.nc, .int .u8 1, .slice x.e.pA path.length x.e.pc, .int .i64 at_, .int .i64 far, .string frm, .string tto, .slice x.e.oA old.len x.e.oc, .slice x.e.nA new.len x.e.nc] 37)).heap.size) := hide (by simp)
  have Hr3 : Hid (roomB [⟨#[114, 101, 110, 97, 109, 101]⟩, file, dotS path] + roomB ([frm, tto]) ≤ 140737488355328) := hide (Nat.le_trans (Nat.le_of_eq (tree_head (file := file) (e := ⟨1, path, at_, far, frm, tto, old, new⟩) (r := [frm, tto]) rfl)) hlen)
  have Hl3 := hide (putsB_len [⟨#[114, 101, 110, 97, 109, 101]⟩, file, dotS path] [])
  clear h hp htab hns hlen
  go_enter Tryz.func36, Tryz.ntmps36
  go_wp2_with fail
  generalize (w.alloc (.cells #[.int .u8 4, .string file, .string text, .int .i64 hunk.at_, .slice x.h.oA hunk.old.length x.h.oc, .slice x.h.nA hunk.new.length x.h.nc, .int .u8 1, .slice x.e.pA path.length x.e.pc, .int .i64 at_, .int .i64 far, .string frm, .string tto, .slice x.e.oA old.len x.e.oc, .slice x.e.nA new.len x.e.nc] 37)).alloc (.map #[] 0) = wb at T HB ⊢
  go_wp2_with (first
    | ((with_reducible refine upon_insert_val ?_ Tryz.underlying99 Tryz.underlying31 T.out HB.out Hr.out ?_ ?_); exact rfl; exact rfl; clear T HB; (try clear hbox); intro w1 T HB; have hbox : ∀ o, w1.cell? ⟨w.heap.size, o, none⟩ = (#[.int .u8 4, .string file, .string text, .int .i64 hunk.at_, .slice x.h.oA hunk.old.length x.h.oc, .slice x.h.nA hunk.new.length x.h.nc, .int .u8 1, .slice x.e.pA path.length x.e.pc, .int .i64 at_, .int .i64 far, .string frm, .string tto, .slice x.e.oA old.len x.e.oc, .slice x.e.nA new.len x.e.nc] : Array Value)[o]? := (fun o => (HB.out.cell (p := ⟨w.heap.size, o, none⟩) (by simp)).trans (Lib.cell_of_heap (heap_alloc_new w _) o))))
  clear hbox hmm
  obtain ⟨es, cc, e1, e2⟩ := T.out
  have HL := hide (look_block (P := Tryz.prog) (r := w.heap.size + 1) (k := 1) (k' := 1) (v := .string ⟨#[114, 101, 110, 97, 109, 101]⟩) (cc := cc) e2 Tryz.underlying99 Tryz.underlying31 rfl)
  have hs1 : w.heap.size + 2 ≤ w1.heap.size := by have := (Array.getElem?_eq_some_iff.1 e1).1; omega
  have hP1 : w1.heap[w.heap.size]? = some (.cells #[.int .u8 4, .string file, .string text, .int .i64 hunk.at_, .slice x.h.oA hunk.old.length x.h.oc, .slice x.h.nA hunk.new.length x.h.nc, .int .u8 1, .slice x.e.pA path.length x.e.pc, .int .i64 at_, .int .i64 far, .string frm, .string tto, .slice x.e.oA old.len x.e.oc, .slice x.e.nA new.len x.e.nc] 37) := (HB.out.block _ (by simp)).trans (heap_alloc_new w _)
  have HBx : Hid (Boxes w1.heap.size w.heap.size (w.heap.size + 1) #[.int .u8 1, .slice x.e.pA path.length x.e.pc, .int .i64 at_, .int .i64 far, .string frm, .string tto, .slice x.e.oA old.len x.e.oc, .slice x.e.nA new.len x.e.nc] #[.int .u8 4, .string file, .string text, .int .i64 hunk.at_, .slice x.h.oA hunk.old.length x.h.oc, .slice x.h.nA hunk.new.length x.h.nc, .int .u8 1, .slice x.e.pA path.length x.e.pc, .int .i64 at_, .int .i64 far, .string frm, .string tto, .slice x.e.oA old.len x.e.oc, .slice x.e.nA new.len x.e.nc] es cc (w1.alloc (.cells #[.int .u8 1, .slice x.e.pA path.length x.e.pc, .int .i64 at_, .int .i64 far, .string frm, .string tto, .slice x.e.oA old.len x.e.oc, .slice x.e.nA new.len x.e.nc] 35))) :=
    hide ⟨heap_alloc_new w1 _, ((below_alloc w1 _).block _ (by omega)).trans hP1, ((below_alloc w1 _).block _ (by omega)).trans e1⟩
  have HW : Hid (Below w.heap.size w (w1.alloc (.cells #[.int .u8 1, .slice x.e.pA path.length x.e.pc, .int .i64 at_, .int .i64 far, .string frm, .string tto, .slice x.e.oA old.len x.e.oc, .slice x.e.nA new.len x.e.nc] 35))) := hide (((below_alloc w _).trans (HB.out.mono (by omega))).alloc (by omega) _)
  have hE2 : w1.heap.size < (w1.alloc (.cells #[.int .u8 1, .slice x.e.pA path.length x.e.pc, .int .i64 at_, .int .i64 far, .string frm, .string tto, .slice x.e.oA old.len x.e.oc, .slice x.e.nA new.len x.e.nc] 35)).heap.size := by simp
  clear T HB e1 e2 hP1
  generalize w1.alloc (.cells #[.int .u8 1, .slice x.e.pA path.length x.e.pc, .int .i64 at_, .int .i64 far, .string frm, .string tto, .slice x.e.oA old.len x.e.oc, .slice x.e.nA new.len x.e.nc] 35) = wE at HBx HW hE2 ⊢
  generalize w1.heap.size = E at hs1 HBx hE2 ⊢
  have hsW := HW.out.size
  have hdr : Below wE.heap.size wE wE.drew := blw_drewN (Below.refl _ _) 1
  refine wp_region_held_drew (S := Boxes E w.heap.size (w.heap.size + 1) #[.int .u8 1, .slice x.e.pA path.length x.e.pc, .int .i64 at_, .int .i64 far, .string frm, .string tto, .slice x.e.oA old.len x.e.oc, .slice x.e.nA new.len x.e.nc] #[.int .u8 4, .string file, .string text, .int .i64 hunk.at_, .slice x.h.oA hunk.old.length x.h.oc, .slice x.h.nA hunk.new.length x.h.nc, .int .u8 1, .slice x.e.pA path.length x.e.pc, .int .i64 at_, .int .i64 far, .string frm, .string tto, .slice x.e.oA old.len x.e.oc, .slice x.e.nA new.len x.e.nc] es cc) (by kernel_rfl) HBx.out (fun hHeld => ?_)
  have HWd : Hid (Below w.heap.size w wE.drew) := hide (HW.out.trans ((blw_drewN (Below.refl _ _) 1 : Below wE.heap.size wE wE.drew).mono hsW))
  have hE3 : E < wE.drew.heap.size := hE2
  clear HW HBx hE2 hdr hsW
  generalize wE.drew = wD at HWd hE3 hHeld ⊢
  have hsD := HWd.out.size
  refine wpAnyH_take (i := 0) (v := ?_) rfl (by kernel_rfl) (by kernel_rfl) (by kernel_rfl) (fun _ _ _ h => h) (Or.inl ⟨by rfl, ?_⟩) hHeld ?_
  rotate_left
  · intro w' hSw
    first | (go_simp; done) | (go_simp; with_reducible rfl)
  try simp only [Act.put, List.getElem_toArray, List.getElem_cons_zero, List.getElem_cons_succ, List.setIfInBounds_toArray, List.set_cons_zero, List.set_cons_succ]
  refine wpAnyH_take (i := 1) (v := ?_) rfl (by kernel_rfl) (by kernel_rfl) (by kernel_rfl) (fun _ _ _ h => h) (Or.inl ⟨by rfl, ?_⟩) hHeld ?_
  rotate_left
  · intro w' hSw
    first | (go_simp; done) | (go_simp; with_reducible rfl)
  try simp only [Act.put, List.getElem_toArray, List.getElem_cons_zero, List.getElem_cons_succ, List.setIfInBounds_toArray, List.set_cons_zero, List.set_cons_succ]
  refine wpAnyH_take (i := 2) (v := ?_) rfl (by kernel_rfl) (by kernel_rfl) (by kernel_rfl) (fun _ _ _ h => h) (Or.inl ⟨by rfl, ?_⟩) hHeld ?_
  rotate_left
  · intro w' hSw
    first | (go_simp; done) | (go_simp; with_reducible rfl)
  try simp only [Act.put, List.getElem_toArray, List.getElem_cons_zero, List.getElem_cons_succ, List.setIfInBounds_toArray, List.set_cons_zero, List.set_cons_succ]
  refine wpAnyH_take (i := 3) (v := ?_) rfl (by kernel_rfl) (by kernel_rfl) (by kernel_rfl) (fun _ _ _ h => h) (Or.inl ⟨by rfl, ?_⟩) hHeld ?_
  rotate_left
  · intro w' hSw
    have hc : ∀ o, w'.cell? ⟨E, o, none⟩ = (#[.int .u8 1, .slice x.e.pA path.length x.e.pc, .int .i64 at_, .int .i64 far, .string frm, .string tto, .slice x.e.oA old.len x.e.oc, .slice x.e.nA new.len x.e.nc] : Array Value)[o]? := fun o => Lib.cell_of_heap hSw.1 o
    first | (go_simp; done) | (go_simp; with_reducible rfl)
  try simp only [Act.put, List.getElem_toArray, List.getElem_cons_zero, List.getElem_cons_succ, List.setIfInBounds_toArray, List.set_cons_zero, List.set_cons_succ]
  refine wpAnyH_take (i := 4) (v := ?_) rfl (by kernel_rfl) (by kernel_rfl) (by kernel_rfl) (fun _ _ _ h => h) (Or.inl ⟨by rfl, ?_⟩) hHeld ?_
  rotate_left
  · intro w' hSw
    have hc := HL.out w' hSw.2.2
    simp only [execOp, Act.eval]; (simp [hc, Result.andThen]); with_reducible rfl
  try simp only [Act.put, List.getElem_toArray, List.getElem_cons_zero, List.getElem_cons_succ, List.setIfInBounds_toArray, List.set_cons_zero, List.set_cons_succ]
  refine wpAnyH_take (i := 5) (v := ?_) rfl (by kernel_rfl) (by kernel_rfl) (by kernel_rfl) (fun _ _ _ h => h) (Or.inl ⟨by rfl, ?_⟩) hHeld ?_
  rotate_left
  · intro w' hSw
    first | (go_simp; done) | (go_simp; with_reducible rfl)
  try simp only [Act.put, List.getElem_toArray, List.getElem_cons_zero, List.getElem_cons_succ, List.setIfInBounds_toArray, List.set_cons_zero, List.set_cons_succ]
  refine wpAnyH_take (i := 6) (v := ?_) rfl (by kernel_rfl) (by kernel_rfl) (by kernel_rfl) (fun _ _ _ h => h) (Or.inl ⟨by rfl, ?_⟩) hHeld ?_
  rotate_left
  · intro w' hSw
    have hc : w'.cell? ⟨w.heap.size, 1, none⟩ = some (.string file) := Lib.cell_of_heap hSw.2.1 1
    first | (go_simp; done) | (go_simp; with_reducible rfl)
  try simp only [Act.put, List.getElem_toArray, List.getElem_cons_zero, List.getElem_cons_succ, List.setIfInBounds_toArray, List.set_cons_zero, List.set_cons_succ]
  refine wpAnyH_take (i := 7) (v := ?_) rfl (by kernel_rfl) (by kernel_rfl) (by kernel_rfl) (fun _ _ _ h => h) (Or.inl ⟨by rfl, ?_⟩) hHeld ?_
  rotate_left
  · intro w' hSw
    first | (go_simp; done) | (go_simp; with_reducible rfl)
  try simp only [Act.put, List.getElem_toArray, List.getElem_cons_zero, List.getElem_cons_succ, List.setIfInBounds_toArray, List.set_cons_zero, List.set_cons_succ]
  refine wpAnyH_take (i := 8) (v := ?_) rfl (by kernel_rfl) (by kernel_rfl) (by kernel_rfl) (fun _ _ _ h => h) (Or.inl ⟨by rfl, ?_⟩) hHeld ?_
  rotate_left
  · intro w' hSw
    have hc : ∀ o, w'.cell? ⟨E, o, none⟩ = (#[.int .u8 1, .slice x.e.pA path.length x.e.pc, .int .i64 at_, .int .i64 far, .string frm, .string tto, .slice x.e.oA old.len x.e.oc, .slice x.e.nA new.len x.e.nc] : Array Value)[o]? := fun o => Lib.cell_of_heap hSw.1 o
    first | (go_simp; done) | (go_simp; with_reducible rfl)
  try simp only [Act.put, List.getElem_toArray, List.getElem_cons_zero, List.getElem_cons_succ, List.setIfInBounds_toArray, List.set_cons_zero, List.set_cons_succ]
  refine wpAnyH_ready (rs := [9]) (by kernel_rfl) (by simp) ?_
  refine AllReadyH.cons rfl (fun K hK => ?_) AllReadyH.nil
  go_simp
  go_wp2_with (go_at_call 62; (with_reducible refine (path_any (w := wD) (p := path) (Hp.out.belowB (HWd.out.mono hBw)).edit.path hpl ((HT.out.below (HWd.out.mono hBw)).up (Nat.le_trans hBw hsD)) hdot).mono ?_); rintro e2 w2 ⟨rfl, hB2⟩)
  refine hK.out _ _ (hHeld.below hB2) (fun hHeld2 => ?_)
  clear hK K
  try simp only [Act.put, List.getElem_toArray, List.getElem_cons_zero, List.getElem_cons_succ, List.setIfInBounds_toArray, List.set_cons_zero, List.set_cons_succ]
  refine wpAnyH_ready (rs := [10]) (by kernel_rfl) (by simp) ?_
  refine AllReadyH.cons rfl (fun K hK => ?_) AllReadyH.nil
  go_simp
  refine hK.out _ _ (hHeld2.below (below_alloc _ _)) (fun hHeld3 => ?_)
  clear hK K hHeld hHeld2
  try simp only [Act.put, List.getElem_toArray, List.getElem_cons_zero, List.getElem_cons_succ, List.setIfInBounds_toArray, List.set_cons_zero, List.set_cons_succ]
  have HW2 : Hid (Below w.heap.size w w2) := hide (HWd.out.trans (hB2.mono hsD))
  have hs2 := HW2.out.size
  have hE4 := Nat.lt_of_lt_of_le hE3 hB2.size
  clear hB2 hE3
  refine wpAnyH_ready (rs := [11]) (by kernel_rfl) (by simp) ?_
  refine AllReadyH.cons rfl (fun K hK => ?_) AllReadyH.nil
  go_simp
  go_wp2_with (go_at_call 60; (with_reducible refine (line_put_n (n := 3) (l := []) (ws := [⟨#[114, 101, 110, 97, 109, 101]⟩, file, dotS path]) ((H.out.below HW2.out).below (below_alloc _ _)) (str_row3 _ _ _ _) rfl (by intro k o e; injection e with e; injection e with e1 _; omega) (by have := Hr3.out; simp only [List.length_nil]; omega) (by simp; omega) (by simp)).mono ?_); rintro e3 w3 ⟨rfl, h3, hb3, hk3⟩)
  refine hK.out _ _ (hHeld3.kept hk3 (by omega) (by omega) (by omega)) (fun hHeld4 => ?_)
  clear hK K hHeld3
  have H3 := hide h3
  have HB3 : Hid (Below B w w3) := hide (((HW2.out.mono hBw).alloc (by omega) _).trans hb3)
  have HK3 : Hid (Lib.OthersKept 5 (some b) w w3) := hide (((kept_below b HW2.out).alloc _).trans hk3)
  have hcE : ∀ o, w3.cell? ⟨E, o, none⟩ = (#[.int .u8 1, .slice x.e.pA path.length x.e.pc, .int .i64 at_, .int .i64 far, .string frm, .string tto, .slice x.e.oA old.len x.e.oc, .slice x.e.nA new.len x.e.nc] : Array Value)[o]? := fun o => Lib.cell_of_heap hHeld4.1 o
  have HX3 := hide hHeld4
  have hs3 := HB3.out.size
  have hE5 : E < w3.heap.size := (Array.getElem?_eq_some_iff.1 hHeld4.1).1
  clear h3 hb3 hk3 hHeld4 HW2 hs2 hE4 HWd hsD
  refine wpAnyH_done (by kernel_rfl) ?_ _
  try simp only [Act.put, List.getElem_toArray, List.getElem_cons_zero, List.getElem_cons_succ, List.setIfInBounds_toArray, List.set_cons_zero, List.set_cons_succ]
  go_wp2_with (go_at_call 60; (with_reducible refine (line_put_n (n := 2) (l := putsB [] [⟨#[114, 101, 110, 97, 109, 101]⟩, file, dotS path]) (ws := [frm, tto]) (H3.out.below (below_alloc _ _)) (str_row2 _ _ _) rfl (by intro k o e; injection e with e; injection e with e1 _; omega) (by have := Hr3.out; have := Hl3.out; simp only [List.length_nil] at this; omega) (by simp; omega) (by simp)).mono ?_); rintro e4 w4 ⟨rfl, h4, hb4, hk4⟩; have H4 := hide h4; have HB4 := hide ((HB3.out.alloc (Nat.le_trans hBw hs3) _).trans hb4); have HK4 := hide ((HK3.out.alloc _).trans hk4); clear h4 hb4 hk4)
  refine bodyPost_ret (results_none rfl _ _ _) rfl ?_
  refine ⟨rfl, ?_, HB4.out, HK4.out⟩
  have := H4.out
  rw [puts_app] at this
  exact this

end Go.Proofs.YtadilmijppdpoaaGreatDoor
