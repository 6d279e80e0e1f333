/- A line, as the document tells (ref28.Line). Printed by gen_ref28l.py. -/
import Derived.Deep.CutBlock
import Derived.Test.YtadilmijppdpoaaGreatDoorTRef28E
import Derived.Test.YtadilmijppdpoaaGreatDoorTRef19
import Derived.Test.YtadilmijppdpoaaGreatDoorTLogLnK

set_option linter.unusedVariables false
set_option linter.unusedSimpArgs false

namespace Go.Proofs.YtadilmijppdpoaaGreatDoor
open Go.RowKit

theorem joinS_room : ∀ l : List ByteArray, (joinS l).size ≤ roomB l
  | [] => Nat.zero_le _
  | [s] => by rw [roomB_cons, roomB_nil]; simp [joinS]
  | s :: t :: r => by
    have ih := joinS_room (t :: r)
    have e : joinS (s :: t :: r) = s ++ ⟨#[32]⟩ ++ joinS (t :: r) := rfl
    rw [e, roomB_cons]
    simp only [ByteArray.size_append]
    have : (⟨#[32]⟩ : ByteArray).size = 1 := rfl
    omega
theorem joinS_two (a b : ByteArray) {r : List ByteArray} (hr : r ≠ []) : joinS (a :: b :: r) = a ++ ⟨#[32]⟩ ++ b ++ ⟨#[32]⟩ ++ joinS r := by
  match r, hr with
  | c :: r, _ =>
    have e : joinS (a :: b :: c :: r) = a ++ ⟨#[32]⟩ ++ (b ++ ⟨#[32]⟩ ++ joinS (c :: r)) := rfl
    rw [e]
    simp only [ByteArray.append_assoc]
def tailS (e : Ed) : List ByteArray := dotS e.path :: (if e.kind = 1 then [e.frm, e.to] else (numsN e ++ (sizesN e.old ++ sizesN e.new)).map itoaS)
theorem tree_tail (file : ByteArray) (e : Ed) : treeS file e = wordS e.kind :: file :: tailS e := rfl
theorem fo_small {f : Fo} {n : Nat} (h : (foB f).length ≤ n) (hn : n ≤ 549755813888) : f.cnt ≤ 1099511627776 := by
  have h1 := cnt_foB f
  rw [cnt_nodes] at h1
  omega
theorem edit28_any {S : Nat → Prop} {x : Eh} {e : Ed} {w : World} (he : EdIn S w x e) (hok : EdOk e) (hlen : (edB e).length ≤ 549755813888) (htab : TabP w.heap.size w) :
    Calls Tryz.prog 21 #[.agg #[.int .u8 e.kind, .slice x.pA e.path.length x.pc, .int .i64 e.at_, .int .i64 e.far, .string e.frm, .string e.to, .slice x.oA e.old.len x.oc, .slice x.nA e.new.len x.nc]] w fun e1 w' => e1 = .returned (.tuple #[.string (wordS e.kind), .string (joinS (tailS e))]) ∧ Below w.heap.size w w' := by
  have hl := edB_len e
  have hp8 := path_l8 e.path
  have hpl : e.path.length ≤ 1099511627776 := by omega
  have hzo : e.old.cnt ≤ 1099511627776 := fo_small (n := 549755813888) (by omega) (by omega)
  have hzn : e.new.cnt ≤ 1099511627776 := fo_small (n := 549755813888) (by omega) (by omega)
  obtain ⟨kd, path, at_, far, frm, tto, old, new⟩ := e
  obtain ⟨_, h | h | h | h | h⟩ := hok
  · obtain ⟨h1, h2, h3, h4, h5, h6, h7, h8, h9⟩ := h
    simp only at h1
    subst h1
    exact edit28_1 he hpl htab h7.1 h8.1
  · obtain ⟨h1, h2, h3, h4, h5, h6, h7⟩ := h
    simp only at h1 h5
    subst h1 h5
    exact edit28_2 he hpl htab h7 hzn
  · obtain ⟨h1, h2, h3, h4, h5, h6, h7⟩ := h
    simp only at h1 h5
    subst h1 h5
    have e2 : tailS ⟨3, path, at_, far, frm, tto, old, .nil⟩ = dotS path :: itoaS at_ :: (sizesN old).map itoaS := by simp [tailS, numsN, sizesN]
    rw [e2]
    exact edit28_3 he hpl htab h7 hzo
  · obtain ⟨h1, h2, h3, h4, h5, h6, h7, h8, h9⟩ := h
    simp only at h1
    subst h1
    have e2 : tailS ⟨4, path, at_, far, frm, tto, old, new⟩ = dotS path :: ((sizesN old).map itoaS ++ (sizesN new).map itoaS) := by simp [tailS, numsN]
    rw [e2]
    exact edit28_4 he hpl htab h7 hzo h8 hzn
  · obtain ⟨h1, h2, h3, h4, h5, h6, h7, h8⟩ := h
    simp only at h1 h4
    subst h1 h4
    have e2 : tailS ⟨5, path, at_, far, frm, tto, old, .nil⟩ = dotS path :: itoaS at_ :: itoaS far :: (sizesN old).map itoaS := by simp [tailS, numsN, sizesN]
    rw [e2]
    exact edit28_5 he hpl htab h8 hzo
theorem lineS_k1 {p : Pt} (h : p.kind = 1) : lineS p = [⟨#[97, 100, 100]⟩, p.file, itoaS (p.text.size : Int)] := by unfold lineS; rw [if_pos h]; rfl
theorem lineS_k2 {p : Pt} (h : p.kind = 2) : lineS p = [⟨#[114, 101, 109, 111, 118, 101]⟩, p.file, itoaS (p.text.size : Int)] := by unfold lineS; rw [if_neg (by omega), if_pos h]; rfl
theorem lineS_k3 {p : Pt} (h : p.kind = 3) : lineS p = [⟨#[108, 105, 110, 101, 115]⟩, p.file, itoaS p.hunk.at_, itoaS (p.hunk.old.length : Int), itoaS (p.hunk.new.length : Int)] := by unfold lineS; rw [if_neg (by omega), if_neg (by omega), if_pos h]; rfl
theorem lineS_k4 {p : Pt} (h : p.kind = 4) : lineS p = wordS p.edit.kind :: p.file :: tailS p.edit := by unfold lineS; rw [if_neg (by omega), if_neg (by omega), if_neg (by omega)]; exact tree_tail _ _
theorem wordS_l (k : Nat) : (wordS k).size ≤ 7 := wordS_size k

set_option maxHeartbeats 4000000 in
set_option maxRecDepth 100000 in
theorem line28_0 {S : Nat → Prop} {x : Ph} {p : Pt} {w : World} (hp : PtIn S w x p) (htab : TabP w.heap.size w) (hok : ¬ PtOk p) :
    Calls Tryz.prog 9 #[.agg #[.int .u8 p.kind, .string p.file, .string p.text, .int .i64 p.hunk.at_, .slice x.h.oA p.hunk.old.length x.h.oc, .slice x.h.nA p.hunk.new.length x.h.nc, .int .u8 p.edit.kind, .slice x.e.pA p.edit.path.length x.e.pc, .int .i64 p.edit.at_, .int .i64 p.edit.far, .string p.edit.frm, .string p.edit.to, .slice x.e.oA p.edit.old.len x.e.oc, .slice x.e.nA p.edit.new.len x.e.nc]] w fun e w' => e = .returned (.string ⟨(saidB p).toArray⟩) ∧ Below w.heap.size w w' := by
  have es : saidB p = [63] := by unfold saidB; rw [if_neg hok]
  rw [es]
  have H := hide hp
  have HT := hide htab
  have HTB := hide (fun (W : World) (hW : Below w.heap.size w W) => (HT.out.below hW).up hW.size)
  obtain ⟨W0, hW0⟩ : ∃ W0, W0 = w.alloc (.cells #[.int .u8 p.kind, .string p.file, .string p.text, .int .i64 p.hunk.at_, .slice x.h.oA p.hunk.old.length x.h.oc, .slice x.h.nA p.hunk.new.length x.h.nc, .int .u8 p.edit.kind, .slice x.e.pA p.edit.path.length x.e.pc, .int .i64 p.edit.at_, .int .i64 p.edit.far, .string p.edit.frm, .string p.edit.to, .slice x.e.oA p.edit.old.len x.e.oc, .slice x.e.nA p.edit.new.len x.e.nc] 37) := ⟨_, rfl⟩
  have hcl0 : CellsL W0 w.heap.size [.int .u8 p.kind, .string p.file, .string p.text, .int .i64 p.hunk.at_, .slice x.h.oA p.hunk.old.length x.h.oc, .slice x.h.nA p.hunk.new.length x.h.nc, .int .u8 p.edit.kind, .slice x.e.pA p.edit.path.length x.e.pc, .int .i64 p.edit.at_, .int .i64 p.edit.far, .string p.edit.frm, .string p.edit.to, .slice x.e.oA p.edit.old.len x.e.oc, .slice x.e.nA p.edit.new.len x.e.nc] := fun j u hu => by rw [hW0, Lib.cell_of_heap (heap_alloc_new w _)]; simpa using hu
  have hBB : Below w.heap.size w W0 := by rw [hW0]; exact below_alloc _ _
  have HB0 := hide hBB
  have HW0 := hide hW0
  have b0 := hcl0 0 _ rfl
  have b1 := hcl0 1 _ rfl
  have b2 := hcl0 2 _ rfl
  have b3 := hcl0 3 _ rfl
  have b4 := hcl0 4 _ rfl
  have b5 := hcl0 5 _ rfl
  have b6 := hcl0 6 _ rfl
  have b7 := hcl0 7 _ rfl
  have b8 := hcl0 8 _ rfl
  have b9 := hcl0 9 _ rfl
  have b10 := hcl0 10 _ rfl
  have b11 := hcl0 11 _ rfl
  have b12 := hcl0 12 _ rfl
  have b13 := hcl0 13 _ rfl
  have hNb : w.heap.size < W0.heap.size := block_lt_of_cell b0
  clear hp htab hW0 hcl0 hBB
  have HR : Hid (∀ W, Below w.heap.size w W → Calls Tryz.prog 19 #[.agg #[.int .u8 p.kind, .string p.file, .string p.text, .int .i64 p.hunk.at_, .slice x.h.oA p.hunk.old.length x.h.oc, .slice x.h.nA p.hunk.new.length x.h.nc, .int .u8 p.edit.kind, .slice x.e.pA p.edit.path.length x.e.pc, .int .i64 p.edit.at_, .int .i64 p.edit.far, .string p.edit.frm, .string p.edit.to, .slice x.e.oA p.edit.old.len x.e.oc, .slice x.e.nA p.edit.new.len x.e.nc]] W fun e w' => e = .returned (.bool false) ∧ Below W.heap.size W w') := hide fun W hW => ret_no (patRight19_any (H.out.below hW)) hok
  go_enter Tryz.func9, Tryz.ntmps9
  go_upto_region 1 with fail
  change Code.wp _ _ _ _ (w.alloc (.cells #[.int .u8 p.kind, .string p.file, .string p.text, .int .i64 p.hunk.at_, .slice x.h.oA p.hunk.old.length x.h.oc, .slice x.h.nA p.hunk.new.length x.h.nc, .int .u8 p.edit.kind, .slice x.e.pA p.edit.path.length x.e.pc, .int .i64 p.edit.at_, .int .i64 p.edit.far, .string p.edit.frm, .string p.edit.to, .slice x.e.oA p.edit.old.len x.e.oc, .slice x.e.nA p.edit.new.len x.e.nc] 37))
  rw [← HW0.out]
  clear HW0
  go_wp2_with (first
    | (go_at_call 19; (with_reducible refine (HR.out _ HB0.out).mono ?_); rintro e1 w1 ⟨rfl, hB⟩; have HB1 := hide (HB0.out.trans (hB.mono HB0.out.size)); replace b0 := (hB.cell (p := ⟨w.heap.size, 0, none⟩) hNb).trans b0; replace b1 := (hB.cell (p := ⟨w.heap.size, 1, none⟩) hNb).trans b1; replace b2 := (hB.cell (p := ⟨w.heap.size, 2, none⟩) hNb).trans b2; replace b3 := (hB.cell (p := ⟨w.heap.size, 3, none⟩) hNb).trans b3; replace b4 := (hB.cell (p := ⟨w.heap.size, 4, none⟩) hNb).trans b4; replace b5 := (hB.cell (p := ⟨w.heap.size, 5, none⟩) hNb).trans b5; replace b6 := (hB.cell (p := ⟨w.heap.size, 6, none⟩) hNb).trans b6; replace b7 := (hB.cell (p := ⟨w.heap.size, 7, none⟩) hNb).trans b7; replace b8 := (hB.cell (p := ⟨w.heap.size, 8, none⟩) hNb).trans b8; replace b9 := (hB.cell (p := ⟨w.heap.size, 9, none⟩) hNb).trans b9; replace b10 := (hB.cell (p := ⟨w.heap.size, 10, none⟩) hNb).trans b10; replace b11 := (hB.cell (p := ⟨w.heap.size, 11, none⟩) hNb).trans b11; replace b12 := (hB.cell (p := ⟨w.heap.size, 12, none⟩) hNb).trans b12; replace b13 := (hB.cell (p := ⟨w.heap.size, 13, none⟩) hNb).trans b13; replace hNb := Nat.lt_of_lt_of_le hNb hB.size; clear hB))
  go_ret
  exact ⟨rfl, HB1.out⟩

set_option maxHeartbeats 4000000 in
set_option maxRecDepth 100000 in
theorem line28_1 {S : Nat → Prop} {x : Ph} {p : Pt} {w : World} (hp : PtIn S w x p) (htab : TabP w.heap.size w) (hok : PtOk p) (hk : p.kind = 1) (hlen : (ptB p).length ≤ 549755813888) :
    Calls Tryz.prog 9 #[.agg #[.int .u8 1, .string p.file, .string p.text, .int .i64 p.hunk.at_, .slice x.h.oA p.hunk.old.length x.h.oc, .slice x.h.nA p.hunk.new.length x.h.nc, .int .u8 p.edit.kind, .slice x.e.pA p.edit.path.length x.e.pc, .int .i64 p.edit.at_, .int .i64 p.edit.far, .string p.edit.frm, .string p.edit.to, .slice x.e.oA p.edit.old.len x.e.oc, .slice x.e.nA p.edit.new.len x.e.nc]] w fun e w' => e = .returned (.string ⟨(saidB p).toArray⟩) ∧ Below w.heap.size w w' := by
  have es : (⟨(saidB p).toArray⟩ : ByteArray) = joinS (lineS p) := by unfold saidB; rw [if_pos hok, joinS_line]
  rw [es, lineS_k1 hk, join3]
  have hfs := hok.1.2.1
  have hin : isInt64 (p.text.size : Int) := by have := hp.text; unfold isInt64; omega
  have Hin := hide hin
  have H := hide hp
  have HT := hide htab
  have HTB := hide (fun (W : World) (hW : Below w.heap.size w W) => (HT.out.below hW).up hW.size)
  obtain ⟨W0, hW0⟩ : ∃ W0, W0 = w.alloc (.cells #[.int .u8 1, .string p.file, .string p.text, .int .i64 p.hunk.at_, .slice x.h.oA p.hunk.old.length x.h.oc, .slice x.h.nA p.hunk.new.length x.h.nc, .int .u8 p.edit.kind, .slice x.e.pA p.edit.path.length x.e.pc, .int .i64 p.edit.at_, .int .i64 p.edit.far, .string p.edit.frm, .string p.edit.to, .slice x.e.oA p.edit.old.len x.e.oc, .slice x.e.nA p.edit.new.len x.e.nc] 37) := ⟨_, rfl⟩
  have hcl0 : CellsL W0 w.heap.size [.int .u8 1, .string p.file, .string p.text, .int .i64 p.hunk.at_, .slice x.h.oA p.hunk.old.length x.h.oc, .slice x.h.nA p.hunk.new.length x.h.nc, .int .u8 p.edit.kind, .slice x.e.pA p.edit.path.length x.e.pc, .int .i64 p.edit.at_, .int .i64 p.edit.far, .string p.edit.frm, .string p.edit.to, .slice x.e.oA p.edit.old.len x.e.oc, .slice x.e.nA p.edit.new.len x.e.nc] := fun j u hu => by rw [hW0, Lib.cell_of_heap (heap_alloc_new w _)]; simpa using hu
  have hBB : Below w.heap.size w W0 := by rw [hW0]; exact below_alloc _ _
  have HB0 := hide hBB
  have HW0 := hide hW0
  have b0 := hcl0 0 _ rfl
  have b1 := hcl0 1 _ rfl
  have b2 := hcl0 2 _ rfl
  have b3 := hcl0 3 _ rfl
  have b4 := hcl0 4 _ rfl
  have b5 := hcl0 5 _ rfl
  have b6 := hcl0 6 _ rfl
  have b7 := hcl0 7 _ rfl
  have b8 := hcl0 8 _ rfl
  have b9 := hcl0 9 _ rfl
  have b10 := hcl0 10 _ rfl
  have b11 := hcl0 11 _ rfl
  have b12 := hcl0 12 _ rfl
  have b13 := hcl0 13 _ rfl
  have hNb : w.heap.size < W0.heap.size := block_lt_of_cell b0
  clear hp htab hW0 hcl0 hBB
  have HR : Hid (∀ W, Below w.heap.size w W → Calls Tryz.prog 19 #[.agg #[.int .u8 1, .string p.file, .string p.text, .int .i64 p.hunk.at_, .slice x.h.oA p.hunk.old.length x.h.oc, .slice x.h.nA p.hunk.new.length x.h.nc, .int .u8 p.edit.kind, .slice x.e.pA p.edit.path.length x.e.pc, .int .i64 p.edit.at_, .int .i64 p.edit.far, .string p.edit.frm, .string p.edit.to, .slice x.e.oA p.edit.old.len x.e.oc, .slice x.e.nA p.edit.new.len x.e.nc]] W fun e w' => e = .returned (.bool true) ∧ Below W.heap.size W w') := hide fun W hW => by
    have h9 := ret_yes (patRight19_any (H.out.below hW)) hok
    rw [hk] at h9
    exact h9
  obtain ⟨r, hr⟩ : ∃ r, r = itoaS (p.text.size : Int) := ⟨_, rfl⟩
  have hrs : r.size ≤ 21 := by rw [hr]; exact itoaS_size hin
  have HI : Hid (∀ W, Below w.heap.size w W → Calls Tryz.prog 20 #[.int .i64 (p.text.size : Int)] W fun e w' => e = .returned (.string r) ∧ Below W.heap.size W w') := hide fun W hW => by rw [hr]; exact itoa_any Hin.out (HTB.out W hW)
  rw [← hr]
  have z1 : ¬ 9223372036854775807 < 3 + 1 + p.file.size := by omega
  have z2 : ¬ 9223372036854775807 < 4 + p.file.size := by omega
  have z3 : ¬ 9223372036854775807 < 3 + 1 + p.file.size + 1 := by omega
  have z4 : ¬ 9223372036854775807 < 4 + p.file.size + 1 := by omega
  have z5 : ¬ 9223372036854775807 < 3 + 1 + p.file.size + 1 + r.size := by omega
  have z6 : ¬ 9223372036854775807 < 4 + p.file.size + 1 + r.size := by omega
  have Hk := hide hk
  clear hr hin hk es
  go_enter Tryz.func9, Tryz.ntmps9
  go_upto_region 1 with fail
  change Code.wp _ _ _ _ (w.alloc (.cells #[.int .u8 1, .string p.file, .string p.text, .int .i64 p.hunk.at_, .slice x.h.oA p.hunk.old.length x.h.oc, .slice x.h.nA p.hunk.new.length x.h.nc, .int .u8 p.edit.kind, .slice x.e.pA p.edit.path.length x.e.pc, .int .i64 p.edit.at_, .int .i64 p.edit.far, .string p.edit.frm, .string p.edit.to, .slice x.e.oA p.edit.old.len x.e.oc, .slice x.e.nA p.edit.new.len x.e.nc] 37))
  rw [← HW0.out]
  clear HW0
  go_wp2_with (first
    | (go_at_call 19; (with_reducible refine (HR.out _ HB0.out).mono ?_); rintro e1 w1 ⟨rfl, hB⟩; have HB1 := hide (HB0.out.trans (hB.mono HB0.out.size)); replace b0 := (hB.cell (p := ⟨w.heap.size, 0, none⟩) hNb).trans b0; replace b1 := (hB.cell (p := ⟨w.heap.size, 1, none⟩) hNb).trans b1; replace b2 := (hB.cell (p := ⟨w.heap.size, 2, none⟩) hNb).trans b2; replace b3 := (hB.cell (p := ⟨w.heap.size, 3, none⟩) hNb).trans b3; replace b4 := (hB.cell (p := ⟨w.heap.size, 4, none⟩) hNb).trans b4; replace b5 := (hB.cell (p := ⟨w.heap.size, 5, none⟩) hNb).trans b5; replace b6 := (hB.cell (p := ⟨w.heap.size, 6, none⟩) hNb).trans b6; replace b7 := (hB.cell (p := ⟨w.heap.size, 7, none⟩) hNb).trans b7; replace b8 := (hB.cell (p := ⟨w.heap.size, 8, none⟩) hNb).trans b8; replace b9 := (hB.cell (p := ⟨w.heap.size, 9, none⟩) hNb).trans b9; replace b10 := (hB.cell (p := ⟨w.heap.size, 10, none⟩) hNb).trans b10; replace b11 := (hB.cell (p := ⟨w.heap.size, 11, none⟩) hNb).trans b11; replace b12 := (hB.cell (p := ⟨w.heap.size, 12, none⟩) hNb).trans b12; replace b13 := (hB.cell (p := ⟨w.heap.size, 13, none⟩) hNb).trans b13; replace hNb := Nat.lt_of_lt_of_le hNb hB.size; clear hB)
    | (go_at_call 20; (with_reducible refine (HI.out _ HB1.out).mono ?_); rintro e2 w2 ⟨rfl, hB⟩; have HB2 := hide (HB1.out.trans (hB.mono HB1.out.size)); replace b0 := (hB.cell (p := ⟨w.heap.size, 0, none⟩) hNb).trans b0; replace b1 := (hB.cell (p := ⟨w.heap.size, 1, none⟩) hNb).trans b1; replace b2 := (hB.cell (p := ⟨w.heap.size, 2, none⟩) hNb).trans b2; replace b3 := (hB.cell (p := ⟨w.heap.size, 3, none⟩) hNb).trans b3; replace b4 := (hB.cell (p := ⟨w.heap.size, 4, none⟩) hNb).trans b4; replace b5 := (hB.cell (p := ⟨w.heap.size, 5, none⟩) hNb).trans b5; replace b6 := (hB.cell (p := ⟨w.heap.size, 6, none⟩) hNb).trans b6; replace b7 := (hB.cell (p := ⟨w.heap.size, 7, none⟩) hNb).trans b7; replace b8 := (hB.cell (p := ⟨w.heap.size, 8, none⟩) hNb).trans b8; replace b9 := (hB.cell (p := ⟨w.heap.size, 9, none⟩) hNb).trans b9; replace b10 := (hB.cell (p := ⟨w.heap.size, 10, none⟩) hNb).trans b10; replace b11 := (hB.cell (p := ⟨w.heap.size, 11, none⟩) hNb).trans b11; replace b12 := (hB.cell (p := ⟨w.heap.size, 12, none⟩) hNb).trans b12; replace b13 := (hB.cell (p := ⟨w.heap.size, 13, none⟩) hNb).trans b13; replace hNb := Nat.lt_of_lt_of_le hNb hB.size; clear hB))
  go_ret
  exact ⟨rfl, HB2.out⟩

set_option maxHeartbeats 4000000 in
set_option maxRecDepth 100000 in
theorem line28_2 {S : Nat → Prop} {x : Ph} {p : Pt} {w : World} (hp : PtIn S w x p) (htab : TabP w.heap.size w) (hok : PtOk p) (hk : p.kind = 2) (hlen : (ptB p).length ≤ 549755813888) :
    Calls Tryz.prog 9 #[.agg #[.int .u8 2, .string p.file, .string p.text, .int .i64 p.hunk.at_, .slice x.h.oA p.hunk.old.length x.h.oc, .slice x.h.nA p.hunk.new.length x.h.nc, .int .u8 p.edit.kind, .slice x.e.pA p.edit.path.length x.e.pc, .int .i64 p.edit.at_, .int .i64 p.edit.far, .string p.edit.frm, .string p.edit.to, .slice x.e.oA p.edit.old.len x.e.oc, .slice x.e.nA p.edit.new.len x.e.nc]] w fun e w' => e = .returned (.string ⟨(saidB p).toArray⟩) ∧ Below w.heap.size w w' := by
  have es : (⟨(saidB p).toArray⟩ : ByteArray) = joinS (lineS p) := by unfold saidB; rw [if_pos hok, joinS_line]
  rw [es, lineS_k2 hk, join3]
  have hfs := hok.1.2.1
  have hin : isInt64 (p.text.size : Int) := by have := hp.text; unfold isInt64; omega
  have Hin := hide hin
  have H := hide hp
  have HT := hide htab
  have HTB := hide (fun (W : World) (hW : Below w.heap.size w W) => (HT.out.below hW).up hW.size)
  obtain ⟨W0, hW0⟩ : ∃ W0, W0 = w.alloc (.cells #[.int .u8 2, .string p.file, .string p.text, .int .i64 p.hunk.at_, .slice x.h.oA p.hunk.old.length x.h.oc, .slice x.h.nA p.hunk.new.length x.h.nc, .int .u8 p.edit.kind, .slice x.e.pA p.edit.path.length x.e.pc, .int .i64 p.edit.at_, .int .i64 p.edit.far, .string p.edit.frm, .string p.edit.to, .slice x.e.oA p.edit.old.len x.e.oc, .slice x.e.nA p.edit.new.len x.e.nc] 37) := ⟨_, rfl⟩
  have hcl0 : CellsL W0 w.heap.size [.int .u8 2, .string p.file, .string p.text, .int .i64 p.hunk.at_, .slice x.h.oA p.hunk.old.length x.h.oc, .slice x.h.nA p.hunk.new.length x.h.nc, .int .u8 p.edit.kind, .slice x.e.pA p.edit.path.length x.e.pc, .int .i64 p.edit.at_, .int .i64 p.edit.far, .string p.edit.frm, .string p.edit.to, .slice x.e.oA p.edit.old.len x.e.oc, .slice x.e.nA p.edit.new.len x.e.nc] := fun j u hu => by rw [hW0, Lib.cell_of_heap (heap_alloc_new w _)]; simpa using hu
  have hBB : Below w.heap.size w W0 := by rw [hW0]; exact below_alloc _ _
  have HB0 := hide hBB
  have HW0 := hide hW0
  have b0 := hcl0 0 _ rfl
  have b1 := hcl0 1 _ rfl
  have b2 := hcl0 2 _ rfl
  have b3 := hcl0 3 _ rfl
  have b4 := hcl0 4 _ rfl
  have b5 := hcl0 5 _ rfl
  have b6 := hcl0 6 _ rfl
  have b7 := hcl0 7 _ rfl
  have b8 := hcl0 8 _ rfl
  have b9 := hcl0 9 _ rfl
  have b10 := hcl0 10 _ rfl
  have b11 := hcl0 11 _ rfl
  have b12 := hcl0 12 _ rfl
  have b13 := hcl0 13 _ rfl
  have hNb : w.heap.size < W0.heap.size := block_lt_of_cell b0
  clear hp htab hW0 hcl0 hBB
  have HR : Hid (∀ W, Below w.heap.size w W → Calls Tryz.prog 19 #[.agg #[.int .u8 2, .string p.file, .string p.text, .int .i64 p.hunk.at_, .slice x.h.oA p.hunk.old.length x.h.oc, .slice x.h.nA p.hunk.new.length x.h.nc, .int .u8 p.edit.kind, .slice x.e.pA p.edit.path.length x.e.pc, .int .i64 p.edit.at_, .int .i64 p.edit.far, .string p.edit.frm, .string p.edit.to, .slice x.e.oA p.edit.old.len x.e.oc, .slice x.e.nA p.edit.new.len x.e.nc]] W fun e w' => e = .returned (.bool true) ∧ Below W.heap.size W w') := hide fun W hW => by
    have h9 := ret_yes (patRight19_any (H.out.below hW)) hok
    rw [hk] at h9
    exact h9
  obtain ⟨r, hr⟩ : ∃ r, r = itoaS (p.text.size : Int) := ⟨_, rfl⟩
  have hrs : r.size ≤ 21 := by rw [hr]; exact itoaS_size hin
  have HI : Hid (∀ W, Below w.heap.size w W → Calls Tryz.prog 20 #[.int .i64 (p.text.size : Int)] W fun e w' => e = .returned (.string r) ∧ Below W.heap.size W w') := hide fun W hW => by rw [hr]; exact itoa_any Hin.out (HTB.out W hW)
  rw [← hr]
  have z1 : ¬ 9223372036854775807 < 6 + 1 + p.file.size := by omega
  have z2 : ¬ 9223372036854775807 < 7 + p.file.size := by omega
  have z3 : ¬ 9223372036854775807 < 6 + 1 + p.file.size + 1 := by omega
  have z4 : ¬ 9223372036854775807 < 7 + p.file.size + 1 := by omega
  have z5 : ¬ 9223372036854775807 < 6 + 1 + p.file.size + 1 + r.size := by omega
  have z6 : ¬ 9223372036854775807 < 7 + p.file.size + 1 + r.size := by omega
  have Hk := hide hk
  clear hr hin hk es
  go_enter Tryz.func9, Tryz.ntmps9
  go_upto_region 1 with fail
  change Code.wp _ _ _ _ (w.alloc (.cells #[.int .u8 2, .string p.file, .string p.text, .int .i64 p.hunk.at_, .slice x.h.oA p.hunk.old.length x.h.oc, .slice x.h.nA p.hunk.new.length x.h.nc, .int .u8 p.edit.kind, .slice x.e.pA p.edit.path.length x.e.pc, .int .i64 p.edit.at_, .int .i64 p.edit.far, .string p.edit.frm, .string p.edit.to, .slice x.e.oA p.edit.old.len x.e.oc, .slice x.e.nA p.edit.new.len x.e.nc] 37))
  rw [← HW0.out]
  clear HW0
  go_wp2_with (first
    | (go_at_call 19; (with_reducible refine (HR.out _ HB0.out).mono ?_); rintro e1 w1 ⟨rfl, hB⟩; have HB1 := hide (HB0.out.trans (hB.mono HB0.out.size)); replace b0 := (hB.cell (p := ⟨w.heap.size, 0, none⟩) hNb).trans b0; replace b1 := (hB.cell (p := ⟨w.heap.size, 1, none⟩) hNb).trans b1; replace b2 := (hB.cell (p := ⟨w.heap.size, 2, none⟩) hNb).trans b2; replace b3 := (hB.cell (p := ⟨w.heap.size, 3, none⟩) hNb).trans b3; replace b4 := (hB.cell (p := ⟨w.heap.size, 4, none⟩) hNb).trans b4; replace b5 := (hB.cell (p := ⟨w.heap.size, 5, none⟩) hNb).trans b5; replace b6 := (hB.cell (p := ⟨w.heap.size, 6, none⟩) hNb).trans b6; replace b7 := (hB.cell (p := ⟨w.heap.size, 7, none⟩) hNb).trans b7; replace b8 := (hB.cell (p := ⟨w.heap.size, 8, none⟩) hNb).trans b8; replace b9 := (hB.cell (p := ⟨w.heap.size, 9, none⟩) hNb).trans b9; replace b10 := (hB.cell (p := ⟨w.heap.size, 10, none⟩) hNb).trans b10; replace b11 := (hB.cell (p := ⟨w.heap.size, 11, none⟩) hNb).trans b11; replace b12 := (hB.cell (p := ⟨w.heap.size, 12, none⟩) hNb).trans b12; replace b13 := (hB.cell (p := ⟨w.heap.size, 13, none⟩) hNb).trans b13; replace hNb := Nat.lt_of_lt_of_le hNb hB.size; clear hB)
    | (go_at_call 20; (with_reducible refine (HI.out _ HB1.out).mono ?_); rintro e2 w2 ⟨rfl, hB⟩; have HB2 := hide (HB1.out.trans (hB.mono HB1.out.size)); replace b0 := (hB.cell (p := ⟨w.heap.size, 0, none⟩) hNb).trans b0; replace b1 := (hB.cell (p := ⟨w.heap.size, 1, none⟩) hNb).trans b1; replace b2 := (hB.cell (p := ⟨w.heap.size, 2, none⟩) hNb).trans b2; replace b3 := (hB.cell (p := ⟨w.heap.size, 3, none⟩) hNb).trans b3; replace b4 := (hB.cell (p := ⟨w.heap.size, 4, none⟩) hNb).trans b4; replace b5 := (hB.cell (p := ⟨w.heap.size, 5, none⟩) hNb).trans b5; replace b6 := (hB.cell (p := ⟨w.heap.size, 6, none⟩) hNb).trans b6; replace b7 := (hB.cell (p := ⟨w.heap.size, 7, none⟩) hNb).trans b7; replace b8 := (hB.cell (p := ⟨w.heap.size, 8, none⟩) hNb).trans b8; replace b9 := (hB.cell (p := ⟨w.heap.size, 9, none⟩) hNb).trans b9; replace b10 := (hB.cell (p := ⟨w.heap.size, 10, none⟩) hNb).trans b10; replace b11 := (hB.cell (p := ⟨w.heap.size, 11, none⟩) hNb).trans b11; replace b12 := (hB.cell (p := ⟨w.heap.size, 12, none⟩) hNb).trans b12; replace b13 := (hB.cell (p := ⟨w.heap.size, 13, none⟩) hNb).trans b13; replace hNb := Nat.lt_of_lt_of_le hNb hB.size; clear hB))
  go_ret
  exact ⟨rfl, HB2.out⟩

set_option maxHeartbeats 4000000 in
set_option maxRecDepth 100000 in
theorem line28_3 {S : Nat → Prop} {x : Ph} {p : Pt} {w : World} (hp : PtIn S w x p) (htab : TabP w.heap.size w) (hok : PtOk p) (hk : p.kind = 3) (hlen : (ptB p).length ≤ 549755813888) :
    Calls Tryz.prog 9 #[.agg #[.int .u8 3, .string p.file, .string p.text, .int .i64 p.hunk.at_, .slice x.h.oA p.hunk.old.length x.h.oc, .slice x.h.nA p.hunk.new.length x.h.nc, .int .u8 p.edit.kind, .slice x.e.pA p.edit.path.length x.e.pc, .int .i64 p.edit.at_, .int .i64 p.edit.far, .string p.edit.frm, .string p.edit.to, .slice x.e.oA p.edit.old.len x.e.oc, .slice x.e.nA p.edit.new.len x.e.nc]] w fun e w' => e = .returned (.string ⟨(saidB p).toArray⟩) ∧ Below w.heap.size w w' := by
  have es : (⟨(saidB p).toArray⟩ : ByteArray) = joinS (lineS p) := by unfold saidB; rw [if_pos hok, joinS_line]
  rw [es, lineS_k3 hk, joinS_two _ _ (by simp), join3]
  have hfs := hok.1.2.1
  have H := hide hp
  have HT := hide htab
  have HTB := hide (fun (W : World) (hW : Below w.heap.size w W) => (HT.out.below hW).up hW.size)
  obtain ⟨W0, hW0⟩ : ∃ W0, W0 = w.alloc (.cells #[.int .u8 3, .string p.file, .string p.text, .int .i64 p.hunk.at_, .slice x.h.oA p.hunk.old.length x.h.oc, .slice x.h.nA p.hunk.new.length x.h.nc, .int .u8 p.edit.kind, .slice x.e.pA p.edit.path.length x.e.pc, .int .i64 p.edit.at_, .int .i64 p.edit.far, .string p.edit.frm, .string p.edit.to, .slice x.e.oA p.edit.old.len x.e.oc, .slice x.e.nA p.edit.new.len x.e.nc] 37) := ⟨_, rfl⟩
  have hcl0 : CellsL W0 w.heap.size [.int .u8 3, .string p.file, .string p.text, .int .i64 p.hunk.at_, .slice x.h.oA p.hunk.old.length x.h.oc, .slice x.h.nA p.hunk.new.length x.h.nc, .int .u8 p.edit.kind, .slice x.e.pA p.edit.path.length x.e.pc, .int .i64 p.edit.at_, .int .i64 p.edit.far, .string p.edit.frm, .string p.edit.to, .slice x.e.oA p.edit.old.len x.e.oc, .slice x.e.nA p.edit.new.len x.e.nc] := fun j u hu => by rw [hW0, Lib.cell_of_heap (heap_alloc_new w _)]; simpa using hu
  have hBB : Below w.heap.size w W0 := by rw [hW0]; exact below_alloc _ _
  have HB0 := hide hBB
  have HW0 := hide hW0
  have b0 := hcl0 0 _ rfl
  have b1 := hcl0 1 _ rfl
  have b2 := hcl0 2 _ rfl
  have b3 := hcl0 3 _ rfl
  have b4 := hcl0 4 _ rfl
  have b5 := hcl0 5 _ rfl
  have b6 := hcl0 6 _ rfl
  have b7 := hcl0 7 _ rfl
  have b8 := hcl0 8 _ rfl
  have b9 := hcl0 9 _ rfl
  have b10 := hcl0 10 _ rfl
  have b11 := hcl0 11 _ rfl
  have b12 := hcl0 12 _ rfl
  have b13 := hcl0 13 _ rfl
  have hNb : w.heap.size < W0.heap.size := block_lt_of_cell b0
  clear hp htab hW0 hcl0 hBB
  have HR : Hid (∀ W, Below w.heap.size w W → Calls Tryz.prog 19 #[.agg #[.int .u8 3, .string p.file, .string p.text, .int .i64 p.hunk.at_, .slice x.h.oA p.hunk.old.length x.h.oc, .slice x.h.nA p.hunk.new.length x.h.nc, .int .u8 p.edit.kind, .slice x.e.pA p.edit.path.length x.e.pc, .int .i64 p.edit.at_, .int .i64 p.edit.far, .string p.edit.frm, .string p.edit.to, .slice x.e.oA p.edit.old.len x.e.oc, .slice x.e.nA p.edit.new.len x.e.nc]] W fun e w' => e = .returned (.bool true) ∧ Below W.heap.size W w') := hide fun W hW => by
    have h9 := ret_yes (patRight19_any (H.out.below hW)) hok
    rw [hk] at h9
    exact h9
  obtain ⟨sa, ha⟩ : ∃ s, s = itoaS p.hunk.at_ := ⟨_, rfl⟩
  have hsa : sa.size ≤ 21 := by rw [ha]; exact itoaS_size H.out.hunk.at_
  have Ga := hide ha
  rw [← ha]
  obtain ⟨sb, hb⟩ : ∃ s, s = itoaS (p.hunk.old.length : Int) := ⟨_, rfl⟩
  have hsb : sb.size ≤ 21 := by rw [hb]; exact itoaS_size (by have := Nat.le_trans H.out.hunk.oc.1 H.out.hunk.oc.2; unfold isInt64; omega)
  have Gb := hide hb
  rw [← hb]
  obtain ⟨sc, hc⟩ : ∃ s, s = itoaS (p.hunk.new.length : Int) := ⟨_, rfl⟩
  have hsc : sc.size ≤ 21 := by rw [hc]; exact itoaS_size (by have := Nat.le_trans H.out.hunk.nc.1 H.out.hunk.nc.2; unfold isInt64; omega)
  have Gc := hide hc
  rw [← hc]
  have z1 : ¬ 9223372036854775807 < sa.size + 1 := by omega
  have z2 : ¬ 9223372036854775807 < sa.size + 1 + sb.size := by omega
  have z3 : ¬ 9223372036854775807 < sa.size + 1 + sb.size + 1 := by omega
  have z4 : ¬ 9223372036854775807 < sa.size + 1 + sb.size + 1 + sc.size := by omega
  have y1 : ¬ 9223372036854775807 < 5 + 1 + p.file.size := by omega
  have y2 : ¬ 9223372036854775807 < 6 + p.file.size := by omega
  have y3 : ¬ 9223372036854775807 < 5 + 1 + p.file.size + 1 := by omega
  have y4 : ¬ 9223372036854775807 < 6 + p.file.size + 1 := by omega
  have y5 : ¬ 9223372036854775807 < 5 + 1 + p.file.size + 1 + (sa.size + 1 + sb.size + 1 + sc.size) := by omega
  have y6 : ¬ 9223372036854775807 < 6 + p.file.size + 1 + (sa.size + 1 + sb.size + 1 + sc.size) := by omega
  clear ha hb hc es
  go_enter Tryz.func9, Tryz.ntmps9
  go_upto_region 1 with fail
  change Code.wp _ _ _ _ (w.alloc (.cells #[.int .u8 3, .string p.file, .string p.text, .int .i64 p.hunk.at_, .slice x.h.oA p.hunk.old.length x.h.oc, .slice x.h.nA p.hunk.new.length x.h.nc, .int .u8 p.edit.kind, .slice x.e.pA p.edit.path.length x.e.pc, .int .i64 p.edit.at_, .int .i64 p.edit.far, .string p.edit.frm, .string p.edit.to, .slice x.e.oA p.edit.old.len x.e.oc, .slice x.e.nA p.edit.new.len x.e.nc] 37))
  rw [← HW0.out]
  clear HW0
  go_upto_region 14 with (first
    | (go_at_call 19; (with_reducible refine (HR.out _ HB0.out).mono ?_); rintro e1 w1 ⟨rfl, hB⟩; have HB1 := hide (HB0.out.trans (hB.mono HB0.out.size)); replace b0 := (hB.cell (p := ⟨w.heap.size, 0, none⟩) hNb).trans b0; replace b1 := (hB.cell (p := ⟨w.heap.size, 1, none⟩) hNb).trans b1; replace b2 := (hB.cell (p := ⟨w.heap.size, 2, none⟩) hNb).trans b2; replace b3 := (hB.cell (p := ⟨w.heap.size, 3, none⟩) hNb).trans b3; replace b4 := (hB.cell (p := ⟨w.heap.size, 4, none⟩) hNb).trans b4; replace b5 := (hB.cell (p := ⟨w.heap.size, 5, none⟩) hNb).trans b5; replace b6 := (hB.cell (p := ⟨w.heap.size, 6, none⟩) hNb).trans b6; replace b7 := (hB.cell (p := ⟨w.heap.size, 7, none⟩) hNb).trans b7; replace b8 := (hB.cell (p := ⟨w.heap.size, 8, none⟩) hNb).trans b8; replace b9 := (hB.cell (p := ⟨w.heap.size, 9, none⟩) hNb).trans b9; replace b10 := (hB.cell (p := ⟨w.heap.size, 10, none⟩) hNb).trans b10; replace b11 := (hB.cell (p := ⟨w.heap.size, 11, none⟩) hNb).trans b11; replace b12 := (hB.cell (p := ⟨w.heap.size, 12, none⟩) hNb).trans b12; replace b13 := (hB.cell (p := ⟨w.heap.size, 13, none⟩) hNb).trans b13; replace hNb := Nat.lt_of_lt_of_le hNb hB.size; clear hB))
  have HI1 : Hid (∀ W, Below w1.heap.size w1 W → Calls Tryz.prog 20 #[.int .i64 p.hunk.at_] W fun e w' => e = .returned (.string sa) ∧ Below W.heap.size W w') := hide fun W hW => by rw [Ga.out]; exact itoa_any H.out.hunk.at_ (HTB.out W (HB1.out.trans (hW.mono HB1.out.size)))
  have HI2 : Hid (∀ W, Below w1.heap.size w1 W → Calls Tryz.prog 20 #[.int .i64 (p.hunk.old.length : Int)] W fun e w' => e = .returned (.string sb) ∧ Below W.heap.size W w') := hide fun W hW => by rw [Gb.out]; exact itoa_any (by have := Nat.le_trans H.out.hunk.oc.1 H.out.hunk.oc.2; unfold isInt64; omega) (HTB.out W (HB1.out.trans (hW.mono HB1.out.size)))
  have HI3 : Hid (∀ W, Below w1.heap.size w1 W → Calls Tryz.prog 20 #[.int .i64 (p.hunk.new.length : Int)] W fun e w' => e = .returned (.string sc) ∧ Below W.heap.size W w') := hide fun W hW => by rw [Gc.out]; exact itoa_any (by have := Nat.le_trans H.out.hunk.nc.1 H.out.hunk.nc.2; unfold isInt64; omega) (HTB.out W (HB1.out.trans (hW.mono HB1.out.size)))
  have hd1 : Below w1.heap.size w1 w1.drew := blw_drewN (Below.refl _ _) 1
  refine wp_region_held_drew (S := Below w1.heap.size w1) (by kernel_rfl) hd1 (fun hHeld => ?_)
  generalize w1.drew = wD at hHeld ⊢
  refine tk (v := ?_) 0 hHeld ?_ ?_
  rotate_left
  · intro w' hSw
    first | (go_simp; done) | (go_simp; with_reducible rfl)
  try simp only [List.set_cons_zero, List.set_cons_succ]
  refine tk (v := ?_) 1 hHeld ?_ ?_
  rotate_left
  · intro w' hSw
    first | (go_simp; done) | (go_simp; with_reducible rfl)
  try simp only [List.set_cons_zero, List.set_cons_succ]
  refine tk (v := ?_) 2 hHeld ?_ ?_
  rotate_left
  · intro w' hSw
    have f3 := (hSw.cell (p := ⟨w.heap.size, 3, none⟩) hNb).trans b3
    first | (go_simp; done) | (go_simp; with_reducible rfl)
  try simp only [List.set_cons_zero, List.set_cons_succ]
  refine tk (v := ?_) 5 hHeld ?_ ?_
  rotate_left
  · intro w' hSw
    first | (go_simp; done) | (go_simp; with_reducible rfl)
  try simp only [List.set_cons_zero, List.set_cons_succ]
  refine tk (v := ?_) 6 hHeld ?_ ?_
  rotate_left
  · intro w' hSw
    first | (go_simp; done) | (go_simp; with_reducible rfl)
  try simp only [List.set_cons_zero, List.set_cons_succ]
  refine tk (v := ?_) 7 hHeld ?_ ?_
  rotate_left
  · intro w' hSw
    have f4 := (hSw.cell (p := ⟨w.heap.size, 4, none⟩) hNb).trans b4
    first | (go_simp; done) | (go_simp; with_reducible rfl)
  try simp only [List.set_cons_zero, List.set_cons_succ]
  refine tk (v := ?_) 8 hHeld ?_ ?_
  rotate_left
  · intro w' hSw
    first | (go_simp; done) | (go_simp; with_reducible rfl)
  try simp only [List.set_cons_zero, List.set_cons_succ]
  refine tk (v := ?_) 12 hHeld ?_ ?_
  rotate_left
  · intro w' hSw
    first | (go_simp; done) | (go_simp; with_reducible rfl)
  try simp only [List.set_cons_zero, List.set_cons_succ]
  refine tk (v := ?_) 13 hHeld ?_ ?_
  rotate_left
  · intro w' hSw
    first | (go_simp; done) | (go_simp; with_reducible rfl)
  try simp only [List.set_cons_zero, List.set_cons_succ]
  refine tk (v := ?_) 14 hHeld ?_ ?_
  rotate_left
  · intro w' hSw
    have f5 := (hSw.cell (p := ⟨w.heap.size, 5, none⟩) hNb).trans b5
    first | (go_simp; done) | (go_simp; with_reducible rfl)
  try simp only [List.set_cons_zero, List.set_cons_succ]
  refine tk (v := ?_) 15 hHeld ?_ ?_
  rotate_left
  · intro w' hSw
    first | (go_simp; done) | (go_simp; with_reducible rfl)
  try simp only [List.set_cons_zero, List.set_cons_succ]
  refine wpAnyH_ready (rs := [3]) (by kernel_rfl) (by simp) ?_
  refine AllReadyH.cons rfl (fun K hK => ?_) AllReadyH.nil
  go_simp
  go_wp2_with (go_at_call 20; (with_reducible refine (HI1.out _ hHeld).mono ?_); rintro e1 w1 ⟨rfl, hB1⟩)
  replace hHeld := hHeld.trans (hB1.mono hHeld.size)
  refine hK.out _ _ hHeld (fun _ => ?_)
  clear hK K hB1
  try simp only [Act.put, List.getElem_toArray, List.getElem_cons_zero, List.getElem_cons_succ, List.setIfInBounds_toArray, List.set_cons_zero, List.set_cons_succ]
  refine tk (v := ?_) 4 hHeld ?_ ?_
  rotate_left
  · intro w' hSw
    first | (go_simp; done) | (go_simp; with_reducible rfl)
  try simp only [List.set_cons_zero, List.set_cons_succ]
  refine wpAnyH_ready (rs := [9]) (by kernel_rfl) (by simp) ?_
  refine AllReadyH.cons rfl (fun K hK => ?_) AllReadyH.nil
  go_simp
  go_wp2_with (go_at_call 20; (with_reducible refine (HI2.out _ hHeld).mono ?_); rintro e1 w1 ⟨rfl, hB1⟩)
  replace hHeld := hHeld.trans (hB1.mono hHeld.size)
  refine hK.out _ _ hHeld (fun _ => ?_)
  clear hK K hB1
  try simp only [Act.put, List.getElem_toArray, List.getElem_cons_zero, List.getElem_cons_succ, List.setIfInBounds_toArray, List.set_cons_zero, List.set_cons_succ]
  refine tk (v := ?_) 10 hHeld ?_ ?_
  rotate_left
  · intro w' hSw
    first | (go_simp; done) | (go_simp; with_reducible rfl)
  try simp only [List.set_cons_zero, List.set_cons_succ]
  refine tk (v := ?_) 11 hHeld ?_ ?_
  rotate_left
  · intro w' hSw
    first | (go_simp; done) | (go_simp; with_reducible rfl)
  try simp only [List.set_cons_zero, List.set_cons_succ]
  refine wpAnyH_ready (rs := [16]) (by kernel_rfl) (by simp) ?_
  refine AllReadyH.cons rfl (fun K hK => ?_) AllReadyH.nil
  go_simp
  go_wp2_with (go_at_call 20; (with_reducible refine (HI3.out _ hHeld).mono ?_); rintro e1 w1 ⟨rfl, hB1⟩)
  replace hHeld := hHeld.trans (hB1.mono hHeld.size)
  refine hK.out _ _ hHeld (fun _ => ?_)
  clear hK K hB1
  try simp only [Act.put, List.getElem_toArray, List.getElem_cons_zero, List.getElem_cons_succ, List.setIfInBounds_toArray, List.set_cons_zero, List.set_cons_succ]
  refine tk (v := ?_) 17 hHeld ?_ ?_
  rotate_left
  · intro w' hSw
    first | (go_simp; done) | (go_simp; with_reducible rfl)
  try simp only [List.set_cons_zero, List.set_cons_succ]
  refine tk (v := ?_) 18 hHeld ?_ ?_
  rotate_left
  · intro w' hSw
    first | (go_simp; done) | (go_simp; with_reducible rfl)
  try simp only [List.set_cons_zero, List.set_cons_succ]
  have HBe := hide (HB1.out.trans (hHeld.mono HB1.out.size))
  have f1 := (hHeld.cell (p := ⟨w.heap.size, 1, none⟩) hNb).trans b1
  refine wpAnyH_done (by kernel_rfl) ?_ _
  try simp only [Act.put, List.getElem_toArray, List.getElem_cons_zero, List.getElem_cons_succ, List.setIfInBounds_toArray, List.set_cons_zero, List.set_cons_succ]
  go_wp2_with fail
  go_ret
  exact ⟨rfl, HBe.out⟩

set_option maxHeartbeats 4000000 in
set_option maxRecDepth 100000 in
theorem line28_4 {S : Nat → Prop} {x : Ph} {p : Pt} {w : World} (hp : PtIn S w x p) (htab : TabP w.heap.size w) (hok : PtOk p) (hk : p.kind = 4) (hlen : (ptB p).length ≤ 549755813888) :
    Calls Tryz.prog 9 #[.agg #[.int .u8 4, .string p.file, .string p.text, .int .i64 p.hunk.at_, .slice x.h.oA p.hunk.old.length x.h.oc, .slice x.h.nA p.hunk.new.length x.h.nc, .int .u8 p.edit.kind, .slice x.e.pA p.edit.path.length x.e.pc, .int .i64 p.edit.at_, .int .i64 p.edit.far, .string p.edit.frm, .string p.edit.to, .slice x.e.oA p.edit.old.len x.e.oc, .slice x.e.nA p.edit.new.len x.e.nc]] w fun e w' => e = .returned (.string ⟨(saidB p).toArray⟩) ∧ Below w.heap.size w w' := by
  have es : (⟨(saidB p).toArray⟩ : ByteArray) = joinS (lineS p) := by unfold saidB; rw [if_pos hok, joinS_line]
  have hroom := line_room hok hlen
  rw [es, lineS_k4 hk, joinS_two _ _ (by simp [tailS])]
  rw [lineS_k4 hk, roomB_cons, roomB_cons] at hroom
  have hjr := joinS_room (tailS p.edit)
  have hfs := hok.1.2.1
  have hed : EdOk p.edit := by
    obtain ⟨_, h | h | h⟩ := hok
    · omega
    · omega
    · exact h.2.2.2
  have hel : (edB p.edit).length ≤ 549755813888 := by
    have : (ptB p).length = 1 + (8 + p.file.size) + (edB p.edit).length := by
      unfold ptB
      rw [if_neg (by omega), if_pos hk]
      have h8 : ∀ n : Int, (num8 n).length = 8 := fun n => rfl
      have hs : p.file.data.toList.length = p.file.size := rfl
      simp only [txtB, List.length_cons, List.length_append, h8, hs]
      omega
    omega
  have Hed := hide hed
  have H := hide hp
  have HT := hide htab
  have HTB := hide (fun (W : World) (hW : Below w.heap.size w W) => (HT.out.below hW).up hW.size)
  obtain ⟨W0, hW0⟩ : ∃ W0, W0 = w.alloc (.cells #[.int .u8 4, .string p.file, .string p.text, .int .i64 p.hunk.at_, .slice x.h.oA p.hunk.old.length x.h.oc, .slice x.h.nA p.hunk.new.length x.h.nc, .int .u8 p.edit.kind, .slice x.e.pA p.edit.path.length x.e.pc, .int .i64 p.edit.at_, .int .i64 p.edit.far, .string p.edit.frm, .string p.edit.to, .slice x.e.oA p.edit.old.len x.e.oc, .slice x.e.nA p.edit.new.len x.e.nc] 37) := ⟨_, rfl⟩
  have hcl0 : CellsL W0 w.heap.size [.int .u8 4, .string p.file, .string p.text, .int .i64 p.hunk.at_, .slice x.h.oA p.hunk.old.length x.h.oc, .slice x.h.nA p.hunk.new.length x.h.nc, .int .u8 p.edit.kind, .slice x.e.pA p.edit.path.length x.e.pc, .int .i64 p.edit.at_, .int .i64 p.edit.far, .string p.edit.frm, .string p.edit.to, .slice x.e.oA p.edit.old.len x.e.oc, .slice x.e.nA p.edit.new.len x.e.nc] := fun j u hu => by rw [hW0, Lib.cell_of_heap (heap_alloc_new w _)]; simpa using hu
  have hBB : Below w.heap.size w W0 := by rw [hW0]; exact below_alloc _ _
  have HB0 := hide hBB
  have HW0 := hide hW0
  have b0 := hcl0 0 _ rfl
  have b1 := hcl0 1 _ rfl
  have b2 := hcl0 2 _ rfl
  have b3 := hcl0 3 _ rfl
  have b4 := hcl0 4 _ rfl
  have b5 := hcl0 5 _ rfl
  have b6 := hcl0 6 _ rfl
  have b7 := hcl0 7 _ rfl
  have b8 := hcl0 8 _ rfl
  have b9 := hcl0 9 _ rfl
  have b10 := hcl0 10 _ rfl
  have b11 := hcl0 11 _ rfl
  have b12 := hcl0 12 _ rfl
  have b13 := hcl0 13 _ rfl
  have hNb : w.heap.size < W0.heap.size := block_lt_of_cell b0
  clear hp htab hW0 hcl0 hBB
  have HR : Hid (∀ W, Below w.heap.size w W → Calls Tryz.prog 19 #[.agg #[.int .u8 4, .string p.file, .string p.text, .int .i64 p.hunk.at_, .slice x.h.oA p.hunk.old.length x.h.oc, .slice x.h.nA p.hunk.new.length x.h.nc, .int .u8 p.edit.kind, .slice x.e.pA p.edit.path.length x.e.pc, .int .i64 p.edit.at_, .int .i64 p.edit.far, .string p.edit.frm, .string p.edit.to, .slice x.e.oA p.edit.old.len x.e.oc, .slice x.e.nA p.edit.new.len x.e.nc]] W fun e w' => e = .returned (.bool true) ∧ Below W.heap.size W w') := hide fun W hW => by
    have h9 := ret_yes (patRight19_any (H.out.below hW)) hok
    rw [hk] at h9
    exact h9
  obtain ⟨wd, hwd⟩ : ∃ wd, wd = wordS p.edit.kind := ⟨_, rfl⟩
  obtain ⟨r, hr⟩ : ∃ r, r = joinS (tailS p.edit) := ⟨_, rfl⟩
  have HE : Hid (∀ W, Below w.heap.size w W → Calls Tryz.prog 21 #[.agg #[.int .u8 p.edit.kind, .slice x.e.pA p.edit.path.length x.e.pc, .int .i64 p.edit.at_, .int .i64 p.edit.far, .string p.edit.frm, .string p.edit.to, .slice x.e.oA p.edit.old.len x.e.oc, .slice x.e.nA p.edit.new.len x.e.nc]] W fun e w' => e = .returned (.tuple #[.string wd, .string r]) ∧ Below W.heap.size W w') := hide fun W hW => by rw [hwd, hr]; exact edit28_any (H.out.edit.below hW) Hed.out hel (HTB.out W hW)
  have hws : wd.size ≤ 7 := by rw [hwd]; exact wordS_l _
  rw [← hr] at hjr
  rw [← hwd, ← hr]
  have z1 : ¬ 9223372036854775807 < wd.size + 1 := by omega
  have z2 : ¬ 9223372036854775807 < wd.size + 1 + p.file.size := by omega
  have z3 : ¬ 9223372036854775807 < wd.size + 1 + p.file.size + 1 := by omega
  have z4 : ¬ 9223372036854775807 < wd.size + 1 + p.file.size + 1 + r.size := by omega
  clear hr hwd es hed hroom
  go_enter Tryz.func9, Tryz.ntmps9
  go_upto_region 1 with fail
  change Code.wp _ _ _ _ (w.alloc (.cells #[.int .u8 4, .string p.file, .string p.text, .int .i64 p.hunk.at_, .slice x.h.oA p.hunk.old.length x.h.oc, .slice x.h.nA p.hunk.new.length x.h.nc, .int .u8 p.edit.kind, .slice x.e.pA p.edit.path.length x.e.pc, .int .i64 p.edit.at_, .int .i64 p.edit.far, .string p.edit.frm, .string p.edit.to, .slice x.e.oA p.edit.old.len x.e.oc, .slice x.e.nA p.edit.new.len x.e.nc] 37))
  rw [← HW0.out]
  clear HW0
  go_wp2_with (first
    | (go_at_call 19; (with_reducible refine (HR.out _ HB0.out).mono ?_); rintro e1 w1 ⟨rfl, hB⟩; have HB1 := hide (HB0.out.trans (hB.mono HB0.out.size)); replace b0 := (hB.cell (p := ⟨w.heap.size, 0, none⟩) hNb).trans b0; replace b1 := (hB.cell (p := ⟨w.heap.size, 1, none⟩) hNb).trans b1; replace b2 := (hB.cell (p := ⟨w.heap.size, 2, none⟩) hNb).trans b2; replace b3 := (hB.cell (p := ⟨w.heap.size, 3, none⟩) hNb).trans b3; replace b4 := (hB.cell (p := ⟨w.heap.size, 4, none⟩) hNb).trans b4; replace b5 := (hB.cell (p := ⟨w.heap.size, 5, none⟩) hNb).trans b5; replace b6 := (hB.cell (p := ⟨w.heap.size, 6, none⟩) hNb).trans b6; replace b7 := (hB.cell (p := ⟨w.heap.size, 7, none⟩) hNb).trans b7; replace b8 := (hB.cell (p := ⟨w.heap.size, 8, none⟩) hNb).trans b8; replace b9 := (hB.cell (p := ⟨w.heap.size, 9, none⟩) hNb).trans b9; replace b10 := (hB.cell (p := ⟨w.heap.size, 10, none⟩) hNb).trans b10; replace b11 := (hB.cell (p := ⟨w.heap.size, 11, none⟩) hNb).trans b11; replace b12 := (hB.cell (p := ⟨w.heap.size, 12, none⟩) hNb).trans b12; replace b13 := (hB.cell (p := ⟨w.heap.size, 13, none⟩) hNb).trans b13; replace hNb := Nat.lt_of_lt_of_le hNb hB.size; clear hB)
    | (go_at_call 21; (with_reducible refine (HE.out _ HB1.out).mono ?_); rintro e2 w2 ⟨rfl, hB⟩; have HB2 := hide (HB1.out.trans (hB.mono HB1.out.size)); replace b0 := (hB.cell (p := ⟨w.heap.size, 0, none⟩) hNb).trans b0; replace b1 := (hB.cell (p := ⟨w.heap.size, 1, none⟩) hNb).trans b1; replace b2 := (hB.cell (p := ⟨w.heap.size, 2, none⟩) hNb).trans b2; replace b3 := (hB.cell (p := ⟨w.heap.size, 3, none⟩) hNb).trans b3; replace b4 := (hB.cell (p := ⟨w.heap.size, 4, none⟩) hNb).trans b4; replace b5 := (hB.cell (p := ⟨w.heap.size, 5, none⟩) hNb).trans b5; replace b6 := (hB.cell (p := ⟨w.heap.size, 6, none⟩) hNb).trans b6; replace b7 := (hB.cell (p := ⟨w.heap.size, 7, none⟩) hNb).trans b7; replace b8 := (hB.cell (p := ⟨w.heap.size, 8, none⟩) hNb).trans b8; replace b9 := (hB.cell (p := ⟨w.heap.size, 9, none⟩) hNb).trans b9; replace b10 := (hB.cell (p := ⟨w.heap.size, 10, none⟩) hNb).trans b10; replace b11 := (hB.cell (p := ⟨w.heap.size, 11, none⟩) hNb).trans b11; replace b12 := (hB.cell (p := ⟨w.heap.size, 12, none⟩) hNb).trans b12; replace b13 := (hB.cell (p := ⟨w.heap.size, 13, none⟩) hNb).trans b13; replace hNb := Nat.lt_of_lt_of_le hNb hB.size; clear hB))
  go_ret
  exact ⟨rfl, HB2.out⟩

theorem line28_any {S : Nat → Prop} {x : Ph} {p : Pt} {w : World} (hp : PtIn S w x p) (htab : TabP w.heap.size w) (hlen : (ptB p).length ≤ 549755813888) :
    Calls Tryz.prog 9 #[.agg #[.int .u8 p.kind, .string p.file, .string p.text, .int .i64 p.hunk.at_, .slice x.h.oA p.hunk.old.length x.h.oc, .slice x.h.nA p.hunk.new.length x.h.nc, .int .u8 p.edit.kind, .slice x.e.pA p.edit.path.length x.e.pc, .int .i64 p.edit.at_, .int .i64 p.edit.far, .string p.edit.frm, .string p.edit.to, .slice x.e.oA p.edit.old.len x.e.oc, .slice x.e.nA p.edit.new.len x.e.nc]] w fun e w' => e = .returned (.string ⟨(saidB p).toArray⟩) ∧ Below w.heap.size w w' := by
  by_cases hok : PtOk p
  · have hk : p.kind = 1 ∨ p.kind = 2 ∨ p.kind = 3 ∨ p.kind = 4 := by
      obtain ⟨_, h | h | h⟩ := hok <;> omega
    rcases hk with hk | hk | hk | hk
    · have h9 := line28_1 hp htab hok hk hlen
      rw [hk]
      exact h9
    · have h9 := line28_2 hp htab hok hk hlen
      rw [hk]
      exact h9
    · have h9 := line28_3 hp htab hok hk hlen
      rw [hk]
      exact h9
    · have h9 := line28_4 hp htab hok hk hlen
      rw [hk]
      exact h9
  · exact line28_0 hp htab hok

end Go.Proofs.YtadilmijppdpoaaGreatDoor
