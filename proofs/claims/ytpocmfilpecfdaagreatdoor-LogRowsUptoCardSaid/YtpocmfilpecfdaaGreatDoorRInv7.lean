/- A patch inverted. Printed by gen_inv.py. -/
import Derived.Test.YtpocmfilpecfdaaGreatDoorRInv2
import Derived.Test.YtpocmfilpecfdaaGreatDoorRPatRight

set_option linter.unusedVariables false
set_option linter.unusedSimpArgs false

namespace Go.Proofs.YtpocmfilpecfdaaGreatDoor
open Go.RowKit

set_option maxHeartbeats 4000000 in
set_option maxRecDepth 1000000 in
theorem patInvert_1 {S : Nat → Prop} {x : Ph} {file text : ByteArray} {h : Hk} {e : Ed} {w : World} (H : PtIn S w x ⟨1, file, text, h, e⟩) (htab : TabOk w) (hsum : e.frm.size + e.to.size ≤ 9223372036854775807)
    (hok : PtOk ⟨1, file, text, h, e⟩) (hS : ∀ b, w.heap.size ≤ b → S b) :
    Calls Tryz.prog 9 #[.agg #[.int .u8 1, .string file, .string text, .int .i64 h.at_, .slice x.h.oA h.old.length x.h.oc, .slice x.h.nA h.new.length x.h.nc, .int .u8 e.kind, .slice x.e.pA e.path.length x.e.pc, .int .i64 e.at_, .int .i64 e.far, .string e.frm, .string e.to, .slice x.e.oA e.old.len x.e.oc, .slice x.e.nA e.new.len x.e.nc]] w fun e1 w' =>
      (∃ y : Ph, e1 = .returned (.agg #[.int .u8 2, .string file, .string text, .int .i64 h.at_, .slice y.h.oA h.old.length y.h.oc, .slice y.h.nA h.new.length y.h.nc, .int .u8 e.kind, .slice y.e.pA e.path.length y.e.pc, .int .i64 e.at_, .int .i64 e.far, .string e.frm, .string e.to, .slice y.e.oA e.old.len y.e.oc, .slice y.e.nA e.new.len y.e.nc]) ∧ PtIn S w' y ⟨2, file, text, h, e⟩) ∧ Below w.heap.size w w' := by
  have E0 := hide (H.mono (S' := Free S w.heap.size) (fun b hb h => ⟨h, by omega, by omega⟩))
  have HS := hide hS
  have Htab := hide htab
  have HR : Hid (∀ W : World, Below w.heap.size w W → Calls Tryz.prog 8 #[.agg #[.int .u8 1, .string file, .string text, .int .i64 h.at_, .slice x.h.oA h.old.length x.h.oc, .slice x.h.nA h.new.length x.h.nc, .int .u8 e.kind, .slice x.e.pA e.path.length x.e.pc, .int .i64 e.at_, .int .i64 e.far, .string e.frm, .string e.to, .slice x.e.oA e.old.len x.e.oc, .slice x.e.nA e.new.len x.e.nc]] W fun e1 w' => e1 = .returned (.bool true) ∧ Below W.heap.size W w') :=
    hide (fun W hW => right_yes (x := x) (p := ⟨1, file, text, h, e⟩) (E0.out.below hW) (Htab.out.below hW) hsum hok)
  clear H htab hS
  go_enter Tryz.func9, Tryz.ntmps9
  go_upto_region 4 with (go_at_call 8; (with_reducible refine (HR.out _ (below2 _ _)).mono ?_); rintro e1 w1 ⟨rfl, hB⟩; obtain ⟨hx1, hf1, hz1⟩ := bbox (N := w.heap.size) hB (by simp <;> omega); obtain ⟨hy1, hg1, hu1⟩ := bbox (N := w.heap.size + 1) hB (by simp <;> omega); have HB1 : Hid (Below w.heap.size w w1) := hide (blw_up2 hB); clear hB)
  have hcN : Cells w1 w.heap.size [.int .u8 1, .string file, .string text, .int .i64 h.at_, .slice x.h.oA h.old.length x.h.oc, .slice x.h.nA h.new.length x.h.nc, .int .u8 e.kind, .slice x.e.pA e.path.length x.e.pc, .int .i64 e.at_, .int .i64 e.far, .string e.frm, .string e.to, .slice x.e.oA e.old.len x.e.oc, .slice x.e.nA e.new.len x.e.nc] := (cells_first w #[.int .u8 1, .string file, .string text, .int .i64 h.at_, .slice x.h.oA h.old.length x.h.oc, .slice x.h.nA h.new.length x.h.nc, .int .u8 e.kind, .slice x.e.pA e.path.length x.e.pc, .int .i64 e.at_, .int .i64 e.far, .string e.frm, .string e.to, .slice x.e.oA e.old.len x.e.oc, .slice x.e.nA e.new.len x.e.nc] _ _ _).of_eq hx1
  have hcR : Cells w1 (w.heap.size + 1) [.int .u8 0, .string ByteArray.empty, .string ByteArray.empty, .int .i64 0, .slice none 0 0, .slice none 0 0, .int .u8 0, .slice none 0 0, .int .i64 0, .int .i64 0, .string ByteArray.empty, .string ByteArray.empty, .slice none 0 0, .slice none 0 0] := (cells_second w _ #[.int .u8 0, .string ByteArray.empty, .string ByteArray.empty, .int .i64 0, .slice none 0 0, .slice none 0 0, .int .u8 0, .slice none 0 0, .int .i64 0, .int .i64 0, .string ByteArray.empty, .string ByteArray.empty, .slice none 0 0, .slice none 0 0] _).of_eq hy1
  have hfN : ∀ o, w1.frozen? ⟨w.heap.size, o, none⟩ = false := fun o => (hf1 o).trans (World.frozen?_alloc2_first _ _ _ _)
  have hfR : ∀ o, w1.frozen? ⟨w.heap.size + 1, o, none⟩ = false := fun o => (hg1 o).trans (World.frozen?_alloc2_new _ _ _ _)
  have HcN := hide hcN
  have HcR := hide hcR
  clear hcN hcR hx1 hy1 hf1 hg1
  have b0 := HcN.out 0 _ rfl
  have b1 := HcN.out 1 _ rfl
  have b2 := HcN.out 2 _ rfl
  have b3 := HcN.out 3 _ rfl
  have b4 := HcN.out 4 _ rfl
  have b5 := HcN.out 5 _ rfl
  have b6 := HcN.out 6 _ rfl
  have b7 := HcN.out 7 _ rfl
  have b8 := HcN.out 8 _ rfl
  have b9 := HcN.out 9 _ rfl
  have b10 := HcN.out 10 _ rfl
  have b11 := HcN.out 11 _ rfl
  have b12 := HcN.out 12 _ rfl
  have b13 := HcN.out 13 _ rfl
  have r0 := HcR.out 0 _ rfl
  have r1 := HcR.out 1 _ rfl
  have r2 := HcR.out 2 _ rfl
  have r3 := HcR.out 3 _ rfl
  have r4 := HcR.out 4 _ rfl
  have r5 := HcR.out 5 _ rfl
  have r6 := HcR.out 6 _ rfl
  have r7 := HcR.out 7 _ rfl
  have r8 := HcR.out 8 _ rfl
  have r9 := HcR.out 9 _ rfl
  have r10 := HcR.out 10 _ rfl
  have r11 := HcR.out 11 _ rfl
  have r12 := HcR.out 12 _ rfl
  have r13 := HcR.out 13 _ rfl
  have az : ∀ v, (w1.setCell ⟨w.heap.size, 0, none⟩ v).cell? ⟨w.heap.size, 0, none⟩ = some v := fun v => World.cell?_setCell_same _ _ _ b0
  go_wp2_with fail
  obtain ⟨wk, hGk, hck, hok2, hkk, hfk, hsk⟩ := puts HcN.out 0 [.int .u8 2] (by simp)
  simp only [World.setCells, Nat.reduceAdd] at hGk
  rw [← hGk]
  have HGk := hide hGk
  clear hGk
  have Hck : Hid (Cells wk w.heap.size [.int .u8 2, .string file, .string text, .int .i64 h.at_, .slice x.h.oA h.old.length x.h.oc, .slice x.h.nA h.new.length x.h.nc, .int .u8 e.kind, .slice x.e.pA e.path.length x.e.pc, .int .i64 e.at_, .int .i64 e.far, .string e.frm, .string e.to, .slice x.e.oA e.old.len x.e.oc, .slice x.e.nA e.new.len x.e.nc]) := hide hck
  have Hrk : Hid (Cells wk (w.heap.size + 1) [.int .u8 0, .string ByteArray.empty, .string ByteArray.empty, .int .i64 0, .slice none 0 0, .slice none 0 0, .int .u8 0, .slice none 0 0, .int .i64 0, .int .i64 0, .string ByteArray.empty, .string ByteArray.empty, .slice none 0 0, .slice none 0 0]) := hide (HcR.out.of_eq (hok2 _ (by omega)))
  obtain ⟨wF, hF, hcF, hoF, hkF, hfF, hsF⟩ := puts Hrk.out 0 [.int .u8 2, .string file, .string text, .int .i64 h.at_, .slice x.h.oA h.old.length x.h.oc, .slice x.h.nA h.new.length x.h.nc, .int .u8 e.kind, .slice x.e.pA e.path.length x.e.pc, .int .i64 e.at_, .int .i64 e.far, .string e.frm, .string e.to, .slice x.e.oA e.old.len x.e.oc, .slice x.e.nA e.new.len x.e.nc] (by simp)
  simp only [World.setCells, Nat.zero_add, Nat.reduceAdd] at hF
  rw [← hF]
  have HF := hide hF
  clear hF
  have f0 := hcF 0 _ rfl
  have f1 := hcF 1 _ rfl
  have f2 := hcF 2 _ rfl
  have f3 := hcF 3 _ rfl
  have f4 := hcF 4 _ rfl
  have f5 := hcF 5 _ rfl
  have f6 := hcF 6 _ rfl
  have f7 := hcF 7 _ rfl
  have f8 := hcF 8 _ rfl
  have f9 := hcF 9 _ rfl
  have f10 := hcF 10 _ rfl
  have f11 := hcF 11 _ rfl
  have f12 := hcF 12 _ rfl
  have f13 := hcF 13 _ rfl
  refine bodyPost_ret (v := .agg #[.int .u8 2, .string file, .string text, .int .i64 h.at_, .slice x.h.oA h.old.length x.h.oc, .slice x.h.nA h.new.length x.h.nc, .int .u8 e.kind, .slice x.e.pA e.path.length x.e.pc, .int .i64 e.at_, .int .i64 e.far, .string e.frm, .string e.to, .slice x.e.oA e.old.len x.e.oc, .slice x.e.nA e.new.len x.e.nc]) ?_ rfl ?_
  · simp only [results, Tryz.results9]
    go_simp
  · exact ⟨⟨x, rfl, ⟨(by show (2 : Nat) < 256; omega), E0.out.file, E0.out.text, ((E0.out.hunk.below HB1.out).apart (((Apart.refl _ _).puts hkk (.inl rfl)).puts hkF (.inr rfl))).mono (fun _ _ h => h.1), ((E0.out.edit.below HB1.out).apart (((Apart.refl _ _).puts hkk (.inl rfl)).puts hkF (.inr rfl))).mono (fun _ _ h => h.1)⟩⟩, (HB1.out.trans (hkk (fun b => b < w.heap.size) (by simp)).below).trans (hkF (fun b => b < w.heap.size) (by simp)).below⟩

set_option maxHeartbeats 4000000 in
set_option maxRecDepth 1000000 in
theorem patInvert_2 {S : Nat → Prop} {x : Ph} {file text : ByteArray} {h : Hk} {e : Ed} {w : World} (H : PtIn S w x ⟨2, file, text, h, e⟩) (htab : TabOk w) (hsum : e.frm.size + e.to.size ≤ 9223372036854775807)
    (hok : PtOk ⟨2, file, text, h, e⟩) (hS : ∀ b, w.heap.size ≤ b → S b) :
    Calls Tryz.prog 9 #[.agg #[.int .u8 2, .string file, .string text, .int .i64 h.at_, .slice x.h.oA h.old.length x.h.oc, .slice x.h.nA h.new.length x.h.nc, .int .u8 e.kind, .slice x.e.pA e.path.length x.e.pc, .int .i64 e.at_, .int .i64 e.far, .string e.frm, .string e.to, .slice x.e.oA e.old.len x.e.oc, .slice x.e.nA e.new.len x.e.nc]] w fun e1 w' =>
      (∃ y : Ph, e1 = .returned (.agg #[.int .u8 1, .string file, .string text, .int .i64 h.at_, .slice y.h.oA h.old.length y.h.oc, .slice y.h.nA h.new.length y.h.nc, .int .u8 e.kind, .slice y.e.pA e.path.length y.e.pc, .int .i64 e.at_, .int .i64 e.far, .string e.frm, .string e.to, .slice y.e.oA e.old.len y.e.oc, .slice y.e.nA e.new.len y.e.nc]) ∧ PtIn S w' y ⟨1, file, text, h, e⟩) ∧ Below w.heap.size w w' := by
  have E0 := hide (H.mono (S' := Free S w.heap.size) (fun b hb h => ⟨h, by omega, by omega⟩))
  have HS := hide hS
  have Htab := hide htab
  have HR : Hid (∀ W : World, Below w.heap.size w W → Calls Tryz.prog 8 #[.agg #[.int .u8 2, .string file, .string text, .int .i64 h.at_, .slice x.h.oA h.old.length x.h.oc, .slice x.h.nA h.new.length x.h.nc, .int .u8 e.kind, .slice x.e.pA e.path.length x.e.pc, .int .i64 e.at_, .int .i64 e.far, .string e.frm, .string e.to, .slice x.e.oA e.old.len x.e.oc, .slice x.e.nA e.new.len x.e.nc]] W fun e1 w' => e1 = .returned (.bool true) ∧ Below W.heap.size W w') :=
    hide (fun W hW => right_yes (x := x) (p := ⟨2, file, text, h, e⟩) (E0.out.below hW) (Htab.out.below hW) hsum hok)
  clear H htab hS
  go_enter Tryz.func9, Tryz.ntmps9
  go_upto_region 4 with (go_at_call 8; (with_reducible refine (HR.out _ (below2 _ _)).mono ?_); rintro e1 w1 ⟨rfl, hB⟩; obtain ⟨hx1, hf1, hz1⟩ := bbox (N := w.heap.size) hB (by simp <;> omega); obtain ⟨hy1, hg1, hu1⟩ := bbox (N := w.heap.size + 1) hB (by simp <;> omega); have HB1 : Hid (Below w.heap.size w w1) := hide (blw_up2 hB); clear hB)
  have hcN : Cells w1 w.heap.size [.int .u8 2, .string file, .string text, .int .i64 h.at_, .slice x.h.oA h.old.length x.h.oc, .slice x.h.nA h.new.length x.h.nc, .int .u8 e.kind, .slice x.e.pA e.path.length x.e.pc, .int .i64 e.at_, .int .i64 e.far, .string e.frm, .string e.to, .slice x.e.oA e.old.len x.e.oc, .slice x.e.nA e.new.len x.e.nc] := (cells_first w #[.int .u8 2, .string file, .string text, .int .i64 h.at_, .slice x.h.oA h.old.length x.h.oc, .slice x.h.nA h.new.length x.h.nc, .int .u8 e.kind, .slice x.e.pA e.path.length x.e.pc, .int .i64 e.at_, .int .i64 e.far, .string e.frm, .string e.to, .slice x.e.oA e.old.len x.e.oc, .slice x.e.nA e.new.len x.e.nc] _ _ _).of_eq hx1
  have hcR : Cells w1 (w.heap.size + 1) [.int .u8 0, .string ByteArray.empty, .string ByteArray.empty, .int .i64 0, .slice none 0 0, .slice none 0 0, .int .u8 0, .slice none 0 0, .int .i64 0, .int .i64 0, .string ByteArray.empty, .string ByteArray.empty, .slice none 0 0, .slice none 0 0] := (cells_second w _ #[.int .u8 0, .string ByteArray.empty, .string ByteArray.empty, .int .i64 0, .slice none 0 0, .slice none 0 0, .int .u8 0, .slice none 0 0, .int .i64 0, .int .i64 0, .string ByteArray.empty, .string ByteArray.empty, .slice none 0 0, .slice none 0 0] _).of_eq hy1
  have hfN : ∀ o, w1.frozen? ⟨w.heap.size, o, none⟩ = false := fun o => (hf1 o).trans (World.frozen?_alloc2_first _ _ _ _)
  have hfR : ∀ o, w1.frozen? ⟨w.heap.size + 1, o, none⟩ = false := fun o => (hg1 o).trans (World.frozen?_alloc2_new _ _ _ _)
  have HcN := hide hcN
  have HcR := hide hcR
  clear hcN hcR hx1 hy1 hf1 hg1
  have b0 := HcN.out 0 _ rfl
  have b1 := HcN.out 1 _ rfl
  have b2 := HcN.out 2 _ rfl
  have b3 := HcN.out 3 _ rfl
  have b4 := HcN.out 4 _ rfl
  have b5 := HcN.out 5 _ rfl
  have b6 := HcN.out 6 _ rfl
  have b7 := HcN.out 7 _ rfl
  have b8 := HcN.out 8 _ rfl
  have b9 := HcN.out 9 _ rfl
  have b10 := HcN.out 10 _ rfl
  have b11 := HcN.out 11 _ rfl
  have b12 := HcN.out 12 _ rfl
  have b13 := HcN.out 13 _ rfl
  have r0 := HcR.out 0 _ rfl
  have r1 := HcR.out 1 _ rfl
  have r2 := HcR.out 2 _ rfl
  have r3 := HcR.out 3 _ rfl
  have r4 := HcR.out 4 _ rfl
  have r5 := HcR.out 5 _ rfl
  have r6 := HcR.out 6 _ rfl
  have r7 := HcR.out 7 _ rfl
  have r8 := HcR.out 8 _ rfl
  have r9 := HcR.out 9 _ rfl
  have r10 := HcR.out 10 _ rfl
  have r11 := HcR.out 11 _ rfl
  have r12 := HcR.out 12 _ rfl
  have r13 := HcR.out 13 _ rfl
  have az : ∀ v, (w1.setCell ⟨w.heap.size, 0, none⟩ v).cell? ⟨w.heap.size, 0, none⟩ = some v := fun v => World.cell?_setCell_same _ _ _ b0
  go_wp2_with fail
  obtain ⟨wk, hGk, hck, hok2, hkk, hfk, hsk⟩ := puts HcN.out 0 [.int .u8 1] (by simp)
  simp only [World.setCells, Nat.reduceAdd] at hGk
  rw [← hGk]
  have HGk := hide hGk
  clear hGk
  have Hck : Hid (Cells wk w.heap.size [.int .u8 1, .string file, .string text, .int .i64 h.at_, .slice x.h.oA h.old.length x.h.oc, .slice x.h.nA h.new.length x.h.nc, .int .u8 e.kind, .slice x.e.pA e.path.length x.e.pc, .int .i64 e.at_, .int .i64 e.far, .string e.frm, .string e.to, .slice x.e.oA e.old.len x.e.oc, .slice x.e.nA e.new.len x.e.nc]) := hide hck
  have Hrk : Hid (Cells wk (w.heap.size + 1) [.int .u8 0, .string ByteArray.empty, .string ByteArray.empty, .int .i64 0, .slice none 0 0, .slice none 0 0, .int .u8 0, .slice none 0 0, .int .i64 0, .int .i64 0, .string ByteArray.empty, .string ByteArray.empty, .slice none 0 0, .slice none 0 0]) := hide (HcR.out.of_eq (hok2 _ (by omega)))
  obtain ⟨wF, hF, hcF, hoF, hkF, hfF, hsF⟩ := puts Hrk.out 0 [.int .u8 1, .string file, .string text, .int .i64 h.at_, .slice x.h.oA h.old.length x.h.oc, .slice x.h.nA h.new.length x.h.nc, .int .u8 e.kind, .slice x.e.pA e.path.length x.e.pc, .int .i64 e.at_, .int .i64 e.far, .string e.frm, .string e.to, .slice x.e.oA e.old.len x.e.oc, .slice x.e.nA e.new.len x.e.nc] (by simp)
  simp only [World.setCells, Nat.zero_add, Nat.reduceAdd] at hF
  rw [← hF]
  have HF := hide hF
  clear hF
  have f0 := hcF 0 _ rfl
  have f1 := hcF 1 _ rfl
  have f2 := hcF 2 _ rfl
  have f3 := hcF 3 _ rfl
  have f4 := hcF 4 _ rfl
  have f5 := hcF 5 _ rfl
  have f6 := hcF 6 _ rfl
  have f7 := hcF 7 _ rfl
  have f8 := hcF 8 _ rfl
  have f9 := hcF 9 _ rfl
  have f10 := hcF 10 _ rfl
  have f11 := hcF 11 _ rfl
  have f12 := hcF 12 _ rfl
  have f13 := hcF 13 _ rfl
  refine bodyPost_ret (v := .agg #[.int .u8 1, .string file, .string text, .int .i64 h.at_, .slice x.h.oA h.old.length x.h.oc, .slice x.h.nA h.new.length x.h.nc, .int .u8 e.kind, .slice x.e.pA e.path.length x.e.pc, .int .i64 e.at_, .int .i64 e.far, .string e.frm, .string e.to, .slice x.e.oA e.old.len x.e.oc, .slice x.e.nA e.new.len x.e.nc]) ?_ rfl ?_
  · simp only [results, Tryz.results9]
    go_simp
  · exact ⟨⟨x, rfl, ⟨(by show (1 : Nat) < 256; omega), E0.out.file, E0.out.text, ((E0.out.hunk.below HB1.out).apart (((Apart.refl _ _).puts hkk (.inl rfl)).puts hkF (.inr rfl))).mono (fun _ _ h => h.1), ((E0.out.edit.below HB1.out).apart (((Apart.refl _ _).puts hkk (.inl rfl)).puts hkF (.inr rfl))).mono (fun _ _ h => h.1)⟩⟩, (HB1.out.trans (hkk (fun b => b < w.heap.size) (by simp)).below).trans (hkF (fun b => b < w.heap.size) (by simp)).below⟩

end Go.Proofs.YtpocmfilpecfdaaGreatDoor

namespace Go.Proofs.YtpocmfilpecfdaaGreatDoor
open Go.RowKit

set_option maxHeartbeats 4000000 in
set_option maxRecDepth 1000000 in
theorem patInvert_3 {S : Nat → Prop} {x : Ph} {file text : ByteArray} {h : Hk} {e : Ed} {w : World} (H : PtIn S w x ⟨3, file, text, h, e⟩) (htab : TabOk w) (hsum : e.frm.size + e.to.size ≤ 9223372036854775807)
    (hok : PtOk ⟨3, file, text, h, e⟩) (hl1 : h.old.length ≤ 549755813888) (hl2 : h.new.length ≤ 549755813888) (hS : ∀ b, w.heap.size ≤ b → S b) :
    Calls Tryz.prog 9 #[.agg #[.int .u8 3, .string file, .string text, .int .i64 h.at_, .slice x.h.oA h.old.length x.h.oc, .slice x.h.nA h.new.length x.h.nc, .int .u8 e.kind, .slice x.e.pA e.path.length x.e.pc, .int .i64 e.at_, .int .i64 e.far, .string e.frm, .string e.to, .slice x.e.oA e.old.len x.e.oc, .slice x.e.nA e.new.len x.e.nc]] w fun e1 w' =>
      (∃ y : Ph, e1 = .returned (.agg #[.int .u8 3, .string file, .string text, .int .i64 h.at_, .slice y.h.oA h.new.length y.h.oc, .slice y.h.nA h.old.length y.h.nc, .int .u8 e.kind, .slice y.e.pA e.path.length y.e.pc, .int .i64 e.at_, .int .i64 e.far, .string e.frm, .string e.to, .slice y.e.oA e.old.len y.e.oc, .slice y.e.nA e.new.len y.e.nc]) ∧ PtIn S w' y ⟨3, file, text, ⟨h.at_, h.new, h.old⟩, e⟩) ∧ Below w.heap.size w w' := by
  have E0 := hide (H.mono (S' := Free S w.heap.size) (fun b hb h => ⟨h, by omega, by omega⟩))
  have HS := hide hS
  have Htab := hide htab
  have HR : Hid (∀ W : World, Below w.heap.size w W → Calls Tryz.prog 8 #[.agg #[.int .u8 3, .string file, .string text, .int .i64 h.at_, .slice x.h.oA h.old.length x.h.oc, .slice x.h.nA h.new.length x.h.nc, .int .u8 e.kind, .slice x.e.pA e.path.length x.e.pc, .int .i64 e.at_, .int .i64 e.far, .string e.frm, .string e.to, .slice x.e.oA e.old.len x.e.oc, .slice x.e.nA e.new.len x.e.nc]] W fun e1 w' => e1 = .returned (.bool true) ∧ Below W.heap.size W w') :=
    hide (fun W hW => right_yes (x := x) (p := ⟨3, file, text, h, e⟩) (E0.out.below hW) (Htab.out.below hW) hsum hok)
  clear H htab hS
  go_enter Tryz.func9, Tryz.ntmps9
  go_upto_region 4 with (go_at_call 8; (with_reducible refine (HR.out _ (below2 _ _)).mono ?_); rintro e1 w1 ⟨rfl, hB⟩; obtain ⟨hx1, hf1, hz1⟩ := bbox (N := w.heap.size) hB (by simp <;> omega); obtain ⟨hy1, hg1, hu1⟩ := bbox (N := w.heap.size + 1) hB (by simp <;> omega); have HB1 : Hid (Below w.heap.size w w1) := hide (blw_up2 hB); clear hB)
  have hcN : Cells w1 w.heap.size [.int .u8 3, .string file, .string text, .int .i64 h.at_, .slice x.h.oA h.old.length x.h.oc, .slice x.h.nA h.new.length x.h.nc, .int .u8 e.kind, .slice x.e.pA e.path.length x.e.pc, .int .i64 e.at_, .int .i64 e.far, .string e.frm, .string e.to, .slice x.e.oA e.old.len x.e.oc, .slice x.e.nA e.new.len x.e.nc] := (cells_first w #[.int .u8 3, .string file, .string text, .int .i64 h.at_, .slice x.h.oA h.old.length x.h.oc, .slice x.h.nA h.new.length x.h.nc, .int .u8 e.kind, .slice x.e.pA e.path.length x.e.pc, .int .i64 e.at_, .int .i64 e.far, .string e.frm, .string e.to, .slice x.e.oA e.old.len x.e.oc, .slice x.e.nA e.new.len x.e.nc] _ _ _).of_eq hx1
  have hcR : Cells w1 (w.heap.size + 1) [.int .u8 0, .string ByteArray.empty, .string ByteArray.empty, .int .i64 0, .slice none 0 0, .slice none 0 0, .int .u8 0, .slice none 0 0, .int .i64 0, .int .i64 0, .string ByteArray.empty, .string ByteArray.empty, .slice none 0 0, .slice none 0 0] := (cells_second w _ #[.int .u8 0, .string ByteArray.empty, .string ByteArray.empty, .int .i64 0, .slice none 0 0, .slice none 0 0, .int .u8 0, .slice none 0 0, .int .i64 0, .int .i64 0, .string ByteArray.empty, .string ByteArray.empty, .slice none 0 0, .slice none 0 0] _).of_eq hy1
  have hfN : ∀ o, w1.frozen? ⟨w.heap.size, o, none⟩ = false := fun o => (hf1 o).trans (World.frozen?_alloc2_first _ _ _ _)
  have hfR : ∀ o, w1.frozen? ⟨w.heap.size + 1, o, none⟩ = false := fun o => (hg1 o).trans (World.frozen?_alloc2_new _ _ _ _)
  have HcN := hide hcN
  have HcR := hide hcR
  clear hcN hcR hx1 hy1 hf1 hg1
  have b0 := HcN.out 0 _ rfl
  have b1 := HcN.out 1 _ rfl
  have b2 := HcN.out 2 _ rfl
  have b3 := HcN.out 3 _ rfl
  have b4 := HcN.out 4 _ rfl
  have b5 := HcN.out 5 _ rfl
  have b6 := HcN.out 6 _ rfl
  have b7 := HcN.out 7 _ rfl
  have b8 := HcN.out 8 _ rfl
  have b9 := HcN.out 9 _ rfl
  have b10 := HcN.out 10 _ rfl
  have b11 := HcN.out 11 _ rfl
  have b12 := HcN.out 12 _ rfl
  have b13 := HcN.out 13 _ rfl
  have r0 := HcR.out 0 _ rfl
  have r1 := HcR.out 1 _ rfl
  have r2 := HcR.out 2 _ rfl
  have r3 := HcR.out 3 _ rfl
  have r4 := HcR.out 4 _ rfl
  have r5 := HcR.out 5 _ rfl
  have r6 := HcR.out 6 _ rfl
  have r7 := HcR.out 7 _ rfl
  have r8 := HcR.out 8 _ rfl
  have r9 := HcR.out 9 _ rfl
  have r10 := HcR.out 10 _ rfl
  have r11 := HcR.out 11 _ rfl
  have r12 := HcR.out 12 _ rfl
  have r13 := HcR.out 13 _ rfl
  go_upto_region 12 with (go_at_call 20; (with_reducible refine (hunkInvert_any (S := Free S w.heap.size) (x := x.h) (h := h) (E0.out.hunk.below HB1.out) hl1 hl2 (by intro b hb; exact ⟨HS.out b (by omega), by omega, by omega⟩)).mono ?_); rintro e2 w2 ⟨⟨y3, rfl, hin⟩, hB⟩; obtain ⟨hx2, hf2, hz2⟩ := bbox (N := w.heap.size) hB hz1; obtain ⟨hy2, hg2, hu2⟩ := bbox (N := w.heap.size + 1) hB hu1; have HB2 : Hid (Below w.heap.size w w2) := hide (blw_up HB1.out hB); have HV2 := hide hB; have HI2 := hide hin; clear hB hin)
  obtain ⟨wk, hGk, hck, hok2, hkk, hfk, hsk⟩ := puts (HcN.out.of_eq hx2) 3 [.int .i64 h.at_, .slice y3.oA h.new.length y3.oc, .slice y3.nA h.old.length y3.nc] (by simp)
  simp only [World.setCells, Nat.reduceAdd] at hGk
  rw [← hGk]
  have HGk := hide hGk
  clear hGk
  have Hck : Hid (Cells wk w.heap.size [.int .u8 3, .string file, .string text, .int .i64 h.at_, .slice y3.oA h.new.length y3.oc, .slice y3.nA h.old.length y3.nc, .int .u8 e.kind, .slice x.e.pA e.path.length x.e.pc, .int .i64 e.at_, .int .i64 e.far, .string e.frm, .string e.to, .slice x.e.oA e.old.len x.e.oc, .slice x.e.nA e.new.len x.e.nc]) := hide hck
  have Hrk : Hid (Cells wk (w.heap.size + 1) [.int .u8 0, .string ByteArray.empty, .string ByteArray.empty, .int .i64 0, .slice none 0 0, .slice none 0 0, .int .u8 0, .slice none 0 0, .int .i64 0, .int .i64 0, .string ByteArray.empty, .string ByteArray.empty, .slice none 0 0, .slice none 0 0]) := hide ((HcR.out.of_eq hy2).of_eq (hok2 _ (by omega)))
  have gN : ∀ o, wk.frozen? ⟨w.heap.size, o, none⟩ = false := fun o => (hfk _).trans ((hf2 o).trans (hfN o))
  have gR : ∀ o, wk.frozen? ⟨w.heap.size + 1, o, none⟩ = false := fun o => (hfk _).trans ((hg2 o).trans (hfR o))
  clear hx2 hy2 hf2 hg2 hck hok2 hfk hsk hfN hfR b0 r0 b1 r1 b2 r2 b3 r3 b4 r4 b5 r5 b6 r6 b7 r7 b8 r8 b9 r9 b10 r10 b11 r11 b12 r12 b13 r13
  have a0 := Hck.out 0 _ rfl
  have a1 := Hck.out 1 _ rfl
  have a2 := Hck.out 2 _ rfl
  have a3 := Hck.out 3 _ rfl
  have a4 := Hck.out 4 _ rfl
  have a5 := Hck.out 5 _ rfl
  have a6 := Hck.out 6 _ rfl
  have a7 := Hck.out 7 _ rfl
  have a8 := Hck.out 8 _ rfl
  have a9 := Hck.out 9 _ rfl
  have a10 := Hck.out 10 _ rfl
  have a11 := Hck.out 11 _ rfl
  have a12 := Hck.out 12 _ rfl
  have a13 := Hck.out 13 _ rfl
  have r0 := Hrk.out 0 _ rfl
  have r1 := Hrk.out 1 _ rfl
  have r2 := Hrk.out 2 _ rfl
  have r3 := Hrk.out 3 _ rfl
  have r4 := Hrk.out 4 _ rfl
  have r5 := Hrk.out 5 _ rfl
  have r6 := Hrk.out 6 _ rfl
  have r7 := Hrk.out 7 _ rfl
  have r8 := Hrk.out 8 _ rfl
  have r9 := Hrk.out 9 _ rfl
  have r10 := Hrk.out 10 _ rfl
  have r11 := Hrk.out 11 _ rfl
  have r12 := Hrk.out 12 _ rfl
  have r13 := Hrk.out 13 _ rfl
  go_wp2_with fail
  obtain ⟨wF, hF, hcF, hoF, hkF, hfF, hsF⟩ := puts Hrk.out 0 [.int .u8 3, .string file, .string text, .int .i64 h.at_, .slice y3.oA h.new.length y3.oc, .slice y3.nA h.old.length y3.nc, .int .u8 e.kind, .slice x.e.pA e.path.length x.e.pc, .int .i64 e.at_, .int .i64 e.far, .string e.frm, .string e.to, .slice x.e.oA e.old.len x.e.oc, .slice x.e.nA e.new.len x.e.nc] (by simp)
  simp only [World.setCells, Nat.zero_add, Nat.reduceAdd] at hF
  rw [← hF]
  have HF := hide hF
  clear hF
  have f0 := hcF 0 _ rfl
  have f1 := hcF 1 _ rfl
  have f2 := hcF 2 _ rfl
  have f3 := hcF 3 _ rfl
  have f4 := hcF 4 _ rfl
  have f5 := hcF 5 _ rfl
  have f6 := hcF 6 _ rfl
  have f7 := hcF 7 _ rfl
  have f8 := hcF 8 _ rfl
  have f9 := hcF 9 _ rfl
  have f10 := hcF 10 _ rfl
  have f11 := hcF 11 _ rfl
  have f12 := hcF 12 _ rfl
  have f13 := hcF 13 _ rfl
  refine bodyPost_ret (v := .agg #[.int .u8 3, .string file, .string text, .int .i64 h.at_, .slice y3.oA h.new.length y3.oc, .slice y3.nA h.old.length y3.nc, .int .u8 e.kind, .slice x.e.pA e.path.length x.e.pc, .int .i64 e.at_, .int .i64 e.far, .string e.frm, .string e.to, .slice x.e.oA e.old.len x.e.oc, .slice x.e.nA e.new.len x.e.nc]) ?_ rfl ?_
  · simp only [results, Tryz.results9]
    go_simp
  · exact ⟨⟨⟨y3, x.e⟩, rfl, ⟨(by show (3 : Nat) < 256; omega), E0.out.file, E0.out.text, (HI2.out.apart (((Apart.refl _ _).puts hkk (.inl rfl)).puts hkF (.inr rfl))).mono (fun _ _ h => h.1), ((E0.out.edit.below HB1.out).apart ((((Apart.refl _ _).below HV2.out).puts hkk (.inl rfl)).puts hkF (.inr rfl))).mono (fun _ _ h => h.1)⟩⟩, (HB2.out.trans (hkk (fun b => b < w.heap.size) (by simp)).below).trans (hkF (fun b => b < w.heap.size) (by simp)).below⟩

end Go.Proofs.YtpocmfilpecfdaaGreatDoor
