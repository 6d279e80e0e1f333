/- An edit inverted, whichever its kind. Printed by gen_inv.py. -/
import Derived.Test.YtpocmfilpecfdaaGreatDoorRInv5a
import Derived.Test.YtpocmfilpecfdaaGreatDoorRInv5b
import Derived.Test.YtpocmfilpecfdaaGreatDoorRInv5c
import Derived.Test.YtpocmfilpecfdaaGreatDoorRInv5d
import Derived.Test.YtpocmfilpecfdaaGreatDoorRInv5e
import Derived.Test.YtpocmfilpecfdaaGreatDoorRPatRight
import Derived.Test.YtpocmfilpecfdaaGreatDoorRInv7

set_option linter.unusedVariables false
set_option linter.unusedSimpArgs false

namespace Go.Proofs.YtpocmfilpecfdaaGreatDoor
open Go.RowKit

def Ed.inv (e : Ed) : Ed :=
  if e.kind = 5 then ⟨5, e.path, e.far, e.at_, e.to, e.frm, e.old, e.new⟩
  else if e.kind = 2 then ⟨3, e.path, e.at_, e.far, e.to, e.frm, e.new, e.old⟩
  else if e.kind = 3 then ⟨2, e.path, e.at_, e.far, e.to, e.frm, e.new, e.old⟩
  else ⟨e.kind, e.path, e.at_, e.far, e.to, e.frm, e.new, e.old⟩
theorem editInvert_any {S : Nat → Prop} {x : Eh} {e : Ed} {w : World} (H : EdIn S w x e) (htab : TabOk w) (hsum : e.frm.size + e.to.size ≤ 9223372036854775807) (hok : EdOk e)
    (hbp : e.path.length ≤ 549755813888) (hbo : (foB e.old).length ≤ 549755813888) (hbn : (foB e.new).length ≤ 549755813888) (hS : ∀ b, w.heap.size ≤ b → S b) :
    Calls Tryz.prog 21 #[.agg #[.int .u8 e.kind, .slice x.pA e.path.length x.pc, .int .i64 e.at_, .int .i64 e.far, .string e.frm, .string e.to, .slice x.oA e.old.len x.oc, .slice x.nA e.new.len x.nc]] w fun e1 w' =>
      (∃ y : Eh, e1 = .returned (.agg #[.int .u8 e.inv.kind, .slice y.pA e.inv.path.length y.pc, .int .i64 e.inv.at_, .int .i64 e.inv.far, .string e.inv.frm, .string e.inv.to, .slice y.oA e.inv.old.len y.oc, .slice y.nA e.inv.new.len y.nc]) ∧ EdIn S w' y e.inv) ∧ Below w.heap.size w w' := by
  have hk : e.kind = 1 ∨ e.kind = 2 ∨ e.kind = 3 ∨ e.kind = 4 ∨ e.kind = 5 := by
    obtain ⟨_, h | h | h | h | h⟩ := hok
    · exact .inl h.1
    · exact .inr (.inl h.1)
    · exact .inr (.inr (.inl h.1))
    · exact .inr (.inr (.inr (.inl h.1)))
    · exact .inr (.inr (.inr (.inr h.1)))
  obtain ⟨kd, path, at_, far, frm, tto, old, new⟩ := e
  simp only at hk hsum hbp hbo hbn
  rcases hk with rfl | rfl | rfl | rfl | rfl
  · exact editInvert_1 H htab hsum hok hbp hbo hbn hS
  · exact editInvert_2 H htab hsum hok hbp hbo hbn hS
  · exact editInvert_3 H htab hsum hok hbp hbo hbn hS
  · exact editInvert_4 H htab hsum hok hbp hbo hbn hS
  · exact editInvert_5 H htab hsum hok hbp hbo hbn hS

end Go.Proofs.YtpocmfilpecfdaaGreatDoor

namespace Go.Proofs.YtpocmfilpecfdaaGreatDoor
open Go.RowKit

set_option maxHeartbeats 4000000 in
set_option maxRecDepth 1000000 in
theorem patInvert_4 {S : Nat → Prop} {x : Ph} {file text : ByteArray} {h : Hk} {e : Ed} {w : World} (H : PtIn S w x ⟨4, file, text, h, e⟩) (htab : TabOk w) (hsum : e.frm.size + e.to.size ≤ 9223372036854775807)
    (hok : PtOk ⟨4, file, text, h, e⟩) (heok : EdOk e) (hbp : e.path.length ≤ 549755813888) (hbo : (foB e.old).length ≤ 549755813888) (hbn : (foB e.new).length ≤ 549755813888) (hS : ∀ b, w.heap.size ≤ b → S b) :
    Calls Tryz.prog 9 #[.agg #[.int .u8 4, .string file, .string text, .int .i64 h.at_, .slice x.h.oA h.old.length x.h.oc, .slice x.h.nA h.new.length x.h.nc, .int .u8 e.kind, .slice x.e.pA e.path.length x.e.pc, .int .i64 e.at_, .int .i64 e.far, .string e.frm, .string e.to, .slice x.e.oA e.old.len x.e.oc, .slice x.e.nA e.new.len x.e.nc]] w fun e1 w' =>
      (∃ y : Ph, e1 = .returned (.agg #[.int .u8 4, .string file, .string text, .int .i64 h.at_, .slice y.h.oA h.old.length y.h.oc, .slice y.h.nA h.new.length y.h.nc, .int .u8 e.inv.kind, .slice y.e.pA e.inv.path.length y.e.pc, .int .i64 e.inv.at_, .int .i64 e.inv.far, .string e.inv.frm, .string e.inv.to, .slice y.e.oA e.inv.old.len y.e.oc, .slice y.e.nA e.inv.new.len y.e.nc]) ∧ PtIn S w' y ⟨4, file, text, h, e.inv⟩) ∧ Below w.heap.size w w' := by
  have E0 := hide (H.mono (S' := Free S w.heap.size) (fun b hb h => ⟨h, by omega, by omega⟩))
  have HS := hide hS
  have Htab := hide htab
  have HR : Hid (∀ W : World, Below w.heap.size w W → Calls Tryz.prog 8 #[.agg #[.int .u8 4, .string file, .string text, .int .i64 h.at_, .slice x.h.oA h.old.length x.h.oc, .slice x.h.nA h.new.length x.h.nc, .int .u8 e.kind, .slice x.e.pA e.path.length x.e.pc, .int .i64 e.at_, .int .i64 e.far, .string e.frm, .string e.to, .slice x.e.oA e.old.len x.e.oc, .slice x.e.nA e.new.len x.e.nc]] W fun e1 w' => e1 = .returned (.bool true) ∧ Below W.heap.size W w') :=
    hide (fun W hW => right_yes (x := x) (p := ⟨4, file, text, h, e⟩) (E0.out.below hW) (Htab.out.below hW) hsum hok)
  clear H htab hS
  go_enter Tryz.func9, Tryz.ntmps9
  go_upto_region 4 with (go_at_call 8; (with_reducible refine (HR.out _ (below2 _ _)).mono ?_); rintro e1 w1 ⟨rfl, hB⟩; obtain ⟨hx1, hf1, hz1⟩ := bbox (N := w.heap.size) hB (by simp <;> omega); obtain ⟨hy1, hg1, hu1⟩ := bbox (N := w.heap.size + 1) hB (by simp <;> omega); have HB1 : Hid (Below w.heap.size w w1) := hide (blw_up2 hB); clear hB)
  have hcN : Cells w1 w.heap.size [.int .u8 4, .string file, .string text, .int .i64 h.at_, .slice x.h.oA h.old.length x.h.oc, .slice x.h.nA h.new.length x.h.nc, .int .u8 e.kind, .slice x.e.pA e.path.length x.e.pc, .int .i64 e.at_, .int .i64 e.far, .string e.frm, .string e.to, .slice x.e.oA e.old.len x.e.oc, .slice x.e.nA e.new.len x.e.nc] := (cells_first w #[.int .u8 4, .string file, .string text, .int .i64 h.at_, .slice x.h.oA h.old.length x.h.oc, .slice x.h.nA h.new.length x.h.nc, .int .u8 e.kind, .slice x.e.pA e.path.length x.e.pc, .int .i64 e.at_, .int .i64 e.far, .string e.frm, .string e.to, .slice x.e.oA e.old.len x.e.oc, .slice x.e.nA e.new.len x.e.nc] _ _ _).of_eq hx1
  have hcR : Cells w1 (w.heap.size + 1) [.int .u8 0, .string ByteArray.empty, .string ByteArray.empty, .int .i64 0, .slice none 0 0, .slice none 0 0, .int .u8 0, .slice none 0 0, .int .i64 0, .int .i64 0, .string ByteArray.empty, .string ByteArray.empty, .slice none 0 0, .slice none 0 0] := (cells_second w _ #[.int .u8 0, .string ByteArray.empty, .string ByteArray.empty, .int .i64 0, .slice none 0 0, .slice none 0 0, .int .u8 0, .slice none 0 0, .int .i64 0, .int .i64 0, .string ByteArray.empty, .string ByteArray.empty, .slice none 0 0, .slice none 0 0] _).of_eq hy1
  have hfN : ∀ o, w1.frozen? ⟨w.heap.size, o, none⟩ = false := fun o => (hf1 o).trans (World.frozen?_alloc2_first _ _ _ _)
  have hfR : ∀ o, w1.frozen? ⟨w.heap.size + 1, o, none⟩ = false := fun o => (hg1 o).trans (World.frozen?_alloc2_new _ _ _ _)
  have HcN := hide hcN
  have HcR := hide hcR
  clear hcN hcR hx1 hy1 hf1 hg1
  have b0 := HcN.out 0 _ rfl
  have b1 := HcN.out 1 _ rfl
  have b2 := HcN.out 2 _ rfl
  have b3 := HcN.out 3 _ rfl
  have b4 := HcN.out 4 _ rfl
  have b5 := HcN.out 5 _ rfl
  have b6 := HcN.out 6 _ rfl
  have b7 := HcN.out 7 _ rfl
  have b8 := HcN.out 8 _ rfl
  have b9 := HcN.out 9 _ rfl
  have b10 := HcN.out 10 _ rfl
  have b11 := HcN.out 11 _ rfl
  have b12 := HcN.out 12 _ rfl
  have b13 := HcN.out 13 _ rfl
  have r0 := HcR.out 0 _ rfl
  have r1 := HcR.out 1 _ rfl
  have r2 := HcR.out 2 _ rfl
  have r3 := HcR.out 3 _ rfl
  have r4 := HcR.out 4 _ rfl
  have r5 := HcR.out 5 _ rfl
  have r6 := HcR.out 6 _ rfl
  have r7 := HcR.out 7 _ rfl
  have r8 := HcR.out 8 _ rfl
  have r9 := HcR.out 9 _ rfl
  have r10 := HcR.out 10 _ rfl
  have r11 := HcR.out 11 _ rfl
  have r12 := HcR.out 12 _ rfl
  have r13 := HcR.out 13 _ rfl
  go_upto_region 12 with (go_at_call 21; (with_reducible refine (editInvert_any (S := Free S w.heap.size) (x := x.e) (e := e) (E0.out.edit.below HB1.out) (Htab.out.below HB1.out) hsum heok hbp hbo hbn (by intro b hb; exact ⟨HS.out b (by omega), by omega, by omega⟩)).mono ?_); rintro e2 w2 ⟨⟨y4, rfl, hin⟩, hB⟩; obtain ⟨hx2, hf2, hz2⟩ := bbox (N := w.heap.size) hB hz1; obtain ⟨hy2, hg2, hu2⟩ := bbox (N := w.heap.size + 1) hB hu1; have HB2 : Hid (Below w.heap.size w w2) := hide (blw_up HB1.out hB); have HV2 := hide hB; have HI2 := hide hin; clear hB hin)
  obtain ⟨wk, hGk, hck, hok2, hkk, hfk, hsk⟩ := puts (HcN.out.of_eq hx2) 6 [.int .u8 e.inv.kind, .slice y4.pA e.inv.path.length y4.pc, .int .i64 e.inv.at_, .int .i64 e.inv.far, .string e.inv.frm, .string e.inv.to, .slice y4.oA e.inv.old.len y4.oc, .slice y4.nA e.inv.new.len y4.nc] (by simp)
  simp only [World.setCells, Nat.reduceAdd] at hGk
  rw [← hGk]
  have HGk := hide hGk
  clear hGk
  have Hck : Hid (Cells wk w.heap.size [.int .u8 4, .string file, .string text, .int .i64 h.at_, .slice x.h.oA h.old.length x.h.oc, .slice x.h.nA h.new.length x.h.nc, .int .u8 e.inv.kind, .slice y4.pA e.inv.path.length y4.pc, .int .i64 e.inv.at_, .int .i64 e.inv.far, .string e.inv.frm, .string e.inv.to, .slice y4.oA e.inv.old.len y4.oc, .slice y4.nA e.inv.new.len y4.nc]) := hide hck
  have Hrk : Hid (Cells wk (w.heap.size + 1) [.int .u8 0, .string ByteArray.empty, .string ByteArray.empty, .int .i64 0, .slice none 0 0, .slice none 0 0, .int .u8 0, .slice none 0 0, .int .i64 0, .int .i64 0, .string ByteArray.empty, .string ByteArray.empty, .slice none 0 0, .slice none 0 0]) := hide ((HcR.out.of_eq hy2).of_eq (hok2 _ (by omega)))
  have gN : ∀ o, wk.frozen? ⟨w.heap.size, o, none⟩ = false := fun o => (hfk _).trans ((hf2 o).trans (hfN o))
  have gR : ∀ o, wk.frozen? ⟨w.heap.size + 1, o, none⟩ = false := fun o => (hfk _).trans ((hg2 o).trans (hfR o))
  clear hx2 hy2 hf2 hg2 hck hok2 hfk hsk hfN hfR b0 r0 b1 r1 b2 r2 b3 r3 b4 r4 b5 r5 b6 r6 b7 r7 b8 r8 b9 r9 b10 r10 b11 r11 b12 r12 b13 r13
  have a0 := Hck.out 0 _ rfl
  have a1 := Hck.out 1 _ rfl
  have a2 := Hck.out 2 _ rfl
  have a3 := Hck.out 3 _ rfl
  have a4 := Hck.out 4 _ rfl
  have a5 := Hck.out 5 _ rfl
  have a6 := Hck.out 6 _ rfl
  have a7 := Hck.out 7 _ rfl
  have a8 := Hck.out 8 _ rfl
  have a9 := Hck.out 9 _ rfl
  have a10 := Hck.out 10 _ rfl
  have a11 := Hck.out 11 _ rfl
  have a12 := Hck.out 12 _ rfl
  have a13 := Hck.out 13 _ rfl
  have r0 := Hrk.out 0 _ rfl
  have r1 := Hrk.out 1 _ rfl
  have r2 := Hrk.out 2 _ rfl
  have r3 := Hrk.out 3 _ rfl
  have r4 := Hrk.out 4 _ rfl
  have r5 := Hrk.out 5 _ rfl
  have r6 := Hrk.out 6 _ rfl
  have r7 := Hrk.out 7 _ rfl
  have r8 := Hrk.out 8 _ rfl
  have r9 := Hrk.out 9 _ rfl
  have r10 := Hrk.out 10 _ rfl
  have r11 := Hrk.out 11 _ rfl
  have r12 := Hrk.out 12 _ rfl
  have r13 := Hrk.out 13 _ rfl
  go_wp2_with fail
  obtain ⟨wF, hF, hcF, hoF, hkF, hfF, hsF⟩ := puts Hrk.out 0 [.int .u8 4, .string file, .string text, .int .i64 h.at_, .slice x.h.oA h.old.length x.h.oc, .slice x.h.nA h.new.length x.h.nc, .int .u8 e.inv.kind, .slice y4.pA e.inv.path.length y4.pc, .int .i64 e.inv.at_, .int .i64 e.inv.far, .string e.inv.frm, .string e.inv.to, .slice y4.oA e.inv.old.len y4.oc, .slice y4.nA e.inv.new.len y4.nc] (by simp)
  simp only [World.setCells, Nat.zero_add, Nat.reduceAdd] at hF
  rw [← hF]
  have HF := hide hF
  clear hF
  have f0 := hcF 0 _ rfl
  have f1 := hcF 1 _ rfl
  have f2 := hcF 2 _ rfl
  have f3 := hcF 3 _ rfl
  have f4 := hcF 4 _ rfl
  have f5 := hcF 5 _ rfl
  have f6 := hcF 6 _ rfl
  have f7 := hcF 7 _ rfl
  have f8 := hcF 8 _ rfl
  have f9 := hcF 9 _ rfl
  have f10 := hcF 10 _ rfl
  have f11 := hcF 11 _ rfl
  have f12 := hcF 12 _ rfl
  have f13 := hcF 13 _ rfl
  refine bodyPost_ret (v := .agg #[.int .u8 4, .string file, .string text, .int .i64 h.at_, .slice x.h.oA h.old.length x.h.oc, .slice x.h.nA h.new.length x.h.nc, .int .u8 e.inv.kind, .slice y4.pA e.inv.path.length y4.pc, .int .i64 e.inv.at_, .int .i64 e.inv.far, .string e.inv.frm, .string e.inv.to, .slice y4.oA e.inv.old.len y4.oc, .slice y4.nA e.inv.new.len y4.nc]) ?_ rfl ?_
  · simp only [results, Tryz.results9]
    go_simp
  · exact ⟨⟨⟨x.h, y4⟩, rfl, ⟨(by show (4 : Nat) < 256; omega), E0.out.file, E0.out.text, ((E0.out.hunk.below HB1.out).apart ((((Apart.refl _ _).below HV2.out).puts hkk (.inl rfl)).puts hkF (.inr rfl))).mono (fun _ _ h => h.1), (HI2.out.apart (((Apart.refl _ _).puts hkk (.inl rfl)).puts hkF (.inr rfl))).mono (fun _ _ h => h.1)⟩⟩, (HB2.out.trans (hkk (fun b => b < w.heap.size) (by simp)).below).trans (hkF (fun b => b < w.heap.size) (by simp)).below⟩

end Go.Proofs.YtpocmfilpecfdaaGreatDoor

namespace Go.Proofs.YtpocmfilpecfdaaGreatDoor
open Go.RowKit

def Pt.inv (p : Pt) : Pt :=
  if p.kind = 1 then ⟨2, p.file, p.text, p.hunk, p.edit⟩
  else if p.kind = 2 then ⟨1, p.file, p.text, p.hunk, p.edit⟩
  else if p.kind = 3 then ⟨3, p.file, p.text, ⟨p.hunk.at_, p.hunk.new, p.hunk.old⟩, p.edit⟩
  else ⟨p.kind, p.file, p.text, p.hunk, p.edit.inv⟩
theorem EdOk.inv {e : Ed} (h : EdOk e) : EdOk e.inv := by
  obtain ⟨kd, path, at_, far, frm, tto, old, new⟩ := e
  obtain ⟨hp, h | h | h | h | h⟩ := h
  · obtain ⟨rfl, h1, h2, h3, h4, h5, h6, h7, h8⟩ := h
    exact ⟨hp, .inl ⟨rfl, h1, h2, h4, h3, h5, h7, h6, fun e => h8 e.symm⟩⟩
  · obtain ⟨rfl, h1, h2, h3, h4, h5, h6⟩ := h
    exact ⟨hp, .inr (.inr (.inl ⟨rfl, h1, h3, h2, h4, h5, h6⟩))⟩
  · obtain ⟨rfl, h1, h2, h3, h4, h5, h6⟩ := h
    exact ⟨hp, .inr (.inl ⟨rfl, h1, h3, h2, h4, h5, h6⟩)⟩
  · obtain ⟨rfl, h1, h2, h3, h4, h5, h6, h7, h8⟩ := h
    exact ⟨hp, .inr (.inr (.inr (.inl ⟨rfl, h1, h2, h4, h3, h5, h7, h6, fun e => h8 e.symm⟩)))⟩
  · obtain ⟨rfl, h1, h2, h3, h4, h5, h6, h7⟩ := h
    exact ⟨hp, .inr (.inr (.inr (.inr ⟨rfl, h2, h1, h3, h5, h4, fun e => h6 e.symm, h7⟩)))⟩
theorem PtOk.inv {p : Pt} (h : PtOk p) : PtOk p.inv := by
  obtain ⟨kd, file, text, hunk, edit⟩ := p
  obtain ⟨hf, ⟨hk | hk, h1, h2⟩ | ⟨hk, h1, h2, h3, h4, h5, h6, h7⟩ | ⟨hk, h1, h2, h3⟩⟩ := h
  · simp only at hk; subst hk
    exact ⟨hf, .inl ⟨.inr rfl, h1, h2⟩⟩
  · simp only at hk; subst hk
    exact ⟨hf, .inl ⟨.inl rfl, h1, h2⟩⟩
  · simp only at hk; subst hk
    exact ⟨hf, .inr (.inl ⟨rfl, h1, h2, h3, h4, h6, h5, fun e => h7 e.symm⟩)⟩
  · simp only at hk; subst hk
    exact ⟨hf, .inr (.inr ⟨rfl, h1, h2, h3.inv⟩)⟩
theorem edB_inv {e : Ed} : (edB e.inv).length = (edB e).length := by
  have h8 : ∀ n : Int, (num8 n).length = 8 := fun n => rfl
  unfold Ed.inv
  split
  · simp only [edB, List.length_cons, List.length_append, h8]; omega
  · split
    · simp only [edB, List.length_cons, List.length_append, h8]; omega
    · split
      · simp only [edB, List.length_cons, List.length_append, h8]; omega
      · simp only [edB, List.length_cons, List.length_append, h8]; omega
theorem ptB_inv {p : Pt} (h : PtOk p) : (ptB p.inv).length = (ptB p).length := by
  have h8 : ∀ n : Int, (num8 n).length = 8 := fun n => rfl
  obtain ⟨kd, file, text, hunk, edit⟩ := p
  obtain ⟨hf, ⟨hk | hk, _⟩ | ⟨hk, _⟩ | ⟨hk, _⟩⟩ := h
  · simp only at hk; subst hk; rfl
  · simp only at hk; subst hk; rfl
  · simp only at hk; subst hk
    show (ptB ⟨3, file, text, ⟨hunk.at_, hunk.new, hunk.old⟩, edit⟩).length = _
    simp only [ptB, if_true, List.length_cons, List.length_append, h8]; omega
  · simp only at hk; subst hk
    show (ptB ⟨4, file, text, hunk, edit.inv⟩).length = _
    have e3 : ¬ (4 = 3) := by omega
    simp only [ptB, if_neg e3, if_true, List.length_cons, List.length_append, edB_inv]
theorem txts_len8 (l : List ByteArray) : 8 * l.length ≤ (txtsB l).length := by
  have h8 : ∀ n : Int, (num8 n).length = 8 := fun n => rfl
  have : ∀ l : List ByteArray, 8 * l.length ≤ ((l.map txtB).flatten).length := by
    intro l
    induction l with
    | nil => exact Nat.zero_le _
    | cons s l ih => simp only [List.map_cons, List.flatten_cons, List.length_append, txtB, h8, List.length_cons]; omega
  have := this l
  simp only [txtsB, List.length_append]
  omega
theorem path_len8 (l : List Int) : 8 * l.length ≤ (pathB l).length := by
  have h8 : ∀ n : Int, (num8 n).length = 8 := fun n => rfl
  have : ∀ l : List Int, 8 * l.length ≤ ((l.map num8).flatten).length := by
    intro l
    induction l with
    | nil => exact Nat.zero_le _
    | cons s l ih => simp only [List.map_cons, List.flatten_cons, List.length_append, h8, List.length_cons]; omega
  have := this l
  simp only [pathB, List.length_append]
  omega
theorem patInvert_any {S : Nat → Prop} {x : Ph} {p : Pt} {w : World} (H : PtIn S w x p) (htab : TabOk w) (hok : PtOk p) (hlen : (ptB p).length ≤ 549755813888) (hS : ∀ b, w.heap.size ≤ b → S b) :
    Calls Tryz.prog 9 #[.agg #[.int .u8 p.kind, .string p.file, .string p.text, .int .i64 p.hunk.at_, .slice x.h.oA p.hunk.old.length x.h.oc, .slice x.h.nA p.hunk.new.length x.h.nc, .int .u8 p.edit.kind, .slice x.e.pA p.edit.path.length x.e.pc, .int .i64 p.edit.at_, .int .i64 p.edit.far, .string p.edit.frm, .string p.edit.to, .slice x.e.oA p.edit.old.len x.e.oc, .slice x.e.nA p.edit.new.len x.e.nc]] w fun e1 w' =>
      (∃ y : Ph, e1 = .returned (.agg #[.int .u8 p.inv.kind, .string p.inv.file, .string p.inv.text, .int .i64 p.inv.hunk.at_, .slice y.h.oA p.inv.hunk.old.length y.h.oc, .slice y.h.nA p.inv.hunk.new.length y.h.nc, .int .u8 p.inv.edit.kind, .slice y.e.pA p.inv.edit.path.length y.e.pc, .int .i64 p.inv.edit.at_, .int .i64 p.inv.edit.far, .string p.inv.edit.frm, .string p.inv.edit.to, .slice y.e.oA p.inv.edit.old.len y.e.oc, .slice y.e.nA p.inv.edit.new.len y.e.nc]) ∧ PtIn S w' y p.inv) ∧ Below w.heap.size w w' := by
  have hsum := ptOk_sum hok
  have hok0 := hok
  obtain ⟨kd, file, text, hunk, edit⟩ := p
  obtain ⟨hf, ⟨hk | hk, _⟩ | ⟨hk, _⟩ | ⟨hk, _, _, heok⟩⟩ := hok
  · simp only at hk; subst hk; exact patInvert_1 H htab hsum hok0 hS
  · simp only at hk; subst hk; exact patInvert_2 H htab hsum hok0 hS
  · simp only at hk; subst hk
    have h1 := txts_len8 hunk.old
    have h2 := txts_len8 hunk.new
    simp only [ptB, if_true, List.length_cons, List.length_append] at hlen
    exact patInvert_3 H htab hsum hok0 (show hunk.old.length ≤ 549755813888 by omega) (show hunk.new.length ≤ 549755813888 by omega) hS
  · simp only at hk; subst hk
    have e3 : ¬ (4 = 3) := by omega
    have h1 := path_len8 edit.path
    simp only [ptB, if_neg e3, if_true, List.length_cons, List.length_append, edB, nodesB] at hlen
    exact patInvert_4 H htab hsum hok0 heok (show edit.path.length ≤ 549755813888 by omega) (show (foB edit.old).length ≤ 549755813888 by omega) (show (foB edit.new).length ≤ 549755813888 by omega) hS

end Go.Proofs.YtpocmfilpecfdaaGreatDoor
