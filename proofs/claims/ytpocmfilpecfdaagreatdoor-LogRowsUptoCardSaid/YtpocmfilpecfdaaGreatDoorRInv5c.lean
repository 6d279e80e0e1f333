/- An edit inverted, more kinds. Printed by gen_inv.py. -/
import Derived.Test.YtpocmfilpecfdaaGreatDoorRInv2

set_option linter.unusedVariables false
set_option linter.unusedSimpArgs false

namespace Go.Proofs.YtpocmfilpecfdaaGreatDoor
open Go.RowKit

set_option maxHeartbeats 4000000 in
set_option maxRecDepth 1000000 in
theorem editInvert_3 {S : Nat → Prop} {x : Eh} {path : List Int} {at_ far : Int} {frm tto : ByteArray} {old new : Fo} {w : World} (H : EdIn S w x ⟨3, path, at_, far, frm, tto, old, new⟩) (htab : TabOk w) (hsum : frm.size + tto.size ≤ 9223372036854775807)
    (hok : EdOk ⟨3, path, at_, far, frm, tto, old, new⟩) (hbp : path.length ≤ 549755813888) (hbo : (foB old).length ≤ 549755813888) (hbn : (foB new).length ≤ 549755813888) (hS : ∀ b, w.heap.size ≤ b → S b) :
    Calls Tryz.prog 21 #[.agg #[.int .u8 3, .slice x.pA path.length x.pc, .int .i64 at_, .int .i64 far, .string frm, .string tto, .slice x.oA old.len x.oc, .slice x.nA new.len x.nc]] w fun e w' =>
      (∃ y : Eh, e = .returned (.agg #[.int .u8 2, .slice y.pA path.length y.pc, .int .i64 at_, .int .i64 far, .string tto, .string frm, .slice y.oA new.len y.oc, .slice y.nA old.len y.nc]) ∧ EdIn S w' y ⟨2, path, at_, far, tto, frm, new, old⟩) ∧ Below w.heap.size w w' := by
  have E0 := hide (H.mono (S' := Free S w.heap.size) (fun b hb h => ⟨h, by omega, by omega⟩))
  have HS := hide hS
  have Htab := hide htab
  have hoc := H.oc
  have hnc := H.nc
  simp only at hoc hnc
  have q1 := H.at_
  have q2 := H.far
  have q3 := H.frm
  have q4 := H.to
  have Hq := hide (And.intro q1 (And.intro q2 (And.intro q3 q4)))
  have HR : Hid (∀ W : World, Below w.heap.size w W → Calls Tryz.prog 17 #[.agg #[.int .u8 3, .slice x.pA path.length x.pc, .int .i64 at_, .int .i64 far, .string frm, .string tto, .slice x.oA old.len x.oc, .slice x.nA new.len x.nc]] W fun e1 w' => e1 = .returned (.bool true) ∧ Below W.heap.size W w') :=
    hide (fun W hW => edRight_yes (x := x) (e := ⟨3, path, at_, far, frm, tto, old, new⟩) (E0.out.below hW) (Htab.out.below hW) hsum hok)
  clear H htab hS q1 q2 q3 q4
  go_enter Tryz.func21, Tryz.ntmps21
  go_upto_region 5 with (first
    | (go_at_call 17; (with_reducible refine (HR.out _ (below2 _ _)).mono ?_); rintro e1 w1 ⟨rfl, hB⟩; obtain ⟨hx1, hf1, hz1⟩ := bbox (N := w.heap.size) hB (by simp <;> omega); obtain ⟨hy1, hg1, hu1⟩ := bbox (N := w.heap.size + 1) hB (by simp <;> omega); have HB1 : Hid (Below w.heap.size w w1) := hide (blw_up2 hB); clear hB)
    | (go_at_call 43; (with_reducible refine (cloneInts_in (l := path) (E0.out.path.below HB1.out) rfl hbp).mono ?_); rintro e2 w2 ⟨⟨A1, c1, rfl, hin, hpl, hpm⟩, hB⟩; obtain ⟨hx2, hf2, hz2⟩ := bbox (N := w.heap.size) hB hz1; obtain ⟨hy2, hg2, hu2⟩ := bbox (N := w.heap.size + 1) hB hu1; have HB2 : Hid (Below w.heap.size w w2) := hide (blw_up HB1.out hB); have HP2 : Hid (IntsIn (Free S w.heap.size) w2 A1 path) := hide (hin.mono (fun b _ hb => ⟨HS.out b (by have := Nat.lt_of_lt_of_le hu1 hb; omega), by have := Nat.lt_of_lt_of_le hu1 hb; omega, by have := Nat.lt_of_lt_of_le hu1 hb; omega⟩)); clear hB hin))
  have hcN : Cells w2 w.heap.size [.int .u8 3, .slice x.pA path.length x.pc, .int .i64 at_, .int .i64 far, .string frm, .string tto, .slice x.oA old.len x.oc, .slice x.nA new.len x.nc] := ((cells_first w #[.int .u8 3, .slice x.pA path.length x.pc, .int .i64 at_, .int .i64 far, .string frm, .string tto, .slice x.oA old.len x.oc, .slice x.nA new.len x.nc] _ _ _).of_eq hx1).of_eq hx2
  have hcR : Cells w2 (w.heap.size + 1) [.int .u8 0, .slice none 0 0, .int .i64 0, .int .i64 0, .string ByteArray.empty, .string ByteArray.empty, .slice none 0 0, .slice none 0 0] := ((cells_second w _ #[.int .u8 0, .slice none 0 0, .int .i64 0, .int .i64 0, .string ByteArray.empty, .string ByteArray.empty, .slice none 0 0, .slice none 0 0] _).of_eq hy1).of_eq hy2
  obtain ⟨wa, hFa, hca, hoa, hka, hfa, hsa⟩ := puts hcN 1 [.slice A1 path.length c1] (by simp)
  simp only [World.setCells, Nat.reduceAdd] at hFa
  obtain ⟨wb, hFb, hcb, hob, hkb, hfb, hsb⟩ := puts hca 4 [.string tto, .string frm] (by simp)
  simp only [World.setCells, Nat.reduceAdd] at hFb
  rw [← hFa, ← hFb]
  have HFa := hide hFa
  have HFb := hide hFb
  clear hFa hFb
  have Hcb : Hid (Cells wb w.heap.size [.int .u8 3, .slice A1 path.length c1, .int .i64 at_, .int .i64 far, .string tto, .string frm, .slice x.oA old.len x.oc, .slice x.nA new.len x.nc]) := hide hcb
  have Hrb : Hid (Cells wb (w.heap.size + 1) [.int .u8 0, .slice none 0 0, .int .i64 0, .int .i64 0, .string ByteArray.empty, .string ByteArray.empty, .slice none 0 0, .slice none 0 0]) := hide ((hcR.of_eq (hoa _ (by omega))).of_eq (hob _ (by omega)))
  have b0 := Hcb.out 0 _ rfl
  have b1 := Hcb.out 1 _ rfl
  have b2 := Hcb.out 2 _ rfl
  have b3 := Hcb.out 3 _ rfl
  have b4 := Hcb.out 4 _ rfl
  have b5 := Hcb.out 5 _ rfl
  have b6 := Hcb.out 6 _ rfl
  have b7 := Hcb.out 7 _ rfl
  have hfN : ∀ o, wb.frozen? ⟨w.heap.size, o, none⟩ = false := fun o => (hfb _).trans ((hfa _).trans ((hf2 o).trans ((hf1 o).trans (World.frozen?_alloc2_first _ _ _ _))))
  have hfR : ∀ o, wb.frozen? ⟨w.heap.size + 1, o, none⟩ = false := fun o => (hfb _).trans ((hfa _).trans ((hg2 o).trans ((hg1 o).trans (World.frozen?_alloc2_new _ _ _ _))))
  have hzb : wb.heap.size = w2.heap.size := hsb.trans hsa
  have HAb : Hid (Apart w.heap.size w2 wb) := hide (((Apart.refl _ _).puts hka (.inl rfl)).puts hkb (.inl rfl))
  have HBb : Hid (Below w.heap.size w wb) := hide (HB2.out.trans ((hka (fun b => b < w.heap.size) (by simp)).below.trans (hkb (fun b => b < w.heap.size) (by simp)).below))
  have HPb := hide (HP2.out.apart HAb.out)
  clear hca hcb hoa hob hka hkb hfa hfb
  go_upto_region 8 with fail
  go_region_with (first
    | (go_at_call 44; (with_reducible refine (rowCopied (S := Free S w.heap.size) (f := new) (E0.out.new.below (by repeat first | exact HBb.out | refine Below.drew ?_)) hnc.1 hnc.2 hbn (by intro b hb; have h9 : wb.heap.size ≤ b := (by simpa using hb); exact ⟨HS.out b (by omega), by omega, by omega⟩)).mono ?_); rintro e5 w5 ⟨⟨A5, c5, rfl, hin5, hl5, hm5⟩, hB⟩; have HI5 := hide hin5; obtain ⟨hx5, hf5, hz5⟩ := bbox (N := w.heap.size) hB (by simp <;> omega); obtain ⟨hy5, hg5, hu5⟩ := bbox (N := w.heap.size + 1) hB (by simp <;> omega); have HB5 : Hid (Below w.heap.size w w5) := hide (by first | exact blw_up HBb.out hB | exact blw_up HBb.out.drew hB); have HV5 := hide hB; clear hB hin5)
    | (go_at_call 44; (with_reducible refine (rowCopied (S := Free S w.heap.size) (f := old) (E0.out.old.below HB5.out) hoc.1 hoc.2 hbo (by intro b hb; have h9 : w5.heap.size ≤ b := (by simpa using hb); exact ⟨HS.out b (by omega), by omega, by omega⟩)).mono ?_); rintro e6 w6 ⟨⟨A6, c6, rfl, hin6, hl6, hm6⟩, hB⟩; have HI6 := hide hin6; obtain ⟨hx6, hf6, hz6⟩ := bbox (N := w.heap.size) hB hz5; obtain ⟨hy6, hg6, hu6⟩ := bbox (N := w.heap.size + 1) hB hu5; have HB6 : Hid (Below w.heap.size w w6) := hide (by exact blw_up HB5.out hB); have HV6 := hide hB; clear hB hin6))
  all_goals
    have hd : Cells w6 w.heap.size [.int .u8 3, .slice A1 path.length c1, .int .i64 at_, .int .i64 far, .string tto, .string frm, .slice x.oA old.len x.oc, .slice x.nA new.len x.nc] := ((Hcb.out.of_eq hx5).of_eq hx6)
    have hr : Cells w6 (w.heap.size + 1) [.int .u8 0, .slice none 0 0, .int .i64 0, .int .i64 0, .string ByteArray.empty, .string ByteArray.empty, .slice none 0 0, .slice none 0 0] := ((Hrb.out.of_eq hy5).of_eq hy6)
    obtain ⟨wp1, hG1, hcp1, hop1, hkp1, hfp1, hsp1⟩ := puts hd 6 [.slice A5 new.len c5, .slice A6 old.len c6] (by simp)
    simp only [World.setCells, Nat.reduceAdd] at hG1
    rw [← hG1]
    have HG1 := hide hG1
    clear hG1
    have hrp1 := hr.of_eq (hop1 (w.heap.size + 1) (by omega))
    have gN : ∀ o, wp1.frozen? ⟨w.heap.size, o, none⟩ = false := fun o => (hfp1 _).trans ((hf6 o).trans ((hf5 o).trans (hfN o)))
    have gR : ∀ o, wp1.frozen? ⟨w.heap.size + 1, o, none⟩ = false := fun o => (hfp1 _).trans ((hg6 o).trans ((hg5 o).trans (hfR o)))
    have Hcp : Hid (Cells wp1 w.heap.size [.int .u8 3, .slice A1 path.length c1, .int .i64 at_, .int .i64 far, .string tto, .string frm, .slice A5 new.len c5, .slice A6 old.len c6]) := hide hcp1
    have Hrp : Hid (Cells wp1 (w.heap.size + 1) [.int .u8 0, .slice none 0 0, .int .i64 0, .int .i64 0, .string ByteArray.empty, .string ByteArray.empty, .slice none 0 0, .slice none 0 0]) := hide hrp1
    have a0 := Hcp.out 0 _ rfl
    have r0 := Hrp.out 0 _ rfl
    have a1 := Hcp.out 1 _ rfl
    have r1 := Hrp.out 1 _ rfl
    have a2 := Hcp.out 2 _ rfl
    have r2 := Hrp.out 2 _ rfl
    have a3 := Hcp.out 3 _ rfl
    have r3 := Hrp.out 3 _ rfl
    have a4 := Hcp.out 4 _ rfl
    have r4 := Hrp.out 4 _ rfl
    have a5 := Hcp.out 5 _ rfl
    have r5 := Hrp.out 5 _ rfl
    have a6 := Hcp.out 6 _ rfl
    have r6 := Hrp.out 6 _ rfl
    have a7 := Hcp.out 7 _ rfl
    have r7 := Hrp.out 7 _ rfl
    clear hfp1 hop1 hsp1 hcp1 hrp1 hd hr
    have az : ∀ v, (wp1.setCell ⟨w.heap.size, 0, none⟩ v).cell? ⟨w.heap.size, 0, none⟩ = some v := fun v => World.cell?_setCell_same _ _ _ a0
    clear hx1 hx2 hx5 hy1 hy2 hy5 hf1 hf2 hf5 hg1 hg2 hg5 b0 b1 b2 b3 b4 b5 b6 b7 hfN hfR hx6 hy6 hf6 hg6
    go_wp2_with fail
    obtain ⟨wk, hGk, hck, hok, hkk, hfk, hsk⟩ := puts Hcp.out 0 [.int .u8 2] (by simp)
    simp only [World.setCells] at hGk
    rw [← hGk]
    have HGk := hide hGk
    clear hGk
    have hrk := Hrp.out.of_eq (hok (w.heap.size + 1) (by omega))
    obtain ⟨wF, hF, hcF, hoF, hkF, hfF, hsF⟩ := puts hrk 0 [.int .u8 2, .slice A1 path.length c1, .int .i64 at_, .int .i64 far, .string tto, .string frm, .slice A5 new.len c5, .slice A6 old.len c6] (by simp)
    simp only [World.setCells, Nat.zero_add, Nat.reduceAdd] at hF
    rw [← hF]
    have HF := hide hF
    clear hF
    have f0 := hcF 0 _ rfl
    have f1 := hcF 1 _ rfl
    have f2 := hcF 2 _ rfl
    have f3 := hcF 3 _ rfl
    have f4 := hcF 4 _ rfl
    have f5 := hcF 5 _ rfl
    have f6 := hcF 6 _ rfl
    have f7 := hcF 7 _ rfl
    refine bodyPost_ret (v := .agg #[.int .u8 2, .slice A1 path.length c1, .int .i64 at_, .int .i64 far, .string tto, .string frm, .slice A5 new.len c5, .slice A6 old.len c6]) ?_ rfl ?_
    · simp only [results, Tryz.results21]
      go_simp
    · exact ⟨⟨⟨A1, c1, A5, c5, A6, c6⟩, rfl, ⟨(by show (2 : Nat) < 256; omega), (HPb.out.apart ((((((Apart.refl _ _).drewn.below HV5.out).below HV6.out).puts hkp1 (.inl rfl)).puts hkk (.inl rfl)).puts hkF (.inr rfl))).mono (fun _ _ h => h.1), Hq.out.1, Hq.out.2.1, Hq.out.2.2.2, Hq.out.2.2.1, (HI5.out.apart (((((Apart.refl _ _).below HV6.out).puts hkp1 (.inl rfl)).puts hkk (.inl rfl)).puts hkF (.inr rfl))).mono (fun _ _ h => h.1), (HI6.out.apart ((((Apart.refl _ _).puts hkp1 (.inl rfl)).puts hkk (.inl rfl)).puts hkF (.inr rfl))).mono (fun _ _ h => h.1), ⟨hpl, hpm⟩, ⟨hl5, hm5⟩, ⟨hl6, hm6⟩⟩⟩, (((HB6.out.trans (hkp1 (fun b => b < w.heap.size) (by simp)).below).trans (hkk (fun b => b < w.heap.size) (by simp)).below).trans (hkF (fun b => b < w.heap.size) (by simp)).below)⟩

end Go.Proofs.YtpocmfilpecfdaaGreatDoor
