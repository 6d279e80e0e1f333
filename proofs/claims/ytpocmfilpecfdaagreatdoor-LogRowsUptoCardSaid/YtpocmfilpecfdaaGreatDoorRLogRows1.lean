/- The chapter's theorem. Printed by gen_logrows.py. -/
import Derived.BigQuiet
import Derived.Deep.RegionHeld
import Derived.Test.YtpocmfilpecfdaaGreatDoorRLogRows

set_option linter.unusedVariables false
set_option linter.unusedSimpArgs false

namespace Go.Proofs.YtpocmfilpecfdaaGreatDoor
open Go.RowKit

set_option maxHeartbeats 8000000 in
set_option maxRecDepth 1000000 in
theorem rows_1 {b o : Nat} {A' : Option Addr} {cA cB : Nat} {l m : List Nd} {w : World} (hl : NdIn All w (some ⟨b, o, none⟩) l) (hm : NdIn All w A' m) (hB : A' = none → m.length = 0) (hcl : (l : List Nd).length ≤ 1048576) (hcm : m.length ≤ 1048576)
    (htab : TabOk w) (hpow : TabP w.heap.size w) (hmx : MaxOk w) (hfl : NdFit l) (hfm : NdFit m) (hlen : (sayAll l).length + (sayAll m).length ≤ 140737488355328) (hsm : ∀ d ∈ (l : List Nd), (ptB d.pt).length ≤ 190000000) :
    Calls Tryz.prog 3 #[.slice (some ⟨b, o, none⟩) l.length cA, .slice A' m.length cB] w fun e w' => e = .returned (.bool true) ∧ Below w.heap.size w w' := by
  have H := hide hl
  have H2 := hide hm
  have HT := hide htab
  have HP := hide hpow
  have HM := hide hmx
  have HFl := hide hfl
  have HFm := hide hfm
  have Hlen := hide hlen
  have Hsm := hide hsm
  have HA : Hid (((some ⟨b, o, none⟩) : Option Addr) = none → (l : List Nd).length = 0) := hide (fun e => by cases e)
  have HBn := hide hB
  have hz0 : ¬ 9223372036854775807 < (sayAll l).length + (sayAll m).length := by omega
  have h3000 : is63 3000 := by unfold is63; omega
  clear hl hm htab hpow hmx hfl hfm hlen hsm hB
  go_enter Tryz.func3, Tryz.ntmps3
  go_wp2_with (first
    | (go_at_call 4; (with_reducible refine (awake_any HT.out HP.out).mono ?_); rintro e1 w1 ⟨rfl, hB1⟩; have HB1 := hide hB1; have hs1 := HB1.out.size; clear hB1)
    | (go_at_call 5; (with_reducible refine (namedOf_any (l := l) (H.out.below HB1.out) h3000 (Nat.le_trans hcl (by omega))).mono ?_); rintro e2 w2 ⟨⟨r2, rfl, hr2⟩, hB2⟩; have HB2 := hide (HB1.out.trans (hB2.mono hs1)); have hs2 := HB2.out.size; clear hB2)
    | (go_at_call 5; (with_reducible refine (namedOf_any (l := m) (H2.out.below HB2.out) h3000 (Nat.le_trans hcm (by omega))).mono ?_); rintro e3 w3 ⟨⟨r3, rfl, hr3⟩, hB3⟩; have HB3 := hide (HB2.out.trans (hB3.mono hs2)); have hs3 := HB3.out.size; have HJ := hide (nameds_join (cA := cA) (cB := cB) (H.out.below HB3.out) (H2.out.below HB3.out) HA.out HBn.out (by omega) 22 22); clear hB3)
    | (at_builtin; obtain ⟨v1, w4, A5, c5, w5, hr1, hr2, hN5, hB5⟩ := HJ.out; obtain ⟨lm, hlm⟩ : ∃ lm, lm = l ++ m := ⟨_, rfl⟩; rw [← hlm] at hr2 hN5; refine wpList_append_run (v1 := .slice (some ⟨w3.heap.size, 0, none⟩) 0 0) (v2 := .slice (some ⟨b, o, none⟩) l.length cA) rfl _ _ _ rfl rfl rfl hr1 ?_; have Hr2 := hide hr2; have HN5 := hide hN5; have HB5 := hide (HB3.out.trans (hB5.mono hs3)); have hs5 := HB5.out.size; have hlm2 : lm.length ≤ 9223372036854775807 := (by rw [hlm, List.length_append]; omega); have Hlm := hide hlm; clear hr1 hr2 hN5 hB5 HJ hlm)
    | (at_builtin; refine wpList_append_run (v1 := v1) (v2 := .slice A' m.length cB) rfl _ _ _ rfl rfl rfl Hr2.out ?_; clear Hr2)
    | (go_at_call 6; (with_reducible refine (text_join (l := l) (m := m) Hlm.out HN5.out hlm2 (HT.out.below HB5.out) ((HP.out.below HB5.out).up hs5) HFl.out HFm.out Hlen.out).mono ?_); rintro e6 w6 ⟨rfl, hB6⟩; have HB6 := hide (HB5.out.trans (hB6.mono hs5)); have hs6 := HB6.out.size; clear hB6 HN5)
    | (go_at_call 6; (with_reducible refine (text_any (l := l) (H.out.below HB6.out) (Nat.le_trans hcl (by omega)) (HT.out.below HB6.out) ((HP.out.below HB6.out).up hs6) HFl.out (Nat.le_trans (Nat.le_add_right _ _) Hlen.out)).mono ?_); rintro e7 w7 ⟨rfl, hB7⟩; have HB7 := hide (HB6.out.trans (hB7.mono hs6)); have hs7 := HB7.out.size; clear hB7)
    | (go_at_call 6; (with_reducible refine (text_any (l := m) (H2.out.below HB7.out) (Nat.le_trans hcm (by omega)) (HT.out.below HB7.out) ((HP.out.below HB7.out).up hs7) HFm.out (Nat.le_trans (Nat.le_add_left _ _) Hlen.out)).mono ?_); rintro e8 w8 ⟨rfl, hB8⟩; have HB8 := hide (HB7.out.trans (hB8.mono hs7)); have hs8 := HB8.out.size; clear hB8))
  all_goals first | (go_ret; exact ⟨rfl, by first | exact HB2.out | exact HB3.out⟩) | skip
  clear HA HBn Hlm H2 HFm hz0
  go_loopw [5] (fun i wr => ∃ q : Nat, q ≤ l.length ∧ i = .int .i64 q ∧ Hid (Below w.heap.size w wr)) (fun i _ => l.length - (intOf i).toNat)
  case atStart => exact ⟨0, Nat.zero_le _, rfl, HB8⟩
  case round =>
    clear HB1 HB2 HB3 HB5 HB6 HB7 HB8 hs1 hs2 hs3 hs5 hs6 hs7 hs8
    obtain ⟨q, hq, rfl, HB⟩ := hrel
    have hsr := HB.out.size
    by_cases hlt : q < l.length
    · obtain ⟨b', o', x, d, hA, hd0, ⟨c0, c1, c2, c3, c4, c5, c6, c7, c8, c9, c10, c11, c12, c13, c14⟩, hsz, hp⟩ := (H.out.below HB.out).at_ hlt
      injection hA with hA
      injection hA with hA1 hA2
      subst hA1 hA2
      have hbw : b < wr.heap.size := block_lt_of_cell c0
      have hmem : d ∈ l := List.mem_of_getElem? hd0
      have hf := HFl.out d hmem
      have hfd : NdFit [d] := fun d' hd' => by simp only [List.mem_singleton] at hd'; subst hd'; exact hf
      have hsd := Hsm.out d hmem
      have hrow : (sayB d).length ≤ 140737488355328 := by
        have h1 := sayAll_part hd0
        have h2 := Hlen.out
        omega
      have hzr : (sayB d).length = d.name.size + 2 + (saidB d.pt).length + 1 := by
        have e1 : d.name.data.toList.length = d.name.size := rfl
        simp only [sayB, List.length_append, List.length_cons, List.length_nil, e1]
        omega
      have HTr := hide (HT.out.below HB.out)
      have HPr : Hid (TabP wr.heap.size wr) := hide ((HP.out.below HB.out).up hsr)
      have HMr := hide (HM.out.below HB.out)
      have hpo : ∀ W, Below wr.heap.size wr W → TabP W.heap.size W := fun W hW => (HPr.out.below hW).up hW.size
      have HTx : Hid (∀ W A1, NdIn All W A1 [d] → Below wr.heap.size wr W → Calls Tryz.prog 6 #[.slice A1 1 1] W fun e w' => e = .returned (.string (sayS d)) ∧ Below W.heap.size W w') :=
        hide (fun W A1 hn hW => text_one hn (HTr.out.below hW) (hpo W hW) hfd hrow)
      have HNd : Hid (∀ W, Below wr.heap.size wr W → NdIn All (W.alloc (.cells #[.string d.name, .int .u8 d.pt.kind, .string d.pt.file, .string d.pt.text, .int .i64 d.pt.hunk.at_, .slice x.h.oA d.pt.hunk.old.length x.h.oc, .slice x.h.nA d.pt.hunk.new.length x.h.nc, .int .u8 d.pt.edit.kind, .slice x.e.pA d.pt.edit.path.length x.e.pc, .int .i64 d.pt.edit.at_, .int .i64 d.pt.edit.far, .string d.pt.edit.frm, .string d.pt.edit.to, .slice x.e.oA d.pt.edit.old.len x.e.oc, .slice x.e.nA d.pt.edit.new.len x.e.nc] 39)) (some ⟨W.heap.size, 0, none⟩) [d]) := hide (fun W hW => nd_new (hp.below hW) hsz)
      have HLn : Hid (∀ W, Below wr.heap.size wr W → Calls Tryz.prog 7 #[.agg #[.int .u8 d.pt.kind, .string d.pt.file, .string d.pt.text, .int .i64 d.pt.hunk.at_, .slice x.h.oA d.pt.hunk.old.length x.h.oc, .slice x.h.nA d.pt.hunk.new.length x.h.nc, .int .u8 d.pt.edit.kind, .slice x.e.pA d.pt.edit.path.length x.e.pc, .int .i64 d.pt.edit.at_, .int .i64 d.pt.edit.far, .string d.pt.edit.frm, .string d.pt.edit.to, .slice x.e.oA d.pt.edit.old.len x.e.oc, .slice x.e.nA d.pt.edit.new.len x.e.nc]] W fun e w' => e = .returned (.string ⟨(saidB d.pt).toArray⟩) ∧ Below W.heap.size W w') :=
        hide (fun W hW => line_any (hp.below hW) (HTr.out.below hW) (hpo W hW) hf.1 hf.2)
      have HRt : Hid (∀ W, Below wr.heap.size wr W → Calls Tryz.prog 8 #[.agg #[.int .u8 d.pt.kind, .string d.pt.file, .string d.pt.text, .int .i64 d.pt.hunk.at_, .slice x.h.oA d.pt.hunk.old.length x.h.oc, .slice x.h.nA d.pt.hunk.new.length x.h.nc, .int .u8 d.pt.edit.kind, .slice x.e.pA d.pt.edit.path.length x.e.pc, .int .i64 d.pt.edit.at_, .int .i64 d.pt.edit.far, .string d.pt.edit.frm, .string d.pt.edit.to, .slice x.e.oA d.pt.edit.old.len x.e.oc, .slice x.e.nA d.pt.edit.new.len x.e.nc]] W fun e w' => RetB (PtOk d.pt) e ∧ Below W.heap.size W w') :=
        hide (fun W hW => patchRight_any (hp.below hW) (HTr.out.below hW) hf.1)
      have hz1 : ¬ 9223372036854775807 < d.name.size + 2 := by omega
      by_cases hok : PtOk d.pt
      · have es := said_yes hok
        have hne := line_not63 hok
        have HRy : Hid (∀ W, Below wr.heap.size wr W → Calls Tryz.prog 8 #[.agg #[.int .u8 d.pt.kind, .string d.pt.file, .string d.pt.text, .int .i64 d.pt.hunk.at_, .slice x.h.oA d.pt.hunk.old.length x.h.oc, .slice x.h.nA d.pt.hunk.new.length x.h.nc, .int .u8 d.pt.edit.kind, .slice x.e.pA d.pt.edit.path.length x.e.pc, .int .i64 d.pt.edit.at_, .int .i64 d.pt.edit.far, .string d.pt.edit.frm, .string d.pt.edit.to, .slice x.e.oA d.pt.edit.old.len x.e.oc, .slice x.e.nA d.pt.edit.new.len x.e.nc]] W fun e w' => e = .returned (.bool true) ∧ Below W.heap.size W w') := hide (by
          intro W hW
          refine (HRt.out W hW).mono ?_
          rintro e w' ⟨⟨y, rfl, hy⟩, hB⟩
          exact ⟨by rw [hy.2 hok], hB⟩)
        clear HRt
        have HRt := HRy
        clear HRy
        have hst : sayS d = d.name ++ ⟨#[58, 32]⟩ ++ ⟨(lineB d.pt).toArray⟩ ++ ⟨#[10]⟩ := by unfold sayS; rw [es]
        rw [hst] at HTx
        rw [es] at HLn hzr
        have HIv : Hid (∀ W, Below wr.heap.size wr W → Calls Tryz.prog 9 #[.agg #[.int .u8 d.pt.kind, .string d.pt.file, .string d.pt.text, .int .i64 d.pt.hunk.at_, .slice x.h.oA d.pt.hunk.old.length x.h.oc, .slice x.h.nA d.pt.hunk.new.length x.h.nc, .int .u8 d.pt.edit.kind, .slice x.e.pA d.pt.edit.path.length x.e.pc, .int .i64 d.pt.edit.at_, .int .i64 d.pt.edit.far, .string d.pt.edit.frm, .string d.pt.edit.to, .slice x.e.oA d.pt.edit.old.len x.e.oc, .slice x.e.nA d.pt.edit.new.len x.e.nc]] W fun e1 w' => (∃ y : Ph, e1 = .returned (.agg #[.int .u8 d.pt.inv.kind, .string d.pt.inv.file, .string d.pt.inv.text, .int .i64 d.pt.inv.hunk.at_, .slice y.h.oA d.pt.inv.hunk.old.length y.h.oc, .slice y.h.nA d.pt.inv.hunk.new.length y.h.nc, .int .u8 d.pt.inv.edit.kind, .slice y.e.pA d.pt.inv.edit.path.length y.e.pc, .int .i64 d.pt.inv.edit.at_, .int .i64 d.pt.inv.edit.far, .string d.pt.inv.edit.frm, .string d.pt.inv.edit.to, .slice y.e.oA d.pt.inv.edit.old.len y.e.oc, .slice y.e.nA d.pt.inv.edit.new.len y.e.nc]) ∧ PtIn All w' y d.pt.inv) ∧ Below W.heap.size W w') :=
          hide (fun W hW => patInvert_any (hp.below hW) (HTr.out.below hW) hok hf.2 (fun _ _ => trivial))
        have hvok := hok.inv
        have hvlen : (ptB d.pt.inv).length ≤ 190000000 := by rw [ptB_inv hok]; exact hsd
        have hvw := line_inv_len hok
        have hvf := inv_file d.pt
        have HCt : Hid (∀ W, Calls Tryz.prog 11 #[.string ⟨(lineB d.pt).toArray⟩, .string ⟨#[10]⟩] W fun e w' => e = .returned (.bool false) ∧ W = w') := hide (fun W => contains_line hok)
        have HS1 : Hid (∀ W, Below wr.heap.size wr W → Calls Tryz.prog 10 #[.string ⟨(lineB d.pt).toArray⟩, .string ⟨#[32]⟩] W fun e w' => ∃ N, e = .returned (.slice (some ⟨N, 0, none⟩) (lineW d.pt).length (lineW d.pt).length) ∧ w'.cell? ⟨N, 1, none⟩ = some (.string d.pt.file) ∧ Below W.heap.size W w') := hide (fun W hW => split_line hok hsd (HMr.out.below hW))
        have h3 := line_words3 hok
        generalize d.pt.inv = pv at HIv hvok hvlen hvw hvf
        have HLv : Hid (∀ W (y : Ph), Below wr.heap.size wr W → PtIn All W y pv → Calls Tryz.prog 7 #[.agg #[.int .u8 pv.kind, .string pv.file, .string pv.text, .int .i64 pv.hunk.at_, .slice y.h.oA pv.hunk.old.length y.h.oc, .slice y.h.nA pv.hunk.new.length y.h.nc, .int .u8 pv.edit.kind, .slice y.e.pA pv.edit.path.length y.e.pc, .int .i64 pv.edit.at_, .int .i64 pv.edit.far, .string pv.edit.frm, .string pv.edit.to, .slice y.e.oA pv.edit.old.len y.e.oc, .slice y.e.nA pv.edit.new.len y.e.nc]] W fun e w' => e = .returned (.string ⟨(lineB pv).toArray⟩) ∧ Below W.heap.size W w') :=
          hide (fun W y hW hy => line_yes hy (HTr.out.below hW) (hpo W hW) hvok (by omega))
        have HS2 : Hid (∀ W, Below wr.heap.size wr W → Calls Tryz.prog 10 #[.string ⟨(lineB pv).toArray⟩, .string ⟨#[32]⟩] W fun e w' => ∃ N, e = .returned (.slice (some ⟨N, 0, none⟩) (lineW d.pt).length (lineW d.pt).length) ∧ w'.cell? ⟨N, 1, none⟩ = some (.string d.pt.file) ∧ Below W.heap.size W w') := hide (fun W hW => by
          have h := split_line hvok hvlen (HMr.out.below hW)
          rw [hvw, hvf] at h
          exact h)
        generalize (lineW d.pt).length = n at HS1 HS2 h3
        generalize lineB d.pt = M at HLn HTx hne hzr HCt HS1
        generalize lineB pv = M2 at HLv HS2
        have hz2 : ¬ 9223372036854775807 < d.name.size + 2 + M.length := by omega
        have hz3 : ¬ 9223372036854775807 < d.name.size + 2 + M.length + 1 := by omega
        clear hmem hd0 hf hfd hsd hrow hzr hpo es hst hp hok hvok hvlen hvw hvf
        go_wp2_with (go_at_call 7; (with_reducible refine (HLn.out _ (Below.refl _ _)).mono ?_); rintro e1 w1 ⟨rfl, hB1⟩; have HB1 := hide hB1; clear hB1)
        have hd1 : Below wr.heap.size wr w1.drew := HB1.out.trans ((blw_drewN (Below.refl _ _) 1 : Below w1.heap.size w1 w1.drew).mono HB1.out.size)
        refine wp_region_held_drew (S := Below wr.heap.size wr) (by kernel_rfl) hd1 (fun hHeld => ?_)
        generalize w1.drew = wD at hHeld ⊢
        refine wpAnyH_take (i := 0) (v := ?_) rfl (by kernel_rfl) (by kernel_rfl) (by kernel_rfl) (fun _ _ _ h => h) (Or.inl ⟨by rfl, ?_⟩) hHeld ?_
        rotate_left
        · intro w' hSw
          first | (go_simp; done) | (go_simp; with_reducible rfl)
        try simp only [Act.put, List.getElem_toArray, List.getElem_cons_zero, List.getElem_cons_succ, List.setIfInBounds_toArray, List.set_cons_zero, List.set_cons_succ]
        refine wpAnyH_take (i := 1) (v := ?_) rfl (by kernel_rfl) (by kernel_rfl) (by kernel_rfl) (fun _ _ _ h => h) (Or.inl ⟨by rfl, ?_⟩) hHeld ?_
        rotate_left
        · intro w' hSw
          first | (go_simp; done) | (go_simp; with_reducible rfl)
        try simp only [Act.put, List.getElem_toArray, List.getElem_cons_zero, List.getElem_cons_succ, List.setIfInBounds_toArray, List.set_cons_zero, List.set_cons_succ]
        refine wpAnyH_take (i := 2) (v := ?_) rfl (by kernel_rfl) (by kernel_rfl) (by kernel_rfl) (fun _ _ _ h => h) (Or.inl ⟨by rfl, ?_⟩) hHeld ?_
        rotate_left
        · intro w' hSw
          first | (go_simp; done) | (go_simp; with_reducible rfl)
        try simp only [Act.put, List.getElem_toArray, List.getElem_cons_zero, List.getElem_cons_succ, List.setIfInBounds_toArray, List.set_cons_zero, List.set_cons_succ]
        refine wpAnyH_take (i := 3) (v := ?_) rfl (by kernel_rfl) (by kernel_rfl) (by kernel_rfl) (fun _ _ _ h => h) (Or.inl ⟨by rfl, ?_⟩) hHeld ?_
        rotate_left
        · intro w' hSw
          have hc : ∀ j, w'.cell? ⟨b, j, none⟩ = wr.cell? ⟨b, j, none⟩ := fun j => hSw.cell (p := ⟨b, j, none⟩) hbw
          first | (go_simp; done) | (go_simp; with_reducible rfl)
        try simp only [Act.put, List.getElem_toArray, List.getElem_cons_zero, List.getElem_cons_succ, List.setIfInBounds_toArray, List.set_cons_zero, List.set_cons_succ]
        refine wpAnyH_take (i := 6) (v := ?_) rfl (by kernel_rfl) (by kernel_rfl) (by kernel_rfl) (fun _ _ _ h => h) (Or.inl ⟨by rfl, ?_⟩) hHeld ?_
        rotate_left
        · intro w' hSw
          first | (go_simp; done) | (go_simp; with_reducible rfl)
        try simp only [Act.put, List.getElem_toArray, List.getElem_cons_zero, List.getElem_cons_succ, List.setIfInBounds_toArray, List.set_cons_zero, List.set_cons_succ]
        refine wpAnyH_take (i := 7) (v := ?_) rfl (by kernel_rfl) (by kernel_rfl) (by kernel_rfl) (fun _ _ _ h => h) (Or.inl ⟨by rfl, ?_⟩) hHeld ?_
        rotate_left
        · intro w' hSw
          first | (go_simp; done) | (go_simp; with_reducible rfl)
        try simp only [Act.put, List.getElem_toArray, List.getElem_cons_zero, List.getElem_cons_succ, List.setIfInBounds_toArray, List.set_cons_zero, List.set_cons_succ]
        refine wpAnyH_take (i := 8) (v := ?_) rfl (by kernel_rfl) (by kernel_rfl) (by kernel_rfl) (fun _ _ _ h => h) (Or.inl ⟨by rfl, ?_⟩) hHeld ?_
        rotate_left
        · intro w' hSw
          first | (go_simp; done) | (go_simp; with_reducible rfl)
        try simp only [Act.put, List.getElem_toArray, List.getElem_cons_zero, List.getElem_cons_succ, List.setIfInBounds_toArray, List.set_cons_zero, List.set_cons_succ]
        refine wpAnyH_take (i := 9) (v := ?_) rfl (by kernel_rfl) (by kernel_rfl) (by kernel_rfl) (fun _ _ _ h => h) (Or.inl ⟨by rfl, ?_⟩) hHeld ?_
        rotate_left
        · intro w' hSw
          first | (go_simp; done) | (go_simp; with_reducible rfl)
        try simp only [Act.put, List.getElem_toArray, List.getElem_cons_zero, List.getElem_cons_succ, List.setIfInBounds_toArray, List.set_cons_zero, List.set_cons_succ]
        refine wpAnyH_take (i := 10) (v := ?_) rfl (by kernel_rfl) (by kernel_rfl) (by kernel_rfl) (fun _ _ _ h => h) (Or.inl ⟨by rfl, ?_⟩) hHeld ?_
        rotate_left
        · intro w' hSw
          have hc : ∀ j, w'.cell? ⟨b, j, none⟩ = wr.cell? ⟨b, j, none⟩ := fun j => hSw.cell (p := ⟨b, j, none⟩) hbw
          first | (go_simp; done) | (go_simp; with_reducible rfl)
        try simp only [Act.put, List.getElem_toArray, List.getElem_cons_zero, List.getElem_cons_succ, List.setIfInBounds_toArray, List.set_cons_zero, List.set_cons_succ]
        refine wpAnyH_take (i := 11) (v := ?_) rfl (by kernel_rfl) (by kernel_rfl) (by kernel_rfl) (fun _ _ _ h => h) (Or.inl ⟨by rfl, ?_⟩) hHeld ?_
        rotate_left
        · intro w' hSw
          first | (go_simp; done) | (go_simp; with_reducible rfl)
        try simp only [Act.put, List.getElem_toArray, List.getElem_cons_zero, List.getElem_cons_succ, List.setIfInBounds_toArray, List.set_cons_zero, List.set_cons_succ]
        refine wpAnyH_take (i := 12) (v := ?_) rfl (by kernel_rfl) (by kernel_rfl) (by kernel_rfl) (fun _ _ _ h => h) (Or.inl ⟨by rfl, ?_⟩) hHeld ?_
        rotate_left
        · intro w' hSw
          first | (go_simp; done) | (go_simp; with_reducible rfl)
        try simp only [Act.put, List.getElem_toArray, List.getElem_cons_zero, List.getElem_cons_succ, List.setIfInBounds_toArray, List.set_cons_zero, List.set_cons_succ]
        refine wpAnyH_take (i := 13) (v := ?_) rfl (by kernel_rfl) (by kernel_rfl) (by kernel_rfl) (fun _ _ _ h => h) (Or.inl ⟨by rfl, ?_⟩) hHeld ?_
        rotate_left
        · intro w' hSw
          first | (go_simp; done) | (go_simp; with_reducible rfl)
        try simp only [Act.put, List.getElem_toArray, List.getElem_cons_zero, List.getElem_cons_succ, List.setIfInBounds_toArray, List.set_cons_zero, List.set_cons_succ]
        refine wpAnyH_take (i := 14) (v := ?_) rfl (by kernel_rfl) (by kernel_rfl) (by kernel_rfl) (fun _ _ _ h => h) (Or.inl ⟨by rfl, ?_⟩) hHeld ?_
        rotate_left
        · intro w' hSw
          first | (go_simp; done) | (go_simp; with_reducible rfl)
        try simp only [Act.put, List.getElem_toArray, List.getElem_cons_zero, List.getElem_cons_succ, List.setIfInBounds_toArray, List.set_cons_zero, List.set_cons_succ]
        refine wpAnyH_ready (rs := [4]) (by kernel_rfl) (by simp) ?_
        refine AllReadyH.cons rfl (fun K hK => ?_) AllReadyH.nil
        go_simp
        refine hK.out _ _ (hHeld.trans ((below_alloc wD _).mono hHeld.size)) (fun hHeld2 => ?_)
        clear hK K
        try simp only [Act.put, List.getElem_toArray, List.getElem_cons_zero, List.getElem_cons_succ, List.setIfInBounds_toArray, List.set_cons_zero, List.set_cons_succ]
        have hN2 := HNd.out wD hHeld
        refine wpAnyH_ready (rs := [5]) (by kernel_rfl) (by simp) ?_
        refine AllReadyH.cons rfl (fun K hK => ?_) AllReadyH.nil
        go_simp
        go_wp2_with (go_at_call 6; (with_reducible refine (HTx.out _ _ hN2 hHeld2).mono ?_); rintro e2 w2 ⟨rfl, hB2⟩)
        have hHeld3 := hHeld2.trans (hB2.mono hHeld2.size)
        refine hK.out _ _ hHeld3 (fun _ => ?_)
        clear hK K
        try simp only [Act.put, List.getElem_toArray, List.getElem_cons_zero, List.getElem_cons_succ, List.setIfInBounds_toArray, List.set_cons_zero, List.set_cons_succ]
        refine wpAnyH_take (i := 15) (v := ?_) rfl (by kernel_rfl) (by kernel_rfl) (by kernel_rfl) (fun _ _ _ h => h) (Or.inl ⟨by rfl, ?_⟩) hHeld3 ?_
        rotate_left
        · intro w' hSw
          first | (go_simp; done) | (go_simp; with_reducible rfl)
        try simp only [Act.put, List.getElem_toArray, List.getElem_cons_zero, List.getElem_cons_succ, List.setIfInBounds_toArray, List.set_cons_zero, List.set_cons_succ]
        refine wpAnyH_take (i := 16) (v := ?_) rfl (by kernel_rfl) (by kernel_rfl) (by kernel_rfl) (fun _ _ _ h => h) (Or.inl ⟨by rfl, ?_⟩) hHeld3 ?_
        rotate_left
        · intro w' hSw
          first | (go_simp; done) | (go_simp; with_reducible rfl)
        try simp only [Act.put, List.getElem_toArray, List.getElem_cons_zero, List.getElem_cons_succ, List.setIfInBounds_toArray, List.set_cons_zero, List.set_cons_succ]
        refine wpAnyH_take (i := 17) (v := ?_) rfl (by kernel_rfl) (by kernel_rfl) (by kernel_rfl) (fun _ _ _ h => h) (Or.inl ⟨by rfl, ?_⟩) hHeld3 ?_
        rotate_left
        · intro w' hSw
          first | (go_simp; done) | (go_simp; with_reducible rfl)
        try simp only [Act.put, List.getElem_toArray, List.getElem_cons_zero, List.getElem_cons_succ, List.setIfInBounds_toArray, List.set_cons_zero, List.set_cons_succ]
        refine wpAnyH_take (i := 18) (v := ?_) rfl (by kernel_rfl) (by kernel_rfl) (by kernel_rfl) (fun _ _ _ h => h) (Or.inl ⟨by rfl, ?_⟩) hHeld3 ?_
        rotate_left
        · intro w' hSw
          first | (go_simp; done) | (go_simp; with_reducible rfl)
        try simp only [Act.put, List.getElem_toArray, List.getElem_cons_zero, List.getElem_cons_succ, List.setIfInBounds_toArray, List.set_cons_zero, List.set_cons_succ]
        refine wpAnyH_take (i := 19) (v := ?_) rfl (by kernel_rfl) (by kernel_rfl) (by kernel_rfl) (fun _ _ _ h => h) (Or.inl ⟨by rfl, ?_⟩) hHeld3 ?_
        rotate_left
        · intro w' hSw
          first | (go_simp; done) | (go_simp; with_reducible rfl)
        try simp only [Act.put, List.getElem_toArray, List.getElem_cons_zero, List.getElem_cons_succ, List.setIfInBounds_toArray, List.set_cons_zero, List.set_cons_succ]
        refine wpAnyH_take (i := 20) (v := ?_) rfl (by kernel_rfl) (by kernel_rfl) (by kernel_rfl) (fun _ _ _ h => h) (Or.inl ⟨by rfl, ?_⟩) hHeld3 ?_
        rotate_left
        · intro w' hSw
          first | (go_simp; done) | (go_simp; with_reducible rfl)
        try simp only [Act.put, List.getElem_toArray, List.getElem_cons_zero, List.getElem_cons_succ, List.setIfInBounds_toArray, List.set_cons_zero, List.set_cons_succ]
        refine wpAnyH_take (i := 21) (v := ?_) rfl (by kernel_rfl) (by kernel_rfl) (by kernel_rfl) (fun _ _ _ h => h) (Or.inl ⟨by rfl, ?_⟩) hHeld3 ?_
        rotate_left
        · intro w' hSw
          first | (go_simp; done) | (go_simp; with_reducible rfl)
        try simp only [Act.put, List.getElem_toArray, List.getElem_cons_zero, List.getElem_cons_succ, List.setIfInBounds_toArray, List.set_cons_zero, List.set_cons_succ]
        refine wpAnyH_take (i := 22) (v := ?_) rfl (by kernel_rfl) (by kernel_rfl) (by kernel_rfl) (fun _ _ _ h => h) (Or.inl ⟨by rfl, ?_⟩) hHeld3 ?_
        rotate_left
        · intro w' hSw
          first | (go_simp; done) | (go_simp; with_reducible rfl)
        try simp only [Act.put, List.getElem_toArray, List.getElem_cons_zero, List.getElem_cons_succ, List.setIfInBounds_toArray, List.set_cons_zero, List.set_cons_succ]
        refine wpAnyH_take (i := 23) (v := ?_) rfl (by kernel_rfl) (by kernel_rfl) (by kernel_rfl) (fun _ _ _ h => h) (Or.inl ⟨by rfl, ?_⟩) hHeld3 ?_
        rotate_left
        · intro w' hSw
          have hc : ∀ j, w'.cell? ⟨b, j, none⟩ = wr.cell? ⟨b, j, none⟩ := fun j => hSw.cell (p := ⟨b, j, none⟩) hbw
          first | (go_simp; done) | (go_simp; with_reducible rfl)
        try simp only [Act.put, List.getElem_toArray, List.getElem_cons_zero, List.getElem_cons_succ, List.setIfInBounds_toArray, List.set_cons_zero, List.set_cons_succ]
        refine wpAnyH_ready (rs := [24]) (by kernel_rfl) (by simp) ?_
        refine AllReadyH.cons rfl (fun K hK => ?_) AllReadyH.nil
        go_simp
        go_wp2_with (go_at_call 8; (with_reducible refine (HRt.out _ hHeld3).mono ?_); rintro e3 w3 ⟨rfl, hB3⟩)
        have hHeld4 := hHeld3.trans (hB3.mono hHeld3.size)
        refine hK.out _ _ hHeld4 (fun _ => ?_)
        clear hK K
        try simp only [Act.put, List.getElem_toArray, List.getElem_cons_zero, List.getElem_cons_succ, List.setIfInBounds_toArray, List.set_cons_zero, List.set_cons_succ]
        refine wpAnyH_take (i := 25) (v := ?_) rfl (by kernel_rfl) (by kernel_rfl) (by kernel_rfl) (fun _ _ _ h => h) (Or.inl ⟨by rfl, ?_⟩) hHeld4 ?_
        rotate_left
        · intro w' hSw
          first | (go_simp; done) | (go_simp; with_reducible rfl)
        try simp only [Act.put, List.getElem_toArray, List.getElem_cons_zero, List.getElem_cons_succ, List.setIfInBounds_toArray, List.set_cons_zero, List.set_cons_succ]
        refine wpAnyH_take (i := 26) (v := ?_) rfl (by kernel_rfl) (by kernel_rfl) (by kernel_rfl) (fun _ _ _ h => h) (Or.inl ⟨by rfl, ?_⟩) hHeld4 ?_
        rotate_left
        · intro w' hSw
          first | (go_simp; done) | (go_simp; with_reducible rfl)
        try simp only [Act.put, List.getElem_toArray, List.getElem_cons_zero, List.getElem_cons_succ, List.setIfInBounds_toArray, List.set_cons_zero, List.set_cons_succ]
        have HB4 := hide hHeld4
        clear hHeld hHeld2 hHeld3 hHeld4 hN2 hB2 hB3
        refine wpAnyH_done (by kernel_rfl) ?_ _
        try simp only [Act.put, List.getElem_toArray, List.getElem_cons_zero, List.getElem_cons_succ, List.setIfInBounds_toArray, List.set_cons_zero, List.set_cons_succ]
        have hc3 : ∀ j, w3.cell? ⟨b, j, none⟩ = wr.cell? ⟨b, j, none⟩ := fun j => HB4.out.cell (p := ⟨b, j, none⟩) hbw
        clear HLn HTx HNd HRt
        go_wp2_with (first
          | (go_at_call 9; (with_reducible refine (HIv.out _ HB4.out).mono ?_); rintro e5 w5 ⟨⟨y, rfl, hy⟩, hB5⟩; have HB5 := hide (HB4.out.trans (hB5.mono HB4.out.size)); have Hy := hide hy; clear hy hB5 hc3)
          | (go_at_call 7; (with_reducible refine (HLv.out _ y HB5.out Hy.out).mono ?_); rintro e6 w6 ⟨rfl, hB6⟩; have HB6 := hide (HB5.out.trans (hB6.mono HB5.out.size)); clear hB6)
          | (go_at_call 10; (with_reducible refine (HS1.out _ HB6.out).mono ?_); rintro e7 w7 ⟨N1, rfl, hN1, hB7⟩; have HB7 := hide (HB6.out.trans (hB7.mono HB6.out.size)); have HN1 := hide hN1; clear hB7 hN1)
          | (go_at_call 10; (with_reducible refine (HS2.out _ HB7.out).mono ?_); rintro e8 w8 ⟨N2, rfl, hN2, hB8⟩; have HB8 := hide (HB7.out.trans (hB8.mono HB7.out.size)); have hN1 := (hB8.cell (p := ⟨N1, 1, none⟩) (block_lt_of_cell HN1.out)).trans HN1.out; have hc8 : ∀ j, w8.cell? ⟨b, j, none⟩ = wr.cell? ⟨b, j, none⟩ := (fun j => HB8.out.cell (p := ⟨b, j, none⟩) hbw); clear hB8))
        have hn3 : decide ((n : Int) < 3) = false := by simp; omega
        have hn1 : 1 < n := by omega
        have Hfin := hide (HB.out.trans (HB8.out.mono hsr))
        clear HB8 HB7 HB6 HB5 HB4 HIv HLv HS1 HS2 Hy HN1
        go_quiet ((go_at_call 11; (with_reducible refine (HCt.out _).mono ?_); rintro e9 w9 ⟨rfl, rfl⟩; exact ⟨rfl, _, rfl⟩))
        go_wp2_with fail
        go_roundw
        case rel => exact ⟨q + 1, by omega, by go_num, hide (blw_drewN Hfin.out _)⟩
        case measure => simp [intOf]; omega
      · have es : saidB d.pt = [63] := by unfold saidB; rw [if_neg hok]
        have HRy : Hid (∀ W, Below wr.heap.size wr W → Calls Tryz.prog 8 #[.agg #[.int .u8 d.pt.kind, .string d.pt.file, .string d.pt.text, .int .i64 d.pt.hunk.at_, .slice x.h.oA d.pt.hunk.old.length x.h.oc, .slice x.h.nA d.pt.hunk.new.length x.h.nc, .int .u8 d.pt.edit.kind, .slice x.e.pA d.pt.edit.path.length x.e.pc, .int .i64 d.pt.edit.at_, .int .i64 d.pt.edit.far, .string d.pt.edit.frm, .string d.pt.edit.to, .slice x.e.oA d.pt.edit.old.len x.e.oc, .slice x.e.nA d.pt.edit.new.len x.e.nc]] W fun e w' => e = .returned (.bool false) ∧ Below W.heap.size W w') := hide (by
          intro W hW
          refine (HRt.out W hW).mono ?_
          rintro e w' ⟨⟨y, rfl, hy⟩, hB⟩
          have hy2 : y = false := by
            cases y with
            | false => rfl
            | true => exact absurd (hy.1 rfl) hok
          exact ⟨by rw [hy2], hB⟩)
        clear HRt
        have HRt := HRy
        clear HRy
        have hst : sayS d = d.name ++ ⟨#[58, 32]⟩ ++ ⟨#[63]⟩ ++ ⟨#[10]⟩ := by unfold sayS; rw [es]
        rw [hst] at HTx
        have HLo : Hid (∀ W, Below wr.heap.size wr W → Calls Tryz.prog 7 #[.agg #[.int .u8 d.pt.kind, .string d.pt.file, .string d.pt.text, .int .i64 d.pt.hunk.at_, .slice x.h.oA d.pt.hunk.old.length x.h.oc, .slice x.h.nA d.pt.hunk.new.length x.h.nc, .int .u8 d.pt.edit.kind, .slice x.e.pA d.pt.edit.path.length x.e.pc, .int .i64 d.pt.edit.at_, .int .i64 d.pt.edit.far, .string d.pt.edit.frm, .string d.pt.edit.to, .slice x.e.oA d.pt.edit.old.len x.e.oc, .slice x.e.nA d.pt.edit.new.len x.e.nc]] W fun e w' => e = .returned (.string ⟨#[63]⟩) ∧ Below W.heap.size W w') := by
          rw [es] at HLn
          exact HLn
        clear HLn
        have HLn := HLo
        clear HLo
        rw [es] at hzr
        have hz2 : ¬ 9223372036854775807 < d.name.size + 2 + 1 := by simp at hzr; omega
        have hz3 : ¬ 9223372036854775807 < d.name.size + 2 + 1 + 1 := by simp at hzr; omega
        clear hmem hd0 hf hfd hsd hrow hzr hpo es hst hp hok
        go_wp2_with (go_at_call 7; (with_reducible refine (HLn.out _ (Below.refl _ _)).mono ?_); rintro e1 w1 ⟨rfl, hB1⟩; have HB1 := hide hB1; clear hB1)
        have hd1 : Below wr.heap.size wr w1.drew := HB1.out.trans ((blw_drewN (Below.refl _ _) 1 : Below w1.heap.size w1 w1.drew).mono HB1.out.size)
        refine wp_region_held_drew (S := Below wr.heap.size wr) (by kernel_rfl) hd1 (fun hHeld => ?_)
        generalize w1.drew = wD at hHeld ⊢
        refine wpAnyH_take (i := 0) (v := ?_) rfl (by kernel_rfl) (by kernel_rfl) (by kernel_rfl) (fun _ _ _ h => h) (Or.inl ⟨by rfl, ?_⟩) hHeld ?_
        rotate_left
        · intro w' hSw
          first | (go_simp; done) | (go_simp; with_reducible rfl)
        try simp only [Act.put, List.getElem_toArray, List.getElem_cons_zero, List.getElem_cons_succ, List.setIfInBounds_toArray, List.set_cons_zero, List.set_cons_succ]
        refine wpAnyH_take (i := 1) (v := ?_) rfl (by kernel_rfl) (by kernel_rfl) (by kernel_rfl) (fun _ _ _ h => h) (Or.inl ⟨by rfl, ?_⟩) hHeld ?_
        rotate_left
        · intro w' hSw
          first | (go_simp; done) | (go_simp; with_reducible rfl)
        try simp only [Act.put, List.getElem_toArray, List.getElem_cons_zero, List.getElem_cons_succ, List.setIfInBounds_toArray, List.set_cons_zero, List.set_cons_succ]
        refine wpAnyH_take (i := 2) (v := ?_) rfl (by kernel_rfl) (by kernel_rfl) (by kernel_rfl) (fun _ _ _ h => h) (Or.inl ⟨by rfl, ?_⟩) hHeld ?_
        rotate_left
        · intro w' hSw
          first | (go_simp; done) | (go_simp; with_reducible rfl)
        try simp only [Act.put, List.getElem_toArray, List.getElem_cons_zero, List.getElem_cons_succ, List.setIfInBounds_toArray, List.set_cons_zero, List.set_cons_succ]
        refine wpAnyH_take (i := 3) (v := ?_) rfl (by kernel_rfl) (by kernel_rfl) (by kernel_rfl) (fun _ _ _ h => h) (Or.inl ⟨by rfl, ?_⟩) hHeld ?_
        rotate_left
        · intro w' hSw
          have hc : ∀ j, w'.cell? ⟨b, j, none⟩ = wr.cell? ⟨b, j, none⟩ := fun j => hSw.cell (p := ⟨b, j, none⟩) hbw
          first | (go_simp; done) | (go_simp; with_reducible rfl)
        try simp only [Act.put, List.getElem_toArray, List.getElem_cons_zero, List.getElem_cons_succ, List.setIfInBounds_toArray, List.set_cons_zero, List.set_cons_succ]
        refine wpAnyH_take (i := 6) (v := ?_) rfl (by kernel_rfl) (by kernel_rfl) (by kernel_rfl) (fun _ _ _ h => h) (Or.inl ⟨by rfl, ?_⟩) hHeld ?_
        rotate_left
        · intro w' hSw
          first | (go_simp; done) | (go_simp; with_reducible rfl)
        try simp only [Act.put, List.getElem_toArray, List.getElem_cons_zero, List.getElem_cons_succ, List.setIfInBounds_toArray, List.set_cons_zero, List.set_cons_succ]
        refine wpAnyH_take (i := 7) (v := ?_) rfl (by kernel_rfl) (by kernel_rfl) (by kernel_rfl) (fun _ _ _ h => h) (Or.inl ⟨by rfl, ?_⟩) hHeld ?_
        rotate_left
        · intro w' hSw
          first | (go_simp; done) | (go_simp; with_reducible rfl)
        try simp only [Act.put, List.getElem_toArray, List.getElem_cons_zero, List.getElem_cons_succ, List.setIfInBounds_toArray, List.set_cons_zero, List.set_cons_succ]
        refine wpAnyH_take (i := 8) (v := ?_) rfl (by kernel_rfl) (by kernel_rfl) (by kernel_rfl) (fun _ _ _ h => h) (Or.inl ⟨by rfl, ?_⟩) hHeld ?_
        rotate_left
        · intro w' hSw
          first | (go_simp; done) | (go_simp; with_reducible rfl)
        try simp only [Act.put, List.getElem_toArray, List.getElem_cons_zero, List.getElem_cons_succ, List.setIfInBounds_toArray, List.set_cons_zero, List.set_cons_succ]
        refine wpAnyH_take (i := 9) (v := ?_) rfl (by kernel_rfl) (by kernel_rfl) (by kernel_rfl) (fun _ _ _ h => h) (Or.inl ⟨by rfl, ?_⟩) hHeld ?_
        rotate_left
        · intro w' hSw
          first | (go_simp; done) | (go_simp; with_reducible rfl)
        try simp only [Act.put, List.getElem_toArray, List.getElem_cons_zero, List.getElem_cons_succ, List.setIfInBounds_toArray, List.set_cons_zero, List.set_cons_succ]
        refine wpAnyH_take (i := 10) (v := ?_) rfl (by kernel_rfl) (by kernel_rfl) (by kernel_rfl) (fun _ _ _ h => h) (Or.inl ⟨by rfl, ?_⟩) hHeld ?_
        rotate_left
        · intro w' hSw
          have hc : ∀ j, w'.cell? ⟨b, j, none⟩ = wr.cell? ⟨b, j, none⟩ := fun j => hSw.cell (p := ⟨b, j, none⟩) hbw
          first | (go_simp; done) | (go_simp; with_reducible rfl)
        try simp only [Act.put, List.getElem_toArray, List.getElem_cons_zero, List.getElem_cons_succ, List.setIfInBounds_toArray, List.set_cons_zero, List.set_cons_succ]
        refine wpAnyH_take (i := 11) (v := ?_) rfl (by kernel_rfl) (by kernel_rfl) (by kernel_rfl) (fun _ _ _ h => h) (Or.inl ⟨by rfl, ?_⟩) hHeld ?_
        rotate_left
        · intro w' hSw
          first | (go_simp; done) | (go_simp; with_reducible rfl)
        try simp only [Act.put, List.getElem_toArray, List.getElem_cons_zero, List.getElem_cons_succ, List.setIfInBounds_toArray, List.set_cons_zero, List.set_cons_succ]
        refine wpAnyH_take (i := 12) (v := ?_) rfl (by kernel_rfl) (by kernel_rfl) (by kernel_rfl) (fun _ _ _ h => h) (Or.inl ⟨by rfl, ?_⟩) hHeld ?_
        rotate_left
        · intro w' hSw
          first | (go_simp; done) | (go_simp; with_reducible rfl)
        try simp only [Act.put, List.getElem_toArray, List.getElem_cons_zero, List.getElem_cons_succ, List.setIfInBounds_toArray, List.set_cons_zero, List.set_cons_succ]
        refine wpAnyH_take (i := 13) (v := ?_) rfl (by kernel_rfl) (by kernel_rfl) (by kernel_rfl) (fun _ _ _ h => h) (Or.inl ⟨by rfl, ?_⟩) hHeld ?_
        rotate_left
        · intro w' hSw
          first | (go_simp; done) | (go_simp; with_reducible rfl)
        try simp only [Act.put, List.getElem_toArray, List.getElem_cons_zero, List.getElem_cons_succ, List.setIfInBounds_toArray, List.set_cons_zero, List.set_cons_succ]
        refine wpAnyH_take (i := 14) (v := ?_) rfl (by kernel_rfl) (by kernel_rfl) (by kernel_rfl) (fun _ _ _ h => h) (Or.inl ⟨by rfl, ?_⟩) hHeld ?_
        rotate_left
        · intro w' hSw
          first | (go_simp; done) | (go_simp; with_reducible rfl)
        try simp only [Act.put, List.getElem_toArray, List.getElem_cons_zero, List.getElem_cons_succ, List.setIfInBounds_toArray, List.set_cons_zero, List.set_cons_succ]
        refine wpAnyH_ready (rs := [4]) (by kernel_rfl) (by simp) ?_
        refine AllReadyH.cons rfl (fun K hK => ?_) AllReadyH.nil
        go_simp
        refine hK.out _ _ (hHeld.trans ((below_alloc wD _).mono hHeld.size)) (fun hHeld2 => ?_)
        clear hK K
        try simp only [Act.put, List.getElem_toArray, List.getElem_cons_zero, List.getElem_cons_succ, List.setIfInBounds_toArray, List.set_cons_zero, List.set_cons_succ]
        have hN2 := HNd.out wD hHeld
        refine wpAnyH_ready (rs := [5]) (by kernel_rfl) (by simp) ?_
        refine AllReadyH.cons rfl (fun K hK => ?_) AllReadyH.nil
        go_simp
        go_wp2_with (go_at_call 6; (with_reducible refine (HTx.out _ _ hN2 hHeld2).mono ?_); rintro e2 w2 ⟨rfl, hB2⟩)
        have hHeld3 := hHeld2.trans (hB2.mono hHeld2.size)
        refine hK.out _ _ hHeld3 (fun _ => ?_)
        clear hK K
        try simp only [Act.put, List.getElem_toArray, List.getElem_cons_zero, List.getElem_cons_succ, List.setIfInBounds_toArray, List.set_cons_zero, List.set_cons_succ]
        refine wpAnyH_take (i := 15) (v := ?_) rfl (by kernel_rfl) (by kernel_rfl) (by kernel_rfl) (fun _ _ _ h => h) (Or.inl ⟨by rfl, ?_⟩) hHeld3 ?_
        rotate_left
        · intro w' hSw
          first | (go_simp; done) | (go_simp; with_reducible rfl)
        try simp only [Act.put, List.getElem_toArray, List.getElem_cons_zero, List.getElem_cons_succ, List.setIfInBounds_toArray, List.set_cons_zero, List.set_cons_succ]
        refine wpAnyH_take (i := 16) (v := ?_) rfl (by kernel_rfl) (by kernel_rfl) (by kernel_rfl) (fun _ _ _ h => h) (Or.inl ⟨by rfl, ?_⟩) hHeld3 ?_
        rotate_left
        · intro w' hSw
          first | (go_simp; done) | (go_simp; with_reducible rfl)
        try simp only [Act.put, List.getElem_toArray, List.getElem_cons_zero, List.getElem_cons_succ, List.setIfInBounds_toArray, List.set_cons_zero, List.set_cons_succ]
        refine wpAnyH_take (i := 17) (v := ?_) rfl (by kernel_rfl) (by kernel_rfl) (by kernel_rfl) (fun _ _ _ h => h) (Or.inl ⟨by rfl, ?_⟩) hHeld3 ?_
        rotate_left
        · intro w' hSw
          first | (go_simp; done) | (go_simp; with_reducible rfl)
        try simp only [Act.put, List.getElem_toArray, List.getElem_cons_zero, List.getElem_cons_succ, List.setIfInBounds_toArray, List.set_cons_zero, List.set_cons_succ]
        refine wpAnyH_take (i := 18) (v := ?_) rfl (by kernel_rfl) (by kernel_rfl) (by kernel_rfl) (fun _ _ _ h => h) (Or.inl ⟨by rfl, ?_⟩) hHeld3 ?_
        rotate_left
        · intro w' hSw
          first | (go_simp; done) | (go_simp; with_reducible rfl)
        try simp only [Act.put, List.getElem_toArray, List.getElem_cons_zero, List.getElem_cons_succ, List.setIfInBounds_toArray, List.set_cons_zero, List.set_cons_succ]
        refine wpAnyH_take (i := 19) (v := ?_) rfl (by kernel_rfl) (by kernel_rfl) (by kernel_rfl) (fun _ _ _ h => h) (Or.inl ⟨by rfl, ?_⟩) hHeld3 ?_
        rotate_left
        · intro w' hSw
          first | (go_simp; done) | (go_simp; with_reducible rfl)
        try simp only [Act.put, List.getElem_toArray, List.getElem_cons_zero, List.getElem_cons_succ, List.setIfInBounds_toArray, List.set_cons_zero, List.set_cons_succ]
        refine wpAnyH_take (i := 20) (v := ?_) rfl (by kernel_rfl) (by kernel_rfl) (by kernel_rfl) (fun _ _ _ h => h) (Or.inl ⟨by rfl, ?_⟩) hHeld3 ?_
        rotate_left
        · intro w' hSw
          first | (go_simp; done) | (go_simp; with_reducible rfl)
        try simp only [Act.put, List.getElem_toArray, List.getElem_cons_zero, List.getElem_cons_succ, List.setIfInBounds_toArray, List.set_cons_zero, List.set_cons_succ]
        refine wpAnyH_take (i := 21) (v := ?_) rfl (by kernel_rfl) (by kernel_rfl) (by kernel_rfl) (fun _ _ _ h => h) (Or.inl ⟨by rfl, ?_⟩) hHeld3 ?_
        rotate_left
        · intro w' hSw
          first | (go_simp; done) | (go_simp; with_reducible rfl)
        try simp only [Act.put, List.getElem_toArray, List.getElem_cons_zero, List.getElem_cons_succ, List.setIfInBounds_toArray, List.set_cons_zero, List.set_cons_succ]
        refine wpAnyH_take (i := 22) (v := ?_) rfl (by kernel_rfl) (by kernel_rfl) (by kernel_rfl) (fun _ _ _ h => h) (Or.inl ⟨by rfl, ?_⟩) hHeld3 ?_
        rotate_left
        · intro w' hSw
          first | (go_simp; done) | (go_simp; with_reducible rfl)
        try simp only [Act.put, List.getElem_toArray, List.getElem_cons_zero, List.getElem_cons_succ, List.setIfInBounds_toArray, List.set_cons_zero, List.set_cons_succ]
        refine wpAnyH_take (i := 23) (v := ?_) rfl (by kernel_rfl) (by kernel_rfl) (by kernel_rfl) (fun _ _ _ h => h) (Or.inl ⟨by rfl, ?_⟩) hHeld3 ?_
        rotate_left
        · intro w' hSw
          have hc : ∀ j, w'.cell? ⟨b, j, none⟩ = wr.cell? ⟨b, j, none⟩ := fun j => hSw.cell (p := ⟨b, j, none⟩) hbw
          first | (go_simp; done) | (go_simp; with_reducible rfl)
        try simp only [Act.put, List.getElem_toArray, List.getElem_cons_zero, List.getElem_cons_succ, List.setIfInBounds_toArray, List.set_cons_zero, List.set_cons_succ]
        refine wpAnyH_ready (rs := [24]) (by kernel_rfl) (by simp) ?_
        refine AllReadyH.cons rfl (fun K hK => ?_) AllReadyH.nil
        go_simp
        go_wp2_with (go_at_call 8; (with_reducible refine (HRt.out _ hHeld3).mono ?_); rintro e3 w3 ⟨rfl, hB3⟩)
        have hHeld4 := hHeld3.trans (hB3.mono hHeld3.size)
        refine hK.out _ _ hHeld4 (fun _ => ?_)
        clear hK K
        try simp only [Act.put, List.getElem_toArray, List.getElem_cons_zero, List.getElem_cons_succ, List.setIfInBounds_toArray, List.set_cons_zero, List.set_cons_succ]
        refine wpAnyH_take (i := 25) (v := ?_) rfl (by kernel_rfl) (by kernel_rfl) (by kernel_rfl) (fun _ _ _ h => h) (Or.inl ⟨by rfl, ?_⟩) hHeld4 ?_
        rotate_left
        · intro w' hSw
          first | (go_simp; done) | (go_simp; with_reducible rfl)
        try simp only [Act.put, List.getElem_toArray, List.getElem_cons_zero, List.getElem_cons_succ, List.setIfInBounds_toArray, List.set_cons_zero, List.set_cons_succ]
        refine wpAnyH_take (i := 26) (v := ?_) rfl (by kernel_rfl) (by kernel_rfl) (by kernel_rfl) (fun _ _ _ h => h) (Or.inl ⟨by rfl, ?_⟩) hHeld4 ?_
        rotate_left
        · intro w' hSw
          first | (go_simp; done) | (go_simp; with_reducible rfl)
        try simp only [Act.put, List.getElem_toArray, List.getElem_cons_zero, List.getElem_cons_succ, List.setIfInBounds_toArray, List.set_cons_zero, List.set_cons_succ]
        have HB4 := hide hHeld4
        clear hHeld hHeld2 hHeld3 hHeld4 hN2 hB2 hB3
        refine wpAnyH_done (by kernel_rfl) ?_ _
        try simp only [Act.put, List.getElem_toArray, List.getElem_cons_zero, List.getElem_cons_succ, List.setIfInBounds_toArray, List.set_cons_zero, List.set_cons_succ]
        go_wp2_with fail
        go_roundw
        case rel => exact ⟨q + 1, by omega, by go_num, hide (HB.out.trans (HB4.out.mono hsr))⟩
        case measure => simp [intOf]; omega
    · have hqe : q = l.length := by omega
      subst hqe
      go_wp2_with fail
      go_ret
      exact ⟨rfl, HB.out⟩

end Go.Proofs.YtpocmfilpecfdaaGreatDoor
