/- The lines of a row of named patches, as the document tells (ref28.Text). Printed by gen_ref28l.py. -/
import Derived.Test.YtadilmijppdpoaaGreatDoorTRef28L
import Derived.Test.YtadilmijppdpoaaGreatDoorTLogText
import Derived.Test.YtadilmijppdpoaaGreatDoorTKeptNr
import Derived.Test.YtadilmijppdpoaaGreatDoorTCount

set_option linter.unusedVariables false
set_option linter.unusedSimpArgs false

namespace Go.Proofs.YtadilmijppdpoaaGreatDoor
open Go.RowKit

theorem say_next {l : List Nd} {q : Nat} {d : Nd} (h : l[q]? = some d) : (⟨(sayAll (l.take (q + 1))).toArray⟩ : ByteArray) = ⟨(sayAll (l.take q)).toArray⟩ ++ d.name ++ ⟨#[58, 32]⟩ ++ ⟨(saidB d.pt).toArray⟩ ++ ⟨#[10]⟩ := by
  rw [List.take_add_one, h]
  apply ba_eq
  simp [sayAll, sayB]
theorem say_len {l : List Nd} {q : Nat} {d : Nd} (h : l[q]? = some d) : (⟨(sayAll (l.take q)).toArray⟩ : ByteArray).size + d.name.size + 2 + (⟨(saidB d.pt).toArray⟩ : ByteArray).size + 1 ≤ (sayAll l).length := by
  have h1 : (sayAll (l.take (q + 1))).length = (sayAll (l.take q)).length + d.name.size + 2 + (saidB d.pt).length + 1 := by
    have e1 : d.name.data.toList.length = d.name.size := rfl
    have e2 : (sayAll [d]).length = d.name.size + 2 + (saidB d.pt).length + 1 := by
      simp only [sayAll, List.map_cons, List.map_nil, List.flatten_cons, List.flatten_nil, List.append_nil, sayB, List.length_append, List.length_cons, List.length_nil, e1]
      omega
    rw [List.take_add_one, h]
    show (sayAll (l.take q ++ [d])).length = _
    rw [sayAll_app, List.length_append, e2]
    omega
  have h2 : (sayAll l).length = (sayAll (l.take (q + 1))).length + (sayAll (l.drop (q + 1))).length := by
    rw [← List.length_append, ← sayAll_app, List.take_append_drop]
  have e1 : ∀ l : List UInt8, (⟨l.toArray⟩ : ByteArray).size = l.length := fun l => by simp [ByteArray.size]
  have e2 := e1 (sayAll (l.take q))
  have e3 := e1 (saidB d.pt)
  omega
set_option maxHeartbeats 4000000 in
set_option maxRecDepth 100000 in
theorem text28_any {S : Nat → Prop} {A : Option Addr} {c : Nat} {l : List Nd} {w : World} (h : NdIn S w A l) (hl : l.length ≤ 9223372036854775807) (htab : TabP w.heap.size w) (hfit : NdFit l) (hlen : (sayAll l).length ≤ 140737488355328) :
    Calls Tryz.prog 11 #[.slice A l.length c] w fun e w' => e = .returned (.string ⟨(sayAll l).toArray⟩) ∧ Below w.heap.size w w' := by
  have H := hide h
  have HT := hide htab
  have HF := hide hfit
  have Hlen := hide hlen
  clear h htab hfit hlen
  go_enter Tryz.func11, Tryz.ntmps11
  go_wp2_with fail
  go_loopw [4, 3] (fun i s wr => ∃ (q : Nat) (t : ByteArray), q ≤ l.length ∧ i = .int .i64 q ∧ s = .string t ∧ Hid (t = ⟨(sayAll (l.take q)).toArray⟩) ∧ Hid (Below w.heap.size w wr)) (fun i _ _ => l.length - (intOf i).toNat)
  case atStart => exact ⟨0, _, Nat.zero_le _, rfl, rfl, hide (by simp [sayAll]), hide (Below.refl _ _)⟩
  case round =>
    obtain ⟨q, t, hq, rfl, rfl, Ht, HB⟩ := hrel
    by_cases hlt : q < l.length
    · obtain ⟨b, o, x, d, rfl, hd, ⟨c0, c1, c2, c3, c4, c5, c6, c7, c8, c9, c10, c11, c12, c13, c14⟩, hn, hp⟩ := (H.out.below HB.out).at_ hlt
      have hf := HF.out d (List.mem_of_getElem? hd)
      have hsl := say_len hd
      have hnx := say_next hd
      have hle := Hlen.out
      rw [← Ht.out] at hsl hnx
      obtain ⟨y, hy⟩ : ∃ y : ByteArray, y = ⟨(saidB d.pt).toArray⟩ := ⟨_, rfl⟩
      rw [← hy] at hsl hnx
      have Hnx := hide hnx
      have HL : Hid (∀ W, Below wr.heap.size wr W → Calls Tryz.prog 9 #[.agg #[.int .u8 d.pt.kind, .string d.pt.file, .string d.pt.text, .int .i64 d.pt.hunk.at_, .slice x.h.oA d.pt.hunk.old.length x.h.oc, .slice x.h.nA d.pt.hunk.new.length x.h.nc, .int .u8 d.pt.edit.kind, .slice x.e.pA d.pt.edit.path.length x.e.pc, .int .i64 d.pt.edit.at_, .int .i64 d.pt.edit.far, .string d.pt.edit.frm, .string d.pt.edit.to, .slice x.e.oA d.pt.edit.old.len x.e.oc, .slice x.e.nA d.pt.edit.new.len x.e.nc]] W fun e w' => e = .returned (.string y) ∧ Below W.heap.size W w') := hide fun W hW => by
        rw [hy]
        have h9 := blw_up HB.out hW
        exact line28_any (hp.below hW) ((HT.out.below h9).up h9.size) hf.2
      have hbb : b < wr.heap.size := block_lt_of_cell c0
      have z1 : ¬ 9223372036854775807 < t.size + d.name.size := by omega
      have z2 : ¬ 9223372036854775807 < t.size + d.name.size + 2 := by omega
      have z3 : ¬ 9223372036854775807 < t.size + d.name.size + 2 + y.size := by omega
      have z4 : ¬ 9223372036854775807 < t.size + d.name.size + 2 + y.size + 1 := by omega
      clear hd hp hf hsl hnx hy hn hle
      go_wp2_with fail
      have hd1 : Below wr.heap.size wr wr.drew := blw_drewN (Below.refl _ _) 1
      refine wp_region_held_drew (S := Below wr.heap.size wr) (by kernel_rfl) hd1 (fun hHeld => ?_)
      generalize wr.drew = wD at hHeld ⊢
      refine tk (v := ?_) 0 hHeld ?_ ?_
      rotate_left
      · intro w' hSw
        first | (go_simp; done) | (go_simp; with_reducible rfl)
      try simp only [List.set_cons_zero, List.set_cons_succ]
      refine tk (v := ?_) 1 hHeld ?_ ?_
      rotate_left
      · intro w' hSw
        first | (go_simp; done) | (go_simp; with_reducible rfl)
      try simp only [List.set_cons_zero, List.set_cons_succ]
      refine tk (v := ?_) 2 hHeld ?_ ?_
      rotate_left
      · intro w' hSw
        first | (go_simp; done) | (go_simp; with_reducible rfl)
      try simp only [List.set_cons_zero, List.set_cons_succ]
      refine tk (v := ?_) 3 hHeld ?_ ?_
      rotate_left
      · intro w' hSw
        first | (go_simp; done) | (go_simp; with_reducible rfl)
      try simp only [List.set_cons_zero, List.set_cons_succ]
      refine tk (v := ?_) 4 hHeld ?_ ?_
      rotate_left
      · intro w' hSw
        first | (go_simp; done) | (go_simp; with_reducible rfl)
      try simp only [List.set_cons_zero, List.set_cons_succ]
      refine tk (v := ?_) 5 hHeld ?_ ?_
      rotate_left
      · intro w' hSw
        have f0 := (hSw.cell (p := ⟨b, o + q * 15, none⟩) hbb).trans c0
        first | (go_simp; done) | (go_simp; with_reducible rfl)
      try simp only [List.set_cons_zero, List.set_cons_succ]
      refine tk (v := ?_) 6 hHeld ?_ ?_
      rotate_left
      · intro w' hSw
        first | (go_simp; done) | (go_simp; with_reducible rfl)
      try simp only [List.set_cons_zero, List.set_cons_succ]
      refine tk (v := ?_) 7 hHeld ?_ ?_
      rotate_left
      · intro w' hSw
        first | (go_simp; done) | (go_simp; with_reducible rfl)
      try simp only [List.set_cons_zero, List.set_cons_succ]
      refine tk (v := ?_) 8 hHeld ?_ ?_
      rotate_left
      · intro w' hSw
        first | (go_simp; done) | (go_simp; with_reducible rfl)
      try simp only [List.set_cons_zero, List.set_cons_succ]
      refine tk (v := ?_) 9 hHeld ?_ ?_
      rotate_left
      · intro w' hSw
        first | (go_simp; done) | (go_simp; with_reducible rfl)
      try simp only [List.set_cons_zero, List.set_cons_succ]
      refine tk (v := ?_) 10 hHeld ?_ ?_
      rotate_left
      · intro w' hSw
        first | (go_simp; done) | (go_simp; with_reducible rfl)
      try simp only [List.set_cons_zero, List.set_cons_succ]
      refine tk (v := ?_) 11 hHeld ?_ ?_
      rotate_left
      · intro w' hSw
        first | (go_simp; done) | (go_simp; with_reducible rfl)
      try simp only [List.set_cons_zero, List.set_cons_succ]
      refine tk (v := ?_) 12 hHeld ?_ ?_
      rotate_left
      · intro w' hSw
        have f1 := (hSw.cell (p := ⟨b, o + q * 15 + 1, none⟩) hbb).trans c1
        have f2 := (hSw.cell (p := ⟨b, o + q * 15 + 2, none⟩) hbb).trans c2
        have f3 := (hSw.cell (p := ⟨b, o + q * 15 + 3, none⟩) hbb).trans c3
        have f4 := (hSw.cell (p := ⟨b, o + q * 15 + 4, none⟩) hbb).trans c4
        have f5 := (hSw.cell (p := ⟨b, o + q * 15 + 5, none⟩) hbb).trans c5
        have f6 := (hSw.cell (p := ⟨b, o + q * 15 + 6, none⟩) hbb).trans c6
        have f7 := (hSw.cell (p := ⟨b, o + q * 15 + 7, none⟩) hbb).trans c7
        have f8 := (hSw.cell (p := ⟨b, o + q * 15 + 8, none⟩) hbb).trans c8
        have f9 := (hSw.cell (p := ⟨b, o + q * 15 + 9, none⟩) hbb).trans c9
        have f10 := (hSw.cell (p := ⟨b, o + q * 15 + 10, none⟩) hbb).trans c10
        have f11 := (hSw.cell (p := ⟨b, o + q * 15 + 11, none⟩) hbb).trans c11
        have f12 := (hSw.cell (p := ⟨b, o + q * 15 + 12, none⟩) hbb).trans c12
        have f13 := (hSw.cell (p := ⟨b, o + q * 15 + 13, none⟩) hbb).trans c13
        have f14 := (hSw.cell (p := ⟨b, o + q * 15 + 14, none⟩) hbb).trans c14
        first | (go_simp; done) | (go_simp; with_reducible rfl)
      try simp only [List.set_cons_zero, List.set_cons_succ]
      refine wpAnyH_ready (rs := [13]) (by kernel_rfl) (by simp) ?_
      refine AllReadyH.cons rfl (fun K hK => ?_) AllReadyH.nil
      go_simp
      go_wp2_with (go_at_call 9; (with_reducible refine (HL.out _ hHeld).mono ?_); rintro e1 w1 ⟨rfl, hB1⟩)
      replace hHeld := hHeld.trans (hB1.mono hHeld.size)
      refine hK.out _ _ hHeld (fun _ => ?_)
      clear hK K hB1
      try simp only [Act.put, List.getElem_toArray, List.getElem_cons_zero, List.getElem_cons_succ, List.setIfInBounds_toArray, List.set_cons_zero, List.set_cons_succ]
      refine tk (v := ?_) 14 hHeld ?_ ?_
      rotate_left
      · intro w' hSw
        first | (go_simp; done) | (go_simp; with_reducible rfl)
      try simp only [List.set_cons_zero, List.set_cons_succ]
      refine tk (v := ?_) 15 hHeld ?_ ?_
      rotate_left
      · intro w' hSw
        first | (go_simp; done) | (go_simp; with_reducible rfl)
      try simp only [List.set_cons_zero, List.set_cons_succ]
      refine tk (v := ?_) 16 hHeld ?_ ?_
      rotate_left
      · intro w' hSw
        first | (go_simp; done) | (go_simp; with_reducible rfl)
      try simp only [List.set_cons_zero, List.set_cons_succ]
      have HBe := hide (blw_up HB.out hHeld)
      refine wpAnyH_done (by kernel_rfl) ?_ _
      try simp only [Act.put, List.getElem_toArray, List.getElem_cons_zero, List.getElem_cons_succ, List.setIfInBounds_toArray, List.set_cons_zero, List.set_cons_succ]
      go_wp2_with fail
      go_roundw
      case rel => exact ⟨q + 1, _, by omega, by go_num, rfl, hide (by rw [Hnx.out]), HBe⟩
      case measure => simp [intOf]; omega
    · obtain rfl : q = l.length := by omega
      go_wp2_with fail
      go_ret
      refine ⟨?_, HB.out⟩
      have h9 := Ht.out
      rw [List.take_length] at h9
      rw [← h9]
      rfl

end Go.Proofs.YtadilmijppdpoaaGreatDoor

namespace Go.Proofs.YtadilmijppdpoaaGreatDoor
open Go.RowKit

set_option maxHeartbeats 8000000 in
set_option maxRecDepth 1000000 in
theorem logTells_any {S : Nat → Prop} {A : Option Addr} {cA : Nat} {l : List Nd} {w : World} (hl : NdIn S w A l) (hcl : l.length ≤ 1048576) (hs : NdSmall l) (htab : TabOk w) (hpow : TabP w.heap.size w) (hfl : NdFit l) (hlen : (sayAll l).length ≤ 140737488355328) :
    Calls Tryz.prog 3 #[.slice A l.length cA] w fun e w' => e = .returned (.bool true) ∧ Below w.heap.size w w' := by
  have H := hide hl
  have HS := hide hs
  have HT := hide htab
  have HP := hide hpow
  have HF := hide hfl
  have Hlen := hide hlen
  have h3000 : is63 3000 := by unfold is63; omega
  have hTT := hide (fun (W : World) (hW : Below w.heap.size w W) => And.intro (HT.out.below hW) ((HP.out.below hW).up hW.size))
  clear hl hs htab hpow hfl hlen
  go_enter Tryz.func3, Tryz.ntmps3
  go_wp2_with (first
    | (go_at_call 5; (with_reducible refine (namedOf_any (l := l) H.out h3000 (Nat.le_trans hcl (by omega))).mono ?_); rintro e1 w1 ⟨⟨r1, rfl, hr1⟩, hB1⟩; have HB1 := hide hB1; have hs1 := hB1.size; clear hB1 hr1)
    | (go_at_call 6; (with_reducible refine (awake_any (hTT.out _ HB1.out).1 (hTT.out _ HB1.out).2).mono ?_); rintro e2 w2 ⟨rfl, hB2⟩; have HB2 := hide (HB1.out.trans (hB2.mono hs1)); clear hB2)
    | (go_at_call 7; (with_reducible refine (lentNamedRow_any (l := l) (H.out.below HB1.out) (Nat.le_trans hcl (by omega)) HS.out).mono ?_); rintro e2 w2 ⟨A2, c2, rfl, hL, hB2⟩; have HL := hide hL; have HB2 := hide (HB1.out.trans (hB2.mono hs1)); have hs2 := HB2.out.size; clear hL hB2))
  · go_ret
    exact ⟨rfl, HB2.out⟩
  · obtain ⟨g, rfl⟩ : ∃ g, A2 = some ⟨g, 0, none⟩ := by obtain ⟨g, e, _⟩ := HL.out; exact ⟨g, e⟩
    have hd : l.length ≤ 9223372036854775807 := by omega
    go_loopw [4] (fun i wr => ∃ q : Nat, q ≤ l.length ∧ i = .int .i64 q ∧ Hid (Below w2.heap.size w2 wr)) (fun i _ => l.length - (intOf i).toNat)
    case atStart => exact ⟨0, Nat.zero_le _, rfl, hide (Below.refl _ _)⟩
    case round =>
      obtain ⟨q, hq, rfl, HBr⟩ := hrel
      have HB := hide (HB2.out.trans (HBr.out.mono hs2))
      have hsr := HB.out.size
      by_cases hlt : q < l.length
      · obtain ⟨b, o, x, d, rfl, hdr, ⟨c0, c1, c2, c3, c4, c5, c6, c7, c8, c9, c10, c11, c12, c13, c14⟩, hn, hp⟩ := (H.out.below HB.out).at_ hlt
        obtain ⟨g', e1, _, _, _, hat⟩ := HL.out.below HBr.out
        injection e1 with e1
        injection e1 with e1
        subst e1
        obtain ⟨y, ⟨d0, d1, d2, d3, d4, d5, d6, d7, d8, d9, d10, d11, d12, d13, d14⟩, hLy⟩ := hat.node_at hdr
        simp only [Nat.zero_add] at d0 d1 d2 d3 d4 d5 d6 d7 d8 d9 d10 d11 d12 d13 d14
        have hf := HF.out d (List.mem_of_getElem? hdr)
        have hgb := block_lt_of_cell d0
        have hbb := block_lt_of_cell c0
        obtain ⟨z, hz⟩ : ∃ z : ByteArray, z = ⟨(saidB d.pt).toArray⟩ := ⟨_, rfl⟩
        have HL1 : Hid (∀ W, Below wr.heap.size wr W → Calls Tryz.prog 8 #[.agg #[.int .u8 d.pt.kind, .string d.pt.file, .string d.pt.text, .int .i64 d.pt.hunk.at_, .slice y.h.oA d.pt.hunk.old.length y.h.oc, .slice y.h.nA d.pt.hunk.new.length y.h.nc, .int .u8 d.pt.edit.kind, .slice y.e.pA d.pt.edit.path.length y.e.pc, .int .i64 d.pt.edit.at_, .int .i64 d.pt.edit.far, .string d.pt.edit.frm, .string d.pt.edit.to, .slice y.e.oA d.pt.edit.old.len y.e.oc, .slice y.e.nA d.pt.edit.new.len y.e.nc]] W fun e w' => e = .returned (.string z) ∧ Below W.heap.size W w') := hide fun W hW => by
          rw [hz]
          have h9 := blw_up HB.out hW
          exact line_any (hLy.below hW).pt (hTT.out _ h9).1 (hTT.out _ h9).2 hf.1 hf.2
        have HL2 : Hid (∀ W, Below wr.heap.size wr W → Calls Tryz.prog 9 #[.agg #[.int .u8 d.pt.kind, .string d.pt.file, .string d.pt.text, .int .i64 d.pt.hunk.at_, .slice x.h.oA d.pt.hunk.old.length x.h.oc, .slice x.h.nA d.pt.hunk.new.length x.h.nc, .int .u8 d.pt.edit.kind, .slice x.e.pA d.pt.edit.path.length x.e.pc, .int .i64 d.pt.edit.at_, .int .i64 d.pt.edit.far, .string d.pt.edit.frm, .string d.pt.edit.to, .slice x.e.oA d.pt.edit.old.len x.e.oc, .slice x.e.nA d.pt.edit.new.len x.e.nc]] W fun e w' => e = .returned (.string z) ∧ Below W.heap.size W w') := hide fun W hW => by
          rw [hz]
          have h9 := blw_up HB.out hW
          exact line28_any (hp.below hW) (hTT.out _ h9).2 hf.2
        clear hat hdr hLy hp hf hz hn
        go_wp2_with fail
        have hd1 : Below wr.heap.size wr wr.drew := blw_drewN (Below.refl _ _) 1
        refine wp_region_held_drew (S := Below wr.heap.size wr) (by kernel_rfl) hd1 (fun hHeld => ?_)
        generalize wr.drew = wD at hHeld ⊢
        refine tk (v := ?_) 0 hHeld ?_ ?_
        rotate_left
        · intro w' hSw
          first | (go_simp; done) | (go_simp; with_reducible rfl)
        try simp only [List.set_cons_zero, List.set_cons_succ]
        refine tk (v := ?_) 1 hHeld ?_ ?_
        rotate_left
        · intro w' hSw
          first | (go_simp; done) | (go_simp; with_reducible rfl)
        try simp only [List.set_cons_zero, List.set_cons_succ]
        refine tk (v := ?_) 2 hHeld ?_ ?_
        rotate_left
        · intro w' hSw
          first | (go_simp; done) | (go_simp; with_reducible rfl)
        try simp only [List.set_cons_zero, List.set_cons_succ]
        refine tk (v := ?_) 3 hHeld ?_ ?_
        rotate_left
        · intro w' hSw
          first | (go_simp; done) | (go_simp; with_reducible rfl)
        try simp only [List.set_cons_zero, List.set_cons_succ]
        refine tk (v := ?_) 4 hHeld ?_ ?_
        rotate_left
        · intro w' hSw
          have f1 := (hSw.cell (p := ⟨g, q * 15 + 1, none⟩) hgb).trans d1
          have f2 := (hSw.cell (p := ⟨g, q * 15 + 2, none⟩) hgb).trans d2
          have f3 := (hSw.cell (p := ⟨g, q * 15 + 3, none⟩) hgb).trans d3
          have f4 := (hSw.cell (p := ⟨g, q * 15 + 4, none⟩) hgb).trans d4
          have f5 := (hSw.cell (p := ⟨g, q * 15 + 5, none⟩) hgb).trans d5
          have f6 := (hSw.cell (p := ⟨g, q * 15 + 6, none⟩) hgb).trans d6
          have f7 := (hSw.cell (p := ⟨g, q * 15 + 7, none⟩) hgb).trans d7
          have f8 := (hSw.cell (p := ⟨g, q * 15 + 8, none⟩) hgb).trans d8
          have f9 := (hSw.cell (p := ⟨g, q * 15 + 9, none⟩) hgb).trans d9
          have f10 := (hSw.cell (p := ⟨g, q * 15 + 10, none⟩) hgb).trans d10
          have f11 := (hSw.cell (p := ⟨g, q * 15 + 11, none⟩) hgb).trans d11
          have f12 := (hSw.cell (p := ⟨g, q * 15 + 12, none⟩) hgb).trans d12
          have f13 := (hSw.cell (p := ⟨g, q * 15 + 13, none⟩) hgb).trans d13
          have f14 := (hSw.cell (p := ⟨g, q * 15 + 14, none⟩) hgb).trans d14
          first | (go_simp; done) | (go_simp; with_reducible rfl)
        try simp only [List.set_cons_zero, List.set_cons_succ]
        refine tk (v := ?_) 6 hHeld ?_ ?_
        rotate_left
        · intro w' hSw
          first | (go_simp; done) | (go_simp; with_reducible rfl)
        try simp only [List.set_cons_zero, List.set_cons_succ]
        refine tk (v := ?_) 7 hHeld ?_ ?_
        rotate_left
        · intro w' hSw
          first | (go_simp; done) | (go_simp; with_reducible rfl)
        try simp only [List.set_cons_zero, List.set_cons_succ]
        refine tk (v := ?_) 8 hHeld ?_ ?_
        rotate_left
        · intro w' hSw
          first | (go_simp; done) | (go_simp; with_reducible rfl)
        try simp only [List.set_cons_zero, List.set_cons_succ]
        refine tk (v := ?_) 9 hHeld ?_ ?_
        rotate_left
        · intro w' hSw
          first | (go_simp; done) | (go_simp; with_reducible rfl)
        try simp only [List.set_cons_zero, List.set_cons_succ]
        refine tk (v := ?_) 10 hHeld ?_ ?_
        rotate_left
        · intro w' hSw
          have f1 := (hSw.cell (p := ⟨b, o + q * 15 + 1, none⟩) hbb).trans c1
          have f2 := (hSw.cell (p := ⟨b, o + q * 15 + 2, none⟩) hbb).trans c2
          have f3 := (hSw.cell (p := ⟨b, o + q * 15 + 3, none⟩) hbb).trans c3
          have f4 := (hSw.cell (p := ⟨b, o + q * 15 + 4, none⟩) hbb).trans c4
          have f5 := (hSw.cell (p := ⟨b, o + q * 15 + 5, none⟩) hbb).trans c5
          have f6 := (hSw.cell (p := ⟨b, o + q * 15 + 6, none⟩) hbb).trans c6
          have f7 := (hSw.cell (p := ⟨b, o + q * 15 + 7, none⟩) hbb).trans c7
          have f8 := (hSw.cell (p := ⟨b, o + q * 15 + 8, none⟩) hbb).trans c8
          have f9 := (hSw.cell (p := ⟨b, o + q * 15 + 9, none⟩) hbb).trans c9
          have f10 := (hSw.cell (p := ⟨b, o + q * 15 + 10, none⟩) hbb).trans c10
          have f11 := (hSw.cell (p := ⟨b, o + q * 15 + 11, none⟩) hbb).trans c11
          have f12 := (hSw.cell (p := ⟨b, o + q * 15 + 12, none⟩) hbb).trans c12
          have f13 := (hSw.cell (p := ⟨b, o + q * 15 + 13, none⟩) hbb).trans c13
          have f14 := (hSw.cell (p := ⟨b, o + q * 15 + 14, none⟩) hbb).trans c14
          first | (go_simp; done) | (go_simp; with_reducible rfl)
        try simp only [List.set_cons_zero, List.set_cons_succ]
        refine wpAnyH_ready (rs := [5]) (by kernel_rfl) (by simp) ?_
        refine AllReadyH.cons rfl (fun K hK => ?_) AllReadyH.nil
        go_simp
        go_wp2_with (go_at_call 8; (with_reducible refine (HL1.out _ hHeld).mono ?_); rintro e1 w1 ⟨rfl, hB1⟩)
        replace hHeld := hHeld.trans (hB1.mono hHeld.size)
        refine hK.out _ _ hHeld (fun _ => ?_)
        clear hK K hB1
        try simp only [Act.put, List.getElem_toArray, List.getElem_cons_zero, List.getElem_cons_succ, List.setIfInBounds_toArray, List.set_cons_zero, List.set_cons_succ]
        refine wpAnyH_ready (rs := [11]) (by kernel_rfl) (by simp) ?_
        refine AllReadyH.cons rfl (fun K hK => ?_) AllReadyH.nil
        go_simp
        go_wp2_with (go_at_call 9; (with_reducible refine (HL2.out _ hHeld).mono ?_); rintro e1 w1 ⟨rfl, hB1⟩)
        replace hHeld := hHeld.trans (hB1.mono hHeld.size)
        refine hK.out _ _ hHeld (fun _ => ?_)
        clear hK K hB1
        try simp only [Act.put, List.getElem_toArray, List.getElem_cons_zero, List.getElem_cons_succ, List.setIfInBounds_toArray, List.set_cons_zero, List.set_cons_succ]
        refine tk (v := ?_) 12 hHeld ?_ ?_
        rotate_left
        · intro w' hSw
          first | (go_simp; done) | (go_simp; with_reducible rfl)
        try simp only [List.set_cons_zero, List.set_cons_succ]
        have HBe := hide (HBr.out.trans (hHeld.mono HBr.out.size))
        refine wpAnyH_done (by kernel_rfl) ?_ _
        try simp only [Act.put, List.getElem_toArray, List.getElem_cons_zero, List.getElem_cons_succ, List.setIfInBounds_toArray, List.set_cons_zero, List.set_cons_succ]
        go_wp2_with fail
        go_roundw
        case rel => exact ⟨q + 1, by omega, by go_num, HBe⟩
        case measure => simp [intOf]; omega
      · go_wp2_with (first
          | (go_at_call 10; (with_reducible refine (text_any (l := l) (HL.out.below HBr.out).nd.1 hd (hTT.out _ HB.out).1 (hTT.out _ HB.out).2 HF.out Hlen.out).mono ?_); rintro e3 w3 ⟨rfl, hB⟩; have HB3 := hide (HB.out.trans (hB.mono hsr)); have HBq3 := hide (blw_up HBr.out hB); have hs3 := HB3.out.size; clear hB)
          | (go_at_call 11; (with_reducible refine (text28_any (l := l) (H.out.below HB3.out) hd (hTT.out _ HB3.out).2 HF.out Hlen.out).mono ?_); rintro e4 w4 ⟨rfl, hB⟩; have HB4 := hide (HB3.out.trans (hB.mono hs3)); have HBq4 := hide (blw_up HBq3.out hB); have hs4 := HB4.out.size; clear hB)
          | (go_at_call 12; (with_reducible refine (keptNamedRow_any (l := l) (HL.out.below HBq4.out) (H.out.below HB4.out) (Nat.le_trans hcl (by omega))).mono ?_); rintro e5 w5 ⟨rfl, hB⟩; have HB5 := hide (HB4.out.trans (hB.mono hs4)); have hs5 := HB5.out.size; clear hB)
          | (go_at_call 6; (with_reducible refine (awake_any (hTT.out _ HB5.out).1 (hTT.out _ HB5.out).2).mono ?_); rintro e6 w6 ⟨rfl, hB⟩; have HB6 := hide (HB5.out.trans (hB.mono hs5)); clear hB))
        go_ret
        exact ⟨rfl, HB6.out⟩

end Go.Proofs.YtadilmijppdpoaaGreatDoor
