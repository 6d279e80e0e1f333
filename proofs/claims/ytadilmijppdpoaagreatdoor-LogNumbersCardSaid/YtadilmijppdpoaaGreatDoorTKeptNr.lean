/- Rows of named patches that were lent are as they were (kit.KeptNamedRow). Printed by gen_kept.py. -/
import Derived.Test.YtadilmijppdpoaaGreatDoorTLentX
import Derived.Test.YtadilmijppdpoaaGreatDoorTKeptX

set_option linter.unusedVariables false
set_option linter.unusedSimpArgs false

namespace Go.Proofs.YtadilmijppdpoaaGreatDoor
open Go.RowKit

section
variable {S : Nat → Prop} {w w' : World}
theorem LentNdAt.lt : ∀ {l : List Nd} {g o : Nat}, LentNdAt S w g o l → g < w.heap.size
  | [], _, _, h => block_lt_of_cell (h 0 (by omega)).1
  | _ :: _, _, _, ⟨_, h, _⟩ => block_lt_of_cell h.1
theorem LentNdAt.below (hB : Below w.heap.size w w') : ∀ {l : List Nd} {g o : Nat}, g < w.heap.size → LentNdAt S w g o l → LentNdAt S w' g o l
  | [], g, o, hg, h => fun i hi => by
    obtain ⟨c0, c1, c2, c3, c4, c5, c6, c7, c8, c9, c10, c11, c12, c13, c14⟩ := h i hi
    have hb := hB.block g hg
    exact ⟨(World.cell?_of_block hb).trans c0, (World.cell?_of_block hb).trans c1, (World.cell?_of_block hb).trans c2, (World.cell?_of_block hb).trans c3, (World.cell?_of_block hb).trans c4, (World.cell?_of_block hb).trans c5, (World.cell?_of_block hb).trans c6, (World.cell?_of_block hb).trans c7, (World.cell?_of_block hb).trans c8, (World.cell?_of_block hb).trans c9, (World.cell?_of_block hb).trans c10, (World.cell?_of_block hb).trans c11, (World.cell?_of_block hb).trans c12, (World.cell?_of_block hb).trans c13, (World.cell?_of_block hb).trans c14⟩
  | _ :: _, g, o, hg, ⟨x, ⟨c0, c1, c2, c3, c4, c5, c6, c7, c8, c9, c10, c11, c12, c13, c14⟩, hn, hp, hr⟩ =>
    have hb := hB.block g hg
    ⟨x, ⟨(World.cell?_of_block hb).trans c0, (World.cell?_of_block hb).trans c1, (World.cell?_of_block hb).trans c2, (World.cell?_of_block hb).trans c3, (World.cell?_of_block hb).trans c4, (World.cell?_of_block hb).trans c5, (World.cell?_of_block hb).trans c6, (World.cell?_of_block hb).trans c7, (World.cell?_of_block hb).trans c8, (World.cell?_of_block hb).trans c9, (World.cell?_of_block hb).trans c10, (World.cell?_of_block hb).trans c11, (World.cell?_of_block hb).trans c12, (World.cell?_of_block hb).trans c13, (World.cell?_of_block hb).trans c14⟩, hn, hp.below hB, LentNdAt.below hB hg hr⟩
theorem LentNds.below {A : Option Addr} {c : Nat} {l : List Nd} (h : LentNds S w A c l) (hB : Below w.heap.size w w') : LentNds S w' A c l := by
  obtain ⟨g, e, h1, h2, h3, h4⟩ := h
  exact ⟨g, e, h1, h2, h3, h4.below hB h4.lt⟩
theorem LentNdAt.node_at : ∀ {l : List Nd} {g o i : Nat} {d : Nd}, LentNdAt S w g o l → l[i]? = some d → ∃ x : Ph, (w.cell? ⟨g, o + i * 15, none⟩ = some (.string d.name) ∧ w.cell? ⟨g, o + i * 15 + 1, none⟩ = some (.int .u8 d.pt.kind) ∧ w.cell? ⟨g, o + i * 15 + 2, none⟩ = some (.string d.pt.file) ∧ w.cell? ⟨g, o + i * 15 + 3, none⟩ = some (.string d.pt.text) ∧ w.cell? ⟨g, o + i * 15 + 4, none⟩ = some (.int .i64 d.pt.hunk.at_) ∧ w.cell? ⟨g, o + i * 15 + 5, none⟩ = some (.slice x.h.oA d.pt.hunk.old.length x.h.oc) ∧ w.cell? ⟨g, o + i * 15 + 6, none⟩ = some (.slice x.h.nA d.pt.hunk.new.length x.h.nc) ∧ w.cell? ⟨g, o + i * 15 + 7, none⟩ = some (.int .u8 d.pt.edit.kind) ∧ w.cell? ⟨g, o + i * 15 + 8, none⟩ = some (.slice x.e.pA d.pt.edit.path.length x.e.pc) ∧ w.cell? ⟨g, o + i * 15 + 9, none⟩ = some (.int .i64 d.pt.edit.at_) ∧ w.cell? ⟨g, o + i * 15 + 10, none⟩ = some (.int .i64 d.pt.edit.far) ∧ w.cell? ⟨g, o + i * 15 + 11, none⟩ = some (.string d.pt.edit.frm) ∧ w.cell? ⟨g, o + i * 15 + 12, none⟩ = some (.string d.pt.edit.to) ∧ w.cell? ⟨g, o + i * 15 + 13, none⟩ = some (.slice x.e.oA d.pt.edit.old.len x.e.oc) ∧ w.cell? ⟨g, o + i * 15 + 14, none⟩ = some (.slice x.e.nA d.pt.edit.new.len x.e.nc)) ∧ LentPt S w x d.pt
  | [], _, _, _, _, _, hd => by simp at hd
  | d' :: r, g, o, 0, d, ⟨x, ⟨c0, c1, c2, c3, c4, c5, c6, c7, c8, c9, c10, c11, c12, c13, c14⟩, hn, hp, hr⟩, hd => by
    have e : d' = d := by simpa using hd
    subst e
    exact ⟨x, ⟨by simpa using c0, by simpa using c1, by simpa using c2, by simpa using c3, by simpa using c4, by simpa using c5, by simpa using c6, by simpa using c7, by simpa using c8, by simpa using c9, by simpa using c10, by simpa using c11, by simpa using c12, by simpa using c13, by simpa using c14⟩, hp⟩
  | d' :: r, g, o, i + 1, d, ⟨x, hc, hn, hp, hr⟩, hd => by
    have := LentNdAt.node_at (i := i) hr (by simpa using hd)
    rwa [show o + 15 + i * 15 = o + (i + 1) * 15 by omega] at this
theorem LentNdAt.mark_at : ∀ {l : List Nd} {g o i : Nat}, LentNdAt S w g o l → i < 12 → w.cell? ⟨g, o + (l.length + i) * 15, none⟩ = some (.string (markT i)) ∧ w.cell? ⟨g, o + (l.length + i) * 15 + 1, none⟩ = some (.int .u8 0) ∧ w.cell? ⟨g, o + (l.length + i) * 15 + 2, none⟩ = some (.string ⟨#[]⟩) ∧ w.cell? ⟨g, o + (l.length + i) * 15 + 3, none⟩ = some (.string ⟨#[]⟩) ∧ w.cell? ⟨g, o + (l.length + i) * 15 + 4, none⟩ = some (.int .i64 0) ∧ w.cell? ⟨g, o + (l.length + i) * 15 + 5, none⟩ = some (.slice none 0 0) ∧ w.cell? ⟨g, o + (l.length + i) * 15 + 6, none⟩ = some (.slice none 0 0) ∧ w.cell? ⟨g, o + (l.length + i) * 15 + 7, none⟩ = some (.int .u8 0) ∧ w.cell? ⟨g, o + (l.length + i) * 15 + 8, none⟩ = some (.slice none 0 0) ∧ w.cell? ⟨g, o + (l.length + i) * 15 + 9, none⟩ = some (.int .i64 0) ∧ w.cell? ⟨g, o + (l.length + i) * 15 + 10, none⟩ = some (.int .i64 0) ∧ w.cell? ⟨g, o + (l.length + i) * 15 + 11, none⟩ = some (.string ⟨#[]⟩) ∧ w.cell? ⟨g, o + (l.length + i) * 15 + 12, none⟩ = some (.string ⟨#[]⟩) ∧ w.cell? ⟨g, o + (l.length + i) * 15 + 13, none⟩ = some (.slice none 0 0) ∧ w.cell? ⟨g, o + (l.length + i) * 15 + 14, none⟩ = some (.slice none 0 0)
  | [], g, o, i, h, hi => by simpa using h i hi
  | d :: r, g, o, i, ⟨x, hc, hn, hp, hr⟩, hi => by
    have := LentNdAt.mark_at hr hi
    rwa [show o + 15 + (r.length + i) * 15 = o + ((d :: r).length + i) * 15 by simp only [List.length_cons]; omega] at this
end
theorem markT_size (i : Nat) : (markT i).size ≤ 9223372036854775807 := Nat.le_trans (Nat.le_of_eq (show _ = 8 from rfl)) (by omega)
theorem sameNmMark_yes (s : ByteArray) (hs : s.size ≤ 9223372036854775807) (w : World) : Calls Tryz.prog 24 #[.agg #[.string s, .int .u8 0, .string ⟨#[]⟩, .string ⟨#[]⟩, .int .i64 0, .slice none 0 0, .slice none 0 0, .int .u8 0, .slice none 0 0, .int .i64 0, .int .i64 0, .string ⟨#[]⟩, .string ⟨#[]⟩, .slice none 0 0, .slice none 0 0], .agg #[.string s, .int .u8 0, .string ⟨#[]⟩, .string ⟨#[]⟩, .int .i64 0, .slice none 0 0, .slice none 0 0, .int .u8 0, .slice none 0 0, .int .i64 0, .int .i64 0, .string ⟨#[]⟩, .string ⟨#[]⟩, .slice none 0 0, .slice none 0 0]] w fun e w' => e = .returned (.bool true) ∧ Below w.heap.size w w' := by
  have hp : PtIn (fun _ => True) w ⟨⟨none, 0, none, 0⟩, ⟨none, 0, none, 0, none, 0⟩⟩ ⟨0, ⟨#[]⟩, ⟨#[]⟩, ⟨0, [], []⟩, ⟨0, [], 0, 0, ⟨#[]⟩, ⟨#[]⟩, .nil, .nil⟩⟩ :=
    ⟨by decide, by decide, by decide, ⟨by show isInt64 0; unfold isInt64; omega, ⟨.nil, by simp, by simp⟩, ⟨.nil, by simp, by simp⟩, ⟨by simp, by simp⟩, ⟨by simp, by simp⟩⟩, ⟨by decide, ⟨.nil, by simp, by simp⟩, by show isInt64 0; unfold isInt64; omega, by show isInt64 0; unfold isInt64; omega, by decide, by decide, trivial, trivial, ⟨by simp, by simp⟩, ⟨by simp [Fo.len], by simp⟩, ⟨by simp [Fo.len], by simp⟩⟩⟩
  have h := sameNamed_yes (h := ⟨s, ⟨0, ⟨#[]⟩, ⟨#[]⟩, ⟨0, [], []⟩, ⟨0, [], 0, 0, ⟨#[]⟩, ⟨#[]⟩, .nil, .nil⟩⟩⟩) hp hp
  exact h

set_option maxRecDepth 100000 in
set_option maxHeartbeats 8000000 in
theorem keptNamedRow_any {S S' : Nat → Prop} {A A' : Option Addr} {c c' : Nat} {l : List Nd} {w : World} (ho : LentNds S w A c l) (hl : NdIn S' w A' l) (hlen : l.length ≤ 274877906944) :
    Calls Tryz.prog 12 #[.slice A l.length c, .slice A' l.length c'] w fun e w' => e = .returned (.bool true) ∧ Below w.heap.size w w' := by
  have Ho := hide ho
  have Hl := hide hl
  have hcap : l.length + 12 ≤ c ∧ c ≤ 9223372036854775807 := by obtain ⟨_, _, _, h1, h2, _⟩ := ho; exact ⟨h1, h2⟩
  obtain ⟨g, rfl⟩ : ∃ g, A = some ⟨g, 0, none⟩ := by obtain ⟨g, e, _⟩ := ho; exact ⟨g, e⟩
  have hd : ((l.length : Int) != (l.length : Int)) = false := by simp
  clear ho hl
  go_enter Tryz.func12, Tryz.ntmps12
  go_wp2_with fail
  go_loopw [6] (fun i wr => ∃ q : Nat, q ≤ l.length + 12 ∧ i = .int .i64 q ∧ Hid (Below w.heap.size w wr)) (fun i _ => l.length + 12 - (intOf i).toNat)
  case atStart => exact ⟨0, by omega, rfl, hide (Below.refl _ _)⟩
  case round =>
    obtain ⟨q, hq, rfl, HB⟩ := hrel
    by_cases hlt : q < l.length + 12
    · obtain ⟨g', e1, _, _, _, hat⟩ := Ho.out.below HB.out
      injection e1 with e1
      injection e1 with e1
      subst e1
      by_cases hin : q < l.length
      · obtain ⟨b, o, x, d, rfl, hdr, ⟨c0, c1, c2, c3, c4, c5, c6, c7, c8, c9, c10, c11, c12, c13, c14⟩, hn, hp⟩ := (Hl.out.below HB.out).at_ hin
        obtain ⟨y, ⟨d0, d1, d2, d3, d4, d5, d6, d7, d8, d9, d10, d11, d12, d13, d14⟩, hL⟩ := hat.node_at hdr
        have hgb := block_lt_of_cell d0
        have hbb := block_lt_of_cell c0
        simp only [Nat.zero_add] at d0 d1 d2 d3 d4 d5 d6 d7 d8 d9 d10 d11 d12 d13 d14
        have hR : Hid (∀ W, Below wr.heap.size wr W → Calls Tryz.prog 23 #[.agg #[.string d.name, .int .u8 d.pt.kind, .string d.pt.file, .string d.pt.text, .int .i64 d.pt.hunk.at_, .slice y.h.oA d.pt.hunk.old.length y.h.oc, .slice y.h.nA d.pt.hunk.new.length y.h.nc, .int .u8 d.pt.edit.kind, .slice y.e.pA d.pt.edit.path.length y.e.pc, .int .i64 d.pt.edit.at_, .int .i64 d.pt.edit.far, .string d.pt.edit.frm, .string d.pt.edit.to, .slice y.e.oA d.pt.edit.old.len y.e.oc, .slice y.e.nA d.pt.edit.new.len y.e.nc], .agg #[.string d.name, .int .u8 d.pt.kind, .string d.pt.file, .string d.pt.text, .int .i64 d.pt.hunk.at_, .slice x.h.oA d.pt.hunk.old.length x.h.oc, .slice x.h.nA d.pt.hunk.new.length x.h.nc, .int .u8 d.pt.edit.kind, .slice x.e.pA d.pt.edit.path.length x.e.pc, .int .i64 d.pt.edit.at_, .int .i64 d.pt.edit.far, .string d.pt.edit.frm, .string d.pt.edit.to, .slice x.e.oA d.pt.edit.old.len x.e.oc, .slice x.e.nA d.pt.edit.new.len x.e.nc]] W fun e w' => e = .returned (.bool true) ∧ Below W.heap.size W w') :=
          hide fun W hW => keptNamed_any (h := d) (hL.below hW) (hp.below hW)
        clear hL hp hat hdr hn
        have g1 : decide ((q : Int) < (l.length : Int)) = true := by simp; omega
        have g2 : decide ((l.length : Int) ≤ (q : Int)) = false := by simp; omega
        have g3 : decide (q < l.length) = true := by simp; omega
        have g4 : decide (l.length ≤ q) = false := by simp; omega
        go_wp2_with fail
        have hd1 : Below wr.heap.size wr wr.drew := blw_drewN (Below.refl _ _) 1
        refine wp_region_held_drew (S := Below wr.heap.size wr) (by kernel_rfl) hd1 (fun hHeld => ?_)
        generalize wr.drew = wD at hHeld ⊢
        refine tk (v := ?_) 0 hHeld ?_ ?_
        rotate_left
        · intro w' hSw
          first | (go_simp; done) | (go_simp; with_reducible rfl)
        try simp only [List.set_cons_zero, List.set_cons_succ]
        refine tk (v := ?_) 1 hHeld ?_ ?_
        rotate_left
        · intro w' hSw
          first | (go_simp; done) | (go_simp; with_reducible rfl)
        try simp only [List.set_cons_zero, List.set_cons_succ]
        refine tk (v := ?_) 2 hHeld ?_ ?_
        rotate_left
        · intro w' hSw
          first | (go_simp; done) | (go_simp; with_reducible rfl)
        try simp only [List.set_cons_zero, List.set_cons_succ]
        refine tk (v := ?_) 3 hHeld ?_ ?_
        rotate_left
        · intro w' hSw
          first | (go_simp; done) | (go_simp; with_reducible rfl)
        try simp only [List.set_cons_zero, List.set_cons_succ]
        refine tk (v := ?_) 4 hHeld ?_ ?_
        rotate_left
        · intro w' hSw
          first | (go_simp; done) | (go_simp; with_reducible rfl)
        try simp only [List.set_cons_zero, List.set_cons_succ]
        refine tk (v := ?_) 5 hHeld ?_ ?_
        rotate_left
        · intro w' hSw
          first | (go_simp; done) | (go_simp; with_reducible rfl)
        try simp only [List.set_cons_zero, List.set_cons_succ]
        refine tk (v := ?_) 6 hHeld ?_ ?_
        rotate_left
        · intro w' hSw
          first | (go_simp; done) | (go_simp; with_reducible rfl)
        try simp only [List.set_cons_zero, List.set_cons_succ]
        refine tk (v := ?_) 7 hHeld ?_ ?_
        rotate_left
        · intro w' hSw
          first | (go_simp; done) | (go_simp; with_reducible rfl)
        try simp only [List.set_cons_zero, List.set_cons_succ]
        refine tk (v := ?_) 8 hHeld ?_ ?_
        rotate_left
        · intro w' hSw
          have d0' := (hSw.cell (p := ⟨g, _, none⟩) hgb).trans d0
          have d1' := (hSw.cell (p := ⟨g, _, none⟩) hgb).trans d1
          have d2' := (hSw.cell (p := ⟨g, _, none⟩) hgb).trans d2
          have d3' := (hSw.cell (p := ⟨g, _, none⟩) hgb).trans d3
          have d4' := (hSw.cell (p := ⟨g, _, none⟩) hgb).trans d4
          have d5' := (hSw.cell (p := ⟨g, _, none⟩) hgb).trans d5
          have d6' := (hSw.cell (p := ⟨g, _, none⟩) hgb).trans d6
          have d7' := (hSw.cell (p := ⟨g, _, none⟩) hgb).trans d7
          have d8' := (hSw.cell (p := ⟨g, _, none⟩) hgb).trans d8
          have d9' := (hSw.cell (p := ⟨g, _, none⟩) hgb).trans d9
          have d10' := (hSw.cell (p := ⟨g, _, none⟩) hgb).trans d10
          have d11' := (hSw.cell (p := ⟨g, _, none⟩) hgb).trans d11
          have d12' := (hSw.cell (p := ⟨g, _, none⟩) hgb).trans d12
          have d13' := (hSw.cell (p := ⟨g, _, none⟩) hgb).trans d13
          have d14' := (hSw.cell (p := ⟨g, _, none⟩) hgb).trans d14
          first | (go_simp; done) | (go_simp; with_reducible rfl)
        try simp only [List.set_cons_zero, List.set_cons_succ]
        refine tk (v := ?_) 9 hHeld ?_ ?_
        rotate_left
        · intro w' hSw
          first | (go_simp; done) | (go_simp; with_reducible rfl)
        try simp only [List.set_cons_zero, List.set_cons_succ]
        refine tk (v := ?_) 10 hHeld ?_ ?_
        rotate_left
        · intro w' hSw
          first | (go_simp; done) | (go_simp; with_reducible rfl)
        try simp only [List.set_cons_zero, List.set_cons_succ]
        refine tk (v := ?_) 11 hHeld ?_ ?_
        rotate_left
        · intro w' hSw
          first | (go_simp; done) | (go_simp; with_reducible rfl)
        try simp only [List.set_cons_zero, List.set_cons_succ]
        refine tk (v := ?_) 12 hHeld ?_ ?_
        rotate_left
        · intro w' hSw
          have c0' := (hSw.cell (p := ⟨b, _, none⟩) hbb).trans c0
          have c1' := (hSw.cell (p := ⟨b, _, none⟩) hbb).trans c1
          have c2' := (hSw.cell (p := ⟨b, _, none⟩) hbb).trans c2
          have c3' := (hSw.cell (p := ⟨b, _, none⟩) hbb).trans c3
          have c4' := (hSw.cell (p := ⟨b, _, none⟩) hbb).trans c4
          have c5' := (hSw.cell (p := ⟨b, _, none⟩) hbb).trans c5
          have c6' := (hSw.cell (p := ⟨b, _, none⟩) hbb).trans c6
          have c7' := (hSw.cell (p := ⟨b, _, none⟩) hbb).trans c7
          have c8' := (hSw.cell (p := ⟨b, _, none⟩) hbb).trans c8
          have c9' := (hSw.cell (p := ⟨b, _, none⟩) hbb).trans c9
          have c10' := (hSw.cell (p := ⟨b, _, none⟩) hbb).trans c10
          have c11' := (hSw.cell (p := ⟨b, _, none⟩) hbb).trans c11
          have c12' := (hSw.cell (p := ⟨b, _, none⟩) hbb).trans c12
          have c13' := (hSw.cell (p := ⟨b, _, none⟩) hbb).trans c13
          have c14' := (hSw.cell (p := ⟨b, _, none⟩) hbb).trans c14
          first | (go_simp; done) | (go_simp; with_reducible rfl)
        try simp only [List.set_cons_zero, List.set_cons_succ]
        refine wpAnyH_ready (rs := [13]) (by kernel_rfl) (by simp) ?_
        refine AllReadyH.cons rfl (fun K hK => ?_) AllReadyH.nil
        go_simp
        go_wp2_with (go_at_call 23; (with_reducible refine (hR.out _ hHeld).mono ?_); rintro e1 w1 ⟨rfl, hB1⟩)
        have hH2 := hHeld.trans (hB1.mono hHeld.size)
        refine hK.out _ _ hH2 (fun _ => ?_)
        clear hK K
        try simp only [Act.put, List.getElem_toArray, List.getElem_cons_zero, List.getElem_cons_succ, List.setIfInBounds_toArray, List.set_cons_zero, List.set_cons_succ]
        refine tk (v := ?_) 14 hH2 ?_ ?_
        rotate_left
        · intro w' hSw
          first | (go_simp; done) | (go_simp; with_reducible rfl)
        try simp only [List.set_cons_zero, List.set_cons_succ]
        refine tk (v := ?_) 15 hH2 ?_ ?_
        rotate_left
        · intro w' hSw
          first | (go_simp; done) | (go_simp; with_reducible rfl)
        try simp only [List.set_cons_zero, List.set_cons_succ]
        refine tk (v := ?_) 16 hH2 ?_ ?_
        rotate_left
        · intro w' hSw
          first | (go_simp; done) | (go_simp; with_reducible rfl)
        try simp only [List.set_cons_zero, List.set_cons_succ]
        refine tk (v := ?_) 17 hH2 ?_ ?_
        rotate_left
        · intro w' hSw
          first | (go_simp; done) | (go_simp; with_reducible rfl)
        try simp only [List.set_cons_zero, List.set_cons_succ]
        refine tk (v := ?_) 18 hH2 ?_ ?_
        rotate_left
        · intro w' hSw
          first | (go_simp; done) | (go_simp; with_reducible rfl)
        try simp only [List.set_cons_zero, List.set_cons_succ]
        refine tk (v := ?_) 19 hH2 ?_ ?_
        rotate_left
        · intro w' hSw
          first | (go_simp; done) | (go_simp; with_reducible rfl)
        try simp only [List.set_cons_zero, List.set_cons_succ]
        refine tk (v := ?_) 20 hH2 ?_ ?_
        rotate_left
        · intro w' hSw
          first | (go_simp; done) | (go_simp; with_reducible rfl)
        try simp only [List.set_cons_zero, List.set_cons_succ]
        refine tk (v := ?_) 21 hH2 ?_ ?_
        rotate_left
        · intro w' hSw
          first | (go_simp; done) | (go_simp; with_reducible rfl)
        try simp only [List.set_cons_zero, List.set_cons_succ]
        refine tn 22 hH2 ?_
        try simp only [List.set_cons_zero, List.set_cons_succ]
        refine tn 23 hH2 ?_
        try simp only [List.set_cons_zero, List.set_cons_succ]
        refine tn 24 hH2 ?_
        try simp only [List.set_cons_zero, List.set_cons_succ]
        refine tn 25 hH2 ?_
        try simp only [List.set_cons_zero, List.set_cons_succ]
        refine tn 26 hH2 ?_
        try simp only [List.set_cons_zero, List.set_cons_succ]
        refine tn 27 hH2 ?_
        try simp only [List.set_cons_zero, List.set_cons_succ]
        refine tn 28 hH2 ?_
        try simp only [List.set_cons_zero, List.set_cons_succ]
        refine tn 29 hH2 ?_
        try simp only [List.set_cons_zero, List.set_cons_succ]
        refine tn 30 hH2 ?_
        try simp only [List.set_cons_zero, List.set_cons_succ]
        refine tn 31 hH2 ?_
        try simp only [List.set_cons_zero, List.set_cons_succ]
        refine tn 32 hH2 ?_
        try simp only [List.set_cons_zero, List.set_cons_succ]
        refine tk (v := ?_) 33 hH2 ?_ ?_
        rotate_left
        · intro w' hSw
          first | (go_simp; done) | (go_simp; with_reducible rfl)
        try simp only [List.set_cons_zero, List.set_cons_succ]
        refine tk (v := ?_) 34 hH2 ?_ ?_
        rotate_left
        · intro w' hSw
          first | (go_simp; done) | (go_simp; with_reducible rfl)
        try simp only [List.set_cons_zero, List.set_cons_succ]
        have HB4 : Hid (Below w.heap.size w _) := hide (blw_up HB.out hH2)
        refine wpAnyH_done (by kernel_rfl) ?_ _
        try simp only [Act.put, List.getElem_toArray, List.getElem_cons_zero, List.getElem_cons_succ, List.setIfInBounds_toArray, List.set_cons_zero, List.set_cons_succ]
        go_wp2_with fail
        go_roundw
        case rel => exact ⟨q + 1, by omega, by go_num, HB4⟩
        case measure => simp [intOf]; omega
      · obtain ⟨d0, d1, d2, d3, d4, d5, d6, d7, d8, d9, d10, d11, d12, d13, d14⟩ := hat.mark_at (i := q - l.length) (by omega)
        have hgb := block_lt_of_cell d0
        have hqe : l.length + (q - l.length) = q := by omega
        have hmk : q - l.length = ((q : Int) - (l.length : Int)).toNat := by omega
        rw [hqe] at d0 d1 d2 d3 d4 d5 d6 d7 d8 d9 d10 d11 d12 d13 d14
        rw [hmk] at d0
        simp only [Nat.zero_add] at d0 d1 d2 d3 d4 d5 d6 d7 d8 d9 d10 d11 d12 d13 d14
        clear hat hqe hmk
        have g1 : decide ((q : Int) < (l.length : Int)) = false := by simp; omega
        have g2 : decide ((l.length : Int) ≤ (q : Int)) = true := by simp; omega
        have g3 : decide (q < l.length) = false := by simp; omega
        have g4 : decide (l.length ≤ q) = true := by simp; omega
        have hr12 : (0 : Int) ≤ (q : Int) - (l.length : Int) ∧ (q : Int) - (l.length : Int) < 12 := by omega
        have hw64 : IntKind.i64.wrap ((q : Int) - (l.length : Int)) = (q : Int) - (l.length : Int) := by rw [IntKind.wrap_i64]; omega
        go_wp2_with fail
        have hd1 : Below wr.heap.size wr wr.drew := blw_drewN (Below.refl _ _) 1
        refine wp_region_held_drew (S := Below wr.heap.size wr) (by kernel_rfl) hd1 (fun hHeld => ?_)
        generalize wr.drew = wD at hHeld ⊢
        refine tk (v := ?_) 0 hHeld ?_ ?_
        rotate_left
        · intro w' hSw
          first | (go_simp; done) | (go_simp; with_reducible rfl)
        try simp only [List.set_cons_zero, List.set_cons_succ]
        refine tk (v := ?_) 1 hHeld ?_ ?_
        rotate_left
        · intro w' hSw
          first | (go_simp; done) | (go_simp; with_reducible rfl)
        try simp only [List.set_cons_zero, List.set_cons_succ]
        refine tk (v := ?_) 2 hHeld ?_ ?_
        rotate_left
        · intro w' hSw
          first | (go_simp; done) | (go_simp; with_reducible rfl)
        try simp only [List.set_cons_zero, List.set_cons_succ]
        refine tk (v := ?_) 3 hHeld ?_ ?_
        rotate_left
        · intro w' hSw
          first | (go_simp; done) | (go_simp; with_reducible rfl)
        try simp only [List.set_cons_zero, List.set_cons_succ]
        refine tk (v := ?_) 4 hHeld ?_ ?_
        rotate_left
        · intro w' hSw
          first | (go_simp; done) | (go_simp; with_reducible rfl)
        try simp only [List.set_cons_zero, List.set_cons_succ]
        refine tn 5 hHeld ?_
        try simp only [List.set_cons_zero, List.set_cons_succ]
        refine tn 6 hHeld ?_
        try simp only [List.set_cons_zero, List.set_cons_succ]
        refine tn 7 hHeld ?_
        try simp only [List.set_cons_zero, List.set_cons_succ]
        refine tn 8 hHeld ?_
        try simp only [List.set_cons_zero, List.set_cons_succ]
        refine tn 9 hHeld ?_
        try simp only [List.set_cons_zero, List.set_cons_succ]
        refine tn 10 hHeld ?_
        try simp only [List.set_cons_zero, List.set_cons_succ]
        refine tn 11 hHeld ?_
        try simp only [List.set_cons_zero, List.set_cons_succ]
        refine tn 12 hHeld ?_
        try simp only [List.set_cons_zero, List.set_cons_succ]
        refine tn 13 hHeld ?_
        try simp only [List.set_cons_zero, List.set_cons_succ]
        refine tn 14 hHeld ?_
        try simp only [List.set_cons_zero, List.set_cons_succ]
        refine tk (v := ?_) 15 hHeld ?_ ?_
        rotate_left
        · intro w' hSw
          first | (go_simp; done) | (go_simp; with_reducible rfl)
        try simp only [List.set_cons_zero, List.set_cons_succ]
        refine tk (v := ?_) 16 hHeld ?_ ?_
        rotate_left
        · intro w' hSw
          first | (go_simp; done) | (go_simp; with_reducible rfl)
        try simp only [List.set_cons_zero, List.set_cons_succ]
        refine tk (v := ?_) 17 hHeld ?_ ?_
        rotate_left
        · intro w' hSw
          first | (go_simp; done) | (go_simp; with_reducible rfl)
        try simp only [List.set_cons_zero, List.set_cons_succ]
        refine tk (v := ?_) 18 hHeld ?_ ?_
        rotate_left
        · intro w' hSw
          first | (go_simp; done) | (go_simp; with_reducible rfl)
        try simp only [List.set_cons_zero, List.set_cons_succ]
        refine tk (v := ?_) 19 hHeld ?_ ?_
        rotate_left
        · intro w' hSw
          first | (go_simp; done) | (go_simp; with_reducible rfl)
        try simp only [List.set_cons_zero, List.set_cons_succ]
        refine tk (v := ?_) 20 hHeld ?_ ?_
        rotate_left
        · intro w' hSw
          first | (go_simp; done) | (go_simp; with_reducible rfl)
        try simp only [List.set_cons_zero, List.set_cons_succ]
        refine tk (v := ?_) 21 hHeld ?_ ?_
        rotate_left
        · intro w' hSw
          first | (go_simp; done) | (go_simp; with_reducible rfl)
        try simp only [List.set_cons_zero, List.set_cons_succ]
        refine tk (v := ?_) 22 hHeld ?_ ?_
        rotate_left
        · intro w' hSw
          first | (go_simp; done) | (go_simp; with_reducible rfl)
        try simp only [List.set_cons_zero, List.set_cons_succ]
        refine tk (v := ?_) 23 hHeld ?_ ?_
        rotate_left
        · intro w' hSw
          first | (go_simp; done) | (go_simp; with_reducible rfl)
        try simp only [List.set_cons_zero, List.set_cons_succ]
        refine tk (v := ?_) 24 hHeld ?_ ?_
        rotate_left
        · intro w' hSw
          first | (go_simp; done) | (go_simp; with_reducible rfl)
        try simp only [List.set_cons_zero, List.set_cons_succ]
        refine tk (v := ?_) 25 hHeld ?_ ?_
        rotate_left
        · intro w' hSw
          have d0' := (hSw.cell (p := ⟨g, _, none⟩) hgb).trans d0
          have d1' := (hSw.cell (p := ⟨g, _, none⟩) hgb).trans d1
          have d2' := (hSw.cell (p := ⟨g, _, none⟩) hgb).trans d2
          have d3' := (hSw.cell (p := ⟨g, _, none⟩) hgb).trans d3
          have d4' := (hSw.cell (p := ⟨g, _, none⟩) hgb).trans d4
          have d5' := (hSw.cell (p := ⟨g, _, none⟩) hgb).trans d5
          have d6' := (hSw.cell (p := ⟨g, _, none⟩) hgb).trans d6
          have d7' := (hSw.cell (p := ⟨g, _, none⟩) hgb).trans d7
          have d8' := (hSw.cell (p := ⟨g, _, none⟩) hgb).trans d8
          have d9' := (hSw.cell (p := ⟨g, _, none⟩) hgb).trans d9
          have d10' := (hSw.cell (p := ⟨g, _, none⟩) hgb).trans d10
          have d11' := (hSw.cell (p := ⟨g, _, none⟩) hgb).trans d11
          have d12' := (hSw.cell (p := ⟨g, _, none⟩) hgb).trans d12
          have d13' := (hSw.cell (p := ⟨g, _, none⟩) hgb).trans d13
          have d14' := (hSw.cell (p := ⟨g, _, none⟩) hgb).trans d14
          first | (go_simp; done) | (go_simp; with_reducible rfl)
        try simp only [List.set_cons_zero, List.set_cons_succ]
        refine tk (v := ?_) 26 hHeld ?_ ?_
        rotate_left
        · intro w' hSw
          first | (go_simp; done) | (go_simp; with_reducible rfl)
        try simp only [List.set_cons_zero, List.set_cons_succ]
        refine tk (v := ?_) 27 hHeld ?_ ?_
        rotate_left
        · intro w' hSw
          first | (go_simp; done) | (go_simp; with_reducible rfl)
        try simp only [List.set_cons_zero, List.set_cons_succ]
        refine tk (v := ?_) 28 hHeld ?_ ?_
        rotate_left
        · intro w' hSw
          first | (go_simp; done) | (go_simp; with_reducible rfl)
        try simp only [List.set_cons_zero, List.set_cons_succ]
        refine tk (v := ?_) 29 hHeld ?_ ?_
        rotate_left
        · intro w' hSw
          first | (go_simp; done) | (go_simp; with_reducible rfl)
        try simp only [List.set_cons_zero, List.set_cons_succ]
        refine wpAnyH_ready (rs := [30]) (by kernel_rfl) (by simp) ?_
        refine AllReadyH.cons rfl (fun K hK => ?_) AllReadyH.nil
        go_simp
        go_wp2_with (go_at_call 15; (with_reducible refine (markNamed_any hr12 _).mono ?_); rintro e1 w1 ⟨rfl, hB1⟩)
        have hH2 := hHeld.trans (hB1.mono hHeld.size)
        refine hK.out _ _ hH2 (fun _ => ?_)
        clear hK K
        try simp only [Act.put, List.getElem_toArray, List.getElem_cons_zero, List.getElem_cons_succ, List.setIfInBounds_toArray, List.set_cons_zero, List.set_cons_succ]
        refine wpAnyH_ready (rs := [31]) (by kernel_rfl) (by simp) ?_
        refine AllReadyH.cons rfl (fun K hK => ?_) AllReadyH.nil
        go_simp
        go_wp2_with (go_at_call 24; (with_reducible refine (sameNmMark_yes (markT _) (markT_size _) _).mono ?_); rintro e2 w2 ⟨rfl, hB2⟩)
        have hH3 := hH2.trans (hB2.mono hH2.size)
        refine hK.out _ _ hH3 (fun _ => ?_)
        clear hK K
        try simp only [Act.put, List.getElem_toArray, List.getElem_cons_zero, List.getElem_cons_succ, List.setIfInBounds_toArray, List.set_cons_zero, List.set_cons_succ]
        refine tk (v := ?_) 32 hH3 ?_ ?_
        rotate_left
        · intro w' hSw
          first | (go_simp; done) | (go_simp; with_reducible rfl)
        try simp only [List.set_cons_zero, List.set_cons_succ]
        refine tk (v := ?_) 33 hH3 ?_ ?_
        rotate_left
        · intro w' hSw
          first | (go_simp; done) | (go_simp; with_reducible rfl)
        try simp only [List.set_cons_zero, List.set_cons_succ]
        refine tk (v := ?_) 34 hH3 ?_ ?_
        rotate_left
        · intro w' hSw
          first | (go_simp; done) | (go_simp; with_reducible rfl)
        try simp only [List.set_cons_zero, List.set_cons_succ]
        have HB4 : Hid (Below w.heap.size w _) := hide (blw_up HB.out hH3)
        refine wpAnyH_done (by kernel_rfl) ?_ _
        try simp only [Act.put, List.getElem_toArray, List.getElem_cons_zero, List.getElem_cons_succ, List.setIfInBounds_toArray, List.set_cons_zero, List.set_cons_succ]
        go_wp2_with fail
        go_roundw
        case rel => exact ⟨q + 1, by omega, by go_num, HB4⟩
        case measure => simp [intOf]; omega
    · go_wp2_with fail
      go_ret
      exact ⟨rfl, HB.out⟩

end Go.Proofs.YtadilmijppdpoaaGreatDoor
