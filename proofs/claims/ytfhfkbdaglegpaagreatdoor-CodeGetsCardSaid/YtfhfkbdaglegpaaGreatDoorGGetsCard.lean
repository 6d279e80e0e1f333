/- For every row of bytes, clerestorylaw24.CodeGets returns true and its argument reads as it did. Conditions: the two listed package variables hold what their initialisers lay. Printed by gen_getscard.py. -/
import Derived.WideKeyArgs
import Derived.RowKit
import Derived.Lib.LaidTab
import Derived.Lib.LaidU8
import Derived.OpenShut
import Derived.Test.YtfhfkbdaglegpaaGreatDoorCards
import Derived.Test.YtfhfkbdaglegpaaGreatDoorTie
import Derived.Deep.DeepHandedRow
import Derived.Deep.DeepWitnessRowRef
import Derived.Test.YtfhfkbdaglegpaaGreatDoorGApartG
import Derived.Test.YtfhfkbdaglegpaaGreatDoorGLentBy
import Derived.Test.YtfhfkbdaglegpaaGreatDoorGRd24E
import Derived.Test.YtfhfkbdaglegpaaGreatDoorGGet2
import Derived.Test.YtfhfkbdaglegpaaGreatDoorGSame
import Derived.Test.YtfhfkbdaglegpaaGreatDoorGAwake
import Derived.Test.YtfhfkbdaglegpaaGreatDoorGOpen
import Derived.Test.YtfhfkbdaglegpaaGreatDoorGNames
import Derived.Test.YtfhfkbdaglegpaaGreatDoorGCardBase

set_option linter.unusedVariables false
set_option linter.unusedSimpArgs false

namespace Go.Proofs.YtfhfkbdaglegpaaGreatDoor
open Go.RowKit

theorem ptAll_le {p : Pt} (h : Bare p) : ptAll p ≤ (ptB p).length + 200 := by
  have e0 : (edB Ed.zero).length = 57 := rfl
  have t0 : (txtsB []).length = 8 := rfl
  unfold Bare at h
  unfold ptAll ptB
  split at h
  · rename_i h3
    obtain ⟨h1, h2⟩ := h
    rw [if_pos h3, h1, h2, e0]
    have : noTxt.size = 0 := rfl
    simp only [List.length_cons, List.length_append, txt_len, n8]
    omega
  · rename_i h3
    split at h
    · rename_i h4
      obtain ⟨h1, h2⟩ := h
      rw [if_neg h3, if_pos h4, h1, h2]
      have : noTxt.size = 0 := rfl
      simp only [Hk.zero, t0, List.length_cons, List.length_append, txt_len]
      omega
    · rename_i h4
      obtain ⟨h1, h2⟩ := h
      rw [if_neg h3, if_neg h4, h1, h2, e0]
      simp only [Hk.zero, t0, List.length_cons, List.length_append, txt_len]
      omega
theorem patZero_inG {S : Nat → Prop} {w : World} : PtIn S w ⟨⟨none, 0, none, 0⟩, ⟨none, 0, none, 0, none, 0⟩⟩ Pt.zero := ⟨by decide, by decide, by decide, ptZero.1, ptZero.2⟩
theorem PtO.below {w w' : World} {x : Ph} {p : Pt} {L : List Nat} (h : PtO w x p L) (hB : Below w.heap.size w w') : PtO w' x p L := h.keep fun b hb => hB.block b (h.lt b hb)
/-- both readers tell the same of the bytes -/
theorem gets_both {l : List UInt8} (hl : l.length ≤ 20000) : ∃ (q : Pt) (er : Int),
    (∀ (W : World) (A : Option Addr) (c : Nat), BytesIn (fun _ => True) W A l → l.length ≤ c → c ≤ 9223372036854775807 → TabOk W → Calls Tryz.prog 15 #[.slice A l.length c] W fun e w' => Below W.heap.size W w' ∧ ∃ (x : Ph) (L : List Nat), e = .returned (.tuple #[.agg #[.int .u8 q.kind, .string q.file, .string q.text, .int .i64 q.hunk.at_, .slice x.h.oA q.hunk.old.length x.h.oc, .slice x.h.nA q.hunk.new.length x.h.nc, .int .u8 q.edit.kind, .slice x.e.pA q.edit.path.length x.e.pc, .int .i64 q.edit.at_, .int .i64 q.edit.far, .string q.edit.frm, .string q.edit.to, .slice x.e.oA q.edit.old.len x.e.oc, .slice x.e.nA q.edit.new.len x.e.nc], .int .i64 er]) ∧ PtIn (fun _ => True) w' x q ∧ PtO w' x q L ∧ L.Nodup ∧ ∀ b ∈ L, W.heap.size ≤ b) ∧
    (∀ (W : World) (A : Option Addr) (c : Nat), BytesIn (fun _ => True) W A l → l.length ≤ c → c ≤ 9223372036854775807 → Calls Tryz.prog 16 #[.slice A l.length c] W fun e w' => Below W.heap.size W w' ∧ ∃ x : Ph, e = .returned (.tuple #[.agg #[.int .u8 q.kind, .string q.file, .string q.text, .int .i64 q.hunk.at_, .slice x.h.oA q.hunk.old.length x.h.oc, .slice x.h.nA q.hunk.new.length x.h.nc, .int .u8 q.edit.kind, .slice x.e.pA q.edit.path.length x.e.pc, .int .i64 q.edit.at_, .int .i64 q.edit.far, .string q.edit.frm, .string q.edit.to, .slice x.e.oA q.edit.old.len x.e.oc, .slice x.e.nA q.edit.new.len x.e.nc], .int .i64 er]) ∧ PtIn (fun _ => True) w' x q) ∧
    (q.hunk.old.length ≤ 20200 ∧ q.hunk.new.length ≤ 20200 ∧ q.edit.path.length ≤ 20200 ∧ q.edit.old.cnt ≤ 20200 ∧ q.edit.new.cnt ≤ 20200) := by
  have hl2 : l.length ≤ lid := Nat.le_trans hl (by decide)
  by_cases hp : PatAt l
  · obtain ⟨q, hf, ho, he⟩ := hp
    refine ⟨q, 0, fun W A c hb hc hc2 htab => (get_any hb hc hc2 hl2 htab).mono ?_, fun W A c hb hc hc2 => (get24r_any hb hc hc2 hl2).mono ?_, pt_small (Nat.le_trans (ptAll_le ho.bare) (by rw [← he]; omega))⟩
    · rintro e w' ⟨hB, ⟨p, x, e1, e2, e3, e4, e5, L, o1, o2, o3⟩ | ⟨hno, _⟩⟩
      · have hpq := (ptB_split hf e2 ho.bare e3.bare (x := []) (y := []) (by rw [List.append_nil, List.append_nil, ← he, e1])).1
        subst hpq
        exact ⟨hB, x, L, e4, e5.mono fun _ _ _ => trivial, o1, o2, fun b hb => Nat.le_of_lt (o3 b hb)⟩
      · exact absurd ⟨q, hf, ho, he⟩ hno
    · rintro e w' ⟨hB, ⟨p, x, e2, e3, e1, e4, e5⟩ | ⟨hno, _⟩⟩
      · have hpq := (ptB_split hf e2 ho.bare e3.bare (x := []) (y := []) (by rw [List.append_nil, List.append_nil, ← he, e1])).1
        subst hpq
        exact ⟨hB, x, e4, e5.mono fun _ _ _ => trivial⟩
      · exact absurd ⟨q, hf, ho, he⟩ hno
  · refine ⟨Pt.zero, 4, fun W A c hb hc hc2 htab => (get_any hb hc hc2 hl2 htab).mono ?_, fun W A c hb hc hc2 => (get24r_any hb hc hc2 hl2).mono ?_, by decide⟩
    · rintro e w' ⟨hB, ⟨p, x, e1, e2, e3, _⟩ | ⟨_, h⟩⟩
      · exact absurd ⟨p, e2, e3, e1⟩ hp
      · exact ⟨hB, (⟨⟨none, 0, none, 0⟩, ⟨none, 0, none, 0, none, 0⟩⟩ : Ph), [], h, patZero_inG, PtO.bare, List.nodup_nil, fun b hb => by cases hb⟩
    · rintro e w' ⟨hB, ⟨p, x, e2, e3, e1, e4, e5⟩ | ⟨_, h⟩⟩
      · exact absurd ⟨p, e2, e3, e1⟩ hp
      · exact ⟨hB, (⟨⟨none, 0, none, 0⟩, ⟨none, 0, none, 0, none, 0⟩⟩ : Ph), h, patZero_inG⟩

set_option maxHeartbeats 16000000 in
set_option maxRecDepth 1000000 in
theorem codeGets_any {S : Nat → Prop} {w : World} {A : Option Addr} {n c : Nat} {l : List UInt8} (hb : BytesIn S w A l) (hn : l.length = n) (hc : n ≤ c) (hc2 : c ≤ 9223372036854775807) (htab : TabOk w) :
    Calls Tryz.prog 4 #[.slice A n c] w fun e w' => e = .returned (.bool true) ∧ Below w.heap.size w w' := by
  subst hn
  have HT := hide htab
  by_cases hbig : l.length ≤ 20000
  · obtain ⟨q, er, hG, hR, hq⟩ := gets_both hbig
    have HG := hide hG
    have HR := hide hR
    have HQ := hide hq
    have Hb : Hid (BytesIn (fun _ => True) w A l) := hide (hb.mono fun _ _ _ => trivial)
    clear hG hR hb htab hq
    go_enter Tryz.func4, Tryz.ntmps4
    go_upto_region 5 with (first
      | (go_at_call 14; (with_reducible refine (lentBytes_any Hb.out (by omega)).mono ?_); rintro e0 w0 ⟨AI, cI, rfl, hL, hB0⟩; have hcI : l.length ≤ cI ∧ cI ≤ 9223372036854775807 := (by obtain ⟨⟨_, _, _, _, _, h1, h2, _⟩, _⟩ := hL; omega); have HL := hide hL; have HB0 := hide hB0; clear hL hB0)
      | (go_at_call 15; (with_reducible refine (HG.out w0 AI cI (HL.out.bytes.mono fun _ _ _ => trivial) hcI.1 hcI.2 (HT.out.below HB0.out)).mono ?_); rintro e1 w1 ⟨hB1, x, La, rfl, hin, hpo, hnd, hlo⟩; have HIA := hide hin; have HPA := hide hpo; have HNA := hide hnd; have HLA := hide hlo; have HB1 := hide hB1; clear hin hpo hnd hlo hB1))
    obtain ⟨WA, hWA⟩ : ∃ WA, WA = w1.alloc (.cells #[.int .u8 q.kind, .string q.file, .string q.text, .int .i64 q.hunk.at_, .slice x.h.oA q.hunk.old.length x.h.oc, .slice x.h.nA q.hunk.new.length x.h.nc, .int .u8 q.edit.kind, .slice x.e.pA q.edit.path.length x.e.pc, .int .i64 q.edit.at_, .int .i64 q.edit.far, .string q.edit.frm, .string q.edit.to, .slice x.e.oA q.edit.old.len x.e.oc, .slice x.e.nA q.edit.new.len x.e.nc] 32) := ⟨_, rfl⟩
    have hBWA : Below w1.heap.size w1 WA := by rw [hWA]; exact below_alloc _ _
    have hNWA : WA.heap.size = w1.heap.size + 1 := by rw [hWA]; simp
    have hkWA : ∀ j v, #[.int .u8 q.kind, .string q.file, .string q.text, .int .i64 q.hunk.at_, .slice x.h.oA q.hunk.old.length x.h.oc, .slice x.h.nA q.hunk.new.length x.h.nc, .int .u8 q.edit.kind, .slice x.e.pA q.edit.path.length x.e.pc, .int .i64 q.edit.at_, .int .i64 q.edit.far, .string q.edit.frm, .string q.edit.to, .slice x.e.oA q.edit.old.len x.e.oc, .slice x.e.nA q.edit.new.len x.e.nc][j]? = some v → WA.cell? ⟨w1.heap.size, j, none⟩ = some v := by
      intro j v hj
      rw [hWA, Lib.cell_of_heap (heap_alloc_new w1 _)]
      exact hj
    rw [← hWA]
    have a0 := hkWA 0 _ rfl
    have a1 := hkWA 1 _ rfl
    have a2 := hkWA 2 _ rfl
    have a3 := hkWA 3 _ rfl
    have a4 := hkWA 4 _ rfl
    have a5 := hkWA 5 _ rfl
    have a6 := hkWA 6 _ rfl
    have a7 := hkWA 7 _ rfl
    have a8 := hkWA 8 _ rfl
    have a9 := hkWA 9 _ rfl
    have a10 := hkWA 10 _ rfl
    have a11 := hkWA 11 _ rfl
    have a12 := hkWA 12 _ rfl
    have a13 := hkWA 13 _ rfl
    clear hkWA hWA
    have HA0 : Hid (Below w0.heap.size w0 WA) := hide (HB1.out.trans (hBWA.mono HB1.out.size))
    go_upto_region 6 with (go_at_call 15; (with_reducible refine (HG.out WA AI cI ((HL.out.below HA0.out).bytes.mono fun _ _ _ => trivial) hcI.1 hcI.2 ((HT.out.below HB0.out).below HA0.out)).mono ?_); rintro e2 w2 ⟨hB2, xc, Lc, rfl, hin, hpo, hnd, hlo⟩; have HPC := hide hpo; have HNC := hide hnd; have HLC := hide hlo; have HB2 := hide hB2; clear hin hpo hnd hlo hB2)
    obtain ⟨WC, hWC⟩ : ∃ WC, WC = w2.alloc (.cells #[.int .u8 q.kind, .string q.file, .string q.text, .int .i64 q.hunk.at_, .slice xc.h.oA q.hunk.old.length xc.h.oc, .slice xc.h.nA q.hunk.new.length xc.h.nc, .int .u8 q.edit.kind, .slice xc.e.pA q.edit.path.length xc.e.pc, .int .i64 q.edit.at_, .int .i64 q.edit.far, .string q.edit.frm, .string q.edit.to, .slice xc.e.oA q.edit.old.len xc.e.oc, .slice xc.e.nA q.edit.new.len xc.e.nc] 32) := ⟨_, rfl⟩
    have hBWC : Below w2.heap.size w2 WC := by rw [hWC]; exact below_alloc _ _
    have hNWC : WC.heap.size = w2.heap.size + 1 := by rw [hWC]; simp
    have hkWC : ∀ j v, #[.int .u8 q.kind, .string q.file, .string q.text, .int .i64 q.hunk.at_, .slice xc.h.oA q.hunk.old.length xc.h.oc, .slice xc.h.nA q.hunk.new.length xc.h.nc, .int .u8 q.edit.kind, .slice xc.e.pA q.edit.path.length xc.e.pc, .int .i64 q.edit.at_, .int .i64 q.edit.far, .string q.edit.frm, .string q.edit.to, .slice xc.e.oA q.edit.old.len xc.e.oc, .slice xc.e.nA q.edit.new.len xc.e.nc][j]? = some v → WC.cell? ⟨w2.heap.size, j, none⟩ = some v := by
      intro j v hj
      rw [hWC, Lib.cell_of_heap (heap_alloc_new w2 _)]
      exact hj
    rw [← hWC]
    have c0 := hkWC 0 _ rfl
    have c1 := hkWC 1 _ rfl
    have c2 := hkWC 2 _ rfl
    have c3 := hkWC 3 _ rfl
    have c4 := hkWC 4 _ rfl
    have c5 := hkWC 5 _ rfl
    have c6 := hkWC 6 _ rfl
    have c7 := hkWC 7 _ rfl
    have c8 := hkWC 8 _ rfl
    have c9 := hkWC 9 _ rfl
    have c10 := hkWC 10 _ rfl
    have c11 := hkWC 11 _ rfl
    have c12 := hkWC 12 _ rfl
    have c13 := hkWC 13 _ rfl
    clear hkWC hWC
    have HAC : Hid (Below WA.heap.size WA WC) := hide (HB2.out.trans (hBWC.mono HB2.out.size))
    have HC0 : Hid (Below w0.heap.size w0 WC) := hide (HA0.out.trans (HAC.out.mono HA0.out.size))
    go_upto_region 7 with (go_at_call 16; (with_reducible refine (HR.out WC A c (Hb.out.below (HB0.out.trans (HC0.out.mono HB0.out.size))) hc hc2).mono ?_); rintro e3 w3 ⟨hB3, xd, rfl, hin⟩; have HID := hide hin; have HB3 := hide hB3; clear hin hB3)
    obtain ⟨WD, hWD⟩ : ∃ WD, WD = w3.alloc (.cells #[.int .u8 q.kind, .string q.file, .string q.text, .int .i64 q.hunk.at_, .slice xd.h.oA q.hunk.old.length xd.h.oc, .slice xd.h.nA q.hunk.new.length xd.h.nc, .int .u8 q.edit.kind, .slice xd.e.pA q.edit.path.length xd.e.pc, .int .i64 q.edit.at_, .int .i64 q.edit.far, .string q.edit.frm, .string q.edit.to, .slice xd.e.oA q.edit.old.len xd.e.oc, .slice xd.e.nA q.edit.new.len xd.e.nc] 32) := ⟨_, rfl⟩
    have hBWD : Below w3.heap.size w3 WD := by rw [hWD]; exact below_alloc _ _
    have hNWD : WD.heap.size = w3.heap.size + 1 := by rw [hWD]; simp
    have hkWD : ∀ j v, #[.int .u8 q.kind, .string q.file, .string q.text, .int .i64 q.hunk.at_, .slice xd.h.oA q.hunk.old.length xd.h.oc, .slice xd.h.nA q.hunk.new.length xd.h.nc, .int .u8 q.edit.kind, .slice xd.e.pA q.edit.path.length xd.e.pc, .int .i64 q.edit.at_, .int .i64 q.edit.far, .string q.edit.frm, .string q.edit.to, .slice xd.e.oA q.edit.old.len xd.e.oc, .slice xd.e.nA q.edit.new.len xd.e.nc][j]? = some v → WD.cell? ⟨w3.heap.size, j, none⟩ = some v := by
      intro j v hj
      rw [hWD, Lib.cell_of_heap (heap_alloc_new w3 _)]
      exact hj
    rw [← hWD]
    have d0 := hkWD 0 _ rfl
    have d1 := hkWD 1 _ rfl
    have d2 := hkWD 2 _ rfl
    have d3 := hkWD 3 _ rfl
    have d4 := hkWD 4 _ rfl
    have d5 := hkWD 5 _ rfl
    have d6 := hkWD 6 _ rfl
    have d7 := hkWD 7 _ rfl
    have d8 := hkWD 8 _ rfl
    have d9 := hkWD 9 _ rfl
    have d10 := hkWD 10 _ rfl
    have d11 := hkWD 11 _ rfl
    have d12 := hkWD 12 _ rfl
    have d13 := hkWD 13 _ rfl
    clear hkWD hWD
    have HCD : Hid (Below WC.heap.size WC WD) := hide (HB3.out.trans (hBWD.mono HB3.out.size))
    have HAD : Hid (Below WA.heap.size WA WD) := hide (HAC.out.trans (HCD.out.mono HAC.out.size))
    have HD0 : Hid (Below w0.heap.size w0 WD) := hide (HC0.out.trans (HCD.out.mono HC0.out.size))
    have HID2 := hide (HID.out.below hBWD)
    have HIA2 := hide ((HIA.out.below hBWA).below HAD.out)
    have HWA := hide hBWA
    have HWC := hide hBWC
    have hsA : w1.heap.size ≤ WA.heap.size := hBWA.size
    have z0 : WD.cell? ⟨w1.heap.size, 0, none⟩ = some (.int .u8 q.kind) ∧ WD.cell? ⟨w1.heap.size, 1, none⟩ = some (.string q.file) ∧ WD.cell? ⟨w1.heap.size, 2, none⟩ = some (.string q.text) ∧ WD.cell? ⟨w1.heap.size, 3, none⟩ = some (.int .i64 q.hunk.at_) ∧ WD.cell? ⟨w1.heap.size, 4, none⟩ = some (.slice x.h.oA q.hunk.old.length x.h.oc) ∧ WD.cell? ⟨w1.heap.size, 5, none⟩ = some (.slice x.h.nA q.hunk.new.length x.h.nc) ∧ WD.cell? ⟨w1.heap.size, 6, none⟩ = some (.int .u8 q.edit.kind) ∧ WD.cell? ⟨w1.heap.size, 7, none⟩ = some (.slice x.e.pA q.edit.path.length x.e.pc) ∧ WD.cell? ⟨w1.heap.size, 8, none⟩ = some (.int .i64 q.edit.at_) ∧ WD.cell? ⟨w1.heap.size, 9, none⟩ = some (.int .i64 q.edit.far) ∧ WD.cell? ⟨w1.heap.size, 10, none⟩ = some (.string q.edit.frm) ∧ WD.cell? ⟨w1.heap.size, 11, none⟩ = some (.string q.edit.to) ∧ WD.cell? ⟨w1.heap.size, 12, none⟩ = some (.slice x.e.oA q.edit.old.len x.e.oc) ∧ WD.cell? ⟨w1.heap.size, 13, none⟩ = some (.slice x.e.nA q.edit.new.len x.e.nc) := by
      have h := HAD.out
      exact ⟨at_bag (h.block _ (block_lt_of_cell a0)) a0, at_bag (h.block _ (block_lt_of_cell a1)) a1, at_bag (h.block _ (block_lt_of_cell a2)) a2, at_bag (h.block _ (block_lt_of_cell a3)) a3, at_bag (h.block _ (block_lt_of_cell a4)) a4, at_bag (h.block _ (block_lt_of_cell a5)) a5, at_bag (h.block _ (block_lt_of_cell a6)) a6, at_bag (h.block _ (block_lt_of_cell a7)) a7, at_bag (h.block _ (block_lt_of_cell a8)) a8, at_bag (h.block _ (block_lt_of_cell a9)) a9, at_bag (h.block _ (block_lt_of_cell a10)) a10, at_bag (h.block _ (block_lt_of_cell a11)) a11, at_bag (h.block _ (block_lt_of_cell a12)) a12, at_bag (h.block _ (block_lt_of_cell a13)) a13⟩
    obtain ⟨z0, z1, z2, z3, z4, z5, z6, z7, z8, z9, z10, z11, z12, z13⟩ := z0
    have y0 : WD.cell? ⟨w2.heap.size, 0, none⟩ = some (.int .u8 q.kind) ∧ WD.cell? ⟨w2.heap.size, 1, none⟩ = some (.string q.file) ∧ WD.cell? ⟨w2.heap.size, 2, none⟩ = some (.string q.text) ∧ WD.cell? ⟨w2.heap.size, 3, none⟩ = some (.int .i64 q.hunk.at_) ∧ WD.cell? ⟨w2.heap.size, 4, none⟩ = some (.slice xc.h.oA q.hunk.old.length xc.h.oc) ∧ WD.cell? ⟨w2.heap.size, 5, none⟩ = some (.slice xc.h.nA q.hunk.new.length xc.h.nc) ∧ WD.cell? ⟨w2.heap.size, 6, none⟩ = some (.int .u8 q.edit.kind) ∧ WD.cell? ⟨w2.heap.size, 7, none⟩ = some (.slice xc.e.pA q.edit.path.length xc.e.pc) ∧ WD.cell? ⟨w2.heap.size, 8, none⟩ = some (.int .i64 q.edit.at_) ∧ WD.cell? ⟨w2.heap.size, 9, none⟩ = some (.int .i64 q.edit.far) ∧ WD.cell? ⟨w2.heap.size, 10, none⟩ = some (.string q.edit.frm) ∧ WD.cell? ⟨w2.heap.size, 11, none⟩ = some (.string q.edit.to) ∧ WD.cell? ⟨w2.heap.size, 12, none⟩ = some (.slice xc.e.oA q.edit.old.len xc.e.oc) ∧ WD.cell? ⟨w2.heap.size, 13, none⟩ = some (.slice xc.e.nA q.edit.new.len xc.e.nc) := by
      have h := HCD.out
      exact ⟨at_bag (h.block _ (block_lt_of_cell c0)) c0, at_bag (h.block _ (block_lt_of_cell c1)) c1, at_bag (h.block _ (block_lt_of_cell c2)) c2, at_bag (h.block _ (block_lt_of_cell c3)) c3, at_bag (h.block _ (block_lt_of_cell c4)) c4, at_bag (h.block _ (block_lt_of_cell c5)) c5, at_bag (h.block _ (block_lt_of_cell c6)) c6, at_bag (h.block _ (block_lt_of_cell c7)) c7, at_bag (h.block _ (block_lt_of_cell c8)) c8, at_bag (h.block _ (block_lt_of_cell c9)) c9, at_bag (h.block _ (block_lt_of_cell c10)) c10, at_bag (h.block _ (block_lt_of_cell c11)) c11, at_bag (h.block _ (block_lt_of_cell c12)) c12, at_bag (h.block _ (block_lt_of_cell c13)) c13⟩
    obtain ⟨y0, y1, y2, y3, y4, y5, y6, y7, y8, y9, y10, y11, y12, y13⟩ := y0
    clear a0 c0 a1 c1 a2 c2 a3 c3 a4 c4 a5 c5 a6 c6 a7 c7 a8 c8 a9 c9 a10 c10 a11 c11 a12 c12 a13 c13 hBWA hBWC hBWD HID HIA
    go_wp2_with (first
      | (go_at_call 17; (with_reducible refine (samePatch_any HIA2.out HID2.out).mono ?_); rintro e4 w4 ⟨⟨b4, rfl, hb4⟩, hB4⟩; have hbt : b4 = true := hb4.mpr rfl; subst hbt; have HB4 := hide hB4; clear hb4 hB4)
      | (go_at_call 18; (with_reducible refine (keptBytes_any ((HL.out.below HD0.out).below HB4.out) ((Hb.out.below (HB0.out.trans (HD0.out.mono HB0.out.size))).below HB4.out)).mono ?_); rintro e5 w5 ⟨rfl, hB5⟩; have HB5 : Hid (Below WD.heap.size WD w5) := hide (HB4.out.trans (hB5.mono HB4.out.size)); have hB5' := HB5.out; have p0 := at_bag (hB5'.block w1.heap.size (block_lt_of_cell z0)) z0; have p1 := at_bag (hB5'.block w1.heap.size (block_lt_of_cell z1)) z1; have p2 := at_bag (hB5'.block w1.heap.size (block_lt_of_cell z2)) z2; have p3 := at_bag (hB5'.block w1.heap.size (block_lt_of_cell z3)) z3; have p4 := at_bag (hB5'.block w1.heap.size (block_lt_of_cell z4)) z4; have p5 := at_bag (hB5'.block w1.heap.size (block_lt_of_cell z5)) z5; have p6 := at_bag (hB5'.block w1.heap.size (block_lt_of_cell z6)) z6; have p7 := at_bag (hB5'.block w1.heap.size (block_lt_of_cell z7)) z7; have p8 := at_bag (hB5'.block w1.heap.size (block_lt_of_cell z8)) z8; have p9 := at_bag (hB5'.block w1.heap.size (block_lt_of_cell z9)) z9; have p10 := at_bag (hB5'.block w1.heap.size (block_lt_of_cell z10)) z10; have p11 := at_bag (hB5'.block w1.heap.size (block_lt_of_cell z11)) z11; have p12 := at_bag (hB5'.block w1.heap.size (block_lt_of_cell z12)) z12; have p13 := at_bag (hB5'.block w1.heap.size (block_lt_of_cell z13)) z13; have r0 := fun (o : Obj) => at_bag (heap_alloc_old w5 o (Nat.lt_of_lt_of_le (block_lt_of_cell y0) hB5'.size)) (at_bag (hB5'.block w2.heap.size (block_lt_of_cell y0)) y0); have r1 := fun (o : Obj) => at_bag (heap_alloc_old w5 o (Nat.lt_of_lt_of_le (block_lt_of_cell y1) hB5'.size)) (at_bag (hB5'.block w2.heap.size (block_lt_of_cell y1)) y1); have r2 := fun (o : Obj) => at_bag (heap_alloc_old w5 o (Nat.lt_of_lt_of_le (block_lt_of_cell y2) hB5'.size)) (at_bag (hB5'.block w2.heap.size (block_lt_of_cell y2)) y2); have r3 := fun (o : Obj) => at_bag (heap_alloc_old w5 o (Nat.lt_of_lt_of_le (block_lt_of_cell y3) hB5'.size)) (at_bag (hB5'.block w2.heap.size (block_lt_of_cell y3)) y3); have r4 := fun (o : Obj) => at_bag (heap_alloc_old w5 o (Nat.lt_of_lt_of_le (block_lt_of_cell y4) hB5'.size)) (at_bag (hB5'.block w2.heap.size (block_lt_of_cell y4)) y4); have r5 := fun (o : Obj) => at_bag (heap_alloc_old w5 o (Nat.lt_of_lt_of_le (block_lt_of_cell y5) hB5'.size)) (at_bag (hB5'.block w2.heap.size (block_lt_of_cell y5)) y5); have r6 := fun (o : Obj) => at_bag (heap_alloc_old w5 o (Nat.lt_of_lt_of_le (block_lt_of_cell y6) hB5'.size)) (at_bag (hB5'.block w2.heap.size (block_lt_of_cell y6)) y6); have r7 := fun (o : Obj) => at_bag (heap_alloc_old w5 o (Nat.lt_of_lt_of_le (block_lt_of_cell y7) hB5'.size)) (at_bag (hB5'.block w2.heap.size (block_lt_of_cell y7)) y7); have r8 := fun (o : Obj) => at_bag (heap_alloc_old w5 o (Nat.lt_of_lt_of_le (block_lt_of_cell y8) hB5'.size)) (at_bag (hB5'.block w2.heap.size (block_lt_of_cell y8)) y8); have r9 := fun (o : Obj) => at_bag (heap_alloc_old w5 o (Nat.lt_of_lt_of_le (block_lt_of_cell y9) hB5'.size)) (at_bag (hB5'.block w2.heap.size (block_lt_of_cell y9)) y9); have r10 := fun (o : Obj) => at_bag (heap_alloc_old w5 o (Nat.lt_of_lt_of_le (block_lt_of_cell y10) hB5'.size)) (at_bag (hB5'.block w2.heap.size (block_lt_of_cell y10)) y10); have r11 := fun (o : Obj) => at_bag (heap_alloc_old w5 o (Nat.lt_of_lt_of_le (block_lt_of_cell y11) hB5'.size)) (at_bag (hB5'.block w2.heap.size (block_lt_of_cell y11)) y11); have r12 := fun (o : Obj) => at_bag (heap_alloc_old w5 o (Nat.lt_of_lt_of_le (block_lt_of_cell y12) hB5'.size)) (at_bag (hB5'.block w2.heap.size (block_lt_of_cell y12)) y12); have r13 := fun (o : Obj) => at_bag (heap_alloc_old w5 o (Nat.lt_of_lt_of_le (block_lt_of_cell y13) hB5'.size)) (at_bag (hB5'.block w2.heap.size (block_lt_of_cell y13)) y13); clear hB5 hB5' z0 y0 d0 z1 y1 d1 z2 y2 d2 z3 y3 d3 z4 y4 d4 z5 y5 d5 z6 y6 d6 z7 y7 d7 z8 y8 d8 z9 y9 d9 z10 y10 d10 z11 y11 d11 z12 y12 d12 z13 y13 d13)
      | (go_at_call 19; refine (apart_two (B := w.heap.size) (M := WA.heap.size) (N := 20200) ((HPA.out.below HWA.out).below (HAD.out.trans (HB5.out.mono HAD.out.size))) HNA.out ((HPC.out.below HWC.out).below (HCD.out.trans (HB5.out.mono HCD.out.size))) HNC.out (fun b hb => ⟨Nat.le_trans HB0.out.size (HLA.out b hb), Nat.lt_of_lt_of_le (HPA.out.lt b hb) hsA⟩) HLC.out (Nat.le_trans HB0.out.size HA0.out.size) (Nat.le_trans HAD.out.size HB5.out.size) HQ.out (by decide)).mono ?_; rintro e6 w6 ⟨rfl, hB6⟩; have HB6 : Hid (Below w.heap.size w w6) := hide (((HB0.out.trans (HD0.out.mono HB0.out.size)).trans (HB5.out.mono (Nat.le_trans HB0.out.size HD0.out.size))).trans hB6); clear hB6)
      | (go_at_call 7; (with_reducible refine (awake_any (HT.out.below HB6.out)).mono ?_); rintro e7 w7 ⟨rfl, hB7⟩; have HB7 := hide (HB6.out.trans (hB7.mono HB6.out.size)); clear hB7))
    go_ret
    exact ⟨rfl, HB7.out⟩
  · clear hb
    go_enter Tryz.func4, Tryz.ntmps4
    go_wp2_with (go_at_call 7; (with_reducible refine (awake_any HT.out).mono ?_); rintro e7 w7 ⟨rfl, hB7⟩; have HB7 := hide hB7; clear hB7)
    go_ret
    exact ⟨rfl, HB7.out⟩

end Go.Proofs.YtfhfkbdaglegpaaGreatDoor

namespace Go.Proofs.YtfhfkbdaglegpaaGreatDoor
open Go.RowKit Go.ChangeShapes Go.WideShapes

theorem u_bool : Tryz.prog.underlying 4 = some .bool := by kernel_rfl
theorem laid_out : laidOutB Tryz.prog = true := by kernel_rfl
theorem r_bytes : Tryz.prog.readableRec 36 = true := by kernel_rfl
theorem l_bytes : (36 : TypeId) < Tryz.prog.types.size := of_decide_eq_true (by kernel_rfl)
theorem u_tab : Tryz.prog.underlying 255 = some (.array 256 5) := by kernel_rfl
theorem c_tab : Tryz.prog.cellsOf 255 = 256 := by kernel_rfl
theorem g_tab : Tryz.prog.globalNamed "strings.asciiSpace" = some 0 := by kernel_rfl
theorem gt_tab : (Tryz.prog.globals[0]?).map (·.type) = some 255 := by kernel_rfl
theorem tab_data : (Rows.laid_strings_asciiSpace : DataW Unit) = Lib.tabData .u8 Lib.asciiSpaceTab := by kernel_rfl
theorem tab_ok {W : World} (h : laidMetH Tryz.prog Rows.codeGetsRow.laid W) : TabOk W := by
  have h' : laidMet Tryz.prog [("unicode.White_Space", Rows.laid_unicode_White_Space), ("strings.asciiSpace", Rows.laid_strings_asciiSpace)] W := h
  obtain ⟨g', t', cs, fuel, p, hg', ht', hvar, hd⟩ := Lib.laidMet.reads h' (.tail _ (.head _))
  obtain rfl := Option.some.inj (g_tab.symm.trans hg')
  obtain rfl := Option.some.inj (gt_tab.symm.trans ht')
  rw [tab_data] at hd
  have hc := Lib.cells_of_tab u_tab u_u8 c_u8 c_tab hd
  have hT : Lib.TabIs Tryz.prog W "strings.asciiSpace" .u8 Lib.asciiSpaceTab := by
    unfold Lib.TabIs
    rw [hvar, ← hc]
  exact ⟨block_lt_of_cell (hT.cell g_tab 0 (of_decide_eq_true (by kernel_rfl))), hT⟩

set_option maxRecDepth 1000000 in
theorem gets_contract (H : Type) (enc : TypeId × Value → H) (W : World) (base : Nat) (args : Array Value) (ds gs : List (DataW H)) (before : List MemPlace)
    (hval0 : ∀ (j : Nat) t v, Tryz.f4.params[j]? = some t → args[j]? = some v → Value.okWide Tryz.prog W .any base t v)
    (hW0 : DataW.Whole enc Tryz.prog Tryz.f4.params.toList Rows.codeGetsSpec.vars false W args.toList ds gs before) (hL : laidMetH Tryz.prog Rows.codeGetsRow.laid W) :
    Calls Tryz.prog 4 args W fun e W' => ∃ v, e = .returned v ∧ Rows.codeGetsSpec.post enc Tryz.prog Tryz.f4 false true false false W args v W' := by
  have hW := hW0
  have hval := hval0
  obtain ⟨p, q, hA0, hV, rfl, _, _⟩ := hW0
  have hA : DataW.TrodAll enc Tryz.prog W 0 (fun _ => true) true Tryz.f4.params.toList args.toList ds p := hA0
  rw [Tryz.params4] at hA hval
  obtain ⟨v0, d0, rfl, rfl, h0⟩ := trodAll_one hA
  obtain ⟨rfl, rfl⟩ := trodVars_none hV
  obtain ⟨A, len, c, rfl⟩ := okWide_slice u_bytes (hval 0 _ v0 rfl rfl)
  obtain ⟨m0, f0⟩ := h0
  obtain ⟨A', b, c', eb, hb, hc, hc2, hnil⟩ := bytes_in u_bytes u_u8 c_u8 f0
  have eb' : [Value.slice A len c] = _ := eb
  simp only [List.cons.injEq, Value.slice.injEq, and_true] at eb'
  obtain ⟨rfl, rfl, rfl⟩ := eb'
  refine (codeGets_any hb rfl hc hc2 (tab_ok hL)).mono fun e W' ⟨he, hB⟩ => ?_
  subst he
  have hlt := hW.lt
  have hs0 : ∀ z ∈ p, W.sameAt W' z := fun z hz => hB.same (hlt z (by simp [hz]))
  have hold : ∀ z ∈ p ++ [], (fun b => decide (b < W.heap.size)) z.block = true := fun z hz => by simpa using hlt z hz
  refine ⟨_, rfl, _, _, _, [], p, [], hW, trodAll_mk1 (shut_bool u_bool true), trodAll_mk1 (Go.WideElems.Trod_stays laid_out r_bytes l_bytes ⟨m0, f0⟩ hs0 (fun z hz => hold z (by simp [hz]))), rfl, hB.frame _, fun h => by cases h⟩

end Go.Proofs.YtfhfkbdaglegpaaGreatDoor

namespace Go.Proofs.YtfhfkbdaglegpaaGreatDoor
open Go.RowKit Go.ChangeShapes Go.WideShapes

set_option maxRecDepth 100000 in
theorem codeGets_reads (os : Os) {H : Type} (enc : TypeId × Value → H) : (DataW.whole enc Tryz.prog ((laidWorld os).forCall (fun _ _ => 0) ⟨#[], #[.slice none 0 0], []⟩).memory Tryz.f4.params.toList Rows.codeGetsSpec.vars false #[.slice none 0 0].toList 8).map (fun x => (x.1, x.2.1)) = some ([.nil], []) := by kernel_rfl
set_option maxRecDepth 100000 in
theorem codeGets_lifted (os : Os) (started : os.Started) (H : Type) (enc : TypeId × Value → H) (F : Stop.Interp) :
    ReturnsInHanded {} Tryz.checked os 4 .any ((OpenSpec.ofChange Rows.codeGetsSpec).preRow enc Tryz.prog Tryz.f4 Rows.codeGetsRow.domain false Rows.codeGetsRow.laid) (((OpenSpec.ofChange Rows.codeGetsSpec).at F).post enc Tryz.prog Tryz.f4 false true false false) := by
  obtain ⟨⟨x1, x2, x3⟩, hx, hx1⟩ := Option.map_eq_some_iff.1 (codeGets_reads os enc)
  simp only [Prod.mk.injEq] at hx1
  obtain ⟨rfl, rfl⟩ := hx1
  refine returnsInHanded_of_row (C := Tryz.checked) (s := OpenSpec.ofChange Rows.codeGetsSpec) own_knob started (by kernel_rfl) Tryz.func4
    (witness_row_atRef (enc := enc) (C := Tryz.checked) false (laidWorld os) #[.slice none 0 0] rfl (by kernel_rfl) (by kernel_rfl) (by kernel_rfl)
      (OpenSpec.preRow_of_cond 8 hx (by kernel_rfl) (fun k hk => by cases hk) (by kernel_rfl) (laid_met os _))) ?_
  intro W base args ds gs before hval hW _ _ _ hL _ _
  exact gets_contract H enc W base args ds gs before hval hW hL
set_option maxRecDepth 100000 in
theorem codeGets_said : Rows.CodeGetsSaid :=
  OpenClaim.holds_of_cond 4 Tryz.f4 rfl rfl rfl rfl rfl rfl rfl ⟨rfl, rfl, rfl, rfl, rfl⟩ rfl rfl rfl rfl rfl (by kernel_rfl) Tryz.func4 (by kernel_rfl)
    (of_decide_eq_true (by kernel_rfl)) (by unfold Func.isWrapper; first | (rw [if_pos (by decide +kernel)]; kernel_rfl) | (rw [if_neg (by decide +kernel)]; exact ⟨rfl, rfl⟩))
    (fun os started H enc _ F => by rw [OpenClaim.pre_eq_preRow]; exact codeGets_lifted os started H enc F)
theorem codeGets_plain (f : FuncId) (fn : Func) (hf : Tryz.pinned.checked.prog.funcNamed "clerestory/clerestorylaw24.CodeGets" = some f) (hfn : Tryz.pinned.checked.prog.funcs[f]? = some fn) :
    true = Tryz.pinned.checked.prog.looks [] ∧ ∀ (j : Nat) t, fn.params[j]? = some t → Tryz.pinned.checked.prog.wantsStandIn t = false := by
  obtain rfl : f = 4 := Option.some.inj ((show Tryz.prog.funcNamed "clerestory/clerestorylaw24.CodeGets" = some 4 by kernel_rfl).symm.trans hf) |>.symm
  obtain rfl : fn = Tryz.f4 := (Option.some.inj (Tryz.func4.symm.trans hfn)).symm
  refine ⟨by kernel_rfl, fun j t ht => ?_⟩
  rw [Tryz.params4] at ht
  have hm := Array.mem_of_getElem? ht
  simp only [List.mem_toArray, List.mem_cons, List.not_mem_nil, or_false] at hm
  rcases hm with rfl
  exact (show Tryz.prog.wantsStandIn 36 = false by kernel_rfl)
theorem codeGets_card : Rows.CodeGetsCardSaid :=
  Claim7.holds_tied_plain_at .later [] _ _ _ _ codeGets_said (fun _ h => by cases h) (by kernel_rfl) (fun _ h => by cases h) codeGets_row_tie rfl ⟨rfl, rfl⟩ (by kernel_rfl) rfl codeGets_plain (by kernel_rfl)

end Go.Proofs.YtfhfkbdaglegpaaGreatDoor
