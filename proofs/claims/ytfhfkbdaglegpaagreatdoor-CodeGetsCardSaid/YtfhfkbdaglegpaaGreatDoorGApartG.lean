/- All rows of a bag lie apart (kit.bag.apart). Printed by gen_bag.py. -/
import Derived.Test.YtfhfkbdaglegpaaGreatDoorGBag
import Derived.Test.YtfhfkbdaglegpaaGreatDoorGFlatI
import Derived.Test.YtfhfkbdaglegpaaGreatDoorGFlatN
import Derived.Test.YtfhfkbdaglegpaaGreatDoorGFlatPt
import Derived.Test.YtfhfkbdaglegpaaGreatDoorGApartM
import Derived.Test.YtfhfkbdaglegpaaGreatDoorGOpen

set_option linter.unusedVariables false
set_option linter.unusedSimpArgs false

namespace Go.Proofs.YtfhfkbdaglegpaaGreatDoor
open Go.RowKit

set_option maxHeartbeats 16000000 in
set_option maxRecDepth 1000000 in
theorem apart_bag {w : World} {bb Bb B : Nat} {X : Nat → List Value} (hb : BagG w bb Bb X) (h2 : OwnL 3 1 B (X 2) w) (d2 : ((X 2).flatMap ob).Nodup) (ne2 : X 2 ≠ []) (h4 : OwnL 9 1 B (X 4) w) (d4 : ((X 4).flatMap ob).Nodup) (ne4 : X 4 ≠ []) (h9 : OwnL 55 4 B (X 9) w) (d9 : ((X 9).flatMap ob).Nodup) (ne9 : X 9 ≠ []) (h14 : OwnL 32 14 B (X 14) w) (d14 : ((X 14).flatMap ob).Nodup) (ne14 : X 14 ≠ [])
    (low : ∀ j, ∀ v ∈ X j, ∀ b ∈ ob v, b < bb) (h0 : ∀ j, j < 21 → j ≠ 2 → j ≠ 4 → j ≠ 9 → j ≠ 14 → X j = []) (small : ∀ j i, i < (X j).length → nsOf (X j) i ≤ 1073741824) (many : ∀ j, (X j).length ≤ 1073741824) (hB : B ≤ bb) :
    Calls Tryz.prog 38 #[.pointer (some ⟨bb, 0, none⟩)] w fun e w' => e = .returned (.bool true) ∧ Below B w w' := by
  have hbl := hb.bb_lt
  have hbb := hb.lt
  have hBw : B ≤ w.heap.size := by omega
  have hrf : ∀ b, bb ≤ b → b < w.heap.size → w.heap[b]? = w.heap[b]? := fun _ _ _ => rfl
  have hrf := hide hrf
  obtain ⟨L2, q2, g2, c2, r2⟩ := hb.full (j := 2) (by decide) ne2
  obtain ⟨L4, q4, g4, c4, r4⟩ := hb.full (j := 4) (by decide) ne4
  obtain ⟨L9, q9, g9, c9, r9⟩ := hb.full (j := 9) (by decide) ne9
  obtain ⟨L14, q14, g14, c14, r14⟩ := hb.full (j := 14) (by decide) ne14
  have c0 := hb.void (j := 0) (by decide) (h0 0 (by decide) (by decide) (by decide) (by decide) (by decide))
  have c1 := hb.void (j := 1) (by decide) (h0 1 (by decide) (by decide) (by decide) (by decide) (by decide))
  have c3 := hb.void (j := 3) (by decide) (h0 3 (by decide) (by decide) (by decide) (by decide) (by decide))
  have c5 := hb.void (j := 5) (by decide) (h0 5 (by decide) (by decide) (by decide) (by decide) (by decide))
  have c6 := hb.void (j := 6) (by decide) (h0 6 (by decide) (by decide) (by decide) (by decide) (by decide))
  have c7 := hb.void (j := 7) (by decide) (h0 7 (by decide) (by decide) (by decide) (by decide) (by decide))
  have c8 := hb.void (j := 8) (by decide) (h0 8 (by decide) (by decide) (by decide) (by decide) (by decide))
  have c10 := hb.void (j := 10) (by decide) (h0 10 (by decide) (by decide) (by decide) (by decide) (by decide))
  have c11 := hb.void (j := 11) (by decide) (h0 11 (by decide) (by decide) (by decide) (by decide) (by decide))
  have c12 := hb.void (j := 12) (by decide) (h0 12 (by decide) (by decide) (by decide) (by decide) (by decide))
  have c13 := hb.void (j := 13) (by decide) (h0 13 (by decide) (by decide) (by decide) (by decide) (by decide))
  have c15 := hb.void (j := 15) (by decide) (h0 15 (by decide) (by decide) (by decide) (by decide) (by decide))
  have c16 := hb.void (j := 16) (by decide) (h0 16 (by decide) (by decide) (by decide) (by decide) (by decide))
  have c17 := hb.void (j := 17) (by decide) (h0 17 (by decide) (by decide) (by decide) (by decide) (by decide))
  have c18 := hb.void (j := 18) (by decide) (h0 18 (by decide) (by decide) (by decide) (by decide) (by decide))
  have c19 := hb.void (j := 19) (by decide) (h0 19 (by decide) (by decide) (by decide) (by decide) (by decide))
  have c20 := hb.void (j := 20) (by decide) (h0 20 (by decide) (by decide) (by decide) (by decide) (by decide))
  have HO2 := hide h2
  have HO4 := hide h4
  have HO9 := hide h9
  have HO14 := hide h14
  clear hb h0 h2 h4 h9 h14
  go_enter Tryz.func38, Tryz.ntmps38
  go_wp2_with (first
    | (go_at_call 67; (with_reducible refine (flatLimbs_nil).mono ?_); rintro e0 w0 ⟨rfl, hB⟩; have HB0 : Hid (Below B w w0) := hide ((Below.refl B w).trans (hB.mono (Nat.le_trans hBw (Below.refl B w).size))); have HH0 : Hid (∀ b, bb ≤ b → b < w.heap.size → w0.heap[b]? = w.heap[b]?) := hide (fun b h1 h2 => (hB.block b (Nat.lt_of_lt_of_le h2 (Below.refl B w).size)).trans (hrf.out b h1 h2)); have f0 := at_bag (HH0.out bb (Nat.le_refl _) hbl) (c1); have HO2_0 := hide ((HO2.out).below hB); have HO4_0 := hide ((HO4.out).below hB); have HO9_0 := hide ((HO9.out).below hB); have HO14_0 := hide ((HO14.out).below hB); clear hB)
    | (go_at_call 68; (with_reducible refine (flatWords_nil).mono ?_); rintro e1 w1 ⟨rfl, hB⟩; have HB1 : Hid (Below B w w1) := hide (HB0.out.trans (hB.mono (Nat.le_trans hBw HB0.out.size))); have HH1 : Hid (∀ b, bb ≤ b → b < w.heap.size → w1.heap[b]? = w.heap[b]?) := hide (fun b h1 h2 => (hB.block b (Nat.lt_of_lt_of_le h2 HB0.out.size)).trans (HH0.out b h1 h2)); have f1 := at_bag (HH1.out bb (Nat.le_refl _) hbl) (c2); have HO2_1 := hide ((HO2_0.out).below hB); have HO4_1 := hide ((HO4_0.out).below hB); have HO9_1 := hide ((HO9_0.out).below hB); have HO14_1 := hide ((HO14_0.out).below hB); clear hB)
    | (go_at_call 69; (with_reducible refine (flatInts_any (HO2_1.out.rows mkI_len d2) (fun j hj => at_bag (HH1.out L2 (Nat.le_of_lt (Nat.lt_of_lt_of_le hbb g2)) (block_lt_of_cell (r2 j hj))) (r2 j hj)) (tag_high (low 2) (Nat.le_of_lt (Nat.lt_of_lt_of_le hbb g2))) (fun j hj => small 2 j hj) (many 2) (Nat.le_trans hBw HB1.out.size) (Nat.lt_of_lt_of_le (block_lt_of_cell (r2 0 (List.length_pos_iff.2 ne2))) HB1.out.size)).mono ?_); rintro e2 w2 ⟨rfl, hB, hO⟩; have HB2 : Hid (Below B w w2) := hide (HB1.out.trans hB); have HH2 : Hid (∀ b, bb ≤ b → b < w.heap.size → w2.heap[b]? = w.heap[b]?) := hide (fun b h1 h2 => (hO b (Nat.lt_of_lt_of_le h2 HB1.out.size) (tag_high (low 2) h1)).trans (HH1.out b h1 h2)); have f2 := at_bag (HH2.out bb (Nat.le_refl _) hbl) (c3); have HO4_2 := hide ((HO4_1.out).flat HO2_1.out (by decide) hO); have HO9_2 := hide ((HO9_1.out).flat HO2_1.out (by decide) hO); have HO14_2 := hide ((HO14_1.out).flat HO2_1.out (by decide) hO); clear hB hO)
    | (go_at_call 70; (with_reducible refine (flatLongs_nil).mono ?_); rintro e3 w3 ⟨rfl, hB⟩; have HB3 : Hid (Below B w w3) := hide (HB2.out.trans (hB.mono (Nat.le_trans hBw HB2.out.size))); have HH3 : Hid (∀ b, bb ≤ b → b < w.heap.size → w3.heap[b]? = w.heap[b]?) := hide (fun b h1 h2 => (hB.block b (Nat.lt_of_lt_of_le h2 HB2.out.size)).trans (HH2.out b h1 h2)); have f3 := at_bag (HH3.out bb (Nat.le_refl _) hbl) (c4); have HO4_3 := hide ((HO4_2.out).below hB); have HO9_3 := hide ((HO9_2.out).below hB); have HO14_3 := hide ((HO14_2.out).below hB); clear hB)
    | (go_at_call 71; (with_reducible refine (flatTexts_any (HO4_3.out.rows mkT_len d4) (fun j hj => at_bag (HH3.out L4 (Nat.le_of_lt (Nat.lt_of_lt_of_le hbb g4)) (block_lt_of_cell (r4 j hj))) (r4 j hj)) (tag_high (low 4) (Nat.le_of_lt (Nat.lt_of_lt_of_le hbb g4))) (fun j hj => small 4 j hj) (many 4) (Nat.le_trans hBw HB3.out.size) (Nat.lt_of_lt_of_le (block_lt_of_cell (r4 0 (List.length_pos_iff.2 ne4))) HB3.out.size)).mono ?_); rintro e4 w4 ⟨rfl, hB, hO⟩; have HB4 : Hid (Below B w w4) := hide (HB3.out.trans hB); have HH4 : Hid (∀ b, bb ≤ b → b < w.heap.size → w4.heap[b]? = w.heap[b]?) := hide (fun b h1 h2 => (hO b (Nat.lt_of_lt_of_le h2 HB3.out.size) (tag_high (low 4) h1)).trans (HH3.out b h1 h2)); have f4 := at_bag (HH4.out bb (Nat.le_refl _) hbl) (c5); have HO9_4 := hide ((HO9_3.out).flat HO4_3.out (by decide) hO); have HO14_4 := hide ((HO14_3.out).flat HO4_3.out (by decide) hO); clear hB hO)
    | (go_at_call 72; (with_reducible refine (flatBytes_nil).mono ?_); rintro e5 w5 ⟨rfl, hB⟩; have HB5 : Hid (Below B w w5) := hide (HB4.out.trans (hB.mono (Nat.le_trans hBw HB4.out.size))); have HH5 : Hid (∀ b, bb ≤ b → b < w.heap.size → w5.heap[b]? = w.heap[b]?) := hide (fun b h1 h2 => (hB.block b (Nat.lt_of_lt_of_le h2 HB4.out.size)).trans (HH4.out b h1 h2)); have f5 := at_bag (HH5.out bb (Nat.le_refl _) hbl) (c6); have HO9_5 := hide ((HO9_4.out).below hB); have HO14_5 := hide ((HO14_4.out).below hB); clear hB)
    | (go_at_call 73; (with_reducible refine (flatTruths_nil).mono ?_); rintro e6 w6 ⟨rfl, hB⟩; have HB6 : Hid (Below B w w6) := hide (HB5.out.trans (hB.mono (Nat.le_trans hBw HB5.out.size))); have HH6 : Hid (∀ b, bb ≤ b → b < w.heap.size → w6.heap[b]? = w.heap[b]?) := hide (fun b h1 h2 => (hB.block b (Nat.lt_of_lt_of_le h2 HB5.out.size)).trans (HH5.out b h1 h2)); have f6 := at_bag (HH6.out bb (Nat.le_refl _) hbl) (c7); have HO9_6 := hide ((HO9_5.out).below hB); have HO14_6 := hide ((HO14_5.out).below hB); clear hB)
    | (go_at_call 74; (with_reducible refine (flatTokens_nil).mono ?_); rintro e7 w7 ⟨rfl, hB⟩; have HB7 : Hid (Below B w w7) := hide (HB6.out.trans (hB.mono (Nat.le_trans hBw HB6.out.size))); have HH7 : Hid (∀ b, bb ≤ b → b < w.heap.size → w7.heap[b]? = w.heap[b]?) := hide (fun b h1 h2 => (hB.block b (Nat.lt_of_lt_of_le h2 HB6.out.size)).trans (HH6.out b h1 h2)); have f7 := at_bag (HH7.out bb (Nat.le_refl _) hbl) (c8); have HO9_7 := hide ((HO9_6.out).below hB); have HO14_7 := hide ((HO14_6.out).below hB); clear hB)
    | (go_at_call 75; (with_reducible refine (flatSpans_nil).mono ?_); rintro e8 w8 ⟨rfl, hB⟩; have HB8 : Hid (Below B w w8) := hide (HB7.out.trans (hB.mono (Nat.le_trans hBw HB7.out.size))); have HH8 : Hid (∀ b, bb ≤ b → b < w.heap.size → w8.heap[b]? = w.heap[b]?) := hide (fun b h1 h2 => (hB.block b (Nat.lt_of_lt_of_le h2 HB7.out.size)).trans (HH7.out b h1 h2)); have f8 := at_bag (HH8.out bb (Nat.le_refl _) hbl) (c9); have HO9_8 := hide ((HO9_7.out).below hB); have HO14_8 := hide ((HO14_7.out).below hB); clear hB)
    | (go_at_call 76; (with_reducible refine (flatNodes_any (HO9_8.out.rows mkN_len d9) (fun j hj => at_bag (HH8.out L9 (Nat.le_of_lt (Nat.lt_of_lt_of_le hbb g9)) (block_lt_of_cell (r9 j hj))) (r9 j hj)) (tag_high (low 9) (Nat.le_of_lt (Nat.lt_of_lt_of_le hbb g9))) (fun j hj => small 9 j hj) (many 9) (Nat.le_trans hBw HB8.out.size) (Nat.lt_of_lt_of_le (block_lt_of_cell (r9 0 (List.length_pos_iff.2 ne9))) HB8.out.size)).mono ?_); rintro e9 w9 ⟨rfl, hB, hO⟩; have HB9 : Hid (Below B w w9) := hide (HB8.out.trans hB); have HH9 : Hid (∀ b, bb ≤ b → b < w.heap.size → w9.heap[b]? = w.heap[b]?) := hide (fun b h1 h2 => (hO b (Nat.lt_of_lt_of_le h2 HB8.out.size) (tag_high (low 9) h1)).trans (HH8.out b h1 h2)); have f9 := at_bag (HH9.out bb (Nat.le_refl _) hbl) (c10); have HO14_9 := hide ((HO14_8.out).flat HO9_8.out (by decide) hO); clear hB hO)
    | (go_at_call 77; (with_reducible refine (flatFaults_nil).mono ?_); rintro e10 w10 ⟨rfl, hB⟩; have HB10 : Hid (Below B w w10) := hide (HB9.out.trans (hB.mono (Nat.le_trans hBw HB9.out.size))); have HH10 : Hid (∀ b, bb ≤ b → b < w.heap.size → w10.heap[b]? = w.heap[b]?) := hide (fun b h1 h2 => (hB.block b (Nat.lt_of_lt_of_le h2 HB9.out.size)).trans (HH9.out b h1 h2)); have f10 := at_bag (HH10.out bb (Nat.le_refl _) hbl) (c11); have HO14_10 := hide ((HO14_9.out).below hB); clear hB)
    | (go_at_call 78; (with_reducible refine (flatMarks_nil).mono ?_); rintro e11 w11 ⟨rfl, hB⟩; have HB11 : Hid (Below B w w11) := hide (HB10.out.trans (hB.mono (Nat.le_trans hBw HB10.out.size))); have HH11 : Hid (∀ b, bb ≤ b → b < w.heap.size → w11.heap[b]? = w.heap[b]?) := hide (fun b h1 h2 => (hB.block b (Nat.lt_of_lt_of_le h2 HB10.out.size)).trans (HH10.out b h1 h2)); have f11 := at_bag (HH11.out bb (Nat.le_refl _) hbl) (c12); have HO14_11 := hide ((HO14_10.out).below hB); clear hB)
    | (go_at_call 79; (with_reducible refine (flatHunks_nil).mono ?_); rintro e12 w12 ⟨rfl, hB⟩; have HB12 : Hid (Below B w w12) := hide (HB11.out.trans (hB.mono (Nat.le_trans hBw HB11.out.size))); have HH12 : Hid (∀ b, bb ≤ b → b < w.heap.size → w12.heap[b]? = w.heap[b]?) := hide (fun b h1 h2 => (hB.block b (Nat.lt_of_lt_of_le h2 HB11.out.size)).trans (HH11.out b h1 h2)); have f12 := at_bag (HH12.out bb (Nat.le_refl _) hbl) (c13); have HO14_12 := hide ((HO14_11.out).below hB); clear hB)
    | (go_at_call 80; (with_reducible refine (flatEdits_nil).mono ?_); rintro e13 w13 ⟨rfl, hB⟩; have HB13 : Hid (Below B w w13) := hide (HB12.out.trans (hB.mono (Nat.le_trans hBw HB12.out.size))); have HH13 : Hid (∀ b, bb ≤ b → b < w.heap.size → w13.heap[b]? = w.heap[b]?) := hide (fun b h1 h2 => (hB.block b (Nat.lt_of_lt_of_le h2 HB12.out.size)).trans (HH12.out b h1 h2)); have f13 := at_bag (HH13.out bb (Nat.le_refl _) hbl) (c14); have HO14_13 := hide ((HO14_12.out).below hB); clear hB)
    | (go_at_call 81; (with_reducible refine (flatPatches_any (HO14_13.out.rows mkP_len d14) (fun j hj => at_bag (HH13.out L14 (Nat.le_of_lt (Nat.lt_of_lt_of_le hbb g14)) (block_lt_of_cell (r14 j hj))) (r14 j hj)) (tag_high (low 14) (Nat.le_of_lt (Nat.lt_of_lt_of_le hbb g14))) (fun j hj => small 14 j hj) (many 14) (Nat.le_trans hBw HB13.out.size) (Nat.lt_of_lt_of_le (block_lt_of_cell (r14 0 (List.length_pos_iff.2 ne14))) HB13.out.size)).mono ?_); rintro e14 w14 ⟨rfl, hB, hO⟩; have HB14 : Hid (Below B w w14) := hide (HB13.out.trans hB); have HH14 : Hid (∀ b, bb ≤ b → b < w.heap.size → w14.heap[b]? = w.heap[b]?) := hide (fun b h1 h2 => (hO b (Nat.lt_of_lt_of_le h2 HB13.out.size) (tag_high (low 14) h1)).trans (HH13.out b h1 h2)); have f14 := at_bag (HH14.out bb (Nat.le_refl _) hbl) (c15); clear hB hO)
    | (go_at_call 82; (with_reducible refine (flatDocs_nil).mono ?_); rintro e15 w15 ⟨rfl, hB⟩; have HB15 : Hid (Below B w w15) := hide (HB14.out.trans (hB.mono (Nat.le_trans hBw HB14.out.size))); have HH15 : Hid (∀ b, bb ≤ b → b < w.heap.size → w15.heap[b]? = w.heap[b]?) := hide (fun b h1 h2 => (hB.block b (Nat.lt_of_lt_of_le h2 HB14.out.size)).trans (HH14.out b h1 h2)); have f15 := at_bag (HH15.out bb (Nat.le_refl _) hbl) (c16); clear hB)
    | (go_at_call 83; (with_reducible refine (flatNamedRow_nil).mono ?_); rintro e16 w16 ⟨rfl, hB⟩; have HB16 : Hid (Below B w w16) := hide (HB15.out.trans (hB.mono (Nat.le_trans hBw HB15.out.size))); have HH16 : Hid (∀ b, bb ≤ b → b < w.heap.size → w16.heap[b]? = w.heap[b]?) := hide (fun b h1 h2 => (hB.block b (Nat.lt_of_lt_of_le h2 HB15.out.size)).trans (HH15.out b h1 h2)); have f16 := at_bag (HH16.out bb (Nat.le_refl _) hbl) (c17); clear hB)
    | (go_at_call 84; (with_reducible refine (flatValues_nil).mono ?_); rintro e17 w17 ⟨rfl, hB⟩; have HB17 : Hid (Below B w w17) := hide (HB16.out.trans (hB.mono (Nat.le_trans hBw HB16.out.size))); have HH17 : Hid (∀ b, bb ≤ b → b < w.heap.size → w17.heap[b]? = w.heap[b]?) := hide (fun b h1 h2 => (hB.block b (Nat.lt_of_lt_of_le h2 HB16.out.size)).trans (HH16.out b h1 h2)); have f17 := at_bag (HH17.out bb (Nat.le_refl _) hbl) (c18); clear hB)
    | (go_at_call 85; (with_reducible refine (flatOutcomes_nil).mono ?_); rintro e18 w18 ⟨rfl, hB⟩; have HB18 : Hid (Below B w w18) := hide (HB17.out.trans (hB.mono (Nat.le_trans hBw HB17.out.size))); have HH18 : Hid (∀ b, bb ≤ b → b < w.heap.size → w18.heap[b]? = w.heap[b]?) := hide (fun b h1 h2 => (hB.block b (Nat.lt_of_lt_of_le h2 HB17.out.size)).trans (HH17.out b h1 h2)); have f18 := at_bag (HH18.out bb (Nat.le_refl _) hbl) (c19); clear hB)
    | (go_at_call 86; (with_reducible refine (flatCommands_nil).mono ?_); rintro e19 w19 ⟨rfl, hB⟩; have HB19 : Hid (Below B w w19) := hide (HB18.out.trans (hB.mono (Nat.le_trans hBw HB18.out.size))); have HH19 : Hid (∀ b, bb ≤ b → b < w.heap.size → w19.heap[b]? = w.heap[b]?) := hide (fun b h1 h2 => (hB.block b (Nat.lt_of_lt_of_le h2 HB18.out.size)).trans (HH18.out b h1 h2)); have f19 := at_bag (HH19.out bb (Nat.le_refl _) hbl) (c20); clear hB)
    | (go_at_call 87; (with_reducible refine (flatAnswers_nil).mono ?_); rintro e20 w20 ⟨rfl, hB⟩; have HB20 : Hid (Below B w w20) := hide (HB19.out.trans (hB.mono (Nat.le_trans hBw HB19.out.size))); have HH20 : Hid (∀ b, bb ≤ b → b < w.heap.size → w20.heap[b]? = w.heap[b]?) := hide (fun b h1 h2 => (hB.block b (Nat.lt_of_lt_of_le h2 HB19.out.size)).trans (HH19.out b h1 h2)); clear hB))
  go_ret
  exact ⟨rfl, HB20.out⟩

end Go.Proofs.YtfhfkbdaglegpaaGreatDoor

namespace Go.Proofs.YtfhfkbdaglegpaaGreatDoor
open Go.RowKit

/-- a row of patches in memory -/
structure PRow where
  A : Option Addr
  c : Nat
  l : List PIt
def PRow.v (r : PRow) : Value := .slice r.A r.l.length r.c
def rowsPs (ls : List PRow) (j : Nat) : List Value := ls.flatMap fun r => rowsP r.v r.l j
theorem rowsPs_snoc (ls : List PRow) (r : PRow) : addAll (rowsPs ls) (rowsP r.v r.l) = rowsPs (ls ++ [r]) := by funext j; simp [addAll, rowsPs]
theorem rowsPs_void (ls : List PRow) (j : Nat) (h2 : j ≠ 2) (h4 : j ≠ 4) (h9 : j ≠ 9) (h14 : j ≠ 14) : rowsPs ls j = [] := by
  simp [rowsPs, rowsP, h14, PIt.rows, h2, h4, h9]
theorem OwnL.low {w w' : World} {E : TypeId} {s B bb : Nat} {l : List Value} (h : OwnL E s B l w) (hl : ∀ v ∈ l, ∀ b ∈ ob v, b < bb) (hB : Below bb w w') : OwnL E s B l w' := fun v hv => by
  obtain ⟨A, n, c, xs, e, ho⟩ := h v hv
  exact ⟨A, n, c, xs, e, own_same ho fun g hg => hB.block g (hl v hv g (mem_ob.2 hg))⟩
theorem OwnL.lt {w : World} {E : TypeId} {s B : Nat} {l : List Value} (h : OwnL E s B l w) : ∀ v ∈ l, ∀ b ∈ ob v, b < w.heap.size := fun v hv b hb => by
  obtain ⟨A, n, c, xs, e, ho⟩ := h v hv
  exact (ho.lt b (mem_ob.1 hb)).2
theorem bag_new (w : World) : BagG (w.alloc (.cells #[.slice none 0 0, .slice none 0 0, .slice none 0 0, .slice none 0 0, .slice none 0 0, .slice none 0 0, .slice none 0 0, .slice none 0 0, .slice none 0 0, .slice none 0 0, .slice none 0 0, .slice none 0 0, .slice none 0 0, .slice none 0 0, .slice none 0 0, .slice none 0 0, .slice none 0 0, .slice none 0 0, .slice none 0 0, .slice none 0 0, .slice none 0 0] 92)) w.heap.size (w.heap.size + 1) (rowsPs []) := by
  have hc := Lib.cell_of_heap (heap_alloc_new w (.cells #[.slice none 0 0, .slice none 0 0, .slice none 0 0, .slice none 0 0, .slice none 0 0, .slice none 0 0, .slice none 0 0, .slice none 0 0, .slice none 0 0, .slice none 0 0, .slice none 0 0, .slice none 0 0, .slice none 0 0, .slice none 0 0, .slice none 0 0, .slice none 0 0, .slice none 0 0, .slice none 0 0, .slice none 0 0, .slice none 0 0, .slice none 0 0] 92))
  refine ⟨fun j hj => ⟨.slice none 0 0, ?_, fun _ => rfl, ⟨rfl, .inl ⟨rfl, rfl⟩⟩⟩, fun j => ?_, Nat.lt_succ_self _, by simp⟩
  · rw [hc]
    have : ∀ j, j < 21 → (#[.slice none 0 0, .slice none 0 0, .slice none 0 0, .slice none 0 0, .slice none 0 0, .slice none 0 0, .slice none 0 0, .slice none 0 0, .slice none 0 0, .slice none 0 0, .slice none 0 0, .slice none 0 0, .slice none 0 0, .slice none 0 0, .slice none 0 0, .slice none 0 0, .slice none 0 0, .slice none 0 0, .slice none 0 0, .slice none 0 0, .slice none 0 0] : Array Value)[j]? = some (.slice none 0 0) := by
      intro j hj
      have : j = 0 ∨ j = 1 ∨ j = 2 ∨ j = 3 ∨ j = 4 ∨ j = 5 ∨ j = 6 ∨ j = 7 ∨ j = 8 ∨ j = 9 ∨ j = 10 ∨ j = 11 ∨ j = 12 ∨ j = 13 ∨ j = 14 ∨ j = 15 ∨ j = 16 ∨ j = 17 ∨ j = 18 ∨ j = 19 ∨ j = 20 := by omega
      rcases this with rfl | rfl | rfl | rfl | rfl | rfl | rfl | rfl | rfl | rfl | rfl | rfl | rfl | rfl | rfl | rfl | rfl | rfl | rfl | rfl | rfl <;> rfl
    exact this j hj
  · simp
set_option maxHeartbeats 8000000 in
set_option maxRecDepth 1000000 in
theorem apartPatches_any {w : World} {LA K c B : Nat} {ls : List PRow} (hK : ls.length = K) (hls : ∀ k r, ls[k]? = some r → w.cell? ⟨LA, k, none⟩ = some r.v) (hLA : LA < w.heap.size)
    (ho : ∀ r ∈ ls, w.ownsRow 0 32 14 r.v r.l.length (r.l.flatMap PIt.cells)) (hi : ∀ r ∈ ls, ∀ it ∈ r.l, it.ok w w.heap.size)
    (h2 : OwnL 3 1 B (rowsPs ls 2) w) (h4 : OwnL 9 1 B (rowsPs ls 4) w) (h9 : OwnL 55 4 B (rowsPs ls 9) w) (h14 : OwnL 32 14 B (rowsPs ls 14) w)
    (hd : ∀ j, ((rowsPs ls j).flatMap ob).Nodup) (ne : rowsPs ls 2 ≠ [] ∧ rowsPs ls 4 ≠ [] ∧ rowsPs ls 9 ≠ [] ∧ rowsPs ls 14 ≠ [])
    (small : ∀ j i, i < (rowsPs ls j).length → nsOf (rowsPs ls j) i ≤ 1073741824) (many : ∀ j, (rowsPs ls j).length ≤ 1000000) (hB : B ≤ w.heap.size) (hcK : K ≤ c ∧ c ≤ 9223372036854775807) :
    Calls Tryz.prog 19 #[.slice (some ⟨LA, 0, none⟩) K c] w fun e w' => e = .returned (.bool true) ∧ Below B w w' := by
  have Hls := hide hls
  have Ho := hide ho
  have Hi := hide hi
  have lo2 := hide h2.lt
  have lo4 := hide h4.lt
  have lo9 := hide h9.lt
  have lo14 := hide h14.lt
  have Hm := hide many
  have HA : Hid (∀ W, BagG W w.heap.size (w.heap.size + 1) (rowsPs ls) → Below w.heap.size w W → Calls Tryz.prog 38 #[.pointer (some ⟨w.heap.size, 0, none⟩)] W fun e w' => e = .returned (.bool true) ∧ Below B W w') := hide fun W hG hW =>
    apart_bag hG (h2.low lo2.out hW) (hd 2) ne.1 (h4.low lo4.out hW) (hd 4) ne.2.1 (h9.low lo9.out hW) (hd 9) ne.2.2.1 (h14.low lo14.out hW) (hd 14) ne.2.2.2
      (fun j v hv b hb => by
        by_cases e2 : j = 2
        · subst e2; exact lo2.out v hv b hb
        · by_cases e4 : j = 4
          · subst e4; exact lo4.out v hv b hb
          · by_cases e9 : j = 9
            · subst e9; exact lo9.out v hv b hb
            · by_cases e14 : j = 14
              · subst e14; exact lo14.out v hv b hb
              · rw [rowsPs_void ls j e2 e4 e9 e14] at hv; cases hv)
      (fun j _ e2 e4 e9 e14 => rowsPs_void ls j e2 e4 e9 e14) small (fun j => Nat.le_trans (Hm.out j) (by decide)) hB
  clear h2 h4 h9 h14 hd ne small many hls ho hi
  go_enter Tryz.func19, Tryz.ntmps19
  go_wp2_with fail
  go_loopg [4] K (fun g k wx => ∃ q : Nat, q ≤ K ∧ g = K - q ∧ k = .int .i64 q ∧ Hid (BagG wx w.heap.size (w.heap.size + 1) (rowsPs (ls.take q))) ∧ Hid (Below w.heap.size w wx))
  case atStart => exact ⟨0, by omega, by omega, rfl, hide (by simpa using bag_new w), hide (below_alloc w _)⟩
  case round =>
  obtain ⟨q, hq, hg, rfl, HG, HB⟩ := hrel
  by_cases hlt : q < K
  · obtain ⟨r, hr⟩ : ∃ r, ls[q]? = some r := ⟨_, List.getElem?_eq_getElem (by omega)⟩
    have hx := at_bag (HB.out.block LA hLA) (Hls.out q r hr)
    have hmem := List.mem_of_getElem? hr
    have hone : Hid (Calls Tryz.prog 45 #[.pointer (some ⟨w.heap.size, 0, none⟩), r.v] wr fun e w' => e = .returned (.tuple #[]) ∧ BagG w' w.heap.size (w.heap.size + 1) (rowsPs (ls.take (q + 1))) ∧ HK w.heap.size wr w') := hide (by
      rw [take_succ_at hr, ← rowsPs_snoc]
      refine putPatches_bag rfl HG.out (fun j => ?_) (own_same (Ho.out r hmem) fun g hg => HB.out.block g ((Ho.out r hmem).lt g hg).2) (fun it hit => (Hi.out r hmem it hit).below HB.out) (fun b hb => ((Ho.out r hmem).lt b (mem_ob.1 hb)).2)
      have h1 := Hm.out j
      have h2 := flatMap_part (fun r : PRow => rowsP r.v r.l j) hr
      simp only [rowsPs] at h1 ⊢
      exact Nat.le_trans h2 h1)
    clear hr hmem
    obtain ⟨rv, hrv⟩ : ∃ rv, rv = r.v := ⟨_, rfl⟩
    rw [← hrv] at hx hone
    have hrs : ∃ A n c, rv = .slice A n c := ⟨_, _, _, hrv⟩
    obtain ⟨rA, rn, rc, rfl⟩ := hrs
    clear hrv
    go_wp2_with (go_at_call 45; (with_reducible refine hone.out.mono ?_); rintro e1 w1 ⟨rfl, hG1, hK1⟩)
    go_roundg (K - (q + 1))
    case measure => omega
    case rel => exact ⟨q + 1, by omega, rfl, by go_num, hide hG1, hide (HB.out.trans hK1.1)⟩
  · have hqK : q = ls.length := by omega
    have HG2 : Hid (BagG wr w.heap.size (w.heap.size + 1) (rowsPs ls)) := hide (by have := HG.out; rwa [List.take_of_length_le (by omega)] at this)
    clear HG hqK
    go_wp2_with (go_at_call 38; (with_reducible refine (HA.out _ HG2.out HB.out).mono ?_); rintro e1 w1 ⟨rfl, hB1⟩)
    go_ret
    exact ⟨rfl, (HB.out.mono hB).trans hB1⟩

end Go.Proofs.YtfhfkbdaglegpaaGreatDoor

namespace Go.Proofs.YtfhfkbdaglegpaaGreatDoor
open Go.RowKit

section
variable {w w' : World} {B bb : Nat}
theorem own_base {e size n : Nat} {v : Value} {xs : List Value} (h : w.ownsRow 0 e size v n xs) (hB : ∀ b ∈ ob v, B ≤ b) : w.ownsRow B e size v n xs := by
  refine ⟨h.1, ?_⟩
  rcases h.2 with hn | ⟨g, cap, cur, rfl, _, rest⟩
  · exact .inl hn
  · exact .inr ⟨g, cap, cur, rfl, hB g (mem_ob.2 rfl), rest⟩
/-- the rows within a row of nodes -/
theorem FoR.all : ∀ {f : Fo} {vs : List Value} {R : List (Value × Nat)}, FoR w vs f R → R.length = f.cnt ∧ ∀ r ∈ R, r.2 ≤ f.cnt ∧ ∃ A c xs, r.1 = .slice A r.2 c ∧ w.ownsRow 0 55 4 r.1 r.2 xs := by
  intro f
  induction f with
  | nil => rintro vs R ⟨_, rfl⟩; exact ⟨rfl, fun r hr => by cases hr⟩
  | cons k t n ks r ihk ihr =>
    rintro vs R ⟨KA, c, vs', ys, R1, R2, rfl, h1, h2, h3, h4, rfl⟩
    obtain ⟨a1, a2⟩ := ihk h3
    obtain ⟨b1, b2⟩ := ihr h4
    have hl := Fo.len_le_cnt ks
    refine ⟨by simp only [List.length_cons, List.length_append, Fo.cnt]; omega, fun x hx => ?_⟩
    rcases List.mem_cons.1 hx with rfl | hx
    · exact ⟨by simp only [Fo.cnt]; omega, KA, c, ys, rfl, h2⟩
    · rcases List.mem_append.1 hx with hx | hx
      · obtain ⟨q1, q2⟩ := a2 x hx; exact ⟨by simp only [Fo.cnt]; omega, q2⟩
      · obtain ⟨q1, q2⟩ := b2 x hx; exact ⟨by simp only [Fo.cnt]; omega, q2⟩
/-- what a patch of own rows is to the bag -/
structure PItOwn (it : PIt) (w : World) (B M : Nat) (L : List Nat) : Prop where
  ints : OwnL 3 1 B (it.rows 2) w
  texts : OwnL 9 1 B (it.rows 4) w
  nodes : OwnL 55 4 B (it.rows 9) w
  sub : ∀ j, ((it.rows j).flatMap ob).Sublist L
  len : ∀ j, (it.rows j).length ≤ 2 * M + 2
  small : ∀ j, ∀ v ∈ it.rows j, lenV v ≤ M
theorem PtO.item {x : Ph} {p : Pt} {L : List Nat} {M : Nat} (h : PtO w x p L) (hB : ∀ b ∈ L, B ≤ b) (hM : p.hunk.old.length ≤ M ∧ p.hunk.new.length ≤ M ∧ p.edit.path.length ≤ M ∧ p.edit.old.cnt ≤ M ∧ p.edit.new.cnt ≤ M) :
    ∃ it : PIt, it.x = x ∧ it.p = p ∧ (∀ bb, (∀ b ∈ L, b < bb) → it.ok w bb) ∧ PItOwn it w B M L := by
  obtain ⟨L1, L2, ⟨LA, LB, hA, hN, rfl⟩, ⟨Lp, _, _, hp, ⟨vo, Ro, o1, o2, rfl, _⟩, ⟨vn, Rn, n1, n2, rfl, _⟩, rfl⟩, rfl⟩ := h
  obtain ⟨hA1, rfl⟩ := hA
  obtain ⟨hN1, rfl⟩ := hN
  obtain ⟨hp1, rfl⟩ := hp
  obtain ⟨m1, m2, m3, m4, m5⟩ := hM
  obtain ⟨r1, r2⟩ := o2.all
  obtain ⟨s1, s2⟩ := n2.all
  have hol := Fo.len_le_cnt p.edit.old
  have hnl := Fo.len_le_cnt p.edit.new
  simp only [List.mem_append] at hB
  refine ⟨⟨x, p, vo, Ro, vn, Rn⟩, rfl, rfl, fun bb hb => ?_, ?_⟩
  · simp only [List.mem_append] at hb
    exact ⟨o1, o2, n1, n2, fun b h => hb b (by simp only [List.mem_append] at h; rcases h with h | h <;> simp [h]), fun b h => hb b (by simp only [List.mem_append] at h; rcases h with h | h <;> simp [h])⟩
  · have hR : ∀ {R : List (Value × Nat)}, R.flatMap (fun r => ob r.1) = (R.map Prod.fst).flatMap ob := fun {R} => obs_fst R
    refine ⟨fun v hv => ?_, fun v hv => ?_, fun v hv => ?_, fun j => ?_, fun j => ?_, fun j v hv => ?_⟩
    · simp only [PIt.rows, if_pos, List.mem_singleton] at hv
      subst hv
      exact ⟨_, _, _, _, rfl, own_base hp1 fun b hb => hB b (by simp [hb])⟩
    · simp [PIt.rows] at hv
      rcases hv with rfl | rfl
      · exact ⟨_, _, _, _, rfl, own_base hA1 fun b hb => hB b (by simp [hb])⟩
      · exact ⟨_, _, _, _, rfl, own_base hN1 fun b hb => hB b (by simp [hb])⟩
    · simp only [PIt.rows] at hv
      simp only [show ¬ (9 : Nat) = 2 by decide, show ¬ (9 : Nat) = 4 by decide, if_false, if_true, List.mem_append, List.mem_cons, List.mem_map] at hv
      rcases hv with (rfl | ⟨r, hr, rfl⟩) | (rfl | ⟨r, hr, rfl⟩)
      · exact ⟨_, _, _, _, rfl, own_base o1 fun b hb => hB b (by simp [hb])⟩
      · obtain ⟨_, A, c, xs, e, ho⟩ := r2 r hr
        exact ⟨A, r.2, c, xs, e, own_base ho fun b hb => hB b (.inr (.inr (.inl (.inr (List.mem_flatMap.2 ⟨r, hr, hb⟩)))))⟩
      · exact ⟨_, _, _, _, rfl, own_base n1 fun b hb => hB b (by simp [hb])⟩
      · obtain ⟨_, A, c, xs, e, ho⟩ := s2 r hr
        exact ⟨A, r.2, c, xs, e, own_base ho fun b hb => hB b (.inr (.inr (.inr (.inr (List.mem_flatMap.2 ⟨r, hr, hb⟩)))))⟩
    · by_cases h2 : j = 2
      · subst h2
        simp only [PIt.rows, if_true, List.flatMap_cons, List.flatMap_nil, List.append_nil]
        exact (List.sublist_append_left _ _).trans (List.sublist_append_right _ _)
      · by_cases h4 : j = 4
        · subst h4
          simp only [PIt.rows, if_neg h2, if_true, List.flatMap_cons, List.flatMap_nil, List.append_nil]
          exact List.sublist_append_left _ _
        · by_cases h9 : j = 9
          · subst h9
            simp only [PIt.rows, if_neg h2, if_neg h4, if_true, List.flatMap_append, List.flatMap_cons, ← obs_fst]
            exact (List.sublist_append_right _ _).trans (List.sublist_append_right _ _)
          · simp [PIt.rows, h2, h4, h9]
    · by_cases h2 : j = 2
      · simp [PIt.rows, h2]
      · by_cases h4 : j = 4
        · simp [PIt.rows, h4]
        · by_cases h9 : j = 9
          · simp [PIt.rows, h9]; omega
          · simp [PIt.rows, h2, h4, h9]
    · by_cases h2 : j = 2
      · simp [PIt.rows, h2] at hv; subst hv; exact m3
      · by_cases h4 : j = 4
        · simp [PIt.rows, h4] at hv; rcases hv with rfl | rfl
          · exact m1
          · exact m2
        · by_cases h9 : j = 9
          · subst h9
            simp only [PIt.rows, if_neg h2, if_neg h4, if_true, List.mem_append, List.mem_cons, List.mem_map] at hv
            rcases hv with (rfl | ⟨r, hr, rfl⟩) | (rfl | ⟨r, hr, rfl⟩)
            · exact Nat.le_trans hol m4
            · obtain ⟨q, A, c, xs, e, _⟩ := r2 r hr; rw [e]; exact Nat.le_trans q m4
            · exact Nat.le_trans hnl m5
            · obtain ⟨q, A, c, xs, e, _⟩ := s2 r hr; rw [e]; exact Nat.le_trans q m5
          · simp [PIt.rows, h2, h4, h9] at hv
theorem OwnL.app {E : TypeId} {s : Nat} {l l' : List Value} (h : OwnL E s B l w) (h' : OwnL E s B l' w) : OwnL E s B (l ++ l') w := fun v hv => (List.mem_append.1 hv).elim (h v) (h' v)
theorem OwnL.void {E : TypeId} {s : Nat} : OwnL E s B [] w := fun v hv => by cases hv
end
theorem nsOf_le {l : List Value} {M : Nat} (h : ∀ v ∈ l, lenV v ≤ M) (i : Nat) (hi : i < l.length) : nsOf l i ≤ M := by
  rw [nsOf, vsOf_at hi]
  exact h _ (List.getElem_mem hi)
/-- a row of one patch, made anew -/
theorem own_lit14 (w w' : World) (cs : List Value) (hc : cs.length = 14) (e : TypeId) (hk : w'.heap[w.heap.size]? = some (.cells cs.toArray e)) : w'.ownsRow 0 e 14 (.slice (some ⟨w.heap.size, 0, none⟩) 1 1) 1 cs := by
  refine ⟨by omega, .inr ⟨w.heap.size, 1, cs.toArray, rfl, Nat.zero_le _, hk, Nat.le_refl _, by decide, by simp [hc], ?_⟩⟩
  rw [show 1 * 14 = cs.length by omega]
  simp
end Go.Proofs.YtfhfkbdaglegpaaGreatDoor

namespace Go.Proofs.YtfhfkbdaglegpaaGreatDoor
open Go.RowKit

set_option maxHeartbeats 1000000 in
set_option maxRecDepth 100000 in
theorem apart_two {wk : World} {xa xc : Ph} {q : Pt} {La Lc : List Nat} {B M N : Nat} (ha : PtO wk xa q La) (na : La.Nodup) (hc : PtO wk xc q Lc) (nc : Lc.Nodup) (hBa : ∀ b ∈ La, B ≤ b ∧ b < M) (hBc : ∀ b ∈ Lc, M ≤ b) (hBM : B ≤ M) (hM : M ≤ wk.heap.size)
    (hq : q.hunk.old.length ≤ N ∧ q.hunk.new.length ≤ N ∧ q.edit.path.length ≤ N ∧ q.edit.old.cnt ≤ N ∧ q.edit.new.cnt ≤ N) (hN : 1 ≤ N ∧ N ≤ 200000) :
    Calls Tryz.prog 19 #[.slice (some ⟨wk.heap.size + 2, 0, none⟩) 2 2] (((wk.alloc (.cells #[.int .u8 q.kind, .string q.file, .string q.text, .int .i64 q.hunk.at_, .slice xa.h.oA q.hunk.old.length xa.h.oc, .slice xa.h.nA q.hunk.new.length xa.h.nc, .int .u8 q.edit.kind, .slice xa.e.pA q.edit.path.length xa.e.pc, .int .i64 q.edit.at_, .int .i64 q.edit.far, .string q.edit.frm, .string q.edit.to, .slice xa.e.oA q.edit.old.len xa.e.oc, .slice xa.e.nA q.edit.new.len xa.e.nc] 32)).alloc (.cells #[.int .u8 q.kind, .string q.file, .string q.text, .int .i64 q.hunk.at_, .slice xc.h.oA q.hunk.old.length xc.h.oc, .slice xc.h.nA q.hunk.new.length xc.h.nc, .int .u8 q.edit.kind, .slice xc.e.pA q.edit.path.length xc.e.pc, .int .i64 q.edit.at_, .int .i64 q.edit.far, .string q.edit.frm, .string q.edit.to, .slice xc.e.oA q.edit.old.len xc.e.oc, .slice xc.e.nA q.edit.new.len xc.e.nc] 32)).alloc (.cells #[.slice (some ⟨wk.heap.size, 0, none⟩) 1 1, .slice (some ⟨wk.heap.size + 1, 0, none⟩) 1 1] 49)) fun e w' => e = .returned (.bool true) ∧ Below B wk w' := by
  obtain ⟨W, hW⟩ : ∃ W, W = (((wk.alloc (.cells #[.int .u8 q.kind, .string q.file, .string q.text, .int .i64 q.hunk.at_, .slice xa.h.oA q.hunk.old.length xa.h.oc, .slice xa.h.nA q.hunk.new.length xa.h.nc, .int .u8 q.edit.kind, .slice xa.e.pA q.edit.path.length xa.e.pc, .int .i64 q.edit.at_, .int .i64 q.edit.far, .string q.edit.frm, .string q.edit.to, .slice xa.e.oA q.edit.old.len xa.e.oc, .slice xa.e.nA q.edit.new.len xa.e.nc] 32)).alloc (.cells #[.int .u8 q.kind, .string q.file, .string q.text, .int .i64 q.hunk.at_, .slice xc.h.oA q.hunk.old.length xc.h.oc, .slice xc.h.nA q.hunk.new.length xc.h.nc, .int .u8 q.edit.kind, .slice xc.e.pA q.edit.path.length xc.e.pc, .int .i64 q.edit.at_, .int .i64 q.edit.far, .string q.edit.frm, .string q.edit.to, .slice xc.e.oA q.edit.old.len xc.e.oc, .slice xc.e.nA q.edit.new.len xc.e.nc] 32)).alloc (.cells #[.slice (some ⟨wk.heap.size, 0, none⟩) 1 1, .slice (some ⟨wk.heap.size + 1, 0, none⟩) 1 1] 49)) := ⟨_, rfl⟩
  rw [← hW]
  have hla := ha.lt
  have hlc := hc.lt
  have hB1 : Below wk.heap.size wk W := by rw [hW]; exact ((below2 _ _).alloc (by simp <;> omega) _)
  have hsz : W.heap.size = wk.heap.size + 3 := by rw [hW]; simp
  have k0 : W.heap[wk.heap.size]? = some (.cells #[.int .u8 q.kind, .string q.file, .string q.text, .int .i64 q.hunk.at_, .slice xa.h.oA q.hunk.old.length xa.h.oc, .slice xa.h.nA q.hunk.new.length xa.h.nc, .int .u8 q.edit.kind, .slice xa.e.pA q.edit.path.length xa.e.pc, .int .i64 q.edit.at_, .int .i64 q.edit.far, .string q.edit.frm, .string q.edit.to, .slice xa.e.oA q.edit.old.len xa.e.oc, .slice xa.e.nA q.edit.new.len xa.e.nc] 32) := by
    rw [hW, heap_alloc_old _ _ (by simp <;> omega), heap_alloc_old _ _ (by simp)]
    exact heap_alloc_new wk _
  have k1 : W.heap[wk.heap.size + 1]? = some (.cells #[.int .u8 q.kind, .string q.file, .string q.text, .int .i64 q.hunk.at_, .slice xc.h.oA q.hunk.old.length xc.h.oc, .slice xc.h.nA q.hunk.new.length xc.h.nc, .int .u8 q.edit.kind, .slice xc.e.pA q.edit.path.length xc.e.pc, .int .i64 q.edit.at_, .int .i64 q.edit.far, .string q.edit.frm, .string q.edit.to, .slice xc.e.oA q.edit.old.len xc.e.oc, .slice xc.e.nA q.edit.new.len xc.e.nc] 32) := by
    rw [hW, heap_alloc_old _ _ (by simp)]
    have := heap_alloc_new (wk.alloc (.cells #[.int .u8 q.kind, .string q.file, .string q.text, .int .i64 q.hunk.at_, .slice xa.h.oA q.hunk.old.length xa.h.oc, .slice xa.h.nA q.hunk.new.length xa.h.nc, .int .u8 q.edit.kind, .slice xa.e.pA q.edit.path.length xa.e.pc, .int .i64 q.edit.at_, .int .i64 q.edit.far, .string q.edit.frm, .string q.edit.to, .slice xa.e.oA q.edit.old.len xa.e.oc, .slice xa.e.nA q.edit.new.len xa.e.nc] 32)) (.cells #[.int .u8 q.kind, .string q.file, .string q.text, .int .i64 q.hunk.at_, .slice xc.h.oA q.hunk.old.length xc.h.oc, .slice xc.h.nA q.hunk.new.length xc.h.nc, .int .u8 q.edit.kind, .slice xc.e.pA q.edit.path.length xc.e.pc, .int .i64 q.edit.at_, .int .i64 q.edit.far, .string q.edit.frm, .string q.edit.to, .slice xc.e.oA q.edit.old.len xc.e.oc, .slice xc.e.nA q.edit.new.len xc.e.nc] 32)
    simpa using this
  have k2 : W.heap[wk.heap.size + 2]? = some (.cells #[.slice (some ⟨wk.heap.size, 0, none⟩) 1 1, .slice (some ⟨wk.heap.size + 1, 0, none⟩) 1 1] 49) := by
    have := heap_alloc_new ((wk.alloc (.cells #[.int .u8 q.kind, .string q.file, .string q.text, .int .i64 q.hunk.at_, .slice xa.h.oA q.hunk.old.length xa.h.oc, .slice xa.h.nA q.hunk.new.length xa.h.nc, .int .u8 q.edit.kind, .slice xa.e.pA q.edit.path.length xa.e.pc, .int .i64 q.edit.at_, .int .i64 q.edit.far, .string q.edit.frm, .string q.edit.to, .slice xa.e.oA q.edit.old.len xa.e.oc, .slice xa.e.nA q.edit.new.len xa.e.nc] 32)).alloc (.cells #[.int .u8 q.kind, .string q.file, .string q.text, .int .i64 q.hunk.at_, .slice xc.h.oA q.hunk.old.length xc.h.oc, .slice xc.h.nA q.hunk.new.length xc.h.nc, .int .u8 q.edit.kind, .slice xc.e.pA q.edit.path.length xc.e.pc, .int .i64 q.edit.at_, .int .i64 q.edit.far, .string q.edit.frm, .string q.edit.to, .slice xc.e.oA q.edit.old.len xc.e.oc, .slice xc.e.nA q.edit.new.len xc.e.nc] 32)) (.cells #[.slice (some ⟨wk.heap.size, 0, none⟩) 1 1, .slice (some ⟨wk.heap.size + 1, 0, none⟩) 1 1] 49)
    rw [hW]
    simpa using this
  have ha' : PtO W xa q La := ha.keep fun b hb => hB1.block b (hla b hb)
  have hc' : PtO W xc q Lc := hc.keep fun b hb => hB1.block b (hlc b hb)
  clear hW ha hc
  obtain ⟨ia, ea1, ea2, oka, pa⟩ := ha'.item (B := B) (M := N) (fun b hb => (hBa b hb).1) hq
  obtain ⟨ic, ec1, ec2, okc, pc⟩ := hc'.item (B := B) (M := N) (fun b hb => Nat.le_trans hBM (hBc b hb)) hq
  have hca : ia.cells = [.int .u8 q.kind, .string q.file, .string q.text, .int .i64 q.hunk.at_, .slice xa.h.oA q.hunk.old.length xa.h.oc, .slice xa.h.nA q.hunk.new.length xa.h.nc, .int .u8 q.edit.kind, .slice xa.e.pA q.edit.path.length xa.e.pc, .int .i64 q.edit.at_, .int .i64 q.edit.far, .string q.edit.frm, .string q.edit.to, .slice xa.e.oA q.edit.old.len xa.e.oc, .slice xa.e.nA q.edit.new.len xa.e.nc] := by rw [← ea1, ← ea2]; rfl
  have hcc : ic.cells = [.int .u8 q.kind, .string q.file, .string q.text, .int .i64 q.hunk.at_, .slice xc.h.oA q.hunk.old.length xc.h.oc, .slice xc.h.nA q.hunk.new.length xc.h.nc, .int .u8 q.edit.kind, .slice xc.e.pA q.edit.path.length xc.e.pc, .int .i64 q.edit.at_, .int .i64 q.edit.far, .string q.edit.frm, .string q.edit.to, .slice xc.e.oA q.edit.old.len xc.e.oc, .slice xc.e.nA q.edit.new.len xc.e.nc] := by rw [← ec1, ← ec2]; rfl
  have r2 : ∀ j, rowsPs [⟨some ⟨wk.heap.size, 0, none⟩, 1, [ia]⟩, ⟨some ⟨wk.heap.size + 1, 0, none⟩, 1, [ic]⟩] j = ((if j = 14 then [.slice (some ⟨wk.heap.size, 0, none⟩) 1 1] else []) ++ ia.rows j) ++ ((if j = 14 then [.slice (some ⟨wk.heap.size + 1, 0, none⟩) 1 1] else []) ++ ic.rows j) := fun j => by simp [rowsPs, rowsP, PRow.v]
  have o1 : W.ownsRow 0 32 14 (.slice (some ⟨wk.heap.size, 0, none⟩) 1 1) 1 ia.cells := by rw [hca]; exact own_lit14 wk W _ rfl _ k0
  have o2 : W.ownsRow 0 32 14 (.slice (some ⟨wk.heap.size + 1, 0, none⟩) 1 1) 1 ic.cells := by
    rw [hcc]
    have := own_lit14 (wk.alloc (.cells #[] 0)) W [.int .u8 q.kind, .string q.file, .string q.text, .int .i64 q.hunk.at_, .slice xc.h.oA q.hunk.old.length xc.h.oc, .slice xc.h.nA q.hunk.new.length xc.h.nc, .int .u8 q.edit.kind, .slice xc.e.pA q.edit.path.length xc.e.pc, .int .i64 q.edit.at_, .int .i64 q.edit.far, .string q.edit.frm, .string q.edit.to, .slice xc.e.oA q.edit.old.len xc.e.oc, .slice xc.e.nA q.edit.new.len xc.e.nc] rfl 32 (by simpa using k1)
    simpa using this
  refine (apartPatches_any (B := B) (ls := [⟨some ⟨wk.heap.size, 0, none⟩, 1, [ia]⟩, ⟨some ⟨wk.heap.size + 1, 0, none⟩, 1, [ic]⟩]) rfl (fun k r hr => ?_) (by omega) (fun r hr => ?_) (fun r hr it hit => ?_) ?_ ?_ ?_ ?_ (fun j => ?_) ?_ (fun j i hi => ?_) (fun j => ?_) (by omega) ⟨Nat.le_refl _, by simp⟩).mono fun e w' h => ⟨h.1, (hB1.mono (Nat.le_trans hBM hM)).trans h.2⟩
  · rw [Lib.cell_of_heap k2]
    match k, hr with
    | 0, hr => injection hr with hr; subst hr; rfl
    | 1, hr => injection hr with hr; subst hr; rfl
    | k + 2, hr => simp at hr
  · simp only [List.mem_cons, List.not_mem_nil, or_false] at hr
    rcases hr with rfl | rfl
    · simpa [PRow.v] using o1
    · simpa [PRow.v] using o2
  · simp only [List.mem_cons, List.not_mem_nil, or_false] at hr
    rcases hr with rfl | rfl
    · simp only [List.mem_cons, List.not_mem_nil, or_false] at hit
      subst hit
      exact oka _ fun b hb => by have := hla b hb; omega
    · simp only [List.mem_cons, List.not_mem_nil, or_false] at hit
      subst hit
      exact okc _ fun b hb => by have := hlc b hb; omega
  · rw [r2]; simpa using pa.ints.app pc.ints
  · rw [r2]; simpa using pa.texts.app pc.texts
  · rw [r2]; simpa using pa.nodes.app pc.nodes
  · rw [r2]
    have e1 : ia.rows 14 = [] := by simp [PIt.rows]
    have e2 : ic.rows 14 = [] := by simp [PIt.rows]
    rw [e1, e2]
    intro v hv
    simp at hv
    rcases hv with rfl | rfl
    · exact ⟨_, _, _, _, rfl, own_base o1 fun b hb => by simp [ob, Value.ownBlock] at hb; omega⟩
    · exact ⟨_, _, _, _, rfl, own_base o2 fun b hb => by simp [ob, Value.ownBlock] at hb; omega⟩
  · rw [r2]
    have hnd : ((wk.heap.size :: La) ++ ((wk.heap.size + 1) :: Lc)).Nodup := by
      refine List.nodup_append.2 ⟨List.nodup_cons.2 ⟨fun h => by have := hla _ h; omega, na⟩, List.nodup_cons.2 ⟨fun h => by have := hlc _ h; omega, nc⟩, fun a h1 b h2 e => ?_⟩
      subst e
      rcases List.mem_cons.1 h1 with h1 | h1
      · rcases List.mem_cons.1 h2 with h2 | h2
        · omega
        · have := hlc a h2; omega
      · rcases List.mem_cons.1 h2 with h2 | h2
        · have := hla a h1; omega
        · have := (hBa a h1).2; have := hBc a h2; omega
    refine List.Sublist.nodup ?_ hnd
    rw [List.flatMap_append, List.flatMap_append, List.flatMap_append]
    by_cases h14 : j = 14
    · simp only [if_pos h14]
      exact List.Sublist.append (List.Sublist.append (List.Sublist.refl [wk.heap.size]) (pa.sub j)) (List.Sublist.append (List.Sublist.refl [wk.heap.size + 1]) (pc.sub j))
    · simp only [if_neg h14, List.flatMap_nil, List.nil_append]
      exact List.Sublist.append ((pa.sub j).trans (List.sublist_cons_self _ _)) ((pc.sub j).trans (List.sublist_cons_self _ _))
  · simp only [r2]
    simp [PIt.rows]
  · refine Nat.le_trans (nsOf_le (M := N) (fun v hv => ?_) i hi) (by omega)
    rw [r2] at hv
    simp only [List.mem_append] at hv
    rcases hv with (hv | hv) | (hv | hv)
    · by_cases h14 : j = 14
      · simp [h14] at hv; subst hv; exact hN.1
      · simp [h14] at hv
    · exact pa.small j v hv
    · by_cases h14 : j = 14
      · simp [h14] at hv; subst hv; exact hN.1
      · simp [h14] at hv
    · exact pc.small j v hv
  · rw [r2]
    have h1 := pa.len j
    have h2 := pc.len j
    by_cases h14 : j = 14
    · simp only [if_pos h14, List.length_append, List.length_cons, List.length_nil]; omega
    · simp only [if_neg h14, List.length_append, List.length_nil]; omega

end Go.Proofs.YtfhfkbdaglegpaaGreatDoor
