/- Rows of bytes lie apart (kit.ApartBytes). Printed by gen_apart.py. -/
import Derived.Test.YtfhfkbdaglegpaaGreatDoorTApartN1
import Derived.Test.YtfhfkbdaglegpaaGreatDoorTApartN

set_option linter.unusedVariables false
set_option linter.unusedSimpArgs false

namespace Go.Proofs.YtfhfkbdaglegpaaGreatDoor
open Go.RowKit

set_option maxHeartbeats 4000000 in
set_option maxRecDepth 1000000 in
theorem putBytes_any {w : World} {bb n B m c : Nat} {A : Option Addr} {v : Value} {xs : List Value} (hc : w.cell? ⟨bb, 5, none⟩ = some v) (hf : w.frozen? ⟨bb, 5, none⟩ = false) (hown : w.ownsRow B 36 1 v n xs) (hbb : bb < B) (hn : n ≤ 1000000) (hB : B ≤ w.heap.size) :
    Calls Tryz.prog 37 #[.pointer (some ⟨bb, 0, none⟩), .slice A m c] w fun e w' => e = .returned (.tuple #[]) ∧ (∃ v', w'.cell? ⟨bb, 5, none⟩ = some v' ∧ w'.ownsRow B 36 1 v' (n + 1) (xs ++ [.slice A m c])) ∧ (∀ j, j ≠ 5 → w'.cell? ⟨bb, j, none⟩ = w.cell? ⟨bb, j, none⟩) ∧ (∀ j, w'.frozen? ⟨bb, j, none⟩ = w.frozen? ⟨bb, j, none⟩) ∧ Below bb w w' := by
  obtain ⟨Av, cv, rfl⟩ := own_shape hown
  have Hown := hide hown
  clear hown
  have hbl : bb < w.heap.size := by omega
  go_enter Tryz.func37, Tryz.ntmps37
  go_wp2_with (at_builtin; refine wpList_row rfl _ _ 43 rfl B 36 Tryz.underlying43 InfoRowB rfl (by decide) _ n xs rfl (Hown.out.alloc _) (some ⟨w.heap.size, 0, none⟩) 1 1 [.slice A m c] rfl (by simp) rfl (fun ad e => by injection e with e; subst e; exact cell_one_new w _ _) (by simp [Value.oneCell']) (by unfold maxLen; omega) (by omega) (Nat.le_trans hB (by simp)) ?_)
  intro v1 w1 h1 hg1 hw1
  have hne : (Value.slice Av n cv).ownBlock ≠ some bb := fun e => by have := (Hown.out.lt bb e).1; omega
  have hblk : w1.heap[bb]? = w.heap[bb]? := (hg1.block bb (by simp; omega) (fun e => hne e.symm)).trans (heap_alloc_old w _ hbl)
  have k0 : w1.cell? ⟨bb, 5, none⟩ = some (.slice Av n cv) := (World.cell?_of_block (a := ⟨bb, 5, none⟩) hblk).trans hc
  have k1 : w1.frozen? ⟨bb, 5, none⟩ = false := (World.frozen?_of_block (a := ⟨bb, 5, none⟩) hblk).trans hf
  have HB1 : Hid (Below bb w w1) := hide (((below_alloc w _).mono (Nat.le_of_lt hbl)).trans ((Below.refl _ _).grown hg1 (by simp; omega) (fun k hk => by have := (Hown.out.lt k hk).1; omega)))
  obtain ⟨A1, c1, rfl⟩ := own_shape h1
  have hne1 : (Value.slice A1 (n + 1) c1).ownBlock ≠ some bb := fun e => by have := (h1.lt bb e).1; omega
  have H1 := hide h1
  have Hblk := hide hblk
  clear h1 hg1 hw1 hblk
  go_wp2
  go_end0
  refine ⟨rfl, ⟨_, World.cell?_setCell_same _ _ _ k0, H1.out.kept (row := some bb) ⟨rfl, rfl, rfl, by simp [World.setCell], fun k _ hk => Below.heap_setCell _ _ _ k (fun e => hk (by rw [e]))⟩ (.inr hne1)⟩, fun j hj => ?_, fun j => ?_, HB1.out.setCell (p := ⟨bb, 5, none⟩) (Nat.le_refl _) _⟩
  · rw [World.cell?_setCell_other _ _ _ _ (fun e => hj (by injection e with _ e2; exact e2.symm))]
    exact World.cell?_of_block (a := ⟨bb, j, none⟩) Hblk.out
  · rw [World.frozen?_setCell]
    exact World.frozen?_of_block (a := ⟨bb, j, none⟩) Hblk.out

/-- the bag: 21 rows of rows, of which but the bytes are none -/
def Bag (bb : Nat) (v : Value) (w : World) : Prop := ∀ j, j < 21 → w.cell? ⟨bb, j, none⟩ = some (if j = 5 then v else .slice none 0 0)
theorem Bag.below {bb : Nat} {v : Value} {w w' : World} (h : Bag bb v w) (hB : Below w.heap.size w w') : Bag bb v w' := fun j hj => (hB.cell (p := ⟨bb, j, none⟩) (block_lt_of_cell (h j hj))).trans (h j hj)
theorem Bag.heap {bb : Nat} {v : Value} {w w' : World} (h : Bag bb v w) (hb : w'.heap[bb]? = w.heap[bb]?) : Bag bb v w' := fun j hj => (World.cell?_of_block (a := ⟨bb, j, none⟩) hb).trans (h j hj)
theorem Bag.lt {bb : Nat} {v : Value} {w : World} (h : Bag bb v w) : bb < w.heap.size := block_lt_of_cell (h 0 (by omega))
set_option maxHeartbeats 16000000 in
set_option maxRecDepth 1000000 in
theorem apart_bytes {w : World} {bb B K LB c : Nat} {vs : Nat → Value} {ns : Nat → Nat} {T : Nat → Option Nat} (hb : Bag bb (.slice (some ⟨LB, 0, none⟩) K c) w) (hR : RowsW mkB 5 B K vs ns (fun _ => 0) T w) (hls : ∀ j, j < K → w.cell? ⟨LB, j, none⟩ = some (vs j)) (hT : T LB = none) (hn : ∀ j, j < K → ns j ≤ 1099511627776) (hK : K ≤ 549755813888) (hBw : B ≤ w.heap.size) (hTb : T bb = none) (hLB : LB < w.heap.size) (hK0 : 0 < K) :
    Calls Tryz.prog 38 #[.pointer (some ⟨bb, 0, none⟩)] w fun e w' => e = .returned (.bool true) ∧ Below B w w' := by
  have HG := hide hb
  have HR := hide hR
  have Hls := hide hls
  have f := HG.out 0 (by omega)
  clear hb hR hls
  go_enter Tryz.func38, Tryz.ntmps38
  go_wp2_with (first
    | (go_at_call 67; (with_reducible refine (flatLimbs_nil).mono ?_); rintro e0 w0 ⟨rfl, hB⟩; have HG0 := hide (HG.out.below hB); have f0 := HG0.out 1 (by omega); have HB0 : Hid (Below B w w0) := hide (hB.mono hBw); have HW0 := hide (hB); clear hB)
    | (go_at_call 68; (with_reducible refine (flatWords_nil).mono ?_); rintro e1 w1 ⟨rfl, hB⟩; have HG1 := hide (HG0.out.below hB); have f1 := HG1.out 2 (by omega); have HB1 : Hid (Below B w w1) := hide (HB0.out.trans (hB.mono (Nat.le_trans hBw HB0.out.size))); have HW1 := hide (HW0.out.trans (hB.mono HW0.out.size)); clear hB)
    | (go_at_call 69; (with_reducible refine (flatInts_nil).mono ?_); rintro e2 w2 ⟨rfl, hB⟩; have HG2 := hide (HG1.out.below hB); have f2 := HG2.out 3 (by omega); have HB2 : Hid (Below B w w2) := hide (HB1.out.trans (hB.mono (Nat.le_trans hBw HB1.out.size))); have HW2 := hide (HW1.out.trans (hB.mono HW1.out.size)); clear hB)
    | (go_at_call 70; (with_reducible refine (flatLongs_nil).mono ?_); rintro e3 w3 ⟨rfl, hB⟩; have HG3 := hide (HG2.out.below hB); have f3 := HG3.out 4 (by omega); have HB3 : Hid (Below B w w3) := hide (HB2.out.trans (hB.mono (Nat.le_trans hBw HB2.out.size))); have HW3 := hide (HW2.out.trans (hB.mono HW2.out.size)); clear hB)
    | (go_at_call 71; (with_reducible refine (flatTexts_nil).mono ?_); rintro e4 w4 ⟨rfl, hB⟩; have HG4 := hide (HG3.out.below hB); have f4 := HG4.out 5 (by omega); have HB4 : Hid (Below B w w4) := hide (HB3.out.trans (hB.mono (Nat.le_trans hBw HB3.out.size))); have HW4 := hide (HW3.out.trans (hB.mono HW3.out.size)); have HR4 := hide (HR.out.still ⟨HB4.out.size, fun b hb _ => HW4.out.block b hb⟩); have Hls4 := hide (fun j hj => (HW4.out.cell (p := ⟨LB, j, none⟩) hLB).trans (Hls.out j hj)); clear hB)
    | (go_at_call 72; (with_reducible refine (flatBytes_any (HR4.out) (Hls4.out) hT hn hK (Nat.le_trans hBw HB4.out.size) (Nat.lt_of_lt_of_le hLB HB4.out.size)).mono ?_); rintro e5 w5 ⟨rfl, hB, hO⟩; have HG5 := hide (HG4.out.heap (hO _ HG4.out.lt hTb)); have f5 := HG5.out 6 (by omega); have HB5 := hide (HB4.out.trans hB); clear hB hO)
    | (go_at_call 73; (with_reducible refine (flatTruths_nil).mono ?_); rintro e6 w6 ⟨rfl, hB⟩; have HG6 := hide (HG5.out.below hB); have f6 := HG6.out 7 (by omega); have HB6 : Hid (Below B w w6) := hide (HB5.out.trans (hB.mono (Nat.le_trans hBw HB5.out.size)));  clear hB)
    | (go_at_call 74; (with_reducible refine (flatTokens_nil).mono ?_); rintro e7 w7 ⟨rfl, hB⟩; have HG7 := hide (HG6.out.below hB); have f7 := HG7.out 8 (by omega); have HB7 : Hid (Below B w w7) := hide (HB6.out.trans (hB.mono (Nat.le_trans hBw HB6.out.size)));  clear hB)
    | (go_at_call 75; (with_reducible refine (flatSpans_nil).mono ?_); rintro e8 w8 ⟨rfl, hB⟩; have HG8 := hide (HG7.out.below hB); have f8 := HG8.out 9 (by omega); have HB8 : Hid (Below B w w8) := hide (HB7.out.trans (hB.mono (Nat.le_trans hBw HB7.out.size)));  clear hB)
    | (go_at_call 76; (with_reducible refine (flatNodes_nil).mono ?_); rintro e9 w9 ⟨rfl, hB⟩; have HG9 := hide (HG8.out.below hB); have f9 := HG9.out 10 (by omega); have HB9 : Hid (Below B w w9) := hide (HB8.out.trans (hB.mono (Nat.le_trans hBw HB8.out.size)));  clear hB)
    | (go_at_call 77; (with_reducible refine (flatFaults_nil).mono ?_); rintro e10 w10 ⟨rfl, hB⟩; have HG10 := hide (HG9.out.below hB); have f10 := HG10.out 11 (by omega); have HB10 : Hid (Below B w w10) := hide (HB9.out.trans (hB.mono (Nat.le_trans hBw HB9.out.size)));  clear hB)
    | (go_at_call 78; (with_reducible refine (flatMarks_nil).mono ?_); rintro e11 w11 ⟨rfl, hB⟩; have HG11 := hide (HG10.out.below hB); have f11 := HG11.out 12 (by omega); have HB11 : Hid (Below B w w11) := hide (HB10.out.trans (hB.mono (Nat.le_trans hBw HB10.out.size)));  clear hB)
    | (go_at_call 79; (with_reducible refine (flatHunks_nil).mono ?_); rintro e12 w12 ⟨rfl, hB⟩; have HG12 := hide (HG11.out.below hB); have f12 := HG12.out 13 (by omega); have HB12 : Hid (Below B w w12) := hide (HB11.out.trans (hB.mono (Nat.le_trans hBw HB11.out.size)));  clear hB)
    | (go_at_call 80; (with_reducible refine (flatEdits_nil).mono ?_); rintro e13 w13 ⟨rfl, hB⟩; have HG13 := hide (HG12.out.below hB); have f13 := HG13.out 14 (by omega); have HB13 : Hid (Below B w w13) := hide (HB12.out.trans (hB.mono (Nat.le_trans hBw HB12.out.size)));  clear hB)
    | (go_at_call 81; (with_reducible refine (flatPatches_nil).mono ?_); rintro e14 w14 ⟨rfl, hB⟩; have HG14 := hide (HG13.out.below hB); have f14 := HG14.out 15 (by omega); have HB14 : Hid (Below B w w14) := hide (HB13.out.trans (hB.mono (Nat.le_trans hBw HB13.out.size)));  clear hB)
    | (go_at_call 82; (with_reducible refine (flatDocs_nil).mono ?_); rintro e15 w15 ⟨rfl, hB⟩; have HG15 := hide (HG14.out.below hB); have f15 := HG15.out 16 (by omega); have HB15 : Hid (Below B w w15) := hide (HB14.out.trans (hB.mono (Nat.le_trans hBw HB14.out.size)));  clear hB)
    | (go_at_call 83; (with_reducible refine (flatNamedRow_nil).mono ?_); rintro e16 w16 ⟨rfl, hB⟩; have HG16 := hide (HG15.out.below hB); have f16 := HG16.out 17 (by omega); have HB16 : Hid (Below B w w16) := hide (HB15.out.trans (hB.mono (Nat.le_trans hBw HB15.out.size)));  clear hB)
    | (go_at_call 84; (with_reducible refine (flatValues_nil).mono ?_); rintro e17 w17 ⟨rfl, hB⟩; have HG17 := hide (HG16.out.below hB); have f17 := HG17.out 18 (by omega); have HB17 : Hid (Below B w w17) := hide (HB16.out.trans (hB.mono (Nat.le_trans hBw HB16.out.size)));  clear hB)
    | (go_at_call 85; (with_reducible refine (flatOutcomes_nil).mono ?_); rintro e18 w18 ⟨rfl, hB⟩; have HG18 := hide (HG17.out.below hB); have f18 := HG18.out 19 (by omega); have HB18 : Hid (Below B w w18) := hide (HB17.out.trans (hB.mono (Nat.le_trans hBw HB17.out.size)));  clear hB)
    | (go_at_call 86; (with_reducible refine (flatCommands_nil).mono ?_); rintro e19 w19 ⟨rfl, hB⟩; have HG19 := hide (HG18.out.below hB); have f19 := HG19.out 20 (by omega); have HB19 : Hid (Below B w w19) := hide (HB18.out.trans (hB.mono (Nat.le_trans hBw HB18.out.size)));  clear hB)
    | (go_at_call 87; (with_reducible refine (flatAnswers_nil).mono ?_); rintro e20 w20 ⟨rfl, hB⟩; have HG20 := hide (HG19.out.below hB); have HB20 : Hid (Below B w w20) := hide (HB19.out.trans (hB.mono (Nat.le_trans hBw HB19.out.size)));  clear hB))
  go_ret
  exact ⟨rfl, HB20.out⟩

set_option maxHeartbeats 4000000 in
set_option maxRecDepth 1000000 in
theorem apartBytes_any {w : World} {B K L0 c : Nat} {vs : Nat → Value} {ns : Nat → Nat} {T : Nat → Option Nat} (hR : RowsW mkB 5 B K vs ns (fun _ => 0) T w) (hls : ∀ j, j < K → w.cell? ⟨L0, j, none⟩ = some (vs j)) (hn : ∀ j, j < K → ns j ≤ 1099511627776) (hK : K ≤ 1000000) (hK0 : 0 < K) (hB : B ≤ w.heap.size) :
    Calls Tryz.prog 13 #[.slice (some ⟨L0, 0, none⟩) K c] w fun e w' => e = .returned (.bool true) ∧ Below B w w' := by
  have HR := hide hR
  have Hls := hide hls
  have Hn := hide hn
  clear hR hls hn
  obtain ⟨W0, hW0⟩ : ∃ W0, W0 = w.alloc (.cells #[.slice none 0 0, .slice none 0 0, .slice none 0 0, .slice none 0 0, .slice none 0 0, .slice none 0 0, .slice none 0 0, .slice none 0 0, .slice none 0 0, .slice none 0 0, .slice none 0 0, .slice none 0 0, .slice none 0 0, .slice none 0 0, .slice none 0 0, .slice none 0 0, .slice none 0 0, .slice none 0 0, .slice none 0 0, .slice none 0 0, .slice none 0 0] 92) := ⟨_, rfl⟩
  have HBg : Hid (∃ (v : Value) (xs : List Value), W0.ownsRow (w.heap.size + 1) 36 1 v 0 xs ∧ Bag w.heap.size v W0 ∧ (∀ j, W0.frozen? ⟨w.heap.size, j, none⟩ = false) ∧ (∀ j, j < 0 → xs[j]? = some (vs j)) ∧ Below w.heap.size w W0) := by
    refine hide ⟨.slice none 0 0, [], World.ownsRow_nil _ _ _ _, fun j hj => ?_, fun j => by rw [hW0]; simp, fun j hj => absurd hj (Nat.not_lt_zero _), by rw [hW0]; exact below_alloc _ _⟩
    rw [hW0, Lib.cell_of_heap (heap_alloc_new w _)]
    have e : (if j = 5 then Value.slice none 0 0 else Value.slice none 0 0) = .slice none 0 0 := by split <;> rfl
    rw [e]
    rcases j with _ | _ | _ | _ | _ | _ | _ | _ | _ | _ | _ | _ | _ | _ | _ | _ | _ | _ | _ | _ | _ | j
    all_goals first | rfl | omega
  have HW0 := hide hW0
  clear hW0
  go_enter Tryz.func13, Tryz.ntmps13
  go_upto_region 2 with fail
  change Code.wp _ _ _ _ (w.alloc (.cells #[.slice none 0 0, .slice none 0 0, .slice none 0 0, .slice none 0 0, .slice none 0 0, .slice none 0 0, .slice none 0 0, .slice none 0 0, .slice none 0 0, .slice none 0 0, .slice none 0 0, .slice none 0 0, .slice none 0 0, .slice none 0 0, .slice none 0 0, .slice none 0 0, .slice none 0 0, .slice none 0 0, .slice none 0 0, .slice none 0 0, .slice none 0 0] 92))
  rw [← HW0.out]
  clear HW0
  go_wp2_with fail
  go_loopg [4] K (fun g k wx => ∃ q : Nat, q ≤ K ∧ g = K - q ∧ k = .int .i64 q ∧ Hid (∃ (v : Value) (xs : List Value), wx.ownsRow (w.heap.size + 1) 36 1 v q xs ∧ Bag w.heap.size v wx ∧ (∀ j, wx.frozen? ⟨w.heap.size, j, none⟩ = false) ∧ (∀ j, j < q → xs[j]? = some (vs j)) ∧ Below w.heap.size w wx))
  case atStart => exact ⟨0, by omega, by omega, rfl, HBg⟩
  case round =>
  clear HBg
  obtain ⟨q, hq, hg, rfl, HBg⟩ := hrel
  obtain ⟨v, xs, hown, hbag, hfz, hxs, hBl⟩ := HBg.out
  have Hown := hide hown
  have Hbag := hide hbag
  have Hfz := hide hfz
  have Hxs := hide hxs
  have HBl := hide hBl
  clear HBg hown hbag hfz hxs hBl
  have hz : w.heap.size + 1 ≤ wr.heap.size := Hbag.out.lt
  by_cases hlt : q < K
  · obtain ⟨A, cc, hv⟩ := HR.out.shape hlt
    have hh : wr.cell? ⟨L0, q, none⟩ = some (.slice A (ns q) cc) := by rw [← hv]; exact (HBl.out.cell (p := ⟨L0, q, none⟩) (block_lt_of_cell (Hls.out q hlt))).trans (Hls.out q hlt)
    have h5 : wr.cell? ⟨w.heap.size, 5, none⟩ = some v := by have := Hbag.out 5 (by omega); rwa [if_pos rfl] at this
    have Hv := hide hv
    have H5 := hide h5
    clear hv h5
    go_wp2_with (go_at_call 37; (with_reducible refine (putBytes_any H5.out (Hfz.out 5) Hown.out (Nat.lt_succ_self _) (by omega) hz).mono ?_); rintro e1 w1 ⟨rfl, ⟨v', h1, h2⟩, h3, h4, hB1⟩; have H1 := hide h1; have H2 := hide h2; have H3 := hide h3; have H4 := hide h4; have HB1 := hide (HBl.out.trans hB1); clear h1 h2 h3 h4 hB1)
    go_roundg (K - (q + 1))
    case measure => omega
    case rel =>
      refine ⟨q + 1, by omega, rfl, by go_num, hide ⟨v', _, H2.out, fun j hj => ?_, fun j => (H4.out j).trans (Hfz.out j), fun j hj => ?_, HB1.out⟩⟩
      · by_cases e : j = 5
        · subst e; rw [if_pos rfl]; exact H1.out
        · rw [H3.out j e, Hbag.out j hj, if_neg e, if_neg e]
      · have hl : xs.length = q := by have := Hown.out.1; omega
        by_cases e : j = q
        · subst e
          rw [List.getElem?_append_right (by omega), hl, Nat.sub_self, Hv.out]
          rfl
        · rw [List.getElem?_append_left (by omega)]
          exact Hxs.out j (by omega)
  · have hqK : q = K := by omega
    subst hqK
    obtain ⟨g, c2, rfl, hgb, hgl⟩ : ∃ g c2, v = .slice (some ⟨g, 0, none⟩) q c2 ∧ w.heap.size + 1 ≤ g ∧ g < wr.heap.size := by
      rcases Hown.out.2 with ⟨_, h0⟩ | ⟨g, cap, cur, e, hb, hg, _⟩
      · omega
      · exact ⟨g, cap, e, hb, (Array.getElem?_eq_some_iff.1 hg).1⟩
    have hTn : ∀ b, w.heap.size ≤ b → T b = none := fun b hb => by
      cases h : T b with
      | none => rfl
      | some j => have := (HR.out.lt b (by rw [h]; exact fun e => by cases e)).2; omega
    have HA : Hid (Calls Tryz.prog 38 #[.pointer (some ⟨w.heap.size, 0, none⟩)] wr fun e w' => e = .returned (.bool true) ∧ Below B wr w') :=
      hide (apart_bytes Hbag.out (HR.out.below HBl.out) (fun j hj => by rw [Hown.out.cellAt j (by omega)]; exact Hxs.out j hj) (hTn g (by omega)) Hn.out (by omega) (by omega) (hTn _ (Nat.le_refl _)) hgl hK0)
    clear hTn
    go_wp2_with (go_at_call 38; (with_reducible refine HA.out.mono ?_); rintro e1 w1 ⟨rfl, hB1⟩; have HB1 : Hid (Below B w w1) := hide ((HBl.out.mono hB).trans hB1); clear hB1)
    go_ret
    exact ⟨rfl, HB1.out⟩

end Go.Proofs.YtfhfkbdaglegpaaGreatDoor
