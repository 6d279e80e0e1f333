/- CodeNumbers: its walk. Printed by gen_nbw.py. -/
import Derived.StillTailTactics
import Derived.Test.YtfhfkbdaglegpaaGreatDoorTNbS

set_option linter.unusedVariables false
set_option linter.unusedSimpArgs false

namespace Go.Proofs.YtfhfkbdaglegpaaGreatDoor
open Go.RowKit

set_option maxHeartbeats 16000000 in
set_option maxRecDepth 1000000 in
theorem nb_any {w : World} (htab : TabOk w) : Calls Tryz.prog 5 #[] w fun e w' => e = .returned (.bool true) ∧ Below w.heap.size w w' := by
  have Htab := hide htab
  clear htab
  go_enter Tryz.func5, Tryz.ntmps5
  go_wp2_with (go_at_call 20; (with_reducible refine some_any.mono ?_); rintro e w1 ⟨hB1, R, c, rfl, hS⟩; have HB1 := hide hB1; have HS := hide hS; clear hB1 hS)
  go_loopg [2] 10 (fun g k wx => ∃ i : Nat, i ≤ 10 ∧ g = 10 - i ∧ k = .int .i64 i ∧ Hid (Below w.heap.size w wx) ∧ Hid (PSome wx R))
  case atStart => exact ⟨0, by omega, by omega, rfl, HB1, HS⟩
  case round =>
  clear HB1 HS
  obtain ⟨i, hi, hg, rfl, HB, HS⟩ := hrel
  by_cases hlt : i < 10
  · obtain ⟨l, hl, hgood, hcell⟩ := HS.out
    obtain ⟨q, hq⟩ : ∃ q, l[i]? = some q := ⟨l[i]'(by omega), by simp⟩
    have HQ := hide (hgood q (List.mem_of_getElem? hq))
    have hc : ∀ j v, (ptCells q.1 q.2)[j]? = some v → ∀ W, Below wr.heap.size wr W → W.cell? ⟨R, i * 14 + j, none⟩ = some v := fun j v hj W hW => by
      have h0 : wr.cell? ⟨R, i * 14 + j, none⟩ = some v := hcell _ _ (by rw [flat_at (fun q : Ph × Pt => ptCells q.1 q.2) 14 (fun _ => rfl) l i j q hq (by have := (List.getElem?_eq_some_iff.1 hj).1; simpa [ptCells] using this)]; exact hj)
      exact (hW.cell (p := ⟨R, i * 14 + j, none⟩) (block_lt_of_cell h0)).trans h0
    have ck0 : ∀ W, Below wr.heap.size wr W → W.cell? ⟨R, i * 14, none⟩ = some (.int .u8 q.2.kind) := fun W hW => hc 0 _ rfl W hW
    have ck1 : ∀ W, Below wr.heap.size wr W → W.cell? ⟨R, i * 14 + 1, none⟩ = some (.string q.2.file) := fun W hW => hc 1 _ rfl W hW
    have ck2 : ∀ W, Below wr.heap.size wr W → W.cell? ⟨R, i * 14 + 2, none⟩ = some (.string q.2.text) := fun W hW => hc 2 _ rfl W hW
    have ck3 : ∀ W, Below wr.heap.size wr W → W.cell? ⟨R, i * 14 + 3, none⟩ = some (.int .i64 q.2.hunk.at_) := fun W hW => hc 3 _ rfl W hW
    have ck4 : ∀ W, Below wr.heap.size wr W → W.cell? ⟨R, i * 14 + 4, none⟩ = some (.slice q.1.h.oA q.2.hunk.old.length q.1.h.oc) := fun W hW => hc 4 _ rfl W hW
    have ck5 : ∀ W, Below wr.heap.size wr W → W.cell? ⟨R, i * 14 + 5, none⟩ = some (.slice q.1.h.nA q.2.hunk.new.length q.1.h.nc) := fun W hW => hc 5 _ rfl W hW
    have ck6 : ∀ W, Below wr.heap.size wr W → W.cell? ⟨R, i * 14 + 6, none⟩ = some (.int .u8 q.2.edit.kind) := fun W hW => hc 6 _ rfl W hW
    have ck7 : ∀ W, Below wr.heap.size wr W → W.cell? ⟨R, i * 14 + 7, none⟩ = some (.slice q.1.e.pA q.2.edit.path.length q.1.e.pc) := fun W hW => hc 7 _ rfl W hW
    have ck8 : ∀ W, Below wr.heap.size wr W → W.cell? ⟨R, i * 14 + 8, none⟩ = some (.int .i64 q.2.edit.at_) := fun W hW => hc 8 _ rfl W hW
    have ck9 : ∀ W, Below wr.heap.size wr W → W.cell? ⟨R, i * 14 + 9, none⟩ = some (.int .i64 q.2.edit.far) := fun W hW => hc 9 _ rfl W hW
    have ck10 : ∀ W, Below wr.heap.size wr W → W.cell? ⟨R, i * 14 + 10, none⟩ = some (.string q.2.edit.frm) := fun W hW => hc 10 _ rfl W hW
    have ck11 : ∀ W, Below wr.heap.size wr W → W.cell? ⟨R, i * 14 + 11, none⟩ = some (.string q.2.edit.to) := fun W hW => hc 11 _ rfl W hW
    have ck12 : ∀ W, Below wr.heap.size wr W → W.cell? ⟨R, i * 14 + 12, none⟩ = some (.slice q.1.e.oA q.2.edit.old.len q.1.e.oc) := fun W hW => hc 12 _ rfl W hW
    have ck13 : ∀ W, Below wr.heap.size wr W → W.cell? ⟨R, i * 14 + 13, none⟩ = some (.slice q.1.e.nA q.2.edit.new.len q.1.e.nc) := fun W hW => hc 13 _ rfl W hW
    clear hc hcell hgood hl hq
    have hr0 : Below wr.heap.size wr wr := Below.refl _ _
    obtain ⟨L, hL, hPut, hRef⟩ : ∃ L : List UInt8, L.length ≤ 10000 ∧
        (∀ W, Below wr.heap.size wr W → Calls Tryz.prog 9 #[.agg #[.int .u8 q.2.kind, .string q.2.file, .string q.2.text, .int .i64 q.2.hunk.at_, .slice q.1.h.oA q.2.hunk.old.length q.1.h.oc, .slice q.1.h.nA q.2.hunk.new.length q.1.h.nc, .int .u8 q.2.edit.kind, .slice q.1.e.pA q.2.edit.path.length q.1.e.pc, .int .i64 q.2.edit.at_, .int .i64 q.2.edit.far, .string q.2.edit.frm, .string q.2.edit.to, .slice q.1.e.oA q.2.edit.old.len q.1.e.oc, .slice q.1.e.nA q.2.edit.new.len q.1.e.nc]] W fun e w' => Below W.heap.size W w' ∧ ∃ A c, e = .returned (.tuple #[.slice A L.length c, .int .i64 0]) ∧ Own8 W.heap.size w' (.slice A L.length c) L) ∧
        (∀ W, Below wr.heap.size wr W → Calls Tryz.prog 10 #[.agg #[.int .u8 q.2.kind, .string q.2.file, .string q.2.text, .int .i64 q.2.hunk.at_, .slice q.1.h.oA q.2.hunk.old.length q.1.h.oc, .slice q.1.h.nA q.2.hunk.new.length q.1.h.nc, .int .u8 q.2.edit.kind, .slice q.1.e.pA q.2.edit.path.length q.1.e.pc, .int .i64 q.2.edit.at_, .int .i64 q.2.edit.far, .string q.2.edit.frm, .string q.2.edit.to, .slice q.1.e.oA q.2.edit.old.len q.1.e.oc, .slice q.1.e.nA q.2.edit.new.len q.1.e.nc]] W fun e w' => Below W.heap.size W w' ∧ ∃ A c, e = .returned (.tuple #[.slice A L.length c, .int .i64 0]) ∧ Own8 W.heap.size w' (.slice A L.length c) L) :=
      ⟨ptB q.2, HQ.out.2.2.1, fun W hW => put_ok (HQ.out.below hW) (Htab.out.below (HB.out.trans (hW.mono HB.out.size))), fun W hW => put24_ok (HQ.out.below hW)⟩
    have HPut := hide hPut
    have HRef := hide hRef
    have HTw := hide (Htab.out.below HB.out)
    clear hPut hRef HQ
    go_wp2_with (first
      | (go_at_call 9; (with_reducible refine (HPut.out _ (Below.refl _ _)).mono ?_); rintro e2 w2 ⟨hB2, A, c2, rfl, ho⟩; have O2 := hide ho; have HB2 := hide hB2; clear ho)
      | (go_at_call 10; (with_reducible refine (HRef.out w2 hB2).mono ?_); rintro e3 w3 ⟨hB3, A', c3, rfl, ho⟩; have O3 := hide ho; have HB3 := hide hB3; clear ho; obtain ⟨A1, c1, ee, hby, hc1, hc2⟩ := (O2.out.below HB3.out).bytes (S := AnyB) (fun _ _ => trivial); injection ee with ea eb ec; subst ea ec; have HBy3 := hide hby; have Hc1 := hide hc1; have Hc2 := hide hc2; clear hby hc1 hc2 hB3)
      | (go_at_call 11; (with_reducible refine (sameBytes_own O2.out HB3.out (Below.refl _ _) O3.out).mono ?_); rintro e4 w4 ⟨rfl, n4, rfl⟩; have HB4 : Hid (Below wr.heap.size wr (w3.drewN n4)) := hide (blw_drewN (blw_up HB2.out HB3.out) _); have HBy4 : Hid (BytesIn AnyB (w3.drewN n4) A L) := hide HBy3.out; generalize w3.drewN n4 = w4 at HB4 HBy4 ⊢)
      | (go_at_call 22; (with_reducible refine (copy_own HBy4.out rfl (Nat.le_trans hL (by decide))).mono ?_); rintro e5 w5 ⟨v5, rfl, ho, hB5⟩; have O5 := hide ho; have HB5 := hide hB5; clear ho hB5)
      | (at_builtin; refine wpList_unguard (by rfl) ?_; refine wpList_own8 rfl _ _ rfl w4.heap.size w5.heap.size v5 (.slice (some ⟨w5.heap.size, 0, none⟩) 1 1) L [0] rfl (O5.out.below (below_alloc _ _)) rfl (Own8.lit w5 rfl) (by simp only [lidB, List.length_cons, List.length_nil]; omega) (Nat.le_trans HB5.out.size (by simp)) ?_; intro v6 w6 ho6 hB6; obtain ⟨A6, c6, rfl, hby6, hc6, hd6⟩ := ho6.bytes (S := AnyB) (fun _ _ => trivial); have HBy6 := hide hby6; have HN6 : Hid ((L ++ [0]).length = L.length + 1) := hide (by simp); have HM6 : Hid (L.length + 1 ≤ 10001) := hide (by omega); have Hc6 := hide hc6; have Hd6 := hide hd6; have HB6 : Hid (Below w4.heap.size w4 w6) := hide ((blw_up HB5.out (below_alloc _ _)).trans hB6); clear ho6 hB6 hby6 hc6 hd6)
      | (go_at_call 21; with_reducible refine (gets_any HBy6.out HN6.out (Nat.le_trans (Nat.le_of_eq HN6.out.symm) Hc6.out) Hd6.out (Nat.le_trans HM6.out (by decide)) (HTw.out.below (blw_up HB4.out HB6.out))).mono ?_; rintro e7 w7 ⟨rfl, hB7⟩; have HB7 := hide (blw_up HB6.out hB7); clear hB7))
    have HBw7 := hide (HB.out.trans ((blw_up HB4.out HB7.out).mono HB.out.size))
    have HS7 := hide (HS.out.below (blw_up HB4.out HB7.out))
    have HBy7 := hide (HBy4.out.below HB7.out)
    have HT7 := hide (Htab.out.below HBw7.out)
    clear HB4 HB7 HBy4 HB5 O5 O2 O3 HB2 hB2 HB3 HBy3 HBy6 HN6 HM6 Hc6 Hd6 HB6 HTw HRef HPut hr0 HS HB eb ck0 ck1 ck2 ck3 ck4 ck5 ck6 ck7 ck8 ck9 ck10 ck11 ck12 ck13
    go_loopg [7] L.length (fun g k wx => ∃ j : Nat, j ≤ L.length ∧ g = L.length - j ∧ k = .int .i64 j ∧ Hid (Below w7.heap.size w7 wx))
    case atStart => exact ⟨0, by omega, by omega, rfl, hide (Below.refl _ _)⟩
    case round =>
    obtain ⟨j, hj, hg2, rfl, HB⟩ := hrel
    by_cases hjl : j < L.length
    · go_wp2_with fail
      refine wp_name ?_
      intro WB hWB
      have HBB := hide (HB.out.trans ((show Below _ _ WB by rw [hWB]; exact below_alloc _ _ : Below wr.heap.size wr WB).mono HB.out.size))
      have Hby : Hid (∀ t, t < 9 → ∃ z : Int, ∀ W, Below WB.heap.size WB W → W.cell? ⟨wr.heap.size, t, none⟩ = some (.int .u8 z)) := by
        refine hide fun t ht => ?_
        have h0 : ∃ z : Int, WB.cell? ⟨wr.heap.size, t, none⟩ = some (.int .u8 z) := by
          rw [hWB, Lib.cell_of_heap (heap_alloc_new wr _)]
          match t, ht with
          | 0, _ => exact ⟨1, rfl⟩
          | 1, _ => exact ⟨2, rfl⟩
          | 2, _ => exact ⟨3, rfl⟩
          | 3, _ => exact ⟨4, rfl⟩
          | 4, _ => exact ⟨8, rfl⟩
          | 5, _ => exact ⟨16, rfl⟩
          | 6, _ => exact ⟨64, rfl⟩
          | 7, _ => exact ⟨128, rfl⟩
          | 8, _ => exact ⟨255, rfl⟩
        obtain ⟨z, hz⟩ := h0
        exact ⟨z, fun W hW => (hW.cell (p := ⟨wr.heap.size, t, none⟩) (block_lt_of_cell hz)).trans hz⟩
      clear hWB
      generalize wr.heap.size = BYB at Hby ⊢
      go_loopg [9] 9 (fun g k wx => ∃ t : Nat, t ≤ 9 ∧ g = 9 - t ∧ k = .int .i64 t ∧ Hid (Below WB.heap.size WB wx))
      case atStart => exact ⟨0, by omega, by omega, rfl, hide (Below.refl _ _)⟩
      case round =>
      obtain ⟨t, ht, hg3, rfl, HB3⟩ := hrel
      by_cases htl : t < 9
      · obtain ⟨z, hz⟩ := Hby.out t htl
        have HZ := hide hz
        have HByr := hide (HBy7.out.below (HBB.out.trans (HB3.out.mono HBB.out.size)))
        clear hz
        go_upto_region 17 with (go_at_call 22; (with_reducible refine (copy_own HByr.out rfl (Nat.le_trans hL (by decide))).mono ?_); rintro e5 w5 ⟨v5, rfl, ho, hB5⟩; obtain ⟨g, cap, rfl, hgb, hgl⟩ := World.ownsRow.form ho (by omega); have O5 := hide ho; have HB5 := hide hB5; clear ho hB5)
        have hc1 : w5.cell? ⟨g, j, none⟩ = some (.int .u8 ((L[j]'hjl).toNat : Int)) := by
          rw [World.ownsRow.cellAt O5.out j (by omega)]
          simp [bytesV, hjl]
        have hc2 : w5.cell? ⟨BYB, t, none⟩ = some (.int .u8 z) := HZ.out w5 (HB3.out.trans (HB5.out.mono HB3.out.size))
        have hf1 : w5.frozen? ⟨g, j, none⟩ = false := World.ownsRow.frozenAt O5.out j
        go_still_tail 12, (by kernel_rfl)
        change wpList _ _ _ _ _ w5.drew
        go_upto_region 18 with fail
        refine wp_name ?_
        intro WS hWS
        have hBS : Below wr.heap.size wr WS := by rw [hWS]; exact (HB5.out.setCell hgb _).drew
        obtain ⟨zz, hzz⟩ := xor_byte ((L[j]'hjl).toNat : Int) z
        rw [hzz] at hWS
        obtain ⟨M, hM1, hM2, hM3, hM4⟩ := set_bytes O5.out hWS
        have HM2 := hide hM2
        have HBS := hide (HB3.out.trans (hBS.mono HB3.out.size))
        have HTS := hide (HT7.out.below (HBB.out.trans (HBS.out.mono HBB.out.size)))
        clear hWS hM2 hBS hc1 hc2 hf1 O5 HB5 HZ HByr
        go_wp2_with (go_at_call 21; (with_reducible refine (gets_any HM2.out hM1 hM3 hM4 (Nat.le_trans hL (by decide)) HTS.out).mono ?_); rintro e6 w6 ⟨rfl, hB6⟩; have HB6 := hide (HBS.out.trans (hB6.mono HBS.out.size)); clear hB6)
        go_roundg (9 - (t + 1))
        case measure => omega
        case rel => exact ⟨t + 1, by omega, rfl, by go_num, HB6⟩
      · clear Hby
        have HByr := hide (HBy7.out.below (HBB.out.trans (HB3.out.mono HBB.out.size)))
        have HBr := hide (HBB.out.trans (HB3.out.mono HBB.out.size))
        have HTr := hide (HT7.out.below HBr.out)
        have hc1 := Hc1.out
        have hc2 := Hc2.out
        clear HB3 HBB HB
        go_wp2_with (first
          | (go_at_call 21; (with_reducible refine (gets_any (n := j) (HByr.out.take j) (by simp; omega) (by omega) hc2 (by simp only [lid]; omega) HTr.out).mono ?_); rintro e6 w6 ⟨rfl, hB6⟩; have HB7 := hide hB6; have HB6 := hide (HBr.out.trans (hB6.mono HBr.out.size)); clear hB6)
          | (go_at_call 21; (with_reducible refine (gets_any (n := L.length - j) ((HByr.out.below HB7.out).drop j) (by simp) (by omega) (by omega) (by simp only [lid]; omega) (HTr.out.below HB7.out)).mono ?_); rintro e8 w8 ⟨rfl, hB8⟩; have HB8 := hide (HB6.out.trans (hB8.mono HB6.out.size)); clear hB8))
        go_roundg (L.length - (j + 1))
        case measure => omega
        case rel => exact ⟨j + 1, by omega, rfl, by go_num, HB8⟩
    · clear HBy7 Hc1 Hc2
      have HS8 := hide (HS7.out.below HB.out)
      have HB8 := hide (HBw7.out.trans (HB.out.mono HBw7.out.size))
      go_wp2_with fail
      go_roundg (10 - (i + 1))
      case measure => omega
      case rel => exact ⟨i + 1, by omega, rfl, by go_num, HB8, HS8⟩
  · clear HS
    go_wp2_with (go_at_call 23; (with_reducible refine (node24_any (k := 20)).mono ?_); rintro e wn ⟨rfl, hBn⟩; have HBn := hide (HB.out.trans (hBn.mono HB.out.size)); clear hBn)
    refine wp_name ?_
    intro W0 hW0
    have HB0 : Hid (Below w.heap.size w W0) := hide (by rw [hW0]; exact HBn.out.alloc HBn.out.size _)
    have HD0 : Hid (DeepAt W0 wn.heap.size 0) := hide (by
      obtain ⟨_, i1, _⟩ := z64s
      exact ⟨20, ⟨#[]⟩, 1, .nil, none, 0, rfl, by rw [hW0]; exact heap_alloc_new wn _, by omega, by decide, i1, by decide, by omega, trivial⟩)
    have hDB : w.heap.size ≤ wn.heap.size := HBn.out.size
    clear hW0 HBn HB
    generalize wn.heap.size = DB at HD0 hDB ⊢
    go_loopg [12] 42 (fun g k wx => ∃ n : Nat, 1 ≤ n ∧ n ≤ 43 ∧ g = 43 - n ∧ k = .int .i64 n ∧ Hid (Below w.heap.size w wx) ∧ Hid (DeepAt wx DB (n - 1)))
    case atStart => exact ⟨1, by omega, by omega, by omega, rfl, HB0, HD0⟩
    case round =>
    clear HB0 HD0
    obtain ⟨n, hn1, hn2, hg, rfl, HB, HD⟩ := hrel
    by_cases hlt : n < 43
    · rcases Nat.lt_trichotomy n 40 with h40 | h40 | h40
      · obtain ⟨kk, t, nn, ks, KA, cc, he, hd, hkk, htt, hnn, hcc, hcc2, hf⟩ := HD.out
        have hdl : DB < wr.heap.size := (Array.getElem?_eq_some_iff.1 hd).1
        have hdc : ∀ j v, (#[.int .u8 kk, .string t, .int .i64 nn, .slice KA ks.len cc] : Array Value)[j]? = some v → ∀ W, Below wr.heap.size wr W → W.cell? ⟨DB, j, none⟩ = some v := fun j v hj W hW => by rw [Lib.cell_of_heap (nb_stay hW hd)]; exact hj
        have d0 : ∀ W, Below wr.heap.size wr W → W.cell? ⟨DB, 0, none⟩ = some (.int .u8 kk) := hdc 0 _ rfl
        have d1 : ∀ W, Below wr.heap.size wr W → W.cell? ⟨DB, 1, none⟩ = some (.string t) := hdc 1 _ rfl
        have d2 : ∀ W, Below wr.heap.size wr W → W.cell? ⟨DB, 2, none⟩ = some (.int .i64 nn) := hdc 2 _ rfl
        have d3 : ∀ W, Below wr.heap.size wr W → W.cell? ⟨DB, 3, none⟩ = some (.slice KA ks.len cc) := hdc 3 _ rfl
        have hfz : ∀ j W, Below wr.heap.size wr W → W.frozen? ⟨DB, j, none⟩ = false := fun j W hW => frozen_of_row W DB j _ _ (nb_stay hW hd)
        have hr0 : Below wr.heap.size wr wr := Below.refl _ _
        have Hd := hide hd
        have Hf := hide hf
        clear hdc hd hf
        go_upto_region 27 with fail
        refine wp_name ?_
        intro WP hWP
        obtain ⟨NB, hNB⟩ : ∃ NB, NB = wr.heap.size := ⟨_, rfl⟩
        rw [← hNB] at hWP
        have hWP2 : WP = [Obj.cells #[.int .u8 kk, .string t, .int .i64 nn, .slice KA ks.len cc] 55, Obj.cells #[.int .u8 4, .string ⟨#[97]⟩, .string ⟨#[]⟩, .int .i64 0, .slice none 0 0, .slice none 0 0, .int .u8 2, .slice none 0 0, .int .i64 0, .int .i64 0, .string ⟨#[]⟩, .string ⟨#[]⟩, .slice none 0 0, .slice (some ⟨NB, 0, none⟩) 1 1] 32].foldl World.alloc wr := hWP
        have hBP : Below wr.heap.size wr WP := by rw [hWP2]; exact (nb_below _ _).1
        have q0 := nb_at [Obj.cells #[.int .u8 kk, .string t, .int .i64 nn, .slice KA ks.len cc] 55, Obj.cells #[.int .u8 4, .string ⟨#[97]⟩, .string ⟨#[]⟩, .int .i64 0, .slice none 0 0, .slice none 0 0, .int .u8 2, .slice none 0 0, .int .i64 0, .int .i64 0, .string ⟨#[]⟩, .string ⟨#[]⟩, .slice none 0 0, .slice (some ⟨NB, 0, none⟩) 1 1] 32] wr 0 _ rfl
        have q1 := nb_at [Obj.cells #[.int .u8 kk, .string t, .int .i64 nn, .slice KA ks.len cc] 55, Obj.cells #[.int .u8 4, .string ⟨#[97]⟩, .string ⟨#[]⟩, .int .i64 0, .slice none 0 0, .slice none 0 0, .int .u8 2, .slice none 0 0, .int .i64 0, .int .i64 0, .string ⟨#[]⟩, .string ⟨#[]⟩, .slice none 0 0, .slice (some ⟨NB, 0, none⟩) 1 1] 32] wr 1 _ rfl
        rw [← hWP2, ← hNB] at q0 q1
        rw [Nat.add_zero] at q0
        have HFo := hide ((deep_row he hkk htt hnn hcc hcc2 (Hf.out.mono (S' := AnyB) fun _ _ _ => trivial) hBP q0 trivial))
        have HBP := hide (HB.out.trans (hBP.mono HB.out.size))
        have HTP := hide (Htab.out.below HBP.out)
        clear hWP hWP2 q0
        rw [← hNB]
        have HNB := hide hNB
        clear hNB
        have p0 : ∀ W, Below WP.heap.size WP W → W.cell? ⟨NB + 1, 0, none⟩ = some (.int .u8 4) := fun W hW => by rw [Lib.cell_of_heap (nb_stay hW q1)]; rfl
        have p1 : ∀ W, Below WP.heap.size WP W → W.cell? ⟨NB + 1, 1, none⟩ = some (.string ⟨#[97]⟩) := fun W hW => by rw [Lib.cell_of_heap (nb_stay hW q1)]; rfl
        have p2 : ∀ W, Below WP.heap.size WP W → W.cell? ⟨NB + 1, 2, none⟩ = some (.string ⟨#[]⟩) := fun W hW => by rw [Lib.cell_of_heap (nb_stay hW q1)]; rfl
        have p3 : ∀ W, Below WP.heap.size WP W → W.cell? ⟨NB + 1, 3, none⟩ = some (.int .i64 0) := fun W hW => by rw [Lib.cell_of_heap (nb_stay hW q1)]; rfl
        have p4 : ∀ W, Below WP.heap.size WP W → W.cell? ⟨NB + 1, 4, none⟩ = some (.slice none 0 0) := fun W hW => by rw [Lib.cell_of_heap (nb_stay hW q1)]; rfl
        have p5 : ∀ W, Below WP.heap.size WP W → W.cell? ⟨NB + 1, 5, none⟩ = some (.slice none 0 0) := fun W hW => by rw [Lib.cell_of_heap (nb_stay hW q1)]; rfl
        have p6 : ∀ W, Below WP.heap.size WP W → W.cell? ⟨NB + 1, 6, none⟩ = some (.int .u8 2) := fun W hW => by rw [Lib.cell_of_heap (nb_stay hW q1)]; rfl
        have p7 : ∀ W, Below WP.heap.size WP W → W.cell? ⟨NB + 1, 7, none⟩ = some (.slice none 0 0) := fun W hW => by rw [Lib.cell_of_heap (nb_stay hW q1)]; rfl
        have p8 : ∀ W, Below WP.heap.size WP W → W.cell? ⟨NB + 1, 8, none⟩ = some (.int .i64 0) := fun W hW => by rw [Lib.cell_of_heap (nb_stay hW q1)]; rfl
        have p9 : ∀ W, Below WP.heap.size WP W → W.cell? ⟨NB + 1, 9, none⟩ = some (.int .i64 0) := fun W hW => by rw [Lib.cell_of_heap (nb_stay hW q1)]; rfl
        have p10 : ∀ W, Below WP.heap.size WP W → W.cell? ⟨NB + 1, 10, none⟩ = some (.string ⟨#[]⟩) := fun W hW => by rw [Lib.cell_of_heap (nb_stay hW q1)]; rfl
        have p11 : ∀ W, Below WP.heap.size WP W → W.cell? ⟨NB + 1, 11, none⟩ = some (.string ⟨#[]⟩) := fun W hW => by rw [Lib.cell_of_heap (nb_stay hW q1)]; rfl
        have p12 : ∀ W, Below WP.heap.size WP W → W.cell? ⟨NB + 1, 12, none⟩ = some (.slice none 0 0) := fun W hW => by rw [Lib.cell_of_heap (nb_stay hW q1)]; rfl
        have p13 : ∀ W, Below WP.heap.size WP W → W.cell? ⟨NB + 1, 13, none⟩ = some (.slice (some ⟨NB, 0, none⟩) 1 1) := fun W hW => by rw [Lib.cell_of_heap (nb_stay hW q1)]; rfl
        have hP0 : Below WP.heap.size WP WP := Below.refl _ _
        clear q1
        obtain ⟨L, hL1, hL2, hPut⟩ : ∃ L : List UInt8, 25 ≤ L.length ∧ L.length ≤ 10000 ∧ Calls Tryz.prog 9 #[.agg #[.int .u8 4, .string ⟨#[97]⟩, .string ⟨#[]⟩, .int .i64 0, .slice none 0 0, .slice none 0 0, .int .u8 2, .slice none 0 0, .int .i64 0, .int .i64 0, .string ⟨#[]⟩, .string ⟨#[]⟩, .slice none 0 0, .slice (some ⟨NB, 0, none⟩) 1 1]] WP fun e w' => Below WP.heap.size WP w' ∧ ∃ A c, e = .returned (.tuple #[.slice A L.length c, .int .i64 0]) ∧ Own8 WP.heap.size w' (.slice A L.length c) L := by
          refine ⟨ptB (deepPt (n - 1)), by rw [deep_size]; omega, by rw [deep_size]; omega, (deep_put HFo.out (by omega) HTP.out).mono ?_⟩
          rintro e w' ⟨hB, ⟨_, h⟩ | ⟨hno, _⟩⟩
          · exact ⟨hB, h⟩
          · omega
        have HPut := hide hPut
        clear hPut
        have g1 : decide ((40 : Int) < (n : Int)) = false := by simp; omega
        have g2 : decide ((n : Int) ≤ 40) = true := by simp; omega
        have g3 : ((n : Int) == 40) = false := by simp; omega
        go_upto_region 30 with (first
          | (go_at_call 9; (with_reducible refine HPut.out.mono ?_); rintro e2 w2 ⟨hB2, A, c, rfl, ho⟩; have O2 := hide ho; clear ho; have hB2r : Below wr.heap.size wr w2 := hBP.trans (hB2.mono hBP.size))
          | (go_at_call 3; (with_reducible refine (deep_puts (HFo.out.below hB2) (by omega) (HTP.out.below hB2)).mono ?_); rintro e3 w3 ⟨rfl, hB3⟩; have HB3 := hide hB3; have hB3r : Below wr.heap.size wr w3 := hB2r.trans (hB3.mono hB2r.size); clear hB3)
          | (go_at_call 21; obtain ⟨A1, c1, ee, hby, hc1, hc2⟩ := (O2.out.below HB3.out).bytes (S := AnyB) (fun _ _ => trivial); injection ee with ea eb ec; subst ea ec; (with_reducible refine (gets_any hby rfl hc1 hc2 (by simp only [lid]; omega) (HTP.out.below (hB2.trans (HB3.out.mono hB2.size)))).mono ?_); rintro e4 w4 ⟨rfl, hB4⟩; have hB4r : Below wr.heap.size wr w4 := hB3r.trans (hB4.mono hB3r.size); have HBy := hide (hby.below hB4); have Hc1 := hide hc1; have Hc2 := hide hc2; clear hby hc1 hc2 hB4))
        clear p0 p1 p2 p3 p4 p5 p6 p7 p8 p9 p10 p11 p12 p13 hP0 HPut
        go_wp2_with (go_at_call 23; (with_reducible refine (node24_any (k := 23)).mono ?_); rintro e w9 ⟨rfl, hB9⟩; have hB9r : Below wr.heap.size wr w9 := hB4r.trans ((blw_up (below_alloc _ _) hB9).mono hB4r.size); have HQ := hide (nb_stay hB9 (heap_alloc_new w4 (.cells #[.int .u8 kk, .string t, .int .i64 nn, .slice KA ks.len cc] 55))); clear hB9)
        go_roundg (43 - (n + 1))
        case measure => omega
        case rel =>
          refine ⟨n + 1, by omega, by omega, rfl, by go_num, hide ?_, hide ?_⟩
          · exact ((((HB.out.trans (hB9r.mono HB.out.size)).setCell hDB _).setCell hDB _).setCell hDB _).setCell hDB _
          · rw [show n + 1 - 1 = n - 1 + 1 by omega]
            exact deep_next he Hd.out hkk htt hnn hcc hcc2 Hf.out hB9r HQ.out (Nat.le_trans hB4r.size (Nat.le_refl _)) rfl
      · subst h40
        obtain ⟨kk, t, nn, ks, KA, cc, he, hd, hkk, htt, hnn, hcc, hcc2, hf⟩ := HD.out
        have hdl : DB < wr.heap.size := (Array.getElem?_eq_some_iff.1 hd).1
        have hdc : ∀ j v, (#[.int .u8 kk, .string t, .int .i64 nn, .slice KA ks.len cc] : Array Value)[j]? = some v → ∀ W, Below wr.heap.size wr W → W.cell? ⟨DB, j, none⟩ = some v := fun j v hj W hW => by rw [Lib.cell_of_heap (nb_stay hW hd)]; exact hj
        have d0 : ∀ W, Below wr.heap.size wr W → W.cell? ⟨DB, 0, none⟩ = some (.int .u8 kk) := hdc 0 _ rfl
        have d1 : ∀ W, Below wr.heap.size wr W → W.cell? ⟨DB, 1, none⟩ = some (.string t) := hdc 1 _ rfl
        have d2 : ∀ W, Below wr.heap.size wr W → W.cell? ⟨DB, 2, none⟩ = some (.int .i64 nn) := hdc 2 _ rfl
        have d3 : ∀ W, Below wr.heap.size wr W → W.cell? ⟨DB, 3, none⟩ = some (.slice KA ks.len cc) := hdc 3 _ rfl
        have hfz : ∀ j W, Below wr.heap.size wr W → W.frozen? ⟨DB, j, none⟩ = false := fun j W hW => frozen_of_row W DB j _ _ (nb_stay hW hd)
        have hr0 : Below wr.heap.size wr wr := Below.refl _ _
        have Hd := hide hd
        have Hf := hide hf
        clear hdc hd hf
        go_upto_region 27 with fail
        refine wp_name ?_
        intro WP hWP
        obtain ⟨NB, hNB⟩ : ∃ NB, NB = wr.heap.size := ⟨_, rfl⟩
        rw [← hNB] at hWP
        have hWP2 : WP = [Obj.cells #[.int .u8 kk, .string t, .int .i64 nn, .slice KA ks.len cc] 55, Obj.cells #[.int .u8 4, .string ⟨#[97]⟩, .string ⟨#[]⟩, .int .i64 0, .slice none 0 0, .slice none 0 0, .int .u8 2, .slice none 0 0, .int .i64 0, .int .i64 0, .string ⟨#[]⟩, .string ⟨#[]⟩, .slice none 0 0, .slice (some ⟨NB, 0, none⟩) 1 1] 32].foldl World.alloc wr := hWP
        have hBP : Below wr.heap.size wr WP := by rw [hWP2]; exact (nb_below _ _).1
        have q0 := nb_at [Obj.cells #[.int .u8 kk, .string t, .int .i64 nn, .slice KA ks.len cc] 55, Obj.cells #[.int .u8 4, .string ⟨#[97]⟩, .string ⟨#[]⟩, .int .i64 0, .slice none 0 0, .slice none 0 0, .int .u8 2, .slice none 0 0, .int .i64 0, .int .i64 0, .string ⟨#[]⟩, .string ⟨#[]⟩, .slice none 0 0, .slice (some ⟨NB, 0, none⟩) 1 1] 32] wr 0 _ rfl
        have q1 := nb_at [Obj.cells #[.int .u8 kk, .string t, .int .i64 nn, .slice KA ks.len cc] 55, Obj.cells #[.int .u8 4, .string ⟨#[97]⟩, .string ⟨#[]⟩, .int .i64 0, .slice none 0 0, .slice none 0 0, .int .u8 2, .slice none 0 0, .int .i64 0, .int .i64 0, .string ⟨#[]⟩, .string ⟨#[]⟩, .slice none 0 0, .slice (some ⟨NB, 0, none⟩) 1 1] 32] wr 1 _ rfl
        rw [← hWP2, ← hNB] at q0 q1
        rw [Nat.add_zero] at q0
        have HFo := hide ((deep_row he hkk htt hnn hcc hcc2 (Hf.out.mono (S' := AnyB) fun _ _ _ => trivial) hBP q0 trivial))
        have HBP := hide (HB.out.trans (hBP.mono HB.out.size))
        have HTP := hide (Htab.out.below HBP.out)
        clear hWP hWP2 q0
        rw [← hNB]
        have HNB := hide hNB
        clear hNB
        have p0 : ∀ W, Below WP.heap.size WP W → W.cell? ⟨NB + 1, 0, none⟩ = some (.int .u8 4) := fun W hW => by rw [Lib.cell_of_heap (nb_stay hW q1)]; rfl
        have p1 : ∀ W, Below WP.heap.size WP W → W.cell? ⟨NB + 1, 1, none⟩ = some (.string ⟨#[97]⟩) := fun W hW => by rw [Lib.cell_of_heap (nb_stay hW q1)]; rfl
        have p2 : ∀ W, Below WP.heap.size WP W → W.cell? ⟨NB + 1, 2, none⟩ = some (.string ⟨#[]⟩) := fun W hW => by rw [Lib.cell_of_heap (nb_stay hW q1)]; rfl
        have p3 : ∀ W, Below WP.heap.size WP W → W.cell? ⟨NB + 1, 3, none⟩ = some (.int .i64 0) := fun W hW => by rw [Lib.cell_of_heap (nb_stay hW q1)]; rfl
        have p4 : ∀ W, Below WP.heap.size WP W → W.cell? ⟨NB + 1, 4, none⟩ = some (.slice none 0 0) := fun W hW => by rw [Lib.cell_of_heap (nb_stay hW q1)]; rfl
        have p5 : ∀ W, Below WP.heap.size WP W → W.cell? ⟨NB + 1, 5, none⟩ = some (.slice none 0 0) := fun W hW => by rw [Lib.cell_of_heap (nb_stay hW q1)]; rfl
        have p6 : ∀ W, Below WP.heap.size WP W → W.cell? ⟨NB + 1, 6, none⟩ = some (.int .u8 2) := fun W hW => by rw [Lib.cell_of_heap (nb_stay hW q1)]; rfl
        have p7 : ∀ W, Below WP.heap.size WP W → W.cell? ⟨NB + 1, 7, none⟩ = some (.slice none 0 0) := fun W hW => by rw [Lib.cell_of_heap (nb_stay hW q1)]; rfl
        have p8 : ∀ W, Below WP.heap.size WP W → W.cell? ⟨NB + 1, 8, none⟩ = some (.int .i64 0) := fun W hW => by rw [Lib.cell_of_heap (nb_stay hW q1)]; rfl
        have p9 : ∀ W, Below WP.heap.size WP W → W.cell? ⟨NB + 1, 9, none⟩ = some (.int .i64 0) := fun W hW => by rw [Lib.cell_of_heap (nb_stay hW q1)]; rfl
        have p10 : ∀ W, Below WP.heap.size WP W → W.cell? ⟨NB + 1, 10, none⟩ = some (.string ⟨#[]⟩) := fun W hW => by rw [Lib.cell_of_heap (nb_stay hW q1)]; rfl
        have p11 : ∀ W, Below WP.heap.size WP W → W.cell? ⟨NB + 1, 11, none⟩ = some (.string ⟨#[]⟩) := fun W hW => by rw [Lib.cell_of_heap (nb_stay hW q1)]; rfl
        have p12 : ∀ W, Below WP.heap.size WP W → W.cell? ⟨NB + 1, 12, none⟩ = some (.slice none 0 0) := fun W hW => by rw [Lib.cell_of_heap (nb_stay hW q1)]; rfl
        have p13 : ∀ W, Below WP.heap.size WP W → W.cell? ⟨NB + 1, 13, none⟩ = some (.slice (some ⟨NB, 0, none⟩) 1 1) := fun W hW => by rw [Lib.cell_of_heap (nb_stay hW q1)]; rfl
        have hP0 : Below WP.heap.size WP WP := Below.refl _ _
        clear q1
        obtain ⟨L, s, hL1, hL2, hPut⟩ : ∃ (L : List UInt8) (s : Nat), L.length = s + 25 ∧ s ≤ 10000 ∧ Calls Tryz.prog 9 #[.agg #[.int .u8 4, .string ⟨#[97]⟩, .string ⟨#[]⟩, .int .i64 0, .slice none 0 0, .slice none 0 0, .int .u8 2, .slice none 0 0, .int .i64 0, .int .i64 0, .string ⟨#[]⟩, .string ⟨#[]⟩, .slice none 0 0, .slice (some ⟨NB, 0, none⟩) 1 1]] WP fun e w' => Below WP.heap.size WP w' ∧ ∃ A c, e = .returned (.tuple #[.slice A (s + 25) c, .int .i64 0]) ∧ Own8 WP.heap.size w' (.slice A (s + 25) c) L := by
          refine ⟨ptB (deepPt (40 - 1)), (ptB (deepPt (40 - 1))).length - 25, by rw [deep_size], by rw [deep_size]; omega, (deep_put HFo.out (by omega) HTP.out).mono ?_⟩
          rintro e w' ⟨hB, ⟨_, h⟩ | ⟨hno, _⟩⟩
          · rw [deep_size] at h ⊢
            exact ⟨hB, h⟩
          · omega
        have HPut := hide hPut
        clear hPut
        go_upto_region 31 with (first
          | (go_at_call 9; (with_reducible refine HPut.out.mono ?_); rintro e2 w2 ⟨hB2, A, c, rfl, ho⟩; have O2 := hide ho; clear ho; have hB2r : Below wr.heap.size wr w2 := hBP.trans (hB2.mono hBP.size))
          | (go_at_call 3; (with_reducible refine (deep_puts (HFo.out.below hB2) (by omega) (HTP.out.below hB2)).mono ?_); rintro e3 w3 ⟨rfl, hB3⟩; have HB3 := hide hB3; have hB3r : Below wr.heap.size wr w3 := hB2r.trans (hB3.mono hB2r.size); clear hB3)
          | (go_at_call 21; obtain ⟨hby, hc1, hc2⟩ := own_this (O2.out.below HB3.out) hL1; (with_reducible refine (gets_any hby hL1 hc1 hc2 (Nat.le_trans (m := 10025) (by omega) (by decide)) (HTP.out.below (hB2.trans (HB3.out.mono hB2.size)))).mono ?_); rintro e4 w4 ⟨rfl, hB4⟩; have hB4r : Below wr.heap.size wr w4 := hB3r.trans (hB4.mono hB3r.size); have HBy := hide (hby.below hB4); have Hc1 := hide hc1; have hc2' := hc2; have hc1' : s ≤ c := (by omega); have Hc2 := hide hc2; clear hby hB4))
        clear p0 p1 p2 p3 p4 p5 p6 p7 p8 p9 p10 p11 p12 p13 hP0 HPut
        have HT4 := hide (Htab.out.below (HB.out.trans (hB4r.mono HB.out.size)))
        go_upto_region 32 with (at_builtin; refine wpList_own8b rfl _ _ rfl w4.heap.size (.slice (some ⟨w4.heap.size, 0, none⟩) 26 26) (A.map fun x => x.add s) 25 (c - s) l26 (L.drop s) rfl (l26_own rfl) rfl ((HBy.out.drop s).below (below_alloc _ _)) (by rw [List.length_drop, hL1]; omega) (by simp only [lidB]; decide) (by simp) ?_; intro v5 w5 ho5 hB5; obtain ⟨A5, c5, rfl, hby5, hc5, hd5⟩ := own_some (n := 51) ho5 (by rw [List.length_append, List.length_drop, hL1]; show 26 + _ = _; omega); have hB5r : Below wr.heap.size wr w5 := hB4r.trans (((below_alloc w4 _).trans hB5).mono hB4r.size); have HBy5 := hide hby5; have HB5 := hide ((below_alloc w4 _).trans hB5); clear ho5 hB5 hby5)
        have HT5 := hide (Htab.out.below (HB.out.trans (hB5r.mono HB.out.size)))
        go_wp2_with (first
          | (go_at_call 22; (with_reducible refine (copy_own (n := s) ((HBy.out.below HB5.out).take s) (by rw [List.length_take, hL1]; omega) (Nat.le_trans hL2 (by decide))).mono ?_); rintro e6 w6 ⟨v6, rfl, ho6, hB6⟩; have O6 := hide ho6; have HB6 := hide hB6; clear ho6 hB6)
          | (at_builtin; refine wpList_own8b rfl _ _ rfl w5.heap.size v6 A5 51 c5 (L.take s) (l26 ++ L.drop s) rfl O6.out rfl (HBy5.out.below HB6.out) (by rw [List.length_append, List.length_drop, hL1]; show 26 + _ = _; omega) (by rw [List.length_take, hL1]; simp only [lidB]; omega) HB6.out.size ?_; intro v7 w7 ho7 hB7; obtain ⟨A7, c7, rfl, hby7, hc7, hd7⟩ := own_some (n := s + 51) ho7 (by rw [List.length_append, List.length_append, List.length_take, List.length_drop, hL1]; show _ + (26 + _) = _; omega); have hB7r : Below wr.heap.size wr w7 := hB5r.trans ((HB6.out.trans hB7).mono hB5r.size); have HBy7 := hide hby7; have HN7 : Hid ((L.take s ++ (l26 ++ L.drop s)).length = s + 51) := hide (by rw [List.length_append, List.length_append, List.length_take, List.length_drop, hL1]; show _ + (26 + _) = _; omega); have HT7 := hide (HT5.out.below (HB6.out.trans hB7)); clear ho7 hB7 hby7)
          | (go_at_call 21; (with_reducible refine (gets_any HBy7.out HN7.out hc7 hd7 (Nat.le_trans (m := 10051) (by omega) (by decide)) HT7.out).mono ?_); rintro e8 w8 ⟨rfl, hB8⟩; have hB8r : Below wr.heap.size wr w8 := hB7r.trans (hB8.mono hB7r.size); clear hB8)
          | (go_at_call 23; (with_reducible refine (node24_any (k := 23)).mono ?_); rintro e w9 ⟨rfl, hB9⟩; have hB9r : Below wr.heap.size wr w9 := hB8r.trans ((blw_up (below_alloc _ _) hB9).mono hB8r.size); have HQ := hide (nb_stay hB9 (heap_alloc_new w8 (.cells #[.int .u8 kk, .string t, .int .i64 nn, .slice KA ks.len cc] 55))); clear hB9))
        go_roundg (43 - (40 + 1))
        case measure => omega
        case rel =>
          refine ⟨41, by omega, by omega, rfl, by first | rfl | go_num, hide ?_, hide ?_⟩
          · exact ((((HB.out.trans (hB9r.mono HB.out.size)).setCell hDB _).setCell hDB _).setCell hDB _).setCell hDB _
          · exact deep_next he Hd.out hkk htt hnn hcc hcc2 Hf.out hB9r HQ.out (Nat.le_trans hB8r.size (Nat.le_refl _)) rfl
      · obtain ⟨kk, t, nn, ks, KA, cc, he, hd, hkk, htt, hnn, hcc, hcc2, hf⟩ := HD.out
        have hdl : DB < wr.heap.size := (Array.getElem?_eq_some_iff.1 hd).1
        have hdc : ∀ j v, (#[.int .u8 kk, .string t, .int .i64 nn, .slice KA ks.len cc] : Array Value)[j]? = some v → ∀ W, Below wr.heap.size wr W → W.cell? ⟨DB, j, none⟩ = some v := fun j v hj W hW => by rw [Lib.cell_of_heap (nb_stay hW hd)]; exact hj
        have d0 : ∀ W, Below wr.heap.size wr W → W.cell? ⟨DB, 0, none⟩ = some (.int .u8 kk) := hdc 0 _ rfl
        have d1 : ∀ W, Below wr.heap.size wr W → W.cell? ⟨DB, 1, none⟩ = some (.string t) := hdc 1 _ rfl
        have d2 : ∀ W, Below wr.heap.size wr W → W.cell? ⟨DB, 2, none⟩ = some (.int .i64 nn) := hdc 2 _ rfl
        have d3 : ∀ W, Below wr.heap.size wr W → W.cell? ⟨DB, 3, none⟩ = some (.slice KA ks.len cc) := hdc 3 _ rfl
        have hfz : ∀ j W, Below wr.heap.size wr W → W.frozen? ⟨DB, j, none⟩ = false := fun j W hW => frozen_of_row W DB j _ _ (nb_stay hW hd)
        have hr0 : Below wr.heap.size wr wr := Below.refl _ _
        have Hd := hide hd
        have Hf := hide hf
        clear hdc hd hf
        go_upto_region 27 with fail
        refine wp_name ?_
        intro WP hWP
        obtain ⟨NB, hNB⟩ : ∃ NB, NB = wr.heap.size := ⟨_, rfl⟩
        rw [← hNB] at hWP
        have hWP2 : WP = [Obj.cells #[.int .u8 kk, .string t, .int .i64 nn, .slice KA ks.len cc] 55, Obj.cells #[.int .u8 4, .string ⟨#[97]⟩, .string ⟨#[]⟩, .int .i64 0, .slice none 0 0, .slice none 0 0, .int .u8 2, .slice none 0 0, .int .i64 0, .int .i64 0, .string ⟨#[]⟩, .string ⟨#[]⟩, .slice none 0 0, .slice (some ⟨NB, 0, none⟩) 1 1] 32].foldl World.alloc wr := hWP
        have hBP : Below wr.heap.size wr WP := by rw [hWP2]; exact (nb_below _ _).1
        have q0 := nb_at [Obj.cells #[.int .u8 kk, .string t, .int .i64 nn, .slice KA ks.len cc] 55, Obj.cells #[.int .u8 4, .string ⟨#[97]⟩, .string ⟨#[]⟩, .int .i64 0, .slice none 0 0, .slice none 0 0, .int .u8 2, .slice none 0 0, .int .i64 0, .int .i64 0, .string ⟨#[]⟩, .string ⟨#[]⟩, .slice none 0 0, .slice (some ⟨NB, 0, none⟩) 1 1] 32] wr 0 _ rfl
        have q1 := nb_at [Obj.cells #[.int .u8 kk, .string t, .int .i64 nn, .slice KA ks.len cc] 55, Obj.cells #[.int .u8 4, .string ⟨#[97]⟩, .string ⟨#[]⟩, .int .i64 0, .slice none 0 0, .slice none 0 0, .int .u8 2, .slice none 0 0, .int .i64 0, .int .i64 0, .string ⟨#[]⟩, .string ⟨#[]⟩, .slice none 0 0, .slice (some ⟨NB, 0, none⟩) 1 1] 32] wr 1 _ rfl
        rw [← hWP2, ← hNB] at q0 q1
        rw [Nat.add_zero] at q0
        have HFo := hide ((deep_row he hkk htt hnn hcc hcc2 (Hf.out.mono (S' := AnyB) fun _ _ _ => trivial) hBP q0 trivial))
        have HBP := hide (HB.out.trans (hBP.mono HB.out.size))
        have HTP := hide (Htab.out.below HBP.out)
        clear hWP hWP2 q0
        rw [← hNB]
        have HNB := hide hNB
        clear hNB
        have p0 : ∀ W, Below WP.heap.size WP W → W.cell? ⟨NB + 1, 0, none⟩ = some (.int .u8 4) := fun W hW => by rw [Lib.cell_of_heap (nb_stay hW q1)]; rfl
        have p1 : ∀ W, Below WP.heap.size WP W → W.cell? ⟨NB + 1, 1, none⟩ = some (.string ⟨#[97]⟩) := fun W hW => by rw [Lib.cell_of_heap (nb_stay hW q1)]; rfl
        have p2 : ∀ W, Below WP.heap.size WP W → W.cell? ⟨NB + 1, 2, none⟩ = some (.string ⟨#[]⟩) := fun W hW => by rw [Lib.cell_of_heap (nb_stay hW q1)]; rfl
        have p3 : ∀ W, Below WP.heap.size WP W → W.cell? ⟨NB + 1, 3, none⟩ = some (.int .i64 0) := fun W hW => by rw [Lib.cell_of_heap (nb_stay hW q1)]; rfl
        have p4 : ∀ W, Below WP.heap.size WP W → W.cell? ⟨NB + 1, 4, none⟩ = some (.slice none 0 0) := fun W hW => by rw [Lib.cell_of_heap (nb_stay hW q1)]; rfl
        have p5 : ∀ W, Below WP.heap.size WP W → W.cell? ⟨NB + 1, 5, none⟩ = some (.slice none 0 0) := fun W hW => by rw [Lib.cell_of_heap (nb_stay hW q1)]; rfl
        have p6 : ∀ W, Below WP.heap.size WP W → W.cell? ⟨NB + 1, 6, none⟩ = some (.int .u8 2) := fun W hW => by rw [Lib.cell_of_heap (nb_stay hW q1)]; rfl
        have p7 : ∀ W, Below WP.heap.size WP W → W.cell? ⟨NB + 1, 7, none⟩ = some (.slice none 0 0) := fun W hW => by rw [Lib.cell_of_heap (nb_stay hW q1)]; rfl
        have p8 : ∀ W, Below WP.heap.size WP W → W.cell? ⟨NB + 1, 8, none⟩ = some (.int .i64 0) := fun W hW => by rw [Lib.cell_of_heap (nb_stay hW q1)]; rfl
        have p9 : ∀ W, Below WP.heap.size WP W → W.cell? ⟨NB + 1, 9, none⟩ = some (.int .i64 0) := fun W hW => by rw [Lib.cell_of_heap (nb_stay hW q1)]; rfl
        have p10 : ∀ W, Below WP.heap.size WP W → W.cell? ⟨NB + 1, 10, none⟩ = some (.string ⟨#[]⟩) := fun W hW => by rw [Lib.cell_of_heap (nb_stay hW q1)]; rfl
        have p11 : ∀ W, Below WP.heap.size WP W → W.cell? ⟨NB + 1, 11, none⟩ = some (.string ⟨#[]⟩) := fun W hW => by rw [Lib.cell_of_heap (nb_stay hW q1)]; rfl
        have p12 : ∀ W, Below WP.heap.size WP W → W.cell? ⟨NB + 1, 12, none⟩ = some (.slice none 0 0) := fun W hW => by rw [Lib.cell_of_heap (nb_stay hW q1)]; rfl
        have p13 : ∀ W, Below WP.heap.size WP W → W.cell? ⟨NB + 1, 13, none⟩ = some (.slice (some ⟨NB, 0, none⟩) 1 1) := fun W hW => by rw [Lib.cell_of_heap (nb_stay hW q1)]; rfl
        have hP0 : Below WP.heap.size WP WP := Below.refl _ _
        clear q1
        have hPut : Calls Tryz.prog 9 #[.agg #[.int .u8 4, .string ⟨#[97]⟩, .string ⟨#[]⟩, .int .i64 0, .slice none 0 0, .slice none 0 0, .int .u8 2, .slice none 0 0, .int .i64 0, .int .i64 0, .string ⟨#[]⟩, .string ⟨#[]⟩, .slice none 0 0, .slice (some ⟨NB, 0, none⟩) 1 1]] WP fun e w' => e = .returned (.tuple #[.slice none 0 0, .int .i64 4]) ∧ Below WP.heap.size WP w' := by
          refine (deep_put HFo.out (by omega) HTP.out).mono ?_
          rintro e w' ⟨hB, ⟨hno, _⟩ | ⟨_, h⟩⟩
          · omega
          · exact ⟨h, hB⟩
        have HPut := hide hPut
        clear hPut
        have g1 : decide ((40 : Int) < (n : Int)) = true := by simp; omega
        have g2 : decide ((n : Int) ≤ 40) = false := by simp; omega
        have g3 : ((n : Int) == 40) = false := by simp; omega
        go_upto_region 30 with (first
          | (go_at_call 9; (with_reducible refine HPut.out.mono ?_); rintro e2 w2 ⟨rfl, hB2⟩; have hB2r : Below wr.heap.size wr w2 := hBP.trans (hB2.mono hBP.size))
          | (go_at_call 3; (with_reducible refine (deep_puts (HFo.out.below hB2) (by omega) (HTP.out.below hB2)).mono ?_); rintro e3 w3 ⟨rfl, hB3⟩; have HB3 := hide hB3; have hB3r : Below wr.heap.size wr w3 := hB2r.trans (hB3.mono hB2r.size); clear hB3))
        clear p0 p1 p2 p3 p4 p5 p6 p7 p8 p9 p10 p11 p12 p13 hP0 HPut
        go_wp2_with (go_at_call 23; (with_reducible refine (node24_any (k := 23)).mono ?_); rintro e w9 ⟨rfl, hB9⟩; have hB9r : Below wr.heap.size wr w9 := hB3r.trans ((blw_up (below_alloc _ _) hB9).mono hB3r.size); have HQ := hide (nb_stay hB9 (heap_alloc_new w3 (.cells #[.int .u8 kk, .string t, .int .i64 nn, .slice KA ks.len cc] 55))); clear hB9)
        go_roundg (43 - (n + 1))
        case measure => omega
        case rel =>
          refine ⟨n + 1, by omega, by omega, rfl, by go_num, hide ?_, hide ?_⟩
          · exact ((((HB.out.trans (hB9r.mono HB.out.size)).setCell hDB _).setCell hDB _).setCell hDB _).setCell hDB _
          · rw [show n + 1 - 1 = n - 1 + 1 by omega]
            exact deep_next he Hd.out hkk htt hnn hcc hcc2 Hf.out hB9r HQ.out (Nat.le_trans hB3r.size (Nat.le_refl _)) rfl
    · have HT := hide (Htab.out.below HB.out)
      clear HD
      obtain ⟨i1, hi1, hz11, hz12, hz13⟩ := info_parts InfoU8B
      have HN17 : Hid (l17.length = 17) := hide (by rfl)
      go_wp2_with (first
        | (go_at_call 3; (with_reducible refine (zero_puts HT.out).mono ?_); rintro e2 w2 ⟨rfl, hB2⟩; have HB2 := hide hB2; clear hB2)
        | (go_at_call 3; (with_reducible refine (ab_puts (HT.out.below HB2.out)).mono ?_); rintro e3 w3 ⟨rfl, hB3⟩; have HB3 := hide (blw_up HB2.out hB3); clear hB3)
        | (go_at_call 21; (with_reducible refine (gets_nil (HT.out.below HB3.out)).mono ?_); rintro e4 w4 ⟨rfl, hB4⟩; have HB4 := hide (blw_up HB3.out hB4); clear hB4)
        | (at_make; refine wpList_unguard (by rfl) ?_; refine wpList_make_full w4 rfl _ _ 36 rfl w4.heap.size 5 i1 (.int .u8 0) 1 Tryz.underlying36 hi1 hz11 hz12 _ _ _ _ 17 rfl rfl rfl rfl (by rw [hz13]; omega) (by unfold maxLen; omega) (Nat.le_refl _) ?_; intro w5 hown hgrow; obtain ⟨hby5, hc5, hd5⟩ := own_this (own17 hown) (show l17.length = 17 by rfl); have HBy5 := hide hby5; have HB5 : Hid (Below wr.heap.size wr w5) := hide (HB4.out.trans (((Below.refl w4.heap.size w4).grown hgrow (Nat.le_refl _) (by simp)).mono HB4.out.size)); clear hown hgrow hby5)
        | (go_at_call 21; (with_reducible refine (gets_any HBy5.out HN17.out (Nat.le_refl _) hd5 (by decide) (HT.out.below HB5.out)).mono ?_); rintro e6 w6 ⟨rfl, hB6⟩; have HB6 := hide (blw_up HB5.out hB6); clear hB6)
        | (go_at_call 7; (with_reducible refine (awake_any (HT.out.below HB6.out)).mono ?_); rintro e7 w7 ⟨rfl, hB7⟩; have HB7 := hide (blw_up HB6.out hB7); clear hB7))
      go_ret
      exact ⟨rfl, blw_up HB.out HB7.out⟩

end Go.Proofs.YtfhfkbdaglegpaaGreatDoor
