/- script.Parse: a script's commands. Printed by gen_scrparsea.py. -/
import Derived.Test.YtjjaojnglnpgaaaGreatDoorLRows

set_option linter.unusedVariables false
set_option linter.unusedSimpArgs false

namespace Go.Proofs.YtjjaojnglnpgaaaGreatDoor
open Go.RowKit

set_option maxHeartbeats 16000000 in
set_option maxRecDepth 1000000 in
theorem script_any {w : World} {s : ByteArray} (hs63 : s.size ≤ 9223372036854775807) (hmx : MaxOkS w) (htab : TabOk w) (hrec : ∀ t ∈ wordsOf 10 s, ∀ r, wordsOf 32 t = kwRecord :: r → RestOk 106 restRecord) : Calls Tryz.prog 10 #[.string s] w (ScriptPost w s) := by
  by_cases hbig : 262144 < s.size
  · have hbi : (262144 : Int) < (s.size : Int) := by omega
    go_enter Tryz.func10, Tryz.ntmps10
    go_wp2_with fail
    refine bodyPost_ret (v := .tuple #[.slice none 0 0, .agg #[.int .i64 3, .int .i64 0]]) ?_ rfl ⟨below_alloc _ _, fun _ => rfl, fun h => absurd h (by omega)⟩
    simp [results, Tryz.results10, go_sem]
  have hs : s.size ≤ 262144 := by omega
  have hbi : ¬ (262144 : Int) < (s.size : Int) := by omega
  have hlen := wordsOf_max (c := 10) (s := s) (by omega)
  obtain ⟨n, hn⟩ : ∃ n, n = (wordsOf 10 s).length := ⟨_, rfl⟩
  have hn2 : n ≤ 262145 := by
    rw [hn, wordsOf_len]
    have := Lib.countB_le ⟨#[10]⟩ (Nat.le_refl 1) s.size s (Nat.le_refl _)
    omega
  clear hlen
  go_enter Tryz.func10, Tryz.ntmps10
  go_wp2_with (go_at_call 26; (with_reducible refine (split_any 10 (by omega) (hmx.below (below_alloc _ _))).mono ?_); rintro e1 w1 ⟨rfl, rfl⟩)
  clear hn2 hn
  have hws2 : (wordsOf 10 s).length ≤ 262145 := by
    rw [wordsOf_len]
    have := Lib.countB_le ⟨#[10]⟩ (Nat.le_refl 1) s.size s (Nat.le_refl _)
    omega
  have hall : ∀ x ∈ wordsOf 10 s, x.size ≤ 262144 := fun x hx => Nat.le_trans (wordsOf_le hx).1 hs
  obtain ⟨o1, ho1⟩ : ∃ o1, o1 = Obj.cells #[.int .i64 0, .int .i64 0] 26 := ⟨_, rfl⟩
  obtain ⟨o2, ho2⟩ : ∃ o2, o2 = Obj.cells ((wordsOf 10 s).map .string).toArray 9 := ⟨_, rfl⟩
  rw [← ho1, ← ho2]
  have hb1 := below_alloc w o1
  have hb2 := below_alloc (w.alloc o1) o2
  have z1 : (w.alloc o1).heap.size = w.heap.size + 1 := by simp
  have hz2 : ((w.alloc o1).alloc o2).heap.size = w.heap.size + 1 + 1 := by simp
  have hB2 : Below w.heap.size w ((w.alloc o1).alloc o2) := hb1.trans (hb2.mono (by omega))
  have hF : ((w.alloc o1).alloc o2).heap[w.heap.size]? = some o1 := (hb2.block _ (by omega)).trans (heap_alloc_new w o1)
  have hR : ((w.alloc o1).alloc o2).heap[w.heap.size + 1]? = some o2 := by have := heap_alloc_new (w.alloc o1) o2; rwa [z1] at this
  generalize (w.alloc o1).alloc o2 = W2 at hz2 hB2 hF hR ⊢
  clear hb1 hb2 z1
  subst ho1 ho2
  have hrd : Rd (fun b => b = w.heap.size + 1) W2 (some ⟨w.heap.size + 1, 0, none⟩) ((wordsOf 10 s).map .string) := .inr ⟨_, 0, rfl, rfl, fun j u hu => by rw [Nat.zero_add, Lib.cell_of_heap hR]; simpa using hu⟩
  have HF := hide hF
  have HRd := hide hrd
  have HB2 := hide hB2
  have hmx2 := hmx.below hB2
  have htab2 := htab.below hB2
  have Hmx := hide hmx2
  have Htab := hide htab2
  clear hF hR hrd hB2 hmx htab hmx2 htab2
  generalize hws : wordsOf 10 s = ws at hws2 hall HRd hrec ⊢
  have Hrec := hide hrec
  clear hrec
  have Hws := hide hws
  have Hall := hide hall
  clear hws hall
  go_loopg [4, 16] ws.length (fun g v i wr => ∃ (q m : Nat) (l : List CIt), q ≤ ws.length ∧ g = ws.length - q ∧ i = .int .i64 q ∧ m ≤ q ∧ Hid (m = l.length) ∧ Hid (RowC W2.heap.size wr v l) ∧ Hid (rowsOf 0 ws = before (l.map (·.c)) (rowsOf q (ws.drop q))) ∧ Hid (Below W2.heap.size W2 wr))
  case atStart => exact ⟨0, 0, [], by omega, by omega, rfl, by omega, hide rfl, hide (RowC.nil _ _), hide (by rw [List.map_nil, before_nil, List.drop_zero]), hide (Below.refl _ _)⟩
  case round =>
    obtain ⟨q, m, l, hq, hg, rfl, hm, Hm, HC, HP, HB⟩ := hrel
    have hzr := HB.out.size
    have hfr : wr.heap[w.heap.size]? = some (.cells #[.int .i64 0, .int .i64 0] 26) := (HB.out.block _ (by omega)).trans HF.out
    have fc0 : wr.cell? ⟨w.heap.size, 0, none⟩ = some (.int .i64 0) := by rw [Lib.cell_of_heap hfr]; rfl
    have fc1 : wr.cell? ⟨w.heap.size, 1, none⟩ = some (.int .i64 0) := by rw [Lib.cell_of_heap hfr]; rfl
    have ff0 : wr.frozen? ⟨w.heap.size, 0, none⟩ = false := by unfold World.frozen?; rw [hfr]; rfl
    have ff1 : wr.frozen? ⟨w.heap.size, 1, none⟩ = false := by unfold World.frozen?; rw [hfr]; rfl
    have hBw : Hid (Below w.heap.size w wr) := hide (HB2.out.trans (HB.out.mono (by omega)))
    clear hfr
    by_cases hlt : q < ws.length
    · have hcw : wr.cell? ⟨w.heap.size + 1, q, none⟩ = some (.string ws[q]) := by
        obtain ⟨b, o, e, hc⟩ := HRd.out.at_ (j := q) (by simpa using hlt)
        injection e with e
        injection e with e1 e2
        subst e1 e2
        rw [Nat.zero_add] at hc
        rw [HB.out.cell (p := ⟨w.heap.size + 1, q, none⟩) (by show w.heap.size + 1 < _; omega), hc]
        simp
      have htm : ws[q] ∈ ws := List.getElem_mem hlt
      have hdr : ws.drop q = ws[q] :: ws.drop (q + 1) := List.drop_eq_getElem_cons hlt
      rw [hdr] at HP
      generalize ws[q] = t at hcw htm HP
      have HP1 : Hid (rowsOf 0 ws = before (l.map (·.c)) (rowsOf q (t :: ws.drop (q + 1)))) := HP
      have htz := Hall.out t htm
      by_cases h0 : t.size = 0
      · have ht0 : t = ⟨#[]⟩ := by
          apply ByteArray.ext
          exact Array.eq_empty_of_size_eq_zero h0
        have HP2 : Hid (rowsOf 0 ws = before (l.map (·.c)) (rowsOf (q + 1) (ws.drop (q + 1)))) := hide (by rw [HP1.out, rowsOf_skip h0])
        subst ht0
        go_wp2_with fail
        go_roundg (ws.length - (q + 1))
        case measure => omega
        case rel => exact ⟨q + 1, m, l, by omega, rfl, by go_num, by omega, Hm, HC, HP2, HB⟩
      · have hne : t.toList.isEmpty = false := by rw [Bool.eq_false_iff, ne_eq, List.isEmpty_iff, size_nil]; omega
        have HPa : Hid (Calls Tryz.prog 34 #[.string t] wr (ParsePost wr t)) := hide (parse_any (by omega) (Hmx.out.below HB.out) (Htab.out.below HB.out) (Hrec.out t htm))
        rcases hl : lineOf (wordsOf 32 t) with _ | c
        · have HX : Hid (rowsOf 0 ws = .error (q + 1)) := hide (by rw [HP1.out, rowsOf_none h0 hl]; rfl)
          have Hl := hide hl
          clear hl
          go_wp2_with (first
            | (go_at_call 34; (with_reducible refine HPa.out.mono ?_); rintro e1 w1 ⟨hB1, hn1, _⟩; have he1 := hn1 Hl.out; subst he1; have gl0 : w.heap.size < w1.heap.size := Nat.lt_of_lt_of_le (by omega) hB1.size; have HB1 := hide hB1; clear hB1 hn1)
            | (refine wpList_store_mid rfl _ _ _ rfl w1.heap.size 0 zeroL.toArray rfl rfl (new_there w1 zeroL _) info20 zero_one ?_; obtain ⟨V, hV, hV1, hV2, hV3⟩ := new_store w1 46 zeroL (zeroL) rfl; rw [← hV]; have gc0 := (hV2.cell (p := ⟨w.heap.size, 0, none⟩) gl0).trans ((HB1.out.cell (p := ⟨w.heap.size, 0, none⟩) (by show w.heap.size < _; omega)).trans fc0); have gc1 := (hV2.cell (p := ⟨w.heap.size, 1, none⟩) gl0).trans ((HB1.out.cell (p := ⟨w.heap.size, 1, none⟩) (by show w.heap.size < _; omega)).trans fc1); have gf0 := (hV2.frozen (p := ⟨w.heap.size, 0, none⟩) gl0).trans ((HB1.out.frozen (p := ⟨w.heap.size, 0, none⟩) (by show w.heap.size < _; omega)).trans ff0); have gf1 := (hV2.frozen (p := ⟨w.heap.size, 1, none⟩) gl0).trans ((HB1.out.frozen (p := ⟨w.heap.size, 1, none⟩) (by show w.heap.size < _; omega)).trans ff1); have HV1 := hide hV1; have HV2 := hide hV2; have HV3 := hide hV3; clear hV hV1 hV2 hV3))
          refine bodyPost_ret (v := .tuple #[.slice none 0 0, .agg #[.int .i64 210, .int .i64 ((q : Int) + 1)]]) ?_ rfl ?_
          · obtain ⟨r0, r1⟩ := set_two (u := .int .i64 210) (v := .int .i64 ((q : Int) + 1)) gc0 gc1
            simp [results, Tryz.results10, go_sem, r0, r1]
          have hb4 : Below w.heap.size w V := (hBw.out.trans (HB1.out.mono (by omega))).trans (HV2.out.mono (by omega))
          refine ⟨(hb4.setCell (p := ⟨w.heap.size, 0, none⟩) (Nat.le_refl _) _).setCell (p := ⟨w.heap.size, 1, none⟩) (Nat.le_refl _) _, fun h => absurd h (by omega), fun _ => ⟨fun i hi => ?_, fun cs hcs => ?_⟩⟩
          · rw [Hws.out, HX.out] at hi
            injection hi with hi
            subst hi
            rfl
          · rw [Hws.out, HX.out] at hcs
            cases hcs
        · have HX : Hid (rowsOf 0 ws = before ((l.map (·.c)) ++ [c]) (rowsOf (q + 1) (ws.drop (q + 1)))) := hide (by rw [HP1.out, rowsOf_some h0 hl, before_before])
          have Hl := hide hl
          have HOm : Hid (wr.ownsRow W2.heap.size 46 20 _ m (l.flatMap CIt.cells)) := hide (by rw [Hm.out]; exact HC.out.1)
          clear hl
          go_wp2_with (first
            | (go_at_call 34; (with_reducible refine HPa.out.mono ?_); rintro e1 w1 ⟨hB1, _, hy1⟩; obtain ⟨x, A, k, he1, hC1⟩ := hy1 c Hl.out; subst he1; have gl0 : w.heap.size < w1.heap.size := Nat.lt_of_lt_of_le (by omega) hB1.size; have HB1 := hide hB1; have HC1 := hide hC1; clear hB1 hy1 hC1)
            | (refine wpList_store_mid rfl _ _ _ rfl w1.heap.size 0 (cmdVs c x A k).toArray rfl rfl (new_there w1 zeroL _) info20 (cmd_one c x A k) ?_; obtain ⟨V, hV, hV1, hV2, hV3⟩ := new_store w1 46 zeroL (cmdVs c x A k) rfl; rw [← hV]; have gc0 := (hV2.cell (p := ⟨w.heap.size, 0, none⟩) gl0).trans ((HB1.out.cell (p := ⟨w.heap.size, 0, none⟩) (by show w.heap.size < _; omega)).trans fc0); have gc1 := (hV2.cell (p := ⟨w.heap.size, 1, none⟩) gl0).trans ((HB1.out.cell (p := ⟨w.heap.size, 1, none⟩) (by show w.heap.size < _; omega)).trans fc1); have gf0 := (hV2.frozen (p := ⟨w.heap.size, 0, none⟩) gl0).trans ((HB1.out.frozen (p := ⟨w.heap.size, 0, none⟩) (by show w.heap.size < _; omega)).trans ff0); have gf1 := (hV2.frozen (p := ⟨w.heap.size, 1, none⟩) gl0).trans ((HB1.out.frozen (p := ⟨w.heap.size, 1, none⟩) (by show w.heap.size < _; omega)).trans ff1); have HV1 := hide hV1; have HV2 := hide hV2; have HV3 := hide hV3; clear hV hV1 hV2 hV3)
            | (refine wpList_load_mid rfl _ _ rfl w1.heap.size 0 rfl (cmdVs c x A k) _ HV1.out Tryz.underlying46 rfl info20 ?_)
            | (at_builtin; refine wpList_row rfl _ _ 23 rfl W2.heap.size 46 Tryz.underlying23 InfoCmd rfl (by decide) _ m (l.flatMap CIt.cells) rfl (own_upto HOm.out (fun b hb => ((HB1.out.trans (HV2.out.mono HB1.out.size)).trans ((below_alloc V _).mono (by have := HV3.out; have := HB1.out.size; omega))).block b (own_blocks HOm.out b hb).2)) (some ⟨V.heap.size, 0, none⟩) 1 1 (cmdVs c x A k) rfl (by simp) rfl (fun ad e => by injection e with e; subst e; intro j u hu; rw [Addr.add_lit, Nat.zero_add, Lib.cell_of_heap (heap_alloc_new V _)]; simpa using hu) (cmd_ones c x A k) (by unfold maxLen; omega) (by omega) (by have := HV3.out; have := HB1.out.size; have := HB.out.size; simp; omega) ?_; intro v1 w4 h4 hg4 hw4; have H4 := hide h4; have HG4 := hide hg4; have HW4 := hide hw4; clear h4 hg4 hw4))
          have hz1 := HB1.out.size
          have hz3 := HV3.out
          obtain ⟨hin, L1, hO, hnd, hge⟩ := HC1.out
          have hBV : Below w1.heap.size w1 (V.alloc (.cells (cmdVs c x A k).toArray 46)) := HV2.out.trans ((below_alloc V _).mono (by omega))
          have hok : CIt.ok (V.alloc (.cells (cmdVs c x A k).toArray 46)) ⟨c, x, A, k⟩ L1 := CIt.ok.keep (w := w1) ⟨hO, hO.inn hin⟩ fun b hb => hBV.block b (hO.lt b hb)
          have hBA : Below wr.heap.size wr (V.alloc (.cells (cmdVs c x A k).toArray 46)) := HB1.out.trans (hBV.mono hz1)
          have hown : w4.ownsRow W2.heap.size 46 20 v1 (l.length + 1) (l.flatMap CIt.cells ++ CIt.cells ⟨c, x, A, k⟩) := by rw [← Hm.out]; exact H4.out
          have hW : Went (V.alloc (.cells (cmdVs c x A k).toArray 46)) w4 u4 v1 l.length 1 := by rw [← Hm.out]; exact HW4.out
          have HCN := hide (HC.out.next hBA HB.out.size hok hnd hge hown HG4.out hW)
          have HBN : Hid (Below W2.heap.size W2 w4) := hide ((HB.out.trans (hBA.mono HB.out.size)).grown HG4.out (by have := hBA.size; omega) fun j hj => (own_blocks HC.out.1 j (mem_ob.2 hj)).1)
          clear hin hO hnd hge hok hBA hown hW hBV
          go_roundg (ws.length - (q + 1))
          case measure => omega
          case rel => exact ⟨q + 1, m + 1, l ++ [⟨c, x, A, k⟩], by omega, rfl, by go_num, by omega, hide (by simp [Hm.out]), HCN, hide (by rw [HX.out, List.map_append]; rfl), HBN⟩
    · have hq2 : q = ws.length := by omega
      have hX : rowsOf 0 ws = .ok (l.map (·.c)) := by
        rw [HP.out, hq2, List.drop_length]
        simp [rowsOf, before]
      have HX := hide hX
      clear hX
      obtain ⟨r0, r1⟩ := set_two (u := .int .i64 0) (v := .int .i64 0) fc0 fc1
      go_wp2_with fail
      refine bodyPost_ret (v := .tuple #[u4, .agg #[.int .i64 0, .int .i64 0]]) ?_ rfl ?_
      · simp [results, Tryz.results10, go_sem, r0, r1]
      refine ⟨(hBw.out.setCell (p := ⟨w.heap.size, 0, none⟩) (Nat.le_refl _) _).setCell (p := ⟨w.heap.size, 1, none⟩) (Nat.le_refl _) _, fun h => absurd h (by omega), fun _ => ⟨fun i hi => ?_, fun cs hcs => ?_⟩⟩
      · rw [Hws.out, HX.out] at hi
        cases hi
      · rw [Hws.out, HX.out] at hcs
        injection hcs with hcs
        refine ⟨l, u4, hcs, rfl, ((HC.out.keep fun b hb => ?_).mono (by omega))⟩
        rw [Below.heap_setCell _ _ _ _ (by show b ≠ w.heap.size; omega), Below.heap_setCell _ _ _ _ (by show b ≠ w.heap.size; omega)]

end Go.Proofs.YtjjaojnglnpgaaaGreatDoor
