/- words.bytes: a word of bytes, read. -/
import Derived.BigQuiet
import Derived.Test.YtjjaojnglnpgaaaGreatDoorLCmd
import Derived.Test.YtjjaojnglnpgaaaGreatDoorLKit

set_option linter.unusedVariables false
set_option linter.unusedSimpArgs false

namespace Go.Proofs.YtjjaojnglnpgaaaGreatDoor
open Go.RowKit

theorem WdIn.below {D : Nat → Prop} {N : Nat} {w w' : World} {l : List ByteArray} (h : WdIn D N w l) (hb : Below w.heap.size w w') : WdIn D N w' l := by
  obtain ⟨A, c, h1, h2, h3⟩ := h.at_
  have hN := block_lt_of_cell h1
  exact ⟨⟨A, c, (hb.cell (p := ⟨N, 0, none⟩) hN).trans h1, h2.below hb, h3⟩, (hb.frozen (p := ⟨N, 0, none⟩) hN).trans h.free, h.off⟩
set_option maxHeartbeats 4000000 in
set_option maxRecDepth 1000000 in
theorem wbytes_none {D : Nat → Prop} {N : Nat} {w : World} {s : ByteArray} {r : List ByteArray} (h : WdIn D N w (s :: r)) (hs : s = ⟨#[45]⟩) :
    Calls Tryz.prog 170 #[.pointer (some ⟨N, 0, none⟩)] w fun e w' => e = .returned (.slice none 0 0) ∧ WdIn D N w' r ∧ ∃ v, w' = w.setCell ⟨N, 0, none⟩ v := by
  subst hs
  have H := hide h
  clear h
  go_enter Tryz.func170, Tryz.ntmps170
  go_wp2_with (go_at_call 76; (with_reducible refine (wtake_cons H.out).mono ?_); rintro e1 w1 ⟨rfl, h1, hv⟩; have H1 := hide h1; have Hv := hide hv; clear h1 hv)
  go_ret
  exact ⟨rfl, H1.out, Hv.out⟩
theorem InfoU8W : (Tryz.prog.info? 5).map (fun i => (i.zero, i.size, i.bytes)) = some (some (.int .u8 0), 1, 1) := by kernel_rfl
theorem or_digits : ∀ x, x < 16 → ∀ y, y < 16 → bits BinOp.or IntKind.i64 (((x : Nat) : Int) * 16) ((y : Nat) : Int) = ((16 * x + y : Nat) : Int) := by decide
theorem hexT_at : ∀ {b : List UInt8} {q : Nat} (h : q < b.length), (hexT b)[2 * q]? = some (hexD (b[q].toNat / 16)) ∧ (hexT b)[2 * q + 1]? = some (hexD (b[q].toNat % 16))
  | c :: b, 0, _ => by simp [hexT]
  | c :: b, q + 1, h => by
    have := hexT_at (b := b) (q := q) (by simpa using h)
    simp only [hexT, List.flatMap_cons, List.cons_append, List.nil_append, show 2 * (q + 1) = 2 * q + 1 + 1 by omega, List.getElem?_cons_succ, List.getElem_cons_succ] at this ⊢
    exact this
theorem hexT_at1 {s : ByteArray} {b : List UInt8} {q k : Nat} (hs : s.data.toList = hexT b) (h : q < b.length) (hk : k < s.size) (e : k = 2 * q) : s[k] = hexD (b[q].toNat / 16) := by
  have h1 := (hexT_at h).1
  rw [← hs, ← e, Array.getElem?_toList] at h1
  exact (Array.getElem?_eq_some_iff.1 h1).2
theorem hexT_at2 {s : ByteArray} {b : List UInt8} {q k : Nat} (hs : s.data.toList = hexT b) (h : q < b.length) (hk : k < s.size) (e : k = 2 * q + 1) : s[k] = hexD (b[q].toNat % 16) := by
  have h1 := (hexT_at h).2
  rw [← hs, ← e, Array.getElem?_toList] at h1
  exact (Array.getElem?_eq_some_iff.1 h1).2
set_option maxHeartbeats 4000000 in
set_option maxRecDepth 1000000 in
theorem wbytes_yes {D : Nat → Prop} {N : Nat} {w : World} {s : ByteArray} {r : List ByteArray} {b : List UInt8} (h : WdIn D N w (s :: r)) (hs : s.data.toList = hexT b) (hb : b ≠ []) (hl : b.length ≤ 1099511627776) :
    Calls Tryz.prog 170 #[.pointer (some ⟨N, 0, none⟩)] w fun e w' => ∃ v, e = .returned v ∧ w'.ownsRow w.heap.size 5 1 v b.length (Lib.byteCells b) ∧ WdIn D N w' r ∧ ∃ u, Below w.heap.size (w.setCell ⟨N, 0, none⟩ u) w' := by
  have H := hide h
  have hsz : s.size = 2 * b.length := by
    have := congrArg List.length hs
    rw [hexT_len] at this
    simpa using this
  have hb0 : 0 < b.length := List.length_pos_iff.2 hb
  have hne : s.toList.isEmpty = false := by rw [Bool.eq_false_iff, ne_eq, List.isEmpty_iff, size_nil]; omega
  have h45 : (s.toList == [45]) = false := by
    rw [beq_eq_false_iff_ne]
    intro e
    have e2 : s = ⟨#[45]⟩ := tl_eq.1 (by rw [e]; decide +kernel)
    rw [e2] at hsz
    have : (⟨#[45]⟩ : ByteArray).size = 1 := rfl
    omega
  have hrem : ((s.size : Int).tmod 2 == 0) = true := by rw [hsz, beq_iff_eq]; push_cast; rw [Int.tmod_eq_emod_of_nonneg (by omega)]; omega
  clear h
  go_enter Tryz.func170, Tryz.ntmps170
  go_wp2_with (first
    | (go_at_call 76; (with_reducible refine (wtake_cons H.out).mono ?_); rintro e1 w1 ⟨rfl, h1, u, hu⟩; have H1 := hide h1; have HU := hide hu; clear h1 hu)
    | (go_at_call 78; (with_reducible refine (smust_yes (by first | rfl | (simp; omega) | simp_all) _).mono ?_); rintro e2 w2 ⟨rfl, rfl⟩))
  have hs1 : w2.heap.size = w.heap.size := by rw [HU.out]; simp
  have Hs1 := hide hs1
  have Hsz := hide hsz
  clear hs1 hsz
  go_loopg [5, 4] b.length (fun g i v wr => ∃ q k : Nat, q ≤ b.length ∧ g = b.length - q ∧ Hid (k = 2 * q) ∧ i = .int .i64 (k : Int) ∧ Hid (wr.ownsRow w.heap.size 5 1 v q (Lib.byteCells (b.take q))) ∧ Hid (Below w2.heap.size w2 wr))
  case atStart => exact ⟨0, 0, by omega, by omega, hide rfl, rfl, hide (World.ownsRow_nil _ _ _ _), hide (Below.refl _ _)⟩
  case round =>
    obtain ⟨q, k, hq, hg, Hk, rfl, HO, HB⟩ := hrel
    by_cases hlt : q < b.length
    · have hk1 : k + 1 < s.size := by have := Hk.out; have := Hsz.out; omega
      have hk0 : k < s.size := by omega
      have hki : (k : Int) < (s.size : Int) := by omega
      have hk9 : (k : Int) + 1 ≤ 9223372036854775807 := by have := Hk.out; omega
      have hk9n : k + 1 ≤ 9223372036854775807 := by omega
      obtain ⟨m, hm⟩ : ∃ m, m = k + 1 := ⟨_, rfl⟩
      have hwk : IntKind.i64.wrap ((k : Int) + 1) = (m : Int) := by rw [IntKind.wrap_i64]; omega
      have hki1 : (m : Int) < (s.size : Int) := by omega
      have hki2 : m < s.size := by omega
      have Hm := hide hm
      clear hm
      have HX : ∀ (c : UInt8) (W : World), Calls Tryz.prog 213 #[.string ⟨#[48, 49, 50, 51, 52, 53, 54, 55, 56, 57, 97, 98, 99, 100, 101, 102]⟩, .int .u8 (c.toNat : Int)] W fun e w' => e = .returned (.int .i64 (if digV c < 16 then (digV c : Int) else -1)) ∧ w' = W := fun c W => by
        have h := Tryz.strings_IndexByte signs (c.toNat : Int) W
        rw [show ((c.toNat : Int).toNat.toUInt8) = c by simp, idx_digV] at h
        exact h
      go_wp2_with fail
      go_quiet ((go_at_call 213; (with_reducible refine (HX _ _).mono ?_); rintro e2 w2 ⟨rfl, rfl⟩; exact ⟨rfl, _, rfl⟩))
      have hx4 := (b[q]).toNat_lt
      have hdk : digV s[k] = b[q].toNat / 16 := by
        rw [hexT_at1 hs hlt hk0 Hk.out]
        exact digV_hexD _ (by omega)
      have hdm : digV s[m] = b[q].toNat % 16 := by
        rw [hexT_at2 hs hlt hki2 (by rw [Hm.out, Hk.out])]
        exact digV_hexD _ (by omega)
      rw [hdk, hdm, if_pos (by omega), if_pos (by omega)]
      clear hdk hdm HX
      obtain ⟨X, hX⟩ : ∃ X, X = b[q].toNat / 16 := ⟨_, rfl⟩
      obtain ⟨Y, hY⟩ : ∃ Y, Y = b[q].toNat % 16 := ⟨_, rfl⟩
      rw [← hX, ← hY]
      have hX16 : X < 16 := by omega
      have hY16 : Y < 16 := by omega
      have hX0 : (0 : Int) ≤ (X : Int) := by omega
      have hY0 : (0 : Int) ≤ (Y : Int) := by omega
      obtain ⟨z, hz⟩ : ∃ z, z = b[q].toNat := ⟨_, rfl⟩
      have hor : bits BinOp.or IntKind.i64 ((X : Int) * 16) (Y : Int) = (z : Int) := by
        rw [or_digits X hX16 Y hY16]
        omega
      have hz256 : (z : Int) % 256 = (z : Int) := by omega
      have Hz := hide hz
      clear hX hY hx4 hz
      have hbl : (Lib.byteCells (b.take q)).length = q * 1 := by simp [Lib.byteCells]; omega
      have HO1 : Hid ((wr.drewN nq).ownsRow w.heap.size 5 1 u4 q (Lib.byteCells (b.take q))) := HO
      have HB1 : Hid (Below w2.heap.size w2 (wr.drewN nq)) := hide (blw_drewN HB.out _)
      generalize wr.drewN nq = wq at HO1 HB1 ⊢
      obtain ⟨Av, cv, rfl⟩ := own_shape HO1.out
      go_wp2_with (first
        | (go_at_call 78; (with_reducible refine (smust_yes rfl _).mono ?_); rintro e3 w3 ⟨rfl, rfl⟩)
        | (at_builtin; refine wpList_row rfl _ _ 44 rfl w.heap.size 5 Tryz.underlying44 InfoU8W rfl (by decide) _ q (Lib.byteCells (b.take q)) rfl (HO1.out.alloc _) (some ⟨w3.heap.size, 0, none⟩) 1 1 [.int .u8 (z : Int)] rfl (by simp) rfl (fun ad e => by injection e with e; subst e; intro j u hu; rw [Addr.add_lit, Nat.zero_add, Lib.cell_of_heap (heap_alloc_new w3 _)]; simpa using hu) (by intro u hu; simp at hu; subst hu; rfl) (by unfold maxLen; omega) (by omega) (by have := HB1.out.size; have := Hs1.out; simp; omega) ?_))
      intro v1 w4 h4 hg4 hw4
      have HB4 : Hid (Below w2.heap.size w2 w4) := hide ((HB1.out.alloc HB1.out.size _).grown hg4 (by have := HB1.out.size; simp; omega) fun j hj => by have := (HO1.out.lt j hj).1; have := Hs1.out; omega)
      have H4 := hide h4
      clear h4 hg4 hw4
      go_wp2_with fail
      go_roundg (b.length - (q + 1))
      case measure => omega
      case rel =>
        refine ⟨q + 1, k + 2, by omega, rfl, hide (by have := Hk.out; omega), by rw [show wrap64 ((k : Int) + 2) = (k : Int) + 2 by have := Hk.out; unfold wrap64; omega]; simp, hide ?_, HB4⟩
        have h := H4.out
        rw [List.take_succ_eq_append_getElem hlt]
        have e1 : Lib.byteCells (b.take q ++ [b[q]]) = Lib.byteCells (b.take q) ++ [.int .u8 (z : Int)] := by rw [Hz.out]; unfold Lib.byteCells; rw [List.map_append]; rfl
        rw [e1]
        exact h
    · have hki : ¬ (k : Int) < (s.size : Int) := by have := Hk.out; have := Hsz.out; omega
      have hki0 : ¬ k < s.size := by omega
      have hql : q = b.length := by omega
      subst hql
      go_wp2_with fail
      go_ret
      exact ⟨_, rfl, by have := HO.out; rwa [List.take_length] at this, H1.out.below HB.out, u, by rw [← HU.out, ← Hs1.out]; exact HB.out⟩

end Go.Proofs.YtjjaojnglnpgaaaGreatDoor

namespace Go.Proofs.YtjjaojnglnpgaaaGreatDoor
open Go.RowKit

theorem even_rem {n : Nat} (h : n % 2 = 0) : ((n : Int).tmod 2 == 0) = true := by rw [beq_iff_eq, Int.tmod_eq_emod_of_nonneg (by omega)]; omega
theorem odd_rem {n : Nat} (h : ¬ n % 2 = 0) : ((n : Int).tmod 2 == 0) = false := by rw [beq_eq_false_iff_ne, ne_eq, Int.tmod_eq_emod_of_nonneg (by omega)]; omega
theorem unhex_step {s : ByteArray} {k : Nat} (h : unhexT (s.data.toList.drop k) = none) (h0 : k < s.size) (h1 : k + 1 < s.size) : ¬ (digV s[k] < 16 ∧ digV (s[k + 1]) < 16) ∨ unhexT (s.data.toList.drop (k + 2)) = none := by
  have e0 : s.data.toList.drop k = s[k] :: s[k + 1] :: s.data.toList.drop (k + 2) := by
    have l0 : k < s.data.toList.length := by simpa using h0
    have l1 : k + 1 < s.data.toList.length := by simpa using h1
    rw [List.drop_eq_getElem_cons l0, List.drop_eq_getElem_cons l1]
    rfl
  rw [e0, unhexT] at h
  split at h
  · exact .inr (by simpa using h)
  · rename_i hd
    exact .inl hd
set_option maxHeartbeats 4000000 in
set_option maxRecDepth 1000000 in
theorem wbytes_empty {D : Nat → Prop} {N : Nat} {w : World} {s : ByteArray} {r : List ByteArray} (h : WdIn D N w (s :: r)) (hs : s.size = 0) :
    Calls Tryz.prog 170 #[.pointer (some ⟨N, 0, none⟩)] w fun e w' => e = nones ∧ ∃ u, w' = w.setCell ⟨N, 0, none⟩ u := by
  have hse : s = ⟨#[]⟩ := by
    apply ByteArray.ext
    exact Array.eq_empty_of_size_eq_zero hs
  subst hse
  have H := hide h
  clear h hs
  go_enter Tryz.func170, Tryz.ntmps170
  go_wp2_with (first
    | (go_at_call 76; (with_reducible refine (wtake_cons H.out).mono ?_); rintro e1 w1 ⟨rfl, h1, u, hu⟩; have HU := hide hu; clear h1 hu)
    | (go_at_call 78; (with_reducible refine (smust_no rfl _).mono ?_); rintro e2 w2 ⟨rfl, rfl⟩))
  exact ⟨rfl, rfl, _, HU.out⟩
set_option maxHeartbeats 4000000 in
set_option maxRecDepth 1000000 in
theorem wbytes_odd {D : Nat → Prop} {N : Nat} {w : World} {s : ByteArray} {r : List ByteArray} (h : WdIn D N w (s :: r)) (h45 : (s.toList == [45]) = false) (h0 : 0 < s.size) (hs : ¬ s.size % 2 = 0) :
    Calls Tryz.prog 170 #[.pointer (some ⟨N, 0, none⟩)] w fun e w' => e = nones ∧ ∃ u, w' = w.setCell ⟨N, 0, none⟩ u := by
  have hne : s.toList.isEmpty = false := by rw [Bool.eq_false_iff, ne_eq, List.isEmpty_iff, size_nil]; omega
  have hrem := odd_rem hs
  have Hs := hide hs
  have H := hide h
  clear h hs
  go_enter Tryz.func170, Tryz.ntmps170
  go_wp2_with (first
    | (go_at_call 76; (with_reducible refine (wtake_cons H.out).mono ?_); rintro e1 w1 ⟨rfl, h1, u, hu⟩; have HU := hide hu; clear h1 hu)
    | (go_at_call 78; (with_reducible refine (smust_no (by have := Hs.out; first | rfl | (simp; omega) | simp_all) _).mono ?_); rintro e2 w2 ⟨rfl, rfl⟩))
  exact ⟨rfl, rfl, _, HU.out⟩

set_option maxHeartbeats 4000000 in
set_option maxRecDepth 1000000 in
theorem wbytes_no {D : Nat → Prop} {N : Nat} {w : World} {s : ByteArray} {r : List ByteArray} (h : WdIn D N w (s :: r)) (h45 : (s.toList == [45]) = false) (hs0 : 0 < s.size) (hev : s.size % 2 = 0) (hun : unhexT s.data.toList = none) (hl : s.size ≤ 1099511627776) :
    Calls Tryz.prog 170 #[.pointer (some ⟨N, 0, none⟩)] w fun e w' => e = nones ∧ ∃ u, Below w.heap.size (w.setCell ⟨N, 0, none⟩ u) w' := by
  have H := hide h
  have hne : s.toList.isEmpty = false := by rw [Bool.eq_false_iff, ne_eq, List.isEmpty_iff, size_nil]; omega
  have hrem := even_rem hev
  have Hev := hide hev
  have Hun := hide hun
  clear h hev hun
  go_enter Tryz.func170, Tryz.ntmps170
  go_wp2_with (first
    | (go_at_call 76; (with_reducible refine (wtake_cons H.out).mono ?_); rintro e1 w1 ⟨rfl, h1, u, hu⟩; have H1 := hide h1; have HU := hide hu; clear h1 hu)
    | (go_at_call 78; (with_reducible refine (smust_yes (by have := Hev.out; first | rfl | (simp; omega) | simp_all) _).mono ?_); rintro e2 w2 ⟨rfl, rfl⟩))
  have hs1 : w2.heap.size = w.heap.size := by rw [HU.out]; simp
  have Hs1 := hide hs1
  clear hs1
  go_loopg [5, 4] s.size (fun g i v wr => ∃ q k : Nat, k ≤ s.size ∧ g = s.size - k ∧ Hid (k = 2 * q) ∧ i = .int .i64 (k : Int) ∧ Hid (∃ l : List UInt8, l.length = q ∧ wr.ownsRow w.heap.size 5 1 v q (Lib.byteCells l)) ∧ Hid (unhexT (s.data.toList.drop k) = none) ∧ Hid (Below w2.heap.size w2 wr))
  case atStart => exact ⟨0, 0, by omega, by omega, hide rfl, rfl, hide ⟨[], rfl, World.ownsRow_nil _ _ _ _⟩, hide Hun.out, hide (Below.refl _ _)⟩
  case round =>
    obtain ⟨q, k, hq, hg, Hk, rfl, HO, HN, HB⟩ := hrel
    by_cases hlt : k < s.size
    · have hk1 : k + 1 < s.size := by have := Hk.out; have := Hev.out; omega
      have hst := unhex_step HN.out hlt hk1
      obtain ⟨m, hm⟩ : ∃ m, m = k + 1 := ⟨_, rfl⟩
      have hki : (k : Int) < (s.size : Int) := by omega
      have hwk : IntKind.i64.wrap ((k : Int) + 1) = (m : Int) := by rw [IntKind.wrap_i64]; omega
      have hki1 : (m : Int) < (s.size : Int) := by omega
      have hki2 : m < s.size := by omega
      have hst2 : ¬ (digV s[k] < 16 ∧ digV s[m] < 16) ∨ unhexT (s.data.toList.drop (k + 2)) = none := by subst hm; exact hst
      have Hst := hide hst2
      clear hm hst hst2 hk1
      have HX : ∀ (c : UInt8) (W : World), Calls Tryz.prog 213 #[.string ⟨#[48, 49, 50, 51, 52, 53, 54, 55, 56, 57, 97, 98, 99, 100, 101, 102]⟩, .int .u8 (c.toNat : Int)] W fun e w' => e = .returned (.int .i64 (if digV c < 16 then (digV c : Int) else -1)) ∧ w' = W := fun c W => by
        have h := Tryz.strings_IndexByte signs (c.toNat : Int) W
        rw [show ((c.toNat : Int).toNat.toUInt8) = c by simp, idx_digV] at h
        exact h
      go_wp2_with fail
      go_quiet ((go_at_call 213; (with_reducible refine (HX _ _).mono ?_); rintro e2 w2 ⟨rfl, rfl⟩; exact ⟨rfl, _, rfl⟩))
      clear HX
      have HO1 : Hid (∃ l : List UInt8, l.length = q ∧ (wr.drewN nq).ownsRow w.heap.size 5 1 u4 q (Lib.byteCells l)) := HO
      have HB1 : Hid (Below w2.heap.size w2 (wr.drewN nq)) := hide (blw_drewN HB.out _)
      generalize wr.drewN nq = wq at HO1 HB1 ⊢
      obtain ⟨l, hll, hO1⟩ := HO1.out
      obtain ⟨Av, cv, rfl⟩ := own_shape hO1
      have HO2 := hide hO1
      clear HO1 hO1
      generalize hX : digV s[k] = X at Hst ⊢
      generalize hY : digV s[m] = Y at Hst ⊢
      clear hX hY
      by_cases hX16 : X < 16
      · by_cases hY16 : Y < 16
        · have hnx : unhexT (s.data.toList.drop (k + 2)) = none := (Hst.out).resolve_left (fun h => h ⟨hX16, hY16⟩)
          have HN2 := hide hnx
          rw [if_pos hX16, if_pos hY16]
          have hX0 : (0 : Int) ≤ (X : Int) := by omega
          have hY0 : (0 : Int) ≤ (Y : Int) := by omega
          obtain ⟨z, hz⟩ : ∃ z, z = 16 * X + Y := ⟨_, rfl⟩
          have hor : bits BinOp.or IntKind.i64 ((X : Int) * 16) (Y : Int) = (z : Int) := by
            rw [or_digits X hX16 Y hY16, hz]
          have hz256 : (z : Int) % 256 = (z : Int) := by omega
          have hzu : (z : Int) = ((UInt8.ofNat z).toNat : Int) := by rw [UInt8.toNat_ofNat']; omega
          have Hzu := hide hzu
          clear hz hzu hnx
          have hbl : (Lib.byteCells l).length = q * 1 := by simp [Lib.byteCells]; omega
          have hq2 : q ≤ 1099511627776 := by have := Hk.out; omega
          go_wp2_with (first
            | (go_at_call 78; (with_reducible refine (smust_yes rfl _).mono ?_); rintro e3 w3 ⟨rfl, rfl⟩)
            | (at_builtin; refine wpList_row rfl _ _ 44 rfl w.heap.size 5 Tryz.underlying44 InfoU8W rfl (by decide) _ q (Lib.byteCells l) rfl (HO2.out.alloc _) (some ⟨w3.heap.size, 0, none⟩) 1 1 [.int .u8 (z : Int)] rfl (by simp) rfl (fun ad e => by injection e with e; subst e; intro j u hu; rw [Addr.add_lit, Nat.zero_add, Lib.cell_of_heap (heap_alloc_new w3 _)]; simpa using hu) (by intro u hu; simp at hu; subst hu; rfl) (by unfold maxLen; omega) (by omega) (by have := HB1.out.size; have := Hs1.out; simp; omega) ?_))
          intro v1 w4 h4 hg4 hw4
          have HB4 : Hid (Below w2.heap.size w2 w4) := hide ((HB1.out.alloc HB1.out.size _).grown hg4 (by have := HB1.out.size; simp; omega) fun j hj => by have := (HO2.out.lt j hj).1; have := Hs1.out; omega)
          have H4 := hide h4
          clear h4 hg4 hw4
          go_wp2_with fail
          go_roundg (s.size - (k + 2))
          case measure => omega
          case rel =>
            refine ⟨q + 1, k + 2, by have := Hk.out; have := Hev.out; omega, rfl, hide (by have := Hk.out; omega), by simp, hide ⟨l ++ [UInt8.ofNat z], by simp; omega, ?_⟩, HN2, HB4⟩
            have h := H4.out
            have e1 : Lib.byteCells (l ++ [UInt8.ofNat z]) = Lib.byteCells l ++ [.int .u8 (z : Int)] := by rw [Hzu.out]; unfold Lib.byteCells; rw [List.map_append]; rfl
            rw [e1]
            exact h
        · rw [if_neg hY16]
          go_wp2_with (go_at_call 78; (with_reducible refine (smust_no (by simp) _).mono ?_); rintro e3 w3 ⟨rfl, rfl⟩)
          exact ⟨rfl, rfl, u, by rw [← HU.out, ← Hs1.out]; exact HB1.out⟩
      · rw [if_neg hX16]
        go_wp2_with (go_at_call 78; (with_reducible refine (smust_no (by simp) _).mono ?_); rintro e3 w3 ⟨rfl, rfl⟩)
        all_goals exact ⟨rfl, rfl, u, by rw [← HU.out, ← Hs1.out]; exact HB1.out⟩
    · have hks : k = s.size := by omega
      have hx := HN.out
      rw [hks, List.drop_eq_nil_of_le (by simp)] at hx
      cases hx

end Go.Proofs.YtjjaojnglnpgaaaGreatDoor

namespace Go.Proofs.YtjjaojnglnpgaaaGreatDoor
open Go.RowKit

theorem eq45_of {s : ByteArray} (h : s.data.toList = [45]) : s = ⟨#[45]⟩ := by
  apply ByteArray.ext
  apply Array.ext'
  exact h
theorem ne45_of {s : ByteArray} (h : ¬ s.data.toList = [45]) : (s.toList == [45]) = false := by
  rw [beq_eq_false_iff_ne]
  intro e
  have e2 : s = ⟨#[45]⟩ := tl_eq.1 (by rw [e]; decide +kernel)
  exact h (by rw [e2])
theorem wbytes_ok {D : Nat → Prop} {N : Nat} {w : World} {s : ByteArray} {r : List ByteArray} {b : List UInt8} (h : WdIn D N w (s :: r)) (hu : unhexL s.data.toList = some b) (hl : s.size ≤ 1099511627776) :
    Calls Tryz.prog 170 #[.pointer (some ⟨N, 0, none⟩)] w fun e w' => ∃ v, e = .returned v ∧ w'.ownsRow w.heap.size 5 1 v b.length (Lib.byteCells b) ∧ WdIn D N w' r ∧ ∃ u, Below w.heap.size (w.setCell ⟨N, 0, none⟩ u) w' := by
  by_cases h45 : s.data.toList = [45]
  · have e : b = [] := by
      rw [unhexL, if_pos h45] at hu
      injection hu with hu
      exact hu.symm
    subst e
    refine (wbytes_none h (eq45_of h45)).mono ?_
    rintro e w' ⟨rfl, h1, u, hu⟩
    exact ⟨_, rfl, World.ownsRow_nil _ _ _ _, h1, u, by rw [hu]; have := Below.refl w.heap.size (w.setCell ⟨N, 0, none⟩ u); simpa using this⟩
  · have hb : b ≠ [] := by
      rintro rfl
      have := hexL_unhexL _ _ hu
      rw [hexL, if_pos rfl] at this
      exact h45 this.symm
    have ht : s.data.toList = hexT b := by
      have := hexL_unhexL _ _ hu
      rw [hexL, if_neg hb] at this
      exact this.symm
    refine wbytes_yes h ht hb ?_
    have := congrArg List.length ht
    rw [hexT_len] at this
    simp at this
    omega
theorem wbytes_bad {D : Nat → Prop} {N : Nat} {w : World} {s : ByteArray} {r : List ByteArray} (h : WdIn D N w (s :: r)) (hu : unhexL s.data.toList = none) (hl : s.size ≤ 1099511627776) :
    Calls Tryz.prog 170 #[.pointer (some ⟨N, 0, none⟩)] w fun e w' => e = nones ∧ ∃ u, Below w.heap.size (w.setCell ⟨N, 0, none⟩ u) w' := by
  have set : ∀ {e : Ending} {w' : World}, (e = nones ∧ ∃ u, w' = w.setCell ⟨N, 0, none⟩ u) → e = nones ∧ ∃ u, Below w.heap.size (w.setCell ⟨N, 0, none⟩ u) w' := by
    rintro e w' ⟨he, u, rfl⟩
    exact ⟨he, u, Below.refl _ _⟩
  have h45 : ¬ s.data.toList = [45] := fun e => by rw [unhexL, if_pos e] at hu; cases hu
  by_cases h0 : s.size = 0
  · exact (wbytes_empty h h0).mono fun _ _ hx => set hx
  · by_cases hev : s.size % 2 = 0
    · have hne : ¬ s.data.toList = [] := fun e => h0 (by have := congrArg List.length e; simpa using this)
      rw [unhexL, if_neg h45, if_neg hne] at hu
      exact wbytes_no h (ne45_of h45) (by omega) hev hu hl
    · exact (wbytes_odd h (ne45_of h45) (by omega) hev).mono fun _ _ hx => set hx

end Go.Proofs.YtjjaojnglnpgaaaGreatDoor
