/- The document's reader (ref24.Reader): bytes, numbers, texts. Printed by gen_rd24.py. -/
import Derived.Test.YtfhfkbdaglegpaaGreatDoorGRead
import Derived.Test.YtfhfkbdaglegpaaGreatDoorGRead4

set_option linter.unusedVariables false
set_option linter.unusedSimpArgs false

namespace Go.Proofs.YtfhfkbdaglegpaaGreatDoor
open Go.RowKit

/-- block rb holds a reader that has the bytes l left, which lie in blocks below B; bd: something asked did not stand there -/
def Rdb (B rb : Nat) (w : World) (l : List UInt8) (bd : Bool) : Prop :=
  B ≤ rb ∧ ∃ A c, w.cell? ⟨rb, 0, none⟩ = some (.slice A l.length c) ∧ w.cell? ⟨rb, 1, none⟩ = some (.bool bd) ∧ w.frozen? ⟨rb, 0, none⟩ = false ∧ w.frozen? ⟨rb, 1, none⟩ = false ∧
    BytesIn (fun b => b < B) w A l ∧ l.length ≤ c ∧ c ≤ 9223372036854775807
section
variable {B rb : Nat} {w w' : World} {l : List UInt8} {bd : Bool}
theorem Rdb.lt (h : Rdb B rb w l bd) : rb < w.heap.size := by
  obtain ⟨_, A, c, h0, _⟩ := h
  exact World.block_lt_of_cell? _ _ h0
theorem Rdb.keep (h : Rdb B rb w l bd) (hk : ∀ b, b ≤ rb → w'.heap[b]? = w.heap[b]?) : Rdb B rb w' l bd := by
  obtain ⟨hB, A, c, h0, h1, h2, h3, h4, h5, h6⟩ := h
  have hb := hk rb (Nat.le_refl _)
  exact ⟨hB, A, c, (World.cell?_of_block hb).trans h0, (World.cell?_of_block hb).trans h1, (World.frozen?_of_block hb).trans h2, (World.frozen?_of_block hb).trans h3, h4.keep fun b hb => hk b (by omega), h5, h6⟩
theorem Rdb.below (h : Rdb B rb w l bd) (hB : Below w.heap.size w w') : Rdb B rb w' l bd := h.keep fun b hb => hB.block b (Nat.lt_of_le_of_lt hb h.lt)
theorem Rdb.alloc (h : Rdb B rb w l bd) (o : Obj) : Rdb B rb (w.alloc o) l bd := h.below (below_alloc w o)
theorem Rdb.grown {row : Option Nat} (h : Rdb B rb w l bd) (hg : w.grownBy w' row) (hr : ∀ k, row = some k → rb < k) : Rdb B rb w' l bd :=
  h.keep fun b hb => hg.block b (Nat.lt_of_le_of_lt hb h.lt) (fun e => by have := hr b e.symm; omega)
theorem Rdb.setBad (h : Rdb B rb w l bd) : Rdb B rb (w.setCell ⟨rb, 1, none⟩ (.bool true)) l true := by
  obtain ⟨hB, A, c, h0, h1, h2, h3, h4, h5, h6⟩ := h
  refine ⟨hB, A, c, ?_, World.cell?_setCell_same _ _ _ h1, by rw [World.frozen?_setCell]; exact h2, by rw [World.frozen?_setCell]; exact h3, h4.keep (fun b hb => Below.heap_setCell w _ _ b (by show b ≠ rb; omega)), h5, h6⟩
  rw [World.cell?_setCell_other]
  · exact h0
  · simp
theorem Rdb.cells (h : Rdb B rb w l bd) : ∃ A c, w.cell? ⟨rb, 0, none⟩ = some (.slice A l.length c) ∧ w.cell? ⟨rb, 1, none⟩ = some (.bool bd) ∧ w.frozen? ⟨rb, 0, none⟩ = false ∧ w.frozen? ⟨rb, 1, none⟩ = false ∧ BytesIn (fun b => b < B) w A l ∧ l.length ≤ c ∧ c ≤ 9223372036854775807 := h.2
theorem Rdb.setRest {A : Option Addr} {c m : Nat} {l' : List UInt8} (h : Rdb B rb w l bd) (hA : BytesIn (fun b => b < B) w A l') (hm : l'.length = m) (h5 : m ≤ c) (h6 : c ≤ 9223372036854775807) : Rdb B rb (w.setCell ⟨rb, 0, none⟩ (.slice A m c)) l' bd := by
  subst hm
  obtain ⟨hB, A0, c0, h0, h1, h2, h3, h4, _, _⟩ := h
  refine ⟨hB, A, c, World.cell?_setCell_same _ _ _ h0, ?_, by rw [World.frozen?_setCell]; exact h2, by rw [World.frozen?_setCell]; exact h3, hA.keep (fun b hb => Below.heap_setCell w _ _ b (by show b ≠ rb; omega)), h5, h6⟩
  rw [World.cell?_setCell_other]
  · exact h1
  · simp
end

def BytePost (B rb : Nat) (w : World) (l : List UInt8) (bd : Bool) (e : Ending) (w' : World) : Prop := ∃ (x : UInt8) (l' : List UInt8) (bd' : Bool), e = .returned (.int .u8 x.toNat) ∧ Rdb B rb w' l' bd' ∧ Side rb w w' ∧
      ((l = x :: l' ∧ bd' = bd) ∨ (l = [] ∧ l' = [] ∧ bd' = true))
set_option maxHeartbeats 1000000 in
set_option maxRecDepth 1000000 in
theorem byte24_any {B rb : Nat} {w : World} {l : List UInt8} {bd : Bool} (h : Rdb B rb w l bd) : Calls Tryz.prog 95 #[.pointer (some ⟨rb, 0, none⟩)] w (BytePost B rb w l bd) := by
  obtain ⟨A, c, h0, h1, h2, h3, hb, h5, h6⟩ := h.cells
  have H := hide h
  have Hb := hide hb
  clear h hb
  rcases l with _ | ⟨x, l⟩
  · simp only [List.length_nil] at h0 h5
    go_enter Tryz.func95, Tryz.ntmps95
    go_wp2_with fail
    go_ret
    exact ⟨0, [], true, rfl, H.out.setBad, (Side.refl rb w).set 1 _, .inr ⟨rfl, rfl, rfl⟩⟩
  · obtain ⟨b, o, hA, hc⟩ := Hb.out.1.at_ (j := 0) (by simp [bytesV])
    subst hA
    simp only [bytesV, List.map_cons, List.getElem_cons_zero, Nat.add_zero] at hc
    simp only [List.length_cons] at h0 h5
    have hd : BytesIn (fun b => b < B) w (some ⟨b, o + 1, none⟩) l := by have := Hb.out.drop 1; simpa [Addr.add_lit] using this
    have Hd := hide hd
    clear hd
    go_enter Tryz.func95, Tryz.ntmps95
    go_wp2_with fail
    · go_ret
      have hl : l = [] := List.length_eq_zero_iff.1 (by omega)
      subst hl
      exact ⟨x, [], bd, rfl, H.out.setRest ⟨.inl rfl, by simp⟩ rfl (by simp) (by omega), (Side.refl rb w).set 0 _, .inl ⟨rfl, rfl⟩⟩
    · go_ret
      exact ⟨x, l, bd, rfl, H.out.setRest Hd.out rfl (by omega) (by omega), (Side.refl rb w).set 0 _, .inl ⟨rfl, rfl⟩⟩

def NumPost (B rb : Nat) (w : World) (l : List UInt8) (bd : Bool) (e : Ending) (w' : World) : Prop := ∃ (n : Int) (l' : List UInt8) (bd' : Bool), e = .returned (.int .i64 n) ∧ is63 n ∧ Rdb B rb w' l' bd' ∧ Side rb w w' ∧ l'.length ≤ l.length ∧
      ((l = num8 n ++ l' ∧ bd' = bd) ∨ (l.length < 8 ∧ bd' = true ∧ l' = []))
set_option maxHeartbeats 1000000 in
set_option maxRecDepth 1000000 in
theorem number24r_any {B rb : Nat} {w : World} {l : List UInt8} {bd : Bool} (h : Rdb B rb w l bd) : Calls Tryz.prog 97 #[.pointer (some ⟨rb, 0, none⟩)] w (NumPost B rb w l bd) := by
  have H := hide h
  clear h
  go_enter Tryz.func97, Tryz.ntmps97
  go_wp2_with fail
  go_loopw [3, 4] (fun u i wr => ∃ (q : Nat) (X : Int) (lq : List UInt8) (bq : Bool), q ≤ 8 ∧ i = .int .i64 q ∧ u = .int .u64 X ∧ Hid (Rdb B rb wr lq bq) ∧ Hid (Side rb w wr) ∧ lq.length ≤ l.length ∧ Hid ((q ≤ l.length ∧ lq = l.drop q ∧ bq = bd ∧ X = beNat (l.take q)) ∨ (l.length < q ∧ bq = true ∧ lq = []))) (fun _ i _ => 8 - (intOf i).toNat)
  case atStart => exact ⟨0, 0, l, bd, by omega, rfl, rfl, H, hide (Side.refl _ _), Nat.le_refl _, hide (.inl ⟨by omega, by simp, rfl, by simp [beNat]⟩)⟩
  case round =>
    obtain ⟨q, X, lq, bq, hq, rfl, rfl, HR, HS, hle, HC⟩ := hrel
    by_cases hlt : q < 8
    · go_wp2_with (go_at_call 95; (with_reducible refine (byte24_any HR.out).mono ?_); rintro e w1 ⟨x, l1, b1, rfl, hr, hs, hx⟩; have HR1 := hide hr; have HS1 := hide (HS.out.trans hs); have HX := hide hx; clear hr hs hx)
      have key : l1.length ≤ l.length ∧ ((q + 1 ≤ l.length ∧ l1 = l.drop (q + 1) ∧ b1 = bd ∧ bits .or .u64 (IntKind.u64.wrap (X * 256)) (IntKind.u64.wrap (x.toNat : Int)) = beNat (l.take (q + 1))) ∨ (l.length < q + 1 ∧ b1 = true ∧ l1 = [])) := by
        rcases HX.out with ⟨e1, e2⟩ | ⟨e1, e2, e3⟩
        · have hl1 : l1.length ≤ l.length := by
            have := congrArg List.length e1
            simp at this
            omega
          refine ⟨hl1, ?_⟩
          rcases HC.out with ⟨g1, g2, g3, g4⟩ | ⟨g1, g2, g3⟩
          · have hql : q < l.length := by
              have := congrArg List.length (g2.symm.trans e1)
              simp at this
              omega
            have hdr := List.drop_eq_getElem_cons hql
            rw [← g2, e1] at hdr
            injection hdr with hx hr
            refine .inl ⟨by omega, hr, by rw [e2, g3], ?_⟩
            have hlt : beNat (l.take q) < 72057594037927936 := by
              have h1 := beNat_lt (l.take q)
              have h2 : (l.take q).length = q := by simp; omega
              rw [h2] at h1
              exact Nat.lt_of_lt_of_le h1 (Nat.pow_le_pow_right (by omega) (show q ≤ 7 by omega))
            rw [g4, or_step _ _ hlt (UInt8.toNat_lt _), beNat_next l q hql, hx]
          · rw [g3] at e1; cases e1
        · refine ⟨by rw [e2]; simp, .inr ⟨?_, e3, e2⟩⟩
          rcases HC.out with ⟨g1, g2, g3, g4⟩ | ⟨g1, g2, _⟩
          · have := congrArg List.length (g2.symm.trans e1)
            simp at this
            omega
          · omega
      exact ⟨⟨q + 1, _, l1, b1, by omega, by go_num, rfl, HR1, HS1, key.1, hide key.2⟩, by simp [intOf]; omega⟩
    · go_wp2_with fail
      go_ret
      have hq8 : q = 8 := by omega
      subst hq8
      refine ⟨_, lq, bq, rfl, by unfold is63 wrap64; omega, HR.out, HS.out, hle, ?_⟩
      rcases HC.out with ⟨g1, g2, g3, g4⟩ | ⟨g1, g2, g5⟩
      · refine .inl ⟨?_, g3⟩
        have hl8 : (l.take 8).length = 8 := by simp; omega
        have hb8 := beNat_lt (l.take 8)
        rw [hl8, show (256 : Nat) ^ 8 = 18446744073709551616 from rfl] at hb8
        rw [g2, num8_be hl8 (by unfold wrap64; omega), List.take_append_drop]
      · exact .inr ⟨g1, g2, g5⟩

def ManyPost (B rb least : Nat) (w : World) (l : List UInt8) (bd : Bool) (e : Ending) (w' : World) : Prop := ∃ (n : Nat) (l' : List UInt8) (bd' : Bool), e = .returned (.int .i64 n) ∧ n * least ≤ l'.length ∧ Rdb B rb w' l' bd' ∧ Side rb w w' ∧ l'.length ≤ l.length ∧
      ((l = num8 n ++ l' ∧ bd' = bd) ∨ (n = 0 ∧ bd' = true ∧ (l.length < 8 ∨ ∃ (m : Int) (l1 : List UInt8), is63 m ∧ l = num8 m ++ l1 ∧ ¬ (0 ≤ m ∧ m ≤ (l1.length : Int) / least))))
set_option maxHeartbeats 1000000 in
set_option maxRecDepth 1000000 in
theorem many24_any {B rb least : Nat} {w : World} {l : List UInt8} {bd : Bool} (h : Rdb B rb w l bd) (h0 : 0 < least) (h1 : least ≤ 100) : Calls Tryz.prog 149 #[.pointer (some ⟨rb, 0, none⟩), .int .i64 least] w (ManyPost B rb least w l bd) := by
  have H := hide h
  clear h
  go_enter Tryz.func149, Tryz.ntmps149
  go_wp2_with (go_at_call 97; (with_reducible refine (number24r_any H.out).mono ?_); rintro e w1 ⟨n, l1, b1, rfl, hn, hr, hs, hle, hx⟩; obtain ⟨A, c, k0, k1, k2, k3, kb, k5, k6⟩ := hr.cells; have HR := hide hr; have HS := hide hs; have HX := hide hx; have hd0 : 0 ≤ (l1.length : Int) / least := Int.ediv_nonneg (by omega) (by omega); have hd1 : (l1.length : Int) / least ≤ l1.length := Int.ediv_le_self _ (by omega); have hq : wrap64 ((l1.length : Int) / least) = (l1.length : Int) / least := (by generalize (l1.length : Int) / least = z at hd0 hd1; unfold wrap64; omega); clear hr hs hx kb)
  all_goals go_ret
  all_goals first
    | (refine ⟨0, l1, true, rfl, by simp, HR.out.setBad, HS.out.set 1 _, hle, .inr ⟨rfl, rfl, ?_⟩⟩
       rcases HX.out with ⟨e1, e2⟩ | ⟨e1, _, _⟩
       · exact .inr ⟨n, l1, hn, e1, by omega⟩
       · exact .inl e1)
    | (obtain ⟨m, rfl⟩ : ∃ m : Nat, n = m := ⟨n.toNat, by omega⟩
       have hm : m * least ≤ l1.length := by
         have h2 : (m : Int) ≤ ((l1.length / least : Nat) : Int) := by rw [Int.natCast_ediv]; omega
         exact (Nat.le_div_iff_mul_le h0).1 (by omega)
       refine ⟨m, l1, b1, rfl, hm, HR.out, HS.out, hle, ?_⟩
       rcases HX.out with ⟨e1, e2⟩ | ⟨e1, e2, e3⟩
       · exact .inl ⟨e1, e2⟩
       · refine .inr ⟨?_, e2, .inl e1⟩
         rw [e3, List.length_nil] at hm
         rcases Nat.eq_zero_or_pos m with h | h
         · exact h
         · have := Nat.mul_pos h h0
           omega)

def TextPost (B rb : Nat) (w : World) (l : List UInt8) (bd : Bool) (e : Ending) (w' : World) : Prop := ∃ (s : ByteArray) (l' : List UInt8) (bd' : Bool), e = .returned (.string s) ∧ s.size ≤ max63 ∧ Rdb B rb w' l' bd' ∧ Side rb w w' ∧ l'.length ≤ l.length ∧
      ((l = txtB s ++ l' ∧ bd' = bd) ∨ (bd' = true ∧ ¬ TextAt l))
theorem text_none {l : List UInt8} (h : l.length < 8 ∨ ∃ (m : Int) (l1 : List UInt8), is63 m ∧ l = num8 m ++ l1 ∧ ¬ (0 ≤ m ∧ m ≤ (l1.length : Int) / ((1 : Nat) : Int))) : ¬ TextAt l := by
  rintro ⟨s, l', hs, rfl⟩
  have e : s.data.toList.length = s.size := by simp
  rcases h with h | ⟨m, l1, hm, he, hno⟩
  · simp only [txtB, List.length_append, num8_len] at h
    omega
  · unfold txtB at he
    rw [List.append_assoc] at he
    obtain ⟨h1, h2⟩ := num8_split (is63_nat hs) hm he
    subst h1 h2
    apply hno
    simp only [List.length_append, e]
    omega
theorem text_fin {B rb n : Nat} {w w' : World} {l l1 : List UInt8} {bd b1 : Bool} (hl : l.length ≤ max63) (hn : n ≤ l1.length) (hle : l1.length ≤ l.length) (hS : Side rb w w') (hR : Rdb B rb w' (l1.drop n) b1)
    (hX : (l = num8 (n : Nat) ++ l1 ∧ b1 = bd) ∨ (n = 0 ∧ b1 = true ∧ (l.length < 8 ∨ ∃ (m : Int) (l1 : List UInt8), is63 m ∧ l = num8 m ++ l1 ∧ ¬ (0 ≤ m ∧ m ≤ (l1.length : Int) / ((1 : Nat) : Int))))) :
    TextPost B rb w l bd (.returned (.string ⟨(l1.take n).toArray⟩)) w' := by
  have hz : (⟨(l1.take n).toArray⟩ : ByteArray).size = n := by
    show ((l1.take n).toArray).size = n
    simp
    omega
  refine ⟨_, l1.drop n, b1, rfl, by rw [hz]; simp only [max63] at hl ⊢; omega, hR, hS, by simp; omega, ?_⟩
  rcases hX with ⟨e1, e2⟩ | ⟨_, e2, h⟩
  · refine .inl ⟨?_, e2⟩
    unfold txtB
    rw [hz, e1, List.append_assoc]
    congr 1
    exact (List.take_append_drop n l1).symm
  · exact .inr ⟨e2, text_none h⟩
set_option maxHeartbeats 1000000 in
set_option maxRecDepth 1000000 in
theorem text24r_any {B rb : Nat} {w : World} {l : List UInt8} {bd : Bool} (h : Rdb B rb w l bd) (hl : l.length ≤ max63) : Calls Tryz.prog 96 #[.pointer (some ⟨rb, 0, none⟩)] w (TextPost B rb w l bd) := by
  have HM : Hid (Calls Tryz.prog 149 #[.pointer (some ⟨rb, 0, none⟩), .int .i64 1] w (ManyPost B rb 1 w l bd)) := hide (many24_any (least := 1) h (by decide) (by decide))
  clear h
  go_enter Tryz.func96, Tryz.ntmps96
  go_wp2_with (go_at_call 149; (with_reducible refine HM.out.mono ?_); rintro e w1 ⟨n, l1, b1, rfl, hn, hr, hs, hle, hx⟩; obtain ⟨A, c, k0, k1, k2, k3, kb, k5, k6⟩ := hr.cells; have hnl : n ≤ l1.length := (by omega); have hcv : (convert 36 9 (.slice A n c)).run Tryz.prog w1 = .ok (.string ⟨(l1.take n).toArray⟩) w1 := (by have h1 := run_bytes_str (rb := rb) w1 A c (l1.take n) ((kb.take n).mono fun b _ hb => (by have := hr.1; show b ≠ rb; omega)); rwa [show (l1.take n).length = n by simp; omega] at h1); have HR := hide hr; have HS := hide hs; have HX := hide hx; have HB := hide kb; clear hr hs hx kb; rcases A with _ | a)
  · go_ret
    have hl0 : l1 = [] := by
      rcases HB.out.1 with h | ⟨_, _, h, _⟩
      · simpa [bytesV] using h
      · cases h
    exact text_fin hl hnl hle (HS.out.set 0 _) (HR.out.setRest ⟨.inl (by rw [hl0]; simp [bytesV]), by simp; omega⟩ (by simp) (by omega) (by omega)) HX.out
  · go_ret
    exact text_fin hl hnl hle (HS.out.set 0 _) (HR.out.setRest ⟨.inl (by rw [List.drop_eq_nil_of_le (by omega)]; rfl), by simp; omega⟩ (by simp) (by omega) (by omega)) HX.out
  · go_ret
    exact text_fin hl hnl hle (HS.out.set 0 _) (HR.out.setRest (HB.out.drop n) (by simp) (by omega) (by omega)) HX.out

end Go.Proofs.YtfhfkbdaglegpaaGreatDoor

namespace Go.Proofs.YtfhfkbdaglegpaaGreatDoor
open Go.RowKit

def PathPost (B rb : Nat) (w : World) (l : List UInt8) (bd : Bool) (e : Ending) (w' : World) : Prop := ∃ (xs : List Int) (l' : List UInt8) (bd' : Bool) (A : Option Addr) (c : Nat), e = .returned (.slice A xs.length c) ∧ IntsIn (fun b => w.heap.size ≤ b) w' A xs ∧ xs.length ≤ c ∧ c ≤ 9223372036854775807 ∧ Rdb B rb w' l' bd' ∧ Side rb w w' ∧ l'.length ≤ l.length ∧
      ((l = pathB xs ++ l' ∧ bd' = bd) ∨ (bd' = true ∧ ¬ RowAt num8 (is63) l))
set_option maxHeartbeats 2000000 in
set_option maxRecDepth 1000000 in
theorem path24r_any {B rb : Nat} {w : World} {l : List UInt8} {bd : Bool} (h : Rdb B rb w l bd) (hl : l.length ≤ lid) : Calls Tryz.prog 150 #[.pointer (some ⟨rb, 0, none⟩)] w (PathPost B rb w l bd) := by
  have hrb := h.lt
  have HM : Hid (Calls Tryz.prog 149 #[.pointer (some ⟨rb, 0, none⟩), .int .i64 8] w (ManyPost B rb 8 w l bd)) := hide (many24_any (least := 8) h (by decide) (by decide))
  obtain ⟨i0, hi, hz0, hz1, hz2⟩ := info_parts InfosomeInt
  clear h
  go_enter Tryz.func150, Tryz.ntmps150
  go_wp2_with (go_at_call 149; (with_reducible refine HM.out.mono ?_); rintro e w1 ⟨n, l1, b1, rfl, hn, hr, hs, hle, hx⟩; have HR := hide hr; have HS := hide hs; have HX := hide hx; clear hr hs hx)
  have hl1 : l1.length ≤ 1099511627776 := by simp only [lid] at hl; omega
  go_loopw [3, 5] (fun v i wr => ∃ (xs : List Int) (lq : List UInt8) (bq : Bool), i = .int .i64 xs.length ∧ xs.length ≤ n ∧ Hid (∀ a ∈ xs, (is63) a) ∧ Hid (wr.ownsRow 0 3 1 v xs.length (xs.map (.int .i64))) ∧ Hid (∀ g, v.ownBlock = some g → w.heap.size ≤ g) ∧
      Hid (Rdb B rb wr lq bq) ∧ Hid (Side rb w wr) ∧ lq.length ≤ l1.length ∧ Hid ((l1 = (xs.map num8).flatten ++ lq ∧ bq = b1) ∨ (bq = true ∧ ∃ (ys : List Int) (lr : List UInt8), (∀ a ∈ ys, (is63) a) ∧ l1 = (ys.map num8).flatten ++ lr ∧ ys.length < n ∧ ¬ ∃ a l', (is63) a ∧ lr = num8 a ++ l'))) (fun _ i _ => (n - intOf i).toNat)
  case atStart => exact ⟨[], l1, b1, rfl, Nat.zero_le _, hide (by simp), hide (World.ownsRow_nil _ _ _ _), hide (by simp [Value.ownBlock]), HR, HS, Nat.le_refl _, hide (.inl ⟨rfl, rfl⟩)⟩
  case round =>
    obtain ⟨xs, lq, bq, rfl, hle2, Hf, Ho, Hg, Hq, HS2, hlq, HC⟩ := hrel
    have hwr := HS2.out.size
    by_cases hlt : xs.length < n
    · go_wp2_with (first
        | (go_at_call 97; (with_reducible refine (number24r_any Hq.out).mono ?_); rintro e w3 ⟨a, l2, b2, rfl, ha2, hr2, hs2, hle3, hx2⟩; have HR2 := hide hr2; have HS3 := hide hs2; have HX2 := hide hx2; clear hr2 hs2 hx2)
        | (at_builtin; refine wpList_append_own2 _ rfl _ _ 27 rfl 3 i0 (.int .i64 0) 1 8 Tryz.underlying27 hi hz0 hz1 hz2 rfl (by decide) _ xs.length (xs.map (.int .i64)) rfl ((own_side Ho.out (fun g hg => by have := Hg.out g hg; omega) HS3.out).alloc _) ⟨w3.heap.size, 0, none⟩ 1 1 [.int .i64 a] rfl rfl (cell_one_new _ _ _) (by intro u hu; simp at hu; subst hu; rfl) (by unfold maxLen; omega) (by omega) ?_))
      intro v' w4 hown hgrow hnil hwhere
      have hS3 : Side rb w w3 := Side.trans HS2.out HS3.out
      have hsz := hS3.size
      have Hown := hide hown
      have Hgrow := hide hgrow
      have Hw := hide hwhere
      have H3 := hide hS3
      clear hown hgrow hnil hwhere hS3
      go_wp2
      refine ⟨⟨xs ++ [a], l2, b2, by simp, by simp; omega, hide ?_, hide ?_, hide ?_, hide ?_, hide ?_, by omega, hide ?_⟩, by simp [intOf]; omega⟩
      · intro b hb
        rcases List.mem_append.mp hb with hb | hb
        · exact Hf.out b hb
        · rw [List.mem_singleton] at hb; rw [hb]; exact ha2
      · have := Hown.out; simpa using this
      · intro g hg
        rcases Hw.out with e | e
        · exact Hg.out g (e ▸ hg)
        · rw [hg] at e; injection e with e; (try simp at e); omega
      · exact (HR2.out.alloc _).grown Hgrow.out (fun k hk => by have := Hg.out k hk; omega)
      · exact Keep.grown (Side.alloc H3.out _) Hgrow.out (fun k hk => hk.1) (fun k hk hp => absurd hp.1 (by have := Hg.out k hk; omega))
      · rcases HC.out with ⟨e1, e2⟩ | ⟨e1, h1⟩
        · rcases HX2.out with ⟨g1, g2⟩ | hno
          · refine .inl ⟨?_, by rw [g2, e2]⟩
            rw [e1, g1]; simp
          · refine .inr ⟨hno.2.1, xs, lq, Hf.out, e1, hlt, num8_none hno.1⟩
        · refine .inr ⟨?_, h1⟩
          rcases HX2.out with ⟨_, g2⟩ | hno
          · rw [g2, e1]
          · exact hno.2.1
    · go_wp2_with fail
      obtain ⟨A2, c2, rfl, hrd, hc2, hc3⟩ := own_rd (S := fun b => w.heap.size ≤ b) Ho.out Hg.out
      go_ret
      have hnn : xs.length = n := by omega
      refine ⟨xs, lq, bq, _, _, rfl, ⟨hrd, fun a ha => Hf.out a ha, by omega⟩, hc2, hc3, Hq.out, HS2.out, by omega, ?_⟩
      rcases HX.out with ⟨e1, e2⟩ | ⟨h0, e2, hno⟩
      · rcases HC.out with ⟨g1, g2⟩ | ⟨g1, ys, lr, q1, q2, q3, q4⟩
        · refine .inl ⟨?_, by rw [g2, e2]⟩
          rw [e1, g1, ← List.append_assoc, ← hnn]; rfl
        · refine .inr ⟨g1, ?_⟩
          rw [e1]
          exact row_next (fun _ _ _ _ ha hb h => num8_split ha hb h) (is63_nat (by simp only [max63]; omega)) q1 q2 (by omega) q4
      · refine .inr ⟨?_, ?_⟩
        · rcases HC.out with ⟨_, g2⟩ | ⟨g1, _⟩
          · rw [g2, e2]
          · exact g1
        · rcases hno with h8 | ⟨m, l2, hm, rfl, hg⟩
          · exact row_short h8
          · exact row_guard (fun a => Nat.le_of_eq (num8_len a).symm) hm hg

def TextsPost (B rb : Nat) (w : World) (l : List UInt8) (bd : Bool) (e : Ending) (w' : World) : Prop := ∃ (xs : List ByteArray) (l' : List UInt8) (bd' : Bool) (A : Option Addr) (c : Nat), e = .returned (.slice A xs.length c) ∧ StrsIn (fun b => w.heap.size ≤ b) w' A xs ∧ xs.length ≤ c ∧ c ≤ 9223372036854775807 ∧ Rdb B rb w' l' bd' ∧ Side rb w w' ∧ l'.length ≤ l.length ∧
      ((l = txtsB xs ++ l' ∧ bd' = bd) ∨ (bd' = true ∧ ¬ RowAt txtB (fun s => s.size ≤ max63) l))
set_option maxHeartbeats 2000000 in
set_option maxRecDepth 1000000 in
theorem texts24r_any {B rb : Nat} {w : World} {l : List UInt8} {bd : Bool} (h : Rdb B rb w l bd) (hl : l.length ≤ lid) : Calls Tryz.prog 98 #[.pointer (some ⟨rb, 0, none⟩)] w (TextsPost B rb w l bd) := by
  have hrb := h.lt
  have HM : Hid (Calls Tryz.prog 149 #[.pointer (some ⟨rb, 0, none⟩), .int .i64 8] w (ManyPost B rb 8 w l bd)) := hide (many24_any (least := 8) h (by decide) (by decide))
  obtain ⟨i0, hi, hz0, hz1, hz2⟩ := info_parts InfosomeStr
  clear h
  go_enter Tryz.func98, Tryz.ntmps98
  go_wp2_with (go_at_call 149; (with_reducible refine HM.out.mono ?_); rintro e w1 ⟨n, l1, b1, rfl, hn, hr, hs, hle, hx⟩; have HR := hide hr; have HS := hide hs; have HX := hide hx; clear hr hs hx)
  have hl1 : l1.length ≤ 1099511627776 := by simp only [lid] at hl; omega
  go_loopw [3, 5] (fun v i wr => ∃ (xs : List ByteArray) (lq : List UInt8) (bq : Bool), i = .int .i64 xs.length ∧ xs.length ≤ n ∧ Hid (∀ a ∈ xs, (fun s => s.size ≤ max63) a) ∧ Hid (wr.ownsRow 0 9 1 v xs.length (xs.map (.string))) ∧ Hid (∀ g, v.ownBlock = some g → w.heap.size ≤ g) ∧
      Hid (Rdb B rb wr lq bq) ∧ Hid (Side rb w wr) ∧ lq.length ≤ l1.length ∧ Hid ((l1 = (xs.map txtB).flatten ++ lq ∧ bq = b1) ∨ (bq = true ∧ ∃ (ys : List ByteArray) (lr : List UInt8), (∀ a ∈ ys, (fun s => s.size ≤ max63) a) ∧ l1 = (ys.map txtB).flatten ++ lr ∧ ys.length < n ∧ ¬ ∃ a l', (fun s => s.size ≤ max63) a ∧ lr = txtB a ++ l'))) (fun _ i _ => (n - intOf i).toNat)
  case atStart => exact ⟨[], l1, b1, rfl, Nat.zero_le _, hide (by simp), hide (World.ownsRow_nil _ _ _ _), hide (by simp [Value.ownBlock]), HR, HS, Nat.le_refl _, hide (.inl ⟨rfl, rfl⟩)⟩
  case round =>
    obtain ⟨xs, lq, bq, rfl, hle2, Hf, Ho, Hg, Hq, HS2, hlq, HC⟩ := hrel
    have hwr := HS2.out.size
    by_cases hlt : xs.length < n
    · go_wp2_with (first
        | (go_at_call 96; (with_reducible refine (text24r_any Hq.out (by simp only [max63]; omega)).mono ?_); rintro e w3 ⟨a, l2, b2, rfl, ha2, hr2, hs2, hle3, hx2⟩; have HR2 := hide hr2; have HS3 := hide hs2; have HX2 := hide hx2; clear hr2 hs2 hx2)
        | (at_builtin; refine wpList_append_own2 _ rfl _ _ 23 rfl 9 i0 (.string ByteArray.empty) 1 16 Tryz.underlying23 hi hz0 hz1 hz2 rfl (by decide) _ xs.length (xs.map (.string)) rfl ((own_side Ho.out (fun g hg => by have := Hg.out g hg; omega) HS3.out).alloc _) ⟨w3.heap.size, 0, none⟩ 1 1 [.string a] rfl rfl (cell_one_new _ _ _) (by intro u hu; simp at hu; subst hu; rfl) (by unfold maxLen; omega) (by omega) ?_))
      intro v' w4 hown hgrow hnil hwhere
      have hS3 : Side rb w w3 := Side.trans HS2.out HS3.out
      have hsz := hS3.size
      have Hown := hide hown
      have Hgrow := hide hgrow
      have Hw := hide hwhere
      have H3 := hide hS3
      clear hown hgrow hnil hwhere hS3
      go_wp2
      refine ⟨⟨xs ++ [a], l2, b2, by simp, by simp; omega, hide ?_, hide ?_, hide ?_, hide ?_, hide ?_, by omega, hide ?_⟩, by simp [intOf]; omega⟩
      · intro b hb
        rcases List.mem_append.mp hb with hb | hb
        · exact Hf.out b hb
        · rw [List.mem_singleton] at hb; rw [hb]; exact ha2
      · have := Hown.out; simpa using this
      · intro g hg
        rcases Hw.out with e | e
        · exact Hg.out g (e ▸ hg)
        · rw [hg] at e; injection e with e; (try simp at e); omega
      · exact (HR2.out.alloc _).grown Hgrow.out (fun k hk => by have := Hg.out k hk; omega)
      · exact Keep.grown (Side.alloc H3.out _) Hgrow.out (fun k hk => hk.1) (fun k hk hp => absurd hp.1 (by have := Hg.out k hk; omega))
      · rcases HC.out with ⟨e1, e2⟩ | ⟨e1, h1⟩
        · rcases HX2.out with ⟨g1, g2⟩ | hno
          · refine .inl ⟨?_, by rw [g2, e2]⟩
            rw [e1, g1]; simp
          · refine .inr ⟨hno.1, xs, lq, Hf.out, e1, hlt, hno.2⟩
        · refine .inr ⟨?_, h1⟩
          rcases HX2.out with ⟨_, g2⟩ | hno
          · rw [g2, e1]
          · exact hno.1
    · go_wp2_with fail
      obtain ⟨A2, c2, rfl, hrd, hc2, hc3⟩ := own_rd (S := fun b => w.heap.size ≤ b) Ho.out Hg.out
      go_ret
      have hnn : xs.length = n := by omega
      refine ⟨xs, lq, bq, _, _, rfl, ⟨hrd, fun a ha => Hf.out a ha, by omega⟩, hc2, hc3, Hq.out, HS2.out, by omega, ?_⟩
      rcases HX.out with ⟨e1, e2⟩ | ⟨h0, e2, hno⟩
      · rcases HC.out with ⟨g1, g2⟩ | ⟨g1, ys, lr, q1, q2, q3, q4⟩
        · refine .inl ⟨?_, by rw [g2, e2]⟩
          rw [e1, g1, ← List.append_assoc, ← hnn]; rfl
        · refine .inr ⟨g1, ?_⟩
          rw [e1]
          exact row_next (fun _ _ _ _ ha hb h => txtB_split ha hb h) (is63_nat (by simp only [max63]; omega)) q1 q2 (by omega) q4
      · refine .inr ⟨?_, ?_⟩
        · rcases HC.out with ⟨_, g2⟩ | ⟨g1, _⟩
          · rw [g2, e2]
          · exact g1
        · rcases hno with h8 | ⟨m, l2, hm, rfl, hg⟩
          · exact row_short h8
          · exact row_guard (fun a => by rw [txtB_len]; omega) hm hg

end Go.Proofs.YtfhfkbdaglegpaaGreatDoor

namespace Go.Proofs.YtfhfkbdaglegpaaGreatDoor
open Go.RowKit

theorem foB_len25 : ∀ f : Fo, 25 * f.len ≤ (foB f).length
  | .nil => by simp [Fo.len]
  | .cons k t n ks r => by
    have ih := foB_len25 r
    rw [foB_cons, List.length_append]
    have : 25 ≤ (nodeB k t n ks).length := by
      simp only [nodeB, nodesB, List.length_cons, List.length_append, num8_len, txtB_len]
      omega
    simp only [Fo.len]
    omega
theorem nodes_guard25 {d : Nat} {n : Int} {l1 : List UInt8} (hn : is63 n) (h : ¬ (0 ≤ n ∧ n ≤ (l1.length : Int) / ((25 : Nat) : Int))) : ¬ NodesAt d (num8 n ++ l1) := by
  rintro ⟨f, l', hf, _, he⟩
  unfold nodesB at he
  rw [List.append_assoc] at he
  obtain ⟨e1, e2⟩ := num8_split hn (is63_nat hf.2) he
  have := foB_len25 f
  rw [e2, List.length_append] at h
  refine h ⟨by omega, ?_⟩
  omega
theorem Rdb.setNew {B rb : Nat} {w : World} {l : List UInt8} {bd : Bool} (h : Rdb B rb w l bd) {a : Addr} (ha : rb < a.block) (u : Value) : Rdb B rb (w.setCell a u) l bd := h.keep fun b hb => Below.heap_setCell w a u b (by omega)
def NodesPostR (B rb D : Nat) (w : World) (l : List UInt8) (bd : Bool) (e : Ending) (w' : World) : Prop := ∃ (f : Fo) (l' : List UInt8) (bd' : Bool) (A : Option Addr) (c : Nat), e = .returned (.slice A f.len c) ∧ FoIn (fun b => w.heap.size ≤ b) w' A f ∧ f.fit ∧ f.len ≤ c ∧ c ≤ 9223372036854775807 ∧ Rdb B rb w' l' bd' ∧ Side rb w w' ∧ l'.length ≤ l.length ∧
      ((bd' = false ∧ bd = false ∧ l = nodesB f ++ l' ∧ f.high ≤ D) ∨ (bd' = true ∧ (bd = true ∨ ¬ NodesAt (41 - D) l)))
/-- the rows' state in the loop -/
def NodesMid (n D : Nat) (l1 : List UInt8) (b1 : Bool) (f : Fo) (lq : List UInt8) (bq : Bool) : Prop :=
  (bq = false ∧ b1 = false ∧ l1 = foB f ++ lq ∧ f.high ≤ D) ∨ (bq = true ∧ (b1 = true ∨ ∃ (g : Fo) (lr : List UInt8), g.fit ∧ l1 = foB g ++ lr ∧ g.len < n ∧ ¬ NodeAt (41 - D) lr))
theorem mid_end {n D : Nat} {l l1 lq : List UInt8} {bd b1 bq : Bool} {f : Fo} (hn : n ≤ max63) (hm : NodesMid n D l1 b1 f lq bq) (hfit : f.fit) (hlen : bq = false → f.len = n)
    (hX : (l = num8 (n : Nat) ++ l1 ∧ b1 = bd) ∨ (n = 0 ∧ b1 = true ∧ (l.length < 8 ∨ ∃ (m : Int) (l1 : List UInt8), is63 m ∧ l = num8 m ++ l1 ∧ ¬ (0 ≤ m ∧ m ≤ (l1.length : Int) / ((25 : Nat) : Int))))) :
    (bq = false ∧ bd = false ∧ l = nodesB f ++ lq ∧ f.high ≤ D) ∨ (bq = true ∧ (bd = true ∨ ¬ NodesAt (41 - D) l)) := by
  rcases hm with ⟨e1, e2, e3, e4⟩ | ⟨e1, h⟩
  · rcases hX with ⟨g1, g2⟩ | ⟨_, g2, _⟩
    · refine .inl ⟨e1, by rw [← g2, e2], ?_, e4⟩
      rw [g1, e3, ← List.append_assoc]
      unfold nodesB
      rw [hlen e1]
    · rw [e2] at g2; cases g2
  · refine .inr ⟨e1, ?_⟩
    rcases hX with ⟨g1, g2⟩ | ⟨_, g2, hno⟩
    · rcases h with h | ⟨g, lr, q1, q2, q3, q4⟩
      · exact .inl (by rw [← g2, h])
      · right
        rw [g1]
        exact nodes_next (is63_nat hn) q1 q2 (by omega) q4
    · right
      rcases hno with h8 | ⟨m, l2, hm, rfl, hg⟩
      · exact nodes_short h8
      · exact nodes_guard25 hm hg
theorem mid_step {n D : Nat} {l1 lq la lb lc ld : List UInt8} {b1 ba bb bc be : Bool} {f ks : Fo} {x : UInt8} {s : ByteArray} {m : Int} (hD : 0 < D) (hm : NodesMid n D l1 b1 f lq false) (hf : f.fit) (hlt : f.len < n) (hs : s.size ≤ max63) (hn : is63 m)
    (h1 : (lq = x :: la ∧ ba = false) ∨ (lq = [] ∧ la = [] ∧ ba = true)) (h2 : (la = txtB s ++ lb ∧ bb = ba) ∨ (bb = true ∧ ¬ TextAt la)) (h3 : (lb = num8 m ++ lc ∧ bc = bb) ∨ (lb.length < 8 ∧ bc = true ∧ lc = []))
    (h4 : (be = false ∧ bc = false ∧ lc = nodesB ks ++ ld ∧ ks.high ≤ D - 1) ∨ (be = true ∧ (bc = true ∨ ¬ NodesAt (41 - (D - 1)) lc))) (hD2 : D ≤ 41) : NodesMid n D l1 b1 (f.app (.cons x.toNat s m ks .nil)) ld be := by
  rcases hm with ⟨_, e2, e3, e4⟩ | ⟨e1, _⟩
  case inr => cases e1
  have bad : be = true → (¬ NodeAt (41 - D) lq) → NodesMid n D l1 b1 (f.app (.cons x.toNat s m ks .nil)) ld be := fun hb hno => .inr ⟨hb, .inr ⟨f, lq, hf, e3, hlt, hno⟩⟩
  rcases h4 with ⟨q1, q2, q3, q4⟩ | ⟨q1, hq⟩
  · -- all went well
    rcases h3 with ⟨r1, r2⟩ | ⟨_, r2, _⟩
    · rcases h2 with ⟨s1, s2⟩ | ⟨s1, _⟩
      · rcases h1 with ⟨t1, t2⟩ | ⟨_, _, t2⟩
        · refine .inl ⟨q1, e2, ?_, ?_⟩
          · rw [e3, t1, s1, r1, q3, foB_app, foB_cons]
            simp [foB, nodeB]
          · rw [Fo.high_app]
            simp only [Fo.high]
            omega
        · rw [← s2, ← r2, q2] at t2; cases t2
      · rw [← r2, q2] at s1; cases s1
    · rw [q2] at r2; cases r2
  · refine bad q1 ?_
    rcases h1 with ⟨t1, t2⟩ | ⟨t1, _, _⟩
    · rw [t1]
      rcases h2 with ⟨s1, s2⟩ | ⟨_, s1⟩
      · rw [s1]
        rcases h3 with ⟨r1, r2⟩ | ⟨r1, _, _⟩
        · rw [r1]
          rcases hq with hq | hq
          · rw [r2, s2, t2] at hq; cases hq
          · refine node_no3 hs hn ?_
            rwa [show 41 - D + 1 = 41 - (D - 1) by omega]
        · exact node_no2 hs r1
      · exact node_no1 s1
    · exact node_short (.inl t1)

theorem mid_start (n D : Nat) (l1 : List UInt8) (b1 : Bool) : NodesMid n D l1 b1 .nil l1 b1 := by
  cases b1
  · exact .inl ⟨rfl, rfl, rfl, by simp [Fo.high]⟩
  · exact .inr ⟨rfl, .inl rfl⟩
set_option maxHeartbeats 4000000 in
set_option maxRecDepth 1000000 in
theorem nodes24r_of {D B rb : Nat} {w : World} {l : List UInt8} {bd : Bool} (hD : D ≤ 41) (hkids : 0 < D → ∀ (w : World) (l : List UInt8) (bd : Bool), Rdb B rb w l bd → l.length ≤ lid → Calls Tryz.prog 151 #[.pointer (some ⟨rb, 0, none⟩), .int .i64 ((D : Int) - 1)] w (NodesPostR B rb (D - 1) w l bd))
    (h : Rdb B rb w l bd) (hl : l.length ≤ lid) : Calls Tryz.prog 151 #[.pointer (some ⟨rb, 0, none⟩), .int .i64 D] w (NodesPostR B rb D w l bd) := by
  have hrb := h.lt
  have Hkids := hide hkids
  have HM : Hid (Calls Tryz.prog 149 #[.pointer (some ⟨rb, 0, none⟩), .int .i64 25] w (ManyPost B rb 25 w l bd)) := hide (many24_any (least := 25) h (by decide) (by decide))
  obtain ⟨i0, hi, hz0, hz1, hz2⟩ := info_parts InfoNode
  have hll : l.length ≤ 1099511627776 := hl
  clear h hkids hl
  by_cases hD0 : D = 0
  · subst hD0
    go_enter Tryz.func151, Tryz.ntmps151
    go_wp2_with (go_at_call 149; (with_reducible refine HM.out.mono ?_); rintro e w1 ⟨n, l1, b1, rfl, hn, hr, hs, hle, hx⟩; obtain ⟨A1, c1, k0, k1, k2, k3, _, _, _⟩ := hr.cells; have HR := hide hr; have HS := hide hs; have HX := hide hx; clear hr hs hx; rcases n with _ | n)
    · go_loopw [5, 7] (fun v i wr => v = .slice none 0 0 ∧ i = .int .i64 0 ∧ wr = w1) (fun _ _ _ => 0)
      case atStart => exact ⟨rfl, rfl, rfl⟩
      case round =>
        obtain ⟨rfl, rfl, rfl⟩ := hrel
        go_wp2_with fail
        go_ret
        exact ⟨.nil, l1, b1, none, 0, rfl, trivial, trivial, Nat.le_refl _, by omega, HR.out, HS.out, hle, mid_end (by decide) (mid_start 0 0 l1 b1) trivial (fun _ => rfl) (HX.out.imp id fun h => ⟨rfl, h.2⟩)⟩
    · go_ret
      exact ⟨.nil, l1, true, none, 0, rfl, trivial, trivial, Nat.le_refl _, by omega, HR.out.setBad, HS.out.set 1 _, hle, .inr ⟨rfl, .inr (by rintro ⟨f, _, _, h, _⟩; omega)⟩⟩
  · have hD1 : ((D : Int) == 0) = false := by rw [beq_eq_false_iff_ne]; omega
    go_enter Tryz.func151, Tryz.ntmps151
    go_wp2_with (go_at_call 149; (with_reducible refine HM.out.mono ?_); rintro e w1 ⟨n, l1, b1, rfl, hn, hr, hs, hle, hx⟩; have HR := hide hr; have HS := hide hs; have HX := hide hx; clear hr hs hx; by_cases hn0 : n = 0)
    · subst hn0
      go_loopw [5, 7] (fun v i wr => v = .slice none 0 0 ∧ i = .int .i64 0 ∧ wr = w1) (fun _ _ _ => 0)
      case atStart => exact ⟨rfl, rfl, rfl⟩
      case round =>
        obtain ⟨rfl, rfl, rfl⟩ := hrel
        go_wp2_with fail
        go_ret
        exact ⟨.nil, l1, b1, none, 0, rfl, trivial, trivial, Nat.le_refl _, by omega, HR.out, HS.out, hle, mid_end (by decide) (mid_start 0 D l1 b1) trivial (fun _ => rfl) (HX.out.imp id fun h => ⟨rfl, h.2⟩)⟩
    · go_loopw [5, 7] (fun v i wr => ∃ (f : Fo) (vs : List Value) (lq : List UInt8) (bq : Bool), i = .int .i64 f.len ∧ f.len ≤ n ∧ Hid (NodesMid n D l1 b1 f lq bq) ∧ Hid f.fit ∧ Hid (wr.ownsRow 0 55 4 v f.len vs) ∧ Hid (∀ g, v.ownBlock = some g → w.heap.size ≤ g) ∧
          Hid (FoCells (fun b => w.heap.size ≤ b ∧ v.ownBlock ≠ some b) wr vs f) ∧ Hid (Rdb B rb wr lq bq) ∧ Hid (Side rb w wr) ∧ lq.length ≤ l1.length) (fun _ i _ => (n - intOf i).toNat)
      case atStart => exact ⟨.nil, [], l1, b1, rfl, Nat.zero_le _, hide (mid_start n D l1 b1), hide trivial, hide (World.ownsRow_nil _ _ _ _), hide (by simp [Value.ownBlock]), hide rfl, HR, HS, Nat.le_refl _⟩
      case round =>
        obtain ⟨f, vs, lq, bq, rfl, hle2, Hm, Hf, Ho, Hg, Hc, Hq, HS2, hlq⟩ := hrel
        have hwr := HS2.out.size
        obtain ⟨A1, c1, k0, k1, k2, k3, _, _, _⟩ := Hq.out.cells
        clear k0 k2 k3
        by_cases hlt : f.len < n
        · cases bq
          · go_wp2_with (first
              | (go_at_call 95; (with_reducible refine (byte24_any Hq.out).mono ?_); rintro e w3 ⟨x, la, ba, rfl, hr3, hs3, hx3⟩; have HR3 := hide (hr3.alloc (.cells #[.int .u8 x.toNat, .string ⟨#[]⟩, .int .i64 0, .slice none 0 0] 55)); have HS3 := hide hs3; have HX3 := hide hx3; have hz3 := hs3.size; have hle3 : la.length ≤ lq.length := (by rcases hx3 with ⟨e, _⟩ | ⟨_, e, _⟩ <;> rw [e] <;> simp); clear hr3 hs3 hx3)
              | (go_at_call 96; (with_reducible refine (text24r_any HR3.out (by simp only [max63]; omega)).mono ?_); rintro e w4 ⟨s, lb, bb, rfl, hsz, hr4, hs4, hle4, hx4⟩; obtain ⟨ia4, ib4, ic4⟩ := hs4.box (N := w3.heap.size) (by simp) (by omega); have HR4 := hide (hr4.setNew (a := ⟨w3.heap.size, 1, none⟩) (by show rb < w3.heap.size; omega) (.string s)); have HS4 : Hid (Side rb wr (w4.setCell ⟨w3.heap.size, 1, none⟩ (.string s))) := hide (Side.setNew (Side.trans (Side.alloc HS3.out _) hs4) (a := ⟨w3.heap.size, 1, none⟩) hz3 _); have HX4 := hide hx4; clear hr4 hs4 hx4)
              | (go_at_call 97; (with_reducible refine (number24r_any HR4.out).mono ?_); rintro e w5 ⟨m, lc, bc, rfl, hm, hr5, hs5, hle5, hx5⟩; obtain ⟨ia5, ib5, ic5⟩ := hs5.box (N := w3.heap.size) (by simp; omega) (by omega); have HR5 := hide (hr5.setNew (a := ⟨w3.heap.size, 2, none⟩) (by show rb < w3.heap.size; omega) (.int .i64 m)); have HS5 : Hid (Side rb wr (w5.setCell ⟨w3.heap.size, 2, none⟩ (.int .i64 m))) := hide (Side.setNew (Side.trans HS4.out hs5) (a := ⟨w3.heap.size, 2, none⟩) hz3 _); have HX5 := hide hx5; have HM5 := hide hm; clear hr5 hs5 hx5 hm)
              | (go_at_call 151; (with_reducible refine (Hkids.out (by omega) _ _ _ HR5.out (by simp only [lid]; omega)).mono ?_); rintro e w6 ⟨ks, ld, be, KA, kc, rfl, hin, hkf, hk1, hk2, hr6, hs6, hle6, hx6⟩; obtain ⟨ia6, ib6, ic6⟩ := hs6.box (N := w3.heap.size) (by simp; omega) (by omega); have HR6 := hide (hr6.setNew (a := ⟨w3.heap.size, 3, none⟩) (by show rb < w3.heap.size; omega) (.slice KA ks.len kc)); have HS6 : Hid (Side rb wr (w6.setCell ⟨w3.heap.size, 3, none⟩ (.slice KA ks.len kc))) := hide (Side.setNew (Side.trans HS5.out hs6) (a := ⟨w3.heap.size, 3, none⟩) hz3 _); have hz6 : w5.heap.size ≤ w6.heap.size := (by have := hs6.size; simpa using this); have HX6 := hide hx6; have Hin := hide hin; have Hkf := hide hkf; clear hr6 hs6 hx6 hin hkf)
              | (at_builtin; refine wpList_append_own2 _ rfl _ _ 28 rfl 55 i0 (.agg #[.int .u8 0, .string ByteArray.empty, .int .i64 0, .slice none 0 0]) 4 56 Tryz.underlying28 hi hz0 hz1 hz2 rfl (by decide) _ f.len vs rfl ((own_side Ho.out (fun g hg => by have := Hg.out g hg; omega) HS6.out).alloc _) ⟨w6.heap.size, 0, none⟩ 1 1 [.int .u8 x.toNat, .string s, .int .i64 m, .slice KA ks.len kc] rfl rfl (by have := cell_four_new (w6.setCell ⟨w3.heap.size, 3, none⟩ (.slice KA ks.len kc)) (.int .u8 x.toNat) (.string s) (.int .i64 m) (.slice KA ks.len kc) 55; simpa using this) (by intro u hu; simp at hu; rcases hu with rfl | rfl | rfl | rfl <;> rfl) (by unfold maxLen; omega) (by omega) ?_))
            intro v' w8 hown hgrow hnil hwhere
            have hx256 := x.toNat_lt
            have hS7 := HS6.out
            have hsz7 := hS7.size
            have hz7 : (w6.setCell ⟨w3.heap.size, 3, none⟩ (.slice KA ks.len kc)).heap.size = w6.heap.size := by simp [World.setCell]
            have hlen1 : (f.app (.cons x.toNat s m ks .nil)).len = f.len + 1 := by rw [Fo.len_app]; rfl
            have hc3 : FoCells (fun b => w.heap.size ≤ b ∧ v'.ownBlock ≠ some b) w8 (vs ++ [.int .u8 x.toNat, .string s, .int .i64 m, .slice KA ks.len kc]) (f.app (.cons x.toNat s m ks .nil)) := by
              refine FoCells.snoc (by omega) hsz HM5.out hk1 hk2 ?_ ?_
              · have hi2 : FoIn (fun b => w5.heap.size ≤ b ∧ b < w6.heap.size) w6 KA ks := Hin.out.mono fun b hb hS => ⟨by simpa using hS, hb⟩
                refine (hi2.keep (w' := w8) fun b hb => ?_).mono fun b _ hb => ⟨by omega, fun e => ?_⟩
                · rw [hgrow.block b (by simp; omega) (fun e => by have := (Ho.out.lt b e.symm).2; omega), Below.heap_alloc _ _ b (by omega)]
                  exact Below.heap_setCell _ _ _ b (by show b ≠ w3.heap.size; omega)
                · rcases hwhere with e2 | e2
                  · have := (Ho.out.lt b (e2 ▸ e)).2; omega
                  · rw [e] at e2; injection e2 with e2; (try simp at e2); omega
              · refine FoCells.keep (fun b hb hS => ?_) (fun b hb hS => ⟨hS.1, fun e => ?_⟩) Hc.out
                · rw [hgrow.block b (by simp; omega) (fun e => hS.2 e.symm), Below.heap_alloc _ _ b (by omega)]
                  exact hS7.block b ⟨hb, by have := hS.1; omega⟩
                · rcases hwhere with e2 | e2
                  · exact hS.2 (e2 ▸ e)
                  · rw [e] at e2; injection e2 with e2; (try simp at e2); omega
            have HC3 := hide hc3
            have Hown := hide hown
            have Hgrow := hide hgrow
            have Hw := hide hwhere
            clear hc3 hown hgrow hnil hwhere hS7
            go_wp2
            refine ⟨⟨f.app (.cons x.toNat s m ks .nil), _, ld, be, by rw [hlen1]; simp, by rw [hlen1]; omega, hide ?_, hide ?_, hide ?_, hide ?_, hide HC3.out, hide ?_, hide ?_, by omega⟩, by simp [intOf]; omega⟩
            · exact mid_step (by omega) Hm.out Hf.out hlt hsz HM5.out HX3.out HX4.out HX5.out HX6.out hD
            · exact Fo.fit_app.mpr ⟨Hf.out, by omega, hsz, HM5.out, Nat.le_trans hk1 hk2, Hkf.out, trivial⟩
            · rw [hlen1]; exact Hown.out
            · intro g hg
              rcases Hw.out with e | e
              · exact Hg.out g (e ▸ hg)
              · rw [hg] at e; injection e with e; (try simp at e); omega
            · exact (HR6.out.alloc _).grown Hgrow.out (fun k hk => by have := Hg.out k hk; omega)
            · exact Keep.grown (Side.alloc (Side.trans HS2.out HS6.out) _) Hgrow.out (fun k hk => hk.1) (fun k hk hp => absurd hp.1 (by have := Hg.out k hk; omega))
          · go_wp2_with fail
            obtain ⟨A2, c2, rfl, hrd, hc2, hc3⟩ := own_fo Ho.out Hg.out Hc.out rfl
            go_ret
            exact ⟨f, lq, _, _, _, rfl, hrd, Hf.out, hc2, hc3, Hq.out, HS2.out, by omega, mid_end (by simp only [max63]; omega) Hm.out Hf.out (by first | (intro _; omega) | (intro h; cases h)) HX.out⟩
        · go_wp2_with fail
          obtain ⟨A2, c2, rfl, hrd, hc2, hc3⟩ := own_fo Ho.out Hg.out Hc.out rfl
          go_ret
          exact ⟨f, lq, _, _, _, rfl, hrd, Hf.out, hc2, hc3, Hq.out, HS2.out, by omega, mid_end (by simp only [max63]; omega) Hm.out Hf.out (by first | (intro _; omega) | (intro h; cases h)) HX.out⟩
theorem nodes24r_upto (D : Nat) : D ≤ 41 → ∀ (B rb : Nat) (w : World) (l : List UInt8) (bd : Bool), Rdb B rb w l bd → l.length ≤ lid → Calls Tryz.prog 151 #[.pointer (some ⟨rb, 0, none⟩), .int .i64 D] w (NodesPostR B rb D w l bd) := by
  induction D with
  | zero => exact fun hD B rb w l bd h hl => nodes24r_of hD (fun h => absurd h (Nat.lt_irrefl _)) h hl
  | succ D ih =>
    intro hD B rb w l bd h hl
    refine nodes24r_of hD (fun _ w l bd h hl => ?_) h hl
    have := ih (by omega) B rb w l bd h hl
    have e : (((D + 1 : Nat) : Int) - 1) = (D : Int) := by omega
    rw [e]
    exact this

end Go.Proofs.YtfhfkbdaglegpaaGreatDoor
