/- The writer of bytes: its row of bytes in memory; put, number, text. -/
import Derived.Test.YtfhfkbdaglegpaaGreatDoorProg
import Derived.OwnWalk
import Derived.Laws.AppendOwn
import Derived.Laws.OwnMore
import Derived.Laws.IdiomStrings
import Derived.Test.YtfhfkbdaglegpaaGreatDoorGKeep
import Derived.Test.YtfhfkbdaglegpaaGreatDoorGBase
import Derived.Test.YtfhfkbdaglegpaaGreatDoorGPatRight

set_option linter.unusedVariables false
set_option linter.unusedSimpArgs false

namespace Go.Proofs.YtfhfkbdaglegpaaGreatDoor
open Go.RowKit

/-- block wb holds a writer that has written the bytes l; none of the blocks P is its -/
def Buf (P : Nat → Prop) (wb : Nat) (w : World) (l : List UInt8) : Prop :=
  ∃ v, w.cell? ⟨wb, 0, none⟩ = some v ∧ w.frozen? ⟨wb, 0, none⟩ = false ∧ ¬ P wb ∧ (∀ k, P k → k < w.heap.size) ∧ w.ownsRow 0 5 1 v l.length (bytesV l) ∧
    (∀ g, v.ownBlock = some g → g ≠ wb ∧ ¬ P g) ∧ (v = .slice none 0 0 ∨ l ≠ [])
abbrev lid : Nat := 1099511627776

theorem grownBy_setCell (w : World) (a : Addr) (u : Value) : w.grownBy (w.setCell a u) (some a.block) :=
  ⟨rfl, rfl, rfl, by simp [World.setCell], fun k _ hne => Below.heap_setCell w a u k (fun e => hne (by rw [e]))⟩
theorem bytesV_app (l m : List UInt8) : bytesV (l ++ m) = bytesV l ++ bytesV m := by simp [bytesV]
section
variable {P P' : Nat → Prop} {wb : Nat} {w : World} {l : List UInt8}
theorem Buf.lt (h : Buf P wb w l) : wb < w.heap.size := by
  obtain ⟨v, h0, _⟩ := h
  exact World.block_lt_of_cell? _ _ h0
theorem Buf.lts (h : Buf P wb w l) : ∀ k, P k → k < w.heap.size := by
  obtain ⟨v, _, _, _, h3, _⟩ := h
  exact h3
theorem Buf.mono (h : Buf P' wb w l) (hp : ∀ k, P k → P' k) : Buf P wb w l := by
  obtain ⟨v, h0, h1, h2, h3, h4, h5, h6⟩ := h
  exact ⟨v, h0, h1, fun a => h2 (hp _ a), fun k hk => h3 k (hp k hk), h4, fun g hg => ⟨(h5 g hg).1, fun a => (h5 g hg).2 (hp g a)⟩, h6⟩
theorem Buf.alloc (h : Buf P wb w l) (o : Obj) : Buf P wb (w.alloc o) l := by
  have hlt := h.lt
  obtain ⟨v, h0, h1, h2, h3, h4, h5, h6⟩ := h
  have hb := below_alloc w o
  exact ⟨v, (hb.cell (p := ⟨wb, 0, none⟩) hlt).trans h0, (hb.frozen (p := ⟨wb, 0, none⟩) hlt).trans h1, h2, fun k hk => Nat.lt_of_lt_of_le (h3 k hk) hb.size, h4.alloc o, h5, h6⟩
/-- a new block is protected too -/
theorem Buf.box (h : Buf P wb w l) (o : Obj) : Buf (fun k => P k ∨ k = w.heap.size) wb (w.alloc o) l := by
  have hlt := h.lt
  have ha := h.alloc o
  obtain ⟨v, h0, h1, h2, h3, h4, h5, h6⟩ := h
  obtain ⟨v', a0, a1, a2, a3, a4, a5, a6⟩ := ha
  have hv : v' = v := by
    have hb := (below_alloc w o).cell (p := ⟨wb, 0, none⟩) hlt
    rw [a0, h0] at hb
    injection hb
  subst hv
  refine ⟨v', a0, a1, fun e => e.elim a2 (fun e => by omega), fun k hk => hk.elim (a3 k) (fun e => by subst e; simp), a4, fun g hg => ⟨(a5 g hg).1, fun e => e.elim (a5 g hg).2 (fun e => ?_)⟩, a6⟩
  have := (h4.lt g hg).2
  omega
theorem Buf.drew (h : Buf P wb w l) : Buf P wb w.drew l := h
theorem Buf.drewN (h : Buf P wb w l) (n : Nat) : Buf P wb (w.drewN n) l := h
end

theorem Tryu8 : (Tryz.prog.info? 5).map (fun i => (i.zero, i.size, i.bytes)) = some (some (.int .u8 0), 1, 1) := by kernel_rfl

set_option maxHeartbeats 1000000 in
set_option maxRecDepth 1000000 in
theorem put_any {P : Nat → Prop} {wb : Nat} {w : World} {l news : List UInt8} {b o c : Nat} (h : Buf P wb w l) (hn : ∀ j u, (bytesV news)[j]? = some u → w.cell? ((⟨b, o, none⟩ : Addr).add j) = some u) (hlen : l.length + news.length ≤ lid) :
    Calls Tryz.prog 54 #[.pointer (some ⟨wb, 0, none⟩), .slice (some ⟨b, o, none⟩) news.length c] w fun e w' => e = .returned (.tuple #[]) ∧ Buf P wb w' (l ++ news) ∧ Keep P w w' := by
  have hlt := h.lt
  obtain ⟨v, h0, hf, hB, hP, hown, hne, hnil0⟩ := h
  obtain ⟨i0, hi, hz0, hz1, hz2⟩ := info_parts Tryu8
  have Hown := hide hown
  have Hn := hide hn
  obtain ⟨A, c0, rfl⟩ := own_shape hown
  have Hne := hide hne
  have Hnil := hide hnil0
  have HP := hide hP
  have HBn := hide hB
  have Hlo := hide hown.lt
  clear hown hn hne hnil0 hP hB
  go_enter Tryz.func54, Tryz.ntmps54
  go_wp2_with (at_builtin; refine wpList_append_own2 _ rfl _ _ 36 rfl 5 i0 (.int .u8 0) 1 1 Tryz.underlying36 hi hz0 hz1 hz2 rfl (by decide) _ l.length (bytesV l) rfl Hown.out ⟨b, o, none⟩ news.length c (bytesV news) rfl (by simp [bytesV]) Hn.out (by intro u hu; simp [bytesV] at hu; obtain ⟨x, _, rfl⟩ := hu; rfl) (by unfold maxLen; simp only [lid] at hlen; omega) (by simp only [lid] at hlen; omega) ?_)
  intro v' w1 hown' hgrow hnil hown2
  have k0 := hgrow.cell h0 (fun e => (Hne.out _ e.symm).1 rfl)
  have k1 := (World.frozen?_of_block (a := ⟨wb, 0, none⟩) (hgrow.block wb hlt (fun e => (Hne.out _ e.symm).1 rfl))).trans hf
  obtain ⟨A', c', rfl⟩ := own_shape hown'
  have Hgrow := hide hgrow
  have Hown' := hide hown'
  have Hnil' := hide hnil
  have Hown2 := hide hown2
  clear hown' hgrow hnil hown2
  go_wp2
  go_end0
  have hne' : (Value.slice A' (l.length + news.length) c').ownBlock ≠ some wb := by
    intro e
    by_cases h0' : l.length + news.length = 0
    · have hl : l = [] := List.eq_nil_of_length_eq_zero (by omega)
      have hn' : news = [] := List.eq_nil_of_length_eq_zero (by omega)
      have hv := Hnil.out.resolve_right (fun hn => hn hl)
      have h1 := Hnil'.out
      subst hl
      subst hn'
      simp only [Value.slice.injEq] at hv
      rw [h1.mpr ⟨⟨hv.1, rfl, hv.2.2⟩, rfl⟩] at e
      cases e
    · have hc := Hown'.out.cells e 0
      obtain ⟨x, hx⟩ : ∃ x, (bytesV l ++ bytesV news)[0]? = some (.int .u8 x) := by
        rw [← bytesV_app]
        cases hq : l ++ news with
        | nil => rw [← List.length_append, hq] at h0'; exact absurd rfl h0'
        | cons c r => exact ⟨_, rfl⟩
      have := hc _ hx
      rw [show ((⟨wb, 0, none⟩ : Addr).add 0) = ⟨wb, 0, none⟩ from rfl, k0] at this
      cases this
  have hown2 : ∀ g, (Value.slice A' (l.length + news.length) c').ownBlock = some g → g ≠ wb ∧ ¬ P g := by
    intro g hg
    refine ⟨fun e => hne' (by rw [hg, e]), fun hp => ?_⟩
    rcases Hown2.out with e | e
    · rw [hg] at e
      exact (Hne.out g e.symm).2 hp
    · rw [hg] at e
      injection e with e
      have := HP.out g hp
      omega
  have hB1 : Keep P w w1 := (Keep.refl P w).grown Hgrow.out HP.out (fun k hk => (Hne.out k hk).2)
  refine ⟨rfl, ⟨_, World.cell?_setCell_same _ _ _ k0, ?_, HBn.out, fun k hk => Nat.lt_of_lt_of_le (HP.out k hk) (hB1.setCell (a := ⟨wb, 0, none⟩) HBn.out _).size, ?_, hown2, ?_⟩, hB1.setCell HBn.out _⟩
  · rw [World.frozen?_setCell]; exact k1
  · rw [bytesV_app, List.length_append]
    exact Hown'.out.kept (grownBy_setCell _ _ _) (.inr hne')
  · by_cases h0' : l ++ news = []
    · have hl : l = [] := (List.append_eq_nil_iff.mp h0').1
      have hn' : news = [] := (List.append_eq_nil_iff.mp h0').2
      have hv := Hnil.out.resolve_right (fun hn => hn hl)
      have h1 := Hnil'.out
      subst hl
      subst hn'
      simp only [Value.slice.injEq] at hv
      exact .inl (h1.mpr ⟨⟨hv.1, rfl, hv.2.2⟩, rfl⟩)
    · exact .inr h0'

/-! ### a number -/
theorem byte_new (w : World) (e : TypeId) (x : UInt8) (c : Int) (hx : c = (x.toNat : Int)) :
    ∀ j u, (bytesV [x])[j]? = some u → (w.alloc (.cells #[.int .u8 c] e)).cell? ((⟨w.heap.size, 0, none⟩ : Addr).add j) = some u := by
  subst hx
  exact cell_one_new w (.int .u8 x.toNat) e
theorem num8_at (n : Int) (j : Nat) (hj : j < 8) : IntKind.u64.wrap n / 2 ^ (56 - 8 * j) % 256 = (((num8 n)[j]'hj).toNat : Int) := by
  have hw : IntKind.u64.wrap n = n % 18446744073709551616 := by simp [IntKind.wrap, IntKind.bits, IntKind.signed]
  rw [hw]
  match j, hj with
  | 0, _ => simp [num8]; omega
  | 1, _ => simp [num8]; omega
  | 2, _ => simp [num8]; omega
  | 3, _ => simp [num8]; omega
  | 4, _ => simp [num8]; omega
  | 5, _ => simp [num8]; omega
  | 6, _ => simp [num8]; omega
  | 7, _ => simp [num8]; omega
theorem num8_next (n : Int) (j : Nat) (hj : j < 8) : (num8 n).take (j + 1) = (num8 n).take j ++ [(num8 n)[j]'hj] := by
  rw [List.take_succ_eq_append_getElem]; rfl
set_option maxHeartbeats 1000000 in
set_option maxRecDepth 1000000 in
theorem number_put {P : Nat → Prop} {wb : Nat} {w : World} {l : List UInt8} {n : Int} (h : Buf P wb w l) (hn : is63 n) (hlen : l.length + 8 ≤ lid) :
    Calls Tryz.prog 56 #[.pointer (some ⟨wb, 0, none⟩), .int .i64 n] w fun e w' => e = .returned (.tuple #[]) ∧ Buf P wb w' (l ++ num8 n) ∧ Keep P w w' := by
  have H := hide h
  unfold is63 at hn
  clear h
  go_enter Tryz.func56, Tryz.ntmps56
  go_wp2_with fail
  go_loopw [4] (fun s wr => ∃ j : Nat, j ≤ 8 ∧ s = .int .i64 (56 - 8 * (j : Int)) ∧ Hid (Buf P wb wr (l ++ (num8 n).take j)) ∧ Hid (Keep P w wr)) (fun s _ => (intOf s + 8).toNat)
  case atStart => exact ⟨0, by omega, rfl, hide (by simpa using H.out), hide (Keep.refl _ _)⟩
  case round =>
    obtain ⟨j, hj, rfl, HB, HW⟩ := hrel
    by_cases hlt : j < 8
    · go_wp2_with (go_at_call 54; refine (put_any (news := [(num8 n)[j]'hlt]) (HB.out.alloc _) (byte_new _ _ _ _ (num8_at n j hlt)) (by simp [num8_len]; omega)).mono ?_; rintro e w1 ⟨rfl, hb, hB⟩; have HB1 := hide hb; have HW1 := hide (HW.out.trans (((Keep.refl _ _).alloc HB.out.lts _).trans hB)); clear hb hB)
      go_roundw
      case rel => exact ⟨j + 1, by omega, by go_num, hide (by rw [num8_next n j hlt, ← List.append_assoc]; exact HB1.out), HW1⟩
      case measure => simp [intOf]; omega
    · go_wp2_with fail
      go_end0
      have hj8 : j = 8 := by omega
      subst hj8
      exact ⟨rfl, by have := HB.out; rwa [List.take_of_length_le (by rw [num8_len]; omega)] at this, HW.out⟩

end Go.Proofs.YtfhfkbdaglegpaaGreatDoor

namespace Go.Proofs.YtfhfkbdaglegpaaGreatDoor
open Go.RowKit

theorem put_n {P : Nat → Prop} {wb : Nat} {w : World} {l news : List UInt8} {b o c n : Nat} (h : Buf P wb w l) (hnn : news.length = n) (hn : ∀ j u, (bytesV news)[j]? = some u → w.cell? ((⟨b, o, none⟩ : Addr).add j) = some u) (hlen : l.length + n ≤ lid) :
    Calls Tryz.prog 54 #[.pointer (some ⟨wb, 0, none⟩), .slice (some ⟨b, o, none⟩) n c] w fun e w' => e = .returned (.tuple #[]) ∧ Buf P wb w' (l ++ news) ∧ Keep P w w' := by
  subst hnn
  exact put_any h hn hlen
theorem u8_at (k : Nat) (hk : k < 256) : (k : Int) = ((UInt8.ofNat k).toNat : Int) := by simp; omega
/-- one byte -/
theorem put_one {P : Nat → Prop} {wb : Nat} {w : World} {l : List UInt8} {k N : Nat} {ci : Int} {e : TypeId} (h : Buf P wb w l) (hN : N = w.heap.size) (hc : ci = (k : Int)) (hk : k < 256) (hlen : l.length + 1 ≤ lid) :
    Calls Tryz.prog 54 #[.pointer (some ⟨wb, 0, none⟩), .slice (some ⟨N, 0, none⟩) 1 1] (w.alloc (.cells #[.int .u8 ci] e)) fun e w' => e = .returned (.tuple #[]) ∧ Buf P wb w' (l ++ [UInt8.ofNat k]) ∧ Keep P w w' := by
  subst hN
  subst hc
  refine (put_any (news := [UInt8.ofNat k]) (h.alloc _) (byte_new _ _ _ _ (u8_at k hk)) (by simpa using hlen)).mono ?_
  rintro e w1 ⟨rfl, hb, hB⟩
  exact ⟨rfl, hb, ((Keep.refl _ _).alloc h.lts _).trans hB⟩
theorem bytes_new (w : World) (s : ByteArray) (e : TypeId) (cap : Nat) (m : Nat × Nat) :
    ∀ j u, (bytesV s.data.toList)[j]? = some u → (w.alloc (.cells (bytesRow s cap) e m)).cell? ((⟨w.heap.size, 0, none⟩ : Addr).add j) = some u := by
  intro j u hu
  have hj : j < s.data.size := by
    have := (List.getElem?_eq_some_iff.1 hu).1
    simpa [bytesV] using this
  rw [Addr.add_lit, Nat.zero_add, World.cell?_alloc_mark, bytesRow_at s cap j hj]
  simp only [bytesV, List.getElem?_map, Option.map_eq_some_iff] at hu
  obtain ⟨a, ha, rfl⟩ := hu
  rw [Array.getElem?_toList, Array.getElem?_eq_getElem hj] at ha
  injection ha with ha
  rw [ha]

set_option maxHeartbeats 1000000 in
set_option maxRecDepth 1000000 in
theorem text_put {P : Nat → Prop} {wb : Nat} {w : World} {l : List UInt8} {s : ByteArray} (h : Buf P wb w l) (hs : s.size ≤ max63) (hlen : l.length + (txtB s).length ≤ lid) :
    Calls Tryz.prog 55 #[.pointer (some ⟨wb, 0, none⟩), .string s] w fun e w' => e = .returned (.tuple #[]) ∧ Buf P wb w' (l ++ txtB s) ∧ Keep P w w' := by
  have H := hide h
  rw [txtB_len] at hlen
  have hcv := fun w' : World => run_bytes_of_string (P := Tryz.prog) w' 9 36 5 s Tryz.underlying9 Tryz.underlying36 Tryz.underlying5
  have hl : s.data.toList.length = s.size := by simp
  have Hl := hide hl
  clear h hl
  go_enter Tryz.func55, Tryz.ntmps55
  go_wp2_with (first
    | (go_at_call 56; refine (number_put H.out (is63_nat hs) (by omega)).mono ?_; rintro e w1 ⟨rfl, hb, hB⟩; have HB1 := hide hb; have HW1 := hide hB; clear hb hB)
    | (go_at_call 54; refine (put_n (news := s.data.toList) (HB1.out.alloc _).drew Hl.out (bytes_new _ s _ _ _) (by rw [List.length_append, num8_len]; omega)).mono ?_; rintro e w2 ⟨rfl, hb, hB⟩; have HB2 := hide hb; have HW2 := hide (HW1.out.trans ((((Keep.refl _ _).alloc HB1.out.lts _).drew).trans hB)); clear hb hB))
  go_end0
  exact ⟨rfl, by have := HB2.out; rwa [List.append_assoc] at this, HW2.out⟩

theorem Buf.keepIn {S P : Nat → Prop} {w w' : World} (hS : ∀ b, S b → P b) (h : Keep P w w') : ∀ b, S b → w'.heap[b]? = w.heap[b]? := fun b hb => h.block b (hS b hb)
theorem flat_take {α : Type} (enc : α → List UInt8) (l : List α) (q : Nat) (hq : q < l.length) : ((l.take (q + 1)).map enc).flatten = ((l.take q).map enc).flatten ++ enc l[q] := by
  rw [List.take_succ_eq_append_getElem hq]
  simp only [List.map_append, List.flatten_append, List.map_cons, List.map_nil, List.flatten_cons, List.flatten_nil, List.append_nil]
theorem flat_part {α : Type} (enc : α → List UInt8) (l : List α) (q : Nat) (hq : q < l.length) : (((l.take q).map enc).flatten).length + (enc l[q]).length ≤ ((l.map enc).flatten).length := by
  have h : ((l.take (q + 1)).map enc).flatten.length ≤ ((l.map enc).flatten).length := by
    conv => rhs; rw [← List.take_append_drop (q + 1) l]
    rw [List.map_append, List.flatten_append, List.length_append]; omega
  rw [flat_take enc l q hq, List.length_append] at h
  exact h

set_option maxHeartbeats 1000000 in
set_option maxRecDepth 1000000 in
theorem rowStr_put {S : Nat → Prop} {P : Nat → Prop} {wb : Nat} {w : World} {l : List UInt8} {A : Option Addr} {c : Nat} {xs : List ByteArray} (h : Buf P wb w l) (hx : StrsIn S w A xs) (hS : ∀ b, S b → P b) (hlen : l.length + (txtsB xs).length ≤ lid) :
    Calls Tryz.prog 57 #[.pointer (some ⟨wb, 0, none⟩), .slice A xs.length c, .func (.func 55) #[.pointer (some ⟨wb, 0, none⟩)] #[]] w fun e w' => e = .returned (.tuple #[]) ∧ Buf P wb w' (l ++ txtsB xs) ∧ Keep P w w' := by
  have H := hide h
  have Hx := hide hx
  have HS := hide hS
  have hxl : xs.length ≤ 9223372036854775807 := hx.2.2
  have Hlen := hide hlen
  have hlen8 : l.length + 8 ≤ lid := by
    simp only [txtsB, List.length_append, num8_len] at hlen
    omega
  clear h hx hS hlen
  go_enter Tryz.func57, Tryz.ntmps57
  go_wp2_with (go_at_call 56; refine (number_put H.out (is63_nat hxl) hlen8).mono ?_; rintro e w1 ⟨rfl, hb, hB⟩; have HB1 := hide hb; have HW1 := hide hB; clear hb hB)
  go_loopw [14, 7] (fun i _ wr => ∃ q : Nat, q ≤ xs.length ∧ i = .int .i64 q ∧ Hid (Buf P wb wr (l ++ (num8 xs.length ++ ((xs.take q).map txtB).flatten))) ∧ Hid (Keep P w wr)) (fun i _ _ => xs.length - (intOf i).toNat)
  case atStart => exact ⟨0, Nat.zero_le _, rfl, hide (by simpa using HB1.out), HW1⟩
  case round =>
    obtain ⟨q, hq, rfl, HB, HW⟩ := hrel
    by_cases hlt : q < xs.length
    · obtain ⟨b, o, rfl, hc⟩ := (Hx.out.keep (Buf.keepIn HS.out HW.out)).1.at_ (j := q) (by simpa using hlt)
      simp only [List.getElem_map] at hc
      have Hone := hide (Hx.out.2.1 xs[q] (List.getElem_mem hlt))
      have Hl1 : Hid ((l ++ (num8 xs.length ++ ((xs.take q).map txtB).flatten)).length + (txtB xs[q]).length ≤ lid) := by
        have h1 := Hlen.out
        have h2 := flat_part txtB xs q hlt
        simp only [txtsB, List.length_append] at h1
        refine hide ?_
        simp only [List.length_append]
        omega
      go_wp2_with (go_at_call 55; refine (text_put HB.out Hone.out Hl1.out).mono ?_; rintro e w2 ⟨rfl, hb, hB⟩; have HB2 := hide hb; have HW2 := hide (HW.out.trans hB); clear hb hB)
      go_roundw
      case rel => exact ⟨q + 1, by omega, by go_num, hide (by rw [flat_take txtB xs q hlt]; have := HB2.out; simpa [List.append_assoc] using this), HW2⟩
      case measure => simp [intOf]; omega
    · go_wp2_with fail
      go_end0
      have hq8 : q = xs.length := by omega
      subst hq8
      exact ⟨rfl, by have := HB.out; rwa [List.take_length] at this, HW.out⟩

set_option maxHeartbeats 1000000 in
set_option maxRecDepth 1000000 in
theorem rowInt_put {S : Nat → Prop} {P : Nat → Prop} {wb : Nat} {w : World} {l : List UInt8} {A : Option Addr} {c : Nat} {xs : List Int} (h : Buf P wb w l) (hx : IntsIn S w A xs) (hS : ∀ b, S b → P b) (hlen : l.length + (pathB xs).length ≤ lid) :
    Calls Tryz.prog 118 #[.pointer (some ⟨wb, 0, none⟩), .slice A xs.length c, .func (.func 56) #[.pointer (some ⟨wb, 0, none⟩)] #[]] w fun e w' => e = .returned (.tuple #[]) ∧ Buf P wb w' (l ++ pathB xs) ∧ Keep P w w' := by
  have H := hide h
  have Hx := hide hx
  have HS := hide hS
  have hxl : xs.length ≤ 9223372036854775807 := hx.2.2
  have Hlen := hide hlen
  have hlen8 : l.length + 8 ≤ lid := by
    simp only [pathB, List.length_append, num8_len] at hlen
    omega
  clear h hx hS hlen
  go_enter Tryz.func118, Tryz.ntmps118
  go_wp2_with (go_at_call 56; refine (number_put H.out (is63_nat hxl) hlen8).mono ?_; rintro e w1 ⟨rfl, hb, hB⟩; have HB1 := hide hb; have HW1 := hide hB; clear hb hB)
  go_loopw [14, 7] (fun i _ wr => ∃ q : Nat, q ≤ xs.length ∧ i = .int .i64 q ∧ Hid (Buf P wb wr (l ++ (num8 xs.length ++ ((xs.take q).map num8).flatten))) ∧ Hid (Keep P w wr)) (fun i _ _ => xs.length - (intOf i).toNat)
  case atStart => exact ⟨0, Nat.zero_le _, rfl, hide (by simpa using HB1.out), HW1⟩
  case round =>
    obtain ⟨q, hq, rfl, HB, HW⟩ := hrel
    by_cases hlt : q < xs.length
    · obtain ⟨b, o, rfl, hc⟩ := (Hx.out.keep (Buf.keepIn HS.out HW.out)).1.at_ (j := q) (by simpa using hlt)
      simp only [List.getElem_map] at hc
      have Hone := hide (Hx.out.2.1 xs[q] (List.getElem_mem hlt))
      have Hl1 : Hid ((l ++ (num8 xs.length ++ ((xs.take q).map num8).flatten)).length + (num8 xs[q]).length ≤ lid) := by
        have h1 := Hlen.out
        have h2 := flat_part num8 xs q hlt
        simp only [pathB, List.length_append] at h1
        refine hide ?_
        simp only [List.length_append]
        omega
      go_wp2_with (go_at_call 56; refine (number_put HB.out Hone.out Hl1.out).mono ?_; rintro e w2 ⟨rfl, hb, hB⟩; have HB2 := hide hb; have HW2 := hide (HW.out.trans hB); clear hb hB)
      go_roundw
      case rel => exact ⟨q + 1, by omega, by go_num, hide (by rw [flat_take num8 xs q hlt]; have := HB2.out; simpa [List.append_assoc] using this), HW2⟩
      case measure => simp [intOf]; omega
    · go_wp2_with fail
      go_end0
      have hq8 : q = xs.length := by omega
      subst hq8
      exact ⟨rfl, by have := HB.out; rwa [List.take_length] at this, HW.out⟩

theorem node_len (k : Nat) (t : ByteArray) (n : Int) (ks : Fo) : (nodeB k t n ks).length = 1 + (txtB t).length + 8 + (nodesB ks).length := by
  simp only [nodeB, List.length_cons, List.length_append, num8_len]; omega

set_option maxHeartbeats 1000000 in
set_option maxRecDepth 1000000 in
theorem node_of {P : Nat → Prop} {wb : Nat} {w : World} {l : List UInt8} {k : Nat} {t : ByteArray} {n : Int} {KA : Option Addr} {ks : Fo} {c : Nat}
    (hrow : ∀ (P' : Nat → Prop) (w' : World) (l' : List UInt8), (∀ b, P b → P' b) → Keep P w w' → Buf P' wb w' l' → l'.length + (nodesB ks).length ≤ lid →
      Calls Tryz.prog 119 #[.pointer (some ⟨wb, 0, none⟩), .slice KA ks.len c, .func (.func 120) #[.pointer (some ⟨wb, 0, none⟩)] #[]] w' fun e w2 => e = .returned (.tuple #[]) ∧ Buf P' wb w2 (l' ++ nodesB ks) ∧ Keep P' w' w2)
    (h : Buf P wb w l) (hk : k < 256) (ht : t.size ≤ max63) (hn : is63 n) (hlen : l.length + (nodeB k t n ks).length ≤ lid) :
    Calls Tryz.prog 120 #[.pointer (some ⟨wb, 0, none⟩), .agg #[.int .u8 k, .string t, .int .i64 n, .slice KA ks.len c]] w fun e w' => e = .returned (.tuple #[]) ∧ Buf P wb w' (l ++ nodeB k t n ks) ∧ Keep P w w' := by
  have Hrow := hide hrow
  have H := hide h
  have Hn := hide hn
  have Hbx : ∀ o, Hid (Buf (fun b => P b ∨ b = w.heap.size) wb (w.alloc o) l) := fun o => hide (h.box o)
  have hsz := h.lt
  rw [node_len] at hlen
  have HK : ∀ o, Hid (Keep P w (w.alloc o)) := fun o => hide ((Keep.refl P w).alloc h.lts o)
  clear hrow h hn
  go_enter Tryz.func120, Tryz.ntmps120
  go_wp2_with (first
    | (go_at_call 54; refine (put_one (Hbx _).out (by simp) rfl hk (by omega)).mono ?_; rintro e w1 ⟨rfl, hb, hB⟩; have HB1 := hide hb; have HW1 := hide hB; obtain ⟨hc1, hf1⟩ := hB.box (N := w.heap.size) (.inr rfl); have hz1 : w.heap.size < w1.heap.size := hb.lts _ (.inr rfl); clear hb hB)
    | (go_at_call 55; refine (text_put HB1.out ht (by simp only [List.length_append, List.length_cons, List.length_nil]; omega)).mono ?_; rintro e w2 ⟨rfl, hb, hB⟩; have HB2 := hide hb; have HW2 := hide (HW1.out.trans hB); obtain ⟨hc2, hf2⟩ := hB.box (N := w.heap.size) (.inr rfl); have hz2 : w.heap.size < w2.heap.size := hb.lts _ (.inr rfl); clear hb hB)
    | (go_at_call 56; refine (number_put HB2.out Hn.out (by simp only [List.length_append, List.length_cons, List.length_nil]; omega)).mono ?_; rintro e w3 ⟨rfl, hb, hB⟩; have HB3 := hide hb; have HW3 := hide (HW2.out.trans hB); obtain ⟨hc3, hf3⟩ := hB.box (N := w.heap.size) (.inr rfl); have hz3 : w.heap.size < w3.heap.size := hb.lts _ (.inr rfl); clear hb hB)
    | (go_at_call 119; refine (Hrow.out _ _ _ (fun b hb => .inl hb) ((HK _).out.trans (HW3.out.mono fun b hb => .inl hb)) HB3.out (by simp only [List.length_append, List.length_cons, List.length_nil, num8_len]; omega)).mono ?_; rintro e w4 ⟨rfl, hb, hB⟩; have HB4 := hide hb; have HW4 := hide (HW3.out.trans hB); clear hb hB))
  go_end0
  refine ⟨rfl, ?_, (HK _).out.trans (HW4.out.mono fun b hb => .inl hb)⟩
  have := HB4.out.mono (P := P) fun b hb => .inl hb
  simpa [nodeB, List.append_assoc] using this

theorem Fo.take_succ {f : Fo} {i k : Nat} {t : ByteArray} {n : Int} {ks r : Fo} (h : f.drop i = .cons k t n ks r) : f.take (i + 1) = (f.take i).app (.cons k t n ks .nil) := by
  induction i generalizing f with
  | zero => cases f with
    | nil => cases h
    | cons => cases h; rfl
  | succ i ih => cases f with
    | nil => cases h
    | cons k' t' n' ks' r' => simp only [Fo.take, Fo.app]; rw [ih h]
theorem foB_next {f : Fo} {i k : Nat} {t : ByteArray} {n : Int} {ks r : Fo} (h : f.drop i = .cons k t n ks r) : foB (f.take (i + 1)) = foB (f.take i) ++ nodeB k t n ks := by
  rw [Fo.take_succ h, foB_app, foB_cons]; simp [foB]
theorem foB_part {f : Fo} {i k : Nat} {t : ByteArray} {n : Int} {ks r : Fo} (h : f.drop i = .cons k t n ks r) : (foB (f.take i)).length + (nodeB k t n ks).length ≤ (foB f).length := by
  have h1 := congrArg (fun x => (foB x).length) (Fo.take_drop i f)
  simp only [foB_app, h, foB_cons, List.length_append] at h1
  omega
theorem Fo.take_all (f : Fo) : f.take f.len = f := by
  have := Fo.take_drop f.len f
  rwa [Fo.drop_len f _ (Nat.le_refl _), Fo.app_nil] at this

set_option maxHeartbeats 2000000 in
set_option maxRecDepth 1000000 in
theorem rowNode_upto (N : Nat) : ∀ (S P : Nat → Prop) (wb : Nat) (w : World) (l : List UInt8) (A : Option Addr) (c : Nat) (f : Fo), f.cnt < N → Buf P wb w l → FoIn S w A f → (∀ b, S b → P b) → f.len ≤ 9223372036854775807 → l.length + (nodesB f).length ≤ lid →
    Calls Tryz.prog 119 #[.pointer (some ⟨wb, 0, none⟩), .slice A f.len c, .func (.func 120) #[.pointer (some ⟨wb, 0, none⟩)] #[]] w fun e w' => e = .returned (.tuple #[]) ∧ Buf P wb w' (l ++ nodesB f) ∧ Keep P w w' := by
  induction N with
  | zero => intro S P wb w l A c f h; omega
  | succ N ih =>
    intro S P wb w l A c f hcnt h hf hS hfl hlen
    have H := hide h
    have Hf := hide hf
    have HS := hide hS
    have Hlen := hide hlen
    have Hih := hide ih
    have hlen8 : l.length + 8 ≤ lid := by
      simp only [nodesB, List.length_append, num8_len] at hlen
      omega
    clear h hf hS hlen ih
    go_enter Tryz.func119, Tryz.ntmps119
    go_wp2_with (go_at_call 56; refine (number_put H.out (is63_nat hfl) hlen8).mono ?_; rintro e w1 ⟨rfl, hb, hB⟩; have HB1 := hide hb; have HW1 := hide hB; clear hb hB)
    go_loopw [14, 7] (fun i _ wr => ∃ q : Nat, q ≤ f.len ∧ i = .int .i64 q ∧ Hid (Buf P wb wr (l ++ (num8 f.len ++ foB (f.take q)))) ∧ Hid (Keep P w wr)) (fun i _ _ => f.len - (intOf i).toNat)
    case atStart => exact ⟨0, Nat.zero_le _, rfl, hide (by have := HB1.out; cases f <;> simpa [Fo.take, foB] using this), HW1⟩
    case round =>
      obtain ⟨q, hq, rfl, HB, HW⟩ := hrel
      by_cases hlt : q < f.len
      · obtain ⟨b, o, KA, c', k, t, n, ks, r, rfl, hd, c0, c1, c2, c3, e1, e2, e3, e4, e5, hks, hc⟩ := (Hf.out.keep (Buf.keepIn HS.out HW.out)).at_ hlt
        have Hd := hide hd
        have He := hide e3
        have Hks := hide hks
        have Hl1 : Hid ((l ++ (num8 f.len ++ foB (f.take q))).length + (nodeB k t n ks).length ≤ lid) := by
          have h1 := Hlen.out
          have h2 := foB_part hd
          simp only [nodesB, List.length_append] at h1
          refine hide ?_
          simp only [List.length_append]
          omega
        clear hd e3 hks
        go_wp2_with (go_at_call 120; refine (node_of (ks := ks) (fun P' w' l' hP hK hB hl => Hih.out S P' wb w' l' KA c' ks (by omega) hB (Hks.out.below (below_alloc _ _) |>.keep (Buf.keepIn HS.out hK)) (fun b hb => hP b (HS.out b hb)) (by omega) hl) (HB.out.alloc _) e1 e2 He.out Hl1.out).mono ?_; rintro e w2 ⟨rfl, hb, hB⟩; have HB2 := hide hb; have HW2 := hide (HW.out.trans (((Keep.refl _ _).alloc HB.out.lts _).trans hB)); clear hb hB)
        go_roundw
        case rel => exact ⟨q + 1, by omega, by go_num, hide (by rw [foB_next Hd.out]; have := HB2.out; simpa [List.append_assoc] using this), HW2⟩
        case measure => simp [intOf]; omega
      · go_wp2_with fail
        go_end0
        have hq8 : q = f.len := by omega
        subst hq8
        exact ⟨rfl, by have := HB.out; rwa [Fo.take_all] at this, HW.out⟩
theorem rowNode_put {S P : Nat → Prop} {wb : Nat} {w : World} {l : List UInt8} {A : Option Addr} {c : Nat} {f : Fo} (h : Buf P wb w l) (hf : FoIn S w A f) (hS : ∀ b, S b → P b) (hfl : f.len ≤ 9223372036854775807) (hlen : l.length + (nodesB f).length ≤ lid) :
    Calls Tryz.prog 119 #[.pointer (some ⟨wb, 0, none⟩), .slice A f.len c, .func (.func 120) #[.pointer (some ⟨wb, 0, none⟩)] #[]] w fun e w' => e = .returned (.tuple #[]) ∧ Buf P wb w' (l ++ nodesB f) ∧ Keep P w w' :=
  rowNode_upto (f.cnt + 1) S P wb w l A c f (by omega) h hf hS hfl hlen

end Go.Proofs.YtfhfkbdaglegpaaGreatDoor

namespace Go.Proofs.YtfhfkbdaglegpaaGreatDoor
open Go.RowKit

theorem edB_len (e : Ed) : (edB e).length = 1 + (pathB e.path).length + 8 + 8 + (txtB e.frm).length + (txtB e.to).length + (nodesB e.old).length + (nodesB e.new).length := by
  simp only [edB, List.length_cons, List.length_append, num8_len]; omega

set_option maxHeartbeats 2000000 in
set_option maxRecDepth 1000000 in
theorem edit_put {S P : Nat → Prop} {wb : Nat} {w : World} {l : List UInt8} {x : Eh} {e : Ed} (h : Buf P wb w l) (he : EdIn S w x e) (hS : ∀ b, S b → P b) (hlen : l.length + (edB e).length ≤ lid) :
    Calls Tryz.prog 58 #[.pointer (some ⟨wb, 0, none⟩), .agg #[.int .u8 e.kind, .slice x.pA e.path.length x.pc, .int .i64 e.at_, .int .i64 e.far, .string e.frm, .string e.to, .slice x.oA e.old.len x.oc, .slice x.nA e.new.len x.nc]] w fun e1 w' => e1 = .returned (.tuple #[]) ∧ Buf P wb w' (l ++ edB e) ∧ Keep P w w' := by
  have H := hide h
  have HS := hide hS
  have Hpath := hide he.path
  have hk := he.kind
  have Hat : Hid (is63 e.at_) := hide he.at_
  have Hfar : Hid (is63 e.far) := hide he.far
  have hfrm := he.frm
  have hto := he.to
  have Hold := hide he.old
  have Hnew := hide he.new
  have ho := Nat.le_trans he.oc.1 he.oc.2
  have hn := Nat.le_trans he.nc.1 he.nc.2
  have Hbx : ∀ o, Hid (Buf (fun b => P b ∨ b = w.heap.size) wb (w.alloc o) l) := fun o => hide (h.box o)
  have hsz := h.lt
  rw [edB_len] at hlen
  have HK : ∀ o, Hid (Keep P w (w.alloc o)) := fun o => hide ((Keep.refl P w).alloc h.lts o)
  clear h hS he
  go_enter Tryz.func58, Tryz.ntmps58
  go_wp2_with (first
    | (go_at_call 54; (with_reducible refine (put_one (Hbx _).out (by simp) rfl hk (by omega)).mono ?_); rintro e w1 ⟨rfl, hb, hB⟩; have HB1 := hide hb; have HW1 := hide (hB); have HK1 := hide ((HK _).out.trans (Keep.mono (P := P) (hB) fun b hb => .inl hb)); obtain ⟨hc1, hf1⟩ := hB.box (N := w.heap.size) (.inr rfl); have hz1 : w.heap.size < w1.heap.size := hb.lts _ (.inr rfl); clear hb hB)
    | (go_at_call 118; (with_reducible refine (rowInt_put HB1.out (Hpath.out.keep (Buf.keepIn HS.out HK1.out)) (fun b hb => .inl (HS.out b hb)) (by simp only [List.length_append, List.length_cons, List.length_nil, num8_len]; omega)).mono ?_); rintro e w2 ⟨rfl, hb, hB⟩; have HB2 := hide hb; have HW2 := hide (HW1.out.trans hB); have HK2 := hide ((HK _).out.trans (Keep.mono (P := P) (HW1.out.trans hB) fun b hb => .inl hb)); obtain ⟨hc2, hf2⟩ := hB.box (N := w.heap.size) (.inr rfl); have hz2 : w.heap.size < w2.heap.size := hb.lts _ (.inr rfl); clear hb hB)
    | (go_at_call 56; (with_reducible refine (number_put HB2.out Hat.out (by simp only [List.length_append, List.length_cons, List.length_nil, num8_len]; omega)).mono ?_); rintro e w3 ⟨rfl, hb, hB⟩; have HB3 := hide hb; have HW3 := hide (HW2.out.trans hB); have HK3 := hide ((HK _).out.trans (Keep.mono (P := P) (HW2.out.trans hB) fun b hb => .inl hb)); obtain ⟨hc3, hf3⟩ := hB.box (N := w.heap.size) (.inr rfl); have hz3 : w.heap.size < w3.heap.size := hb.lts _ (.inr rfl); clear hb hB)
    | (go_at_call 56; (with_reducible refine (number_put HB3.out Hfar.out (by simp only [List.length_append, List.length_cons, List.length_nil, num8_len]; omega)).mono ?_); rintro e w4 ⟨rfl, hb, hB⟩; have HB4 := hide hb; have HW4 := hide (HW3.out.trans hB); have HK4 := hide ((HK _).out.trans (Keep.mono (P := P) (HW3.out.trans hB) fun b hb => .inl hb)); obtain ⟨hc4, hf4⟩ := hB.box (N := w.heap.size) (.inr rfl); have hz4 : w.heap.size < w4.heap.size := hb.lts _ (.inr rfl); clear hb hB)
    | (go_at_call 55; (with_reducible refine (text_put HB4.out hfrm (by simp only [List.length_append, List.length_cons, List.length_nil, num8_len]; omega)).mono ?_); rintro e w5 ⟨rfl, hb, hB⟩; have HB5 := hide hb; have HW5 := hide (HW4.out.trans hB); have HK5 := hide ((HK _).out.trans (Keep.mono (P := P) (HW4.out.trans hB) fun b hb => .inl hb)); obtain ⟨hc5, hf5⟩ := hB.box (N := w.heap.size) (.inr rfl); have hz5 : w.heap.size < w5.heap.size := hb.lts _ (.inr rfl); clear hb hB)
    | (go_at_call 55; (with_reducible refine (text_put HB5.out hto (by simp only [List.length_append, List.length_cons, List.length_nil, num8_len]; omega)).mono ?_); rintro e w6 ⟨rfl, hb, hB⟩; have HB6 := hide hb; have HW6 := hide (HW5.out.trans hB); have HK6 := hide ((HK _).out.trans (Keep.mono (P := P) (HW5.out.trans hB) fun b hb => .inl hb)); obtain ⟨hc6, hf6⟩ := hB.box (N := w.heap.size) (.inr rfl); have hz6 : w.heap.size < w6.heap.size := hb.lts _ (.inr rfl); clear hb hB)
    | (go_at_call 119; (with_reducible refine (rowNode_put HB6.out (Hold.out.keep (Buf.keepIn HS.out HK6.out)) (fun b hb => .inl (HS.out b hb)) ho (by simp only [List.length_append, List.length_cons, List.length_nil, num8_len]; omega)).mono ?_); rintro e w7 ⟨rfl, hb, hB⟩; have HB7 := hide hb; have HW7 := hide (HW6.out.trans hB); have HK7 := hide ((HK _).out.trans (Keep.mono (P := P) (HW6.out.trans hB) fun b hb => .inl hb)); obtain ⟨hc7, hf7⟩ := hB.box (N := w.heap.size) (.inr rfl); have hz7 : w.heap.size < w7.heap.size := hb.lts _ (.inr rfl); clear hb hB)
    | (go_at_call 119; (with_reducible refine (rowNode_put HB7.out (Hnew.out.keep (Buf.keepIn HS.out HK7.out)) (fun b hb => .inl (HS.out b hb)) hn (by simp only [List.length_append, List.length_cons, List.length_nil, num8_len]; omega)).mono ?_); rintro e w8 ⟨rfl, hb, hB⟩; have HB8 := hide hb; have HW8 := hide (HW7.out.trans hB); have HK8 := hide ((HK _).out.trans (Keep.mono (P := P) (HW7.out.trans hB) fun b hb => .inl hb)); obtain ⟨hc8, hf8⟩ := hB.box (N := w.heap.size) (.inr rfl); have hz8 : w.heap.size < w8.heap.size := hb.lts _ (.inr rfl); clear hb hB))
  go_end0
  refine ⟨rfl, ?_, HK8.out⟩
  have := HB8.out.mono (P := P) fun b hb => .inl hb
  simpa [edB, List.append_assoc] using this

set_option maxHeartbeats 2000000 in
set_option maxRecDepth 1000000 in
theorem patch_put3 {S P : Nat → Prop} {wb : Nat} {w : World} {l : List UInt8} {x : Ph} {p : Pt} (h : Buf P wb w l) (hp : PtIn S w x p) (hS : ∀ b, S b → P b) (hlen : l.length + (UInt8.ofNat 3 :: (txtB p.file ++ (num8 p.hunk.at_ ++ (txtsB p.hunk.old ++ txtsB p.hunk.new)))).length ≤ lid) :
    Calls Tryz.prog 29 #[.pointer (some ⟨wb, 0, none⟩), .agg #[.int .u8 3, .string p.file, .string p.text, .int .i64 p.hunk.at_, .slice x.h.oA p.hunk.old.length x.h.oc, .slice x.h.nA p.hunk.new.length x.h.nc, .int .u8 p.edit.kind, .slice x.e.pA p.edit.path.length x.e.pc, .int .i64 p.edit.at_, .int .i64 p.edit.far, .string p.edit.frm, .string p.edit.to, .slice x.e.oA p.edit.old.len x.e.oc, .slice x.e.nA p.edit.new.len x.e.nc]] w fun e1 w' => e1 = .returned (.tuple #[]) ∧ Buf P wb w' (l ++ UInt8.ofNat 3 :: (txtB p.file ++ (num8 p.hunk.at_ ++ (txtsB p.hunk.old ++ txtsB p.hunk.new)))) ∧ Keep P w w' := by
  have H := hide h
  have HS := hide hS
  have Hp := hide hp
  have hk : 3 < 256 := by omega
  have Hat : Hid (is63 p.hunk.at_) := hide hp.hunk.at_
  have hfile := hp.file
  have htext := hp.text
  have Hbx : ∀ o, Hid (Buf (fun b => P b ∨ b = w.heap.size) wb (w.alloc o) l) := fun o => hide (h.box o)
  have hsz := h.lt
  simp only [List.length_append, List.length_cons, num8_len] at hlen
  have HK : ∀ o, Hid (Keep P w (w.alloc o)) := fun o => hide ((Keep.refl P w).alloc h.lts o)
  clear h hS hp
  go_enter Tryz.func29, Tryz.ntmps29
  go_wp2_with (first
    | (go_at_call 54; (with_reducible refine (put_one (k := 3) (Hbx _).out (by simp) (by simp) hk (by omega)).mono ?_); rintro e w1 ⟨rfl, hb, hB⟩; have HB1 := hide hb; have HW1 := hide (hB); have HK1 := hide ((HK _).out.trans (Keep.mono (P := P) (hB) fun b hb => .inl hb)); obtain ⟨hc1, hf1⟩ := hB.box (N := w.heap.size) (.inr rfl); have hz1 : w.heap.size < w1.heap.size := hb.lts _ (.inr rfl); clear hb hB)
    | (go_at_call 55; (with_reducible refine (text_put HB1.out hfile (by simp only [List.length_append, List.length_cons, List.length_nil, num8_len]; omega)).mono ?_); rintro e w2 ⟨rfl, hb, hB⟩; have HB2 := hide hb; have HW2 := hide (HW1.out.trans hB); have HK2 := hide ((HK _).out.trans (Keep.mono (P := P) (HW1.out.trans hB) fun b hb => .inl hb)); obtain ⟨hc2, hf2⟩ := hB.box (N := w.heap.size) (.inr rfl); have hz2 : w.heap.size < w2.heap.size := hb.lts _ (.inr rfl); clear hb hB)
    | (go_at_call 56; (with_reducible refine (number_put HB2.out Hat.out (by simp only [List.length_append, List.length_cons, List.length_nil, num8_len]; omega)).mono ?_); rintro e w3 ⟨rfl, hb, hB⟩; have HB3 := hide hb; have HW3 := hide (HW2.out.trans hB); have HK3 := hide ((HK _).out.trans (Keep.mono (P := P) (HW2.out.trans hB) fun b hb => .inl hb)); obtain ⟨hc3, hf3⟩ := hB.box (N := w.heap.size) (.inr rfl); have hz3 : w.heap.size < w3.heap.size := hb.lts _ (.inr rfl); clear hb hB)
    | (go_at_call 57; (with_reducible refine (rowStr_put HB3.out (Hp.out.hunk.old.keep (Buf.keepIn HS.out HK3.out)) (fun b hb => .inl (HS.out b hb)) (by simp only [List.length_append, List.length_cons, List.length_nil, num8_len]; omega)).mono ?_); rintro e w4 ⟨rfl, hb, hB⟩; have HB4 := hide hb; have HW4 := hide (HW3.out.trans hB); have HK4 := hide ((HK _).out.trans (Keep.mono (P := P) (HW3.out.trans hB) fun b hb => .inl hb)); obtain ⟨hc4, hf4⟩ := hB.box (N := w.heap.size) (.inr rfl); have hz4 : w.heap.size < w4.heap.size := hb.lts _ (.inr rfl); clear hb hB)
    | (go_at_call 57; (with_reducible refine (rowStr_put HB4.out (Hp.out.hunk.new.keep (Buf.keepIn HS.out HK4.out)) (fun b hb => .inl (HS.out b hb)) (by simp only [List.length_append, List.length_cons, List.length_nil, num8_len]; omega)).mono ?_); rintro e w5 ⟨rfl, hb, hB⟩; have HB5 := hide hb; have HW5 := hide (HW4.out.trans hB); have HK5 := hide ((HK _).out.trans (Keep.mono (P := P) (HW4.out.trans hB) fun b hb => .inl hb)); obtain ⟨hc5, hf5⟩ := hB.box (N := w.heap.size) (.inr rfl); have hz5 : w.heap.size < w5.heap.size := hb.lts _ (.inr rfl); clear hb hB))
  go_end0
  refine ⟨rfl, ?_, HK5.out⟩
  have := HB5.out.mono (P := P) fun b hb => .inl hb
  simpa [List.append_assoc] using this

set_option maxHeartbeats 2000000 in
set_option maxRecDepth 1000000 in
theorem patch_put4 {S P : Nat → Prop} {wb : Nat} {w : World} {l : List UInt8} {x : Ph} {p : Pt} (h : Buf P wb w l) (hp : PtIn S w x p) (hS : ∀ b, S b → P b) (hlen : l.length + (UInt8.ofNat 4 :: (txtB p.file ++ edB p.edit)).length ≤ lid) :
    Calls Tryz.prog 29 #[.pointer (some ⟨wb, 0, none⟩), .agg #[.int .u8 4, .string p.file, .string p.text, .int .i64 p.hunk.at_, .slice x.h.oA p.hunk.old.length x.h.oc, .slice x.h.nA p.hunk.new.length x.h.nc, .int .u8 p.edit.kind, .slice x.e.pA p.edit.path.length x.e.pc, .int .i64 p.edit.at_, .int .i64 p.edit.far, .string p.edit.frm, .string p.edit.to, .slice x.e.oA p.edit.old.len x.e.oc, .slice x.e.nA p.edit.new.len x.e.nc]] w fun e1 w' => e1 = .returned (.tuple #[]) ∧ Buf P wb w' (l ++ UInt8.ofNat 4 :: (txtB p.file ++ edB p.edit)) ∧ Keep P w w' := by
  have H := hide h
  have HS := hide hS
  have Hp := hide hp
  have hk : 4 < 256 := by omega
  have Hat : Hid (is63 p.hunk.at_) := hide hp.hunk.at_
  have hfile := hp.file
  have htext := hp.text
  have Hbx : ∀ o, Hid (Buf (fun b => P b ∨ b = w.heap.size) wb (w.alloc o) l) := fun o => hide (h.box o)
  have hsz := h.lt
  simp only [List.length_append, List.length_cons, num8_len] at hlen
  have HK : ∀ o, Hid (Keep P w (w.alloc o)) := fun o => hide ((Keep.refl P w).alloc h.lts o)
  clear h hS hp
  go_enter Tryz.func29, Tryz.ntmps29
  go_wp2_with (first
    | (go_at_call 54; (with_reducible refine (put_one (k := 4) (Hbx _).out (by simp) (by simp) hk (by omega)).mono ?_); rintro e w1 ⟨rfl, hb, hB⟩; have HB1 := hide hb; have HW1 := hide (hB); have HK1 := hide ((HK _).out.trans (Keep.mono (P := P) (hB) fun b hb => .inl hb)); obtain ⟨hc1, hf1⟩ := hB.box (N := w.heap.size) (.inr rfl); have hz1 : w.heap.size < w1.heap.size := hb.lts _ (.inr rfl); clear hb hB)
    | (go_at_call 55; (with_reducible refine (text_put HB1.out hfile (by simp only [List.length_append, List.length_cons, List.length_nil, num8_len]; omega)).mono ?_); rintro e w2 ⟨rfl, hb, hB⟩; have HB2 := hide hb; have HW2 := hide (HW1.out.trans hB); have HK2 := hide ((HK _).out.trans (Keep.mono (P := P) (HW1.out.trans hB) fun b hb => .inl hb)); obtain ⟨hc2, hf2⟩ := hB.box (N := w.heap.size) (.inr rfl); have hz2 : w.heap.size < w2.heap.size := hb.lts _ (.inr rfl); clear hb hB)
    | (go_at_call 58; (with_reducible refine (edit_put HB2.out (Hp.out.edit.keep (Buf.keepIn HS.out HK2.out)) (fun b hb => .inl (HS.out b hb)) (by simp only [List.length_append, List.length_cons, List.length_nil, num8_len]; omega)).mono ?_); rintro e w3 ⟨rfl, hb, hB⟩; have HB3 := hide hb; have HW3 := hide (HW2.out.trans hB); have HK3 := hide ((HK _).out.trans (Keep.mono (P := P) (HW2.out.trans hB) fun b hb => .inl hb)); obtain ⟨hc3, hf3⟩ := hB.box (N := w.heap.size) (.inr rfl); have hz3 : w.heap.size < w3.heap.size := hb.lts _ (.inr rfl); clear hb hB))
  go_end0
  refine ⟨rfl, ?_, HK3.out⟩
  have := HB3.out.mono (P := P) fun b hb => .inl hb
  simpa [List.append_assoc] using this

set_option maxHeartbeats 2000000 in
set_option maxRecDepth 1000000 in
theorem patch_putT {S P : Nat → Prop} {wb : Nat} {w : World} {l : List UInt8} {x : Ph} {p : Pt} (h : Buf P wb w l) (hp : PtIn S w x p) (hS : ∀ b, S b → P b) (h3 : ¬ (p.kind : Int) = 3) (h4 : ¬ (p.kind : Int) = 4) (hlen : l.length + (UInt8.ofNat p.kind :: (txtB p.file ++ txtB p.text)).length ≤ lid) :
    Calls Tryz.prog 29 #[.pointer (some ⟨wb, 0, none⟩), .agg #[.int .u8 p.kind, .string p.file, .string p.text, .int .i64 p.hunk.at_, .slice x.h.oA p.hunk.old.length x.h.oc, .slice x.h.nA p.hunk.new.length x.h.nc, .int .u8 p.edit.kind, .slice x.e.pA p.edit.path.length x.e.pc, .int .i64 p.edit.at_, .int .i64 p.edit.far, .string p.edit.frm, .string p.edit.to, .slice x.e.oA p.edit.old.len x.e.oc, .slice x.e.nA p.edit.new.len x.e.nc]] w fun e1 w' => e1 = .returned (.tuple #[]) ∧ Buf P wb w' (l ++ UInt8.ofNat p.kind :: (txtB p.file ++ txtB p.text)) ∧ Keep P w w' := by
  have H := hide h
  have HS := hide hS
  have Hp := hide hp
  have hk : p.kind < 256 := by exact hp.kind
  have Hat : Hid (is63 p.hunk.at_) := hide hp.hunk.at_
  have hfile := hp.file
  have htext := hp.text
  have Hbx : ∀ o, Hid (Buf (fun b => P b ∨ b = w.heap.size) wb (w.alloc o) l) := fun o => hide (h.box o)
  have hsz := h.lt
  simp only [List.length_append, List.length_cons, num8_len] at hlen
  have HK : ∀ o, Hid (Keep P w (w.alloc o)) := fun o => hide ((Keep.refl P w).alloc h.lts o)
  clear h hS hp
  go_enter Tryz.func29, Tryz.ntmps29
  go_wp2_with (first
    | (go_at_call 54; (with_reducible refine (put_one (k := p.kind) (Hbx _).out (by simp) (by simp) hk (by omega)).mono ?_); rintro e w1 ⟨rfl, hb, hB⟩; have HB1 := hide hb; have HW1 := hide (hB); have HK1 := hide ((HK _).out.trans (Keep.mono (P := P) (hB) fun b hb => .inl hb)); obtain ⟨hc1, hf1⟩ := hB.box (N := w.heap.size) (.inr rfl); have hz1 : w.heap.size < w1.heap.size := hb.lts _ (.inr rfl); clear hb hB)
    | (go_at_call 55; (with_reducible refine (text_put HB1.out hfile (by simp only [List.length_append, List.length_cons, List.length_nil, num8_len]; omega)).mono ?_); rintro e w2 ⟨rfl, hb, hB⟩; have HB2 := hide hb; have HW2 := hide (HW1.out.trans hB); have HK2 := hide ((HK _).out.trans (Keep.mono (P := P) (HW1.out.trans hB) fun b hb => .inl hb)); obtain ⟨hc2, hf2⟩ := hB.box (N := w.heap.size) (.inr rfl); have hz2 : w.heap.size < w2.heap.size := hb.lts _ (.inr rfl); clear hb hB)
    | (go_at_call 55; (with_reducible refine (text_put HB2.out htext (by simp only [List.length_append, List.length_cons, List.length_nil, num8_len]; omega)).mono ?_); rintro e w3 ⟨rfl, hb, hB⟩; have HB3 := hide hb; have HW3 := hide (HW2.out.trans hB); have HK3 := hide ((HK _).out.trans (Keep.mono (P := P) (HW2.out.trans hB) fun b hb => .inl hb)); obtain ⟨hc3, hf3⟩ := hB.box (N := w.heap.size) (.inr rfl); have hz3 : w.heap.size < w3.heap.size := hb.lts _ (.inr rfl); clear hb hB))
  go_end0
  refine ⟨rfl, ?_, HK3.out⟩
  have := HB3.out.mono (P := P) fun b hb => .inl hb
  simpa [List.append_assoc] using this

theorem patch_put {S P : Nat → Prop} {wb : Nat} {w : World} {l : List UInt8} {x : Ph} {p : Pt} (h : Buf P wb w l) (hp : PtIn S w x p) (hS : ∀ b, S b → P b) (hlen : l.length + (ptB p).length ≤ lid) :
    Calls Tryz.prog 29 #[.pointer (some ⟨wb, 0, none⟩), .agg #[.int .u8 p.kind, .string p.file, .string p.text, .int .i64 p.hunk.at_, .slice x.h.oA p.hunk.old.length x.h.oc, .slice x.h.nA p.hunk.new.length x.h.nc, .int .u8 p.edit.kind, .slice x.e.pA p.edit.path.length x.e.pc, .int .i64 p.edit.at_, .int .i64 p.edit.far, .string p.edit.frm, .string p.edit.to, .slice x.e.oA p.edit.old.len x.e.oc, .slice x.e.nA p.edit.new.len x.e.nc]] w fun e1 w' => e1 = .returned (.tuple #[]) ∧ Buf P wb w' (l ++ ptB p) ∧ Keep P w w' := by
  by_cases h3 : p.kind = 3
  · have he : ptB p = UInt8.ofNat 3 :: (txtB p.file ++ (num8 p.hunk.at_ ++ (txtsB p.hunk.old ++ txtsB p.hunk.new))) := by unfold ptB; rw [if_pos h3, h3]
    rw [he] at hlen ⊢
    rw [h3]
    exact patch_put3 h hp hS hlen
  · by_cases h4 : p.kind = 4
    · have he : ptB p = UInt8.ofNat 4 :: (txtB p.file ++ edB p.edit) := by unfold ptB; rw [if_neg h3, if_pos h4, h4]
      rw [he] at hlen ⊢
      rw [h4]
      exact patch_put4 h hp hS hlen
    · have he : ptB p = UInt8.ofNat p.kind :: (txtB p.file ++ txtB p.text) := by unfold ptB; rw [if_neg h3, if_neg h4]
      rw [he] at hlen ⊢
      exact patch_putT h hp hS (by omega) (by omega) hlen

end Go.Proofs.YtfhfkbdaglegpaaGreatDoor

namespace Go.Proofs.YtfhfkbdaglegpaaGreatDoor
open Go.RowKit

theorem buf_new {w : World} {t : TypeId} : Buf (fun b => b < w.heap.size) w.heap.size (w.alloc (.cells #[.slice none 0 0] t)) [] :=
  ⟨.slice none 0 0, by rw [World.cell?_alloc_new]; rfl, by simp, Nat.lt_irrefl _, fun k hk => by simp; omega, World.ownsRow_nil _ _ _ _, by simp [Value.ownBlock], .inl rfl⟩
/-- the bytes that were written, behind the writer -/
theorem Buf.bytes {P : Nat → Prop} {wb : Nat} {w : World} {l : List UInt8} (h : Buf P wb w l) : ∃ A c, w.cell? ⟨wb, 0, none⟩ = some (.slice A l.length c) ∧ BytesIn (fun b => ¬ P b) w A l ∧ l.length ≤ c ∧ c ≤ 9223372036854775807 := by
  obtain ⟨v, h0, _, _, _, h4, h5, _⟩ := h
  rcases h4.2 with ⟨rfl, hn⟩ | ⟨g, cap, cur, rfl, hb, hgg, hn, hc, _⟩
  · have : l = [] := List.eq_nil_of_length_eq_zero hn
    subst this
    exact ⟨_, _, h0, ⟨.inl rfl, by simp⟩, Nat.le_refl _, by omega⟩
  · have hc' : cap ≤ 9223372036854775807 := by unfold maxLen at hc; omega
    refine ⟨_, _, h0, ⟨.inr ⟨g, 0, rfl, (h5 g rfl).2, fun j u hu => ?_⟩, Nat.le_trans hn hc'⟩, hn, hc'⟩
    have := h4.cells (g := g) rfl j u hu
    rwa [Addr.add_lit] at this

set_option maxHeartbeats 4000000 in
set_option maxRecDepth 1000000 in
theorem put_get {S : Nat → Prop} {x : Ph} {p : Pt} {w : World} (hp : PtIn S w x p) (htab : TabOk w) (hsum : p.edit.frm.size + p.edit.to.size ≤ 9223372036854775807) (hlen : (ptB p).length ≤ lid) :
    Calls Tryz.prog 9 #[.agg #[.int .u8 p.kind, .string p.file, .string p.text, .int .i64 p.hunk.at_, .slice x.h.oA p.hunk.old.length x.h.oc, .slice x.h.nA p.hunk.new.length x.h.nc, .int .u8 p.edit.kind, .slice x.e.pA p.edit.path.length x.e.pc, .int .i64 p.edit.at_, .int .i64 p.edit.far, .string p.edit.frm, .string p.edit.to, .slice x.e.oA p.edit.old.len x.e.oc, .slice x.e.nA p.edit.new.len x.e.nc]] w fun e w' => Below w.heap.size w w' ∧
      ((PtOk p ∧ ∃ A c, e = .returned (.tuple #[.slice A (ptB p).length c, .int .i64 0]) ∧ BytesIn (fun b => w.heap.size ≤ b) w' A (ptB p) ∧ (ptB p).length ≤ c ∧ c ≤ 9223372036854775807) ∨
       (¬ PtOk p ∧ e = .returned (.tuple #[.slice none 0 0, .int .i64 4]))) := by
  have Hp := hide hp
  have Htab := hide htab
  clear hp htab
  go_enter Tryz.func9, Tryz.ntmps9
  go_wp2_with (first
    | (go_at_call 28; (with_reducible refine (patchRight_any (Hp.out.below (below_alloc _ _)) (Htab.out.below (below_alloc _ _)) hsum).mono ?_); rintro e1 w1 ⟨⟨_ | _, rfl, hb⟩, hB⟩ <;> (have Hok := hide hb; have HB : Hid (Below w.heap.size w w1) := hide (blw_up (below_alloc _ _) hB); obtain ⟨hc1, hf1, hz1⟩ := bbox (N := w.heap.size) hB (by simp); clear hb hB))
    | (go_at_call 29; (refine (patch_put (S := fun b => S b ∧ b < w.heap.size) buf_new ((Hp.out.mono (S' := fun b => S b ∧ b < w.heap.size) fun b h1 h2 => ⟨h2, h1⟩).below (HB.out.trans ((below_alloc _ _).mono HB.out.size))) (fun b hb => Nat.lt_trans hb.2 hz1) (by simpa using hlen)).mono ?_); rintro e2 w2 ⟨rfl, hb, hB⟩; obtain ⟨A, c, q0, q1, q2, q3⟩ := hb.bytes; have Hq := hide q1; have HB2 : Hid (Below w.heap.size w w2) := hide (HB.out.trans (((below_alloc _ _).mono HB.out.size).trans (hB.below.mono HB.out.size))); clear hb hB q1))
  · go_ret2
    exact ⟨HB.out, .inr ⟨fun h => absurd (Hok.out.mpr h) (by decide), rfl⟩⟩
  · go_ret2
    exact ⟨HB2.out, .inl ⟨Hok.out.mp trivial, A, c, rfl, Hq.out.mono fun b _ hb => by have := HB.out.size; omega, q2, q3⟩⟩

end Go.Proofs.YtfhfkbdaglegpaaGreatDoor
