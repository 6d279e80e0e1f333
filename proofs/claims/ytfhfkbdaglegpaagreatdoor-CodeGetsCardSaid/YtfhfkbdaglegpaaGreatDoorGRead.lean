/- The reader of bytes: what it holds in memory; must, take, number. -/
import Derived.Deep.RegionWith
import Derived.Deep.CutRange
import Derived.Deep.DeepCutAuto
import Derived.Test.YtfhfkbdaglegpaaGreatDoorGWrit
import Derived.Test.YtfhfkbdaglegpaaGreatDoorGBase
import Derived.Test.YtfhfkbdaglegpaaGreatDoorGOwn

set_option linter.unusedVariables false
set_option linter.unusedSimpArgs false

namespace Go.Proofs.YtfhfkbdaglegpaaGreatDoor
open Go.RowKit

/-- nothing that is there is turned, but for block rb -/
abbrev Side (rb : Nat) (w w' : World) : Prop := Keep (fun k => k < w.heap.size ∧ k ≠ rb) w w'
section
variable {rb : Nat} {w w' w'' : World}
theorem Side.refl (rb : Nat) (w : World) : Side rb w w := Keep.refl _ _
theorem Side.trans (h : Side rb w w') (h' : Side rb w' w'') : Side rb w w'' := Keep.trans h (Keep.mono h' fun k hk => ⟨Nat.lt_of_lt_of_le hk.1 h.size, hk.2⟩)
theorem Side.alloc (h : Side rb w w') (o : Obj) : Side rb w (w'.alloc o) := Keep.alloc h (fun k hk => hk.1) o
theorem Side.drew (h : Side rb w w') : Side rb w w'.drew := Keep.drew h
theorem Side.set (h : Side rb w w') (o : Nat) (u : Value) : Side rb w (w'.setCell ⟨rb, o, none⟩ u) := Keep.setCell h (fun hk => hk.2 rfl) u
theorem Side.setNew (h : Side rb w w') {a : Addr} (ha : w.heap.size ≤ a.block) (u : Value) : Side rb w (w'.setCell a u) := Keep.setCell h (fun hk => absurd hk.1 (by omega)) u
theorem Side.of_below (h : Below w.heap.size w w') : Side rb w w' := Keep.of_below h fun _ hk => hk.1
theorem Side.box (h : Side rb w w') {N : Nat} (hN : N < w.heap.size) (hne : N ≠ rb) : (∀ o, w'.cell? ⟨N, o, none⟩ = w.cell? ⟨N, o, none⟩) ∧ (∀ o, w'.frozen? ⟨N, o, none⟩ = w.frozen? ⟨N, o, none⟩) ∧ N < w'.heap.size :=
  ⟨(Keep.box h (N := N) ⟨hN, hne⟩).1, (Keep.box h (N := N) ⟨hN, hne⟩).2, Nat.lt_of_lt_of_le hN h.size⟩
/-- made in this call, or before: not the reader -/
abbrev Off (rb : Nat) : Nat → Prop := fun b => b ≠ rb
variable {A : Option Addr}
theorem Rd.side {xs : List Value} (h : Rd (Off rb) w A xs) (hs : Side rb w w') : Rd (Off rb) w' A xs :=
  ((h.mono (S' := fun k => k < w.heap.size ∧ k ≠ rb) fun _ hlt hS => ⟨hlt, hS⟩).keep hs.block).mono fun _ _ hS => hS.2
theorem BytesIn.side {l : List UInt8} (h : BytesIn (Off rb) w A l) (hs : Side rb w w') : BytesIn (Off rb) w' A l := ⟨h.1.side hs, h.2⟩
theorem StrsIn.side {l : List ByteArray} (h : StrsIn (Off rb) w A l) (hs : Side rb w w') : StrsIn (Off rb) w' A l := ⟨h.1.side hs, h.2⟩
theorem IntsIn.side {l : List Int} (h : IntsIn (Off rb) w A l) (hs : Side rb w w') : IntsIn (Off rb) w' A l := ⟨h.1.side hs, h.2⟩
theorem FoIn.side {f : Fo} (h : FoIn (Off rb) w A f) (hs : Side rb w w') : FoIn (Off rb) w' A f :=
  ((h.mono (S' := fun k => k < w.heap.size ∧ k ≠ rb) fun _ hlt hS => ⟨hlt, hS⟩).keep hs.block).mono fun _ _ hS => hS.2
end

/-- block rb holds a reader that has the bytes l left, which lie in the blocks D, at the depth d -/
def Rdr (D : Nat → Prop) (rb : Nat) (w : World) (l : List UInt8) (d : Nat) : Prop :=
  ∃ A c, w.cell? ⟨rb, 0, none⟩ = some (.slice A l.length c) ∧ w.cell? ⟨rb, 1, none⟩ = some (.int .i64 d) ∧ w.frozen? ⟨rb, 0, none⟩ = false ∧ w.frozen? ⟨rb, 1, none⟩ = false ∧
    BytesIn D w A l ∧ l.length ≤ c ∧ c ≤ 9223372036854775807 ∧ ∀ b, D b → b ≠ rb
abbrev oops : Ending := .panicked [{ v := .iface 37 (.int .i64 4), recovered := false }]

section
variable {D D' : Nat → Prop} {rb d : Nat} {w w' : World} {l : List UInt8}
theorem Rdr.lt (h : Rdr D rb w l d) : rb < w.heap.size := by
  obtain ⟨A, c, h0, _⟩ := h
  exact World.block_lt_of_cell? _ _ h0
theorem Rdr.keep (h : Rdr D rb w l d) (hk : ∀ b, D b ∨ b = rb → w'.heap[b]? = w.heap[b]?) : Rdr D rb w' l d := by
  obtain ⟨A, c, h0, h1, h2, h3, h4, h5, h6, h7⟩ := h
  have hb := hk rb (.inr rfl)
  exact ⟨A, c, (World.cell?_of_block hb).trans h0, (World.cell?_of_block hb).trans h1, (World.frozen?_of_block hb).trans h2, (World.frozen?_of_block hb).trans h3, h4.keep fun b hb => hk b (.inl hb), h5, h6, h7⟩
theorem Rdr.mono (h : Rdr D rb w l d) (hm : ∀ b, b < w.heap.size → D b → D' b) (h' : ∀ b, D' b → b ≠ rb) : Rdr D' rb w l d := by
  obtain ⟨A, c, h0, h1, h2, h3, h4, h5, h6, h7⟩ := h
  exact ⟨A, c, h0, h1, h2, h3, h4.mono hm, h5, h6, h'⟩
theorem Rdr.off (h : Rdr D rb w l d) : ∀ b, D b → b ≠ rb := by
  obtain ⟨A, c, h0, h1, h2, h3, h4, h5, h6, h7⟩ := h
  exact h7
theorem Rdr.slice (h : Rdr D rb w l d) : ∃ A c, w.cell? ⟨rb, 0, none⟩ = some (.slice A l.length c) := by
  obtain ⟨A, c, h0, _⟩ := h
  exact ⟨A, c, h0⟩
theorem Rdr.deep (h : Rdr D rb w l d) : w.cell? ⟨rb, 1, none⟩ = some (.int .i64 d) ∧ w.frozen? ⟨rb, 1, none⟩ = false := by
  obtain ⟨A, c, h0, h1, h2, h3, _⟩ := h
  exact ⟨h1, h3⟩
/-- the blocks of the bytes are old ones -/
theorem Rdr.old (h : Rdr D rb w l d) : Rdr (fun b => D b ∧ b < w.heap.size) rb w l d := h.mono (fun _ h1 h2 => ⟨h2, h1⟩) (fun b hb => h.off b hb.1)
theorem Rdr.back {P : Nat → Prop} (h : Rdr (fun b => D b ∧ P b) rb w l d) (hD : ∀ b, D b → b ≠ rb) : Rdr D rb w l d := h.mono (fun _ _ h2 => h2.1) hD
theorem Rdr.alloc (h : Rdr D rb w l d) (o : Obj) : Rdr D rb (w.alloc o) l d := by
  have h' := h.old
  have hlt := h.lt
  have hoff := h.off
  exact (h'.keep (w' := w.alloc o) fun b hb => Below.heap_alloc w o b (hb.elim (fun h => h.2) (fun e => e ▸ hlt))).back hoff
theorem Rdr.drew (h : Rdr D rb w l d) : Rdr D rb w.drew l d := h
end

theorem Rd.take {S : Nat → Prop} {w : World} {A : Option Addr} {xs : List Value} (h : Rd S w A xs) (m : Nat) : Rd S w A (xs.take m) := by
  rcases h with rfl | ⟨b, o, rfl, hS, hc⟩
  · exact .inl (by simp)
  · refine .inr ⟨b, o, rfl, hS, fun j u hu => hc j u ?_⟩
    rw [List.getElem?_take] at hu
    split at hu
    · exact hu
    · cases hu
theorem Rd.drop {S : Nat → Prop} {w : World} {A : Option Addr} {xs : List Value} (h : Rd S w A xs) (m : Nat) : Rd S w (A.map fun x => x.add m) (xs.drop m) := by
  rcases h with rfl | ⟨b, o, rfl, hS, hc⟩
  · exact .inl (by simp)
  · refine .inr ⟨b, o + m, by simp [Addr.add_lit], hS, fun j u hu => ?_⟩
    rw [List.getElem?_drop] at hu
    have := hc _ u hu
    rwa [← Nat.add_assoc] at this
theorem BytesIn.take {S : Nat → Prop} {w : World} {A : Option Addr} {l : List UInt8} (h : BytesIn S w A l) (m : Nat) : BytesIn S w A (l.take m) :=
  ⟨by have := h.1.take m; rwa [show (bytesV l).take m = bytesV (l.take m) by simp [bytesV]] at this, by have := h.2; simp; omega⟩
theorem BytesIn.drop {S : Nat → Prop} {w : World} {A : Option Addr} {l : List UInt8} (h : BytesIn S w A l) (m : Nat) : BytesIn S w (A.map fun x => x.add m) (l.drop m) :=
  ⟨by have := h.1.drop m; rwa [show (bytesV l).drop m = bytesV (l.drop m) by simp [bytesV]] at this, by have := h.2; simp; omega⟩
theorem rdr_set {D : Nat → Prop} {rb d n c : Nat} {w : World} {v : Value} {A : Option Addr} {l : List UInt8} (h0 : w.cell? ⟨rb, 0, none⟩ = some v) (h1 : w.cell? ⟨rb, 1, none⟩ = some (.int .i64 d)) (h2 : w.frozen? ⟨rb, 0, none⟩ = false) (h3 : w.frozen? ⟨rb, 1, none⟩ = false)
    (hb : BytesIn D w A l) (hn : l.length = n) (h5 : n ≤ c) (h6 : c ≤ 9223372036854775807) (h7 : ∀ b, D b → b ≠ rb) : Rdr D rb (w.setCell ⟨rb, 0, none⟩ (.slice A n c)) l d := by
  subst hn
  refine ⟨A, c, World.cell?_setCell_same _ _ _ h0, ?_, by rw [World.frozen?_setCell]; exact h2, by rw [World.frozen?_setCell]; exact h3, hb.keep (fun b hb => Below.heap_setCell w _ _ b (h7 b hb)), h5, h6, h7⟩
  rw [World.cell?_setCell_other]
  · exact h1
  · simp
theorem must_yes {b : Bool} (hb : b = true) (w : World) : Calls Tryz.prog 94 #[.bool b] w fun e w' => e = .returned (.tuple #[]) ∧ w = w' := by
  subst hb
  go_enter Tryz.func94, Tryz.ntmps94
  go_wp2_with fail
  all_goals go_end0
  all_goals exact ⟨rfl, rfl⟩
theorem must_no {b : Bool} (hb : b = false) (w : World) : Calls Tryz.prog 94 #[.bool b] w fun e w' => e = oops ∧ w = w' := by
  subst hb
  go_enter Tryz.func94, Tryz.ntmps94
  go_wp2_with fail
  exact ⟨rfl, rfl, rfl⟩

set_option maxHeartbeats 1000000 in
set_option maxRecDepth 1000000 in
theorem take_any {D : Nat → Prop} {rb d : Nat} {w : World} {l : List UInt8} {n : Int} (h : Rdr D rb w l d) (hn : is63 n) :
    Calls Tryz.prog 89 #[.pointer (some ⟨rb, 0, none⟩), .int .i64 n] w fun e w' =>
      (∃ A c, 0 ≤ n ∧ n ≤ l.length ∧ e = .returned (.slice A n.toNat c) ∧ BytesIn (Off rb) w' A (l.take n.toNat) ∧ Rdr D rb w' (l.drop n.toNat) d ∧ Side rb w w') ∨
      (¬ (0 ≤ n ∧ n ≤ l.length) ∧ e = oops ∧ Side rb w w') := by
  obtain ⟨A, c, h0, h1, h2, h3, h4, h5, h6, h7⟩ := h
  have Hb := hide h4
  have H7 := hide h7
  have H1 := hide h1
  have H3 := hide h3
  clear h4 h1 h3 h7
  unfold is63 at hn
  by_cases hok : 0 ≤ n ∧ n ≤ l.length
  · obtain ⟨ha, hb⟩ := hok
    obtain ⟨m, rfl⟩ := Int.eq_ofNat_of_zero_le ha
    clear ha hn
    have hm : m ≤ l.length := by omega
    clear hb
    go_enter Tryz.func89, Tryz.ntmps89
    go_wp2_with (go_at_call 94; refine (must_yes (by first | rfl | (simp; omega)) _).mono ?_; rintro e w1 ⟨rfl, rfl⟩)
    all_goals go_ret
    · subst h
      exact ⟨_, ⟨_, rfl⟩, ((Hb.out.take _).mono fun b _ hb => H7.out b hb).side ((Side.refl rb w).set 0 _), rdr_set h0 H1.out h2 H3.out (by rw [List.drop_eq_nil_of_le (by omega)]; exact ⟨.inl rfl, by simp⟩) (by simp) (by omega) (by omega) H7.out, (Side.refl rb w).set 0 _⟩
    · exact ⟨_, ⟨_, rfl⟩, ((Hb.out.take _).mono fun b _ hb => H7.out b hb).side ((Side.refl rb w).set 0 _), rdr_set h0 H1.out h2 H3.out (Hb.out.drop m) (by simp) (by omega) (by omega) H7.out, (Side.refl rb w).set 0 _⟩
  · go_enter Tryz.func89, Tryz.ntmps89
    go_wp2_with (go_at_call 94; refine (must_no (by first | rfl | (simp; omega)) _).mono ?_; rintro e w1 ⟨rfl, rfl⟩)
    all_goals exact ⟨rfl, .inr ⟨hok, rfl, Side.refl _ _⟩⟩

/-! ### a number -/
def beNat (l : List UInt8) : Nat := l.foldl (fun a c => a * 256 + c.toNat) 0
theorem beNat_snoc (l : List UInt8) (c : UInt8) : beNat (l ++ [c]) = beNat l * 256 + c.toNat := by simp [beNat, List.foldl_append]
theorem beNat_next (l : List UInt8) (q : Nat) (hq : q < l.length) : beNat (l.take (q + 1)) = beNat (l.take q) * 256 + l[q].toNat := by
  rw [List.take_succ_eq_append_getElem hq, beNat_snoc]
theorem foldl_lt : ∀ (l : List UInt8) (a n : Nat), a < 256 ^ n → l.foldl (fun a c => a * 256 + c.toNat) a < 256 ^ (n + l.length) := by
  intro l
  induction l with
  | nil => intro a n h; exact h
  | cons c l ih =>
    intro a n h
    have hc := c.toNat_lt
    have := ih (a * 256 + c.toNat) (n + 1) (by rw [Nat.pow_succ]; omega)
    simp only [List.foldl_cons, List.length_cons]
    rwa [show n + (l.length + 1) = n + 1 + l.length by omega]
theorem beNat_lt (l : List UInt8) : beNat l < 256 ^ l.length := by
  have := foldl_lt l 0 0 (by simp)
  simpa [beNat] using this
theorem u8_eq {n : Nat} {c : UInt8} (h : n % 256 = c.toNat) : UInt8.ofNat n = c := by
  apply UInt8.toNat_inj.mp
  rw [u8_ofNat_toNat, h]
theorem num8_be {l : List UInt8} (h : l.length = 8) {x : Int} (hx : x % 18446744073709551616 = (beNat l : Int)) : num8 x = l := by
  match l, h with
  | [a, b, c, d, e, f, g, i], _ =>
    have hn : (x % 18446744073709551616).toNat = beNat [a, b, c, d, e, f, g, i] := by omega
    have h0 := a.toNat_lt
    have h1 := b.toNat_lt
    have h2 := c.toNat_lt
    have h3 := d.toNat_lt
    have h4 := e.toNat_lt
    have h5 := f.toNat_lt
    have h6 := g.toNat_lt
    have h7 := i.toNat_lt
    simp only [num8, hn]
    simp only [beNat, List.foldl_cons, List.foldl_nil]
    rw [u8_eq (c := a) (by omega), u8_eq (c := b) (by omega), u8_eq (c := c) (by omega), u8_eq (c := d) (by omega), u8_eq (c := e) (by omega), u8_eq (c := f) (by omega), u8_eq (c := g) (by omega), u8_eq (c := i) (by omega)]

theorem or_step (X c : Nat) (hX : X < 72057594037927936) (hc : c < 256) : bits .or .u64 (IntKind.u64.wrap ((X : Int) * 256)) (IntKind.u64.wrap (c : Int)) = ((X * 256 + c : Nat) : Int) := by
  have h1 : IntKind.u64.wrap ((X : Int) * 256) = ((X * 256 : Nat) : Int) := by simp [IntKind.wrap, IntKind.bits, IntKind.signed]; omega
  have h2 : IntKind.u64.wrap (c : Int) = ((c : Nat) : Int) := by simp [IntKind.wrap, IntKind.bits, IntKind.signed]; omega
  have h3 : X * 256 ||| c = X * 256 + c := by
    have := Nat.shiftLeft_add_eq_or_of_lt (i := 8) (b := c) (by omega) X
    rw [Nat.shiftLeft_eq, show (2 : Nat) ^ 8 = 256 from rfl] at this
    exact this.symm
  rw [h1, h2]
  unfold bits
  rw [← h3]
  have hlt : X * 256 ||| c < 18446744073709551616 := by omega
  simp only [IntKind.wrap, IntKind.bits, IntKind.signed]
  simp [BitVec.toNat_or, BitVec.ofInt_natCast, -Int.natCast_mul]
  have hb : (BitVec.ofNat 64 (X * 256) ||| BitVec.ofNat 64 c : BitVec 64).toNat = (X * 256 ||| c) := by
    rw [BitVec.toNat_or, BitVec.toNat_ofNat, BitVec.toNat_ofNat, Nat.mod_eq_of_lt (by omega), Nat.mod_eq_of_lt (by omega)]
  change (((BitVec.ofNat 64 (X * 256) ||| BitVec.ofNat 64 c : BitVec 64).toNat : Int)) % 18446744073709551616 = _
  rw [hb]
  omega

set_option maxHeartbeats 1000000 in
set_option maxRecDepth 1000000 in
theorem number_get {D : Nat → Prop} {rb d : Nat} {w : World} {l : List UInt8} (h : Rdr D rb w l d) :
    Calls Tryz.prog 91 #[.pointer (some ⟨rb, 0, none⟩)] w fun e w' =>
      (∃ n l', l = num8 n ++ l' ∧ is63 n ∧ e = .returned (.int .i64 n) ∧ Rdr D rb w' l' d ∧ Side rb w w') ∨ (l.length < 8 ∧ e = oops ∧ Side rb w w') := by
  have H := hide h
  clear h
  go_enter Tryz.func91, Tryz.ntmps91
  go_wp2_with (go_at_call 89; refine (take_any H.out (by unfold is63; omega)).mono ?_; rintro e w1 (⟨A, c, h0, h8, rfl, hb, hr, hs⟩ | ⟨hno, rfl, hs⟩))
  · have Hb := hide hb
    have Hr := hide hr
    have Hs := hide hs
    clear hb hr hs
    have h8' : 8 ≤ l.length := by omega
    have hl8 : (l.take 8).length = 8 := by simp; omega
    go_loopw [11, 3, 5] (fun i u _ wr => ∃ q : Nat, q ≤ 8 ∧ i = .int .i64 q ∧ u = .int .u64 (beNat ((l.take 8).take q)) ∧ wr = w1) (fun i _ _ _ => 8 - (intOf i).toNat)
    case atStart => exact ⟨0, by omega, rfl, rfl, rfl⟩
    case round =>
      obtain ⟨q, hq, rfl, rfl, rfl⟩ := hrel
      by_cases hlt : q < 8
      · obtain ⟨b, o, hA, hc⟩ := Hb.out.1.at_ (j := q) (by simp [bytesV]; omega)
        subst hA
        simp only [bytesV, List.getElem_map] at hc
        have Hx := hide (beNat_next (l.take 8) q (by omega))
        have Hlt : Hid (beNat ((l.take 8).take q) < 72057594037927936) := hide (by
          have h1 := beNat_lt ((l.take 8).take q)
          have h2 : ((l.take 8).take q).length = q := by simp; omega
          rw [h2] at h1
          exact Nat.lt_of_lt_of_le h1 (Nat.pow_le_pow_right (by omega) (show q ≤ 7 by omega)))
        go_wp2_with fail
        refine ⟨⟨q + 1, by omega, by go_num, ?_, trivial⟩, by simp [intOf]; omega⟩
        rw [or_step _ _ Hlt.out (UInt8.toNat_lt _), Hx.out, List.getElem_take]
      · go_wp2_with fail
        go_ret
        have hq8 : q = 8 := by omega
        subst hq8
        rw [List.take_of_length_le (Nat.le_of_eq hl8)]
        refine .inl ⟨_, l.drop 8, ?_, ?_, rfl, Hr.out, Hs.out⟩
        · have hb8 := beNat_lt (l.take 8)
          rw [hl8, show (256 : Nat) ^ 8 = 18446744073709551616 from rfl] at hb8
          rw [num8_be hl8 (by unfold wrap64; omega), List.take_append_drop]
        · unfold is63 wrap64; omega
  · exact ⟨rfl, .inr ⟨by omega, rfl, hs⟩⟩

end Go.Proofs.YtfhfkbdaglegpaaGreatDoor

namespace Go.Proofs.YtfhfkbdaglegpaaGreatDoor
open Go.RowKit

theorem num8_exists {l : List UInt8} (h : 8 ≤ l.length) : ∃ n l', l = num8 n ++ l' ∧ is63 n := by
  have hl8 : (l.take 8).length = 8 := by simp; omega
  have hb8 := beNat_lt (l.take 8)
  rw [hl8, show (256 : Nat) ^ 8 = 18446744073709551616 from rfl] at hb8
  refine ⟨wrap64 (beNat (l.take 8)), l.drop 8, ?_, ?_⟩
  · rw [num8_be hl8 (by unfold wrap64; omega), List.take_append_drop]
  · unfold is63 wrap64; omega
section
variable {D : Nat → Prop} {rb d : Nat} {w : World} {l l' : List UInt8} {n : Int}
theorem number_yes (h : Rdr D rb w (num8 n ++ l') d) (hn : is63 n) :
    Calls Tryz.prog 91 #[.pointer (some ⟨rb, 0, none⟩)] w fun e w' => e = .returned (.int .i64 n) ∧ Rdr D rb w' l' d ∧ Side rb w w' := by
  refine (number_get h).mono ?_
  rintro e w' (⟨n', l2, he, hn', rfl, hr, hs⟩ | ⟨hl, _⟩)
  · obtain ⟨rfl, rfl⟩ := num8_split hn hn' he
    exact ⟨rfl, hr, hs⟩
  · rw [List.length_append, num8_len] at hl; omega
theorem number_no (h : Rdr D rb w l d) (hl : l.length < 8) : Calls Tryz.prog 91 #[.pointer (some ⟨rb, 0, none⟩)] w fun e w' => e = oops ∧ Side rb w w' := by
  refine (number_get h).mono ?_
  rintro e w' (⟨n', l2, rfl, _⟩ | ⟨_, he, hs⟩)
  · rw [List.length_append, num8_len] at hl; omega
  · exact ⟨he, hs⟩
theorem take_yes (h : Rdr D rb w l d) (hn : is63 n) (h1 : 0 ≤ n ∧ n ≤ l.length) : Calls Tryz.prog 89 #[.pointer (some ⟨rb, 0, none⟩), .int .i64 n] w fun e w' =>
    ∃ A c, e = .returned (.slice A n.toNat c) ∧ BytesIn (Off rb) w' A (l.take n.toNat) ∧ Rdr D rb w' (l.drop n.toNat) d ∧ Side rb w w' := by
  refine (take_any h hn).mono ?_
  rintro e w' (⟨A, c, _, _, h2⟩ | ⟨h2, _⟩)
  · exact ⟨A, c, h2⟩
  · exact absurd h1 h2
theorem take_no (h : Rdr D rb w l d) (hn : is63 n) (h1 : ¬ (0 ≤ n ∧ n ≤ l.length)) : Calls Tryz.prog 89 #[.pointer (some ⟨rb, 0, none⟩), .int .i64 n] w fun e w' => e = oops ∧ Side rb w w' := by
  refine (take_any h hn).mono ?_
  rintro e w' (⟨A, c, h2, h3, _⟩ | ⟨_, h2⟩)
  · exact absurd ⟨h2, h3⟩ h1
  · exact h2
theorem take_lit (h : Rdr D rb w l d) (hne : 0 < l.length) : Calls Tryz.prog 89 #[.pointer (some ⟨rb, 0, none⟩), .int .i64 1] w fun e w' =>
    ∃ A c, e = .returned (.slice A 1 c) ∧ BytesIn (Off rb) w' A (l.take 1) ∧ Rdr D rb w' (l.drop 1) d ∧ Side rb w w' := take_yes (n := 1) h (by unfold is63; omega) (by omega)
theorem run_bytes_str (w : World) (A : Option Addr) (c : Nat) (l : List UInt8) (hb : BytesIn (Off rb) w A l) :
    (convert 36 9 (.slice A l.length c)).run Tryz.prog w = .ok (.string ⟨l.toArray⟩) w := by
  rcases hb.1 with h | ⟨b, o, rfl, _, hc⟩
  · have : l = [] := by simpa [bytesV] using h
    subst this
    show (convert 36 9 (.slice A 0 c)).run Tryz.prog w = _
    rw [run_convert_bytes_string w 36 9 5 A 0 c Tryz.underlying36 Tryz.underlying5 Tryz.underlying9]
    cases A <;> simp [Conv.bytesToString, loadCells, loadCellsFrom]
    all_goals rfl
  · refine run_convert_bytes_back w _ _ _ ⟨b, o, none⟩ c l Tryz.underlying36 Tryz.underlying5 Tryz.underlying9 (fun j hj => ?_)
    rw [Addr.add_lit]
    exact hc j _ (by simp [bytesV, hj])
end

set_option maxHeartbeats 1000000 in
set_option maxRecDepth 1000000 in
theorem text_yes {D : Nat → Prop} {rb d : Nat} {w : World} {l' : List UInt8} {n : Int} (h : Rdr D rb w (num8 n ++ l') d) (hn : is63 n) (h1 : 0 ≤ n ∧ n ≤ l'.length) :
    Calls Tryz.prog 90 #[.pointer (some ⟨rb, 0, none⟩)] w fun e w' => e = .returned (.string ⟨(l'.take n.toNat).toArray⟩) ∧ Rdr D rb w' (l'.drop n.toNat) d ∧ Side rb w w' := by
  have H := hide h
  have Hn := hide hn
  have hl : (l'.take n.toNat).length = n.toNat := by simp; omega
  have Hl := hide hl
  have hcv : ∀ w' A c, Hid (BytesIn (Off rb) w' A (l'.take n.toNat)) → (convert 36 9 (.slice A n.toNat c)).run Tryz.prog w' = .ok (.string ⟨(l'.take n.toNat).toArray⟩) w' := by
    intro w' A c hb
    have := run_bytes_str w' A c _ hb.out
    rwa [hl] at this
  clear h hn hl
  go_enter Tryz.func90, Tryz.ntmps90
  go_upto_region 1 with fail
  go_region_with (first
    | (go_at_call 91; (with_reducible refine (number_yes (l' := l') (n := n) (Rdr.drew H.out) Hn.out).mono ?_); rintro e w1 ⟨rfl, hr, hs⟩; have Hr := hide hr; have Hs : Hid (Side rb w w1) := hide (Side.trans (Side.drew (Side.refl rb w)) hs); clear hr hs)
    | (go_at_call 89; (with_reducible refine (take_yes Hr.out Hn.out h1).mono ?_); rintro e w2 ⟨A, c, rfl, hb, hr, hs⟩; have hcv2 := hcv w2 A c (hide hb); have Hr2 := hide hr; have Hs2 := hide (Side.trans Hs.out hs); clear hb hr hs))
  all_goals (go_wp2_with fail; go_ret; exact ⟨rfl, Hr2.out, Hs2.out⟩)

set_option maxHeartbeats 1000000 in
set_option maxRecDepth 1000000 in
theorem text_no1 {D : Nat → Prop} {rb d : Nat} {w : World} {l : List UInt8} (h : Rdr D rb w l d) (hl : l.length < 8) :
    Calls Tryz.prog 90 #[.pointer (some ⟨rb, 0, none⟩)] w fun e w' => e = oops ∧ Side rb w w' := by
  have H := hide h
  clear h
  go_enter Tryz.func90, Tryz.ntmps90
  go_upto_region 1 with fail
  refine wp_region_any (by kernel_rfl) ?_
  change wpAny _ _ _ _ _ _ _ (World.drew _)
  refine wpAny_take (i := 0) (v := ?_) rfl (by kernel_rfl) (by kernel_rfl) (by kernel_rfl) (fun _ _ _ h => h) (Or.inl ⟨by rfl, ?_⟩) ?_
  rotate_left
  · intro w'
    first | (go_simp; done) | (go_simp; with_reducible rfl)
  refine wpAny_take (i := 1) (v := ?_) rfl (by kernel_rfl) (by kernel_rfl) (by kernel_rfl) (fun _ _ _ h => h) (Or.inl ⟨by rfl, ?_⟩) ?_
  rotate_left
  · intro w'
    first | (go_simp; done) | (go_simp; with_reducible rfl)
  refine wpAny_take (i := 2) (v := ?_) rfl (by kernel_rfl) (by kernel_rfl) (by kernel_rfl) (fun _ _ _ h => h) (Or.inl ⟨by rfl, ?_⟩) ?_
  rotate_left
  · intro w'
    first | (go_simp; done) | (go_simp; with_reducible rfl)
  refine wpAny_take (i := 3) (v := ?_) rfl (by kernel_rfl) (by kernel_rfl) (by kernel_rfl) (fun _ _ _ h => h) (Or.inl ⟨by rfl, ?_⟩) ?_
  rotate_left
  · intro w'
    first | (go_simp; done) | (go_simp; with_reducible rfl)
  refine wpAny_ready (rs := [4]) (by kernel_rfl) (by simp) ?_
  refine AllReady.cons rfl (fun K hK => ?_) AllReady.nil
  go_simp
  go_wp2_with (go_at_call 91; (with_reducible refine (number_no (Rdr.drew H.out) hl).mono ?_); rintro e w1 ⟨rfl, hs⟩; have hs1 : Side rb w w1 := Side.trans (Side.drew (Side.refl rb w)) hs; clear hs)
  exact ⟨rfl, rfl, hs1⟩

set_option maxHeartbeats 1000000 in
set_option maxRecDepth 1000000 in
theorem text_no2 {D : Nat → Prop} {rb d : Nat} {w : World} {l' : List UInt8} {n : Int} (h : Rdr D rb w (num8 n ++ l') d) (hn : is63 n) (h1 : ¬ (0 ≤ n ∧ n ≤ l'.length)) :
    Calls Tryz.prog 90 #[.pointer (some ⟨rb, 0, none⟩)] w fun e w' => e = oops ∧ Side rb w w' := by
  have H := hide h
  have Hn := hide hn
  clear h hn
  go_enter Tryz.func90, Tryz.ntmps90
  go_upto_region 1 with fail
  refine wp_region_any (by kernel_rfl) ?_
  change wpAny _ _ _ _ _ _ _ (World.drew _)
  refine wpAny_take (i := 0) (v := ?_) rfl (by kernel_rfl) (by kernel_rfl) (by kernel_rfl) (fun _ _ _ h => h) (Or.inl ⟨by rfl, ?_⟩) ?_
  rotate_left
  · intro w'
    first | (go_simp; done) | (go_simp; with_reducible rfl)
  refine wpAny_take (i := 1) (v := ?_) rfl (by kernel_rfl) (by kernel_rfl) (by kernel_rfl) (fun _ _ _ h => h) (Or.inl ⟨by rfl, ?_⟩) ?_
  rotate_left
  · intro w'
    first | (go_simp; done) | (go_simp; with_reducible rfl)
  refine wpAny_take (i := 2) (v := ?_) rfl (by kernel_rfl) (by kernel_rfl) (by kernel_rfl) (fun _ _ _ h => h) (Or.inl ⟨by rfl, ?_⟩) ?_
  rotate_left
  · intro w'
    first | (go_simp; done) | (go_simp; with_reducible rfl)
  refine wpAny_take (i := 3) (v := ?_) rfl (by kernel_rfl) (by kernel_rfl) (by kernel_rfl) (fun _ _ _ h => h) (Or.inl ⟨by rfl, ?_⟩) ?_
  rotate_left
  · intro w'
    first | (go_simp; done) | (go_simp; with_reducible rfl)
  refine wpAny_ready (rs := [4]) (by kernel_rfl) (by simp) ?_
  refine AllReady.cons rfl (fun K hK => ?_) AllReady.nil
  go_simp
  go_wp2_with (go_at_call 91; (with_reducible refine (number_yes (l' := l') (n := n) (Rdr.drew H.out) Hn.out).mono ?_); rintro e w1 ⟨rfl, hr, hs⟩; have Hr := hide hr; have Hs : Hid (Side rb w w1) := hide (Side.trans (Side.drew (Side.refl rb w)) hs); clear hr hs)
  first | (refine hK _ _ ?_; clear hK K) | skip
  refine wpAny_ready (rs := [5]) (by kernel_rfl) (by simp) ?_
  refine AllReady.cons rfl (fun K2 hK2 => ?_) AllReady.nil
  go_simp
  go_wp2_with (go_at_call 89; (with_reducible refine (take_no Hr.out Hn.out h1).mono ?_); rintro e w2 ⟨rfl, hs⟩; have hs2 : Side rb w w2 := Side.trans Hs.out hs; clear hs)
  exact ⟨rfl, rfl, hs2⟩

/-- what the bytes tell: a text, or none -/
def TextAt (l : List UInt8) : Prop := ∃ (s : ByteArray) (l' : List UInt8), s.size ≤ max63 ∧ l = txtB s ++ l'
theorem text_get {D : Nat → Prop} {rb d : Nat} {w : World} {l : List UInt8} (h : Rdr D rb w l d) (hl63 : l.length ≤ max63) :
    Calls Tryz.prog 90 #[.pointer (some ⟨rb, 0, none⟩)] w fun e w' =>
      (∃ s l', l = txtB s ++ l' ∧ s.size ≤ max63 ∧ e = .returned (.string s) ∧ Rdr D rb w' l' d ∧ Side rb w w') ∨ (¬ TextAt l ∧ e = oops ∧ Side rb w w') := by
  by_cases h8 : l.length < 8
  · refine (text_no1 h h8).mono ?_
    rintro e w' ⟨he, hs⟩
    refine .inr ⟨?_, he, hs⟩
    rintro ⟨s, l', _, rfl⟩
    rw [List.length_append, txtB_len] at h8
    omega
  · obtain ⟨n, l', rfl, hn⟩ := num8_exists (l := l) (by omega)
    by_cases h1 : 0 ≤ n ∧ n ≤ l'.length
    · refine (text_yes h hn h1).mono ?_
      rintro e w' ⟨he, hr, hs⟩
      have hsz : (⟨(l'.take n.toNat).toArray⟩ : ByteArray).size = n.toNat := by
        show (l'.take n.toNat).toArray.size = n.toNat
        simp; omega
      refine .inl ⟨_, _, ?_, ?_, he, hr, hs⟩
      · unfold txtB
        rw [hsz]
        have : ((n.toNat : Nat) : Int) = n := by omega
        rw [this, List.append_assoc]
        simp
      · rw [hsz]; rw [List.length_append, num8_len] at hl63; omega
    · refine (text_no2 h hn h1).mono ?_
      rintro e w' ⟨he, hs⟩
      refine .inr ⟨?_, he, hs⟩
      rintro ⟨s, l2, hsz, hl2⟩
      unfold txtB at hl2
      rw [List.append_assoc] at hl2
      obtain ⟨e1, e2⟩ := num8_split hn (is63_nat hsz) hl2
      refine h1 ⟨by omega, ?_⟩
      have e3 : s.data.toList.length = s.size := by simp
      rw [e2, List.length_append, e3]
      omega

end Go.Proofs.YtfhfkbdaglegpaaGreatDoor

namespace Go.Proofs.YtfhfkbdaglegpaaGreatDoor
open Go.RowKit

theorem own_side {rb e size n : Nat} {w w' : World} {v : Value} {xs : List Value} (h : w.ownsRow 0 e size v n xs) (hne : ∀ g, v.ownBlock = some g → g ≠ rb) (hs : Side rb w w') : w'.ownsRow 0 e size v n xs := by
  refine ⟨h.1, ?_⟩
  rcases h.2 with hn | ⟨g, cap, cur, rfl, hb, hgg, rest⟩
  · exact .inl hn
  · refine .inr ⟨g, cap, cur, rfl, hb, ?_, rest⟩
    rw [hs.block g ⟨(Array.getElem?_eq_some_iff.1 hgg).1, hne g rfl⟩]
    exact hgg
theorem rdr_grown {D : Nat → Prop} {rb d : Nat} {W w w' : World} {l : List UInt8} {row : Option Nat} (h : Rdr (fun b => D b ∧ b < W.heap.size) rb w l d) (hg : w.grownBy w' row) (hrb : rb < W.heap.size) (hW : W.heap.size ≤ w.heap.size) (hr : ∀ k, row = some k → W.heap.size ≤ k) :
    Rdr (fun b => D b ∧ b < W.heap.size) rb w' l d :=
  h.keep fun b hb => hg.block b (Nat.lt_of_lt_of_le (hb.elim (fun h => h.2) (fun e => e ▸ hrb)) hW) (fun e => by
    have h1 := hr b e.symm
    have h2 : b < W.heap.size := hb.elim (fun h => h.2) (fun e => e ▸ hrb)
    omega)
/-- what the bytes tell: a row, or none -/
def RowAt {α : Type} (enc : α → List UInt8) (fit : α → Prop) (l : List UInt8) : Prop := ∃ (m : List α) (l' : List UInt8), (∀ a ∈ m, fit a) ∧ m.length ≤ max63 ∧ l = rowB enc m ++ l'
theorem row_short {α : Type} {enc : α → List UInt8} {fit : α → Prop} {l : List UInt8} (h : l.length < 8) : ¬ RowAt enc fit l := by
  rintro ⟨m, l', _, _, rfl⟩
  unfold rowB at h
  rw [List.length_append, List.length_append, num8_len] at h
  omega
theorem row_guard {α : Type} {enc : α → List UInt8} {fit : α → Prop} (h8 : ∀ a, 8 ≤ (enc a).length) {n : Int} {l1 : List UInt8} (hn : is63 n) (h : ¬ (0 ≤ n ∧ n ≤ (l1.length : Int) / 8)) : ¬ RowAt enc fit (num8 n ++ l1) := by
  rintro ⟨m, l', hf, hm, he⟩
  unfold rowB at he
  rw [List.append_assoc] at he
  obtain ⟨e1, e2⟩ := num8_split hn (is63_nat hm) he
  have := flat_len8 h8 m
  rw [e2, List.length_append] at h
  refine h ⟨by omega, ?_⟩
  omega
theorem row_next {α : Type} {enc : α → List UInt8} {fit : α → Prop} (hs : ∀ a b x y, fit a → fit b → enc a ++ x = enc b ++ y → a = b ∧ x = y) {n : Int} {xs : List α} {l1 lq : List UInt8} (hn : is63 n) (hx : ∀ a ∈ xs, fit a)
    (he : l1 = (xs.map enc).flatten ++ lq) (hlt : (xs.length : Int) < n) (hno : ¬ ∃ a l', fit a ∧ lq = enc a ++ l') : ¬ RowAt enc fit (num8 n ++ l1) := by
  rintro ⟨m, l', hf, hm, h⟩
  unfold rowB at h
  rw [List.append_assoc] at h
  obtain ⟨e1, e2⟩ := num8_split hn (is63_nat hm) h
  rw [he] at e2
  have hle : xs.length < m.length := by omega
  obtain ⟨_, e4⟩ := flat_behind hs hx hf (by omega) e2
  rw [List.drop_eq_getElem_cons hle] at e4
  rw [List.map_cons, List.flatten_cons, List.append_assoc] at e4
  exact hno ⟨m[xs.length], _, hf _ (List.getElem_mem hle), e4⟩
theorem num8_none {l : List UInt8} (h : l.length < 8) : ¬ ∃ (n : Int) (l' : List UInt8), is63 n ∧ l = num8 n ++ l' := by
  rintro ⟨n, l', _, rfl⟩
  rw [List.length_append, num8_len] at h
  omega

set_option maxHeartbeats 2000000 in
set_option maxRecDepth 1000000 in
theorem someInt_get {D : Nat → Prop} {rb d : Nat} {w : World} {l : List UInt8} (h : Rdr D rb w l d) (hl : l.length ≤ lid) :
    Calls Tryz.prog 146 #[.pointer (some ⟨rb, 0, none⟩), .func (.func 91) #[.pointer (some ⟨rb, 0, none⟩)] #[]] w fun e w' =>
      (∃ xs l' A c, l = pathB xs ++ l' ∧ (∀ a ∈ xs, is63 a) ∧ e = .returned (.slice A xs.length c) ∧ IntsIn (fun b => w.heap.size ≤ b) w' A xs ∧ xs.length ≤ c ∧ c ≤ 9223372036854775807 ∧ Rdr D rb w' l' d ∧ Side rb w w' ∧ ∃ L, RowO 3 w' A c xs.length (xs.map (.int .i64)) L ∧ ∀ b ∈ L, w.heap.size ≤ b) ∨
      (¬ RowAt num8 (is63) l ∧ e = oops ∧ Side rb w w') := by
  have hrb := h.lt
  have Hoff := hide h.off
  have H := hide h.old
  obtain ⟨i0, hi, hz0, hz1, hz2⟩ := info_parts InfosomeInt
  clear h
  by_cases h8 : l.length < 8
  · go_enter Tryz.func146, Tryz.ntmps146
    go_wp2_with (go_at_call 91; (with_reducible refine (number_no H.out h8).mono ?_); rintro e w1 ⟨rfl, hs⟩; exact ⟨rfl, .inr ⟨row_short h8, rfl, hs⟩⟩)
  obtain ⟨n, l1, rfl, hn⟩ := num8_exists (l := l) (by omega)
  have Hn := hide hn
  unfold is63 at hn
  have hl1 : 8 + l1.length ≤ 1099511627776 := by rw [List.length_append, num8_len] at hl; exact hl
  have hq8 : wrap64 ((l1.length : Int) / 8) = (l1.length : Int) / 8 := by unfold wrap64; omega
  by_cases hok : 0 ≤ n ∧ n ≤ (l1.length : Int) / 8
  · obtain ⟨ha, hb⟩ := hok
    clear hl h8
    go_enter Tryz.func146, Tryz.ntmps146
    go_wp2_with (first
      | (go_at_call 91; (with_reducible refine (number_yes (n := n) (l' := l1) H.out Hn.out).mono ?_); rintro e w1 ⟨rfl, hr, hs⟩; obtain ⟨A1, c1, q0⟩ := hr.slice; have Hr := hide hr; have Hs := hide hs; clear hr hs)
      | (go_at_call 94; refine (must_yes (by first | rfl | (simp; omega)) _).mono ?_; rintro e w2 ⟨rfl, rfl⟩))
    have hw1 := Hs.out.size
    go_loopw [24, 6] (fun i v wr => ∃ (xs : List Int) (lq : List UInt8), i = .int .i64 xs.length ∧ (xs.length : Int) ≤ n ∧ Hid (l1 = (xs.map num8).flatten ++ lq) ∧ Hid (∀ a ∈ xs, is63 a) ∧ Hid (wr.ownsRow 0 3 1 v xs.length (xs.map (.int .i64))) ∧ Hid (∀ g, v.ownBlock = some g → w.heap.size ≤ g) ∧
        Hid (Rdr (fun b => D b ∧ b < w.heap.size) rb wr lq d) ∧ Hid (Side rb w wr)) (fun i _ _ => (n - intOf i).toNat)
    case atStart => exact ⟨[], l1, rfl, ha, hide rfl, hide (by simp), hide (World.ownsRow_nil _ _ _ _), hide (by simp [Value.ownBlock]), Hr, Hs⟩
    case round =>
      obtain ⟨xs, lq, rfl, hle, He, Hf, Ho, Hg, Hq, HS⟩ := hrel
      have hfl := flat_len8 (enc := num8) (fun a => Nat.le_of_eq (num8_len a).symm) xs
      have hlq : (xs.map num8).flatten.length + lq.length = l1.length := by rw [He.out, List.length_append]
      have hxl : 8 * xs.length ≤ l1.length := by omega
      have hwr := HS.out.size
      by_cases hlt : (xs.length : Int) < n
      · go_wp2_with (first
          | (go_at_call 91; (refine (number_get Hq.out).mono ?_); rintro e w3 (⟨a, l2, he2, ha2, rfl, hr2, hs2⟩ | ⟨hno, rfl, hs2⟩))
          | (at_builtin; refine wpList_append_own2 _ rfl _ _ 27 rfl 3 i0 (.int .i64 0) 1 8 Tryz.underlying27 hi hz0 hz1 hz2 rfl (by decide) _ xs.length (xs.map (.int .i64)) rfl ((own_side Ho.out (fun g hg => by have := Hg.out g hg; omega) hs2).alloc _) ⟨w3.heap.size, 0, none⟩ 1 1 [.int .i64 a] rfl rfl (cell_one_new _ _ _) (by intro u hu; simp at hu; subst hu; rfl) (by unfold maxLen; omega) (by omega) ?_; intro v' w4 hown hgrow hnil hwhere))
        · have hS3 : Side rb w w3 := Side.trans HS.out hs2
          have hsz := hS3.size
          refine ⟨⟨xs ++ [a], l2, by simp, by simp; omega, hide ?_, hide ?_, hide ?_, hide ?_, hide ?_, hide ?_⟩, by simp [intOf]; omega⟩
          · rw [He.out, he2]; simp
          · intro b hb
            rcases List.mem_append.mp hb with hb | hb
            · exact Hf.out b hb
            · rw [List.mem_singleton] at hb; rw [hb]; exact ha2
          · simpa using hown
          · intro g hg
            rcases hwhere with e | e
            · exact Hg.out g (e ▸ hg)
            · rw [hg] at e; injection e with e; simp at e; omega
          · exact rdr_grown (hr2.alloc _) hgrow hrb (by simp; omega) (fun k hk => Hg.out k hk)
          · exact Keep.grown (Side.alloc hS3 _) hgrow (fun k hk => hk.1) (fun k hk hp => absurd hp.1 (by have := Hg.out k hk; omega))
        · exact ⟨rfl, .inr ⟨row_next (fun _ _ _ _ ha hb h => num8_split ha hb h) Hn.out Hf.out He.out hlt (num8_none hno), rfl, Side.trans HS.out hs2⟩⟩
      · go_wp2_with fail
        obtain ⟨A2, c2, rfl, hrd, hc2, hc3⟩ := own_rd (S := fun b => w.heap.size ≤ b) Ho.out Hg.out
        go_ret
        have hnn : n = (xs.length : Int) := by omega
        refine .inl ⟨xs, lq, ?_, Hf.out, _, _, rfl, ⟨hrd, fun a ha => Hf.out a ha, by omega⟩, hc2, hc3, Hq.out.back Hoff.out, HS.out, _, ⟨Ho.out, rfl⟩, fun b hb => Hg.out b (mem_ob.1 hb)⟩
        rw [He.out, hnn, ← List.append_assoc]; rfl
  · go_enter Tryz.func146, Tryz.ntmps146
    go_wp2_with (first
      | (go_at_call 91; (with_reducible refine (number_yes (n := n) (l' := l1) H.out Hn.out).mono ?_); rintro e w1 ⟨rfl, hr, hs⟩; obtain ⟨A1, c1, q0⟩ := hr.slice; have Hr := hide hr; have Hs := hide hs; clear hr hs)
      | (go_at_call 94; refine (must_no (by first | rfl | (simp; omega)) _).mono ?_; rintro e w2 ⟨rfl, rfl⟩))
    all_goals exact ⟨rfl, .inr ⟨row_guard (fun a => Nat.le_of_eq (num8_len a).symm) Hn.out hok, rfl, Hs.out⟩⟩

set_option maxHeartbeats 2000000 in
set_option maxRecDepth 1000000 in
theorem someStr_get {D : Nat → Prop} {rb d : Nat} {w : World} {l : List UInt8} (h : Rdr D rb w l d) (hl : l.length ≤ lid) :
    Calls Tryz.prog 92 #[.pointer (some ⟨rb, 0, none⟩), .func (.func 90) #[.pointer (some ⟨rb, 0, none⟩)] #[]] w fun e w' =>
      (∃ xs l' A c, l = txtsB xs ++ l' ∧ (∀ a ∈ xs, (fun s => s.size ≤ max63) a) ∧ e = .returned (.slice A xs.length c) ∧ StrsIn (fun b => w.heap.size ≤ b) w' A xs ∧ xs.length ≤ c ∧ c ≤ 9223372036854775807 ∧ Rdr D rb w' l' d ∧ Side rb w w' ∧ ∃ L, RowO 9 w' A c xs.length (xs.map .string) L ∧ ∀ b ∈ L, w.heap.size ≤ b) ∨
      (¬ RowAt txtB ((fun s => s.size ≤ max63)) l ∧ e = oops ∧ Side rb w w') := by
  have hrb := h.lt
  have Hoff := hide h.off
  have H := hide h.old
  obtain ⟨i0, hi, hz0, hz1, hz2⟩ := info_parts InfosomeStr
  clear h
  by_cases h8 : l.length < 8
  · go_enter Tryz.func92, Tryz.ntmps92
    go_wp2_with (go_at_call 91; (with_reducible refine (number_no H.out h8).mono ?_); rintro e w1 ⟨rfl, hs⟩; exact ⟨rfl, .inr ⟨row_short h8, rfl, hs⟩⟩)
  obtain ⟨n, l1, rfl, hn⟩ := num8_exists (l := l) (by omega)
  have Hn := hide hn
  unfold is63 at hn
  have hl1 : 8 + l1.length ≤ 1099511627776 := by rw [List.length_append, num8_len] at hl; exact hl
  have hq8 : wrap64 ((l1.length : Int) / 8) = (l1.length : Int) / 8 := by unfold wrap64; omega
  by_cases hok : 0 ≤ n ∧ n ≤ (l1.length : Int) / 8
  · obtain ⟨ha, hb⟩ := hok
    clear hl h8
    go_enter Tryz.func92, Tryz.ntmps92
    go_wp2_with (first
      | (go_at_call 91; (with_reducible refine (number_yes (n := n) (l' := l1) H.out Hn.out).mono ?_); rintro e w1 ⟨rfl, hr, hs⟩; obtain ⟨A1, c1, q0⟩ := hr.slice; have Hr := hide hr; have Hs := hide hs; clear hr hs)
      | (go_at_call 94; refine (must_yes (by first | rfl | (simp; omega)) _).mono ?_; rintro e w2 ⟨rfl, rfl⟩))
    have hw1 := Hs.out.size
    go_loopw [24, 6] (fun i v wr => ∃ (xs : List ByteArray) (lq : List UInt8), i = .int .i64 xs.length ∧ (xs.length : Int) ≤ n ∧ Hid (l1 = (xs.map txtB).flatten ++ lq) ∧ Hid (∀ a ∈ xs, (fun s => s.size ≤ max63) a) ∧ Hid (wr.ownsRow 0 9 1 v xs.length (xs.map (.string))) ∧ Hid (∀ g, v.ownBlock = some g → w.heap.size ≤ g) ∧
        Hid (Rdr (fun b => D b ∧ b < w.heap.size) rb wr lq d) ∧ Hid (Side rb w wr)) (fun i _ _ => (n - intOf i).toNat)
    case atStart => exact ⟨[], l1, rfl, ha, hide rfl, hide (by simp), hide (World.ownsRow_nil _ _ _ _), hide (by simp [Value.ownBlock]), Hr, Hs⟩
    case round =>
      obtain ⟨xs, lq, rfl, hle, He, Hf, Ho, Hg, Hq, HS⟩ := hrel
      have hfl := flat_len8 (enc := txtB) (fun a => by rw [txtB_len]; omega) xs
      have hlq : (xs.map txtB).flatten.length + lq.length = l1.length := by rw [He.out, List.length_append]
      have hxl : 8 * xs.length ≤ l1.length := by omega
      have hwr := HS.out.size
      by_cases hlt : (xs.length : Int) < n
      · go_wp2_with (first
          | (go_at_call 90; (refine (text_get Hq.out (show _ ≤ 9223372036854775807 by omega)).mono ?_); rintro e w3 (⟨a, l2, he2, ha2, rfl, hr2, hs2⟩ | ⟨hno, rfl, hs2⟩))
          | (at_builtin; refine wpList_append_own2 _ rfl _ _ 23 rfl 9 i0 (.string ByteArray.empty) 1 16 Tryz.underlying23 hi hz0 hz1 hz2 rfl (by decide) _ xs.length (xs.map (.string)) rfl ((own_side Ho.out (fun g hg => by have := Hg.out g hg; omega) hs2).alloc _) ⟨w3.heap.size, 0, none⟩ 1 1 [.string a] rfl rfl (cell_one_new _ _ _) (by intro u hu; simp at hu; subst hu; rfl) (by unfold maxLen; omega) (by omega) ?_; intro v' w4 hown hgrow hnil hwhere))
        · have hS3 : Side rb w w3 := Side.trans HS.out hs2
          have hsz := hS3.size
          refine ⟨⟨xs ++ [a], l2, by simp, by simp; omega, hide ?_, hide ?_, hide ?_, hide ?_, hide ?_, hide ?_⟩, by simp [intOf]; omega⟩
          · rw [He.out, he2]; simp
          · intro b hb
            rcases List.mem_append.mp hb with hb | hb
            · exact Hf.out b hb
            · rw [List.mem_singleton] at hb; rw [hb]; exact ha2
          · simpa using hown
          · intro g hg
            rcases hwhere with e | e
            · exact Hg.out g (e ▸ hg)
            · rw [hg] at e; injection e with e; simp at e; omega
          · exact rdr_grown (hr2.alloc _) hgrow hrb (by simp; omega) (fun k hk => Hg.out k hk)
          · exact Keep.grown (Side.alloc hS3 _) hgrow (fun k hk => hk.1) (fun k hk hp => absurd hp.1 (by have := Hg.out k hk; omega))
        · exact ⟨rfl, .inr ⟨row_next (fun _ _ _ _ ha hb h => txtB_split ha hb h) Hn.out Hf.out He.out hlt hno, rfl, Side.trans HS.out hs2⟩⟩
      · go_wp2_with fail
        obtain ⟨A2, c2, rfl, hrd, hc2, hc3⟩ := own_rd (S := fun b => w.heap.size ≤ b) Ho.out Hg.out
        go_ret
        have hnn : n = (xs.length : Int) := by omega
        refine .inl ⟨xs, lq, ?_, Hf.out, _, _, rfl, ⟨hrd, fun a ha => Hf.out a ha, by omega⟩, hc2, hc3, Hq.out.back Hoff.out, HS.out, _, ⟨Ho.out, rfl⟩, fun b hb => Hg.out b (mem_ob.1 hb)⟩
        rw [He.out, hnn, ← List.append_assoc]; rfl
  · go_enter Tryz.func92, Tryz.ntmps92
    go_wp2_with (first
      | (go_at_call 91; (with_reducible refine (number_yes (n := n) (l' := l1) H.out Hn.out).mono ?_); rintro e w1 ⟨rfl, hr, hs⟩; obtain ⟨A1, c1, q0⟩ := hr.slice; have Hr := hide hr; have Hs := hide hs; clear hr hs)
      | (go_at_call 94; refine (must_no (by first | rfl | (simp; omega)) _).mono ?_; rintro e w2 ⟨rfl, rfl⟩))
    all_goals exact ⟨rfl, .inr ⟨row_guard (fun a => by rw [txtB_len]; omega) Hn.out hok, rfl, Hs.out⟩⟩

end Go.Proofs.YtfhfkbdaglegpaaGreatDoor
