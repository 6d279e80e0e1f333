/- The reader of bytes: edits. Printed by gen_read5.py. -/
import Derived.Test.YthaoldnlleilfaaDoorCRead4
import Derived.Test.YthaoldnlleilfaaDoorCBase

set_option linter.unusedVariables false
set_option linter.unusedSimpArgs false

namespace Go.Proofs.YthaoldnlleilfaaDoor
open Go.RowKit

/-- what was made behind block N is kept -/
abbrev Late (N : Nat) (w w' : World) : Prop := Keep (fun b => N < b ∧ b < w.heap.size) w w'
section
variable {N rb : Nat} {w w' w'' : World} {A : Option Addr}
theorem Late.refl (N : Nat) (w : World) : Late N w w := Keep.refl _ _
theorem Late.set (h : Late N w w') {a : Addr} (ha : a.block ≤ N) (u : Value) : Late N w (w'.setCell a u) := Keep.setCell h (fun hk => absurd hk.1 (by omega)) u
theorem Late.side (h : Late N w w') (hrb : rb < N) (hs : Side rb w' w'') : Late N w w'' :=
  Keep.trans h (Keep.mono hs fun k hk => ⟨Nat.lt_of_lt_of_le hk.2 h.size, by have := hk.1; omega⟩)
theorem Rd.late {xs : List Value} (h : Rd (fun b => N < b) w A xs) (hl : Late N w w') : Rd (fun b => N < b) w' A xs :=
  ((h.mono (S' := fun b => N < b ∧ b < w.heap.size) fun _ h1 h2 => ⟨h2, h1⟩).keep hl.block).mono fun _ _ h => h.1
theorem IntsIn.late {l : List Int} (h : IntsIn (fun b => N < b) w A l) (hl : Late N w w') : IntsIn (fun b => N < b) w' A l := ⟨h.1.late hl, h.2⟩
theorem StrsIn.late {l : List ByteArray} (h : StrsIn (fun b => N < b) w A l) (hl : Late N w w') : StrsIn (fun b => N < b) w' A l := ⟨h.1.late hl, h.2⟩
theorem FoIn.late {f : Fo} (h : FoIn (fun b => N < b) w A f) (hl : Late N w w') : FoIn (fun b => N < b) w' A f :=
  ((h.mono (S' := fun b => N < b ∧ b < w.heap.size) fun _ h1 h2 => ⟨h2, h1⟩).keep hl.block).mono fun _ _ h => h.1
theorem EdIn.late {x : Eh} {e : Ed} (a : EdIn (fun b => N < b) w x e) (hl : Late N w w') : EdIn (fun b => N < b) w' x e :=
  ⟨a.kind, a.path.late hl, a.at_, a.far, a.frm, a.to, a.old.late hl, a.new.late hl, a.pc, a.oc, a.nc⟩
end

def EdAt (d : Nat) (l : List UInt8) : Prop := ∃ (e : Ed) (l' : List UInt8), EdFit e ∧ e.old.high + d ≤ 40 ∧ e.new.high + d ≤ 40 ∧ l = edB e ++ l'
theorem ed_no0 {d : Nat} {x : UInt8} {l1 : List UInt8}   (h : ¬ RowAt num8 is63 l1) : ¬ EdAt d (x :: (l1)) := by
  rintro ⟨e, l', hf, hh1, hh2, he⟩
  simp only [edB, List.cons_append, List.append_assoc, List.cons.injEq] at he
  obtain ⟨_, he⟩ := he
  exact h ⟨e.path, _, hf.path.1, hf.path.2, he⟩
theorem ed_no1 {d : Nat} {x : UInt8} {l1 : List UInt8} {p : List Int} (h1 : IntsFit p) (h : l1.length < 8) : ¬ EdAt d (x :: (pathB p ++ (l1))) := by
  rintro ⟨e, l', hf, hh1, hh2, he⟩
  simp only [edB, List.cons_append, List.append_assoc, List.cons.injEq] at he
  obtain ⟨_, he⟩ := he
  obtain ⟨_, he⟩ := pathB_split h1 hf.path he
  rw [he, List.length_append, num8_len] at h; omega
theorem ed_no2 {d : Nat} {x : UInt8} {l1 : List UInt8} {p : List Int} {a : Int} (h1 : IntsFit p) (h2 : is63 a) (h : l1.length < 8) : ¬ EdAt d (x :: (pathB p ++ (num8 a ++ (l1)))) := by
  rintro ⟨e, l', hf, hh1, hh2, he⟩
  simp only [edB, List.cons_append, List.append_assoc, List.cons.injEq] at he
  obtain ⟨_, he⟩ := he
  obtain ⟨_, he⟩ := pathB_split h1 hf.path he
  obtain ⟨_, he⟩ := num8_split h2 hf.at_ he
  rw [he, List.length_append, num8_len] at h; omega
theorem ed_no3 {d : Nat} {x : UInt8} {l1 : List UInt8} {p : List Int} {a : Int} {f : Int} (h1 : IntsFit p) (h2 : is63 a) (h3 : is63 f) (h : ¬ TextAt l1) : ¬ EdAt d (x :: (pathB p ++ (num8 a ++ (num8 f ++ (l1))))) := by
  rintro ⟨e, l', hf, hh1, hh2, he⟩
  simp only [edB, List.cons_append, List.append_assoc, List.cons.injEq] at he
  obtain ⟨_, he⟩ := he
  obtain ⟨_, he⟩ := pathB_split h1 hf.path he
  obtain ⟨_, he⟩ := num8_split h2 hf.at_ he
  obtain ⟨_, he⟩ := num8_split h3 hf.far he
  exact h ⟨e.frm, _, hf.frm, he⟩
theorem ed_no4 {d : Nat} {x : UInt8} {l1 : List UInt8} {p : List Int} {a : Int} {f : Int} {s : ByteArray} (h1 : IntsFit p) (h2 : is63 a) (h3 : is63 f) (h4 : s.size ≤ max63) (h : ¬ TextAt l1) : ¬ EdAt d (x :: (pathB p ++ (num8 a ++ (num8 f ++ (txtB s ++ (l1)))))) := by
  rintro ⟨e, l', hf, hh1, hh2, he⟩
  simp only [edB, List.cons_append, List.append_assoc, List.cons.injEq] at he
  obtain ⟨_, he⟩ := he
  obtain ⟨_, he⟩ := pathB_split h1 hf.path he
  obtain ⟨_, he⟩ := num8_split h2 hf.at_ he
  obtain ⟨_, he⟩ := num8_split h3 hf.far he
  obtain ⟨_, he⟩ := txtB_split h4 hf.frm he
  exact h ⟨e.to, _, hf.to, he⟩
theorem ed_no5 {d : Nat} {x : UInt8} {l1 : List UInt8} {p : List Int} {a : Int} {f : Int} {s : ByteArray} {t : ByteArray} (h1 : IntsFit p) (h2 : is63 a) (h3 : is63 f) (h4 : s.size ≤ max63) (h5 : t.size ≤ max63) (h : ¬ NodesAt d l1) : ¬ EdAt d (x :: (pathB p ++ (num8 a ++ (num8 f ++ (txtB s ++ (txtB t ++ (l1))))))) := by
  rintro ⟨e, l', hf, hh1, hh2, he⟩
  simp only [edB, List.cons_append, List.append_assoc, List.cons.injEq] at he
  obtain ⟨_, he⟩ := he
  obtain ⟨_, he⟩ := pathB_split h1 hf.path he
  obtain ⟨_, he⟩ := num8_split h2 hf.at_ he
  obtain ⟨_, he⟩ := num8_split h3 hf.far he
  obtain ⟨_, he⟩ := txtB_split h4 hf.frm he
  obtain ⟨_, he⟩ := txtB_split h5 hf.to he
  exact h ⟨e.old, _, hf.old, hh1, he⟩
theorem ed_no6 {d : Nat} {x : UInt8} {l1 : List UInt8} {p : List Int} {a : Int} {f : Int} {s : ByteArray} {t : ByteArray} {o : Fo} (h1 : IntsFit p) (h2 : is63 a) (h3 : is63 f) (h4 : s.size ≤ max63) (h5 : t.size ≤ max63) (h6 : NodesFit o) (h : ¬ NodesAt d l1) : ¬ EdAt d (x :: (pathB p ++ (num8 a ++ (num8 f ++ (txtB s ++ (txtB t ++ (nodesB o ++ (l1)))))))) := by
  rintro ⟨e, l', hf, hh1, hh2, he⟩
  simp only [edB, List.cons_append, List.append_assoc, List.cons.injEq] at he
  obtain ⟨_, he⟩ := he
  obtain ⟨_, he⟩ := pathB_split h1 hf.path he
  obtain ⟨_, he⟩ := num8_split h2 hf.at_ he
  obtain ⟨_, he⟩ := num8_split h3 hf.far he
  obtain ⟨_, he⟩ := txtB_split h4 hf.frm he
  obtain ⟨_, he⟩ := txtB_split h5 hf.to he
  obtain ⟨_, he⟩ := nodesB_split h6 hf.old he
  exact h ⟨e.new, _, hf.new, hh2, he⟩
theorem ed_no {d : Nat} : ¬ EdAt d [] := by
  rintro ⟨e, l', _, _, _, he⟩
  simp [edB] at he
def EdPost (D : Nat → Prop) (rb d : Nat) (w : World) (l : List UInt8) (e1 : Ending) (w' : World) : Prop :=
  (∃ (e : Ed) (x : Eh) (l' : List UInt8), l = edB e ++ l' ∧ EdFit e ∧ e.old.high + d ≤ 40 ∧ e.new.high + d ≤ 40 ∧ e1 = .returned (.agg #[.int .u8 e.kind, .slice x.pA e.path.length x.pc, .int .i64 e.at_, .int .i64 e.far, .string e.frm, .string e.to, .slice x.oA e.old.len x.oc, .slice x.nA e.new.len x.nc]) ∧ EdIn (fun b => w.heap.size < b) w' x e ∧ Rdr D rb w' l' d ∧ Side rb w w') ∨
  (¬ EdAt d l ∧ e1 = oops ∧ Side rb w w')

set_option maxHeartbeats 4000000 in
set_option maxRecDepth 1000000 in
theorem edit_get {D : Nat → Prop} {rb d : Nat} {w : World} {l : List UInt8} (h : Rdr D rb w l d) (hd : d ≤ 40) (hl : l.length ≤ lid) :
    Calls Tryd.prog 37 #[.pointer (some ⟨rb, 0, none⟩)] w (EdPost D rb d w l) := by
  have hrb := h.lt
  have Hoff := hide h.off
  have H := hide h.old
  have hl' : l.length ≤ 1099511627776 := hl
  clear h hl
  rcases l with _ | ⟨x, l1⟩
  · go_enter Tryd.func37, Tryd.ntmps37
    go_wp2_with (go_at_call 33; refine (take_no (H.out.alloc _) (by unfold is63; omega) (by simp)).mono ?_; rintro e w2 ⟨rfl, hs⟩; exact ⟨rfl, .inr ⟨ed_no, rfl, Side.trans (Side.alloc (Side.refl rb w) _) hs⟩⟩)
  · have hx := x.toNat_lt
    have hll : l1.length + 1 ≤ 1099511627776 := hl'
    clear hl'
    go_enter Tryd.func37, Tryd.ntmps37
    go_wp2_with (first
        | (go_at_call 33; refine (take_lit (H.out.alloc _) (by simp)).mono ?_; rintro e w2 ⟨A, c, rfl, hb, hr, hs⟩; obtain ⟨bb, bo, rfl, hx0⟩ := hb.1.at_ (j := 0) (by simp [bytesV]); simp only [bytesV, List.take_succ_cons, List.take_zero, List.map_cons, List.map_nil, List.getElem_cons_zero, Nat.add_zero] at hx0; obtain ⟨ha2, hb2, hc2⟩ := hs.box (N := w.heap.size) (by simp) (by omega); have Hh2 : Hid (Has w2 w.heap.size 8) := hide (Has.of_eq (Has.new _ _ _ _ (by simp)) ha2); have Hr2 : Hid (Rdr (fun b => D b ∧ b < w.heap.size) rb w2 l1 d) := hide hr; have HS2 := hide (Side.trans (Side.alloc (Side.refl rb w) _) hs); clear hb hr hs)
        | (go_at_call 57; (refine (someInt_get (Hr2.out.setNew hrb (a := ⟨w.heap.size, 0, none⟩) (Nat.le_refl _) _) (show _ ≤ 1099511627776 by omega)).mono ?_); rintro e w3 hP; rcases hP with ⟨p, l2, pA, pc, he3, hf3, rfl, hin, hpc1, hpc2, hr, hs⟩ | ⟨hno, rfl, hs⟩; all_goals first
            | exact ⟨rfl, .inr ⟨ed_no0 hno, rfl, Side.trans (Side.setNew HS2.out (a := ⟨w.heap.size, 0, none⟩) (Nat.le_refl _) _) hs⟩⟩
            | (have HS3 := hide (Side.trans (Side.setNew HS2.out (a := ⟨w.heap.size, 0, none⟩) (Nat.le_refl _) _) hs); have HL3 : Hid (Late w.heap.size w2 w3) := hide (Late.side (Late.set (Late.refl w.heap.size w2) (a := ⟨w.heap.size, 0, none⟩) (Nat.le_refl _) _) hrb hs); have HP3 := hide (hin.mono (S' := fun b => w.heap.size < b) (fun b _ hb => Nat.lt_of_lt_of_le (by first | (simp; exact hc2) | exact hc2) hb)); obtain ⟨ha3, hb3, hc3⟩ := hs.box (N := w.heap.size) (by first | (simp; exact hc2) | exact hc2) (by omega); have Hh3 := hide (Has.of_eq (Has.set Hh2.out ⟨w.heap.size, 0, none⟩ _) ha3); have Hr3 := hide hr; have He3 := hide he3; have Hf3 : Hid (IntsFit p) := hide ⟨hf3, Nat.le_trans hpc1 hpc2⟩; have hl2 : l2.length ≤ l1.length := (by rw [he3, List.length_append]; omega); clear hr hs hin he3 hf3))
        | (go_at_call 35; (refine (number_get (Hr3.out.setNew hrb (a := ⟨w.heap.size, 1, none⟩) (Nat.le_refl _) _)).mono ?_); rintro e w4 hP; rcases hP with ⟨at_, l3, he4, hn4, rfl, hr, hs⟩ | ⟨hno, rfl, hs⟩; all_goals first
            | exact ⟨rfl, .inr ⟨by rw [He3.out]; exact ed_no1 Hf3.out hno, rfl, Side.trans (Side.setNew HS3.out (a := ⟨w.heap.size, 1, none⟩) (Nat.le_refl _) _) hs⟩⟩
            | (have HS4 := hide (Side.trans (Side.setNew HS3.out (a := ⟨w.heap.size, 1, none⟩) (Nat.le_refl _) _) hs); have HL4 : Hid (Late w.heap.size w3 w4) := hide (Late.side (Late.set (Late.refl w.heap.size w3) (a := ⟨w.heap.size, 1, none⟩) (Nat.le_refl _) _) hrb hs); have HP4 := hide (HP3.out.late HL4.out); obtain ⟨ha4, hb4, hc4⟩ := hs.box (N := w.heap.size) (by first | (simp; exact hc3) | exact hc3) (by omega); have Hh4 := hide (Has.of_eq (Has.set Hh3.out ⟨w.heap.size, 1, none⟩ _) ha4); have Hr4 := hide hr; have He4 := hide he4; have Hf4 := hide hn4; have hl3 : l3.length ≤ l2.length := (by rw [he4, List.length_append]; omega); clear hr hs he4 hn4))
        | (go_at_call 35; (refine (number_get Hr4.out).mono ?_); rintro e w5 hP; rcases hP with ⟨far, l4, he5, hn5, rfl, hr, hs⟩ | ⟨hno, rfl, hs⟩; all_goals first
            | exact ⟨rfl, .inr ⟨by rw [He3.out, He4.out]; exact ed_no2 Hf3.out Hf4.out hno, rfl, Side.trans HS4.out hs⟩⟩
            | (have HS5 := hide (Side.trans HS4.out hs); have HL5 : Hid (Late w.heap.size w4 w5) := hide (Late.side (Late.refl w.heap.size w4) hrb hs); have HP5 := hide (HP4.out.late HL5.out); obtain ⟨ha5, hb5, hc5⟩ := hs.box (N := w.heap.size) (by first | (simp; exact hc4) | exact hc4) (by omega); have Hh5 := hide (Has.of_eq Hh4.out ha5); have Hr5 := hide hr; have He5 := hide he5; have Hf5 := hide hn5; have hl4 : l4.length ≤ l3.length := (by rw [he5, List.length_append]; omega); clear hr hs he5 hn5))
        | (go_at_call 34; (refine (text_get ((Hr5.out.setNew hrb (a := ⟨w.heap.size, 2, none⟩) (Nat.le_refl _) _).setNew hrb (a := ⟨w.heap.size, 3, none⟩) (Nat.le_refl _) _) (show _ ≤ 9223372036854775807 by omega)).mono ?_); rintro e w6 hP; rcases hP with ⟨frm, l5, he6, hn6, rfl, hr, hs⟩ | ⟨hno, rfl, hs⟩; all_goals first
            | exact ⟨rfl, .inr ⟨by rw [He3.out, He4.out, He5.out]; exact ed_no3 Hf3.out Hf4.out Hf5.out hno, rfl, Side.trans (Side.setNew (Side.setNew HS5.out (a := ⟨w.heap.size, 2, none⟩) (Nat.le_refl _) _) (a := ⟨w.heap.size, 3, none⟩) (Nat.le_refl _) _) hs⟩⟩
            | (have HS6 := hide (Side.trans (Side.setNew (Side.setNew HS5.out (a := ⟨w.heap.size, 2, none⟩) (Nat.le_refl _) _) (a := ⟨w.heap.size, 3, none⟩) (Nat.le_refl _) _) hs); have HL6 : Hid (Late w.heap.size w5 w6) := hide (Late.side (Late.set (Late.set (Late.refl w.heap.size w5) (a := ⟨w.heap.size, 2, none⟩) (Nat.le_refl _) _) (a := ⟨w.heap.size, 3, none⟩) (Nat.le_refl _) _) hrb hs); have HP6 := hide (HP5.out.late HL6.out); obtain ⟨ha6, hb6, hc6⟩ := hs.box (N := w.heap.size) (by first | (simp; exact hc5) | exact hc5) (by omega); have Hh6 := hide (Has.of_eq (Has.set (Has.set Hh5.out ⟨w.heap.size, 2, none⟩ _) ⟨w.heap.size, 3, none⟩ _) ha6); have Hr6 := hide hr; have He6 := hide he6; have Hf6 := hide hn6; have hl5 : l5.length ≤ l4.length := (by rw [he6, List.length_append]; omega); clear hr hs he6 hn6))
        | (go_at_call 34; (refine (text_get Hr6.out (show _ ≤ 9223372036854775807 by omega)).mono ?_); rintro e w7 hP; rcases hP with ⟨tto, l6, he7, hn7, rfl, hr, hs⟩ | ⟨hno, rfl, hs⟩; all_goals first
            | exact ⟨rfl, .inr ⟨by rw [He3.out, He4.out, He5.out, He6.out]; exact ed_no4 Hf3.out Hf4.out Hf5.out Hf6.out hno, rfl, Side.trans HS6.out hs⟩⟩
            | (have HS7 := hide (Side.trans HS6.out hs); have HL7 : Hid (Late w.heap.size w6 w7) := hide (Late.side (Late.refl w.heap.size w6) hrb hs); have HP7 := hide (HP6.out.late HL7.out); obtain ⟨ha7, hb7, hc7⟩ := hs.box (N := w.heap.size) (by first | (simp; exact hc6) | exact hc6) (by omega); have Hh7 := hide (Has.of_eq Hh6.out ha7); have Hr7 := hide hr; have He7 := hide he7; have Hf7 := hide hn7; have hl6 : l6.length ≤ l5.length := (by rw [he7, List.length_append]; omega); clear hr hs he7 hn7))
        | (go_at_call 58; (refine (someNode_get ((Hr7.out.setNew hrb (a := ⟨w.heap.size, 4, none⟩) (Nat.le_refl _) _).setNew hrb (a := ⟨w.heap.size, 5, none⟩) (Nat.le_refl _) _) hd (show _ ≤ 1099511627776 by omega)).mono ?_); rintro e w8 hP; rcases hP with ⟨fo, l7, oA, oc, he8, hf8, hh8, rfl, hin, hoc1, hoc2, hr, hs⟩ | ⟨hno, rfl, hs⟩; all_goals first
            | exact ⟨rfl, .inr ⟨by rw [He3.out, He4.out, He5.out, He6.out, He7.out]; exact ed_no5 Hf3.out Hf4.out Hf5.out Hf6.out Hf7.out hno, rfl, Side.trans (Side.setNew (Side.setNew HS7.out (a := ⟨w.heap.size, 4, none⟩) (Nat.le_refl _) _) (a := ⟨w.heap.size, 5, none⟩) (Nat.le_refl _) _) hs⟩⟩
            | (have HS8 := hide (Side.trans (Side.setNew (Side.setNew HS7.out (a := ⟨w.heap.size, 4, none⟩) (Nat.le_refl _) _) (a := ⟨w.heap.size, 5, none⟩) (Nat.le_refl _) _) hs); have HL8 : Hid (Late w.heap.size w7 w8) := hide (Late.side (Late.set (Late.set (Late.refl w.heap.size w7) (a := ⟨w.heap.size, 4, none⟩) (Nat.le_refl _) _) (a := ⟨w.heap.size, 5, none⟩) (Nat.le_refl _) _) hrb hs); have HP8 := hide (HP7.out.late HL8.out); have HO8 := hide (hin.mono (S' := fun b => w.heap.size < b) (fun b _ hb => Nat.lt_of_lt_of_le (by first | (simp; exact hc7) | exact hc7) hb)); obtain ⟨ha8, hb8, hc8⟩ := hs.box (N := w.heap.size) (by first | (simp; exact hc7) | exact hc7) (by omega); have Hh8 := hide (Has.of_eq (Has.set (Has.set Hh7.out ⟨w.heap.size, 4, none⟩ _) ⟨w.heap.size, 5, none⟩ _) ha8); have Hr8 := hide hr; have He8 := hide he8; have Hf8 : Hid (NodesFit fo) := hide ⟨hf8, Nat.le_trans hoc1 hoc2⟩; have hl7 : l7.length ≤ l6.length := (by rw [he8, List.length_append]; omega); clear hr hs hin he8 hf8))
        | (go_at_call 58; (refine (someNode_get Hr8.out hd (show _ ≤ 1099511627776 by omega)).mono ?_); rintro e w9 hP; rcases hP with ⟨fn, l8, nA, nc, he9, hf9, hh9, rfl, hin, hnc1, hnc2, hr, hs⟩ | ⟨hno, rfl, hs⟩; all_goals first
            | exact ⟨rfl, .inr ⟨by rw [He3.out, He4.out, He5.out, He6.out, He7.out, He8.out]; exact ed_no6 Hf3.out Hf4.out Hf5.out Hf6.out Hf7.out Hf8.out hno, rfl, Side.trans HS8.out hs⟩⟩
            | (have HS9 := hide (Side.trans HS8.out hs); have HL9 : Hid (Late w.heap.size w8 w9) := hide (Late.side (Late.refl w.heap.size w8) hrb hs); have HP9 := hide (HP8.out.late HL9.out); have HO9 := hide (HO8.out.late HL9.out); have HN9 := hide (hin.mono (S' := fun b => w.heap.size < b) (fun b _ hb => Nat.lt_of_lt_of_le (by first | (simp; exact hc8) | exact hc8) hb)); obtain ⟨ha9, hb9, hc9⟩ := hs.box (N := w.heap.size) (by first | (simp; exact hc8) | exact hc8) (by omega); have Hh9 := hide (Has.of_eq Hh8.out ha9); have Hr9 := hide hr; have He9 := hide he9; have Hf9 : Hid (NodesFit fn) := hide ⟨hf9, Nat.le_trans hnc1 hnc2⟩; clear hr hs hin he9 hf9))
    )
    refine bodyPost_ret (v := .agg #[.int .u8 x.toNat, .slice pA p.length pc, .int .i64 at_, .int .i64 far, .string frm, .string tto, .slice oA fo.len oc, .slice nA fn.len nc]) ?_ rfl ?_
    · clear ha2 ha3 ha4 ha5 ha6 ha7 ha8 ha9
      have g0 : ((((w9.setCell ⟨w.heap.size, 6, none⟩ (.slice oA fo.len oc)).setCell ⟨w.heap.size, 7, none⟩ (.slice nA fn.len nc)).setCell ⟨w.heap.size, 0, none⟩ (.int .u8 x.toNat))).cell? ⟨w.heap.size, 0, none⟩ = some (.int .u8 x.toNat) := cell_set_at (n := 8) (Has.set (Has.set Hh9.out ⟨w.heap.size, 6, none⟩ _) ⟨w.heap.size, 7, none⟩ _) (by omega)
      have g1 : (((((w9.setCell ⟨w.heap.size, 6, none⟩ (.slice oA fo.len oc)).setCell ⟨w.heap.size, 7, none⟩ (.slice nA fn.len nc)).setCell ⟨w.heap.size, 0, none⟩ (.int .u8 x.toNat)).setCell ⟨w.heap.size, 1, none⟩ (.slice pA p.length pc))).cell? ⟨w.heap.size, 1, none⟩ = some (.slice pA p.length pc) := cell_set_at (n := 8) (Has.set (Has.set (Has.set Hh9.out ⟨w.heap.size, 6, none⟩ _) ⟨w.heap.size, 7, none⟩ _) ⟨w.heap.size, 0, none⟩ _) (by omega)
      have g2 : ((((((w9.setCell ⟨w.heap.size, 6, none⟩ (.slice oA fo.len oc)).setCell ⟨w.heap.size, 7, none⟩ (.slice nA fn.len nc)).setCell ⟨w.heap.size, 0, none⟩ (.int .u8 x.toNat)).setCell ⟨w.heap.size, 1, none⟩ (.slice pA p.length pc)).setCell ⟨w.heap.size, 2, none⟩ (.int .i64 at_))).cell? ⟨w.heap.size, 2, none⟩ = some (.int .i64 at_) := cell_set_at (n := 8) (Has.set (Has.set (Has.set (Has.set Hh9.out ⟨w.heap.size, 6, none⟩ _) ⟨w.heap.size, 7, none⟩ _) ⟨w.heap.size, 0, none⟩ _) ⟨w.heap.size, 1, none⟩ _) (by omega)
      have g3 : (((((((w9.setCell ⟨w.heap.size, 6, none⟩ (.slice oA fo.len oc)).setCell ⟨w.heap.size, 7, none⟩ (.slice nA fn.len nc)).setCell ⟨w.heap.size, 0, none⟩ (.int .u8 x.toNat)).setCell ⟨w.heap.size, 1, none⟩ (.slice pA p.length pc)).setCell ⟨w.heap.size, 2, none⟩ (.int .i64 at_)).setCell ⟨w.heap.size, 3, none⟩ (.int .i64 far))).cell? ⟨w.heap.size, 3, none⟩ = some (.int .i64 far) := cell_set_at (n := 8) (Has.set (Has.set (Has.set (Has.set (Has.set Hh9.out ⟨w.heap.size, 6, none⟩ _) ⟨w.heap.size, 7, none⟩ _) ⟨w.heap.size, 0, none⟩ _) ⟨w.heap.size, 1, none⟩ _) ⟨w.heap.size, 2, none⟩ _) (by omega)
      have g4 : ((((((((w9.setCell ⟨w.heap.size, 6, none⟩ (.slice oA fo.len oc)).setCell ⟨w.heap.size, 7, none⟩ (.slice nA fn.len nc)).setCell ⟨w.heap.size, 0, none⟩ (.int .u8 x.toNat)).setCell ⟨w.heap.size, 1, none⟩ (.slice pA p.length pc)).setCell ⟨w.heap.size, 2, none⟩ (.int .i64 at_)).setCell ⟨w.heap.size, 3, none⟩ (.int .i64 far)).setCell ⟨w.heap.size, 4, none⟩ (.string frm))).cell? ⟨w.heap.size, 4, none⟩ = some (.string frm) := cell_set_at (n := 8) (Has.set (Has.set (Has.set (Has.set (Has.set (Has.set Hh9.out ⟨w.heap.size, 6, none⟩ _) ⟨w.heap.size, 7, none⟩ _) ⟨w.heap.size, 0, none⟩ _) ⟨w.heap.size, 1, none⟩ _) ⟨w.heap.size, 2, none⟩ _) ⟨w.heap.size, 3, none⟩ _) (by omega)
      have g5 : (((((((((w9.setCell ⟨w.heap.size, 6, none⟩ (.slice oA fo.len oc)).setCell ⟨w.heap.size, 7, none⟩ (.slice nA fn.len nc)).setCell ⟨w.heap.size, 0, none⟩ (.int .u8 x.toNat)).setCell ⟨w.heap.size, 1, none⟩ (.slice pA p.length pc)).setCell ⟨w.heap.size, 2, none⟩ (.int .i64 at_)).setCell ⟨w.heap.size, 3, none⟩ (.int .i64 far)).setCell ⟨w.heap.size, 4, none⟩ (.string frm)).setCell ⟨w.heap.size, 5, none⟩ (.string tto))).cell? ⟨w.heap.size, 5, none⟩ = some (.string tto) := cell_set_at (n := 8) (Has.set (Has.set (Has.set (Has.set (Has.set (Has.set (Has.set Hh9.out ⟨w.heap.size, 6, none⟩ _) ⟨w.heap.size, 7, none⟩ _) ⟨w.heap.size, 0, none⟩ _) ⟨w.heap.size, 1, none⟩ _) ⟨w.heap.size, 2, none⟩ _) ⟨w.heap.size, 3, none⟩ _) ⟨w.heap.size, 4, none⟩ _) (by omega)
      have g6 : ((((((((((w9.setCell ⟨w.heap.size, 6, none⟩ (.slice oA fo.len oc)).setCell ⟨w.heap.size, 7, none⟩ (.slice nA fn.len nc)).setCell ⟨w.heap.size, 0, none⟩ (.int .u8 x.toNat)).setCell ⟨w.heap.size, 1, none⟩ (.slice pA p.length pc)).setCell ⟨w.heap.size, 2, none⟩ (.int .i64 at_)).setCell ⟨w.heap.size, 3, none⟩ (.int .i64 far)).setCell ⟨w.heap.size, 4, none⟩ (.string frm)).setCell ⟨w.heap.size, 5, none⟩ (.string tto)).setCell ⟨w.heap.size, 6, none⟩ (.slice oA fo.len oc))).cell? ⟨w.heap.size, 6, none⟩ = some (.slice oA fo.len oc) := cell_set_at (n := 8) (Has.set (Has.set (Has.set (Has.set (Has.set (Has.set (Has.set (Has.set Hh9.out ⟨w.heap.size, 6, none⟩ _) ⟨w.heap.size, 7, none⟩ _) ⟨w.heap.size, 0, none⟩ _) ⟨w.heap.size, 1, none⟩ _) ⟨w.heap.size, 2, none⟩ _) ⟨w.heap.size, 3, none⟩ _) ⟨w.heap.size, 4, none⟩ _) ⟨w.heap.size, 5, none⟩ _) (by omega)
      have g7 : (((((((((((w9.setCell ⟨w.heap.size, 6, none⟩ (.slice oA fo.len oc)).setCell ⟨w.heap.size, 7, none⟩ (.slice nA fn.len nc)).setCell ⟨w.heap.size, 0, none⟩ (.int .u8 x.toNat)).setCell ⟨w.heap.size, 1, none⟩ (.slice pA p.length pc)).setCell ⟨w.heap.size, 2, none⟩ (.int .i64 at_)).setCell ⟨w.heap.size, 3, none⟩ (.int .i64 far)).setCell ⟨w.heap.size, 4, none⟩ (.string frm)).setCell ⟨w.heap.size, 5, none⟩ (.string tto)).setCell ⟨w.heap.size, 6, none⟩ (.slice oA fo.len oc)).setCell ⟨w.heap.size, 7, none⟩ (.slice nA fn.len nc))).cell? ⟨w.heap.size, 7, none⟩ = some (.slice nA fn.len nc) := cell_set_at (n := 8) (Has.set (Has.set (Has.set (Has.set (Has.set (Has.set (Has.set (Has.set (Has.set Hh9.out ⟨w.heap.size, 6, none⟩ _) ⟨w.heap.size, 7, none⟩ _) ⟨w.heap.size, 0, none⟩ _) ⟨w.heap.size, 1, none⟩ _) ⟨w.heap.size, 2, none⟩ _) ⟨w.heap.size, 3, none⟩ _) ⟨w.heap.size, 4, none⟩ _) ⟨w.heap.size, 5, none⟩ _) ⟨w.heap.size, 6, none⟩ _) (by omega)
      simp only [results, Tryd.results37]
      go_simp
    · have hL : Late w.heap.size w9 ((((((((((w9.setCell ⟨w.heap.size, 6, none⟩ (.slice oA fo.len oc)).setCell ⟨w.heap.size, 7, none⟩ (.slice nA fn.len nc)).setCell ⟨w.heap.size, 0, none⟩ (.int .u8 x.toNat)).setCell ⟨w.heap.size, 1, none⟩ (.slice pA p.length pc)).setCell ⟨w.heap.size, 2, none⟩ (.int .i64 at_)).setCell ⟨w.heap.size, 3, none⟩ (.int .i64 far)).setCell ⟨w.heap.size, 4, none⟩ (.string frm)).setCell ⟨w.heap.size, 5, none⟩ (.string tto)).setCell ⟨w.heap.size, 6, none⟩ (.slice oA fo.len oc)).setCell ⟨w.heap.size, 7, none⟩ (.slice nA fn.len nc)) := (Late.set (Late.set (Late.set (Late.set (Late.set (Late.set (Late.set (Late.set (Late.set (Late.set (Late.refl w.heap.size w9) (a := ⟨w.heap.size, 6, none⟩) (Nat.le_refl _) _) (a := ⟨w.heap.size, 7, none⟩) (Nat.le_refl _) _) (a := ⟨w.heap.size, 0, none⟩) (Nat.le_refl _) _) (a := ⟨w.heap.size, 1, none⟩) (Nat.le_refl _) _) (a := ⟨w.heap.size, 2, none⟩) (Nat.le_refl _) _) (a := ⟨w.heap.size, 3, none⟩) (Nat.le_refl _) _) (a := ⟨w.heap.size, 4, none⟩) (Nat.le_refl _) _) (a := ⟨w.heap.size, 5, none⟩) (Nat.le_refl _) _) (a := ⟨w.heap.size, 6, none⟩) (Nat.le_refl _) _) (a := ⟨w.heap.size, 7, none⟩) (Nat.le_refl _) _)
      refine .inl ⟨⟨x.toNat, p, at_, far, frm, tto, fo, fn⟩, ⟨pA, pc, oA, oc, nA, nc⟩, l8, ?_, ⟨by show x.toNat < 256; omega, Hf3.out, Hf4.out, Hf5.out, Hf6.out, Hf7.out, Hf8.out, Hf9.out⟩, hh8, hh9, rfl, ?_, ?_, ?_⟩
      · rw [He3.out, He4.out, He5.out, He6.out, He7.out, He8.out, He9.out]
        simp [edB]
      · exact ⟨by show x.toNat < 256; omega, HP9.out.late hL, Hf4.out, Hf5.out, Hf6.out, Hf7.out, HO9.out.late hL, HN9.out.late hL, ⟨hpc1, hpc2⟩, ⟨hoc1, hoc2⟩, ⟨hnc1, hnc2⟩⟩
      · exact Rdr.back ((((((((((Hr9.out.setNew hrb (a := ⟨w.heap.size, 6, none⟩) (Nat.le_refl _) _).setNew hrb (a := ⟨w.heap.size, 7, none⟩) (Nat.le_refl _) _).setNew hrb (a := ⟨w.heap.size, 0, none⟩) (Nat.le_refl _) _).setNew hrb (a := ⟨w.heap.size, 1, none⟩) (Nat.le_refl _) _).setNew hrb (a := ⟨w.heap.size, 2, none⟩) (Nat.le_refl _) _).setNew hrb (a := ⟨w.heap.size, 3, none⟩) (Nat.le_refl _) _).setNew hrb (a := ⟨w.heap.size, 4, none⟩) (Nat.le_refl _) _).setNew hrb (a := ⟨w.heap.size, 5, none⟩) (Nat.le_refl _) _).setNew hrb (a := ⟨w.heap.size, 6, none⟩) (Nat.le_refl _) _).setNew hrb (a := ⟨w.heap.size, 7, none⟩) (Nat.le_refl _) _) Hoff.out
      · exact (Side.setNew (Side.setNew (Side.setNew (Side.setNew (Side.setNew (Side.setNew (Side.setNew (Side.setNew (Side.setNew (Side.setNew HS9.out (a := ⟨w.heap.size, 6, none⟩) (Nat.le_refl _) _) (a := ⟨w.heap.size, 7, none⟩) (Nat.le_refl _) _) (a := ⟨w.heap.size, 0, none⟩) (Nat.le_refl _) _) (a := ⟨w.heap.size, 1, none⟩) (Nat.le_refl _) _) (a := ⟨w.heap.size, 2, none⟩) (Nat.le_refl _) _) (a := ⟨w.heap.size, 3, none⟩) (Nat.le_refl _) _) (a := ⟨w.heap.size, 4, none⟩) (Nat.le_refl _) _) (a := ⟨w.heap.size, 5, none⟩) (Nat.le_refl _) _) (a := ⟨w.heap.size, 6, none⟩) (Nat.le_refl _) _) (a := ⟨w.heap.size, 7, none⟩) (Nat.le_refl _) _)

end Go.Proofs.YthaoldnlleilfaaDoor

namespace Go.Proofs.YthaoldnlleilfaaDoor
open Go.RowKit

def PatAt (l : List UInt8) : Prop := ∃ q : Pt, PtFit q ∧ PtOk q ∧ l = ptB q
theorem foOk_high : ∀ {f : Fo} {m p i : Nat}, FoOk m p i f → f.high ≤ m := by
  intro f
  induction f with
  | nil => intro m p i _; simp [Fo.high]
  | cons k t n ks r ihk ihr =>
    rintro m p i ⟨_, h1, _, h2, _, h3⟩
    have a := ihk h2
    have b := ihr h3
    simp only [Fo.high]
    omega
theorem partOk_high {f : Fo} (h : PartOk f) : f.high ≤ 40 := by
  match f, h with
  | .cons k t n ks .nil, h =>
    obtain ⟨h1, _, h2, _⟩ := h
    have := foOk_high h2
    simp only [Fo.high]
    omega
theorem edOk_high {e : Ed} (h : EdOk e) : e.old.high + 0 ≤ 40 ∧ e.new.high + 0 ≤ 40 := by
  obtain ⟨_, h | h | h | h | h⟩ := h
  · obtain ⟨_, _, _, h1, h2, _⟩ := h; simp [h1, h2, Fo.high]
  · obtain ⟨_, _, _, _, h1, _, h2⟩ := h; have := partOk_high h2; simp [h1, Fo.high]; omega
  · obtain ⟨_, _, _, _, h1, _, h2⟩ := h; have := partOk_high h2; simp [h1, Fo.high]; omega
  · obtain ⟨_, _, _, _, _, _, h1, h2, _⟩ := h; have := partOk_high h1; have := partOk_high h2; omega
  · obtain ⟨_, _, _, h1, _, _, _, h2⟩ := h; have := partOk_high h2; simp [h1, Fo.high]; omega
theorem ptZero {S : Nat → Prop} {w : World} : HkIn S w ⟨none, 0, none, 0⟩ Hk.zero ∧ EdIn S w ⟨none, 0, none, 0, none, 0⟩ Ed.zero :=
  ⟨⟨by simp [isInt64, Hk.zero], ⟨.inl rfl, by simp [Hk.zero], by simp [Hk.zero]⟩, ⟨.inl rfl, by simp [Hk.zero], by simp [Hk.zero]⟩, by simp [Hk.zero], by simp [Hk.zero]⟩,
   ⟨by simp [Ed.zero], ⟨.inl rfl, by simp [Ed.zero], by simp [Ed.zero]⟩, by simp [isInt64, Ed.zero], by simp [isInt64, Ed.zero], Nat.zero_le _, Nat.zero_le _, trivial, trivial, by simp [Ed.zero], by simp [Ed.zero, Fo.len], by simp [Ed.zero, Fo.len]⟩⟩
theorem fitZero : HkFit Hk.zero ∧ EdFit Ed.zero :=
  ⟨⟨by simp [is63, Hk.zero], ⟨by simp [Hk.zero], by simp [Hk.zero]⟩, ⟨by simp [Hk.zero], by simp [Hk.zero]⟩⟩,
   ⟨by simp [Ed.zero], ⟨by simp [Ed.zero], by simp [Ed.zero]⟩, by simp [is63, Ed.zero], by simp [is63, Ed.zero], Nat.zero_le _, Nat.zero_le _, ⟨trivial, by simp [Ed.zero, Fo.len]⟩, ⟨trivial, by simp [Ed.zero, Fo.len]⟩⟩⟩
theorem sumZero : Ed.zero.frm.size + Ed.zero.to.size ≤ 9223372036854775807 := by decide
theorem pat_empty : ¬ PatAt [] := by
  rintro ⟨q, _, _, he⟩
  simp [ptB] at he
/-- what a beginning with this kind and this file tells of a patch -/
theorem pat_open {x : UInt8} {l1 : List UInt8} (h : PatAt (x :: l1)) : ∃ (q : Pt), PtFit q ∧ PtOk q ∧ q.kind = x.toNat ∧ l1 = txtB q.file ++ (if x.toNat = 3 then num8 q.hunk.at_ ++ (txtsB q.hunk.old ++ txtsB q.hunk.new) else if x.toNat = 4 then edB q.edit else txtB q.text) := by
  obtain ⟨q, hf, ho, he⟩ := h
  simp only [ptB, List.cons.injEq] at he
  obtain ⟨h0, h1⟩ := he
  have hk : q.kind = x.toNat := by
    have := congrArg UInt8.toNat h0
    rw [u8_ofNat_toNat] at this
    have := hf.kind
    omega
  rw [hk] at h1
  exact ⟨q, hf, ho, hk, h1⟩
theorem pat_file {x : UInt8} {l1 : List UInt8} (h : ¬ TextAt l1) : ¬ PatAt (x :: l1) := by
  intro hp
  obtain ⟨q, hf, _, _, he⟩ := pat_open hp
  exact h ⟨q.file, _, hf.file, he⟩
theorem pat_rest {x : UInt8} {f : ByteArray} {l2 : List UInt8} (h1 : f.size ≤ max63) (hp : PatAt (x :: (txtB f ++ l2))) :
    ∃ (q : Pt), PtFit q ∧ PtOk q ∧ q.kind = x.toNat ∧ l2 = (if x.toNat = 3 then num8 q.hunk.at_ ++ (txtsB q.hunk.old ++ txtsB q.hunk.new) else if x.toNat = 4 then edB q.edit else txtB q.text) := by
  obtain ⟨q, hf, ho, hk, he⟩ := pat_open hp
  exact ⟨q, hf, ho, hk, (txtB_split h1 hf.file he).2⟩
theorem pat3_no1 {x : UInt8} {f : ByteArray} {l2 : List UInt8} (hx : x.toNat = 3) (h1 : f.size ≤ max63) (h : l2.length < 8) : ¬ PatAt (x :: (txtB f ++ l2)) := by
  intro hp
  obtain ⟨q, hf, _, _, he⟩ := pat_rest h1 hp
  rw [if_pos hx] at he
  rw [he, List.length_append, num8_len] at h; omega
theorem pat3_no2 {x : UInt8} {f : ByteArray} {a : Int} {l2 : List UInt8} (hx : x.toNat = 3) (h1 : f.size ≤ max63) (h2 : is63 a) (h : ¬ RowAt txtB (fun s => s.size ≤ max63) l2) : ¬ PatAt (x :: (txtB f ++ (num8 a ++ l2))) := by
  intro hp
  obtain ⟨q, hf, _, _, he⟩ := pat_rest h1 hp
  rw [if_pos hx] at he
  obtain ⟨_, he⟩ := num8_split h2 hf.hunk.at_ he
  exact h ⟨q.hunk.old, _, hf.hunk.old.1, hf.hunk.old.2, he⟩
theorem pat3_no3 {x : UInt8} {f : ByteArray} {a : Int} {o : List ByteArray} {l2 : List UInt8} (hx : x.toNat = 3) (h1 : f.size ≤ max63) (h2 : is63 a) (h3 : StrsFit o) (h : ¬ RowAt txtB (fun s => s.size ≤ max63) l2) : ¬ PatAt (x :: (txtB f ++ (num8 a ++ (txtsB o ++ l2)))) := by
  intro hp
  obtain ⟨q, hf, _, _, he⟩ := pat_rest h1 hp
  rw [if_pos hx] at he
  obtain ⟨_, he⟩ := num8_split h2 hf.hunk.at_ he
  obtain ⟨_, he⟩ := txtsB_split h3 hf.hunk.old he
  exact h ⟨q.hunk.new, [], hf.hunk.new.1, hf.hunk.new.2, by rw [List.append_nil]; exact he⟩
theorem pat4_no1 {x : UInt8} {f : ByteArray} {l2 : List UInt8} (hx : x.toNat = 4) (h1 : f.size ≤ max63) (h : ¬ EdAt 0 l2) : ¬ PatAt (x :: (txtB f ++ l2)) := by
  intro hp
  obtain ⟨q, hf, ho, hk, he⟩ := pat_rest h1 hp
  rw [if_neg (by omega), if_pos hx] at he
  obtain ⟨_, ⟨hk2, _⟩ | ⟨hk2, _⟩ | ⟨hk2, _, _, hed⟩⟩ := ho
  · omega
  · omega
  · exact h ⟨q.edit, [], hf.edit, (edOk_high hed).1, (edOk_high hed).2, by rw [List.append_nil]; exact he⟩
theorem patT_no1 {x : UInt8} {f : ByteArray} {l2 : List UInt8} (hx3 : ¬ x.toNat = 3) (hx4 : ¬ x.toNat = 4) (h1 : f.size ≤ max63) (h : ¬ TextAt l2) : ¬ PatAt (x :: (txtB f ++ l2)) := by
  intro hp
  obtain ⟨q, hf, _, _, he⟩ := pat_rest h1 hp
  rw [if_neg hx3, if_neg hx4] at he
  exact h ⟨q.text, [], hf.text, by rw [List.append_nil]; exact he⟩
/-- something is left -/
theorem pat_more {p : Pt} {r : List UInt8} (hf : PtFit p) (hb : Bare p) (hr : ¬ r = []) : ¬ PatAt (ptB p ++ r) := by
  rintro ⟨q, hq, ho, he⟩
  exact hr (ptB_split hf hq hb ho.bare (y := []) (by rw [List.append_nil]; exact he)).2
theorem pat_wrong {p : Pt} (hf : PtFit p) (hb : Bare p) (hr : ¬ PtOk p) : ¬ PatAt (ptB p) := by
  rintro ⟨q, hq, ho, he⟩
  have := (ptB_split hf hq hb ho.bare (x := []) (y := []) (by rw [List.append_nil, List.append_nil]; exact he)).1
  exact hr (this ▸ ho)

def PatPost (rb : Nat) (w : World) (l : List UInt8) (e1 : Ending) (w' : World) : Prop :=
  (∃ (p : Pt) (x : Ph), l = ptB p ∧ PtFit p ∧ PtOk p ∧ e1 = .returned (.agg #[.int .u8 p.kind, .string p.file, .string p.text, .int .i64 p.hunk.at_, .slice x.h.oA p.hunk.old.length x.h.oc, .slice x.h.nA p.hunk.new.length x.h.nc, .int .u8 p.edit.kind, .slice x.e.pA p.edit.path.length x.e.pc, .int .i64 p.edit.at_, .int .i64 p.edit.far, .string p.edit.frm, .string p.edit.to, .slice x.e.oA p.edit.old.len x.e.oc, .slice x.e.nA p.edit.new.len x.e.nc]) ∧ PtIn (fun b => w.heap.size < b) w' x p ∧ Side rb w w') ∨
  (¬ PatAt l ∧ e1 = oops ∧ Side rb w w')
theorem Side.below0 {rb : Nat} {w0 w w' : World} (hs : Side rb w w') (hB : Below w0.heap.size w0 w) (hrb : w0.heap.size ≤ rb) : Below w0.heap.size w0 w' :=
  hB.trans ⟨hs.os, hs.tape, hs.output, hs.size, fun k hk => hs.block k ⟨Nat.lt_of_lt_of_le hk hB.size, by omega⟩⟩

end Go.Proofs.YthaoldnlleilfaaDoor
