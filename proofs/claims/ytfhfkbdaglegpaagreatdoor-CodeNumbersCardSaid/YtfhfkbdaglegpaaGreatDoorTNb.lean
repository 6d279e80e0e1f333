/- CodeNumbers: its patches are right; nodes as deep as may be. -/
import Derived.Test.YtfhfkbdaglegpaaGreatDoorTRead6
import Derived.Test.YtfhfkbdaglegpaaGreatDoorTRd24E
import Derived.Test.YtfhfkbdaglegpaaGreatDoorTGet2
import Derived.Test.YtfhfkbdaglegpaaGreatDoorTSame
import Derived.Test.YtfhfkbdaglegpaaGreatDoorTOpen
import Derived.Test.YtfhfkbdaglegpaaGreatDoorTKeep

set_option linter.unusedVariables false
set_option linter.unusedSimpArgs false

namespace Go.Proofs.YtfhfkbdaglegpaaGreatDoor
open Go.RowKit

def nName : Fo := .cons 22 ⟨#[97]⟩ 0 .nil .nil
/-- print + max call f a -/
def nxKids : Fo := .cons 20 ⟨#[]⟩ 9223372036854775807 .nil (.cons 25 ⟨#[102]⟩ 0 nName .nil)
def nx : Fo := .cons 11 ⟨#[]⟩ 0 (.cons 24 ⟨#[43]⟩ 0 nxKids .nil) .nil
def nxx : Fo := .cons 11 ⟨#[]⟩ 0 (.cons 24 ⟨#[43]⟩ 0 nxKids .nil) (.cons 11 ⟨#[]⟩ 0 (.cons 24 ⟨#[43]⟩ 0 nxKids .nil) .nil)
def ny : Fo := .cons 5 ⟨#[]⟩ 0 nxx .nil
def sMain : ByteArray := ⟨#[109, 97, 105, 110]⟩
def someEds : List Ed := [⟨1, [0, 1, 1073741824], 0, 0, ⟨#[97]⟩, ⟨#[98]⟩, .nil, .nil⟩, ⟨2, [], 3, 0, noTxt, noTxt, .nil, nx⟩, ⟨3, [2], 1073741824, 0, noTxt, noTxt, ny, .nil⟩, ⟨4, [4, 5], 0, 0, noTxt, noTxt, nx, ny⟩, ⟨5, [0], 1, 9, noTxt, noTxt, ny, .nil⟩]
def somePts : List Pt := [⟨1, ⟨#[97]⟩, noTxt, Hk.zero, Ed.zero⟩, ⟨1, ⟨#[97, 46, 116, 120, 116]⟩, ⟨#[120, 10, 121, 0, 255]⟩, Hk.zero, Ed.zero⟩, ⟨2, ⟨#[90, 95, 57]⟩, ⟨#[116]⟩, Hk.zero, Ed.zero⟩,
  ⟨3, ⟨#[98]⟩, noTxt, ⟨1099511627776, [⟨#[97, 10]⟩, ⟨#[98]⟩], [⟨#[99, 10]⟩]⟩, Ed.zero⟩, ⟨3, ⟨#[98]⟩, noTxt, ⟨0, [], [⟨#[120]⟩]⟩, Ed.zero⟩] ++ someEds.map fun e => ⟨4, sMain, noTxt, Hk.zero, e⟩
instance (c : UInt8) : Decidable (Letter c) := by unfold Letter; infer_instance
instance (c : UInt8) : Decidable (Digit c) := by unfold Digit; infer_instance
instance (c : UInt8) : Decidable (FileChar c) := by unfold FileChar; infer_instance
instance (s : ByteArray) : Decidable (FileName s) := by unfold FileName; infer_instance
theorem lex1 {c : UInt8} (h : Letter c) (hw : [c] ∉ words) : LexName ⟨#[c]⟩ := by
  refine ⟨by show (1 : Nat) ≤ 24; omega, ⟨c, [], rfl, h⟩, hw, fun d hd => ?_⟩
  have hd' : d ∈ [c] := hd
  rw [List.mem_singleton] at hd'
  rw [hd']
  exact .inl h
theorem expr20 : Expr 20 ∧ Expr 22 ∧ Expr 24 ∧ Expr 25 := by unfold Expr; omega
theorem nxKids_ok {m : Nat} (hm : 3 ≤ m) : FoOk m 24 0 nxKids := by
  obtain ⟨e1, e2, e3, e4⟩ := expr20
  refine ⟨⟨fun n h => by simp [many] at h; omega, e1⟩, by omega, ⟨.inr e1, .inr (.inl ⟨rfl, by omega⟩), by simp [TextOk, Named], fun m h => by simp [many] at h; simp [Fo.len]; exact h⟩, trivial, fun h => by omega, ?_⟩
  refine ⟨⟨fun n h => by simp [many] at h; omega, e4⟩, by omega, ⟨.inr e4, .inl rfl, ?_, fun m h => by simp [many] at h⟩, ?_, fun h => by omega, trivial⟩
  · unfold TextOk
    rw [if_pos (by unfold Named; omega)]
    exact lex1 (by decide) (by decide)
  · refine ⟨⟨fun n h => by simp [many] at h, e2⟩, by omega, ⟨.inr e2, .inl rfl, ?_, fun m h => by simp [many] at h; simp [Fo.len]; exact h⟩, trivial, fun h => by omega, trivial⟩
    unfold TextOk
    rw [if_pos (by unfold Named; omega)]
    exact lex1 (by decide) (by decide)
theorem nxBody_ok {m : Nat} (hm : 4 ≤ m) : FoOk m 11 0 (.cons 24 ⟨#[43]⟩ 0 nxKids .nil) := by
  obtain ⟨e1, e2, e3, e4⟩ := expr20
  refine ⟨⟨fun n h => by simp [many] at h; omega, e3⟩, by omega, ⟨.inr e3, .inl rfl, ?_, fun m h => by simp [many] at h; rw [← h]; rfl⟩, nxKids_ok (by omega), fun h => by omega, trivial⟩
  unfold TextOk
  rw [if_neg (by unfold Named; omega), if_neg (by omega), if_pos rfl]
  show [43] ∈ binaries
  decide
theorem nx_head : HeadOk 11 ⟨#[]⟩ 0 1 := ⟨.inl (by omega), .inl rfl, by simp [TextOk, Named], fun m h => by simp [many] at h; exact h⟩
theorem nx_ok : PartOk nx := ⟨by omega, nx_head, nxBody_ok (by omega), fun h => by omega⟩
theorem ny_ok : PartOk ny := by
  refine ⟨by omega, ⟨.inl (by omega), .inl rfl, by simp [TextOk, Named], fun m h => by simp [many] at h⟩, ?_, fun h => by omega⟩
  refine ⟨⟨fun n h => by simp [many] at h, by show Stmt 11; unfold Stmt; omega⟩, by omega, nx_head, nxBody_ok (by omega), fun h => by omega, ⟨fun n h => by simp [many] at h, by show Stmt 11; unfold Stmt; omega⟩, by omega, nx_head, nxBody_ok (by omega), fun h => by omega, trivial⟩
theorem nx_ne : nx ≠ ny := by intro h; unfold nx ny at h; injection h with h; omega
theorem someEds_ok : ∀ e ∈ someEds, EdOk e := by
  intro e he
  simp only [someEds, List.mem_cons, List.not_mem_nil, or_false] at he
  rcases he with rfl | rfl | rfl | rfl | rfl
  · exact ⟨by intro n hn; simp at hn; rcases hn with rfl | rfl | rfl <;> (unfold Number; omega), .inl ⟨rfl, rfl, rfl, rfl, rfl, by simp, lex1 (by decide) (by decide), lex1 (by decide) (by decide), by decide⟩⟩
  · exact ⟨by intro n hn; simp at hn, .inr (.inl ⟨rfl, rfl, rfl, rfl, rfl, by show (0 : Int) ≤ 3 ∧ (3 : Int) ≤ 1073741824; omega, nx_ok⟩)⟩
  · exact ⟨by intro n hn; simp at hn; rw [hn]; unfold Number; omega, .inr (.inr (.inl ⟨rfl, rfl, rfl, rfl, rfl, by show (0 : Int) ≤ 1073741824 ∧ (1073741824 : Int) ≤ 1073741824; omega, ny_ok⟩))⟩
  · exact ⟨by intro n hn; simp at hn; rcases hn with rfl | rfl <;> (unfold Number; omega), .inr (.inr (.inr (.inl ⟨rfl, rfl, rfl, rfl, rfl, by simp, nx_ok, ny_ok, nx_ne⟩)))⟩
  · exact ⟨by intro n hn; simp at hn; rw [hn]; unfold Number; omega, .inr (.inr (.inr (.inr ⟨rfl, rfl, rfl, rfl, by show (0 : Int) ≤ 1 ∧ (1 : Int) ≤ 1073741824; omega, by show (0 : Int) ≤ 9 ∧ (9 : Int) ≤ 1073741824; omega, by decide, ny_ok⟩)))⟩
theorem somePts_ok : ∀ p ∈ somePts, PtOk p := by
  intro p hp
  simp only [somePts, List.mem_append, List.mem_cons, List.not_mem_nil, or_false, List.mem_map] at hp
  rcases hp with (rfl | rfl | rfl | rfl | rfl) | ⟨e, he, rfl⟩
  · exact ⟨by decide, .inl ⟨.inl rfl, rfl, rfl⟩⟩
  · exact ⟨by decide, .inl ⟨.inl rfl, rfl, rfl⟩⟩
  · exact ⟨by decide, .inl ⟨.inr rfl, rfl, rfl⟩⟩
  · refine ⟨by decide, .inr (.inl ⟨rfl, rfl, rfl, by decide, by decide, ?_, ?_, by decide⟩)⟩
    · exact ⟨⟨by decide, by intro i hi; have : i = 0 := by simp at hi; omega
                            subst this; decide, .inr rfl⟩, ⟨by decide, by intro i hi; simp at hi, .inl rfl⟩, trivial⟩
    · exact ⟨⟨by decide, by intro i hi; have : i = 0 := by simp at hi; omega
                            subst this; decide, .inl rfl⟩, trivial⟩
  · refine ⟨by decide, .inr (.inl ⟨rfl, rfl, rfl, by decide, by decide, trivial, ?_, by decide⟩)⟩
    exact ⟨⟨by decide, by intro i hi; simp at hi, .inl rfl⟩, trivial⟩
  · exact ⟨by show FileName sMain; decide, .inr (.inr ⟨rfl, rfl, rfl, someEds_ok e he⟩)⟩

/-! ### one within another -/
def deepFo : Nat → Fo
  | 0 => .cons 20 ⟨#[]⟩ 1 .nil .nil
  | n + 1 => .cons 23 ⟨#[45]⟩ 0 (deepFo n) .nil
theorem deep_len : ∀ n, (deepFo n).len = 1
  | 0 => rfl
  | _ + 1 => rfl
theorem deep_high : ∀ n, (deepFo n).high = n + 1
  | 0 => rfl
  | n + 1 => by simp [deepFo, Fo.high, deep_high n]
theorem deep_fo : ∀ (n m p : Nat), n + 1 ≤ m → (p = 23 ∨ p = 11) → FoOk m p 0 (deepFo n)
  | 0, m, p, h, hp => by
    refine ⟨⟨fun k hk => by rcases hp with rfl | rfl <;> (simp [many] at hk; omega), by rcases hp with rfl | rfl <;> exact expr20.1⟩, by omega, ⟨.inr expr20.1, .inr (.inl ⟨rfl, by omega⟩), by simp [TextOk, Named], fun k hk => by simp [many] at hk; simp [Fo.len]; exact hk⟩, trivial, fun e => by omega, trivial⟩
  | n + 1, m, p, h, hp => by
    refine ⟨⟨fun k hk => by rcases hp with rfl | rfl <;> (simp [many] at hk; omega), by rcases hp with rfl | rfl <;> (show Expr 23; unfold Expr; omega)⟩, by omega, ⟨.inr (by unfold Expr; omega), .inl rfl, by simp [TextOk, Named], fun k hk => by simp [many] at hk; rw [deep_len]; exact hk⟩, deep_fo n (m - 1) 23 (by omega) (.inl rfl), fun e => by omega, trivial⟩
theorem deep_part {n : Nat} : PartOk (deepFo n) ↔ n < 40 := by
  constructor
  · intro h
    have h1 := partOk_high h
    rw [deep_high] at h1
    omega
  · intro h
    cases n with
    | zero => exact ⟨by omega, ⟨.inr expr20.1, .inr (.inl ⟨rfl, by omega⟩), by simp [TextOk, Named], fun k hk => by simp [many] at hk; simp [Fo.len]; exact hk⟩, trivial, fun e => by omega⟩
    | succ n => exact ⟨by omega, ⟨.inr (by unfold Expr; omega), .inl rfl, by simp [TextOk, Named], fun k hk => by simp [many] at hk; rw [deep_len]; exact hk⟩, deep_fo n 39 23 (by omega) (.inl rfl), fun e => by omega⟩
def deepPt (n : Nat) : Pt := ⟨4, ⟨#[97]⟩, noTxt, Hk.zero, ⟨2, [], 0, 0, noTxt, noTxt, .nil, deepFo n⟩⟩
theorem deep_ok {n : Nat} : PtOk (deepPt n) ↔ n < 40 := by
  constructor
  · rintro ⟨_, ⟨h | h, _⟩ | ⟨h, _⟩ | ⟨_, _, _, _, hk⟩⟩
    · simp [deepPt] at h
    · simp [deepPt] at h
    · simp [deepPt] at h
    · rcases hk with ⟨h, _⟩ | ⟨_, _, _, _, _, _, h⟩ | ⟨h, _⟩ | ⟨h, _⟩ | ⟨h, _⟩
      · simp [deepPt] at h
      · exact deep_part.1 h
      · simp [deepPt] at h
      · simp [deepPt] at h
      · simp [deepPt] at h
  · intro h
    exact ⟨by show FileName ⟨#[97]⟩; decide, .inr (.inr ⟨rfl, rfl, rfl, by intro n hn; simp [deepPt] at hn, .inr (.inl ⟨rfl, rfl, rfl, rfl, rfl, by unfold Number; simp [deepPt], deep_part.2 h⟩)⟩)⟩

end Go.Proofs.YtfhfkbdaglegpaaGreatDoor

namespace Go.Proofs.YtfhfkbdaglegpaaGreatDoor
open Go.RowKit

theorem patZero_in {S : Nat → Prop} {w : World} : PtIn S w ⟨⟨none, 0, none, 0⟩, ⟨none, 0, none, 0, none, 0⟩⟩ Pt.zero := ⟨by decide, by decide, by decide, ptZero.1, ptZero.2⟩
set_option maxHeartbeats 8000000 in
set_option maxRecDepth 1000000 in
theorem gets_any {S : Nat → Prop} {w : World} {A : Option Addr} {n c : Nat} {l : List UInt8} (hb : BytesIn S w A l) (hn : l.length = n) (hc : n ≤ c) (hc2 : c ≤ 9223372036854775807) (hl : n ≤ lid) (htab : TabOk w) :
    Calls Tryz.prog 21 #[.slice A n c] w fun e w' => e = .returned (.bool true) ∧ Below w.heap.size w w' := by
  subst hn
  obtain ⟨q, er, hG, hR⟩ : ∃ (q : Pt) (er : Int),
      (∀ W, Below w.heap.size w W → Calls Tryz.prog 15 #[.slice A l.length c] W fun e w' => Below W.heap.size W w' ∧ ∃ x : Ph, e = .returned (.tuple #[.agg #[.int .u8 q.kind, .string q.file, .string q.text, .int .i64 q.hunk.at_, .slice x.h.oA q.hunk.old.length x.h.oc, .slice x.h.nA q.hunk.new.length x.h.nc, .int .u8 q.edit.kind, .slice x.e.pA q.edit.path.length x.e.pc, .int .i64 q.edit.at_, .int .i64 q.edit.far, .string q.edit.frm, .string q.edit.to, .slice x.e.oA q.edit.old.len x.e.oc, .slice x.e.nA q.edit.new.len x.e.nc], .int .i64 er]) ∧ PtIn (fun _ => True) w' x q) ∧
      (∀ W, Below w.heap.size w W → Calls Tryz.prog 16 #[.slice A l.length c] W fun e w' => Below W.heap.size W w' ∧ ∃ x : Ph, e = .returned (.tuple #[.agg #[.int .u8 q.kind, .string q.file, .string q.text, .int .i64 q.hunk.at_, .slice x.h.oA q.hunk.old.length x.h.oc, .slice x.h.nA q.hunk.new.length x.h.nc, .int .u8 q.edit.kind, .slice x.e.pA q.edit.path.length x.e.pc, .int .i64 q.edit.at_, .int .i64 q.edit.far, .string q.edit.frm, .string q.edit.to, .slice x.e.oA q.edit.old.len x.e.oc, .slice x.e.nA q.edit.new.len x.e.nc], .int .i64 er]) ∧ PtIn (fun _ => True) w' x q) := by
    by_cases hp : PatAt l
    · obtain ⟨q, hf, ho, he⟩ := hp
      refine ⟨q, 0, fun W hW => (get_any (hb.below hW) hc hc2 hl (htab.below hW)).mono ?_, fun W hW => (get24r_any (hb.below hW) hc hc2 hl).mono ?_⟩
      · rintro e w' ⟨hB, ⟨p, x, e1, e2, e3, e4, e5⟩ | ⟨hno, _⟩⟩
        · have hpq := (ptB_split hf e2 ho.bare e3.bare (x := []) (y := []) (by rw [List.append_nil, List.append_nil, ← he, e1])).1
          subst hpq
          exact ⟨hB, x, e4, e5.mono fun _ _ _ => trivial⟩
        · exact absurd ⟨q, hf, ho, he⟩ hno
      · rintro e w' ⟨hB, ⟨p, x, e2, e3, e1, e4, e5⟩ | ⟨hno, _⟩⟩
        · have hpq := (ptB_split hf e2 ho.bare e3.bare (x := []) (y := []) (by rw [List.append_nil, List.append_nil, ← he, e1])).1
          subst hpq
          exact ⟨hB, x, e4, e5.mono fun _ _ _ => trivial⟩
        · exact absurd ⟨q, hf, ho, he⟩ hno
    · refine ⟨Pt.zero, 4, fun W hW => (get_any (hb.below hW) hc hc2 hl (htab.below hW)).mono ?_, fun W hW => (get24r_any (hb.below hW) hc hc2 hl).mono ?_⟩
      · rintro e w' ⟨hB, ⟨p, x, e1, e2, e3, e4, e5⟩ | ⟨_, h⟩⟩
        · exact absurd ⟨p, e2, e3, e1⟩ hp
        · exact ⟨hB, (⟨⟨none, 0, none, 0⟩, ⟨none, 0, none, 0, none, 0⟩⟩ : Ph), h, patZero_in⟩
      · rintro e w' ⟨hB, ⟨p, x, e2, e3, e1, e4, e5⟩ | ⟨_, h⟩⟩
        · exact absurd ⟨p, e2, e3, e1⟩ hp
        · exact ⟨hB, (⟨⟨none, 0, none, 0⟩, ⟨none, 0, none, 0, none, 0⟩⟩ : Ph), h, patZero_in⟩
  have HG := hide hG
  have HR := hide hR
  clear hG hR hb htab
  go_enter Tryz.func21, Tryz.ntmps21
  go_upto_region 2 with (go_at_call 15; (with_reducible refine (HG.out _ (Below.refl _ _)).mono ?_); rintro e w1 ⟨hB1, x, rfl, hin⟩; have Hin := hide hin; have HB1 := hide hB1; clear hin hB1)
  obtain ⟨WA, hWA⟩ : ∃ WA, WA = w1.alloc (.cells #[.int .u8 q.kind, .string q.file, .string q.text, .int .i64 q.hunk.at_, .slice x.h.oA q.hunk.old.length x.h.oc, .slice x.h.nA q.hunk.new.length x.h.nc, .int .u8 q.edit.kind, .slice x.e.pA q.edit.path.length x.e.pc, .int .i64 q.edit.at_, .int .i64 q.edit.far, .string q.edit.frm, .string q.edit.to, .slice x.e.oA q.edit.old.len x.e.oc, .slice x.e.nA q.edit.new.len x.e.nc] 32) := ⟨_, rfl⟩
  have hBWA : Below w1.heap.size w1 WA := by rw [hWA]; exact below_alloc _ _
  have hcWA : ∀ j v, #[.int .u8 q.kind, .string q.file, .string q.text, .int .i64 q.hunk.at_, .slice x.h.oA q.hunk.old.length x.h.oc, .slice x.h.nA q.hunk.new.length x.h.nc, .int .u8 q.edit.kind, .slice x.e.pA q.edit.path.length x.e.pc, .int .i64 q.edit.at_, .int .i64 q.edit.far, .string q.edit.frm, .string q.edit.to, .slice x.e.oA q.edit.old.len x.e.oc, .slice x.e.nA q.edit.new.len x.e.nc][j]? = some v → ∀ W, Below WA.heap.size WA W → W.cell? ⟨w1.heap.size, j, none⟩ = some v := by
    intro j v hj W hB
    have h0 : WA.cell? ⟨w1.heap.size, j, none⟩ = some v := by rw [hWA, Lib.cell_of_heap (heap_alloc_new w1 _)]; exact hj
    exact (World.cell?_of_block (hB.block _ (block_lt_of_cell h0))).trans h0
  rw [← hWA]
  have a0 := hcWA 0 _ rfl
  have a1 := hcWA 1 _ rfl
  have a2 := hcWA 2 _ rfl
  have a3 := hcWA 3 _ rfl
  have a4 := hcWA 4 _ rfl
  have a5 := hcWA 5 _ rfl
  have a6 := hcWA 6 _ rfl
  have a7 := hcWA 7 _ rfl
  have a8 := hcWA 8 _ rfl
  have a9 := hcWA 9 _ rfl
  have a10 := hcWA 10 _ rfl
  have a11 := hcWA 11 _ rfl
  have a12 := hcWA 12 _ rfl
  have a13 := hcWA 13 _ rfl
  clear hcWA hWA
  have HinA := hide (Hin.out.below hBWA)
  have HBA := hide (HB1.out.trans (hBWA.mono HB1.out.size))
  clear hBWA HB1 Hin
  go_upto_region 3 with (go_at_call 16; (with_reducible refine (HR.out WA HBA.out).mono ?_); rintro e w2 ⟨hB2, y, rfl, hin⟩; have Hin := hide hin; have HB2 := hide hB2; clear hin hB2)
  obtain ⟨WC, hWC⟩ : ∃ WC, WC = w2.alloc (.cells #[.int .u8 q.kind, .string q.file, .string q.text, .int .i64 q.hunk.at_, .slice y.h.oA q.hunk.old.length y.h.oc, .slice y.h.nA q.hunk.new.length y.h.nc, .int .u8 q.edit.kind, .slice y.e.pA q.edit.path.length y.e.pc, .int .i64 q.edit.at_, .int .i64 q.edit.far, .string q.edit.frm, .string q.edit.to, .slice y.e.oA q.edit.old.len y.e.oc, .slice y.e.nA q.edit.new.len y.e.nc] 32) := ⟨_, rfl⟩
  have hBWC : Below w2.heap.size w2 WC := by rw [hWC]; exact below_alloc _ _
  have hcWC : ∀ j v, #[.int .u8 q.kind, .string q.file, .string q.text, .int .i64 q.hunk.at_, .slice y.h.oA q.hunk.old.length y.h.oc, .slice y.h.nA q.hunk.new.length y.h.nc, .int .u8 q.edit.kind, .slice y.e.pA q.edit.path.length y.e.pc, .int .i64 q.edit.at_, .int .i64 q.edit.far, .string q.edit.frm, .string q.edit.to, .slice y.e.oA q.edit.old.len y.e.oc, .slice y.e.nA q.edit.new.len y.e.nc][j]? = some v → ∀ W, Below WC.heap.size WC W → W.cell? ⟨w2.heap.size, j, none⟩ = some v := by
    intro j v hj W hB
    have h0 : WC.cell? ⟨w2.heap.size, j, none⟩ = some v := by rw [hWC, Lib.cell_of_heap (heap_alloc_new w2 _)]; exact hj
    exact (World.cell?_of_block (hB.block _ (block_lt_of_cell h0))).trans h0
  rw [← hWC]
  have b0 := hcWC 0 _ rfl
  have b1 := hcWC 1 _ rfl
  have b2 := hcWC 2 _ rfl
  have b3 := hcWC 3 _ rfl
  have b4 := hcWC 4 _ rfl
  have b5 := hcWC 5 _ rfl
  have b6 := hcWC 6 _ rfl
  have b7 := hcWC 7 _ rfl
  have b8 := hcWC 8 _ rfl
  have b9 := hcWC 9 _ rfl
  have b10 := hcWC 10 _ rfl
  have b11 := hcWC 11 _ rfl
  have b12 := hcWC 12 _ rfl
  have b13 := hcWC 13 _ rfl
  clear hcWC hWC
  have HinC := hide (Hin.out.below hBWC)
  have hAC : Below WA.heap.size WA WC := HB2.out.trans (hBWC.mono HB2.out.size)
  have HinA2 := hide (HinA.out.below hAC)
  have HBC := hide (HBA.out.trans (hAC.mono HBA.out.size))
  have hCC : Below WC.heap.size WC WC := Below.refl _ _
  clear hBWC HB2 Hin HinA HBA
  go_wp2_with (go_at_call 17; (with_reducible refine (samePatch_any HinA2.out HinC.out).mono ?_); rintro e w3 ⟨⟨b, rfl, hb⟩, hB3⟩; have HB3 := hide (HBC.out.trans (hB3.mono HBC.out.size)); have hbt : b = true := hb.mpr rfl; subst hbt; clear hb hB3)
  go_ret
  exact ⟨rfl, HB3.out⟩

end Go.Proofs.YtfhfkbdaglegpaaGreatDoor

namespace Go.Proofs.YtfhfkbdaglegpaaGreatDoor
open Go.RowKit

abbrev AnyB : Nat → Prop := fun _ => True
def ptCells (x : Ph) (p : Pt) : List Value := [.int .u8 p.kind, .string p.file, .string p.text, .int .i64 p.hunk.at_, .slice x.h.oA p.hunk.old.length x.h.oc, .slice x.h.nA p.hunk.new.length x.h.nc, .int .u8 p.edit.kind, .slice x.e.pA p.edit.path.length x.e.pc, .int .i64 p.edit.at_, .int .i64 p.edit.far, .string p.edit.frm, .string p.edit.to, .slice x.e.oA p.edit.old.len x.e.oc, .slice x.e.nA p.edit.new.len x.e.nc]
def edCells (x : Eh) (e : Ed) : List Value := [.int .u8 e.kind, .slice x.pA e.path.length x.pc, .int .i64 e.at_, .int .i64 e.far, .string e.frm, .string e.to, .slice x.oA e.old.len x.oc, .slice x.nA e.new.len x.nc]
def GoodP (w : World) (q : Ph × Pt) : Prop := PtIn AnyB w q.1 q.2 ∧ PtOk q.2 ∧ (ptB q.2).length ≤ 10000 ∧ q.2.edit.frm.size + q.2.edit.to.size ≤ 100
def GoodE (w : World) (q : Eh × Ed) : Prop := EdIn AnyB w q.1 q.2 ∧ EdOk q.2 ∧ (edB q.2).length ≤ 5000 ∧ q.2.frm.size + q.2.to.size ≤ 100
theorem GoodP.below {w w' : World} {q : Ph × Pt} (h : GoodP w q) (hB : Below w.heap.size w w') : GoodP w' q := ⟨h.1.below hB, h.2⟩
theorem GoodE.below {w w' : World} {q : Eh × Ed} (h : GoodE w q) (hB : Below w.heap.size w w') : GoodE w' q := ⟨h.1.below hB, h.2⟩
theorem GoodE.pt {w : World} {q : Eh × Ed} (h : GoodE w q) : GoodP w (⟨⟨none, 0, none, 0⟩, q.1⟩, ⟨4, sMain, noTxt, Hk.zero, q.2⟩) := by
  refine ⟨⟨by first | decide | (dsimp only; decide), by first | decide | (dsimp only; decide), by first | decide | (dsimp only; decide), (patZero_in (S := AnyB) (w := w)).hunk, h.1⟩, ⟨by show FileName sMain; decide, .inr (.inr ⟨rfl, rfl, rfl, h.2.1⟩)⟩, ?_, h.2.2.2⟩
  have h1 := h.2.2.1
  show (ptB ⟨4, sMain, noTxt, Hk.zero, q.2⟩).length ≤ 10000
  unfold ptB
  simp only [if_neg (show ¬ (4 : Nat) = 3 by omega), if_pos, List.length_cons, List.length_append, n8, txt_len]
  have e1 : sMain.size = 4 := rfl
  omega
theorem flat_at {α : Type} (f : α → List Value) (n : Nat) (hf : ∀ a, (f a).length = n) : ∀ (l : List α) (i j : Nat) (a : α), l[i]? = some a → j < n → (l.flatMap f)[i * n + j]? = (f a)[j]?
  | [], _, _, _, h, _ => by simp at h
  | b :: l, 0, j, a, h, hj => by
    have e : b = a := by simpa using h
    subst e
    rw [List.flatMap_cons, List.getElem?_append_left (by rw [hf]; omega)]
    congr 1
    omega
  | b :: l, i + 1, j, a, h, hj => by
    rw [List.flatMap_cons, List.getElem?_append_right (by rw [hf, Nat.succ_mul]; omega), hf, show (i + 1) * n + j - n = i * n + j by rw [Nat.succ_mul]; omega]
    exact flat_at f n hf l i j a (by simpa using h) hj
theorem nb_stay {w w' : World} {b : Nat} {o : Obj} (hB : Below w.heap.size w w') (h : w.heap[b]? = some o) : w'.heap[b]? = some o := (hB.block b (Array.getElem?_eq_some_iff.1 h).1).trans h
theorem nb_old : ∀ (l : List Obj) (w : World) (k : Nat), k < w.heap.size → (l.foldl World.alloc w).heap[k]? = w.heap[k]?
  | [], _, _, _ => rfl
  | a :: l, w, k, h => by
    rw [List.foldl_cons, nb_old l (w.alloc a) k (by rw [World.size_alloc]; omega)]
    exact heap_alloc_old w a h
theorem nb_at : ∀ (l : List Obj) (w : World) (k : Nat) (o : Obj), l[k]? = some o → (l.foldl World.alloc w).heap[w.heap.size + k]? = some o
  | [], _, _, _, h => by simp at h
  | a :: l, w, 0, o, h => by
    have e : a = o := by simpa using h
    subst e
    rw [List.foldl_cons, Nat.add_zero, nb_old l (w.alloc a) _ (by rw [World.size_alloc]; omega)]
    exact heap_alloc_new w a
  | a :: l, w, k + 1, o, h => by
    have := nb_at l (w.alloc a) k o (by simpa using h)
    rw [World.size_alloc, show w.heap.size + 1 + k = w.heap.size + (k + 1) by omega] at this
    exact this
theorem nb_below : ∀ (l : List Obj) (w : World), Below w.heap.size w (l.foldl World.alloc w) ∧ (l.foldl World.alloc w).heap.size = w.heap.size + l.length
  | [], w => ⟨Below.refl _ _, rfl⟩
  | a :: l, w => by
    obtain ⟨h1, h2⟩ := nb_below l (w.alloc a)
    refine ⟨blw_up (below_alloc w a) h1, ?_⟩
    rw [List.foldl_cons, h2, World.size_alloc, List.length_cons]
    omega
theorem nb_four {w W : World} {a b c d : Obj} (h : W = (((w.alloc a).alloc b).alloc c).alloc d) :
    W.heap[w.heap.size]? = some a ∧ W.heap[w.heap.size + 1]? = some b ∧ W.heap[w.heap.size + 1 + 1]? = some c ∧ W.heap[w.heap.size + 1 + 1 + 1]? = some d ∧ Below w.heap.size w W ∧ W.heap.size = w.heap.size + 4 := by
  replace h : W = [a, b, c, d].foldl World.alloc w := h
  subst h
  exact ⟨nb_at _ w 0 _ rfl, nb_at _ w 1 _ rfl, nb_at _ w 2 _ rfl, nb_at _ w 3 _ rfl, (nb_below _ w).1, (nb_below _ w).2⟩
theorem nb_ten {w W : World} {a b c d e f g h i j : Obj} (hw : W = (((((((((w.alloc a).alloc b).alloc c).alloc d).alloc e).alloc f).alloc g).alloc h).alloc i).alloc j) :
    (W.heap[w.heap.size]? = some a ∧ W.heap[w.heap.size + 1]? = some b ∧ W.heap[w.heap.size + 1 + 1]? = some c ∧ W.heap[w.heap.size + 1 + 1 + 1]? = some d ∧ W.heap[w.heap.size + 1 + 1 + 1 + 1]? = some e ∧
    W.heap[w.heap.size + 1 + 1 + 1 + 1 + 1]? = some f ∧ W.heap[w.heap.size + 1 + 1 + 1 + 1 + 1 + 1]? = some g ∧ W.heap[w.heap.size + 1 + 1 + 1 + 1 + 1 + 1 + 1]? = some h ∧ W.heap[w.heap.size + 1 + 1 + 1 + 1 + 1 + 1 + 1 + 1]? = some i ∧ W.heap[w.heap.size + 1 + 1 + 1 + 1 + 1 + 1 + 1 + 1 + 1]? = some j) ∧ Below w.heap.size w W := by
  replace hw : W = [a, b, c, d, e, f, g, h, i, j].foldl World.alloc w := hw
  subst hw
  exact ⟨⟨nb_at _ w 0 _ rfl, nb_at _ w 1 _ rfl, nb_at _ w 2 _ rfl, nb_at _ w 3 _ rfl, nb_at _ w 4 _ rfl, nb_at _ w 5 _ rfl, nb_at _ w 6 _ rfl, nb_at _ w 7 _ rfl, nb_at _ w 8 _ rfl, nb_at _ w 9 _ rfl⟩, (nb_below _ w).1⟩
theorem z64s : isInt64 0 ∧ isInt64 1 ∧ isInt64 2 ∧ isInt64 3 ∧ isInt64 4 ∧ isInt64 5 ∧ isInt64 9 ∧ isInt64 1073741824 ∧ isInt64 1099511627776 ∧ isInt64 9223372036854775807 := by unfold isInt64; omega
theorem nb_row {w : World} {n k l c : Nat} {t : ByteArray} {m : Int} {A : Option Addr} {T : TypeId} {ks : Fo} {fz : Nat × Nat} (h : w.heap[n]? = some (.cells #[.int .u8 k, .string t, .int .i64 m, .slice A l c] T fz)) (hl : l = ks.len) (hk : k < 256) (ht : t.size ≤ 9) (hm : isInt64 m) (hc : ks.len ≤ c) (hc2 : c ≤ 9) (hks : FoIn AnyB w A ks) :
    FoIn AnyB w (some ⟨n, 0, none⟩) (.cons k t m ks .nil) := by
  subst hl
  have hx := Lib.cell_of_heap h
  exact ⟨n, 0, A, c, rfl, trivial, hx 0, hx 1, hx 2, hx 3, hk, by omega, hm, hc, by omega, hks, trivial⟩
def xKid : Fo := .cons 24 ⟨#[43]⟩ 0 nxKids .nil
theorem six_nodes {w : World} {r1 r2 r3 xr : Nat} {T1 T2 T3 T4 : TypeId} {f1 f2 f3 f4 : Nat × Nat} (q1 : w.heap[r1]? = some (.cells #[.int .u8 22, .string ⟨#[97]⟩, .int .i64 0, .slice none 0 0] T1 f1))
    (q2 : w.heap[r2]? = some (.cells #[.int .u8 20, .string ⟨#[]⟩, .int .i64 9223372036854775807, .slice none 0 0, .int .u8 25, .string ⟨#[102]⟩, .int .i64 0, .slice (some ⟨r1, 0, none⟩) 1 1] T2 f2))
    (q3 : w.heap[r3]? = some (.cells #[.int .u8 24, .string ⟨#[43]⟩, .int .i64 0, .slice (some ⟨r2, 0, none⟩) 2 2] T3 f3))
    (q4 : w.heap[xr]? = some (.cells #[.int .u8 11, .string ⟨#[]⟩, .int .i64 0, .slice (some ⟨r3, 0, none⟩) 1 1, .int .u8 11, .string ⟨#[]⟩, .int .i64 0, .slice (some ⟨r3, 0, none⟩) 1 1] T4 f4)) :
    FoIn AnyB w (some ⟨r3, 0, none⟩) xKid ∧ FoIn AnyB w (some ⟨xr, 0, none⟩) nxx := by
  obtain ⟨i0, i1, i2, i3, i4, i5, i9, ib, ic, id⟩ := z64s
  have g1 : FoIn AnyB w (some ⟨r1, 0, none⟩) nName := nb_row (l := 0) q1 rfl (by first | decide | (dsimp only; decide)) (by first | decide | (dsimp only; decide)) i0 (by simp [Fo.len]) (by omega) trivial
  have c2 := Lib.cell_of_heap q2
  have g2 : FoIn AnyB w (some ⟨r2, 0, none⟩) nxKids :=
    ⟨_, 0, none, 0, rfl, trivial, c2 0, c2 1, c2 2, c2 3, by first | decide | (dsimp only; decide), by first | decide | (dsimp only; decide), id, by simp [Fo.len], by omega, trivial,
      _, 4, some ⟨r1, 0, none⟩, 1, rfl, trivial, c2 4, c2 5, c2 6, c2 7, by first | decide | (dsimp only; decide), by first | decide | (dsimp only; decide), i0, by simp [nName, Fo.len], by omega, g1, trivial⟩
  have g3 : FoIn AnyB w (some ⟨r3, 0, none⟩) xKid := nb_row (l := 2) q3 rfl (by first | decide | (dsimp only; decide)) (by first | decide | (dsimp only; decide)) i0 (by simp [nxKids, Fo.len]) (by omega) g2
  have c4 := Lib.cell_of_heap q4
  exact ⟨g3, _, 0, some ⟨r3, 0, none⟩, 1, rfl, trivial, c4 0, c4 1, c4 2, c4 3, by first | decide | (dsimp only; decide), by first | decide | (dsimp only; decide), i0, by simp [Fo.len], by omega, g3,
      _, 4, some ⟨r3, 0, none⟩, 1, rfl, trivial, c4 4, c4 5, c4 6, c4 7, by first | decide | (dsimp only; decide), by first | decide | (dsimp only; decide), i0, by simp [Fo.len], by omega, g3, trivial⟩
theorem nb_strs {w : World} {N : Nat} {l : List ByteArray} {T : TypeId} {fz : Nat × Nat} (h : w.heap[N]? = some (.cells (l.map Value.string).toArray T fz)) (hi : ∀ s ∈ l, s.size ≤ 9) (hl : l.length ≤ 9) : StrsIn AnyB w (some ⟨N, 0, none⟩) l :=
  ⟨.inr ⟨N, 0, rfl, trivial, fun j u hu => by
    rw [Nat.zero_add, Lib.cell_of_heap h]
    simpa using hu⟩, fun s hs => by have := hi s hs; omega, by omega⟩
theorem nb_ints {w : World} {N : Nat} {l : List Int} {T : TypeId} {fz : Nat × Nat} (h : w.heap[N]? = some (.cells (l.map (Value.int .i64)).toArray T fz)) (hi : ∀ n ∈ l, isInt64 n) (hl : l.length ≤ 9) : IntsIn AnyB w (some ⟨N, 0, none⟩) l :=
  ⟨.inr ⟨N, 0, rfl, trivial, fun j u hu => by
    rw [Nat.zero_add, Lib.cell_of_heap h]
    simpa using hu⟩, hi, by omega⟩
def zEh : Eh := ⟨none, 0, none, 0, none, 0⟩
def fiveQ (a b c : Nat) : List (Ph × Pt) :=
  [(⟨⟨none, 0, none, 0⟩, zEh⟩, ⟨1, ⟨#[97]⟩, noTxt, Hk.zero, Ed.zero⟩), (⟨⟨none, 0, none, 0⟩, zEh⟩, ⟨1, ⟨#[97, 46, 116, 120, 116]⟩, ⟨#[120, 10, 121, 0, 255]⟩, Hk.zero, Ed.zero⟩), (⟨⟨none, 0, none, 0⟩, zEh⟩, ⟨2, ⟨#[90, 95, 57]⟩, ⟨#[116]⟩, Hk.zero, Ed.zero⟩),
   (⟨⟨some ⟨a, 0, none⟩, 2, some ⟨b, 0, none⟩, 1⟩, zEh⟩, ⟨3, ⟨#[98]⟩, noTxt, ⟨1099511627776, [⟨#[97, 10]⟩, ⟨#[98]⟩], [⟨#[99, 10]⟩]⟩, Ed.zero⟩), (⟨⟨none, 0, some ⟨c, 0, none⟩, 1⟩, zEh⟩, ⟨3, ⟨#[98]⟩, noTxt, ⟨0, [], [⟨#[120]⟩]⟩, Ed.zero⟩)]
theorem ptB_tiny {p : Pt} (h0 : p.kind ≠ 4) (h1 : p.file.size ≤ 9) (h2 : p.text.size ≤ 9) (h3 : (txtsB p.hunk.old).length ≤ 99) (h4 : (txtsB p.hunk.new).length ≤ 99) : (ptB p).length ≤ 10000 := by
  unfold ptB
  split
  · simp only [List.length_cons, List.length_append, n8, txt_len]
    omega
  · simp only [List.length_cons, List.length_append, n8, txt_len]
    omega
theorem five_pts {w : World} {a b c : Nat} {T1 T2 T3 : TypeId} {f1 f2 f3 : Nat × Nat} (qa : w.heap[a]? = some (.cells #[.string ⟨#[97, 10]⟩, .string ⟨#[98]⟩] T1 f1)) (qb : w.heap[b]? = some (.cells #[.string ⟨#[99, 10]⟩] T2 f2)) (qc : w.heap[c]? = some (.cells #[.string ⟨#[120]⟩] T3 f3)) :
    ∀ q ∈ fiveQ a b c, GoodP w q := by
  obtain ⟨i0, i1, i2, i3, i4, i5, i9, ib, ic, id⟩ := z64s
  have hz := patZero_in (S := AnyB) (w := w)
  have hok := somePts_ok
  have t0 : (txtsB []).length ≤ 99 := by decide
  intro q hq
  simp only [fiveQ, List.mem_cons, List.not_mem_nil, or_false] at hq
  rcases hq with rfl | rfl | rfl | rfl | rfl
  · exact ⟨⟨by first | decide | (dsimp only; decide), by first | decide | (dsimp only; decide), by first | decide | (dsimp only; decide), hz.hunk, hz.edit⟩, hok _ (by simp [somePts]), ptB_tiny (by first | decide | (dsimp only; decide)) (by first | decide | (dsimp only; decide)) (by first | decide | (dsimp only; decide)) t0 t0, by first | decide | (dsimp only; decide)⟩
  · exact ⟨⟨by first | decide | (dsimp only; decide), by first | decide | (dsimp only; decide), by first | decide | (dsimp only; decide), hz.hunk, hz.edit⟩, hok _ (by simp [somePts]), ptB_tiny (by first | decide | (dsimp only; decide)) (by first | decide | (dsimp only; decide)) (by first | decide | (dsimp only; decide)) t0 t0, by first | decide | (dsimp only; decide)⟩
  · exact ⟨⟨by first | decide | (dsimp only; decide), by first | decide | (dsimp only; decide), by first | decide | (dsimp only; decide), hz.hunk, hz.edit⟩, hok _ (by simp [somePts]), ptB_tiny (by first | decide | (dsimp only; decide)) (by first | decide | (dsimp only; decide)) (by first | decide | (dsimp only; decide)) t0 t0, by first | decide | (dsimp only; decide)⟩
  · exact ⟨⟨by first | decide | (dsimp only; decide), by first | decide | (dsimp only; decide), by first | decide | (dsimp only; decide), ⟨ic, nb_strs (l := [⟨#[97, 10]⟩, ⟨#[98]⟩]) qa (by first | decide | (dsimp only; decide)) (by first | decide | (dsimp only; decide)), nb_strs (l := [⟨#[99, 10]⟩]) qb (by first | decide | (dsimp only; decide)) (by first | decide | (dsimp only; decide)), by first | decide | (dsimp only; decide), by first | decide | (dsimp only; decide)⟩, hz.edit⟩, hok _ (by simp [somePts]), ptB_tiny (by first | decide | (dsimp only; decide)) (by first | decide | (dsimp only; decide)) (by first | decide | (dsimp only; decide)) (by first | decide | (dsimp only; decide)) (by first | decide | (dsimp only; decide)), by first | decide | (dsimp only; decide)⟩
  · exact ⟨⟨by first | decide | (dsimp only; decide), by first | decide | (dsimp only; decide), by first | decide | (dsimp only; decide), ⟨i0, hz.hunk.old, nb_strs (l := [⟨#[120]⟩]) qc (by first | decide | (dsimp only; decide)) (by first | decide | (dsimp only; decide)), by first | decide | (dsimp only; decide), by first | decide | (dsimp only; decide)⟩, hz.edit⟩, hok _ (by simp [somePts]), ptB_tiny (by first | decide | (dsimp only; decide)) (by first | decide | (dsimp only; decide)) (by first | decide | (dsimp only; decide)) t0 (by first | decide | (dsimp only; decide)), by first | decide | (dsimp only; decide)⟩
def edsQ (b0 b1 b2 b3 b4 b5 b6 b7 b8 : Nat) : List (Eh × Ed) :=
  [(⟨some ⟨b0, 0, none⟩, 3, none, 0, none, 0⟩, ⟨1, [0, 1, 1073741824], 0, 0, ⟨#[97]⟩, ⟨#[98]⟩, .nil, .nil⟩), (⟨none, 0, none, 0, some ⟨b1, 0, none⟩, 1⟩, ⟨2, [], 3, 0, noTxt, noTxt, .nil, nx⟩), (⟨some ⟨b2, 0, none⟩, 1, some ⟨b3, 0, none⟩, 1, none, 0⟩, ⟨3, [2], 1073741824, 0, noTxt, noTxt, ny, .nil⟩),
   (⟨some ⟨b4, 0, none⟩, 2, some ⟨b5, 0, none⟩, 1, some ⟨b6, 0, none⟩, 1⟩, ⟨4, [4, 5], 0, 0, noTxt, noTxt, nx, ny⟩), (⟨some ⟨b7, 0, none⟩, 1, some ⟨b8, 0, none⟩, 1, none, 0⟩, ⟨5, [0], 1, 9, noTxt, noTxt, ny, .nil⟩)]
theorem nx_size : (foB nx).length ≤ 500 ∧ (foB ny).length ≤ 500 ∧ (foB .nil).length ≤ 500 := by
  refine ⟨?_, ?_, by simp [foB]⟩
  · unfold nx nxKids nName
    simp only [foB_size]
    decide
  · unfold ny nxx nxKids nName
    simp only [foB_size]
    decide
theorem edB_tiny {e : Ed} (h1 : e.path.length ≤ 9) (h2 : e.frm.size ≤ 9) (h3 : e.to.size ≤ 9) (h4 : (foB e.old).length ≤ 500) (h5 : (foB e.new).length ≤ 500) : (edB e).length ≤ 5000 := by
  have e3 := pathB_rows e.path
  have e4 := nodes_len e.old
  have e5 := nodes_len e.new
  have h8 : (edB e).length = 1 + (pathB e.path).length + 16 + (8 + e.frm.size) + (8 + e.to.size) + (nodesB e.old).length + (nodesB e.new).length := by
    simp only [edB, List.length_cons, List.length_append, n8, txt_len]
    omega
  omega
theorem five_eds {w : World} {b0 b1 b2 b3 b4 b5 b6 b7 b8 r3 xr : Nat} {T : TypeId} {U : TypeId} {fz : Nat × Nat} (hk : FoIn AnyB w (some ⟨r3, 0, none⟩) xKid) (hr : FoIn AnyB w (some ⟨xr, 0, none⟩) nxx)
    (q0 : w.heap[b0]? = some (.cells #[.int .i64 0, .int .i64 1, .int .i64 1073741824] T fz)) (q1 : w.heap[b1]? = some (.cells #[.int .u8 11, .string ⟨#[]⟩, .int .i64 0, .slice (some ⟨r3, 0, none⟩) 1 1] U fz))
    (q2 : w.heap[b2]? = some (.cells #[.int .i64 2] T fz)) (q3 : w.heap[b3]? = some (.cells #[.int .u8 5, .string ⟨#[]⟩, .int .i64 0, .slice (some ⟨xr, 0, none⟩) 2 2] U fz)) (q4 : w.heap[b4]? = some (.cells #[.int .i64 4, .int .i64 5] T fz))
    (q5 : w.heap[b5]? = some (.cells #[.int .u8 11, .string ⟨#[]⟩, .int .i64 0, .slice (some ⟨r3, 0, none⟩) 1 1] U fz)) (q6 : w.heap[b6]? = some (.cells #[.int .u8 5, .string ⟨#[]⟩, .int .i64 0, .slice (some ⟨xr, 0, none⟩) 2 2] U fz))
    (q7 : w.heap[b7]? = some (.cells #[.int .i64 0] T fz)) (q8 : w.heap[b8]? = some (.cells #[.int .u8 5, .string ⟨#[]⟩, .int .i64 0, .slice (some ⟨xr, 0, none⟩) 2 2] U fz)) :
    ∀ q ∈ edsQ b0 b1 b2 b3 b4 b5 b6 b7 b8, GoodE w q := by
  obtain ⟨i0, i1, i2, i3, i4, i5, i9, ib, ic, id⟩ := z64s
  obtain ⟨n1, n2, n3⟩ := nx_size
  have hz := (patZero_in (S := AnyB) (w := w)).edit
  have hok := someEds_ok
  have hx : ∀ {b : Nat}, w.heap[b]? = some (.cells #[.int .u8 11, .string ⟨#[]⟩, .int .i64 0, .slice (some ⟨r3, 0, none⟩) 1 1] U fz) → FoIn AnyB w (some ⟨b, 0, none⟩) nx := fun h => nb_row (l := 1) h rfl (by first | decide | (dsimp only; decide)) (by first | decide | (dsimp only; decide)) i0 (by simp [Fo.len]) (by omega) hk
  have hy : ∀ {b : Nat}, w.heap[b]? = some (.cells #[.int .u8 5, .string ⟨#[]⟩, .int .i64 0, .slice (some ⟨xr, 0, none⟩) 2 2] U fz) → FoIn AnyB w (some ⟨b, 0, none⟩) ny := fun h => nb_row (l := 2) h rfl (by first | decide | (dsimp only; decide)) (by first | decide | (dsimp only; decide)) i0 (by simp [nxx, Fo.len]) (by omega) hr
  have p0 : IntsIn AnyB w (some ⟨b0, 0, none⟩) [0, 1, 1073741824] := nb_ints q0 (by intro n hn; simp at hn; rcases hn with rfl | rfl | rfl <;> assumption) (by first | decide | (dsimp only; decide))
  have p2 : IntsIn AnyB w (some ⟨b2, 0, none⟩) [2] := nb_ints q2 (by intro n hn; simp at hn; rw [hn]; assumption) (by first | decide | (dsimp only; decide))
  have p4 : IntsIn AnyB w (some ⟨b4, 0, none⟩) [4, 5] := nb_ints q4 (by intro n hn; simp at hn; rcases hn with rfl | rfl <;> assumption) (by first | decide | (dsimp only; decide))
  have p7 : IntsIn AnyB w (some ⟨b7, 0, none⟩) [0] := nb_ints q7 (by intro n hn; simp at hn; rw [hn]; assumption) (by first | decide | (dsimp only; decide))
  intro q hq
  simp only [edsQ, List.mem_cons, List.not_mem_nil, or_false] at hq
  rcases hq with rfl | rfl | rfl | rfl | rfl
  · exact ⟨⟨by first | decide | (dsimp only; decide), p0, i0, i0, by first | decide | (dsimp only; decide), by first | decide | (dsimp only; decide), trivial, trivial, by first | decide | (dsimp only; decide), by first | decide | (dsimp only; decide), by first | decide | (dsimp only; decide)⟩, hok _ (by simp [someEds]), edB_tiny (by first | decide | (dsimp only; decide)) (by first | decide | (dsimp only; decide)) (by first | decide | (dsimp only; decide)) n3 n3, by first | decide | (dsimp only; decide)⟩
  · exact ⟨⟨by first | decide | (dsimp only; decide), hz.path, i3, i0, by first | decide | (dsimp only; decide), by first | decide | (dsimp only; decide), trivial, hx q1, by first | decide | (dsimp only; decide), by first | decide | (dsimp only; decide), by first | decide | (dsimp only; decide)⟩, hok _ (by simp [someEds]), edB_tiny (by first | decide | (dsimp only; decide)) (by first | decide | (dsimp only; decide)) (by first | decide | (dsimp only; decide)) n3 n1, by first | decide | (dsimp only; decide)⟩
  · exact ⟨⟨by first | decide | (dsimp only; decide), p2, ib, i0, by first | decide | (dsimp only; decide), by first | decide | (dsimp only; decide), hy q3, trivial, by first | decide | (dsimp only; decide), by first | decide | (dsimp only; decide), by first | decide | (dsimp only; decide)⟩, hok _ (by simp [someEds]), edB_tiny (by first | decide | (dsimp only; decide)) (by first | decide | (dsimp only; decide)) (by first | decide | (dsimp only; decide)) n2 n3, by first | decide | (dsimp only; decide)⟩
  · exact ⟨⟨by first | decide | (dsimp only; decide), p4, i0, i0, by first | decide | (dsimp only; decide), by first | decide | (dsimp only; decide), hx q5, hy q6, by first | decide | (dsimp only; decide), by first | decide | (dsimp only; decide), by first | decide | (dsimp only; decide)⟩, hok _ (by simp [someEds]), edB_tiny (by first | decide | (dsimp only; decide)) (by first | decide | (dsimp only; decide)) (by first | decide | (dsimp only; decide)) n1 n2, by first | decide | (dsimp only; decide)⟩
  · exact ⟨⟨by first | decide | (dsimp only; decide), p7, i1, i9, by first | decide | (dsimp only; decide), by first | decide | (dsimp only; decide), hy q8, trivial, by first | decide | (dsimp only; decide), by first | decide | (dsimp only; decide), by first | decide | (dsimp only; decide)⟩, hok _ (by simp [someEds]), edB_tiny (by first | decide | (dsimp only; decide)) (by first | decide | (dsimp only; decide)) (by first | decide | (dsimp only; decide)) n2 n3, by first | decide | (dsimp only; decide)⟩

theorem own_here {w : World} {base g size n : Nat} {e : TypeId} {cs : Array Value} {xs : List Value} (h : w.heap[g]? = some (.cells cs e)) (hb : base ≤ g) (hn : n ≤ maxLen) (hs : cs.size = n * size) (hx : cs.toList = xs) : w.ownsRow base e size (.slice (some ⟨g, 0, none⟩) n n) n xs := by
  subst hx
  exact ⟨by simpa using hs, .inr ⟨g, n, cs, rfl, hb, h, Nat.le_refl _, hn, hs, List.take_of_length_le (by rw [Array.length_toList, hs]; exact Nat.le_refl _)⟩⟩
theorem eds_cells {w : World} {EB : Nat} {cs : Array Value} {T : TypeId} {fz : Nat × Nat} {l : List (Eh × Ed)} (h : w.heap[EB]? = some (.cells cs T fz)) (hx : cs.toList = l.flatMap fun q => edCells q.1 q.2) (hg : ∀ q ∈ l, GoodE w q) (i : Nat) (hi : i < l.length) :
    ∃ q : Eh × Ed, (∀ j v, (edCells q.1 q.2)[j]? = some v → w.cell? ⟨EB, i * 8 + j, none⟩ = some v) ∧ GoodE w q := by
  refine ⟨l[i], fun j v hv => ?_, hg _ (List.getElem_mem _)⟩
  rw [Lib.cell_of_heap h, ← Array.getElem?_toList, hx, flat_at (fun q : Eh × Ed => edCells q.1 q.2) 8 (fun _ => rfl) l i j l[i] (by simp) ?_, hv]
  have := (List.getElem?_eq_some_iff.1 hv).1
  simpa [edCells] using this
theorem app_below {w w' : World} {base B size : Nat} {e : TypeId} {v v' : Value} {n m : Nat} {xs xs' : List Value} (hg : w.grownBy w' v.ownBlock) (hwent : Went w w' v v' n m) (ho : w.ownsRow base e size v n xs) (ho' : w'.ownsRow base e size v' (n + m) xs') (hv : ∀ g, v.ownBlock = some g → B ≤ g ∨ v = .slice (some ⟨g, 0, none⟩) n n) (hm : 0 < m) (hB : B ≤ w.heap.size) :
    Below B w w' ∧ ∀ g, v'.ownBlock = some g → B ≤ g := by
  have hbl : (∀ g, v.ownBlock = some g → B ≤ g) → Below B w w' := fun h => (Below.refl B w).grown hg hB h
  rcases hwent with ⟨A, c, rfl, rfl⟩ | ⟨h1, h2⟩
  · rcases ho'.2 with ⟨_, h0⟩ | ⟨g, cap, cur, e1, _, _, hle, _⟩
    · omega
    · injection e1 with e1 e2 e3
      subst e1
      have hBg : B ≤ g := by
        rcases hv g rfl with h | h
        · exact h
        · injection h with _ _ h; omega
      exact ⟨hbl fun g' hg' => by have e4 : g = g' := by simpa [Value.ownBlock] using hg'
                                  omega, fun g' hg' => by have e4 : g = g' := by simpa [Value.ownBlock] using hg'
                                                          omega⟩
  · refine ⟨⟨hg.os, hg.tape, hg.output, hg.size, fun k hk => h2 k (by omega)⟩, fun g' hg' => ?_⟩
    rw [h1] at hg'
    injection hg' with hg'
    omega
theorem cells_new (w : World) {cs : Array Value} {T : TypeId} {j : Nat} {u : Value} (h : cs[j]? = some u) : (w.alloc (.cells cs T)).cell? ((⟨w.heap.size, 0, none⟩ : Addr).add j) = some u := by
  have := Lib.cell_of_heap (heap_alloc_new w (.cells cs T)) j
  have e : ((⟨w.heap.size, 0, none⟩ : Addr).add j) = ⟨w.heap.size, j, none⟩ := by rcases j with _ | j <;> simp [Addr.add]
  rw [e, this]
  exact h
theorem cells_newL (w : World) {cs : Array Value} {T : TypeId} {j : Nat} {u : Value} (h : cs.toList[j]? = some u) : (w.alloc (.cells cs T)).cell? ((⟨w.heap.size, 0, none⟩ : Addr).add j) = some u :=
  cells_new w (by rw [← Array.getElem?_toList]; exact h)

end Go.Proofs.YtfhfkbdaglegpaaGreatDoor
