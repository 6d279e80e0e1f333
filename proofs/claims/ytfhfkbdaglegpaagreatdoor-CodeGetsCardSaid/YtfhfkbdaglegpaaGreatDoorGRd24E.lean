/- The document's reader: edits. Printed by gen_rd24.py. -/
import Derived.Deep.CutBlock
import Derived.Deep.DeepCutAuto
import Derived.Test.YtfhfkbdaglegpaaGreatDoorGRd24
import Derived.Test.YtfhfkbdaglegpaaGreatDoorGRead4
import Derived.Test.YtfhfkbdaglegpaaGreatDoorGLentB
import Derived.Test.YtfhfkbdaglegpaaGreatDoorGRead6
import Derived.Test.YtfhfkbdaglegpaaGreatDoorGRef19

set_option linter.unusedVariables false
set_option linter.unusedSimpArgs false

namespace Go.Proofs.YtfhfkbdaglegpaaGreatDoor
open Go.RowKit

/-- a box E that is filled, and one of the result, R, beside the reader -/
structure St (B rb R E : Nat) (w wx : World) (us zs : List Value) (lq : List UInt8) (bq : Bool) : Prop where
  c : CellsL wx E us
  fc : ∀ o, wx.frozen? ⟨E, o, none⟩ = false
  el : E < wx.heap.size
  r : CellsL wx R zs
  fr : ∀ o, wx.frozen? ⟨R, o, none⟩ = false
  rl : R < E
  rbR : rb < R
  rd : Rdb B rb wx lq bq
  sd : Side rb w wx
  wR : w.heap.size ≤ R
section
variable {B rb R E : Nat} {w wx w1 : World} {us zs : List Value} {lq l' : List UInt8} {bq b' : Bool}
theorem St.call (h : St B rb R E w wx us zs lq bq) (hs : Side rb wx w1) (hr : Rdb B rb w1 l' b') : St B rb R E w w1 us zs l' b' := by
  have h1 := h.rbR
  have h2 := h.rl
  have h3 := h.el
  obtain ⟨a1, a2, a3⟩ := hs.box (N := E) h3 (by omega)
  obtain ⟨c1, c2, _⟩ := hs.box (N := R) (by omega) (by omega)
  exact ⟨fun j u hu => (a1 j).trans (h.c j u hu), fun o => (a2 o).trans (h.fc o), a3, fun j u hu => (c1 j).trans (h.r j u hu), fun o => (c2 o).trans (h.fr o), h2, h1, hr, Side.trans h.sd hs, h.wR⟩
theorem cellsL_set {N : Nat} {w : World} {us : List Value} (h : CellsL w N us) (j : Nat) (v : Value) (hj : j < us.length) : CellsL (w.setCell ⟨N, j, none⟩ v) N (us.set j v) := by
  intro i u hu
  by_cases e : i = j
  · subst e
    have h0 := h i us[i] (by simp [hj])
    rw [List.getElem?_set_self (by simpa using hj)] at hu
    rw [World.cell?_setCell_same _ _ _ h0]
    exact hu
  · rw [List.getElem?_set_ne (Ne.symm e)] at hu
    rw [World.cell?_setCell_other _ _ _ _ (fun e2 => e (by injection e2 with _ e2; exact e2.symm))]
    exact h i u hu
theorem St.put (h : St B rb R E w wx us zs lq bq) (j : Nat) (v : Value) (hj : j < us.length) : St B rb R E w (wx.setCell ⟨E, j, none⟩ v) (us.set j v) zs lq bq := by
  have h1 := h.rbR
  have h2 := h.rl
  have h3 := h.wR
  refine ⟨cellsL_set h.c j v hj, fun o => by rw [World.frozen?_setCell]; exact h.fc o, by simp [World.setCell]; exact h.el, fun i u hu => ?_, fun o => by rw [World.frozen?_setCell]; exact h.fr o, h2, h1, h.rd.setNew (a := ⟨E, j, none⟩) (by show rb < E; omega) v, Side.setNew h.sd (a := ⟨E, j, none⟩) (by show w.heap.size ≤ E; omega) v, h.wR⟩
  rw [World.cell?_setCell_other _ _ _ _ (fun e => by injection e with e1; omega)]
  exact h.r i u hu
/-- the flags, one thing behind another -/
theorem fl1 {b b' bd : Bool} {E1 E2 G N R : Prop} (hI : (b = false ∧ bd = false ∧ E1) ∨ (b = true ∧ R)) (h : (G ∧ b' = b) ∨ (b' = true ∧ N)) (hg : E1 → G → E2) (hb : E1 → N → R) : (b' = false ∧ bd = false ∧ E2) ∨ (b' = true ∧ R) := by
  rcases hI with ⟨i1, i2, i3⟩ | ⟨i1, i2⟩
  · rcases h with ⟨g, e⟩ | ⟨e, n⟩
    · exact .inl ⟨by rw [e, i1], i2, hg i3 g⟩
    · exact .inr ⟨e, hb i3 n⟩
  · refine .inr ⟨?_, i2⟩
    rcases h with ⟨_, e⟩ | ⟨e, _⟩
    · rw [e, i1]
    · exact e
theorem fl2 {b b' bd : Bool} {E1 E2 G N R : Prop} (hI : (b = false ∧ bd = false ∧ E1) ∨ (b = true ∧ R)) (h : (b' = false ∧ b = false ∧ G) ∨ (b' = true ∧ (b = true ∨ N))) (hg : E1 → G → E2) (hb : E1 → N → R) : (b' = false ∧ bd = false ∧ E2) ∨ (b' = true ∧ R) := by
  rcases hI with ⟨i1, i2, i3⟩ | ⟨i1, i2⟩
  · rcases h with ⟨e, _, g⟩ | ⟨e, h | n⟩
    · exact .inl ⟨e, i2, hg i3 g⟩
    · rw [i1] at h; cases h
    · exact .inr ⟨e, hb i3 n⟩
  · refine .inr ⟨?_, i2⟩
    rcases h with ⟨_, e, _⟩ | ⟨e, _⟩
    · rw [i1] at e; cases e
    · exact e
end
theorem keep_setCellsL {P : Nat → Prop} {b : Nat} {w : World} (hb : ¬ P b) : ∀ (vs : List Value) (o : Nat) {w' : World}, Keep P w w' → Keep P w (w'.setCells b o vs)
  | [], _, _, h => h
  | v :: r, o, _, h => keep_setCellsL hb r (o + 1) (Keep.setCell h (a := ⟨b, o, none⟩) hb v)
theorem st_start {B rb : Nat} {w w2 : World} {cs ds : Array Value} {T T' : TypeId} {la : List UInt8} {ba : Bool} (hrb : rb < w.heap.size) (hr : Rdb B rb w2 la ba) (hs : Side rb (w.alloc (.cells ds T')) w2) : St B rb w.heap.size w2.heap.size w (w2.alloc (.cells cs T)) cs.toList ds.toList la ba := by
  have hz := hs.size
  rw [World.size_alloc] at hz
  obtain ⟨a1, a2, a3⟩ := hs.box (N := w.heap.size) (by simp) (by omega)
  have hold : (w2.alloc (.cells cs T)).heap[w.heap.size]? = w2.heap[w.heap.size]? := heap_alloc_old w2 _ (by omega)
  refine ⟨fun j u hu => ?_, fun o => by simp, by simp, fun j u hu => ?_, fun o => ?_, by omega, hrb, hr.alloc _, Side.alloc (Side.trans (Side.alloc (Side.refl rb w) _) hs) _, Nat.le_refl _⟩
  · rw [Lib.cell_of_heap (heap_alloc_new w2 _)]; simpa using hu
  · rw [World.cell?_of_block (a := ⟨w.heap.size, j, none⟩) hold, a1 j, Lib.cell_of_heap (heap_alloc_new w _)]; simpa using hu
  · rw [World.frozen?_of_block (a := ⟨w.heap.size, o, none⟩) hold, a2 o]; simp
def EdPostR (B rb : Nat) (w : World) (l : List UInt8) (bd : Bool) (e1 : Ending) (w' : World) : Prop := ∃ (e : Ed) (x : Eh) (l' : List UInt8) (bd' : Bool), e1 = .returned (.agg #[.int .u8 e.kind, .slice x.pA e.path.length x.pc, .int .i64 e.at_, .int .i64 e.far, .string e.frm, .string e.to, .slice x.oA e.old.len x.oc, .slice x.nA e.new.len x.nc]) ∧ EdIn (fun b => w.heap.size ≤ b) w' x e ∧ EdFit e ∧ Rdb B rb w' l' bd' ∧ Side rb w w' ∧ l'.length ≤ l.length ∧
      ((bd' = false ∧ bd = false ∧ l = edB e ++ l') ∨ (bd' = true ∧ (bd = true ∨ ¬ EdAt 0 l)))
theorem nodes41 {B rb : Nat} {w : World} {l : List UInt8} {bd : Bool} (h : Rdb B rb w l bd) (hl : l.length ≤ lid) : Calls Tryz.prog 151 #[.pointer (some ⟨rb, 0, none⟩), .int .i64 41] w (NodesPostR B rb 41 w l bd) :=
  nodes24r_upto 41 (Nat.le_refl _) B rb w l bd h hl

set_option maxHeartbeats 4000000 in
set_option maxRecDepth 1000000 in
theorem edit24r_any {B rb : Nat} {w : World} {l : List UInt8} {bd : Bool} (h : Rdb B rb w l bd) (hl : l.length ≤ lid) : Calls Tryz.prog 99 #[.pointer (some ⟨rb, 0, none⟩)] w (EdPostR B rb w l bd) := by
  have hrb := h.lt
  have hll : l.length ≤ 1099511627776 := hl
  have H0 := hide (h.alloc (.cells #[.int .u8 0, .slice none 0 0, .int .i64 0, .int .i64 0, .string ⟨#[]⟩, .string ⟨#[]⟩, .slice none 0 0, .slice none 0 0] 30))
  clear h hl
  go_enter Tryz.func99, Tryz.ntmps99
  go_upto_region 9 with (first
    | (go_at_call 95; (with_reducible refine (byte24_any H0.out).mono ?_); rintro e w2 ⟨x, la, ba, rfl, hr, hs, hx⟩; have hx8 := x.toNat_lt; have HX2 := hide hx; have hle2 : la.length ≤ l.length := (by rcases hx with ⟨e, _⟩ | ⟨_, e, _⟩ <;> rw [e] <;> simp); have S2 : Hid (St B rb w.heap.size w2.heap.size w (w2.alloc (.cells #[.int .u8 x.toNat, .slice none 0 0, .int .i64 0, .int .i64 0, .string ⟨#[]⟩, .string ⟨#[]⟩, .slice none 0 0, .slice none 0 0] 30)) [.int .u8 x.toNat, .slice none 0 0, .int .i64 0, .int .i64 0, .string ⟨#[]⟩, .string ⟨#[]⟩, .slice none 0 0, .slice none 0 0] [.int .u8 0, .slice none 0 0, .int .i64 0, .int .i64 0, .string ⟨#[]⟩, .string ⟨#[]⟩, .slice none 0 0, .slice none 0 0] la ba) := hide (st_start hrb hr hs); clear hr hs hx)
    | (go_at_call 150; (with_reducible refine (path24r_any S2.out.rd (by simp only [lid]; omega)).mono ?_); rintro e w3 ⟨p, lb, bb, pA, pc, rfl, hin, hpc1, hpc2, hr, hs, hle3, hx⟩; have hS := S2.out.call hs hr; have k3 := hS.c 1 _ rfl; have kf3 := hS.fc 1; have S3 : Hid (St B rb w.heap.size w2.heap.size w (w3.setCell ⟨w2.heap.size, 1, none⟩ (.slice pA p.length pc)) [.int .u8 x.toNat, .slice pA p.length pc, .int .i64 0, .int .i64 0, .string ⟨#[]⟩, .string ⟨#[]⟩, .slice none 0 0, .slice none 0 0] [.int .u8 0, .slice none 0 0, .int .i64 0, .int .i64 0, .string ⟨#[]⟩, .string ⟨#[]⟩, .slice none 0 0, .slice none 0 0] lb bb) := hide (hS.put 1 (.slice pA p.length pc) (by simp)); have HX3 := hide hx; have hL : Late w2.heap.size (w2.alloc (.cells #[.int .u8 x.toNat, .slice none 0 0, .int .i64 0, .int .i64 0, .string ⟨#[]⟩, .string ⟨#[]⟩, .slice none 0 0, .slice none 0 0] 30)) (w3.setCell ⟨w2.heap.size, 1, none⟩ (.slice pA p.length pc)) := Late.set (Late.side (Late.refl w2.heap.size (w2.alloc (.cells #[.int .u8 x.toNat, .slice none 0 0, .int .i64 0, .int .i64 0, .string ⟨#[]⟩, .string ⟨#[]⟩, .slice none 0 0, .slice none 0 0] 30))) (by have := S2.out.rbR; have := S2.out.rl; omega) hs) (a := ⟨w2.heap.size, 1, none⟩) (Nat.le_refl _) (.slice pA p.length pc); have hEl := S2.out.el; have HP3 := hide ((hin.mono (S' := fun b => w2.heap.size < b) (fun b _ hb => Nat.lt_of_lt_of_le hEl hb)).late (Late.set (Late.refl w2.heap.size w3) (a := ⟨w2.heap.size, 1, none⟩) (Nat.le_refl _) (.slice pA p.length pc))); have Hpf : Hid (IntsFit p) := hide ⟨hin.2.1, hin.2.2⟩; clear hr hs hx hS hL hin hEl)
    | (go_at_call 97; (with_reducible refine (number24r_any S3.out.rd).mono ?_); rintro e w4 ⟨a, lc, bc, rfl, hna, hr, hs, hle4, hx⟩; have hS := S3.out.call hs hr; have k4 := hS.c 2 _ rfl; have kf4 := hS.fc 2; have S4 : Hid (St B rb w.heap.size w2.heap.size w (w4.setCell ⟨w2.heap.size, 2, none⟩ (.int .i64 a)) [.int .u8 x.toNat, .slice pA p.length pc, .int .i64 a, .int .i64 0, .string ⟨#[]⟩, .string ⟨#[]⟩, .slice none 0 0, .slice none 0 0] [.int .u8 0, .slice none 0 0, .int .i64 0, .int .i64 0, .string ⟨#[]⟩, .string ⟨#[]⟩, .slice none 0 0, .slice none 0 0] lc bc) := hide (hS.put 2 (.int .i64 a) (by simp)); have HX4 := hide hx; have hL : Late w2.heap.size (w3.setCell ⟨w2.heap.size, 1, none⟩ (.slice pA p.length pc)) (w4.setCell ⟨w2.heap.size, 2, none⟩ (.int .i64 a)) := Late.set (Late.side (Late.refl w2.heap.size (w3.setCell ⟨w2.heap.size, 1, none⟩ (.slice pA p.length pc))) (by have := S3.out.rbR; have := S3.out.rl; omega) hs) (a := ⟨w2.heap.size, 2, none⟩) (Nat.le_refl _) (.int .i64 a); have HP4 := hide (HP3.out.late hL); have Hna := hide hna; clear hna; clear hr hs hx hS hL)
    | (go_at_call 97; (with_reducible refine (number24r_any S4.out.rd).mono ?_); rintro e w5 ⟨fa, le, be, rfl, hnf, hr, hs, hle5, hx⟩; have hS := S4.out.call hs hr; have k5 := hS.c 3 _ rfl; have kf5 := hS.fc 3; have S5 : Hid (St B rb w.heap.size w2.heap.size w (w5.setCell ⟨w2.heap.size, 3, none⟩ (.int .i64 fa)) [.int .u8 x.toNat, .slice pA p.length pc, .int .i64 a, .int .i64 fa, .string ⟨#[]⟩, .string ⟨#[]⟩, .slice none 0 0, .slice none 0 0] [.int .u8 0, .slice none 0 0, .int .i64 0, .int .i64 0, .string ⟨#[]⟩, .string ⟨#[]⟩, .slice none 0 0, .slice none 0 0] le be) := hide (hS.put 3 (.int .i64 fa) (by simp)); have HX5 := hide hx; have hL : Late w2.heap.size (w4.setCell ⟨w2.heap.size, 2, none⟩ (.int .i64 a)) (w5.setCell ⟨w2.heap.size, 3, none⟩ (.int .i64 fa)) := Late.set (Late.side (Late.refl w2.heap.size (w4.setCell ⟨w2.heap.size, 2, none⟩ (.int .i64 a))) (by have := S4.out.rbR; have := S4.out.rl; omega) hs) (a := ⟨w2.heap.size, 3, none⟩) (Nat.le_refl _) (.int .i64 fa); have HP5 := hide (HP4.out.late hL); have Hnf := hide hnf; clear hnf; clear hr hs hx hS hL)
    | (go_at_call 96; (with_reducible refine (text24r_any S5.out.rd (by simp only [max63]; omega)).mono ?_); rintro e w6 ⟨s, lf, bf, rfl, hsz, hr, hs, hle6, hx⟩; have hS := S5.out.call hs hr; have k6 := hS.c 4 _ rfl; have kf6 := hS.fc 4; have S6 : Hid (St B rb w.heap.size w2.heap.size w (w6.setCell ⟨w2.heap.size, 4, none⟩ (.string s)) [.int .u8 x.toNat, .slice pA p.length pc, .int .i64 a, .int .i64 fa, .string s, .string ⟨#[]⟩, .slice none 0 0, .slice none 0 0] [.int .u8 0, .slice none 0 0, .int .i64 0, .int .i64 0, .string ⟨#[]⟩, .string ⟨#[]⟩, .slice none 0 0, .slice none 0 0] lf bf) := hide (hS.put 4 (.string s) (by simp)); have HX6 := hide hx; have hL : Late w2.heap.size (w5.setCell ⟨w2.heap.size, 3, none⟩ (.int .i64 fa)) (w6.setCell ⟨w2.heap.size, 4, none⟩ (.string s)) := Late.set (Late.side (Late.refl w2.heap.size (w5.setCell ⟨w2.heap.size, 3, none⟩ (.int .i64 fa))) (by have := S5.out.rbR; have := S5.out.rl; omega) hs) (a := ⟨w2.heap.size, 4, none⟩) (Nat.le_refl _) (.string s); have HP6 := hide (HP5.out.late hL); clear hr hs hx hS hL)
    | (go_at_call 96; (with_reducible refine (text24r_any S6.out.rd (by simp only [max63]; omega)).mono ?_); rintro e w7 ⟨t, lg, bg, rfl, htz, hr, hs, hle7, hx⟩; have hS := S6.out.call hs hr; have k7 := hS.c 5 _ rfl; have kf7 := hS.fc 5; have S7 : Hid (St B rb w.heap.size w2.heap.size w (w7.setCell ⟨w2.heap.size, 5, none⟩ (.string t)) [.int .u8 x.toNat, .slice pA p.length pc, .int .i64 a, .int .i64 fa, .string s, .string t, .slice none 0 0, .slice none 0 0] [.int .u8 0, .slice none 0 0, .int .i64 0, .int .i64 0, .string ⟨#[]⟩, .string ⟨#[]⟩, .slice none 0 0, .slice none 0 0] lg bg) := hide (hS.put 5 (.string t) (by simp)); have HX7 := hide hx; have hL : Late w2.heap.size (w6.setCell ⟨w2.heap.size, 4, none⟩ (.string s)) (w7.setCell ⟨w2.heap.size, 5, none⟩ (.string t)) := Late.set (Late.side (Late.refl w2.heap.size (w6.setCell ⟨w2.heap.size, 4, none⟩ (.string s))) (by have := S6.out.rbR; have := S6.out.rl; omega) hs) (a := ⟨w2.heap.size, 5, none⟩) (Nat.le_refl _) (.string t); have HP7 := hide (HP6.out.late hL); clear hr hs hx hS hL)
    | (go_at_call 151; (with_reducible refine (nodes41 S7.out.rd (by simp only [lid]; omega)).mono ?_); rintro e w8 ⟨f6, lh, bh, oA, oc, rfl, hin, hf6, ho1, ho2, hr, hs, hle8, hx⟩; have hS := S7.out.call hs hr; have k8 := hS.c 6 _ rfl; have kf8 := hS.fc 6; have S8 : Hid (St B rb w.heap.size w2.heap.size w (w8.setCell ⟨w2.heap.size, 6, none⟩ (.slice oA f6.len oc)) [.int .u8 x.toNat, .slice pA p.length pc, .int .i64 a, .int .i64 fa, .string s, .string t, .slice oA f6.len oc, .slice none 0 0] [.int .u8 0, .slice none 0 0, .int .i64 0, .int .i64 0, .string ⟨#[]⟩, .string ⟨#[]⟩, .slice none 0 0, .slice none 0 0] lh bh) := hide (hS.put 6 (.slice oA f6.len oc) (by simp)); have HX8 := hide hx; have hL : Late w2.heap.size (w7.setCell ⟨w2.heap.size, 5, none⟩ (.string t)) (w8.setCell ⟨w2.heap.size, 6, none⟩ (.slice oA f6.len oc)) := Late.set (Late.side (Late.refl w2.heap.size (w7.setCell ⟨w2.heap.size, 5, none⟩ (.string t))) (by have := S7.out.rbR; have := S7.out.rl; omega) hs) (a := ⟨w2.heap.size, 6, none⟩) (Nat.le_refl _) (.slice oA f6.len oc); have HP8 := hide (HP7.out.late hL); have hEl := S7.out.el; have HO8 := hide ((hin.mono (S' := fun b => w2.heap.size < b) (fun b _ hb => Nat.lt_of_lt_of_le hEl hb)).late (Late.set (Late.refl w2.heap.size w8) (a := ⟨w2.heap.size, 6, none⟩) (Nat.le_refl _) (.slice oA f6.len oc))); clear hr hs hx hS hL hin hEl)
    | (go_at_call 151; (with_reducible refine (nodes41 S8.out.rd (by simp only [lid]; omega)).mono ?_); rintro e w9 ⟨f7, li, bi, nA, nc, rfl, hin, hf7, hn1, hn2, hr, hs, hle9, hx⟩; have hS := S8.out.call hs hr; have k9 := hS.c 7 _ rfl; have kf9 := hS.fc 7; have S9 : Hid (St B rb w.heap.size w2.heap.size w (w9.setCell ⟨w2.heap.size, 7, none⟩ (.slice nA f7.len nc)) [.int .u8 x.toNat, .slice pA p.length pc, .int .i64 a, .int .i64 fa, .string s, .string t, .slice oA f6.len oc, .slice nA f7.len nc] [.int .u8 0, .slice none 0 0, .int .i64 0, .int .i64 0, .string ⟨#[]⟩, .string ⟨#[]⟩, .slice none 0 0, .slice none 0 0] li bi) := hide (hS.put 7 (.slice nA f7.len nc) (by simp)); have HX9 := hide hx; have hL : Late w2.heap.size (w8.setCell ⟨w2.heap.size, 6, none⟩ (.slice oA f6.len oc)) (w9.setCell ⟨w2.heap.size, 7, none⟩ (.slice nA f7.len nc)) := Late.set (Late.side (Late.refl w2.heap.size (w8.setCell ⟨w2.heap.size, 6, none⟩ (.slice oA f6.len oc))) (by have := S8.out.rbR; have := S8.out.rl; omega) hs) (a := ⟨w2.heap.size, 7, none⟩) (Nat.le_refl _) (.slice nA f7.len nc); have HP9 := hide (HP8.out.late hL); have HO9 := hide (HO8.out.late hL); have hEl := S8.out.el; have HN9 := hide ((hin.mono (S' := fun b => w2.heap.size < b) (fun b _ hb => Nat.lt_of_lt_of_le hEl hb)).late (Late.set (Late.refl w2.heap.size w9) (a := ⟨w2.heap.size, 7, none⟩) (Nat.le_refl _) (.slice nA f7.len nc))); clear hr hs hx hS hL hin hEl))
  obtain ⟨WX, hWX⟩ : ∃ WX, WX = (w9.setCell ⟨w2.heap.size, 7, none⟩ (.slice nA f7.len nc)) := ⟨_, rfl⟩
  rw [← hWX] at S9 HP9 HO9 HN9 ⊢
  clear hWX
  have e0 := S9.out.c 0 _ rfl
  have e1 := S9.out.c 1 _ rfl
  have e2 := S9.out.c 2 _ rfl
  have e3 := S9.out.c 3 _ rfl
  have e4 := S9.out.c 4 _ rfl
  have e5 := S9.out.c 5 _ rfl
  have e6 := S9.out.c 6 _ rfl
  have e7 := S9.out.c 7 _ rfl
  have r0 := S9.out.r 0 _ rfl
  have r1 := S9.out.r 1 _ rfl
  have r2 := S9.out.r 2 _ rfl
  have r3 := S9.out.r 3 _ rfl
  have r4 := S9.out.r 4 _ rfl
  have r5 := S9.out.r 5 _ rfl
  have r6 := S9.out.r 6 _ rfl
  have r7 := S9.out.r 7 _ rfl
  have hfr := S9.out.fr
  have hRE := S9.out.rl
  have hbR := S9.out.rbR
  obtain ⟨wF, hF⟩ : ∃ wF, wF = World.setCells WX w.heap.size 0 [.int .u8 x.toNat, .slice pA p.length pc, .int .i64 a, .int .i64 fa, .string s, .string t, .slice oA f6.len oc, .slice nA f7.len nc] := ⟨_, rfl⟩
  have hR : CellsL wF w.heap.size [.int .u8 x.toNat, .slice pA p.length pc, .int .i64 a, .int .i64 fa, .string s, .string t, .slice oA f6.len oc, .slice nA f7.len nc] := by
    rw [hF]
    have := cellsL_put S9.out.r 0 [.int .u8 x.toNat, .slice pA p.length pc, .int .i64 a, .int .i64 fa, .string s, .string t, .slice oA f6.len oc, .slice nA f7.len nc] (by simp)
    simpa using this
  have HRd : Hid (Rdb B rb wF li bi) := hide (by rw [hF]; exact S9.out.rd.keep fun b hb => heap_setCellsL w.heap.size (by omega) _ _ _)
  have HSd : Hid (Side rb w wF) := hide (by rw [hF]; exact keep_setCellsL (fun hk => absurd hk.1 (Nat.lt_irrefl _)) _ 0 S9.out.sd)
  have hLt : Late w2.heap.size WX wF := by rw [hF]; exact keep_setCellsL (fun hk => by have := hk.1; omega) _ 0 (Late.refl _ _)
  have HPF := hide ((HP9.out.late hLt).mono (S' := fun b => w.heap.size ≤ b) (fun b _ hb => by omega))
  have HOF := hide ((HO9.out.late hLt).mono (S' := fun b => w.heap.size ≤ b) (fun b _ hb => by omega))
  have HNF := hide ((HN9.out.late hLt).mono (S' := fun b => w.heap.size ≤ b) (fun b _ hb => by omega))
  clear hLt
  simp only [World.setCells, Nat.reduceAdd] at hF
  have HR := hide hR
  have HF := hide hF
  clear hR hF S2 S3 S4 S5 S6 S7 S8 S9 k3 kf3 k4 kf4 k5 kf5 k6 kf6 k7 kf7 k8 kf8 k9 kf9
  go_wp2_with fail
  rw [← HF.out]
  clear HF
  have q0 := HR.out 0 _ rfl
  have q1 := HR.out 1 _ rfl
  have q2 := HR.out 2 _ rfl
  have q3 := HR.out 3 _ rfl
  have q4 := HR.out 4 _ rfl
  have q5 := HR.out 5 _ rfl
  have q6 := HR.out 6 _ rfl
  have q7 := HR.out 7 _ rfl
  refine bodyPost_ret (v := .agg #[.int .u8 x.toNat, .slice pA p.length pc, .int .i64 a, .int .i64 fa, .string s, .string t, .slice oA f6.len oc, .slice nA f7.len nc]) ?_ rfl ?_
  · simp only [results, Tryz.results99]
    go_simp
  · have I0 : (bd = false ∧ bd = false ∧ True) ∨ (bd = true ∧ (bd = true ∨ ¬ EdAt 0 l)) := by cases bd <;> simp
    have I1 := fl1 (E2 := l = x :: la) I0 (HX2.out.imp id fun h => ⟨h.2.2, h.1⟩) (fun _ g => g) (fun _ n => .inr (by rw [n]; exact ed_no))
    have I2 := fl1 (E2 := l = x :: (pathB p ++ lb)) I1 HX3.out (fun e g => by rw [e, g]) (fun e n => .inr (by rw [e]; exact ed_no0 n))
    have I3 := fl1 (E2 := l = x :: (pathB p ++ (num8 a ++ lc))) I2 (HX4.out.imp id fun h => ⟨h.2.1, h.1⟩) (fun e g => by rw [e, g]) (fun e n => .inr (by rw [e]; exact ed_no1 Hpf.out n))
    have I4 := fl1 (E2 := l = x :: (pathB p ++ (num8 a ++ (num8 fa ++ le)))) I3 (HX5.out.imp id fun h => ⟨h.2.1, h.1⟩) (fun e g => by rw [e, g]) (fun e n => .inr (by rw [e]; exact ed_no2 Hpf.out Hna.out n))
    have I5 := fl1 (E2 := l = x :: (pathB p ++ (num8 a ++ (num8 fa ++ (txtB s ++ lf))))) I4 (HX6.out.imp (fun h => h) fun h => h) (fun e g => by rw [e, g]) (fun e n => .inr (by rw [e]; exact ed_no3 Hpf.out Hna.out Hnf.out n))
    have I6 := fl1 (E2 := l = x :: (pathB p ++ (num8 a ++ (num8 fa ++ (txtB s ++ (txtB t ++ lg)))))) I5 HX7.out (fun e g => by rw [e, g]) (fun e n => .inr (by rw [e]; exact ed_no4 Hpf.out Hna.out Hnf.out hsz n))
    have I7 := fl2 (E2 := l = x :: (pathB p ++ (num8 a ++ (num8 fa ++ (txtB s ++ (txtB t ++ (nodesB f6 ++ lh))))))) I6 HX8.out (fun e g => by rw [e, g.1]) (fun e n => .inr (by rw [e]; exact ed_no5 Hpf.out Hna.out Hnf.out hsz htz n))
    have I8 := fl2 (E2 := l = x :: (pathB p ++ (num8 a ++ (num8 fa ++ (txtB s ++ (txtB t ++ (nodesB f6 ++ (nodesB f7 ++ li)))))))) I7 HX9.out (fun e g => by rw [e, g.1]) (fun e n => .inr (by rw [e]; exact ed_no6 Hpf.out Hna.out Hnf.out hsz htz ⟨hf6, Nat.le_trans ho1 ho2⟩ n))
    refine ⟨⟨x.toNat, p, a, fa, s, t, f6, f7⟩, ⟨pA, pc, oA, oc, nA, nc⟩, li, bi, rfl, ⟨hx8, HPF.out, Hna.out, Hnf.out, hsz, htz, HOF.out, HNF.out, ⟨hpc1, hpc2⟩, ⟨ho1, ho2⟩, ⟨hn1, hn2⟩⟩, ⟨hx8, Hpf.out, Hna.out, Hnf.out, hsz, htz, ⟨hf6, Nat.le_trans ho1 ho2⟩, ⟨hf7, Nat.le_trans hn1 hn2⟩⟩, HRd.out, HSd.out, by omega, ?_⟩
    rcases I8 with ⟨g1, g2, g3⟩ | h
    · refine .inl ⟨g1, g2, ?_⟩
      rw [g3]
      simp [edB]
    · exact .inr h

end Go.Proofs.YtfhfkbdaglegpaaGreatDoor

namespace Go.Proofs.YtfhfkbdaglegpaaGreatDoor
open Go.RowKit

theorem St.puts {B rb R E : Nat} {w wx : World} {us zs : List Value} {lq : List UInt8} {bq : Bool} (h : St B rb R E w wx us zs lq bq) (o : Nat) (vs : List Value) (ho : o + vs.length ≤ us.length) : St B rb R E w (wx.setCells E o vs) (us.take o ++ vs ++ us.drop (o + vs.length)) zs lq bq := by
  have h1 := h.rbR
  have h2 := h.rl
  have h3 := h.wR
  refine ⟨cellsL_put h.c o vs ho, fun q => by rw [World.frozen?_setCells]; exact h.fc q, by rw [size_setCellsL]; exact h.el, cellsL_other h.r (by omega) o vs, fun q => by rw [World.frozen?_setCells]; exact h.fr q, h2, h1, h.rd.keep fun b hb => heap_setCellsL E (by omega) _ _ _, keep_setCellsL (fun hk => absurd hk.1 (by omega)) vs o h.sd, h.wR⟩
theorem HkIn.of_rows {S : Nat → Prop} {w : World} {a : Int} {oA nA : Option Addr} {oc nc : Nat} {o n : List ByteArray} (ha : is63 a) (ho : StrsIn S w oA o) (hn : StrsIn S w nA n) (h1 : o.length ≤ oc ∧ oc ≤ 9223372036854775807) (h2 : n.length ≤ nc ∧ nc ≤ 9223372036854775807) : HkIn S w ⟨oA, oc, nA, nc⟩ ⟨a, o, n⟩ := ⟨ha, ho, hn, h1, h2⟩
def PatPostR (B rb : Nat) (w : World) (l : List UInt8) (bd : Bool) (e1 : Ending) (w' : World) : Prop := ∃ (q : Pt) (y : Ph) (l' : List UInt8) (bd' : Bool), e1 = .returned (.agg #[.int .u8 q.kind, .string q.file, .string q.text, .int .i64 q.hunk.at_, .slice y.h.oA q.hunk.old.length y.h.oc, .slice y.h.nA q.hunk.new.length y.h.nc, .int .u8 q.edit.kind, .slice y.e.pA q.edit.path.length y.e.pc, .int .i64 q.edit.at_, .int .i64 q.edit.far, .string q.edit.frm, .string q.edit.to, .slice y.e.oA q.edit.old.len y.e.oc, .slice y.e.nA q.edit.new.len y.e.nc]) ∧ PtIn (fun b => w.heap.size ≤ b) w' y q ∧ PtFit q ∧ Bare q ∧ Rdb B rb w' l' bd' ∧ Side rb w w' ∧ l'.length ≤ l.length ∧
      ((bd' = false ∧ bd = false ∧ l = ptB q ++ l') ∨ (bd' = true ∧ (bd = true ∨ ¬ PatAt l)))

set_option maxHeartbeats 8000000 in
set_option maxRecDepth 1000000 in
theorem patch24r_any {B rb : Nat} {w : World} {l : List UInt8} {bd : Bool} (h : Rdb B rb w l bd) (hl : l.length ≤ lid) : Calls Tryz.prog 42 #[.pointer (some ⟨rb, 0, none⟩)] w (PatPostR B rb w l bd) := by
  have hrb := h.lt
  have hll : l.length ≤ 1099511627776 := hl
  have H0 := hide (h.alloc (.cells #[.int .u8 0, .string ⟨#[]⟩, .string ⟨#[]⟩, .int .i64 0, .slice none 0 0, .slice none 0 0, .int .u8 0, .slice none 0 0, .int .i64 0, .int .i64 0, .string ⟨#[]⟩, .string ⟨#[]⟩, .slice none 0 0, .slice none 0 0] 32))
  clear h hl
  go_enter Tryz.func42, Tryz.ntmps42
  go_upto_region 3 with (first
    | (go_at_call 95; (with_reducible refine (byte24_any H0.out).mono ?_); rintro e w2 ⟨x, la, ba, rfl, hr, hs, hx⟩; have hx8 := x.toNat_lt; have HX2 := hide hx; have hle2 : la.length ≤ l.length := (by rcases hx with ⟨e, _⟩ | ⟨_, e, _⟩ <;> rw [e] <;> simp); have S2 : Hid (St B rb w.heap.size w2.heap.size w (w2.alloc (.cells #[.int .u8 x.toNat, .string ⟨#[]⟩, .string ⟨#[]⟩, .int .i64 0, .slice none 0 0, .slice none 0 0, .int .u8 0, .slice none 0 0, .int .i64 0, .int .i64 0, .string ⟨#[]⟩, .string ⟨#[]⟩, .slice none 0 0, .slice none 0 0] 32)) [.int .u8 x.toNat, .string ⟨#[]⟩, .string ⟨#[]⟩, .int .i64 0, .slice none 0 0, .slice none 0 0, .int .u8 0, .slice none 0 0, .int .i64 0, .int .i64 0, .string ⟨#[]⟩, .string ⟨#[]⟩, .slice none 0 0, .slice none 0 0] [.int .u8 0, .string ⟨#[]⟩, .string ⟨#[]⟩, .int .i64 0, .slice none 0 0, .slice none 0 0, .int .u8 0, .slice none 0 0, .int .i64 0, .int .i64 0, .string ⟨#[]⟩, .string ⟨#[]⟩, .slice none 0 0, .slice none 0 0] la ba) := hide (st_start hrb hr hs); clear hr hs hx)
    | (go_at_call 96; (with_reducible refine (text24r_any S2.out.rd (by simp only [max63]; omega)).mono ?_); rintro e w3 ⟨s, lb, bb, rfl, hsz, hr, hs, hle3, hx⟩; have hS := S2.out.call hs hr; have k3_0 := hS.c 1 _ rfl; have kf3 := hS.fc; have S3 : Hid (St B rb w.heap.size w2.heap.size w (w3.setCell ⟨w2.heap.size, 1, none⟩ (.string s)) [.int .u8 x.toNat, .string s, .string ⟨#[]⟩, .int .i64 0, .slice none 0 0, .slice none 0 0, .int .u8 0, .slice none 0 0, .int .i64 0, .int .i64 0, .string ⟨#[]⟩, .string ⟨#[]⟩, .slice none 0 0, .slice none 0 0] [.int .u8 0, .string ⟨#[]⟩, .string ⟨#[]⟩, .int .i64 0, .slice none 0 0, .slice none 0 0, .int .u8 0, .slice none 0 0, .int .i64 0, .int .i64 0, .string ⟨#[]⟩, .string ⟨#[]⟩, .slice none 0 0, .slice none 0 0] lb bb) := hide (hS.put 1 (.string s) (by simp)); have HX3 := hide hx; clear hr hs hx hS))
  have ek := S3.out.c 0 _ rfl
  rcases hb3 : ((x.toNat : Int) == 3) with _ | _
  · have Hk3 : Hid (¬ x.toNat = 3) := hide (fun e => by rw [e] at hb3; cases hb3)
    rcases hb4 : ((x.toNat : Int) == 4) with _ | _
    · have Hk4 : Hid (¬ x.toNat = 4) := hide (fun e => by rw [e] at hb4; cases hb4)
      go_upto_region 11 with ((go_at_call 96; (with_reducible refine (text24r_any S3.out.rd (by simp only [max63]; omega)).mono ?_); rintro e w4 ⟨t, lc, bc, rfl, htz, hr, hs, hle4, hx⟩; have hS := S3.out.call hs hr; have k4_0 := hS.c 2 _ rfl; have kf4 := hS.fc; have S4 : Hid (St B rb w.heap.size w2.heap.size w (w4.setCell ⟨w2.heap.size, 2, none⟩ (.string t)) [.int .u8 x.toNat, .string s, .string t, .int .i64 0, .slice none 0 0, .slice none 0 0, .int .u8 0, .slice none 0 0, .int .i64 0, .int .i64 0, .string ⟨#[]⟩, .string ⟨#[]⟩, .slice none 0 0, .slice none 0 0] [.int .u8 0, .string ⟨#[]⟩, .string ⟨#[]⟩, .int .i64 0, .slice none 0 0, .slice none 0 0, .int .u8 0, .slice none 0 0, .int .i64 0, .int .i64 0, .string ⟨#[]⟩, .string ⟨#[]⟩, .slice none 0 0, .slice none 0 0] lc bc) := hide (hS.put 2 (.string t) (by simp)); have HX4 := hide hx; clear hr hs hx hS))
      clear ek
      obtain ⟨WX, hWX⟩ : ∃ WX, WX = (w4.setCell ⟨w2.heap.size, 2, none⟩ (.string t)) := ⟨_, rfl⟩
      rw [← hWX] at S4  ⊢
      clear hWX
      have e0 := S4.out.c 0 _ rfl
      have e1 := S4.out.c 1 _ rfl
      have e2 := S4.out.c 2 _ rfl
      have e3 := S4.out.c 3 _ rfl
      have e4 := S4.out.c 4 _ rfl
      have e5 := S4.out.c 5 _ rfl
      have e6 := S4.out.c 6 _ rfl
      have e7 := S4.out.c 7 _ rfl
      have e8 := S4.out.c 8 _ rfl
      have e9 := S4.out.c 9 _ rfl
      have e10 := S4.out.c 10 _ rfl
      have e11 := S4.out.c 11 _ rfl
      have e12 := S4.out.c 12 _ rfl
      have e13 := S4.out.c 13 _ rfl
      have r0 := S4.out.r 0 _ rfl
      have r1 := S4.out.r 1 _ rfl
      have r2 := S4.out.r 2 _ rfl
      have r3 := S4.out.r 3 _ rfl
      have r4 := S4.out.r 4 _ rfl
      have r5 := S4.out.r 5 _ rfl
      have r6 := S4.out.r 6 _ rfl
      have r7 := S4.out.r 7 _ rfl
      have r8 := S4.out.r 8 _ rfl
      have r9 := S4.out.r 9 _ rfl
      have r10 := S4.out.r 10 _ rfl
      have r11 := S4.out.r 11 _ rfl
      have r12 := S4.out.r 12 _ rfl
      have r13 := S4.out.r 13 _ rfl
      have hfr := S4.out.fr
      have hRE := S4.out.rl
      have hbR := S4.out.rbR
      obtain ⟨wF, hF⟩ : ∃ wF, wF = World.setCells WX w.heap.size 0 [.int .u8 x.toNat, .string s, .string t, .int .i64 0, .slice none 0 0, .slice none 0 0, .int .u8 0, .slice none 0 0, .int .i64 0, .int .i64 0, .string ⟨#[]⟩, .string ⟨#[]⟩, .slice none 0 0, .slice none 0 0] := ⟨_, rfl⟩
      have hR : CellsL wF w.heap.size [.int .u8 x.toNat, .string s, .string t, .int .i64 0, .slice none 0 0, .slice none 0 0, .int .u8 0, .slice none 0 0, .int .i64 0, .int .i64 0, .string ⟨#[]⟩, .string ⟨#[]⟩, .slice none 0 0, .slice none 0 0] := by
        rw [hF]
        have := cellsL_put S4.out.r 0 [.int .u8 x.toNat, .string s, .string t, .int .i64 0, .slice none 0 0, .slice none 0 0, .int .u8 0, .slice none 0 0, .int .i64 0, .int .i64 0, .string ⟨#[]⟩, .string ⟨#[]⟩, .slice none 0 0, .slice none 0 0] (by simp)
        simpa using this
      have HRd : Hid (Rdb B rb wF lc bc) := hide (by rw [hF]; exact S4.out.rd.keep fun b hb => heap_setCellsL w.heap.size (by omega) _ _ _)
      have HSd : Hid (Side rb w wF) := hide (by rw [hF]; exact keep_setCellsL (fun hk => absurd hk.1 (Nat.lt_irrefl _)) _ 0 S4.out.sd)
      have hLt : Late w2.heap.size WX wF := by rw [hF]; exact keep_setCellsL (fun hk => by have := hk.1; omega) _ 0 (Late.refl _ _)
      clear hLt
      simp only [World.setCells, Nat.reduceAdd] at hF
      have HR := hide hR
      have HF := hide hF
      clear hR hF S4 S2 S3
      go_wp2_with fail
      rw [← HF.out]
      clear HF
      have q0 := HR.out 0 _ rfl
      have q1 := HR.out 1 _ rfl
      have q2 := HR.out 2 _ rfl
      have q3 := HR.out 3 _ rfl
      have q4 := HR.out 4 _ rfl
      have q5 := HR.out 5 _ rfl
      have q6 := HR.out 6 _ rfl
      have q7 := HR.out 7 _ rfl
      have q8 := HR.out 8 _ rfl
      have q9 := HR.out 9 _ rfl
      have q10 := HR.out 10 _ rfl
      have q11 := HR.out 11 _ rfl
      have q12 := HR.out 12 _ rfl
      have q13 := HR.out 13 _ rfl
      refine bodyPost_ret (v := .agg #[.int .u8 x.toNat, .string s, .string t, .int .i64 0, .slice none 0 0, .slice none 0 0, .int .u8 0, .slice none 0 0, .int .i64 0, .int .i64 0, .string ⟨#[]⟩, .string ⟨#[]⟩, .slice none 0 0, .slice none 0 0]) ?_ rfl ?_
      · simp only [results, Tryz.results42]
        go_simp
      · have I0 : (bd = false ∧ bd = false ∧ True) ∨ (bd = true ∧ (bd = true ∨ ¬ PatAt l)) := by cases bd <;> simp
        have I1 := fl1 (E2 := l = x :: la) I0 (HX2.out.imp id fun h => ⟨h.2.2, h.1⟩) (fun _ g => g) (fun _ n => .inr (by rw [n]; exact pat_empty))
        have I2 := fl1 (E2 := l = x :: (txtB s ++ lb)) I1 HX3.out (fun e g => by rw [e, g]) (fun e n => .inr (by rw [e]; exact pat_file n))
        have IZ := fl1 (E2 := l = x :: (txtB s ++ (txtB t ++ lc))) I2 HX4.out (fun e g => by rw [e, g]) (fun e n => .inr (by rw [e]; exact patT_no1 Hk3.out Hk4.out hsz n))
        refine ⟨⟨x.toNat, s, t, Hk.zero, Ed.zero⟩, ⟨⟨none, 0, none, 0⟩, ⟨none, 0, none, 0, none, 0⟩⟩, lc, bc, rfl, ⟨hx8, hsz, htz, ptZero.1, ptZero.2⟩, ⟨hx8, hsz, htz, fitZero.1, fitZero.2⟩, (by simp [Bare, Hk3.out, Hk4.out]), HRd.out, HSd.out, by omega, ?_⟩
        rcases IZ with ⟨g1, g2, g3⟩ | h
        · refine .inl ⟨g1, g2, ?_⟩
          rw [g3]
          simp [ptB, Hk3.out, Hk4.out]
        · exact .inr h
    · have Hkk : Hid (x.toNat = 4) := hide (by rw [beq_iff_eq] at hb4; omega)
      go_upto_region 11 with ((go_at_call 99; (with_reducible refine (edit24r_any S3.out.rd (by simp only [lid]; omega)).mono ?_); rintro e w4 ⟨ed, xe, lc, bc, rfl, hin, hef, hr, hs, hle4, hx⟩; have hS := S3.out.call hs hr; have k4_0 := hS.c 6 _ rfl; have k4_1 := hS.c 7 _ rfl; have k4_2 := hS.c 8 _ rfl; have k4_3 := hS.c 9 _ rfl; have k4_4 := hS.c 10 _ rfl; have k4_5 := hS.c 11 _ rfl; have k4_6 := hS.c 12 _ rfl; have k4_7 := hS.c 13 _ rfl; have kf4 := hS.fc; have S4 : Hid (St B rb w.heap.size w2.heap.size w (World.setCells w4 w2.heap.size 6 [.int .u8 ed.kind, .slice xe.pA ed.path.length xe.pc, .int .i64 ed.at_, .int .i64 ed.far, .string ed.frm, .string ed.to, .slice xe.oA ed.old.len xe.oc, .slice xe.nA ed.new.len xe.nc]) [.int .u8 x.toNat, .string s, .string ⟨#[]⟩, .int .i64 0, .slice none 0 0, .slice none 0 0, .int .u8 ed.kind, .slice xe.pA ed.path.length xe.pc, .int .i64 ed.at_, .int .i64 ed.far, .string ed.frm, .string ed.to, .slice xe.oA ed.old.len xe.oc, .slice xe.nA ed.new.len xe.nc] [.int .u8 0, .string ⟨#[]⟩, .string ⟨#[]⟩, .int .i64 0, .slice none 0 0, .slice none 0 0, .int .u8 0, .slice none 0 0, .int .i64 0, .int .i64 0, .string ⟨#[]⟩, .string ⟨#[]⟩, .slice none 0 0, .slice none 0 0] lc bc) := hide (hS.puts 6 [.int .u8 ed.kind, .slice xe.pA ed.path.length xe.pc, .int .i64 ed.at_, .int .i64 ed.far, .string ed.frm, .string ed.to, .slice xe.oA ed.old.len xe.oc, .slice xe.nA ed.new.len xe.nc] (by simp)); have HX4 := hide hx; have hL : Late w2.heap.size (w3.setCell ⟨w2.heap.size, 1, none⟩ (.string s)) (World.setCells w4 w2.heap.size 6 [.int .u8 ed.kind, .slice xe.pA ed.path.length xe.pc, .int .i64 ed.at_, .int .i64 ed.far, .string ed.frm, .string ed.to, .slice xe.oA ed.old.len xe.oc, .slice xe.nA ed.new.len xe.nc]) := (keep_setCellsL (fun hk => absurd hk.1 (Nat.lt_irrefl _)) [.int .u8 ed.kind, .slice xe.pA ed.path.length xe.pc, .int .i64 ed.at_, .int .i64 ed.far, .string ed.frm, .string ed.to, .slice xe.oA ed.old.len xe.oc, .slice xe.nA ed.new.len xe.nc] 6 (Late.side (Late.refl w2.heap.size (w3.setCell ⟨w2.heap.size, 1, none⟩ (.string s))) (by have := S3.out.rbR; have := S3.out.rl; omega) hs)); have hEl := S3.out.el; have HE4 := hide ((hin.mono (S' := fun b => w2.heap.size < b) (fun b _ hb => Nat.lt_of_lt_of_le hEl hb)).late (keep_setCellsL (fun hk => absurd hk.1 (Nat.lt_irrefl _)) [.int .u8 ed.kind, .slice xe.pA ed.path.length xe.pc, .int .i64 ed.at_, .int .i64 ed.far, .string ed.frm, .string ed.to, .slice xe.oA ed.old.len xe.oc, .slice xe.nA ed.new.len xe.nc] 6 (Late.refl w2.heap.size w4))); clear hEl; simp only [World.setCells, Nat.reduceAdd] at S4 hL HE4; have Hef := hide hef; clear hin hef; clear hr hs hx hS hL))
      clear ek
      obtain ⟨WX, hWX⟩ : ∃ WX, WX = ((((((((w4.setCell ⟨w2.heap.size, 6, none⟩ (.int .u8 ed.kind)).setCell ⟨w2.heap.size, 7, none⟩ (.slice xe.pA ed.path.length xe.pc)).setCell ⟨w2.heap.size, 8, none⟩ (.int .i64 ed.at_)).setCell ⟨w2.heap.size, 9, none⟩ (.int .i64 ed.far)).setCell ⟨w2.heap.size, 10, none⟩ (.string ed.frm)).setCell ⟨w2.heap.size, 11, none⟩ (.string ed.to)).setCell ⟨w2.heap.size, 12, none⟩ (.slice xe.oA ed.old.len xe.oc)).setCell ⟨w2.heap.size, 13, none⟩ (.slice xe.nA ed.new.len xe.nc)) := ⟨_, rfl⟩
      rw [← hWX] at S4 HE4 ⊢
      clear hWX
      have e0 := S4.out.c 0 _ rfl
      have e1 := S4.out.c 1 _ rfl
      have e2 := S4.out.c 2 _ rfl
      have e3 := S4.out.c 3 _ rfl
      have e4 := S4.out.c 4 _ rfl
      have e5 := S4.out.c 5 _ rfl
      have e6 := S4.out.c 6 _ rfl
      have e7 := S4.out.c 7 _ rfl
      have e8 := S4.out.c 8 _ rfl
      have e9 := S4.out.c 9 _ rfl
      have e10 := S4.out.c 10 _ rfl
      have e11 := S4.out.c 11 _ rfl
      have e12 := S4.out.c 12 _ rfl
      have e13 := S4.out.c 13 _ rfl
      have r0 := S4.out.r 0 _ rfl
      have r1 := S4.out.r 1 _ rfl
      have r2 := S4.out.r 2 _ rfl
      have r3 := S4.out.r 3 _ rfl
      have r4 := S4.out.r 4 _ rfl
      have r5 := S4.out.r 5 _ rfl
      have r6 := S4.out.r 6 _ rfl
      have r7 := S4.out.r 7 _ rfl
      have r8 := S4.out.r 8 _ rfl
      have r9 := S4.out.r 9 _ rfl
      have r10 := S4.out.r 10 _ rfl
      have r11 := S4.out.r 11 _ rfl
      have r12 := S4.out.r 12 _ rfl
      have r13 := S4.out.r 13 _ rfl
      have hfr := S4.out.fr
      have hRE := S4.out.rl
      have hbR := S4.out.rbR
      obtain ⟨wF, hF⟩ : ∃ wF, wF = World.setCells WX w.heap.size 0 [.int .u8 x.toNat, .string s, .string ⟨#[]⟩, .int .i64 0, .slice none 0 0, .slice none 0 0, .int .u8 ed.kind, .slice xe.pA ed.path.length xe.pc, .int .i64 ed.at_, .int .i64 ed.far, .string ed.frm, .string ed.to, .slice xe.oA ed.old.len xe.oc, .slice xe.nA ed.new.len xe.nc] := ⟨_, rfl⟩
      have hR : CellsL wF w.heap.size [.int .u8 x.toNat, .string s, .string ⟨#[]⟩, .int .i64 0, .slice none 0 0, .slice none 0 0, .int .u8 ed.kind, .slice xe.pA ed.path.length xe.pc, .int .i64 ed.at_, .int .i64 ed.far, .string ed.frm, .string ed.to, .slice xe.oA ed.old.len xe.oc, .slice xe.nA ed.new.len xe.nc] := by
        rw [hF]
        have := cellsL_put S4.out.r 0 [.int .u8 x.toNat, .string s, .string ⟨#[]⟩, .int .i64 0, .slice none 0 0, .slice none 0 0, .int .u8 ed.kind, .slice xe.pA ed.path.length xe.pc, .int .i64 ed.at_, .int .i64 ed.far, .string ed.frm, .string ed.to, .slice xe.oA ed.old.len xe.oc, .slice xe.nA ed.new.len xe.nc] (by simp)
        simpa using this
      have HRd : Hid (Rdb B rb wF lc bc) := hide (by rw [hF]; exact S4.out.rd.keep fun b hb => heap_setCellsL w.heap.size (by omega) _ _ _)
      have HSd : Hid (Side rb w wF) := hide (by rw [hF]; exact keep_setCellsL (fun hk => absurd hk.1 (Nat.lt_irrefl _)) _ 0 S4.out.sd)
      have hLt : Late w2.heap.size WX wF := by rw [hF]; exact keep_setCellsL (fun hk => by have := hk.1; omega) _ 0 (Late.refl _ _)
      have HEF := hide ((HE4.out.late hLt).mono (S' := fun b => w.heap.size ≤ b) (fun b _ hb => by omega))
      clear hLt
      simp only [World.setCells, Nat.reduceAdd] at hF
      have HR := hide hR
      have HF := hide hF
      clear hR hF S4 S2 S3
      go_wp2_with fail
      rw [← HF.out]
      clear HF
      have q0 := HR.out 0 _ rfl
      have q1 := HR.out 1 _ rfl
      have q2 := HR.out 2 _ rfl
      have q3 := HR.out 3 _ rfl
      have q4 := HR.out 4 _ rfl
      have q5 := HR.out 5 _ rfl
      have q6 := HR.out 6 _ rfl
      have q7 := HR.out 7 _ rfl
      have q8 := HR.out 8 _ rfl
      have q9 := HR.out 9 _ rfl
      have q10 := HR.out 10 _ rfl
      have q11 := HR.out 11 _ rfl
      have q12 := HR.out 12 _ rfl
      have q13 := HR.out 13 _ rfl
      refine bodyPost_ret (v := .agg #[.int .u8 x.toNat, .string s, .string ⟨#[]⟩, .int .i64 0, .slice none 0 0, .slice none 0 0, .int .u8 ed.kind, .slice xe.pA ed.path.length xe.pc, .int .i64 ed.at_, .int .i64 ed.far, .string ed.frm, .string ed.to, .slice xe.oA ed.old.len xe.oc, .slice xe.nA ed.new.len xe.nc]) ?_ rfl ?_
      · simp only [results, Tryz.results42]
        go_simp
      · have I0 : (bd = false ∧ bd = false ∧ True) ∨ (bd = true ∧ (bd = true ∨ ¬ PatAt l)) := by cases bd <;> simp
        have I1 := fl1 (E2 := l = x :: la) I0 (HX2.out.imp id fun h => ⟨h.2.2, h.1⟩) (fun _ g => g) (fun _ n => .inr (by rw [n]; exact pat_empty))
        have I2 := fl1 (E2 := l = x :: (txtB s ++ lb)) I1 HX3.out (fun e g => by rw [e, g]) (fun e n => .inr (by rw [e]; exact pat_file n))
        have hk4 : x.toNat = 4 := Hkk.out
        have IZ := fl2 (E2 := l = x :: (txtB s ++ (edB ed ++ lc))) I2 HX4.out (fun e g => by rw [e, g]) (fun e n => .inr (by rw [e]; exact pat4_no1 hk4 hsz n))
        refine ⟨⟨x.toNat, s, ⟨#[]⟩, Hk.zero, ed⟩, ⟨⟨none, 0, none, 0⟩, xe⟩, lc, bc, rfl, ⟨hx8, hsz, by show (0 : Nat) ≤ _; omega, ptZero.1, HEF.out⟩, ⟨hx8, hsz, by show (0 : Nat) ≤ 9223372036854775807; omega, fitZero.1, Hef.out⟩, (by simp [Bare, noTxt, Hkk.out]), HRd.out, HSd.out, by omega, ?_⟩
        rcases IZ with ⟨g1, g2, g3⟩ | h
        · refine .inl ⟨g1, g2, ?_⟩
          rw [g3]
          unfold ptB
          rw [if_neg (by show ¬ x.toNat = 3; omega), if_pos hk4]
          simp
        · exact .inr h
  · have Hkk : Hid (x.toNat = 3) := hide (by rw [beq_iff_eq] at hb3; omega)
    go_upto_region 11 with (first
      | (go_at_call 97; (with_reducible refine (number24r_any S3.out.rd).mono ?_); rintro e w4 ⟨a, lc, bc, rfl, hna, hr, hs, hle4, hx⟩; have hS := S3.out.call hs hr; have k4_0 := hS.c 3 _ rfl; have kf4 := hS.fc; have S4 : Hid (St B rb w.heap.size w2.heap.size w (w4.setCell ⟨w2.heap.size, 3, none⟩ (.int .i64 a)) [.int .u8 x.toNat, .string s, .string ⟨#[]⟩, .int .i64 a, .slice none 0 0, .slice none 0 0, .int .u8 0, .slice none 0 0, .int .i64 0, .int .i64 0, .string ⟨#[]⟩, .string ⟨#[]⟩, .slice none 0 0, .slice none 0 0] [.int .u8 0, .string ⟨#[]⟩, .string ⟨#[]⟩, .int .i64 0, .slice none 0 0, .slice none 0 0, .int .u8 0, .slice none 0 0, .int .i64 0, .int .i64 0, .string ⟨#[]⟩, .string ⟨#[]⟩, .slice none 0 0, .slice none 0 0] lc bc) := hide (hS.put 3 (.int .i64 a) (by simp)); have HX4 := hide hx; have Hna := hide hna; clear hna; clear hr hs hx hS)
      | (go_at_call 98; (with_reducible refine (texts24r_any S4.out.rd (by simp only [lid]; omega)).mono ?_); rintro e w5 ⟨ho, le, be, oA, oc, rfl, hin, ho1, ho2, hr, hs, hle5, hx⟩; have hS := S4.out.call hs hr; have k5_0 := hS.c 4 _ rfl; have kf5 := hS.fc; have S5 : Hid (St B rb w.heap.size w2.heap.size w (w5.setCell ⟨w2.heap.size, 4, none⟩ (.slice oA ho.length oc)) [.int .u8 x.toNat, .string s, .string ⟨#[]⟩, .int .i64 a, .slice oA ho.length oc, .slice none 0 0, .int .u8 0, .slice none 0 0, .int .i64 0, .int .i64 0, .string ⟨#[]⟩, .string ⟨#[]⟩, .slice none 0 0, .slice none 0 0] [.int .u8 0, .string ⟨#[]⟩, .string ⟨#[]⟩, .int .i64 0, .slice none 0 0, .slice none 0 0, .int .u8 0, .slice none 0 0, .int .i64 0, .int .i64 0, .string ⟨#[]⟩, .string ⟨#[]⟩, .slice none 0 0, .slice none 0 0] le be) := hide (hS.put 4 (.slice oA ho.length oc) (by simp)); have HX5 := hide hx; have hL : Late w2.heap.size (w4.setCell ⟨w2.heap.size, 3, none⟩ (.int .i64 a)) (w5.setCell ⟨w2.heap.size, 4, none⟩ (.slice oA ho.length oc)) := (Late.set (Late.side (Late.refl w2.heap.size (w4.setCell ⟨w2.heap.size, 3, none⟩ (.int .i64 a))) (by have := S4.out.rbR; have := S4.out.rl; omega) hs) (a := ⟨w2.heap.size, 4, none⟩) (Nat.le_refl _) (.slice oA ho.length oc)); have hEl := S4.out.el; have HO5 := hide ((hin.mono (S' := fun b => w2.heap.size < b) (fun b _ hb => Nat.lt_of_lt_of_le hEl hb)).late (Late.set (Late.refl w2.heap.size w5) (a := ⟨w2.heap.size, 4, none⟩) (Nat.le_refl _) (.slice oA ho.length oc))); clear hEl; have Hof : Hid (StrsFit ho) := hide ⟨hin.2.1, hin.2.2⟩; clear hin; clear hr hs hx hS hL)
      | (go_at_call 98; (with_reducible refine (texts24r_any S5.out.rd (by simp only [lid]; omega)).mono ?_); rintro e w6 ⟨hn, lf, bf, nA, nc, rfl, hin, hn1, hn2, hr, hs, hle6, hx⟩; have hS := S5.out.call hs hr; have k6_0 := hS.c 5 _ rfl; have kf6 := hS.fc; have S6 : Hid (St B rb w.heap.size w2.heap.size w (w6.setCell ⟨w2.heap.size, 5, none⟩ (.slice nA hn.length nc)) [.int .u8 x.toNat, .string s, .string ⟨#[]⟩, .int .i64 a, .slice oA ho.length oc, .slice nA hn.length nc, .int .u8 0, .slice none 0 0, .int .i64 0, .int .i64 0, .string ⟨#[]⟩, .string ⟨#[]⟩, .slice none 0 0, .slice none 0 0] [.int .u8 0, .string ⟨#[]⟩, .string ⟨#[]⟩, .int .i64 0, .slice none 0 0, .slice none 0 0, .int .u8 0, .slice none 0 0, .int .i64 0, .int .i64 0, .string ⟨#[]⟩, .string ⟨#[]⟩, .slice none 0 0, .slice none 0 0] lf bf) := hide (hS.put 5 (.slice nA hn.length nc) (by simp)); have HX6 := hide hx; have hL : Late w2.heap.size (w5.setCell ⟨w2.heap.size, 4, none⟩ (.slice oA ho.length oc)) (w6.setCell ⟨w2.heap.size, 5, none⟩ (.slice nA hn.length nc)) := (Late.set (Late.side (Late.refl w2.heap.size (w5.setCell ⟨w2.heap.size, 4, none⟩ (.slice oA ho.length oc))) (by have := S5.out.rbR; have := S5.out.rl; omega) hs) (a := ⟨w2.heap.size, 5, none⟩) (Nat.le_refl _) (.slice nA hn.length nc)); have HO6 := hide (HO5.out.late hL); have hEl := S5.out.el; have HN6 := hide ((hin.mono (S' := fun b => w2.heap.size < b) (fun b _ hb => Nat.lt_of_lt_of_le hEl hb)).late (Late.set (Late.refl w2.heap.size w6) (a := ⟨w2.heap.size, 5, none⟩) (Nat.le_refl _) (.slice nA hn.length nc))); clear hEl; have Hnf : Hid (StrsFit hn) := hide ⟨hin.2.1, hin.2.2⟩; clear hin; clear hr hs hx hS hL))
    clear ek
    obtain ⟨WX, hWX⟩ : ∃ WX, WX = (w6.setCell ⟨w2.heap.size, 5, none⟩ (.slice nA hn.length nc)) := ⟨_, rfl⟩
    rw [← hWX] at S6 HO6 HN6 ⊢
    clear hWX
    have e0 := S6.out.c 0 _ rfl
    have e1 := S6.out.c 1 _ rfl
    have e2 := S6.out.c 2 _ rfl
    have e3 := S6.out.c 3 _ rfl
    have e4 := S6.out.c 4 _ rfl
    have e5 := S6.out.c 5 _ rfl
    have e6 := S6.out.c 6 _ rfl
    have e7 := S6.out.c 7 _ rfl
    have e8 := S6.out.c 8 _ rfl
    have e9 := S6.out.c 9 _ rfl
    have e10 := S6.out.c 10 _ rfl
    have e11 := S6.out.c 11 _ rfl
    have e12 := S6.out.c 12 _ rfl
    have e13 := S6.out.c 13 _ rfl
    have r0 := S6.out.r 0 _ rfl
    have r1 := S6.out.r 1 _ rfl
    have r2 := S6.out.r 2 _ rfl
    have r3 := S6.out.r 3 _ rfl
    have r4 := S6.out.r 4 _ rfl
    have r5 := S6.out.r 5 _ rfl
    have r6 := S6.out.r 6 _ rfl
    have r7 := S6.out.r 7 _ rfl
    have r8 := S6.out.r 8 _ rfl
    have r9 := S6.out.r 9 _ rfl
    have r10 := S6.out.r 10 _ rfl
    have r11 := S6.out.r 11 _ rfl
    have r12 := S6.out.r 12 _ rfl
    have r13 := S6.out.r 13 _ rfl
    have hfr := S6.out.fr
    have hRE := S6.out.rl
    have hbR := S6.out.rbR
    obtain ⟨wF, hF⟩ : ∃ wF, wF = World.setCells WX w.heap.size 0 [.int .u8 x.toNat, .string s, .string ⟨#[]⟩, .int .i64 a, .slice oA ho.length oc, .slice nA hn.length nc, .int .u8 0, .slice none 0 0, .int .i64 0, .int .i64 0, .string ⟨#[]⟩, .string ⟨#[]⟩, .slice none 0 0, .slice none 0 0] := ⟨_, rfl⟩
    have hR : CellsL wF w.heap.size [.int .u8 x.toNat, .string s, .string ⟨#[]⟩, .int .i64 a, .slice oA ho.length oc, .slice nA hn.length nc, .int .u8 0, .slice none 0 0, .int .i64 0, .int .i64 0, .string ⟨#[]⟩, .string ⟨#[]⟩, .slice none 0 0, .slice none 0 0] := by
      rw [hF]
      have := cellsL_put S6.out.r 0 [.int .u8 x.toNat, .string s, .string ⟨#[]⟩, .int .i64 a, .slice oA ho.length oc, .slice nA hn.length nc, .int .u8 0, .slice none 0 0, .int .i64 0, .int .i64 0, .string ⟨#[]⟩, .string ⟨#[]⟩, .slice none 0 0, .slice none 0 0] (by simp)
      simpa using this
    have HRd : Hid (Rdb B rb wF lf bf) := hide (by rw [hF]; exact S6.out.rd.keep fun b hb => heap_setCellsL w.heap.size (by omega) _ _ _)
    have HSd : Hid (Side rb w wF) := hide (by rw [hF]; exact keep_setCellsL (fun hk => absurd hk.1 (Nat.lt_irrefl _)) _ 0 S6.out.sd)
    have hLt : Late w2.heap.size WX wF := by rw [hF]; exact keep_setCellsL (fun hk => by have := hk.1; omega) _ 0 (Late.refl _ _)
    have HOF := hide ((HO6.out.late hLt).mono (S' := fun b => w.heap.size ≤ b) (fun b _ hb => by omega))
    have HNF := hide ((HN6.out.late hLt).mono (S' := fun b => w.heap.size ≤ b) (fun b _ hb => by omega))
    clear hLt
    simp only [World.setCells, Nat.reduceAdd] at hF
    have HR := hide hR
    have HF := hide hF
    clear hR hF S6 S2 S3 S4 S5
    go_wp2_with fail
    rw [← HF.out]
    clear HF
    have q0 := HR.out 0 _ rfl
    have q1 := HR.out 1 _ rfl
    have q2 := HR.out 2 _ rfl
    have q3 := HR.out 3 _ rfl
    have q4 := HR.out 4 _ rfl
    have q5 := HR.out 5 _ rfl
    have q6 := HR.out 6 _ rfl
    have q7 := HR.out 7 _ rfl
    have q8 := HR.out 8 _ rfl
    have q9 := HR.out 9 _ rfl
    have q10 := HR.out 10 _ rfl
    have q11 := HR.out 11 _ rfl
    have q12 := HR.out 12 _ rfl
    have q13 := HR.out 13 _ rfl
    refine bodyPost_ret (v := .agg #[.int .u8 x.toNat, .string s, .string ⟨#[]⟩, .int .i64 a, .slice oA ho.length oc, .slice nA hn.length nc, .int .u8 0, .slice none 0 0, .int .i64 0, .int .i64 0, .string ⟨#[]⟩, .string ⟨#[]⟩, .slice none 0 0, .slice none 0 0]) ?_ rfl ?_
    · simp only [results, Tryz.results42]
      go_simp
    · have I0 : (bd = false ∧ bd = false ∧ True) ∨ (bd = true ∧ (bd = true ∨ ¬ PatAt l)) := by cases bd <;> simp
      have I1 := fl1 (E2 := l = x :: la) I0 (HX2.out.imp id fun h => ⟨h.2.2, h.1⟩) (fun _ g => g) (fun _ n => .inr (by rw [n]; exact pat_empty))
      have I2 := fl1 (E2 := l = x :: (txtB s ++ lb)) I1 HX3.out (fun e g => by rw [e, g]) (fun e n => .inr (by rw [e]; exact pat_file n))
      have hk3 : x.toNat = 3 := Hkk.out
      have I3 := fl1 (E2 := l = x :: (txtB s ++ (num8 a ++ lc))) I2 (HX4.out.imp id fun h => ⟨h.2.1, h.1⟩) (fun e g => by rw [e, g]) (fun e n => .inr (by rw [e]; exact pat3_no1 hk3 hsz n))
      have I4 := fl1 (E2 := l = x :: (txtB s ++ (num8 a ++ (txtsB ho ++ le)))) I3 HX5.out (fun e g => by rw [e, g]) (fun e n => .inr (by rw [e]; exact pat3_no2 hk3 hsz Hna.out n))
      have IZ := fl1 (E2 := l = x :: (txtB s ++ (num8 a ++ (txtsB ho ++ (txtsB hn ++ lf))))) I4 HX6.out (fun e g => by rw [e, g]) (fun e n => .inr (by rw [e]; exact pat3_no3 hk3 hsz Hna.out Hof.out n))
      refine ⟨⟨x.toNat, s, ⟨#[]⟩, ⟨a, ho, hn⟩, Ed.zero⟩, ⟨⟨oA, oc, nA, nc⟩, ⟨none, 0, none, 0, none, 0⟩⟩, lf, bf, rfl, ⟨hx8, hsz, by show (0 : Nat) ≤ _; omega, HkIn.of_rows Hna.out HOF.out HNF.out ⟨ho1, ho2⟩ ⟨hn1, hn2⟩, ptZero.2⟩, ⟨hx8, hsz, by show (0 : Nat) ≤ 9223372036854775807; omega, ⟨Hna.out, Hof.out, Hnf.out⟩, fitZero.2⟩, (by simp [Bare, noTxt, Hkk.out]), HRd.out, HSd.out, by omega, ?_⟩
      rcases IZ with ⟨g1, g2, g3⟩ | h
      · refine .inl ⟨g1, g2, ?_⟩
        rw [g3]
        unfold ptB
        rw [if_pos hk3]
        simp
      · exact .inr h

end Go.Proofs.YtfhfkbdaglegpaaGreatDoor

namespace Go.Proofs.YtfhfkbdaglegpaaGreatDoor
open Go.RowKit

def GetPostR (w : World) (l : List UInt8) (e : Ending) (w' : World) : Prop := Below w.heap.size w w' ∧ ((∃ (q : Pt) (y : Ph), PtFit q ∧ PtOk q ∧ l = ptB q ∧ e = .returned (.tuple #[.agg #[.int .u8 q.kind, .string q.file, .string q.text, .int .i64 q.hunk.at_, .slice y.h.oA q.hunk.old.length y.h.oc, .slice y.h.nA q.hunk.new.length y.h.nc, .int .u8 q.edit.kind, .slice y.e.pA q.edit.path.length y.e.pc, .int .i64 q.edit.at_, .int .i64 q.edit.far, .string q.edit.frm, .string q.edit.to, .slice y.e.oA q.edit.old.len y.e.oc, .slice y.e.nA q.edit.new.len y.e.nc], .int .i64 0]) ∧ PtIn (fun b => w.heap.size ≤ b) w' y q) ∨ (¬ PatAt l ∧ e = .returned (.tuple #[.agg #[.int .u8 0, .string ⟨#[]⟩, .string ⟨#[]⟩, .int .i64 0, .slice none 0 0, .slice none 0 0, .int .u8 0, .slice none 0 0, .int .i64 0, .int .i64 0, .string ⟨#[]⟩, .string ⟨#[]⟩, .slice none 0 0, .slice none 0 0], .int .i64 4])))
theorem side_below {w w1 w2 : World} {rb : Nat} (h1 : Below w.heap.size w w1) (hs : Side rb w1 w2) (hrb : w.heap.size ≤ rb) : Below w.heap.size w w2 :=
  h1.trans ⟨hs.os, hs.tape, hs.output, hs.size, fun b hb => hs.block b ⟨Nat.lt_of_lt_of_le hb h1.size, by omega⟩⟩
theorem get_bad {l l' : List UInt8} {q : Pt} (hf : PtFit q) (hb : Bare q) (hl : l = ptB q ++ l') (h : ¬ l' = [] ∨ ¬ PtOk q) : ¬ PatAt l := by
  rw [hl]
  by_cases he : l' = []
  · rw [he, List.append_nil]
    exact pat_wrong hf hb (h.resolve_left fun hn => hn he)
  · exact pat_more hf hb he
set_option maxHeartbeats 8000000 in
set_option maxRecDepth 1000000 in
theorem get24r_any {S : Nat → Prop} {w : World} {A : Option Addr} {c : Nat} {l : List UInt8} (hb : BytesIn S w A l) (hc : l.length ≤ c) (hc2 : c ≤ 9223372036854775807) (hl : l.length ≤ lid) : Calls Tryz.prog 16 #[.slice A l.length c] w (GetPostR w l) := by
  have HR0 : Hid (Rdb w.heap.size (w.heap.size + 1) ((w.alloc (.cells #[.int .u8 0, .string ⟨#[]⟩, .string ⟨#[]⟩, .int .i64 0, .slice none 0 0, .slice none 0 0, .int .u8 0, .slice none 0 0, .int .i64 0, .int .i64 0, .string ⟨#[]⟩, .string ⟨#[]⟩, .slice none 0 0, .slice none 0 0] 32)).alloc (.cells #[.slice A l.length c, .bool false] 104)) l false) := by
    refine hide ⟨by omega, A, c, ?_, ?_, by simp, by simp, ?_, hc, hc2⟩
    · rw [World.cell?_alloc2_new]; rfl
    · rw [World.cell?_alloc2_new]; rfl
    · exact (hb.mono (S' := fun b => b < w.heap.size) fun b h1 _ => h1).keep fun b hb => ((below2 _ _).block b hb)
  clear hb
  go_enter Tryz.func16, Tryz.ntmps16
  go_upto_region 3 with (go_at_call 42; (with_reducible refine (patch24r_any HR0.out hl).mono ?_); rintro e w2 ⟨q, y, l', bd', rfl, hin, hfit, hbare, hr, hs, hle, hx⟩; have HR := hide hr; have HS := hide hs; have HX := hide hx; have Hin := hide hin; have Hfit := hide hfit; have Hbare := hide hbare; clear hr hs hx hin hfit hbare)
  have hs := HS.out
  have hsz : w.heap.size + 2 ≤ w2.heap.size := by have := hs.size; simpa using this
  obtain ⟨WX, hWX⟩ : ∃ WX, WX = w2.alloc (.cells #[.int .u8 q.kind, .string q.file, .string q.text, .int .i64 q.hunk.at_, .slice y.h.oA q.hunk.old.length y.h.oc, .slice y.h.nA q.hunk.new.length y.h.nc, .int .u8 q.edit.kind, .slice y.e.pA q.edit.path.length y.e.pc, .int .i64 q.edit.at_, .int .i64 q.edit.far, .string q.edit.frm, .string q.edit.to, .slice y.e.oA q.edit.old.len y.e.oc, .slice y.e.nA q.edit.new.len y.e.nc] 32) := ⟨_, rfl⟩
  have hq0 : ∀ j v, #[.int .u8 q.kind, .string q.file, .string q.text, .int .i64 q.hunk.at_, .slice y.h.oA q.hunk.old.length y.h.oc, .slice y.h.nA q.hunk.new.length y.h.nc, .int .u8 q.edit.kind, .slice y.e.pA q.edit.path.length y.e.pc, .int .i64 q.edit.at_, .int .i64 q.edit.far, .string q.edit.frm, .string q.edit.to, .slice y.e.oA q.edit.old.len y.e.oc, .slice y.e.nA q.edit.new.len y.e.nc][j]? = some v → WX.cell? ⟨w2.heap.size, j, none⟩ = some v := fun j v hj => by rw [hWX, Lib.cell_of_heap (heap_alloc_new w2 _)]; exact hj
  have hR2 : ∀ j v, #[.int .u8 0, .string ⟨#[]⟩, .string ⟨#[]⟩, .int .i64 0, .slice none 0 0, .slice none 0 0, .int .u8 0, .slice none 0 0, .int .i64 0, .int .i64 0, .string ⟨#[]⟩, .string ⟨#[]⟩, .slice none 0 0, .slice none 0 0][j]? = some v → WX.cell? ⟨w.heap.size, j, none⟩ = some v := fun j v hj => by
    rw [hWX, World.cell?_of_block (a := ⟨w.heap.size, j, none⟩) (heap_alloc_old w2 _ (by show w.heap.size < _; omega)), (hs.box (N := w.heap.size) (by simp; omega) (by omega)).1 j, World.cell?_alloc2_first]
    exact hj
  have hF2 : ∀ o, WX.frozen? ⟨w.heap.size, o, none⟩ = false := fun o => by
    rw [hWX, World.frozen?_of_block (a := ⟨w.heap.size, o, none⟩) (heap_alloc_old w2 _ (by show w.heap.size < _; omega)), (hs.box (N := w.heap.size) (by simp; omega) (by omega)).2.1 o, World.frozen?_alloc2_first]
  have HRX : Hid (Rdb w.heap.size (w.heap.size + 1) WX l' bd') := hide (by rw [hWX]; exact HR.out.alloc _)
  have HinX : Hid (PtIn (fun b => w.heap.size + 2 ≤ b) WX y q) := hide (by rw [hWX]; exact (Hin.out.mono (S' := fun b => w.heap.size + 2 ≤ b) fun b _ hb => by simpa using hb).below (below_alloc _ _))
  have HBX : Hid (Below w.heap.size w WX) := hide (by rw [hWX]; exact (side_below (below2 _ _) hs (by omega)).trans ((below_alloc w2 _).mono (by omega)))
  have hzX : w2.heap.size < WX.heap.size := by rw [hWX]; simp
  obtain ⟨Ar, cr, kr0, kr1, _, _, _, kr5, kr6⟩ := HRX.out.cells
  rw [← hWX]
  clear hWX hs HS HR Hin HR0
  have hl0 : ∀ {p : Addr} {v : Value}, WX.cell? p = some v → ∀ W, Below WX.heap.size WX W → W.cell? p = some v := fun h W hW => (World.cell?_of_block (hW.block _ (block_lt_of_cell h))).trans h
  have e0 := hl0 (hq0 0 _ rfl)
  have e1 := hl0 (hq0 1 _ rfl)
  have e2 := hl0 (hq0 2 _ rfl)
  have e3 := hl0 (hq0 3 _ rfl)
  have e4 := hl0 (hq0 4 _ rfl)
  have e5 := hl0 (hq0 5 _ rfl)
  have e6 := hl0 (hq0 6 _ rfl)
  have e7 := hl0 (hq0 7 _ rfl)
  have e8 := hl0 (hq0 8 _ rfl)
  have e9 := hl0 (hq0 9 _ rfl)
  have e10 := hl0 (hq0 10 _ rfl)
  have e11 := hl0 (hq0 11 _ rfl)
  have e12 := hl0 (hq0 12 _ rfl)
  have e13 := hl0 (hq0 13 _ rfl)
  have r0 := hl0 (hR2 0 _ rfl)
  have r1 := hl0 (hR2 1 _ rfl)
  have r2 := hl0 (hR2 2 _ rfl)
  have r3 := hl0 (hR2 3 _ rfl)
  have r4 := hl0 (hR2 4 _ rfl)
  have r5 := hl0 (hR2 5 _ rfl)
  have r6 := hl0 (hR2 6 _ rfl)
  have r7 := hl0 (hR2 7 _ rfl)
  have r8 := hl0 (hR2 8 _ rfl)
  have r9 := hl0 (hR2 9 _ rfl)
  have r10 := hl0 (hR2 10 _ rfl)
  have r11 := hl0 (hR2 11 _ rfl)
  have r12 := hl0 (hR2 12 _ rfl)
  have r13 := hl0 (hR2 13 _ rfl)
  have hfr : ∀ W, Below WX.heap.size WX W → ∀ o, W.frozen? ⟨w.heap.size, o, none⟩ = false := fun W hW o => (World.frozen?_of_block (a := ⟨w.heap.size, o, none⟩) (hW.block w.heap.size (by omega))).trans (hF2 o)
  have hRz : ∀ W, Below WX.heap.size WX W → CellsL W w.heap.size [.int .u8 0, .string ⟨#[]⟩, .string ⟨#[]⟩, .int .i64 0, .slice none 0 0, .slice none 0 0, .int .u8 0, .slice none 0 0, .int .i64 0, .int .i64 0, .string ⟨#[]⟩, .string ⟨#[]⟩, .slice none 0 0, .slice none 0 0] := fun W hW j u hu => hl0 (hR2 j u (by simpa using hu)) W hW
  have HRz := hide hRz
  have hb0 : Below WX.heap.size WX WX := Below.refl _ _
  clear hl0 hq0 hR2 hF2 hRz
  rcases bd' with _ | _
  · rcases l' with _ | ⟨z, l'⟩
    · have HRt : Hid (Calls Tryz.prog 30 #[.agg #[.int .u8 q.kind, .string q.file, .string q.text, .int .i64 q.hunk.at_, .slice y.h.oA q.hunk.old.length y.h.oc, .slice y.h.nA q.hunk.new.length y.h.nc, .int .u8 q.edit.kind, .slice y.e.pA q.edit.path.length y.e.pc, .int .i64 q.edit.at_, .int .i64 q.edit.far, .string q.edit.frm, .string q.edit.to, .slice y.e.oA q.edit.old.len y.e.oc, .slice y.e.nA q.edit.new.len y.e.nc]] WX fun e1 w' => RetB (PtOk q) e1 ∧ Below WX.heap.size WX w') := hide (patRight19_any HinX.out)
      go_wp2_with (go_at_call 30; (with_reducible refine HRt.out.mono ?_); rintro e1 w3 ⟨⟨_ | _, rfl, hok⟩, hB3⟩ <;> (have Hok := hide hok; have hfr3 := hfr w3 hB3; clear hok))
      · obtain ⟨wF, hF⟩ : ∃ wF, wF = World.setCells w3 w.heap.size 0 [.int .u8 0, .string ⟨#[]⟩, .string ⟨#[]⟩, .int .i64 0, .slice none 0 0, .slice none 0 0, .int .u8 0, .slice none 0 0, .int .i64 0, .int .i64 0, .string ⟨#[]⟩, .string ⟨#[]⟩, .slice none 0 0, .slice none 0 0] := ⟨_, rfl⟩
        have hR : CellsL wF w.heap.size [.int .u8 0, .string ⟨#[]⟩, .string ⟨#[]⟩, .int .i64 0, .slice none 0 0, .slice none 0 0, .int .u8 0, .slice none 0 0, .int .i64 0, .int .i64 0, .string ⟨#[]⟩, .string ⟨#[]⟩, .slice none 0 0, .slice none 0 0] := by
          rw [hF]
          have := cellsL_put (HRz.out w3 hB3) 0 [.int .u8 0, .string ⟨#[]⟩, .string ⟨#[]⟩, .int .i64 0, .slice none 0 0, .slice none 0 0, .int .u8 0, .slice none 0 0, .int .i64 0, .int .i64 0, .string ⟨#[]⟩, .string ⟨#[]⟩, .slice none 0 0, .slice none 0 0] (by simp)
          simpa using this
        have HBF : Hid (Below w.heap.size w wF) := hide (by rw [hF]; exact below_setCellsL (Nat.le_refl _) _ 0 (HBX.out.trans (hB3.mono HBX.out.size)))
        have HPF : Hid (PtIn (fun b => w.heap.size ≤ b) wF y q) := hide (by rw [hF]; exact ((HinX.out.below hB3).keep fun b hb => heap_setCellsL w.heap.size (by omega) _ _ _).mono (S' := fun b => w.heap.size ≤ b) fun b _ hb => by omega)
        simp only [World.setCells, Nat.reduceAdd] at hF
        have HR := hide hR
        clear hR
        rw [← hF]
        clear hF
        have g0 := HR.out 0 _ rfl
        have g1 := HR.out 1 _ rfl
        have g2 := HR.out 2 _ rfl
        have g3 := HR.out 3 _ rfl
        have g4 := HR.out 4 _ rfl
        have g5 := HR.out 5 _ rfl
        have g6 := HR.out 6 _ rfl
        have g7 := HR.out 7 _ rfl
        have g8 := HR.out 8 _ rfl
        have g9 := HR.out 9 _ rfl
        have g10 := HR.out 10 _ rfl
        have g11 := HR.out 11 _ rfl
        have g12 := HR.out 12 _ rfl
        have g13 := HR.out 13 _ rfl
        refine bodyPost_ret (v := .tuple #[.agg #[.int .u8 0, .string ⟨#[]⟩, .string ⟨#[]⟩, .int .i64 0, .slice none 0 0, .slice none 0 0, .int .u8 0, .slice none 0 0, .int .i64 0, .int .i64 0, .string ⟨#[]⟩, .string ⟨#[]⟩, .slice none 0 0, .slice none 0 0], .int .i64 4]) ?_ rfl ?_
        · clear e0 e1 e2 e3 e4 e5 e6 e7 e8 e9 e10 e11 e12 e13 r0 r1 r2 r3 r4 r5 r6 r7 r8 r9 r10 r11 r12 r13
          simp only [results, Tryz.results16]
          go_simp
        · exact ⟨HBF.out, .inr ⟨get_bad Hfit.out Hbare.out (HX.out.elim (fun h => h.2.2) (fun h => by cases h.1)) (.inr fun h => absurd (Hok.out.mpr h) (by decide)), rfl⟩⟩
      · obtain ⟨wF, hF⟩ : ∃ wF, wF = World.setCells w3 w.heap.size 0 [.int .u8 q.kind, .string q.file, .string q.text, .int .i64 q.hunk.at_, .slice y.h.oA q.hunk.old.length y.h.oc, .slice y.h.nA q.hunk.new.length y.h.nc, .int .u8 q.edit.kind, .slice y.e.pA q.edit.path.length y.e.pc, .int .i64 q.edit.at_, .int .i64 q.edit.far, .string q.edit.frm, .string q.edit.to, .slice y.e.oA q.edit.old.len y.e.oc, .slice y.e.nA q.edit.new.len y.e.nc] := ⟨_, rfl⟩
        have hR : CellsL wF w.heap.size [.int .u8 q.kind, .string q.file, .string q.text, .int .i64 q.hunk.at_, .slice y.h.oA q.hunk.old.length y.h.oc, .slice y.h.nA q.hunk.new.length y.h.nc, .int .u8 q.edit.kind, .slice y.e.pA q.edit.path.length y.e.pc, .int .i64 q.edit.at_, .int .i64 q.edit.far, .string q.edit.frm, .string q.edit.to, .slice y.e.oA q.edit.old.len y.e.oc, .slice y.e.nA q.edit.new.len y.e.nc] := by
          rw [hF]
          have := cellsL_put (HRz.out w3 hB3) 0 [.int .u8 q.kind, .string q.file, .string q.text, .int .i64 q.hunk.at_, .slice y.h.oA q.hunk.old.length y.h.oc, .slice y.h.nA q.hunk.new.length y.h.nc, .int .u8 q.edit.kind, .slice y.e.pA q.edit.path.length y.e.pc, .int .i64 q.edit.at_, .int .i64 q.edit.far, .string q.edit.frm, .string q.edit.to, .slice y.e.oA q.edit.old.len y.e.oc, .slice y.e.nA q.edit.new.len y.e.nc] (by simp)
          simpa using this
        have HBF : Hid (Below w.heap.size w wF) := hide (by rw [hF]; exact below_setCellsL (Nat.le_refl _) _ 0 (HBX.out.trans (hB3.mono HBX.out.size)))
        have HPF : Hid (PtIn (fun b => w.heap.size ≤ b) wF y q) := hide (by rw [hF]; exact ((HinX.out.below hB3).keep fun b hb => heap_setCellsL w.heap.size (by omega) _ _ _).mono (S' := fun b => w.heap.size ≤ b) fun b _ hb => by omega)
        simp only [World.setCells, Nat.reduceAdd] at hF
        have HR := hide hR
        clear hR
        rw [← hF]
        clear hF
        have g0 := HR.out 0 _ rfl
        have g1 := HR.out 1 _ rfl
        have g2 := HR.out 2 _ rfl
        have g3 := HR.out 3 _ rfl
        have g4 := HR.out 4 _ rfl
        have g5 := HR.out 5 _ rfl
        have g6 := HR.out 6 _ rfl
        have g7 := HR.out 7 _ rfl
        have g8 := HR.out 8 _ rfl
        have g9 := HR.out 9 _ rfl
        have g10 := HR.out 10 _ rfl
        have g11 := HR.out 11 _ rfl
        have g12 := HR.out 12 _ rfl
        have g13 := HR.out 13 _ rfl
        refine bodyPost_ret (v := .tuple #[.agg #[.int .u8 q.kind, .string q.file, .string q.text, .int .i64 q.hunk.at_, .slice y.h.oA q.hunk.old.length y.h.oc, .slice y.h.nA q.hunk.new.length y.h.nc, .int .u8 q.edit.kind, .slice y.e.pA q.edit.path.length y.e.pc, .int .i64 q.edit.at_, .int .i64 q.edit.far, .string q.edit.frm, .string q.edit.to, .slice y.e.oA q.edit.old.len y.e.oc, .slice y.e.nA q.edit.new.len y.e.nc], .int .i64 0]) ?_ rfl ?_
        · clear e0 e1 e2 e3 e4 e5 e6 e7 e8 e9 e10 e11 e12 e13 r0 r1 r2 r3 r4 r5 r6 r7 r8 r9 r10 r11 r12 r13
          simp only [results, Tryz.results16]
          go_simp
        · exact ⟨HBF.out, .inl ⟨q, y, Hfit.out, Hok.out.mp trivial, by have := HX.out.elim (fun h => h.2.2) (fun h => by cases h.1); simpa using this, rfl, HPF.out⟩⟩
    · go_wp2_with fail
      obtain ⟨wF, hF⟩ : ∃ wF, wF = World.setCells WX w.heap.size 0 [.int .u8 0, .string ⟨#[]⟩, .string ⟨#[]⟩, .int .i64 0, .slice none 0 0, .slice none 0 0, .int .u8 0, .slice none 0 0, .int .i64 0, .int .i64 0, .string ⟨#[]⟩, .string ⟨#[]⟩, .slice none 0 0, .slice none 0 0] := ⟨_, rfl⟩
      have hR : CellsL wF w.heap.size [.int .u8 0, .string ⟨#[]⟩, .string ⟨#[]⟩, .int .i64 0, .slice none 0 0, .slice none 0 0, .int .u8 0, .slice none 0 0, .int .i64 0, .int .i64 0, .string ⟨#[]⟩, .string ⟨#[]⟩, .slice none 0 0, .slice none 0 0] := by
        rw [hF]
        have := cellsL_put (HRz.out WX hb0) 0 [.int .u8 0, .string ⟨#[]⟩, .string ⟨#[]⟩, .int .i64 0, .slice none 0 0, .slice none 0 0, .int .u8 0, .slice none 0 0, .int .i64 0, .int .i64 0, .string ⟨#[]⟩, .string ⟨#[]⟩, .slice none 0 0, .slice none 0 0] (by simp)
        simpa using this
      have HBF : Hid (Below w.heap.size w wF) := hide (by rw [hF]; exact below_setCellsL (Nat.le_refl _) _ 0 (HBX.out.trans (hb0.mono HBX.out.size)))
      have HPF : Hid (PtIn (fun b => w.heap.size ≤ b) wF y q) := hide (by rw [hF]; exact ((HinX.out.below hb0).keep fun b hb => heap_setCellsL w.heap.size (by omega) _ _ _).mono (S' := fun b => w.heap.size ≤ b) fun b _ hb => by omega)
      simp only [World.setCells, Nat.reduceAdd] at hF
      have HR := hide hR
      clear hR
      rw [← hF]
      clear hF
      have g0 := HR.out 0 _ rfl
      have g1 := HR.out 1 _ rfl
      have g2 := HR.out 2 _ rfl
      have g3 := HR.out 3 _ rfl
      have g4 := HR.out 4 _ rfl
      have g5 := HR.out 5 _ rfl
      have g6 := HR.out 6 _ rfl
      have g7 := HR.out 7 _ rfl
      have g8 := HR.out 8 _ rfl
      have g9 := HR.out 9 _ rfl
      have g10 := HR.out 10 _ rfl
      have g11 := HR.out 11 _ rfl
      have g12 := HR.out 12 _ rfl
      have g13 := HR.out 13 _ rfl
      refine bodyPost_ret (v := .tuple #[.agg #[.int .u8 0, .string ⟨#[]⟩, .string ⟨#[]⟩, .int .i64 0, .slice none 0 0, .slice none 0 0, .int .u8 0, .slice none 0 0, .int .i64 0, .int .i64 0, .string ⟨#[]⟩, .string ⟨#[]⟩, .slice none 0 0, .slice none 0 0], .int .i64 4]) ?_ rfl ?_
      · clear e0 e1 e2 e3 e4 e5 e6 e7 e8 e9 e10 e11 e12 e13 r0 r1 r2 r3 r4 r5 r6 r7 r8 r9 r10 r11 r12 r13
        simp only [results, Tryz.results16]
        go_simp
      · exact ⟨HBF.out, .inr ⟨get_bad Hfit.out Hbare.out (HX.out.elim (fun h => h.2.2) (fun h => by cases h.1)) (.inl (by simp)), rfl⟩⟩
  · go_wp2_with fail
    obtain ⟨wF, hF⟩ : ∃ wF, wF = World.setCells WX w.heap.size 0 [.int .u8 0, .string ⟨#[]⟩, .string ⟨#[]⟩, .int .i64 0, .slice none 0 0, .slice none 0 0, .int .u8 0, .slice none 0 0, .int .i64 0, .int .i64 0, .string ⟨#[]⟩, .string ⟨#[]⟩, .slice none 0 0, .slice none 0 0] := ⟨_, rfl⟩
    have hR : CellsL wF w.heap.size [.int .u8 0, .string ⟨#[]⟩, .string ⟨#[]⟩, .int .i64 0, .slice none 0 0, .slice none 0 0, .int .u8 0, .slice none 0 0, .int .i64 0, .int .i64 0, .string ⟨#[]⟩, .string ⟨#[]⟩, .slice none 0 0, .slice none 0 0] := by
      rw [hF]
      have := cellsL_put (HRz.out WX hb0) 0 [.int .u8 0, .string ⟨#[]⟩, .string ⟨#[]⟩, .int .i64 0, .slice none 0 0, .slice none 0 0, .int .u8 0, .slice none 0 0, .int .i64 0, .int .i64 0, .string ⟨#[]⟩, .string ⟨#[]⟩, .slice none 0 0, .slice none 0 0] (by simp)
      simpa using this
    have HBF : Hid (Below w.heap.size w wF) := hide (by rw [hF]; exact below_setCellsL (Nat.le_refl _) _ 0 (HBX.out.trans (hb0.mono HBX.out.size)))
    have HPF : Hid (PtIn (fun b => w.heap.size ≤ b) wF y q) := hide (by rw [hF]; exact ((HinX.out.below hb0).keep fun b hb => heap_setCellsL w.heap.size (by omega) _ _ _).mono (S' := fun b => w.heap.size ≤ b) fun b _ hb => by omega)
    simp only [World.setCells, Nat.reduceAdd] at hF
    have HR := hide hR
    clear hR
    rw [← hF]
    clear hF
    have g0 := HR.out 0 _ rfl
    have g1 := HR.out 1 _ rfl
    have g2 := HR.out 2 _ rfl
    have g3 := HR.out 3 _ rfl
    have g4 := HR.out 4 _ rfl
    have g5 := HR.out 5 _ rfl
    have g6 := HR.out 6 _ rfl
    have g7 := HR.out 7 _ rfl
    have g8 := HR.out 8 _ rfl
    have g9 := HR.out 9 _ rfl
    have g10 := HR.out 10 _ rfl
    have g11 := HR.out 11 _ rfl
    have g12 := HR.out 12 _ rfl
    have g13 := HR.out 13 _ rfl
    refine bodyPost_ret (v := .tuple #[.agg #[.int .u8 0, .string ⟨#[]⟩, .string ⟨#[]⟩, .int .i64 0, .slice none 0 0, .slice none 0 0, .int .u8 0, .slice none 0 0, .int .i64 0, .int .i64 0, .string ⟨#[]⟩, .string ⟨#[]⟩, .slice none 0 0, .slice none 0 0], .int .i64 4]) ?_ rfl ?_
    · clear e0 e1 e2 e3 e4 e5 e6 e7 e8 e9 e10 e11 e12 e13 r0 r1 r2 r3 r4 r5 r6 r7 r8 r9 r10 r11 r12 r13
      simp only [results, Tryz.results16]
      go_simp
    · exact ⟨HBF.out, .inr ⟨HX.out.elim (fun h => by cases h.1) (fun h => h.2.resolve_left (by simp)), rfl⟩⟩

end Go.Proofs.YtfhfkbdaglegpaaGreatDoor
