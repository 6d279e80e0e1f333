/- How many nodes there are: a closure counts. -/
import Derived.Test.YtadilmijppdpoaaGreatDoorProg
import Derived.ArgAppend
import Derived.Laws.Append
import Derived.Lib.ItoaLen
import Derived.Test.YtadilmijppdpoaaGreatDoorTBuild
import Derived.Test.YtadilmijppdpoaaGreatDoorTKeep
import Derived.Test.YtadilmijppdpoaaGreatDoorTBase
import Derived.Test.YtadilmijppdpoaaGreatDoorTLogA

set_option linter.unusedVariables false
set_option linter.unusedSimpArgs false

namespace Go.Proofs.YtadilmijppdpoaaGreatDoor
open Go.RowKit

/-- block g counts, and stands at s -/
def Ctr (g : Nat) (s : Int) (w : World) : Prop := w.cell? ⟨g, 0, none⟩ = some (.int .i64 s) ∧ w.frozen? ⟨g, 0, none⟩ = false
theorem Ctr.lt {g : Nat} {s : Int} {w : World} (h : Ctr g s w) : g < w.heap.size := block_lt_of_cell h.1
theorem Ctr.alloc {g : Nat} {s : Int} {w : World} (h : Ctr g s w) (o : Obj) : Ctr g s (w.alloc o) :=
  ⟨((below_alloc w o).cell (p := ⟨g, 0, none⟩) h.lt).trans h.1, ((World.frozen?_of_block (a := ⟨g, 0, none⟩) ((below_alloc w o).block g h.lt))).trans h.2⟩
theorem Ctr.set {g : Nat} {s : Int} {w : World} (h : Ctr g s w) (t : Int) : Ctr g t (w.setCell ⟨g, 0, none⟩ (.int .i64 t)) :=
  ⟨World.cell?_setCell_same _ _ _ h.1, by rw [World.frozen?_setCell]; exact h.2⟩
theorem ctr_eq {g : Nat} {s t : Int} {w : World} (h : Ctr g s w) (e : s = t) : Ctr g t w := e ▸ h
abbrev Old (w : World) (g : Nat) : Nat → Prop := fun k => k < w.heap.size ∧ k ≠ g

theorem old_self {S : Nat → Prop} {g : Nat} {w : World} : ¬ (S g ∧ Old w g g) := fun h => h.2.2 rfl

set_option maxHeartbeats 1000000 in
theorem size1_any {g k l c : Nat} {t : ByteArray} {n s : Int} {KA : Option Addr} {w : World} (h : Ctr g s w) (hs : 0 ≤ s) (hs2 : s + 1 ≤ 9223372036854775807) :
    Calls Tryz.prog 91 #[.agg #[.int .u8 k, .string t, .int .i64 n, .slice KA l c], .pointer (some ⟨g, 0, none⟩)] w fun e w' => e = .returned (.tuple #[]) ∧ Ctr g (s + 1) w' ∧ Keep (Old w g) w w' := by
  have hg := h.lt
  have H := hide h
  have hc : ∀ o, (w.alloc o).cell? ⟨g, 0, none⟩ = some (.int .i64 s) := fun o => (H.out.alloc o).1
  have hf : ∀ o, (w.alloc o).frozen? ⟨g, 0, none⟩ = false := fun o => (H.out.alloc o).2
  clear h
  go_enter Tryz.func91, Tryz.ntmps91
  go_wp2_with fail
  go_end0
  refine ⟨rfl, ?_, ?_⟩
  · exact (H.out.set _).alloc _
  · exact ((Keep.refl (Old w g) w).setCell (a := ⟨g, 0, none⟩) (fun h => h.2 rfl) _).alloc (fun k hk => hk.1) _

theorem cnt_drop {f : Fo} {i k : Nat} {t : ByteArray} {n : Int} {ks r : Fo} (h : f.drop i = .cons k t n ks r) : f.drop (i + 1) = r := by
  induction i generalizing f with
  | zero =>
    have h0 : f = .cons k t n ks r := by simpa [Fo.drop] using h
    subst h0
    simp [Fo.drop]
  | succ i ih =>
    cases f with
    | nil => simp [Fo.drop] at h
    | cons _ _ _ _ r' => exact ih (by simpa [Fo.drop] using h)
theorem cnt_le {f : Fo} : ∀ {i : Nat}, cntNodes (f.drop i) ≤ cntNodes f := by
  induction f with
  | nil => intro i; cases i <;> simp [Fo.drop]
  | cons k t n ks r _ ih =>
    intro i
    cases i with
    | zero => simp [Fo.drop]
    | succ i => simp only [Fo.drop, cntNodes]; have := ih (i := i); omega
theorem drop_len {f : Fo} : f.drop f.len = .nil := by
  induction f with
  | nil => rfl
  | cons k t n ks r _ ih => simpa [Fo.len, Fo.drop] using ih

set_option maxRecDepth 100000 in
set_option maxHeartbeats 1000000 in
theorem each_upto (N : Nat) : ∀ (S : Nat → Prop) (A : Option Addr) (c g : Nat) (f : Fo) (s : Int) (w : World), f.cnt < N → FoIn S w A f → ¬ S g → f.len ≤ 9223372036854775807 → Ctr g s w → 0 ≤ s → s + cntNodes f ≤ 9223372036854775807 →
    Calls Tryz.prog 90 #[.func (.func 91) #[] #[.pointer (some ⟨g, 0, none⟩)], .slice A f.len c] w fun e w' => e = .returned (.tuple #[]) ∧ Ctr g (s + cntNodes f) w' ∧ Keep (Old w g) w w' := by
  induction N with
  | zero => intro _ _ _ _ _ _ _ h; omega
  | succ N ih =>
    intro S A c g f s w hN hf hSg hlf hctr hs0 hs1
    have Hih := hide ih
    have HN := hide hN
    have Hf := hide (hf.mono (S' := fun b => S b ∧ Old w g b) fun b hb hS => ⟨hS, hb, fun e => hSg (e ▸ hS)⟩)
    have HSg := hide hSg
    have HC := hide hctr
    have Hs1 := hide hs1
    clear ih hN hf hctr hSg hs1
    go_enter Tryz.func90, Tryz.ntmps90
    go_wp2_with fail
    go_loopw [8] (fun i wr => ∃ k : Nat, k ≤ f.len ∧ i = .int .i64 k ∧ Hid (Keep (Old w g) w wr) ∧ Hid (Ctr g (s + cntNodes f - cntNodes (f.drop k)) wr)) (fun i _ => f.len - (intOf i).toNat)
    case atStart => exact ⟨0, Nat.zero_le _, rfl, hide (Keep.refl _ _), hide (by have := HC.out; simpa [Fo.drop] using this)⟩
    case round =>
      obtain ⟨i, hi, rfl, HK, HR⟩ := hrel
      by_cases hlt : i < f.len
      · have Hf2 := (Hf.out.keep (w' := wr) fun b hb => HK.out.block b hb.2)
        obtain ⟨b, o, KA, kc, k, t, n, ks, r, rfl, hdf, c0, c1, c2, c3, e1, e2, e3, e4, e5, hks, hcnt⟩ := Hf2.at_ hlt
        have hsz := HK.out.size
        have hgl := HC.out.lt
        have Hks := hide hks
        have Hdf := hide hdf
        have Hc := hide hcnt
        have hd : cntNodes (f.drop i) = 1 + cntNodes ks + cntNodes r := by rw [hdf, cntNodes]
        have hle : cntNodes (f.drop i) ≤ cntNodes f := cnt_le
        have hnx : f.drop (i + 1) = r := cnt_drop hdf
        have Hle := hide hle
        have Hd := hide hd
        have Hnx := hide hnx
        clear hks hdf hcnt Hf2 hd hle hnx
        go_wp2_with (first
          | (go_at_call 91; (with_reducible refine (size1_any (HR.out.alloc _) (by have := Hle.out; omega) (by have := Hle.out; have := Hd.out; have := Hs1.out; omega)).mono ?_); rintro e1' w1 ⟨rfl, hC1, hK1⟩; have HC1 := hide hC1; have HK1 := hide (((Keep.refl (Old wr g) wr).alloc (fun k hk => hk.1) _).trans (hK1.mono fun k hk => ⟨by simp; have := hk.1; omega, hk.2⟩)); have hbox := (hK1.box (N := wr.heap.size) ⟨by simp, by omega⟩).1; have hs1 := HK1.out.size; have Hks1 := hide ((Hks.out.alloc _).keep (fun b hb => hK1.block b ⟨by simp; have := hb.2.1; omega, hb.2.2⟩)); clear hC1 hK1)
          | (go_at_call 90; (with_reducible refine (Hih.out (fun b => S b ∧ Old w g b) KA kc g ks _ _ (by have := Hc.out; have := HN.out; omega) Hks1.out old_self (by omega) HC1.out (by have := Hle.out; omega) (by have := Hle.out; have := Hd.out; have := Hs1.out; omega)).mono ?_); rintro e2' w2 ⟨rfl, hC2, hK2⟩; have HC2 := hide hC2; have HK2 := hide ((HK.out.trans ((HK1.out.trans (hK2.mono fun k hk => ⟨by have := hk.1; omega, hk.2⟩)).mono fun k hk => ⟨by have := hk.1; omega, hk.2⟩))); clear hC2 hK2))
        go_roundw
        case rel => exact ⟨i + 1, by omega, by go_num, HK2, hide (ctr_eq HC2.out (by have h1 := Hd.out; have h2 := Hnx.out; rw [h2]; omega))⟩
        case measure => simp [intOf]; omega
      · have hie : i = f.len := by omega
        subst hie
        go_wp2_with fail
        go_end0
        exact ⟨rfl, by have := HR.out; rw [drop_len] at this; simpa [cntNodes] using this, HK.out⟩

theorem fo_new {S : Nat → Prop} {w : World} {KA : Option Addr} {k c : Nat} {t : ByteArray} {n : Int} {ks : Fo} (T : TypeId) (hS : S w.heap.size) (hk : k < 256) (ht : t.size ≤ 9223372036854775807) (hn : isInt64 n) (hc : ks.len ≤ c) (hc2 : c ≤ 9223372036854775807) (h : FoIn S w KA ks) :
    FoIn S (w.alloc (.cells #[.int .u8 k, .string t, .int .i64 n, .slice KA ks.len c] T)) (some ⟨w.heap.size, 0, none⟩) (.cons k t n ks .nil) := by
  have hh := heap_alloc_new w (.cells #[.int .u8 k, .string t, .int .i64 n, .slice KA ks.len c] T)
  refine ⟨w.heap.size, 0, KA, c, rfl, hS, ?_, ?_, ?_, ?_, hk, ht, hn, hc, hc2, h.alloc _, trivial⟩ <;> (rw [Lib.cell_of_heap hh]; rfl)
theorem ctr_new (w : World) : Ctr w.heap.size 0 ((w.alloc (.cells #[.int .i64 0] 3))) :=
  have hh := heap_alloc_new w (.cells #[.int .i64 0] 3)
  ⟨by rw [Lib.cell_of_heap hh]; rfl, by unfold World.frozen?; rw [hh]; rfl⟩

theorem each_one {S : Nat → Prop} {w W : World} {KA : Option Addr} {k c : Nat} {t : ByteArray} {n : Int} {ks : Fo} (o1 : Obj) (h : FoIn S w KA ks) (hk : k < 256) (ht : t.size ≤ 9223372036854775807) (hn : isInt64 n) (hc : ks.len ≤ c) (hc2 : c ≤ 9223372036854775807) (hs : 1 + cntNodes ks ≤ 9223372036854775807)
    (hW : W = ((w.alloc o1).alloc (.cells #[.int .i64 0] 3)).alloc (.cells #[.int .u8 k, .string t, .int .i64 n, .slice KA ks.len c] 46)) :
    Calls Tryz.prog 90 #[.func (.func 91) #[] #[.pointer (some ⟨w.heap.size + 1, 0, none⟩)], .slice (some ⟨w.heap.size + 1 + 1, 0, none⟩) 1 1] W fun e w' => e = .returned (.tuple #[]) ∧ w'.cell? ⟨w.heap.size + 1, 0, none⟩ = some (.int .i64 ((1 + cntNodes ks : Nat) : Int)) ∧ Below w.heap.size w w' := by
  have H := h.mono (S' := fun b => b < w.heap.size ∨ b = w.heap.size + 2) fun b hb _ => .inl hb
  have h1 := fo_new (w := (w.alloc o1).alloc (.cells #[.int .i64 0] 3)) 46 (.inr (by simp)) hk ht hn hc hc2 ((H.alloc _).alloc _)
  have h2 := (ctr_new (w.alloc o1)).alloc (.cells #[.int .u8 k, .string t, .int .i64 n, .slice KA ks.len c] 46)
  have hz : ∀ (w : World) (o : Obj), (w.alloc o).heap.size = w.heap.size + 1 := fun w o => by simp
  rw [hz, hz] at h1
  rw [hz] at h2
  rw [← hW] at h1 h2
  have hg : ¬ (fun b => b < w.heap.size ∨ b = w.heap.size + 2) (w.heap.size + 1) := by simp only; omega
  refine (each_upto ((Fo.cons k t n ks .nil).cnt + 1) _ _ 1 _ (.cons k t n ks .nil) 0 W (Nat.lt_succ_self _) h1 hg (by simp [Fo.len]) h2 (by omega) (by simp only [cntNodes]; omega)).mono ?_
  rintro e w' ⟨rfl, hC, hK⟩
  refine ⟨rfl, ?_, ?_⟩
  · rw [hC.1]
    simp [cntNodes]
  · have hb : Below w.heap.size w W := by rw [hW]; exact ((below_alloc w _).alloc (by simp) _).alloc (by simp; omega) _
    have hs := hb.size
    have hW2 : W.heap.size = w.heap.size + 3 := by rw [hW]; simp
    exact hb.trans ⟨hK.os, hK.tape, hK.output, hK.size, fun j hj => hK.block j ⟨by omega, by omega⟩⟩

set_option maxHeartbeats 1000000 in
theorem size_any {S : Nat → Prop} {w : World} {KA : Option Addr} {k c : Nat} {t : ByteArray} {n : Int} {ks : Fo} (h : FoIn S w KA ks) (hk : k < 256) (ht : t.size ≤ 9223372036854775807) (hn : isInt64 n) (hc : ks.len ≤ c) (hc2 : c ≤ 9223372036854775807) (hs : 1 + cntNodes ks ≤ 9223372036854775807) :
    Calls Tryz.prog 63 #[.agg #[.int .u8 k, .string t, .int .i64 n, .slice KA ks.len c]] w fun e w' => e = .returned (.int .i64 ((1 + cntNodes ks : Nat) : Int)) ∧ Below w.heap.size w w' := by
  have hmf : ∀ (fn : Fn) (first cap : Array Value) (w : World), (Instr.makeFunc fn first cap).run Tryz.prog w = .ok (.func fn first cap) w := fun _ _ _ _ => rfl
  have H := hide h
  have Hn := hide hn
  clear h hn
  go_enter Tryz.func63, Tryz.ntmps63
  go_wp2_with (first
    | (go_at_call 90; (with_reducible refine (each_one _ H.out hk ht Hn.out hc hc2 hs rfl).mono ?_); rintro e1 w1 ⟨rfl, hC1, hK⟩; have HK := hide hK; clear hK))
  go_ret
  exact ⟨rfl, HK.out⟩

end Go.Proofs.YtadilmijppdpoaaGreatDoor

namespace Go.Proofs.YtadilmijppdpoaaGreatDoor
open Go.RowKit

/-- a block that came in, or that holds nodes -/
def Safe (B : Nat) (w : World) (k : Nat) : Prop := k < B ∨ ∃ cs fz, w.heap[k]? = some (.cells cs 46 fz)
theorem Safe.same {B b k : Nat} {w w' : World} (h : Safe B w k) (hb : Below B w w') (hk : Lib.OthersKept 5 (some b) w w') (hne : ∀ cs fz, w.heap[b]? ≠ some (.cells cs 46 fz)) : w'.heap[k]? = w.heap[k]? := by
  rcases h with h | ⟨cs, fz, h⟩
  · exact hb.block k h
  · rw [h]
    exact hk k _ h (fun e => hne cs fz (by rw [← Option.some.inj e]; exact h)) (fun c f e => by injection e with _ e2 _; exact absurd e2 (by decide))
theorem FoIn.safe {B b : Nat} {w w' : World} {A : Option Addr} {f : Fo} (h : FoIn (Safe B w) w A f) (hb : Below B w w') (hk : Lib.OthersKept 5 (some b) w w') (hne : ∀ cs fz, w.heap[b]? ≠ some (.cells cs 46 fz)) : FoIn (Safe B w') w' A f := by
  have h1 : FoIn (Safe B w) w' A f := h.keep fun k hS => hS.same hb hk hne
  refine h1.mono fun k _ hS => ?_
  have := hS.same hb hk hne
  rcases hS with h | ⟨cs, fz, h⟩
  · exact .inl h
  · exact .inr ⟨cs, fz, by rw [this]; exact h⟩
theorem line_block {B b : Nat} {l : List Value} {w : World} (h : IsLine B b l w) : (∀ cs fz, w.heap[b]? ≠ some (.cells cs 46 fz)) ∧ B ≤ b ∧ b < w.heap.size := by
  have key : ∀ p, LineAt B b p l w → (∀ cs fz, w.heap[b]? ≠ some (.cells cs 46 fz)) ∧ B ≤ b ∧ b < w.heap.size := by
    rintro p ⟨hB, v, hb, _⟩
    refine ⟨fun cs fz e => ?_, hB, (Array.getElem?_eq_some_iff.1 hb).1⟩
    rw [hb] at e
    injection e with e
    injection e with _ e2 _
    exact absurd e2 (by decide)
  rcases h with h | h
  · exact key _ h
  · exact key _ h

theorem fo_nil {f : Fo} (h : f.len = 0) : f = .nil := by
  cases f with
  | nil => rfl
  | cons => simp [Fo.len] at h
theorem fo_none {S : Nat → Prop} {w : World} {f : Fo} (h : FoIn S w none f) : f = .nil := by
  cases f with
  | nil => rfl
  | cons => obtain ⟨_, _, _, _, e, _⟩ := h; cases e
theorem fo_app {S : Nat → Prop} {w : World} : ∀ {f g : Fo} {vs us : List Value}, FoCells S w vs f → FoCells S w us g → FoCells S w (vs ++ us) (f.app g) := by
  intro f
  induction f with
  | nil => intro g vs us h hg; subst h; exact hg
  | cons k t n ks r _ ih =>
    rintro g vs us ⟨KA, c, vs', rfl, g1, g2, g3, g4, g5, g6, g7⟩ hg
    exact ⟨KA, c, _, rfl, g1, g2, g3, g4, g5, g6, ih g7 hg⟩
theorem la_n : Tryz.prog.underlying 33 = some (.slice 46) := by kernel_rfl
theorem rd_some {S : Nat → Prop} {w : World} {a : Addr} {xs : List Value} (h : Rd S w (some a) xs) : ∀ j u, xs[j]? = some u → w.cell? (a.add j) = some u := by
  intro j u hu
  rcases h with rfl | ⟨b, o, e, _, hc⟩
  · simp at hu
  · injection e with e
    subst e
    rw [Addr.add_lit]
    exact hc j u hu

theorem edit_append {B nc : Nat} {w : World} {oA nA : Option Addr} {fo fn : Fo} (ho : FoIn (fun k => k < B) w oA fo) (hn : FoIn (fun k => k < B) w nA fn) (hBw : B ≤ w.heap.size) (hl : (fo.len + fn.len) * 56 ≤ 140737488355328) (ty : TypeId) :
    ∃ A c w', (Builtin.append_ #[33, 33] ty #[.slice oA fo.len fo.len, .slice nA fn.len nc]).run Tryz.prog w = .ok (.slice A (fo.app fn).len c) w' ∧ FoIn (Safe B w') w' A (fo.app fn) ∧ Below w.heap.size w w' := by
  obtain ⟨i0, hi, hz0, hz1, hz2⟩ := info_parts InfoNode
  have hlen := Fo.len_app fo fn
  rw [hlen]
  by_cases h0 : fn.len = 0
  · have hnil := fo_nil h0
    subst hnil
    refine ⟨oA, fo.len, w, ?_, ?_, Below.refl _ _⟩
    · rcases oA with _ | ⟨b, o, p⟩
      · have := fo_none ho
        subst this
        rcases nA with _ | a
        · simp [Builtin.append_, run_underlying la_n, sizeOf, typeInfo, hi, Builtin.lenOf, Builtin.firstCells, loadCells, loadCellsFrom, Fo.len]
        · simp [Builtin.append_, run_underlying la_n, sizeOf, typeInfo, hi, Builtin.lenOf, Builtin.firstCells, loadCells, loadCellsFrom, Fo.len]
      · rcases nA with _ | a
        · simp [Builtin.append_, run_underlying la_n, sizeOf, typeInfo, hi, Builtin.lenOf, Builtin.firstCells, loadCells, storeCells, Fo.len]
        · simp [Builtin.append_, run_underlying la_n, sizeOf, typeInfo, hi, Builtin.lenOf, Builtin.firstCells, loadCells, loadCellsFrom, storeCells, Fo.len]
    · rw [Fo.app_nil]
      exact ho.mono fun k _ hk => .inl hk
  · obtain ⟨us, hu1, hu2, hu3, hu4⟩ := hn.row
    rcases nA with _ | na
    · have := fo_none hn
      subst this
      exact absurd rfl h0
    · have hfin : ∀ (v' : Value) (w' : World) (vs : List Value), FoCells (fun k => k < B) w vs fo → vs.length = fo.len * 4 → w'.ownsRow w.heap.size 46 4 v' (fo.len + fn.len) (vs ++ us) → Below w.heap.size w w' →
          ∃ A c, v' = .slice A (fo.len + fn.len) c ∧ FoIn (Safe B w') w' A (fo.app fn) := by
        intro v' w' vs hv hvl hown hb
        rcases hown.2 with ⟨rfl, h1⟩ | ⟨g, cap, cur, rfl, hbg, hg, hr⟩
        · exact absurd h1 (by omega)
        · refine ⟨_, _, rfl, ?_⟩
          have hc := FoCells.keep (S' := fun k => k < B) (w' := w') (fun b hb1 _ => hb.block b hb1) (fun _ _ h => h) (fo_app hv hu1)
          refine (FoCells.top (R := g) hc fun j u hu => ?_).fo (.inr ⟨_, _, hg⟩) fun k hk => .inl hk
          have := hown.cells (g := g) rfl j u hu
          rwa [Addr.add_lit] at this
      rcases oA with _ | oa
      · have := fo_none ho
        subst this
        obtain ⟨v', w', hrun, hown, hgr, _⟩ := run_append_own (P := Tryz.prog) w w.heap.size 33 ty 46 i0 _ 4 56 la_n hi hz0 hz1 hz2 rfl (by decide) (.slice none 0 0) 0 [] (World.ownsRow_nil _ _ _ _) na fn.len nc us hu3 (rd_some hu2) hu4 (by unfold maxLen; omega) (by omega) (Nat.le_refl _)
        have hb : Below w.heap.size w w' := (Below.refl _ _).grown hgr (Nat.le_refl _) (by intro k hk; cases hk)
        obtain ⟨A, c, rfl, hf⟩ := hfin v' w' [] rfl rfl (by simpa [Fo.len] using hown) hb
        exact ⟨A, c, w', hrun, hf, hb⟩
      · obtain ⟨vs, hv1, hv2, hv3, hv4⟩ := ho.row
        obtain ⟨v', w', hrun, hown, hgr⟩ := run_append_arg_grows (P := Tryz.prog) w 33 ty 46 i0 _ 4 56 la_n hi hz0 hz1 hz2 rfl (by decide) oa fo.len fo.len vs hv3 (rd_some hv2) na fn.len nc us hu3 (rd_some hu2) (by omega) (by unfold maxLen; omega) hl
        have hb : Below w.heap.size w w' := (Below.refl _ _).grown hgr (Nat.le_refl _) (by intro k hk; cases hk)
        obtain ⟨A, c, rfl, hf⟩ := hfin v' w' vs hv1 hv3 hown hb
        exact ⟨A, c, w', hrun, hf, hb⟩

end Go.Proofs.YtadilmijppdpoaaGreatDoor

namespace Go.Proofs.YtadilmijppdpoaaGreatDoor
open Go

theorem puts_tail : ∀ (ws : List ByteArray) (l : List UInt8), l ≠ [] → putsB l ws = l ++ Lib.joinTail [32] (ws.map (·.data.toList))
  | [], l, _ => by simp [putsB, Lib.joinTail]
  | s :: ws, l, h => by
    have e2 : putsB l (s :: ws) = putsB (putB l s.data.toList) ws := rfl
    have e3 : putB l s.data.toList = l ++ 32 :: s.data.toList := by unfold putB; rw [if_neg h]
    rw [e2, e3, puts_tail ws _ (by simp)]
    simp [Lib.joinTail]
theorem puts_join {s : ByteArray} (ws : List ByteArray) (h : s.data.toList ≠ []) : putsB [] (s :: ws) = Lib.join ((s :: ws).map (·.data.toList)) [32] := by
  have e : putsB [] (s :: ws) = putsB s.data.toList ws := rfl
  rw [e, puts_tail ws _ h, List.map_cons, Lib.join_cons]
theorem puts_app (l : List UInt8) (a b : List ByteArray) : putsB (putsB l a) b = putsB l (a ++ b) := by simp [putsB]
theorem roomB_app (a b : List ByteArray) : roomB (a ++ b) = roomB a + roomB b := by simp only [roomB, List.map_append, List.sum_append]


/-- of each node of a row how many there are in it -/
def sizesN : Fo → List Int
  | .nil => []
  | .cons _ _ _ ks r => ((1 + cntNodes ks : Nat) : Int) :: sizesN r
theorem sizesN_len : ∀ f : Fo, (sizesN f).length = f.len
  | .nil => rfl
  | .cons _ _ _ _ r => by simp [sizesN, Fo.len, sizesN_len r]
theorem sizesN_app : ∀ f g : Fo, sizesN (f.app g) = sizesN f ++ sizesN g
  | .nil, g => rfl
  | .cons _ _ _ _ r, g => by simp [sizesN, Fo.app, sizesN_app r g]
theorem sizesW_map : ∀ f : Fo, sizesW f = (sizesN f).map Lib.itoa
  | .nil => rfl
  | .cons _ _ _ _ r => by simp [sizesN, sizesW, sizesW_map r]
theorem sizesN_at : ∀ {f : Fo} {q k : Nat} {t : ByteArray} {n : Int} {ks r : Fo}, f.drop q = .cons k t n ks r → (sizesN f).take (q + 1) = (sizesN f).take q ++ [((1 + cntNodes ks : Nat) : Int)]
  | .nil, q, k, t, n, ks, r, h => by cases q <;> simp [Fo.drop] at h
  | .cons k' t' n' ks' r', 0, k, t, n, ks, r, h => by
    simp only [Fo.drop] at h
    injection h with _ _ _ h4 _
    subst h4
    simp [sizesN]
  | .cons k' t' n' ks' r', q + 1, k, t, n, ks, r, h => by
    have := sizesN_at (f := r') (q := q) (by simpa [Fo.drop] using h)
    simp only [sizesN, List.take_succ_cons, this, List.cons_append]
def numsN (e : Ed) : List Int := if e.kind = 5 then [e.at_, e.far] else if e.kind = 2 ∨ e.kind = 3 then [e.at_] else []
theorem numsW_map (e : Ed) : numsW e = (numsN e).map Lib.itoa := by
  unfold numsW numsN
  repeat' split
  all_goals rfl
abbrev wordS (k : Nat) : ByteArray := ⟨(wordOf k).toArray⟩
def treeS (file : ByteArray) (e : Ed) : List ByteArray :=
  [wordS e.kind, file, dotS e.path] ++ (if e.kind = 1 then [e.frm, e.to] else (numsN e ++ (sizesN e.old ++ sizesN e.new)).map itoaS)
theorem treeS_list (file : ByteArray) (e : Ed) : (treeS file e).map (·.data.toList) = treeW file e := by
  have h : ∀ l : List Int, (l.map itoaS).map (·.data.toList) = l.map Lib.itoa := by intro l; simp
  unfold treeS treeW
  rw [numsW_map, sizesW_map, sizesW_map]
  split
  · simp [wordS, dotS]
  · rw [List.map_append, h]
    simp [wordS, dotS]
/-- the words of a right patch's line -/
def lineS (p : Pt) : List ByteArray :=
  if p.kind = 1 then [⟨#[97, 100, 100]⟩, p.file] ++ ([p.text.size] : List Int).map itoaS
  else if p.kind = 2 then [⟨#[114, 101, 109, 111, 118, 101]⟩, p.file] ++ ([p.text.size] : List Int).map itoaS
  else if p.kind = 3 then [⟨#[108, 105, 110, 101, 115]⟩, p.file] ++ ([p.hunk.at_, p.hunk.old.length, p.hunk.new.length] : List Int).map itoaS
  else treeS p.file p.edit
theorem lineS_list (p : Pt) : (lineS p).map (·.data.toList) = lineW p := by
  unfold lineS lineW
  repeat' split
  · simp [itoaS]
  · simp [itoaS]
  · simp [itoaS]
  · exact treeS_list _ _

end Go.Proofs.YtadilmijppdpoaaGreatDoor

namespace Go.Proofs.YtadilmijppdpoaaGreatDoor
open Go

theorem itoaS_size {n : Int} (h : isInt64 n) : (itoaS n).size ≤ 21 := by
  have := Lib.itoa_length_le n h.1 h.2
  simpa [itoaS, ByteArray.size] using this
theorem room_nums : ∀ ns : List Int, (∀ n ∈ ns, isInt64 n) → roomB (ns.map itoaS) ≤ 22 * ns.length
  | [], _ => by simp [roomB]
  | n :: ns, h => by
    have h1 := itoaS_size (h n (by simp))
    have h2 := room_nums ns (fun m hm => h m (by simp [hm]))
    have e : roomB ((n :: ns).map itoaS) = ((itoaS n).size + 1) + roomB (ns.map itoaS) := by unfold roomB; rw [List.map_cons, List.map_cons, List.sum_cons]
    rw [e, List.length_cons]
    omega
theorem cnt_foB : ∀ f : Fo, 8 * cntNodes f ≤ (foB f).length
  | .nil => by simp [cntNodes]
  | .cons k t n ks r => by
    have h1 := cnt_foB ks
    have h2 := cnt_foB r
    have h8 : ∀ n : Int, (num8 n).length = 8 := fun n => rfl
    simp only [cntNodes, foB, List.length_cons, List.length_append, h8]
    omega
theorem sizesN_in : ∀ f : Fo, (foB f).length ≤ 549755813888 → ∀ n ∈ sizesN f, isInt64 n
  | .nil, _, n, h => by cases h
  | .cons k t m ks r, hl, n, h => by
    have h1 := cnt_foB ks
    have e : (foB (.cons k t m ks r)).length = 1 + (txtB t).length + 16 + (foB ks).length + (foB r).length := by
      have h8 : ∀ n : Int, (num8 n).length = 8 := fun n => rfl
      simp only [foB, List.length_cons, List.length_append, h8]
      omega
    rcases List.mem_cons.1 h with rfl | h
    · unfold isInt64
      omega
    · exact sizesN_in r (by omega) n h
theorem tail_len (ns : List Int) (h : ∀ n ∈ ns, isInt64 n) : (Lib.joinTail [46] (ns.map Lib.itoa)).length ≤ 22 * ns.length := by
  induction ns with
  | nil => simp [Lib.joinTail]
  | cons n ns ih =>
    have h1 := Lib.itoa_length_le n (h n (by simp)).1 (h n (by simp)).2
    have h2 := ih (fun m hm => h m (by simp [hm]))
    have e : Lib.joinTail [46] ((n :: ns).map Lib.itoa) = 46 :: (Lib.itoa n ++ Lib.joinTail [46] (ns.map Lib.itoa)) := by simp [Lib.joinTail]
    rw [e]
    simp only [List.length_cons, List.length_append]
    omega
theorem dotW_len (p : List Int) (h : ∀ n ∈ p, isInt64 n) : (dotW p).length ≤ 22 * p.length + 1 := by
  unfold dotW
  split
  · simp
  · cases p with
    | nil => contradiction
    | cons n ns =>
      have h1 := Lib.itoa_length_le n (h n (by simp)).1 (h n (by simp)).2
      have h2 := tail_len ns (fun m hm => h m (by simp [hm]))
      rw [List.map_cons, Lib.join_cons]
      simp only [List.length_append, List.length_cons]
      omega
theorem roomB_cons (s : ByteArray) (ws : List ByteArray) : roomB (s :: ws) = (s.size + 1) + roomB ws := by unfold roomB; rw [List.map_cons, List.sum_cons]
theorem roomB_nil : roomB [] = 0 := rfl
theorem wordS_size (k : Nat) : (wordS k).size ≤ 7 := by
  have : (wordS k).size = (wordOf k).length := by simp [wordS, ByteArray.size]
  rw [this]
  unfold wordOf
  repeat' split
  all_goals decide
theorem dotS_size (p : List Int) : (dotS p).size = (dotW p).length := by simp [dotS, ByteArray.size]
theorem path_l8 (l : List Int) : 8 * l.length ≤ (pathB l).length := by
  have h8 : ∀ n : Int, (num8 n).length = 8 := fun n => rfl
  have : ∀ l : List Int, 8 * l.length ≤ ((l.map num8).flatten).length := by
    intro l
    induction l with
    | nil => exact Nat.zero_le _
    | cons s l ih => simp only [List.map_cons, List.flatten_cons, List.length_append, h8, List.length_cons]; omega
  have := this l
  simp only [pathB, List.length_append]
  omega
theorem txts_l8 (l : List ByteArray) : 8 * l.length ≤ (txtsB l).length := by
  have h8 : ∀ n : Int, (num8 n).length = 8 := fun n => rfl
  have : ∀ l : List ByteArray, 8 * l.length ≤ ((l.map txtB).flatten).length := by
    intro l
    induction l with
    | nil => exact Nat.zero_le _
    | cons s l ih => simp only [List.map_cons, List.flatten_cons, List.length_append, txtB, h8, List.length_cons]; omega
  have := this l
  simp only [txtsB, List.length_append]
  omega
theorem edB_len (e : Ed) : (edB e).length = 1 + (pathB e.path).length + 16 + (8 + e.frm.size) + (8 + e.to.size) + (8 + (foB e.old).length) + (8 + (foB e.new).length) := by
  have h8 : ∀ n : Int, (num8 n).length = 8 := fun n => rfl
  simp only [edB, nodesB, List.length_cons, List.length_append, h8, txtB_len]
  omega
theorem number_in {n : Int} (h : Number n) : isInt64 n := by unfold Number at h; unfold isInt64; omega
theorem EdOk.numbers {e : Ed} (h : EdOk e) : (∀ n ∈ e.path, isInt64 n) ∧ isInt64 e.at_ ∧ isInt64 e.far ∧ 1 ≤ e.kind ∧ e.kind ≤ 5 := by
  obtain ⟨hp, h⟩ := h
  refine ⟨fun n hn => number_in (hp n hn), ?_⟩
  have hz : isInt64 0 := by unfold isInt64; omega
  rcases h with h | h | h | h | h
  · obtain ⟨h1, h2, h3, _⟩ := h
    rw [h1, h2, h3]; exact ⟨hz, hz, by omega, by omega⟩
  · obtain ⟨h1, h2, _, _, _, h3, _⟩ := h
    rw [h1, h2]; exact ⟨number_in h3, hz, by omega, by omega⟩
  · obtain ⟨h1, h2, _, _, _, h3, _⟩ := h
    rw [h1, h2]; exact ⟨number_in h3, hz, by omega, by omega⟩
  · obtain ⟨h1, h2, h3, _⟩ := h
    rw [h1, h2, h3]; exact ⟨hz, hz, by omega, by omega⟩
  · obtain ⟨h1, _, _, _, h2, h3, _⟩ := h
    rw [h1]; exact ⟨number_in h2, number_in h3, by omega, by omega⟩
theorem numsN_in {e : Ed} (h : EdOk e) : ∀ n ∈ numsN e, isInt64 n := by
  obtain ⟨_, h1, h2, _⟩ := h.numbers
  intro n hn
  unfold numsN at hn
  split at hn
  · simp only [List.mem_cons, List.not_mem_nil, or_false] at hn
    rcases hn with rfl | rfl
    · exact h1
    · exact h2
  · split at hn
    · simp only [List.mem_singleton] at hn
      subst hn
      exact h1
    · cases hn
theorem numsN_len (e : Ed) : (numsN e).length ≤ 2 := by
  unfold numsN
  repeat' split
  all_goals simp
theorem tree_room {file : ByteArray} {e : Ed} (h : EdOk e) (hlen : (edB e).length ≤ 549755813888) : roomB (treeS file e) ≤ file.size + 22 * (edB e).length + 200 := by
  have e1 := edB_len e
  have e2 := path_l8 e.path
  have e3 := foB_len e.old
  have e4 := foB_len e.new
  have e5 := dotW_len e.path h.numbers.1
  have e6 := wordS_size e.kind
  have e7 := dotS_size e.path
  have hs := room_nums (numsN e ++ (sizesN e.old ++ sizesN e.new)) (by
    intro n hn
    rcases List.mem_append.1 hn with hn | hn
    · exact numsN_in h n hn
    · rcases List.mem_append.1 hn with hn | hn
      · exact sizesN_in _ (by omega) n hn
      · exact sizesN_in _ (by omega) n hn)
  have e8 := numsN_len e
  simp only [List.length_append, sizesN_len] at hs
  unfold treeS
  rw [roomB_app, roomB_cons, roomB_cons, roomB_cons, roomB_nil]
  split
  · rw [roomB_cons, roomB_cons, roomB_nil]
    omega
  · omega
theorem tree_dot {file : ByteArray} {e : Ed} : (dotW e.path).length ≤ roomB (treeS file e) := by
  unfold treeS
  rw [roomB_app, roomB_cons, roomB_cons, roomB_cons]
  have := dotS_size e.path
  omega
theorem tree_head {file : ByteArray} {e : Ed} {r : List ByteArray} (h : treeS file e = [wordS e.kind, file, dotS e.path] ++ r) : roomB [wordS e.kind, file, dotS e.path] + roomB r = roomB (treeS file e) := by
  rw [h, roomB_app]
theorem line_room {p : Pt} (h : PtOk p) (hlen : (ptB p).length ≤ 549755813888) : roomB (lineS p) ≤ 22 * (ptB p).length + 200 := by
  have h8 : ∀ n : Int, (num8 n).length = 8 := fun n => rfl
  have i64 : ∀ n : Nat, n ≤ 549755813888 → isInt64 (n : Int) := fun n hn => by unfold isInt64; omega
  obtain ⟨kd, file, text, hunk, edit⟩ := p
  have hz : ∀ n ∈ ([] : List Int), isInt64 n := fun n hn => by cases hn
  obtain ⟨hf, ⟨hk | hk, _⟩ | ⟨hk, _, _, hh⟩ | ⟨hk, _, _, he⟩⟩ := h
  · simp only at hk; subst hk
    have e : (ptB ⟨1, file, text, hunk, edit⟩).length = 1 + (8 + file.size) + (8 + text.size) := by
      simp [ptB, txtB_len]; omega
    have hr := room_nums [(text.size : Int)] (by intro n hn; simp only [List.mem_singleton] at hn; subst hn; exact i64 _ (by omega))
    simp only [List.length_cons, List.length_nil] at hr
    show roomB ([⟨#[97, 100, 100]⟩, file] ++ ([text.size] : List Int).map itoaS) ≤ _
    rw [roomB_app, roomB_cons, roomB_cons, roomB_nil]
    have : (⟨#[97, 100, 100]⟩ : ByteArray).size = 3 := rfl
    omega
  · simp only at hk; subst hk
    have e : (ptB ⟨2, file, text, hunk, edit⟩).length = 1 + (8 + file.size) + (8 + text.size) := by
      simp [ptB, txtB_len]; omega
    have hr := room_nums [(text.size : Int)] (by intro n hn; simp only [List.mem_singleton] at hn; subst hn; exact i64 _ (by omega))
    simp only [List.length_cons, List.length_nil] at hr
    show roomB ([⟨#[114, 101, 109, 111, 118, 101]⟩, file] ++ ([text.size] : List Int).map itoaS) ≤ _
    rw [roomB_app, roomB_cons, roomB_cons, roomB_nil]
    have : (⟨#[114, 101, 109, 111, 118, 101]⟩ : ByteArray).size = 6 := rfl
    omega
  · simp only at hk; subst hk
    have e : (ptB ⟨3, file, text, hunk, edit⟩).length = 1 + (8 + file.size) + (8 + (txtsB hunk.old).length + (txtsB hunk.new).length) := by
      simp [ptB, txtB_len, h8]; omega
    have e2 := txts_l8 hunk.old
    have e3 := txts_l8 hunk.new
    have hr := room_nums [hunk.at_, (hunk.old.length : Int), (hunk.new.length : Int)] (by
      intro n hn
      simp only [List.mem_cons, List.not_mem_nil, or_false] at hn
      obtain ⟨a1, a2, _⟩ := hh
      simp only at a1 a2
      rcases hn with rfl | rfl | rfl
      · unfold isInt64; omega
      · exact i64 _ (by omega)
      · exact i64 _ (by omega))
    simp only [List.length_cons, List.length_nil] at hr
    show roomB ([⟨#[108, 105, 110, 101, 115]⟩, file] ++ ([hunk.at_, hunk.old.length, hunk.new.length] : List Int).map itoaS) ≤ _
    rw [roomB_app, roomB_cons, roomB_cons, roomB_nil]
    have : (⟨#[108, 105, 110, 101, 115]⟩ : ByteArray).size = 5 := rfl
    omega
  · simp only at hk; subst hk
    have e : (ptB ⟨4, file, text, hunk, edit⟩).length = 1 + (8 + file.size) + (edB edit).length := by
      simp [ptB, txtB_len]; omega
    have he' : EdOk edit := he
    have := tree_room (file := file) he' (by omega)
    show roomB (treeS file edit) ≤ _
    omega

end Go.Proofs.YtadilmijppdpoaaGreatDoor

namespace Go.Proofs.YtadilmijppdpoaaGreatDoor
open Go.RowKit

def Boxes (E P r : Nat) (cE cP : Array Value) (es : Array MapEntry) (cc : Nat) (w : World) : Prop :=
  w.heap[E]? = some (.cells cE 35) ∧ w.heap[P]? = some (.cells cP 37) ∧ w.heap[r]? = some (.map es cc)
section
variable {E P r : Nat} {cE cP : Array Value} {es : Array MapEntry} {cc : Nat} {w w' : World}
theorem Boxes.below (h : Boxes E P r cE cP es cc w) (hb : Below w.heap.size w w') : Boxes E P r cE cP es cc w' := by
  have key : ∀ {k : Nat} {o : Obj}, w.heap[k]? = some o → w'.heap[k]? = some o := fun hk => (hb.block _ (Array.getElem?_eq_some_iff.1 hk).1).trans hk
  exact ⟨key h.1, key h.2.1, key h.2.2⟩
theorem Boxes.kept {b : Nat} (h : Boxes E P r cE cP es cc w) (hk : Lib.OthersKept 5 (some b) w w') (h1 : E ≠ b) (h2 : P ≠ b) (h3 : r ≠ b) : Boxes E P r cE cP es cc w' :=
  ⟨hk E _ h.1 (fun e => h1 (Option.some.inj e)) (fun c f e => by injection e with _ e2 _; exact absurd e2 (by decide)),
   hk P _ h.2.1 (fun e => h2 (Option.some.inj e)) (fun c f e => by injection e with _ e2 _; exact absurd e2 (by decide)),
   hk r _ h.2.2 (fun e => h3 (Option.some.inj e)) (fun c f e => by cases e)⟩
end
theorem match_any {kd : IntKind} {w w' : World} : ∀ {es : List MapEntry} {t : List (Int × Value)}, Match EqV kd w es t → Match EqV kd w' es t
  | [], [], _ => trivial
  | _ :: _, (_, _) :: _, ⟨h1, h2, h3⟩ => ⟨h1, h2, match_any h3⟩
  | [], _ :: _, h => h.elim
  | _ :: _, [], h => h.elim
theorem look_block {P : Program} {T K E : TypeId} {kd : IntKind} {w : World} {r : Nat} {es : Array MapEntry} {cc : Nat} {t : List (Int × Value)} (hM : Match EqV kd w es.toList t) (ht : P.underlying T = some (.map K E)) (hK : P.underlying K = some (.int kd)) {k k' : Int} {v : Value} (hf : t.find? (fun p => k == p.1) = some (k', v)) :
    ∀ w' : World, w'.heap[r]? = some (.map es cc) → (Instr.lookup T (.map (some r)) (.int kd k) false).run P w' = .ok v w' :=
  fun w' h => run_lookup_val (w := w') ⟨es, cc, h, match_any hM⟩ ht hK hf
theorem str_row2 (w : World) (s t : ByteArray) : StrRow (w.alloc (.cells #[.string s, .string t] 9)) (some ⟨w.heap.size, 0, none⟩) [s, t] :=
  .inr ⟨w.heap.size, 0, _, _, rfl, heap_alloc_new w _, fun j u hu => by
    rw [Nat.zero_add]
    have : (#[.string s, .string t] : Array Value)[j]? = ([s, t].map Value.string)[j]? := by simp
    rw [this, List.getElem?_map, hu]; rfl⟩
theorem str_row3 (w : World) (s t u : ByteArray) : StrRow (w.alloc (.cells #[.string s, .string t, .string u] 9)) (some ⟨w.heap.size, 0, none⟩) [s, t, u] :=
  .inr ⟨w.heap.size, 0, _, _, rfl, heap_alloc_new w _, fun j u' hu => by
    rw [Nat.zero_add]
    have : (#[.string s, .string t, .string u] : Array Value)[j]? = ([s, t, u].map Value.string)[j]? := by simp
    rw [this, List.getElem?_map, hu]; rfl⟩
theorem num_row2 (w : World) (a0 a1 : Int) (h : ∀ n ∈ [a0, a1], isInt64 n) : IntRow (w.alloc (.cells #[.int .i64 a0, .int .i64 a1] 3)) (some ⟨w.heap.size, 0, none⟩) [a0, a1] :=
  ⟨h, .inr ⟨w.heap.size, 0, _, _, rfl, heap_alloc_new w _, fun j u hu => by
    rw [Nat.zero_add]
    have : (#[.int .i64 a0, .int .i64 a1] : Array Value)[j]? = ([a0, a1].map (fun n => Value.int .i64 n))[j]? := by simp
    rw [this, List.getElem?_map, hu]; rfl⟩⟩
theorem TabP.up {B C : Nat} {w : World} (h : TabP B w) (hc : B ≤ C) : TabP C w := ⟨Nat.lt_of_lt_of_le h.1 hc, h.2⟩
theorem PtIn.belowB {B : Nat} {x : Ph} {p : Pt} {w w' : World} (h : PtIn (fun k => k < B) w x p) (hb : Below B w w') : PtIn (fun k => k < B) w' x p := h.keep fun k hk => hb.block k hk
/-- the slice of all of a row, no room behind -/
theorem run_slice_all {P : Program} {T e : TypeId} {i : TypeInfo} {size : Nat} (hT : P.underlying T = some (.slice e)) (hi : P.info? e = some i) (hs : i.size = size) (A : Option Addr) (n c : Nat) (hn : n ≤ c) (w : World) :
    (Instr.slice T (.slice A n c) none (some (.int .i64 n)) (some (.int .i64 n))).run P w = .ok (.slice A n n) w := by
  have e0 : ∀ (m : Nat) (code : BoundsCode), n ≤ m → (Instr.sliceBound (.int .i64 n) m code).run P w = .ok n w := by
    intro m code hm
    unfold Instr.sliceBound
    have h0 : (0 : Int) ≤ (n : Int) ∧ (n : Int) ≤ (m : Int) := ⟨by omega, by omega⟩
    simp [Sem.run_bind, asIntOf, h0.2, Result.andThen, hm]
  unfold Instr.slice Instr.sliceBounds
  simp only [Sem.run_bind, run_underlying hT, Result.andThen]
  rcases A with _ | ⟨b, o, s⟩
  · simp [Sem.run_bind, Result.andThen, e0 c _ hn, e0 n _ (Nat.le_refl n), sizeOf, typeInfo, hi]
  · simp [Sem.run_bind, Result.andThen, e0 c _ hn, e0 n _ (Nat.le_refl n), sizeOf, typeInfo, hi, Addr.add]

theorem run_sliceAt_all {P : Program} {T e : TypeId} {i : TypeInfo} {size : Nat} (hT : P.underlying T = some (.slice e)) (hi : P.info? e = some i) (hs : i.size = size) (A : Option Addr) (n c : Nat) (hn : n ≤ c) (w : World) :
    (Instr.sliceAt T (.slice A n c) none (some (.int .i64 n)) (some (.int .i64 n))).run P w = .ok (.slice A n n) w := by
  unfold Instr.sliceAt
  simp only [Sem.run_bind, run_underlying hT, Result.andThen]
  exact run_slice_all hT hi hs A n c hn w
theorem exec_slice {P : Program} {o : Oper} {a : Act} (s h m : Operand) (T : TypeId) (hop : o.op = Op.slice T s none (some h) (some m)) {v1 v2 v3 r : Value} (h1 : a.eval s = v1) (h2 : a.eval h = v2) (h3 : a.eval m = v3) (w : World)
    (hrun : (Instr.sliceAt T v1 none (some v2) (some v3)).run P w = .ok r w) : (execOp a.eval o).run P w = .ok (.value r) w := by
  simp [execOp, hop, h1, h2, h3, hrun, Result.andThen]
/-- append, as one step of a region that draws, its run being known -/
theorem step_append_run {P : Program} {ops : Array Oper} {o : Oper} {a : Act} {w w' : World} {K : Act → World → Prop} {Q : Exit → Act → World → Prop} {E : Prop}
    (hg : o.guard = none) (s x : Operand) (t : TypeId) (hop : o.op = Op.call { callee := Callee.builtin Builtin.append, args := #[s, x], argTypes := #[t, t] }) {v1 v2 r : Value} (h1 : a.eval s = v1) (h2 : a.eval x = v2)
    (hrun : (Builtin.append_ #[t, t] o.type #[v1, v2]).run P w = .ok r w') (hK : K (a.put o.dst r) w') :
    if Region.wanted o (yielded ops a.tmps) = true then Oper.wp P o a w K Q else E := by
  have hw : Region.wanted o (yielded ops a.tmps) = true := by simp [Region.wanted, hg]
  rw [if_pos hw]
  unfold Oper.wp
  simp [execOp, hop, resolve, invoke, builtin, h1, h2, hrun, Result.andThen]
  exact hK

end Go.Proofs.YtadilmijppdpoaaGreatDoor
