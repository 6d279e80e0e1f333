/- LogNumbers: its data, and small rows of named patches. -/
import Derived.Deep.RegionHeld
import Derived.KernelRfl
import Derived.Deep.CutBlock
import Derived.Deep.DeepCutAuto
import Derived.BigQuiet
import Derived.Test.YtadilmijppdpoaaGreatDoorTLogTells
import Derived.Test.YtadilmijppdpoaaGreatDoorTOpen
import Derived.Test.YtadilmijppdpoaaGreatDoorTBase

set_option linter.unusedVariables false
set_option linter.unusedSimpArgs false

namespace Go.Proofs.YtadilmijppdpoaaGreatDoor
open Go.RowKit

abbrev All : Nat → Prop := fun _ => True

/-- print 1; a block of two of these -/
def fx0 : Fo := .cons 20 ⟨#[]⟩ 1 .nil .nil
def fx : Fo := .cons 11 ⟨#[]⟩ 0 fx0 .nil
def fxx : Fo := .cons 11 ⟨#[]⟩ 0 fx0 (.cons 11 ⟨#[]⟩ 0 fx0 .nil)
def fy : Fo := .cons 5 ⟨#[]⟩ 0 fxx .nil
theorem fx_len : (foB fx).length = 50 := by
  unfold fx fx0
  simp only [foB_size]
  rfl
theorem fy_len : (foB fy).length = 125 := by
  unfold fy fxx fx0
  simp only [foB_size]
  rfl
def Few (f : Fo) : Prop := f = .nil ∨ f = fx ∨ f = fy
theorem few_len {f : Fo} (h : Few f) : (foB f).length ≤ 125 := by
  rcases h with rfl | rfl | rfl
  · simp [foB]
  · rw [fx_len]; omega
  · rw [fy_len]; omega
def EdTiny (e : Ed) : Prop := e.path.length ≤ 3 ∧ e.frm.size ≤ 9 ∧ e.to.size ≤ 9 ∧ Few e.old ∧ Few e.new
theorem ed_tiny {e : Ed} (h : EdTiny e) : (edB e).length ≤ 1000 := by
  obtain ⟨h1, h2, h3, h4, h5⟩ := h
  have e1 := few_len h4
  have e2 := few_len h5
  have e3 := pathB_rows e.path
  have e4 := nodes_len e.old
  have e5 := nodes_len e.new
  have h8 : (edB e).length = 1 + (pathB e.path).length + 16 + (8 + e.frm.size) + (8 + e.to.size) + (nodesB e.old).length + (nodesB e.new).length := by
    simp only [edB, List.length_cons, List.length_append, n8, txt_len]
    omega
  omega
/-- a named patch that is small -/
def NdTiny (d : Nd) : Prop := d.name.size ≤ 9 ∧ d.pt.file.size ≤ 9 ∧ d.pt.text.size ≤ 9 ∧ (txtsB d.pt.hunk.old).length ≤ 99 ∧ (txtsB d.pt.hunk.new).length ≤ 99 ∧ EdTiny d.pt.edit
theorem tiny_ptB {d : Nd} (h : NdTiny d) : (ptB d.pt).length ≤ 2000 ∧ ptAll d.pt ≤ 2000 := by
  obtain ⟨h1, h2, h3, h4, h5, h6⟩ := h
  have e1 := ed_tiny h6
  refine ⟨?_, ?_⟩
  · unfold ptB
    split
    · simp only [List.length_cons, List.length_append, n8, txt_len]
      omega
    · split
      · simp only [List.length_cons, List.length_append, n8, txt_len]
        omega
      · simp only [List.length_cons, List.length_append, n8, txt_len]
        omega
  · unfold ptAll
    omega
theorem say_tiny : ∀ {l : List Nd}, (∀ d ∈ l, NdTiny d) → (sayAll l).length ≤ 100000 * l.length
  | [], _ => by simp [sayAll]
  | d :: r, h => by
    have ih := say_tiny (l := r) (fun e he => h e (by simp [he]))
    have hd := h d (by simp)
    have h1 := (tiny_ptB hd).1
    have h2 : (saidB d.pt).length ≤ 22 * (ptB d.pt).length + 200 := by
      by_cases hok : PtOk d.pt
      · rw [said_yes hok]
        have h1 := line_room hok (by omega)
        have h2 := putsB_len (lineS d.pt) []
        rw [(lineS_head hok).1] at h2
        simp only [List.length_nil] at h2
        omega
      · have e : saidB d.pt = [63] := by unfold saidB; rw [if_neg hok]
        rw [e]
        simp
    have e1 : d.name.data.toList.length = d.name.size := rfl
    have e : (sayAll (d :: r)).length = (sayB d).length + (sayAll r).length := by simp [sayAll]
    have e2 : (sayB d).length = d.name.size + 2 + (saidB d.pt).length + 1 := by
      simp only [sayB, List.length_append, List.length_cons, List.length_nil, e1]
      omega
    have := hd.1
    rw [e, e2, List.length_cons]
    omega
theorem tells_few {S : Nat → Prop} {A : Option Addr} {c : Nat} {l : List Nd} {w : World} (hl : NdIn S w A l) (hn : l.length ≤ 3) (ht : ∀ d ∈ l, NdTiny d) (htab : TabOk w) (hpow : TabP w.heap.size w) :
    Calls Tryz.prog 3 #[.slice A l.length c] w fun e w' => e = .returned (.bool true) ∧ Below w.heap.size w w' := by
  have h1 := say_tiny ht
  refine logTells_any hl (by omega) (fun d hd => ?_) htab hpow (fun d hd => ?_) (by omega)
  · exact pt_small (M := 1099511627776) (by have := (tiny_ptB (ht d hd)).2; omega)
  · have h2 := (ht d hd).2.2.2.2.2
    exact ⟨by have := h2.2.1; have := h2.2.2.1; omega, by have := (tiny_ptB (ht d hd)).1; omega⟩
/-! ### what lies in memory -/
theorem fo_row {w : World} {n k l c : Nat} {t : ByteArray} {m : Int} {A : Option Addr} {T : TypeId} {ks : Fo} {fz : Nat × Nat} (h : w.heap[n]? = some (.cells #[.int .u8 k, .string t, .int .i64 m, .slice A l c] T fz)) (hl : l = ks.len) (hk : k < 256) (ht : t.size ≤ 9) (hm : isInt64 m) (hc : ks.len ≤ c) (hc2 : c ≤ 9223372036854775807) (hks : FoIn All w A ks) :
    FoIn All w (some ⟨n, 0, none⟩) (.cons k t m ks .nil) := by
  subst hl
  have hx := Lib.cell_of_heap h
  exact ⟨n, 0, A, c, rfl, trivial, hx 0, hx 1, hx 2, hx 3, hk, by omega, hm, hc, hc2, hks, trivial⟩
theorem fx_cells {w : World} {N : Nat} (h : FoIn All w (some ⟨N, 0, none⟩) fx) : ∃ A c, w.cell? ⟨N, 0, none⟩ = some (.int .u8 11) ∧ w.cell? ⟨N, 1, none⟩ = some (.string ⟨#[]⟩) ∧ w.cell? ⟨N, 2, none⟩ = some (.int .i64 0) ∧ w.cell? ⟨N, 3, none⟩ = some (.slice A 1 c) ∧ FoIn All w A fx0 ∧ 1 ≤ c ∧ c ≤ 9223372036854775807 := by
  obtain ⟨b, o, KA, c, e, _, c0, c1, c2, c3, _, _, _, h4, h5, hks, _⟩ := h
  injection e with e
  injection e with e1 e2
  subst e1 e2
  exact ⟨KA, c, c0, c1, c2, c3, hks, h4, h5⟩
theorem fy_cells {w : World} {N : Nat} (h : FoIn All w (some ⟨N, 0, none⟩) fy) : ∃ A c, w.cell? ⟨N, 0, none⟩ = some (.int .u8 5) ∧ w.cell? ⟨N, 1, none⟩ = some (.string ⟨#[]⟩) ∧ w.cell? ⟨N, 2, none⟩ = some (.int .i64 0) ∧ w.cell? ⟨N, 3, none⟩ = some (.slice A 2 c) ∧ FoIn All w A fxx ∧ 2 ≤ c ∧ c ≤ 9223372036854775807 := by
  obtain ⟨b, o, KA, c, e, _, c0, c1, c2, c3, _, _, _, h4, h5, hks, _⟩ := h
  injection e with e
  injection e with e1 e2
  subst e1 e2
  exact ⟨KA, c, c0, c1, c2, c3, hks, h4, h5⟩
structure NumsIn (w wx : World) : Prop where
  x : FoIn All wx (some ⟨w.heap.size + 1, 0, none⟩) fx
  y : FoIn All wx (some ⟨w.heap.size + 3, 0, none⟩) fy
  n : ∀ i, i < 9 → ∃ m, wx.cell? ⟨w.heap.size + 4, i, none⟩ = some (.int .i64 m) ∧ isInt64 m
  p : ∀ k, k < 5 → ∃ A p c, wx.cell? ⟨w.heap.size + 9, k, none⟩ = some (.slice A p.length c) ∧ IntsIn All wx A p ∧ p.length ≤ 3 ∧ p.length ≤ c ∧ c ≤ 9
  b : Below w.heap.size w wx
  z : w.heap.size + 10 ≤ wx.heap.size
theorem NumsIn.below {w wx wy : World} (h : NumsIn w wx) (hB : Below wx.heap.size wx wy) : NumsIn w wy := by
  have hz := h.z
  refine ⟨h.x.below hB, h.y.below hB, fun i hi => ?_, fun k hk => ?_, blw_up h.b hB, Nat.le_trans hz hB.size⟩
  · obtain ⟨m, h1, h2⟩ := h.n i hi
    exact ⟨m, (hB.cell (p := ⟨w.heap.size + 4, i, none⟩) (by simp only; omega)).trans h1, h2⟩
  · obtain ⟨A, p, c, h1, h2, h3⟩ := h.p k hk
    exact ⟨A, p, c, (hB.cell (p := ⟨w.heap.size + 9, k, none⟩) (by simp only; omega)).trans h1, h2.below hB, h3⟩
/-- an edit in eight cells -/
def EdAt (w : World) (B o : Nat) : Prop := ∃ (x : Eh) (e : Ed), w.cell? ⟨B, o, none⟩ = some (.int .u8 e.kind) ∧ w.cell? ⟨B, o + 1, none⟩ = some (.slice x.pA e.path.length x.pc) ∧ w.cell? ⟨B, o + 2, none⟩ = some (.int .i64 e.at_) ∧ w.cell? ⟨B, o + 3, none⟩ = some (.int .i64 e.far) ∧
  w.cell? ⟨B, o + 4, none⟩ = some (.string e.frm) ∧ w.cell? ⟨B, o + 5, none⟩ = some (.string e.to) ∧ w.cell? ⟨B, o + 6, none⟩ = some (.slice x.oA e.old.len x.oc) ∧ w.cell? ⟨B, o + 7, none⟩ = some (.slice x.nA e.new.len x.nc) ∧ EdIn All w x e ∧ EdTiny e
theorem EdAt.below {w w' : World} {B o : Nat} (h : EdAt w B o) (hB : Below w.heap.size w w') : EdAt w' B o := by
  obtain ⟨x, e, c0, c1, c2, c3, c4, c5, c6, c7, h1, h2⟩ := h
  have hb := hB.block B (block_lt_of_cell c0)
  exact ⟨x, e, (World.cell?_of_block hb).trans c0, (World.cell?_of_block hb).trans c1, (World.cell?_of_block hb).trans c2, (World.cell?_of_block hb).trans c3, (World.cell?_of_block hb).trans c4, (World.cell?_of_block hb).trans c5, (World.cell?_of_block hb).trans c6, (World.cell?_of_block hb).trans c7, h1.below hB, h2⟩

theorem allocs_old : ∀ (l : List Obj) (w : World) (k : Nat), k < w.heap.size → (l.foldl World.alloc w).heap[k]? = w.heap[k]?
  | [], _, _, _ => rfl
  | a :: l, w, k, h => by
    rw [List.foldl_cons, allocs_old l (w.alloc a) k (by rw [World.size_alloc]; omega)]
    exact heap_alloc_old w a h
theorem allocs_at : ∀ (l : List Obj) (w : World) (k : Nat) (o : Obj), l[k]? = some o → (l.foldl World.alloc w).heap[w.heap.size + k]? = some o
  | [], _, _, _, h => by simp at h
  | a :: l, w, 0, o, h => by
    have e : a = o := by simpa using h
    subst e
    rw [List.foldl_cons, Nat.add_zero, allocs_old l (w.alloc a) _ (by rw [World.size_alloc]; omega)]
    exact heap_alloc_new w a
  | a :: l, w, k + 1, o, h => by
    have := allocs_at l (w.alloc a) k o (by simpa using h)
    rw [World.size_alloc, show w.heap.size + 1 + k = w.heap.size + (k + 1) by omega] at this
    exact this
theorem allocs_below : ∀ (l : List Obj) (w : World), Below w.heap.size w (l.foldl World.alloc w) ∧ (l.foldl World.alloc w).heap.size = w.heap.size + l.length
  | [], w => ⟨Below.refl _ _, rfl⟩
  | a :: l, w => by
    obtain ⟨h1, h2⟩ := allocs_below l (w.alloc a)
    refine ⟨blw_up (below_alloc w a) h1, ?_⟩
    rw [List.foldl_cons, h2, World.size_alloc, List.length_cons]
    omega
theorem two_objs (w : World) (a b : Obj) : ((w.alloc a).alloc b).drew.heap[w.heap.size]? = some a ∧ ((w.alloc a).alloc b).drew.heap[w.heap.size + 1]? = some b ∧ Below w.heap.size w ((w.alloc a).alloc b).drew :=
  ⟨allocs_at [a, b] w 0 a rfl, allocs_at [a, b] w 1 b rfl, (allocs_below [a, b] w).1.drew⟩
/-- the edit that is made first -/
theorem edAt_first {wr W : World} {E R t c cX : Nat} {A KX : Option Addr} {p : List Int} {m : Int} {T T2 : TypeId} {fz fz2 : Nat × Nat}
    (hE : W.heap[E]? = some (.cells #[.int .u8 t, .slice A p.length c, .int .i64 m, .int .i64 0, .string ⟨#[]⟩, .string ⟨#[]⟩, .slice (some ⟨R, 0, none⟩) 1 1, .slice none 0 0] T fz)) (hR : W.heap[R]? = some (.cells #[.int .u8 11, .string ⟨#[]⟩, .int .i64 0, .slice KX 1 cX] T2 fz2)) (hB : Below wr.heap.size wr W)
    (ht : t < 256) (hm : isInt64 m) (hpi : IntsIn All wr A p) (hp3 : p.length ≤ 3) (hpc : p.length ≤ c) (hpc2 : c ≤ 9) (hkx : FoIn All wr KX fx0) (hcx : 1 ≤ cX) (hcx2 : cX ≤ 9223372036854775807) : EdAt W E 0 := by
  have hc := Lib.cell_of_heap hE
  have h0 : isInt64 0 := by unfold isInt64; omega
  exact ⟨⟨A, c, some ⟨R, 0, none⟩, 1, none, 0⟩, ⟨t, p, m, 0, ⟨#[]⟩, ⟨#[]⟩, fx, .nil⟩, hc 0, hc 1, hc 2, hc 3, hc 4, hc 5, hc 6, hc 7,
    ⟨ht, hpi.below hB, hm, h0, by show (0 : Nat) ≤ _; omega, by show (0 : Nat) ≤ _; omega, fo_row (l := 1) hR rfl (by decide) (by decide) h0 (by simpa [fx0, Fo.len] using hcx) hcx2 (hkx.below hB), trivial, ⟨hpc, Nat.le_trans hpc2 (by omega)⟩, ⟨by simp [fx, Fo.len], by simp⟩, ⟨by simp [Fo.len], by simp⟩⟩,
    ⟨hp3, by show (0 : Nat) ≤ _; omega, by show (0 : Nat) ≤ _; omega, .inr (.inl rfl), .inl rfl⟩⟩
/-- the row of five edits -/
theorem eds_row {wr W : World} {B R1 R2 R3 R4 t c cX cY : Nat} {A KX KY : Option Addr} {p : List Int} {m : Int} {x0 : Eh} {e0 : Ed} {T T2 : TypeId} {fz f1 f2 f3 f4 : Nat × Nat}
    (hb : W.heap[B]? = some (.cells #[.int .u8 e0.kind, .slice x0.pA e0.path.length x0.pc, .int .i64 e0.at_, .int .i64 e0.far, .string e0.frm, .string e0.to, .slice x0.oA e0.old.len x0.oc, .slice x0.nA e0.new.len x0.nc,
      .int .u8 t, .slice A p.length c, .int .i64 m, .int .i64 0, .string ⟨#[]⟩, .string ⟨#[]⟩, .slice none 0 0, .slice (some ⟨R1, 0, none⟩) 1 1,
      .int .u8 t, .slice A p.length c, .int .i64 0, .int .i64 0, .string ⟨#[]⟩, .string ⟨#[]⟩, .slice (some ⟨R2, 0, none⟩) 1 1, .slice (some ⟨R3, 0, none⟩) 1 1,
      .int .u8 t, .slice A p.length c, .int .i64 0, .int .i64 0, .string ⟨#[97]⟩, .string ⟨#[108, 111, 110, 103, 95, 110, 97, 109, 101]⟩, .slice none 0 0, .slice none 0 0,
      .int .u8 t, .slice A p.length c, .int .i64 2, .int .i64 m, .string ⟨#[]⟩, .string ⟨#[]⟩, .slice (some ⟨R4, 0, none⟩) 1 1, .slice none 0 0] T fz))
    (h1 : W.heap[R1]? = some (.cells #[.int .u8 5, .string ⟨#[]⟩, .int .i64 0, .slice KY 2 cY] T2 f1)) (h2 : W.heap[R2]? = some (.cells #[.int .u8 11, .string ⟨#[]⟩, .int .i64 0, .slice KX 1 cX] T2 f2)) (h3 : W.heap[R3]? = some (.cells #[.int .u8 5, .string ⟨#[]⟩, .int .i64 0, .slice KY 2 cY] T2 f3)) (h4 : W.heap[R4]? = some (.cells #[.int .u8 5, .string ⟨#[]⟩, .int .i64 0, .slice KY 2 cY] T2 f4)) (hB : Below wr.heap.size wr W)
    (he0 : EdIn All wr x0 e0) (ht0 : EdTiny e0) (ht : t < 256) (hm : isInt64 m) (hpi : IntsIn All wr A p) (hp3 : p.length ≤ 3) (hpc : p.length ≤ c) (hpc2 : c ≤ 9) (hkx : FoIn All wr KX fx0) (hcx : 1 ≤ cX) (hcx2 : cX ≤ 9223372036854775807) (hky : FoIn All wr KY fxx) (hcy : 2 ≤ cY) (hcy2 : cY ≤ 9223372036854775807) : ∀ n, n < 5 → EdAt W B (n * 8) := by
  have hc := Lib.cell_of_heap hb
  have h0 : isInt64 0 := by unfold isInt64; omega
  have z0 : (⟨#[]⟩ : ByteArray).size ≤ 9223372036854775807 := by show (0 : Nat) ≤ _; omega
  have s0 : (⟨#[]⟩ : ByteArray).size ≤ 9 := by show (0 : Nat) ≤ _; omega
  have gx : ∀ {R f}, W.heap[R]? = some (.cells #[.int .u8 11, .string ⟨#[]⟩, .int .i64 0, .slice KX 1 cX] T2 f) → FoIn All W (some ⟨R, 0, none⟩) fx := fun h => fo_row (l := 1) h rfl (by decide) (by decide) h0 (by simpa [fx0, Fo.len] using hcx) hcx2 (hkx.below hB)
  have gy : ∀ {R f}, W.heap[R]? = some (.cells #[.int .u8 5, .string ⟨#[]⟩, .int .i64 0, .slice KY 2 cY] T2 f) → FoIn All W (some ⟨R, 0, none⟩) fy := fun h => fo_row (l := 2) h rfl (by decide) (by decide) h0 (by simpa [fxx, Fo.len] using hcy) hcy2 (hky.below hB)
  have hp := hpi.below hB
  have nn : (Fo.nil).len ≤ 0 ∧ 0 ≤ 9223372036854775807 := ⟨by simp [Fo.len], by simp⟩
  have n1 : fx.len ≤ 1 ∧ 1 ≤ 9223372036854775807 := ⟨by simp [fx, Fo.len], by simp⟩
  have n2 : fy.len ≤ 1 ∧ 1 ≤ 9223372036854775807 := ⟨by simp [fy, Fo.len], by simp⟩
  have pc : p.length ≤ c ∧ c ≤ 9223372036854775807 := ⟨hpc, by omega⟩
  intro n hn
  match n, hn with
  | 0, _ => exact ⟨x0, e0, hc 0, hc 1, hc 2, hc 3, hc 4, hc 5, hc 6, hc 7, he0.below hB, ht0⟩
  | 1, _ => exact ⟨⟨A, c, none, 0, some ⟨R1, 0, none⟩, 1⟩, ⟨t, p, m, 0, ⟨#[]⟩, ⟨#[]⟩, .nil, fy⟩, hc 8, hc 9, hc 10, hc 11, hc 12, hc 13, hc 14, hc 15, ⟨ht, hp, hm, h0, z0, z0, trivial, gy h1, pc, nn, n2⟩, ⟨hp3, s0, s0, .inl rfl, .inr (.inr rfl)⟩⟩
  | 2, _ => exact ⟨⟨A, c, some ⟨R2, 0, none⟩, 1, some ⟨R3, 0, none⟩, 1⟩, ⟨t, p, 0, 0, ⟨#[]⟩, ⟨#[]⟩, fx, fy⟩, hc 16, hc 17, hc 18, hc 19, hc 20, hc 21, hc 22, hc 23, ⟨ht, hp, h0, h0, z0, z0, gx h2, gy h3, pc, n1, n2⟩, ⟨hp3, s0, s0, .inr (.inl rfl), .inr (.inr rfl)⟩⟩
  | 3, _ => exact ⟨⟨A, c, none, 0, none, 0⟩, ⟨t, p, 0, 0, ⟨#[97]⟩, ⟨#[108, 111, 110, 103, 95, 110, 97, 109, 101]⟩, .nil, .nil⟩, hc 24, hc 25, hc 26, hc 27, hc 28, hc 29, hc 30, hc 31, ⟨ht, hp, h0, h0, by show (1 : Nat) ≤ _; omega, by show (9 : Nat) ≤ _; omega, trivial, trivial, pc, nn, nn⟩, ⟨hp3, by show (1 : Nat) ≤ _; omega, by show (9 : Nat) ≤ _; omega, .inl rfl, .inl rfl⟩⟩
  | 4, _ => exact ⟨⟨A, c, some ⟨R4, 0, none⟩, 1, none, 0⟩, ⟨t, p, 2, m, ⟨#[]⟩, ⟨#[]⟩, fy, .nil⟩, hc 32, hc 33, hc 34, hc 35, hc 36, hc 37, hc 38, hc 39, ⟨ht, hp, by show isInt64 2; unfold isInt64; omega, hm, z0, z0, gy h4, trivial, pc, n2, nn⟩, ⟨hp3, s0, s0, .inr (.inr rfl), .inl rfl⟩⟩

def nd1 (e : Ed) : Nd := ⟨⟨#[110]⟩, ⟨4, ⟨#[102, 46, 49]⟩, ⟨#[]⟩, ⟨0, [], []⟩, e⟩⟩
theorem nd1_in {w : World} {xe : Eh} {e : Ed} {T : TypeId} (hee : EdIn All w xe e) : NdIn All (w.alloc (.cells #[.string ⟨#[110]⟩, .int .u8 4, .string ⟨#[102, 46, 49]⟩, .string ⟨#[]⟩, .int .i64 0, .slice none 0 0, .slice none 0 0, .int .u8 e.kind, .slice xe.pA e.path.length xe.pc, .int .i64 e.at_, .int .i64 e.far, .string e.frm, .string e.to, .slice xe.oA e.old.len xe.oc, .slice xe.nA e.new.len xe.nc] T)) (some ⟨w.heap.size, 0, none⟩) [nd1 e] := by
  have hc := Lib.cell_of_heap (heap_alloc_new w (.cells #[.string ⟨#[110]⟩, .int .u8 4, .string ⟨#[102, 46, 49]⟩, .string ⟨#[]⟩, .int .i64 0, .slice none 0 0, .slice none 0 0, .int .u8 e.kind, .slice xe.pA e.path.length xe.pc, .int .i64 e.at_, .int .i64 e.far, .string e.frm, .string e.to, .slice xe.oA e.old.len xe.oc, .slice xe.nA e.new.len xe.nc] T))
  exact ⟨w.heap.size, 0, ⟨⟨none, 0, none, 0⟩, xe⟩, rfl, trivial, ⟨hc 0, hc 1, hc 2, hc 3, hc 4, hc 5, hc 6, hc 7, hc 8, hc 9, hc 10, hc 11, hc 12, hc 13, hc 14⟩, by show (1 : Nat) ≤ _; omega,
    ⟨by show 4 < 256; omega, by show (3 : Nat) ≤ _; omega, by show (0 : Nat) ≤ _; omega, zero_hk, hee.below (below_alloc _ _)⟩, trivial⟩
theorem nil_txts : (txtsB []).length = 8 := rfl
theorem nd1_tiny {e : Ed} (h : EdTiny e) : ∀ d ∈ [nd1 e], NdTiny d := by
  intro d hd
  simp only [List.mem_singleton] at hd
  subst hd
  exact ⟨by show (1 : Nat) ≤ _; omega, by show (3 : Nat) ≤ _; omega, by show (0 : Nat) ≤ _; omega, by show (txtsB []).length ≤ 99; rw [nil_txts]; omega, by show (txtsB []).length ≤ 99; rw [nil_txts]; omega, h⟩
abbrev ed0 : Ed := ⟨0, [], 0, 0, ⟨#[]⟩, ⟨#[]⟩, .nil, .nil⟩
theorem ed0_tiny : EdTiny ed0 := ⟨by show (0 : Nat) ≤ _; omega, by show (0 : Nat) ≤ _; omega, by show (0 : Nat) ≤ _; omega, .inl rfl, .inl rfl⟩
def nd3 (s : Nat) (m : Int) : List Nd := [⟨⟨#[]⟩, ⟨s, ⟨#[102]⟩, ⟨#[116, 101, 120, 116]⟩, ⟨0, [], []⟩, ed0⟩⟩, ⟨⟨#[32]⟩, ⟨s, ⟨#[102]⟩, ⟨#[]⟩, ⟨0, [], []⟩, ed0⟩⟩, ⟨⟨#[120]⟩, ⟨s, ⟨#[102]⟩, ⟨#[]⟩, ⟨m, [⟨#[97, 10]⟩], []⟩, ed0⟩⟩]
theorem nd3_in {w : World} {s : Nat} {m : Int} {T T2 : TypeId} (hs : s < 256) (hm : isInt64 m) : NdIn All ((w.alloc (.cells #[.string ⟨#[97, 10]⟩] T)).alloc (.cells #[.string ⟨#[]⟩, .int .u8 s, .string ⟨#[102]⟩, .string ⟨#[116, 101, 120, 116]⟩, .int .i64 0, .slice none 0 0, .slice none 0 0, .int .u8 0, .slice none 0 0, .int .i64 0, .int .i64 0, .string ⟨#[]⟩, .string ⟨#[]⟩, .slice none 0 0, .slice none 0 0,
    .string ⟨#[32]⟩, .int .u8 s, .string ⟨#[102]⟩, .string ⟨#[]⟩, .int .i64 0, .slice none 0 0, .slice none 0 0, .int .u8 0, .slice none 0 0, .int .i64 0, .int .i64 0, .string ⟨#[]⟩, .string ⟨#[]⟩, .slice none 0 0, .slice none 0 0,
    .string ⟨#[120]⟩, .int .u8 s, .string ⟨#[102]⟩, .string ⟨#[]⟩, .int .i64 m, .slice (some ⟨w.heap.size, 0, none⟩) 1 1, .slice none 0 0, .int .u8 0, .slice none 0 0, .int .i64 0, .int .i64 0, .string ⟨#[]⟩, .string ⟨#[]⟩, .slice none 0 0, .slice none 0 0] T2)) (some ⟨w.heap.size + 1, 0, none⟩) (nd3 s m) := by
  have hc : ∀ o, ((w.alloc (.cells #[.string ⟨#[97, 10]⟩] T)).alloc (.cells #[.string ⟨#[]⟩, .int .u8 s, .string ⟨#[102]⟩, .string ⟨#[116, 101, 120, 116]⟩, .int .i64 0, .slice none 0 0, .slice none 0 0, .int .u8 0, .slice none 0 0, .int .i64 0, .int .i64 0, .string ⟨#[]⟩, .string ⟨#[]⟩, .slice none 0 0, .slice none 0 0,
    .string ⟨#[32]⟩, .int .u8 s, .string ⟨#[102]⟩, .string ⟨#[]⟩, .int .i64 0, .slice none 0 0, .slice none 0 0, .int .u8 0, .slice none 0 0, .int .i64 0, .int .i64 0, .string ⟨#[]⟩, .string ⟨#[]⟩, .slice none 0 0, .slice none 0 0,
    .string ⟨#[120]⟩, .int .u8 s, .string ⟨#[102]⟩, .string ⟨#[]⟩, .int .i64 m, .slice (some ⟨w.heap.size, 0, none⟩) 1 1, .slice none 0 0, .int .u8 0, .slice none 0 0, .int .i64 0, .int .i64 0, .string ⟨#[]⟩, .string ⟨#[]⟩, .slice none 0 0, .slice none 0 0] T2)).cell? ⟨w.heap.size + 1, o, none⟩ = (#[.string ⟨#[]⟩, .int .u8 s, .string ⟨#[102]⟩, .string ⟨#[116, 101, 120, 116]⟩, .int .i64 0, .slice none 0 0, .slice none 0 0, .int .u8 0, .slice none 0 0, .int .i64 0, .int .i64 0, .string ⟨#[]⟩, .string ⟨#[]⟩, .slice none 0 0, .slice none 0 0,
    .string ⟨#[32]⟩, .int .u8 s, .string ⟨#[102]⟩, .string ⟨#[]⟩, .int .i64 0, .slice none 0 0, .slice none 0 0, .int .u8 0, .slice none 0 0, .int .i64 0, .int .i64 0, .string ⟨#[]⟩, .string ⟨#[]⟩, .slice none 0 0, .slice none 0 0,
    .string ⟨#[120]⟩, .int .u8 s, .string ⟨#[102]⟩, .string ⟨#[]⟩, .int .i64 m, .slice (some ⟨w.heap.size, 0, none⟩) 1 1, .slice none 0 0, .int .u8 0, .slice none 0 0, .int .i64 0, .int .i64 0, .string ⟨#[]⟩, .string ⟨#[]⟩, .slice none 0 0, .slice none 0 0] : Array Value)[o]? := fun o => World.cell?_alloc2_new _ _ _ o
  have hx : ∀ o, ((w.alloc (.cells #[.string ⟨#[97, 10]⟩] T)).alloc (.cells #[.string ⟨#[]⟩, .int .u8 s, .string ⟨#[102]⟩, .string ⟨#[116, 101, 120, 116]⟩, .int .i64 0, .slice none 0 0, .slice none 0 0, .int .u8 0, .slice none 0 0, .int .i64 0, .int .i64 0, .string ⟨#[]⟩, .string ⟨#[]⟩, .slice none 0 0, .slice none 0 0,
    .string ⟨#[32]⟩, .int .u8 s, .string ⟨#[102]⟩, .string ⟨#[]⟩, .int .i64 0, .slice none 0 0, .slice none 0 0, .int .u8 0, .slice none 0 0, .int .i64 0, .int .i64 0, .string ⟨#[]⟩, .string ⟨#[]⟩, .slice none 0 0, .slice none 0 0,
    .string ⟨#[120]⟩, .int .u8 s, .string ⟨#[102]⟩, .string ⟨#[]⟩, .int .i64 m, .slice (some ⟨w.heap.size, 0, none⟩) 1 1, .slice none 0 0, .int .u8 0, .slice none 0 0, .int .i64 0, .int .i64 0, .string ⟨#[]⟩, .string ⟨#[]⟩, .slice none 0 0, .slice none 0 0] T2)).cell? ⟨w.heap.size, o, none⟩ = (#[.string ⟨#[97, 10]⟩] : Array Value)[o]? := fun o => World.cell?_alloc2_first _ _ _ o
  generalize (w.alloc (.cells #[.string ⟨#[97, 10]⟩] T)).alloc (.cells #[.string ⟨#[]⟩, .int .u8 s, .string ⟨#[102]⟩, .string ⟨#[116, 101, 120, 116]⟩, .int .i64 0, .slice none 0 0, .slice none 0 0, .int .u8 0, .slice none 0 0, .int .i64 0, .int .i64 0, .string ⟨#[]⟩, .string ⟨#[]⟩, .slice none 0 0, .slice none 0 0,
    .string ⟨#[32]⟩, .int .u8 s, .string ⟨#[102]⟩, .string ⟨#[]⟩, .int .i64 0, .slice none 0 0, .slice none 0 0, .int .u8 0, .slice none 0 0, .int .i64 0, .int .i64 0, .string ⟨#[]⟩, .string ⟨#[]⟩, .slice none 0 0, .slice none 0 0,
    .string ⟨#[120]⟩, .int .u8 s, .string ⟨#[102]⟩, .string ⟨#[]⟩, .int .i64 m, .slice (some ⟨w.heap.size, 0, none⟩) 1 1, .slice none 0 0, .int .u8 0, .slice none 0 0, .int .i64 0, .int .i64 0, .string ⟨#[]⟩, .string ⟨#[]⟩, .slice none 0 0, .slice none 0 0] T2) = W at hc hx ⊢
  have h1 : StrsIn All W (some ⟨w.heap.size, 0, none⟩) [⟨#[97, 10]⟩] := ⟨.inr ⟨w.heap.size, 0, rfl, trivial, fun j u hu => by rw [Nat.zero_add, hx]; simpa using hu⟩, by intro s hs; simp only [List.mem_singleton] at hs; subst hs; show (2 : Nat) ≤ _; omega, by simp⟩
  have z0 : (0 : Nat) ≤ 9223372036854775807 := by omega
  have z1 : (1 : Nat) ≤ 9223372036854775807 := by omega
  have z4 : (4 : Nat) ≤ 9223372036854775807 := by omega
  exact ⟨w.heap.size + 1, 0, ⟨⟨none, 0, none, 0⟩, ⟨none, 0, none, 0, none, 0⟩⟩, rfl, trivial, ⟨hc 0, hc 1, hc 2, hc 3, hc 4, hc 5, hc 6, hc 7, hc 8, hc 9, hc 10, hc 11, hc 12, hc 13, hc 14⟩, z0, ⟨hs, z1, z4, zero_hk, zero_ed⟩,
    w.heap.size + 1, 15, ⟨⟨none, 0, none, 0⟩, ⟨none, 0, none, 0, none, 0⟩⟩, rfl, trivial, ⟨hc 15, hc 16, hc 17, hc 18, hc 19, hc 20, hc 21, hc 22, hc 23, hc 24, hc 25, hc 26, hc 27, hc 28, hc 29⟩, z1, ⟨hs, z1, z0, zero_hk, zero_ed⟩,
    w.heap.size + 1, 30, ⟨⟨some ⟨w.heap.size, 0, none⟩, 1, none, 0⟩, ⟨none, 0, none, 0, none, 0⟩⟩, rfl, trivial, ⟨hc 30, hc 31, hc 32, hc 33, hc 34, hc 35, hc 36, hc 37, hc 38, hc 39, hc 40, hc 41, hc 42, hc 43, hc 44⟩, z1, ⟨hs, z1, z0, ⟨hm, h1, ⟨.nil, by simp, by simp⟩, ⟨by simp, by simp⟩, ⟨by simp, by simp⟩⟩, zero_ed⟩, trivial⟩
theorem one_txts : (txtsB [⟨#[97, 10]⟩]).length = 18 := rfl
theorem nd3_tiny {s : Nat} {m : Int} : ∀ d ∈ nd3 s m, NdTiny d := by
  intro d hd
  simp only [nd3, List.mem_cons, List.not_mem_nil, or_false] at hd
  have z0 : (0 : Nat) ≤ 9 := by omega
  have z1 : (1 : Nat) ≤ 9 := by omega
  have z4 : (4 : Nat) ≤ 9 := by omega
  have t0 : (txtsB []).length ≤ 99 := by rw [nil_txts]; omega
  have t1 : (txtsB [⟨#[97, 10]⟩]).length ≤ 99 := by rw [one_txts]; omega
  rcases hd with rfl | rfl | rfl
  · exact ⟨z0, z1, z4, t0, t0, ed0_tiny⟩
  · exact ⟨z1, z1, z0, t0, t0, ed0_tiny⟩
  · exact ⟨z1, z1, z0, t1, t0, ed0_tiny⟩

end Go.Proofs.YtadilmijppdpoaaGreatDoor

namespace Go.Proofs.YtadilmijppdpoaaGreatDoor

section
variable {P : Program} {ops : Array Oper} {Q : Exit → Act → World → Prop} {md : Region.Mode} {S : World → Prop} {df : List Deferred}

def dstAt (ops : Array Oper) (i : Nat) : Option Nat := (ops[i]?).bind (·.dst)

/-- the frame, as far as it is known: as L but for the places of R's operations; what is listed of R has left a value of which V is known -/
structure Loose (ops : Array Oper) (L : List Value) (R : List Nat) (V : Nat → World → Value → Prop) (listed : Array Bool) (L' : List Value) (w : World) : Prop where
  len : L'.length = L.length
  far : ∀ k, (∀ i ∈ R, dstAt ops i ≠ some k) → L'[k]? = L[k]?
  val : ∀ i ∈ R, listed.getD i false = true → ∃ d v, dstAt ops i = some d ∧ L'[d]? = some v ∧ V i w v

/-- what one operation is to do, whatever stands in the places of those that it does not wait for -/
def LooseStep (P : Program) (md : Region.Mode) (ops : Array Oper) (S : World → Prop) (T : World → World → Prop) (L : List Value) (df : List Deferred) (R : List Nat) (V : Nat → World → Value → Prop) (i : Nat) : Prop :=
  ∃ o d, ops[i]? = some o ∧ o.guard = none ∧ o.dst = some d ∧ d < L.length ∧
    ∀ (L' : List Value) (w : World), S w → (∀ k, (∀ i ∈ R, dstAt ops i ≠ some k) → L'[k]? = L[k]?) →
      (∀ j ∈ R, (∃ e ∈ o.after, Region.binds md e = true ∧ e.on = j) → ∃ d v, dstAt ops j = some d ∧ L'[d]? = some v ∧ V j w v) →
      ∃ v w', (execOp (Act.mk L'.toArray df).eval o).run P w = .ok (.value v) w' ∧ S w' ∧ T w w' ∧ V i w' v

/-- operations that are known by what each leaves behind, in whatever order they come up -/
theorem wpAnyH_loose (R : List Nat) (V : Nat → World → Value → Prop) (T : World → World → Prop) (L : List Value)
    (hT : ∀ i ∈ R, ∀ w w' v, T w w' → V i w v → V i w' v)
    (hs : ∀ i ∈ R, LooseStep P md ops S T L df R V i)
    (hd : ∀ i ∈ R, ∀ j ∈ R, i ≠ j → dstAt ops i ≠ dstAt ops j)
    (hdag : ∀ i o, ops[i]? = some o → ∀ e ∈ o.after, Region.binds md e = true → e.on < i)
    (hend : ∀ (L' : List Value) (w : World), S w → L'.length = L.length → (∀ k, (∀ i ∈ R, dstAt ops i ≠ some k) → L'[k]? = L[k]?) → (∀ i ∈ R, ∃ d v, dstAt ops i = some d ∧ L'[d]? = some v ∧ V i w v) → Q .normal ⟨L'.toArray, df⟩ w) :
    ∀ (U : List Nat) (listed : Array Bool) (L' : List Value) (w : World), U.Nodup → U ⊆ R → listed.size = ops.size → (∀ i, listed.getD i true = false ↔ i ∈ U) → S w → Loose ops L R V listed L' w →
      wpAnyH P md ops Q S U.length listed ⟨L'.toArray, df⟩ w := by
  have hall : ∀ (listed : Array Bool), listed.size = ops.size → Region.ready md ops listed = [] → ∀ i, listed.getD i true = true := by
    intro listed hz hr i
    induction i using Nat.strongRecOn with
    | _ i ih =>
      rcases Nat.lt_or_ge i ops.size with hi | hi
      · cases hl : listed.getD i true with
        | true => rfl
        | false =>
          have hm : i ∈ Region.ready md ops listed := by
            refine mem_ready.2 ⟨hl, ops[i], by simp [hi], fun e he hb => ?_⟩
            have h1 := hdag i ops[i] (by simp [hi]) e he hb
            have h2 := ih e.on h1
            have h3 : e.on < listed.size := by omega
            simpa [h3] using h2
          rw [hr] at hm
          cases hm
      · simp [Array.getElem?_eq_none (show listed.size ≤ i by omega)]
  have hnorm : ∀ (listed : Array Bool) (L' : List Value) (w : World), listed.size = ops.size → S w → Loose ops L R V listed L' w → Region.ready md ops listed = [] → Q .normal ⟨L'.toArray, df⟩ w := by
    intro listed L' w hz hS hL hr
    refine hend L' w hS hL.len hL.far (fun i hi => hL.val i hi ?_)
    have h := hall listed hz hr i
    obtain ⟨o, d, ho, _⟩ := hs i hi
    have hlt : i < listed.size := by
      have := (Array.getElem?_eq_some_iff.1 ho).1
      omega
    simpa [hlt] using h
  intro U
  generalize hn : U.length = n
  induction n generalizing U with
  | zero =>
    intro listed L' w _ _ hz hU hS hL
    have e : U = [] := List.length_eq_zero_iff.1 hn
    subst e
    have hr : Region.ready md ops listed = [] := by
      cases h : Region.ready md ops listed with
      | nil => rfl
      | cons i r =>
        have hm : i ∈ Region.ready md ops listed := by rw [h]; simp
        have := (hU i).1 (mem_ready.1 hm).1
        cases this
    exact ⟨hr, hnorm listed L' w hz hS hL hr⟩
  | succ n ih =>
    intro listed L' w hnd hsub hz hU hS hL
    refine ⟨hnorm listed L' w hz hS hL, fun i hi => ?_⟩
    obtain ⟨hun, o, ho, hdep⟩ := mem_ready.1 hi
    have hiU := (hU i).1 hun
    have hiR := hsub hiU
    obtain ⟨o', d, ho', hg, hdst, hdl, hrun⟩ := hs i hiR
    have e : o = o' := by rw [ho] at ho'; exact Option.some.inj ho'
    subst e
    have hdi : dstAt ops i = some d := by simp [dstAt, ho, hdst]
    obtain ⟨v, w', hx, hS', hTw, hV⟩ := hrun L' w hS hL.far (fun j hj ⟨e, he, hb, hej⟩ => hL.val j hj (hej ▸ hdep e he hb))
    unfold wpOp
    simp only [ho]
    have hw : Region.wanted o (yielded ops L'.toArray) = true := by simp [Region.wanted, hg]
    rw [if_pos hw]
    refine .inl ?_
    unfold Oper.wp
    rw [hx]
    refine ⟨hS', ?_⟩
    have hput : (Act.mk L'.toArray df).put o.dst v = ⟨(L'.set d v).toArray, df⟩ := by rw [hdst]; simp [Act.put]
    rw [hput]
    have hdl' : d < L'.length := by rw [hL.len]; exact hdl
    refine ih (U.erase i) (by rw [List.length_erase_of_mem hiU]; omega) _ _ _ (hnd.erase i) (fun j hj => hsub (List.mem_of_mem_erase hj)) (by simpa using hz) (fun j => ?_) hS' ⟨by simpa using hL.len, fun k hk => ?_, fun j hj hlj => ?_⟩
    · rw [hnd.mem_erase_iff]
      by_cases hji : j = i
      · subst hji
        have hlt : j < listed.size := by
          have := (Array.getElem?_eq_some_iff.1 ho).1
          omega
        simp [hlt]
      · rw [getD_set_ne true (Ne.symm hji), hU j]
        simp [hji]
    · rw [List.getElem?_set_ne (fun e => hk i hiR (by rw [hdi, e]))]
      exact hL.far k hk
    · by_cases hji : j = i
      · subst hji
        exact ⟨d, v, hdi, by simp [hdl'], hV⟩
      · obtain ⟨d', v', h1, h2, h3⟩ := hL.val j hj (by rwa [getD_set_ne false (Ne.symm hji)] at hlj)
        refine ⟨d', v', h1, ?_, hT j hj _ _ _ hTw h3⟩
        rw [List.getElem?_set_ne (fun e => hd i hiR j hj (Ne.symm hji) (by rw [hdi, h1, e]))]
        exact h2

/-- the places' values, written into the frame one by one -/
def looseSet (D : List (Nat × Nat)) (vals : Nat → Value) (L : List Value) : List Value := D.foldl (fun l p => l.set p.2 (vals p.1)) L
theorem looseSet_len : ∀ (D : List (Nat × Nat)) (vals : Nat → Value) (L : List Value), (looseSet D vals L).length = L.length
  | [], _, _ => rfl
  | p :: D, vals, L => by
    have := looseSet_len D vals (L.set p.2 (vals p.1))
    simpa [looseSet] using this
theorem looseSet_far : ∀ (D : List (Nat × Nat)) (vals : Nat → Value) (L : List Value) (k : Nat), (∀ p ∈ D, p.2 ≠ k) → (looseSet D vals L)[k]? = L[k]?
  | [], _, _, _, _ => rfl
  | p :: D, vals, L, k, h => by
    have := looseSet_far D vals (L.set p.2 (vals p.1)) k (fun q hq => h q (by simp [hq]))
    rw [List.getElem?_set_ne (h p (by simp))] at this
    exact this
theorem looseSet_at : ∀ (D : List (Nat × Nat)) (vals : Nat → Value) (L : List Value), D.Pairwise (fun p q => p.2 ≠ q.2) → ∀ p ∈ D, p.2 < L.length → (looseSet D vals L)[p.2]? = some (vals p.1)
  | [], _, _, _, _, h, _ => by cases h
  | q :: D, vals, L, hp, p, h, hl => by
    rw [List.pairwise_cons] at hp
    show (looseSet D vals (L.set q.2 (vals q.1)))[p.2]? = _
    rcases List.mem_cons.1 h with rfl | h
    · rw [looseSet_far D vals _ _ (fun r hr => Ne.symm (hp.1 r hr))]
      simp [hl]
    · exact looseSet_at D vals _ hp.2 p h (by simpa using hl)

/-- an operation of the rest, as the walk meets it: its operands by ev -/
def LooseOp (P : Program) (md : Region.Mode) (ops : Array Oper) (S : World → Prop) (T : World → World → Prop) (L : List Value) (D : List (Nat × Nat)) (V : Nat → World → Value → Prop) (i : Nat) : Prop :=
  match ops[i]? with
  | none => False
  | some o => o.guard = none ∧
    ∀ (ev : Operand → Value) (w : World), S w → (∀ v, ev (.const v) = v) → (∀ k x, (D.all fun p => p.2 != k) = true → L[k]? = some x → ev (.tmp k) = x) →
      (∀ j d, (D.contains (j, d) && o.after.any fun e => Region.binds md e && e.on == j) = true → V j w (ev (.tmp d))) →
      ∃ v w', (execOp ev o).run P w = .ok (.value v) w' ∧ S w' ∧ T w w' ∧ V i w' v

theorem loose_from (D : List (Nat × Nat)) (V : Nat → World → Value → Prop) (T : World → World → Prop) {listed : Array Bool} {L : List Value} {w : World} {fuel : Nat}
    (hS : S w)
    (hT : ∀ p ∈ D, ∀ w w' v, T w w' → V p.1 w v → V p.1 w' v)
    (hs : ∀ p ∈ D, LooseOp P md ops S T L D V p.1)
    (hend : ∀ (vals : Nat → Value) (w : World), S w → (∀ p ∈ D, V p.1 w (vals p.1)) → Q .normal ⟨(looseSet D vals L).toArray, df⟩ w)
    (hf : fuel = D.length := by rfl)
    (hR : (D.map (·.1)).Nodup := by decide)
    (hP : D.Pairwise (fun p q => p.2 ≠ q.2) := by decide)
    (hz : listed.size = ops.size := by rfl)
    (hu : ((List.range ops.size).all fun i => (!listed.getD i true) == (D.map (·.1)).contains i) = true := by kernel_rfl)
    (hlt : (D.all fun p => decide (p.1 < ops.size) && dstAt ops p.1 == some p.2) = true := by kernel_rfl)
    (hl : D.all (fun p => decide (p.2 < L.length)) = true := by rfl)
    (hdag : ((List.range ops.size).all fun i => ((ops[i]?).map fun o => o.after.all fun e => !Region.binds md e || decide (e.on < i)).getD true) = true := by kernel_rfl) :
    wpAnyH P md ops Q S fuel listed ⟨L.toArray, df⟩ w := by
  have hlen : fuel = (D.map (·.1)).length := by rw [hf]; simp
  rw [hlen]
  simp only [List.all_eq_true, List.mem_range, beq_iff_eq, decide_eq_true_eq, Bool.and_eq_true] at hu hlt hl
  have hU : ∀ i, listed.getD i true = false ↔ i ∈ D.map (·.1) := by
    intro i
    rcases Nat.lt_or_ge i ops.size with hi | hi
    · have := hu i hi
      cases hl : listed.getD i true
      · rw [hl] at this
        simp only [Bool.not_false] at this
        have h2 := List.contains_iff_mem.1 this.symm
        exact ⟨fun _ => h2, fun _ => rfl⟩
      · rw [hl] at this
        simp only [Bool.not_true] at this
        refine ⟨fun h => (by cases h), fun h => ?_⟩
        rw [List.contains_iff_mem.2 h] at this
        cases this
    · have h1 : i ∉ D.map (·.1) := fun h => by
        obtain ⟨p, hp, rfl⟩ := List.mem_map.1 h
        have := (hlt p hp).1
        omega
      simp only [h1, iff_false]
      simp [Array.getElem?_eq_none (show listed.size ≤ i by omega)]
  have hdst : ∀ p ∈ D, dstAt ops p.1 = some p.2 := fun p hp => (hlt p hp).2
  have hout : ∀ k, (∀ p ∈ D, p.2 ≠ k) → ∀ i ∈ D.map (·.1), dstAt ops i ≠ some k := by
    intro k h i hi e
    obtain ⟨p, hp, rfl⟩ := List.mem_map.1 hi
    rw [hdst p hp] at e
    exact h p hp (Option.some.inj e)
  have hpw : ∀ p ∈ D, ∀ q ∈ D, p.1 ≠ q.1 → p.2 ≠ q.2 := by
    intro p hp q hq hne e
    have h1 := looseSet_at D (fun i => .int .i64 i) L hP p hp (hl p hp)
    have h2 := looseSet_at D (fun i => .int .i64 i) L hP q hq (hl q hq)
    rw [e, h2] at h1
    have h3 := Option.some.inj h1
    have h4 : (q.1 : Int) = p.1 := by
      simp only [Value.int.injEq, true_and] at h3
      exact h3
    omega
  refine wpAnyH_loose (D.map (·.1)) V T L ?_ ?_ ?_ ?_ ?_ (D.map (·.1)) listed L w hR (fun _ h => h) hz hU hS ⟨rfl, fun _ _ => rfl, fun i hi h => ?_⟩
  · intro i hi
    obtain ⟨p, hp, rfl⟩ := List.mem_map.1 hi
    exact hT p hp
  · intro i hi
    obtain ⟨p, hp, rfl⟩ := List.mem_map.1 hi
    have hso := hs p hp
    unfold LooseOp at hso
    obtain ⟨o, ho, hg, hrun⟩ : ∃ o, ops[p.1]? = some o ∧ o.guard = none ∧ _ := by
      cases ho : ops[p.1]? with
      | none => rw [ho] at hso; exact hso.elim
      | some o => rw [ho] at hso; exact ⟨o, rfl, hso⟩
    have hd2 : o.dst = some p.2 := by
      have := hdst p hp
      simpa [dstAt, ho] using this
    refine ⟨o, p.2, ho, hg, hd2, hl p hp, fun L' w' hS' hfar hdep => hrun _ w' hS' (fun _ => rfl) (fun k x hk hx => ?_) (fun j d hj => ?_)⟩
    · have hk' : ∀ q ∈ D, q.2 ≠ k := fun q hq => by
        have := (List.all_eq_true.1 hk) q hq
        simpa using this
      have h1 := hfar k (hout k hk')
      rw [hx] at h1
      have h2 : k < L'.length := (List.getElem?_eq_some_iff.1 h1).1
      show L'.toArray.getD k undef = x
      have h3 := (List.getElem?_eq_some_iff.1 h1).2
      simp [h2, h3]
    · simp only [Bool.and_eq_true] at hj
      have hj1 := List.contains_iff_mem.1 hj.1
      obtain ⟨e, he, hb⟩ := Array.any_eq_true'.1 hj.2
      simp only [Bool.and_eq_true, beq_iff_eq] at hb
      obtain ⟨d', v', h1, h2, h3⟩ := hdep j (List.mem_map.2 ⟨_, hj1, rfl⟩) ⟨e, he, hb.1, hb.2⟩
      rw [hdst _ hj1] at h1
      have h1 := Option.some.inj h1
      subst h1
      have h4 := (List.getElem?_eq_some_iff.1 h2)
      obtain ⟨h5, h6⟩ := h4
      show V j w' (L'.toArray.getD d undef)
      simp only at h5 h6
      simp [h5, h6, h3]
  · intro i hi j hj hij e
    obtain ⟨p, hp, rfl⟩ := List.mem_map.1 hi
    obtain ⟨q, hq, rfl⟩ := List.mem_map.1 hj
    rw [hdst p hp, hdst q hq] at e
    exact hpw p hp q hq hij (Option.some.inj e)
  · intro i o ho e he hb
    have hlt : i < ops.size := (Array.getElem?_eq_some_iff.1 ho).1
    have h1 := (List.all_eq_true.1 hdag) i (List.mem_range.2 hlt)
    simp only [ho, Option.map_some, Option.getD_some, Array.all_eq_true_iff_forall_mem] at h1
    have h2 := h1 e he
    simpa [hb] using h2
  · intro L' w' hS' hl' hfar hval
    have hv : ∀ p ∈ D, ∃ v, L'[p.2]? = some v ∧ V p.1 w' v := by
      intro p hp
      obtain ⟨d, v, h1, h2, h3⟩ := hval p.1 (List.mem_map.2 ⟨p, hp, rfl⟩)
      rw [hdst p hp] at h1
      have h1 := Option.some.inj h1
      subst h1
      exact ⟨v, h2, h3⟩
    let vals : Nat → Value := fun i => match dstAt ops i with | some d => L'.getD d undef | none => undef
    have hvals : ∀ p ∈ D, L'[p.2]? = some (vals p.1) ∧ V p.1 w' (vals p.1) := by
      intro p hp
      obtain ⟨v, h1, h2⟩ := hv p hp
      have e : vals p.1 = v := by
        show (match dstAt ops p.1 with | some d => L'.getD d undef | none => undef) = v
        rw [hdst p hp]
        simp [h1]
      rw [e]
      exact ⟨h1, h2⟩
    have e : L' = looseSet D vals L := by
      refine List.ext_getElem? fun k => ?_
      by_cases hk : ∃ p ∈ D, p.2 = k
      · obtain ⟨p, hp, rfl⟩ := hk
        rw [(hvals p hp).1, looseSet_at D vals L hP p hp (hl p hp)]
      · have hk' : ∀ p ∈ D, p.2 ≠ k := fun p hp e => hk ⟨p, hp, e⟩
        rw [looseSet_far D vals L k hk']
        exact hfar k (hout k hk')
    rw [e]
    exact hend vals w' hS' (fun p hp => (hvals p hp).2)
  · have h1 := (hU i).2 hi
    obtain ⟨p, hp, rfl⟩ := List.mem_map.1 hi
    have hlt : p.1 < listed.size := by
      have := (hlt p hp).1
      omega
    simp [hlt] at h1 h
    rw [h1] at h
    cases h
end
end Go.Proofs.YtadilmijppdpoaaGreatDoor

namespace Go.Proofs.YtadilmijppdpoaaGreatDoor
open Go.RowKit

theorem one_str (w : World) (N : Nat) (s : ByteArray) {T : TypeId} {fz : Nat × Nat} (h : w.heap[N]? = some (.cells #[.string s] T fz)) (hs : s.size ≤ 9) : StrsIn All w (some ⟨N, 0, none⟩) [s] :=
  ⟨.inr ⟨N, 0, rfl, trivial, fun j u hu => by
    rw [Nat.zero_add, Lib.cell_of_heap h]
    simpa using hu⟩, by simp; omega, by simp⟩
theorem ints_row {w : World} {N : Nat} {l : List Int} {T : TypeId} {fz : Nat × Nat} (h : w.heap[N]? = some (.cells (l.map (Value.int .i64)).toArray T fz)) (hi : ∀ n ∈ l, isInt64 n) (hl : l.length ≤ 9) : IntsIn All w (some ⟨N, 0, none⟩) l :=
  ⟨.inr ⟨N, 0, rfl, trivial, fun j u hu => by
    rw [Nat.zero_add, Lib.cell_of_heap h]
    simpa using hu⟩, hi, by omega⟩
def numsL : List Int := [-1, 0, 1, 9, 10, 1073741824, 1073741825, 1099511627776, 1099511627777]
theorem nums_start (w : World) {a b c d e f g h i j : Obj} {wx : World} (hw : wx = (((((((((w.alloc a).alloc b).alloc c).alloc d).alloc e).alloc f).alloc g).alloc h).alloc i).alloc j)
    {T1 T2 T3 : TypeId} (ha : a = .cells #[.int .u8 20, .string ⟨#[]⟩, .int .i64 1, .slice none 0 0] T1) (hb : b = .cells #[.int .u8 11, .string ⟨#[]⟩, .int .i64 0, .slice (some ⟨w.heap.size, 0, none⟩) 1 1] T1)
    (hc : c = .cells #[.int .u8 11, .string ⟨#[]⟩, .int .i64 0, .slice (some ⟨w.heap.size, 0, none⟩) 1 1, .int .u8 11, .string ⟨#[]⟩, .int .i64 0, .slice (some ⟨w.heap.size, 0, none⟩) 1 1] T1)
    (hd : d = .cells #[.int .u8 5, .string ⟨#[]⟩, .int .i64 0, .slice (some ⟨w.heap.size + 2, 0, none⟩) 2 2] T1) (he : e = .cells (numsL.map (Value.int .i64)).toArray T2)
    (hf : f = .cells (([0] : List Int).map (Value.int .i64)).toArray T2) (hg : g = .cells (([1, 2, 3] : List Int).map (Value.int .i64)).toArray T2) (hh : h = .cells (([10, 1073741824] : List Int).map (Value.int .i64)).toArray T2) (hi : i = .cells (([-1] : List Int).map (Value.int .i64)).toArray T2)
    (hj : j = .cells #[.slice none 0 0, .slice (some ⟨w.heap.size + 5, 0, none⟩) 1 1, .slice (some ⟨w.heap.size + 6, 0, none⟩) 3 3, .slice (some ⟨w.heap.size + 7, 0, none⟩) 2 2, .slice (some ⟨w.heap.size + 8, 0, none⟩) 1 1] T3) : NumsIn w wx := by
  replace hw : wx = [a, b, c, d, e, f, g, h, i, j].foldl World.alloc w := hw
  have q0 : wx.heap[w.heap.size]? = some a := by rw [hw]; exact allocs_at _ w 0 _ rfl
  have q1 : wx.heap[w.heap.size + 1]? = some b := by rw [hw]; exact allocs_at _ w 1 _ rfl
  have q2 : wx.heap[w.heap.size + 2]? = some c := by rw [hw]; exact allocs_at _ w 2 _ rfl
  have q3 : wx.heap[w.heap.size + 3]? = some d := by rw [hw]; exact allocs_at _ w 3 _ rfl
  have q4 : wx.heap[w.heap.size + 4]? = some e := by rw [hw]; exact allocs_at _ w 4 _ rfl
  have q5 : wx.heap[w.heap.size + 5]? = some f := by rw [hw]; exact allocs_at _ w 5 _ rfl
  have q6 : wx.heap[w.heap.size + 6]? = some g := by rw [hw]; exact allocs_at _ w 6 _ rfl
  have q7 : wx.heap[w.heap.size + 7]? = some h := by rw [hw]; exact allocs_at _ w 7 _ rfl
  have q8 : wx.heap[w.heap.size + 8]? = some i := by rw [hw]; exact allocs_at _ w 8 _ rfl
  have q9 : wx.heap[w.heap.size + 9]? = some j := by rw [hw]; exact allocs_at _ w 9 _ rfl
  have hB : Below w.heap.size w wx := by rw [hw]; exact (allocs_below _ w).1
  have hz : w.heap.size + 10 ≤ wx.heap.size := by rw [hw, (allocs_below _ w).2]; simp
  clear hw
  subst ha hb hc hd he hf hg hh hi hj
  have z64 : ∀ n : Int, -2000000000000 ≤ n → n ≤ 2000000000000 → isInt64 n := fun n h1 h2 => by unfold isInt64; omega
  have f0 : FoIn All wx (some ⟨w.heap.size, 0, none⟩) fx0 := fo_row (l := 0) q0 rfl (by decide) (by decide) (z64 _ (by omega) (by omega)) (by simp [Fo.len]) (by omega) trivial
  have c2 := Lib.cell_of_heap q2
  have f2 : FoIn All wx (some ⟨w.heap.size + 2, 0, none⟩) fxx :=
    ⟨_, 0, some ⟨w.heap.size, 0, none⟩, 1, rfl, trivial, c2 0, c2 1, c2 2, c2 3, by decide, by decide, z64 _ (by omega) (by omega), by simp [fx0, Fo.len], by omega, f0,
      _, 4, some ⟨w.heap.size, 0, none⟩, 1, rfl, trivial, c2 4, c2 5, c2 6, c2 7, by decide, by decide, z64 _ (by omega) (by omega), by simp [fx0, Fo.len], by omega, f0, trivial⟩
  refine ⟨fo_row (l := 1) q1 rfl (by decide) (by decide) (z64 _ (by omega) (by omega)) (by simp [fx0, Fo.len]) (by omega) f0, fo_row (l := 2) q3 rfl (by decide) (by decide) (z64 _ (by omega) (by omega)) (by simp [fxx, Fo.len]) (by omega) f2, ?_, ?_, hB, hz⟩
  · intro i hi
    refine ⟨numsL[i]'(by simpa [numsL] using hi), ?_, ?_⟩
    · rw [Lib.cell_of_heap q4]
      simp
    · have : ∀ n ∈ numsL, isInt64 n := by
        intro n hn
        simp only [numsL, List.mem_cons, List.not_mem_nil, or_false] at hn
        rcases hn with rfl | rfl | rfl | rfl | rfl | rfl | rfl | rfl | rfl <;> exact z64 _ (by omega) (by omega)
      exact this _ (List.getElem_mem _)
  · intro k hk
    have c9 := Lib.cell_of_heap q9
    match k, hk with
    | 0, _ => exact ⟨none, [], 0, c9 0, ⟨.nil, by simp, by simp⟩, by simp, by simp, by omega⟩
    | 1, _ => exact ⟨_, [0], 1, c9 1, ints_row q5 (by simp; exact z64 _ (by omega) (by omega)) (by simp), by simp, by simp, by omega⟩
    | 2, _ => exact ⟨_, [1, 2, 3], 3, c9 2, ints_row q6 (by simp; exact ⟨z64 _ (by omega) (by omega), z64 _ (by omega) (by omega), z64 _ (by omega) (by omega)⟩) (by simp), by simp, by simp, by omega⟩
    | 3, _ => exact ⟨_, [10, 1073741824], 2, c9 3, ints_row q7 (by simp; exact ⟨z64 _ (by omega) (by omega), z64 _ (by omega) (by omega)⟩) (by simp), by simp, by simp, by omega⟩
    | 4, _ => exact ⟨_, [-1], 1, c9 4, ints_row q8 (by simp; exact z64 _ (by omega) (by omega)) (by simp), by simp, by simp, by omega⟩

def YAt (KY : Option Addr) (cY : Nat) (w : World) (b : Nat) : Prop := w.heap[b]? = some (.cells #[.int .u8 5, .string ⟨#[]⟩, .int .i64 0, .slice KY 2 cY] 46)
def XAt (KX : Option Addr) (cX : Nat) (w : World) (b : Nat) : Prop := w.heap[b]? = some (.cells #[.int .u8 11, .string ⟨#[]⟩, .int .i64 0, .slice KX 1 cX] 46)
theorem heap_stay {w w' : World} {b : Nat} {o : Obj} (hB : Below w.heap.size w w') (h : w.heap[b]? = some o) : w'.heap[b]? = some o := (hB.block b (Array.getElem?_eq_some_iff.1 h).1).trans h
def B15 (KX KY : Option Addr) (cX cY t n c : Nat) (A : Option Addr) (m : Int) (x0 : Eh) (e0 : Ed) (w : World) (B b1 b2 b3 b4 : Nat) : Prop :=
  w.heap[B]? = some (.cells #[.int .u8 e0.kind, .slice x0.pA e0.path.length x0.pc, .int .i64 e0.at_, .int .i64 e0.far, .string e0.frm, .string e0.to, .slice x0.oA e0.old.len x0.oc, .slice x0.nA e0.new.len x0.nc,
      .int .u8 t, .slice A n c, .int .i64 m, .int .i64 0, .string ⟨#[]⟩, .string ⟨#[]⟩, .slice none 0 0, .slice (some ⟨b1, 0, none⟩) 1 1,
      .int .u8 t, .slice A n c, .int .i64 0, .int .i64 0, .string ⟨#[]⟩, .string ⟨#[]⟩, .slice (some ⟨b2, 0, none⟩) 1 1, .slice (some ⟨b3, 0, none⟩) 1 1,
      .int .u8 t, .slice A n c, .int .i64 0, .int .i64 0, .string ⟨#[97]⟩, .string ⟨#[108, 111, 110, 103, 95, 110, 97, 109, 101]⟩, .slice none 0 0, .slice none 0 0,
      .int .u8 t, .slice A n c, .int .i64 2, .int .i64 m, .string ⟨#[]⟩, .string ⟨#[]⟩, .slice (some ⟨b4, 0, none⟩) 1 1, .slice none 0 0] 35) ∧ YAt KY cY w b1 ∧ XAt KX cX w b2 ∧ YAt KY cY w b3 ∧ YAt KY cY w b4
/-- what each operation of region 15 leaves -/
def V15 (KX KY : Option Addr) (cX cY t n c : Nat) (A : Option Addr) (m : Int) (x0 : Eh) (e0 : Ed) : Nat → World → Value → Prop
  | 11, w, v => ∃ b, v = .slice (some ⟨b, 0, none⟩) 1 1 ∧ YAt KY cY w b
  | 12, w, v => ∃ b, v = .agg #[.int .u8 t, .slice A n c, .int .i64 m, .int .i64 0, .string ⟨#[]⟩, .string ⟨#[]⟩, .slice none 0 0, .slice (some ⟨b, 0, none⟩) 1 1] ∧ YAt KY cY w b
  | 19, w, v => ∃ b, v = .slice (some ⟨b, 0, none⟩) 1 1 ∧ XAt KX cX w b
  | 21, w, v => ∃ b, v = .slice (some ⟨b, 0, none⟩) 1 1 ∧ YAt KY cY w b
  | 22, w, v => ∃ b b', v = .agg #[.int .u8 t, .slice A n c, .int .i64 0, .int .i64 0, .string ⟨#[]⟩, .string ⟨#[]⟩, .slice (some ⟨b, 0, none⟩) 1 1, .slice (some ⟨b', 0, none⟩) 1 1] ∧ XAt KX cX w b ∧ YAt KY cY w b'
  | 39, w, v => ∃ b, v = .slice (some ⟨b, 0, none⟩) 1 1 ∧ YAt KY cY w b
  | 40, w, v => ∃ b, v = .agg #[.int .u8 t, .slice A n c, .int .i64 2, .int .i64 m, .string ⟨#[]⟩, .string ⟨#[]⟩, .slice (some ⟨b, 0, none⟩) 1 1, .slice none 0 0] ∧ YAt KY cY w b
  | 41, w, v => ∃ B b1 b2 b3 b4, v = .slice (some ⟨B, 0, none⟩) 5 5 ∧ B15 KX KY cX cY t n c A m x0 e0 w B b1 b2 b3 b4
  | 42, w, v => ∃ B b1 b2 b3 b4, v = .slice (some ⟨B, 0, none⟩) 5 5 ∧ B15 KX KY cX cY t n c A m x0 e0 w B b1 b2 b3 b4
  | _, _, _ => True
theorem run_yrow {ev : Operand → Value} {o : Oper} {k cY : Nat} {KY : Option Addr} (ho : o.op = Op.buildSlice 33 1 #[(0, .tmp k)]) (h : ev (.tmp k) = .agg #[.int .u8 5, .string ⟨#[]⟩, .int .i64 0, .slice KY 2 cY]) (w : World) :
    (execOp ev o).run Tryz.prog w = .ok (.value (.slice (some ⟨w.heap.size, 0, none⟩) 1 1)) (w.alloc (.cells #[.int .u8 5, .string ⟨#[]⟩, .int .i64 0, .slice KY 2 cY] 46)) := by
  simp only [execOp, ho]
  go_simp
theorem run_xrow {ev : Operand → Value} {o : Oper} {k cX : Nat} {KX : Option Addr} (ho : o.op = Op.buildSlice 33 1 #[(0, .tmp k)]) (h : ev (.tmp k) = .agg #[.int .u8 11, .string ⟨#[]⟩, .int .i64 0, .slice KX 1 cX]) (w : World) :
    (execOp ev o).run Tryz.prog w = .ok (.value (.slice (some ⟨w.heap.size, 0, none⟩) 1 1)) (w.alloc (.cells #[.int .u8 11, .string ⟨#[]⟩, .int .i64 0, .slice KX 1 cX] 46)) := by
  simp only [execOp, ho]
  go_simp
theorem run_b12 {ev : Operand → Value} {o : Oper} {i j k d t n c b : Nat} {A : Option Addr} {m : Int} (ho : o.op = Op.build 35 #[(0, .tmp i), (1, .tmp j), (2, .tmp k), (7, .tmp d)]) (h0 : ev (.tmp i) = .int .u8 t) (h1 : ev (.tmp j) = .slice A n c) (h2 : ev (.tmp k) = .int .i64 m) (h3 : ev (.tmp d) = .slice (some ⟨b, 0, none⟩) 1 1) (w : World) :
    (execOp ev o).run Tryz.prog w = .ok (.value (.agg #[.int .u8 t, .slice A n c, .int .i64 m, .int .i64 0, .string ⟨#[]⟩, .string ⟨#[]⟩, .slice none 0 0, .slice (some ⟨b, 0, none⟩) 1 1])) w := by
  simp only [execOp, ho]
  go_simp
  first | done | rfl
theorem run_b22 {ev : Operand → Value} {o : Oper} {i j k d t n c b b' : Nat} {A : Option Addr} (ho : o.op = Op.build 35 #[(0, .tmp i), (1, .tmp j), (6, .tmp k), (7, .tmp d)]) (h0 : ev (.tmp i) = .int .u8 t) (h1 : ev (.tmp j) = .slice A n c) (h2 : ev (.tmp k) = .slice (some ⟨b, 0, none⟩) 1 1) (h3 : ev (.tmp d) = .slice (some ⟨b', 0, none⟩) 1 1) (w : World) :
    (execOp ev o).run Tryz.prog w = .ok (.value (.agg #[.int .u8 t, .slice A n c, .int .i64 0, .int .i64 0, .string ⟨#[]⟩, .string ⟨#[]⟩, .slice (some ⟨b, 0, none⟩) 1 1, .slice (some ⟨b', 0, none⟩) 1 1])) w := by
  simp only [execOp, ho]
  go_simp
  first | done | rfl
theorem run_b40 {ev : Operand → Value} {o : Oper} {i j k d t n c b : Nat} {A : Option Addr} {m : Int} (ho : o.op = Op.build 35 #[(0, .tmp i), (1, .tmp j), (2, .const (.int .i64 2)), (3, .tmp k), (6, .tmp d)]) (hc : ∀ v, ev (.const v) = v) (h0 : ev (.tmp i) = .int .u8 t) (h1 : ev (.tmp j) = .slice A n c) (h2 : ev (.tmp k) = .int .i64 m) (h3 : ev (.tmp d) = .slice (some ⟨b, 0, none⟩) 1 1) (w : World) :
    (execOp ev o).run Tryz.prog w = .ok (.value (.agg #[.int .u8 t, .slice A n c, .int .i64 2, .int .i64 m, .string ⟨#[]⟩, .string ⟨#[]⟩, .slice (some ⟨b, 0, none⟩) 1 1, .slice none 0 0])) w := by
  simp only [execOp, ho]
  go_simp
  first | done | rfl
theorem run_r41 {ev : Operand → Value} {o : Oper} {i0 i1 i2 i3 i4 : Nat} {a0 a1 a2 a3 a4 a5 a6 a7 b0 b1 b2 b3 b4 b5 b6 b7 c0 c1 c2 c3 c4 c5 c6 c7 d0 d1 d2 d3 d4 d5 d6 d7 e0 e1 e2 e3 e4 e5 e6 e7 : Value} (ho : o.op = Op.buildSlice 48 5 #[(0, .tmp i0), (1, .tmp i1), (2, .tmp i2), (3, .tmp i3), (4, .tmp i4)])
    (h0 : ev (.tmp i0) = .agg #[a0, a1, a2, a3, a4, a5, a6, a7]) (h1 : ev (.tmp i1) = .agg #[b0, b1, b2, b3, b4, b5, b6, b7]) (h2 : ev (.tmp i2) = .agg #[c0, c1, c2, c3, c4, c5, c6, c7]) (h3 : ev (.tmp i3) = .agg #[d0, d1, d2, d3, d4, d5, d6, d7]) (h4 : ev (.tmp i4) = .agg #[e0, e1, e2, e3, e4, e5, e6, e7]) (w : World) :
    (execOp ev o).run Tryz.prog w = .ok (.value (.slice (some ⟨w.heap.size, 0, none⟩) 5 5)) (w.alloc (.cells #[a0, a1, a2, a3, a4, a5, a6, a7, b0, b1, b2, b3, b4, b5, b6, b7, c0, c1, c2, c3, c4, c5, c6, c7, d0, d1, d2, d3, d4, d5, d6, d7, e0, e1, e2, e3, e4, e5, e6, e7] 35)) := by
  simp only [execOp, ho]
  go_simp
theorem run_a42 {ev : Operand → Value} {o : Oper} {k : Nat} {v : Value} (ho : o.op = Op.assign (.tmp k)) (h : ev (.tmp k) = v) (w : World) : (execOp ev o).run Tryz.prog w = .ok (.value v) w := by
  simp only [execOp, ho, h]
  first | rfl | go_simp
abbrev D15 : List (Nat × Nat) := [(11, 65), (12, 66), (19, 73), (21, 75), (22, 76), (39, 93), (40, 94), (41, 95), (42, 9)]

end Go.Proofs.YtadilmijppdpoaaGreatDoor
