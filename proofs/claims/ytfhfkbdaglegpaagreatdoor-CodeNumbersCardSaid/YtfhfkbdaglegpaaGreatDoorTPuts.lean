/- Put's bytes lie in a row of its own; two rows of bytes that lie apart. -/
import Derived.Deep.CutBlock
import Derived.Deep.DeepCutAuto
import Derived.Test.YtfhfkbdaglegpaaGreatDoorTWrit
import Derived.Test.YtfhfkbdaglegpaaGreatDoorTRef24D
import Derived.Test.YtfhfkbdaglegpaaGreatDoorTApartB
import Derived.Test.YtfhfkbdaglegpaaGreatDoorTLentX
import Derived.Test.YtfhfkbdaglegpaaGreatDoorTKeptX
import Derived.Test.YtfhfkbdaglegpaaGreatDoorTKit
import Derived.Test.YtfhfkbdaglegpaaGreatDoorTAwake

set_option linter.unusedVariables false
set_option linter.unusedSimpArgs false

namespace Go.Proofs.YtfhfkbdaglegpaaGreatDoor
open Go.RowKit

theorem Buf.own8 {P : Nat → Prop} {wb B : Nat} {w : World} {l : List UInt8} (h : Buf P wb w l) (hP : ∀ b, ¬ P b → B ≤ b) : ∃ v, w.cell? ⟨wb, 0, none⟩ = some v ∧ Own8 B w v l := by
  obtain ⟨v, h0, _, _, _, h4, h5, _⟩ := h
  refine ⟨v, h0, h4.1, ?_⟩
  rcases h4.2 with hn | ⟨g, cap, cur, rfl, hb, hr⟩
  · exact .inl hn
  · exact .inr ⟨g, cap, cur, rfl, hP g (h5 g rfl).2, hr⟩
theorem Own8.shape {B : Nat} {w : World} {v : Value} {l : List UInt8} (h : Own8 B w v l) : ∃ A c, v = .slice A l.length c := own_shape h

set_option maxHeartbeats 4000000 in
set_option maxRecDepth 1000000 in
theorem put_own {S : Nat → Prop} {x : Ph} {p : Pt} {w : World} (hp : PtIn S w x p) (htab : TabOk w) (hsum : p.edit.frm.size + p.edit.to.size ≤ 9223372036854775807) (hlen : (ptB p).length ≤ lid) :
    Calls Tryz.prog 9 #[.agg #[.int .u8 p.kind, .string p.file, .string p.text, .int .i64 p.hunk.at_, .slice x.h.oA p.hunk.old.length x.h.oc, .slice x.h.nA p.hunk.new.length x.h.nc, .int .u8 p.edit.kind, .slice x.e.pA p.edit.path.length x.e.pc, .int .i64 p.edit.at_, .int .i64 p.edit.far, .string p.edit.frm, .string p.edit.to, .slice x.e.oA p.edit.old.len x.e.oc, .slice x.e.nA p.edit.new.len x.e.nc]] w fun e w' => Below w.heap.size w w' ∧
      ((PtOk p ∧ ∃ v, e = .returned (.tuple #[v, .int .i64 0]) ∧ Own8 w.heap.size w' v (ptB p)) ∨
       (¬ PtOk p ∧ e = .returned (.tuple #[.slice none 0 0, .int .i64 4]))) := by
  have Hp := hide hp
  have Htab := hide htab
  clear hp htab
  go_enter Tryz.func9, Tryz.ntmps9
  go_wp2_with (first
    | (go_at_call 28; (with_reducible refine (patchRight_any (Hp.out.below (below_alloc _ _)) (Htab.out.below (below_alloc _ _)) hsum).mono ?_); rintro e1 w1 ⟨⟨_ | _, rfl, hb⟩, hB⟩ <;> (have Hok := hide hb; have HB : Hid (Below w.heap.size w w1) := hide (blw_up (below_alloc _ _) hB); obtain ⟨hc1, hf1, hz1⟩ := bbox (N := w.heap.size) hB (by simp); clear hb hB))
    | (go_at_call 29; (refine (patch_put (S := fun b => S b ∧ b < w.heap.size) buf_new ((Hp.out.mono (S' := fun b => S b ∧ b < w.heap.size) fun b h1 h2 => ⟨h2, h1⟩).below (HB.out.trans ((below_alloc _ _).mono HB.out.size))) (fun b hb => Nat.lt_trans hb.2 hz1) (by simpa using hlen)).mono ?_); rintro e2 w2 ⟨rfl, hb, hB⟩; obtain ⟨v0, q0, q1⟩ := hb.own8 (B := w.heap.size) (fun b h => Nat.le_trans HB.out.size (Nat.le_of_not_lt h)); obtain ⟨A, c, rfl⟩ := q1.shape; have Hq := hide q1; have HB2 : Hid (Below w.heap.size w w2) := hide (HB.out.trans (((below_alloc _ _).mono HB.out.size).trans (hB.below.mono HB.out.size))); clear hb hB q1))
  · go_ret2
    exact ⟨HB.out, .inr ⟨fun h => absurd (Hok.out.mpr h) (by decide), rfl⟩⟩
  · go_ret2
    exact ⟨HB2.out, .inl ⟨Hok.out.mp trivial, _, rfl, Hq.out⟩⟩

/-- two rows of bytes, each made by a call of its own: they lie apart -/
theorem apart_two {w : World} {B B2 ca cc : Nat} {A C : Option Addr} {l m : List UInt8} (ha : Own8 B w (.slice A l.length ca) l) (hc : Own8 B2 w (.slice C m.length cc) m) (hB : B ≤ B2) (hlt : ∀ g, (Value.slice A l.length ca).ownBlock = some g → g < B2) (hBw : B ≤ w.heap.size) (hl : l.length ≤ 1099511627776) (hm : m.length ≤ 1099511627776) :
    Calls Tryz.prog 13 #[.slice (some ⟨w.heap.size, 0, none⟩) 2 2] (w.alloc (.cells #[.slice A l.length ca, .slice C m.length cc] 36)) fun e w' => e = .returned (.bool true) ∧ Below B w w' := by
  refine (apartBytes_any (B := B) (K := 2) (vs := fun j => if j = 0 then .slice A l.length ca else .slice C m.length cc) (ns := fun j => if j = 0 then l.length else m.length)
    (T := fun g => if (Value.slice A l.length ca).ownBlock = some g then some 0 else if (Value.slice C m.length cc).ownBlock = some g then some 1 else none) ⟨fun j hj => ?_, fun j hj g hg => ?_, fun g hg => ?_⟩ (fun j hj => ?_) (fun j hj => ?_) (by omega) (by omega) (Nat.le_trans hBw (by simp))).mono ?_
  · rcases j with _ | _ | j
    · exact ⟨bytesV l, ha.below (below_alloc w _)⟩
    · exact ⟨bytesV m, (hc.mono hB).below (below_alloc w _)⟩
    · omega
  · rcases j with _ | _ | j
    · have hg' : (Value.slice A l.length ca).ownBlock = some g := hg
      simp only [hg', if_true]
    · have hg' : (Value.slice C m.length cc).ownBlock = some g := hg
      have h1 := (World.ownsRow.lt hc g hg').1
      have h2 : ¬ (Value.slice A l.length ca).ownBlock = some g := fun e => by have := hlt g e; omega
      simp only [if_neg h2, if_pos hg']
    · omega
  · by_cases h1 : (Value.slice A l.length ca).ownBlock = some g
    · have := World.ownsRow.lt ha g h1
      simp
      omega
    · by_cases h2 : (Value.slice C m.length cc).ownBlock = some g
      · have := World.ownsRow.lt hc g h2
        simp
        omega
      · simp only [if_neg h1, if_neg h2] at hg
        exact absurd rfl hg
  · have := Lib.cell_of_heap (heap_alloc_new w (.cells #[.slice A l.length ca, .slice C m.length cc] 36)) j
    rw [this]
    rcases j with _ | _ | j
    · rfl
    · rfl
    · omega
  · by_cases e : j = 0 <;> simp [e] <;> assumption
  · rintro e w' ⟨he, hBl⟩
    exact ⟨he, ((below_alloc w _).mono hBw).trans hBl⟩

end Go.Proofs.YtfhfkbdaglegpaaGreatDoor

namespace Go.Proofs.YtfhfkbdaglegpaaGreatDoor
open Go.RowKit

theorem sameBytes_own {w2 w3 w4 : World} {B B4 c c' : Nat} {A A' : Option Addr} {l : List UInt8} (ha : Own8 B w2 (.slice A l.length c) l) (h23 : Below w2.heap.size w2 w3) (h34 : Below w3.heap.size w3 w4) (hb : Own8 B4 w4 (.slice A' l.length c') l) :
    Calls Tryz.prog 11 #[.slice A l.length c, .slice A' l.length c'] w4 fun e w' => e = .returned (.bool true) ∧ ∃ n, w' = w4.drewN n := by
  obtain ⟨A1, c1, e1, h1, _⟩ := ((ha.below h23).below h34).bytes (S := fun _ => True) (fun _ _ => trivial)
  obtain ⟨A2, c2, e2, h2, _⟩ := hb.bytes (S := fun _ => True) (fun _ _ => trivial)
  injection e1 with e1
  injection e2 with e2
  subst e1 e2
  refine (sameBytes_any h1 h2).mono ?_
  rintro e w' ⟨⟨b, rfl, hb⟩, n, rfl⟩
  exact ⟨by rw [hb.mpr rfl], n, rfl⟩
theorem apart_last {w2 w3 w4 w6 : World} {B n ca cc : Nat} {A C : Option Addr} {l : List UInt8} (hB : B ≤ w2.heap.size) (ha : Own8 B w2 (.slice A l.length ca) l) (hc : Own8 w2.heap.size w3 (.slice C l.length cc) l) (h23 : Below w2.heap.size w2 w3) (h34 : Below w3.heap.size w3 w4) (h46 : Below (w4.drewN n).heap.size (w4.drewN n) w6) (hl : l.length ≤ 549755813888) :
    Calls Tryz.prog 13 #[.slice (some ⟨w6.heap.size, 0, none⟩) 2 2] (w6.alloc (.cells #[.slice A l.length ca, .slice C l.length cc] 36)) fun e w' => e = .returned (.bool true) ∧ Below B w6 w' := by
  have h4 : Below w4.heap.size w4 w6 := ⟨h46.os, h46.tape, h46.output, h46.size, h46.block⟩
  exact apart_two (((ha.below h23).below h34).below h4) ((hc.below h34).below h4) hB (fun g hg => (World.ownsRow.lt ha g hg).2) (Nat.le_trans hB (Nat.le_trans h23.size (Nat.le_trans h34.size h4.size))) (by omega) (by omega)

set_option maxHeartbeats 2000000 in
set_option maxRecDepth 1000000 in
theorem codePuts_any {S : Nat → Prop} {x : Ph} {p : Pt} {w : World} (hp : PtIn S w x p) (htab : TabOk w) (hsum : p.edit.frm.size + p.edit.to.size ≤ 9223372036854775807) (hlen : (ptB p).length ≤ 549755813888)
    (h1 : p.hunk.old.length ≤ 1099511627776) (h2 : p.hunk.new.length ≤ 1099511627776) (h3 : p.edit.path.length ≤ 1099511627776) (h4 : p.edit.old.cnt ≤ 1099511627776) (h5 : p.edit.new.cnt ≤ 1099511627776) :
    Calls Tryz.prog 3 #[.agg #[.int .u8 p.kind, .string p.file, .string p.text, .int .i64 p.hunk.at_, .slice x.h.oA p.hunk.old.length x.h.oc, .slice x.h.nA p.hunk.new.length x.h.nc, .int .u8 p.edit.kind, .slice x.e.pA p.edit.path.length x.e.pc, .int .i64 p.edit.at_, .int .i64 p.edit.far, .string p.edit.frm, .string p.edit.to, .slice x.e.oA p.edit.old.len x.e.oc, .slice x.e.nA p.edit.new.len x.e.nc]] w fun e w' => e = .returned (.bool true) ∧ Below w.heap.size w w' := by
  have is25 : is63 2500 := by unfold is63; omega
  -- what both tell
  obtain ⟨L, er, hL, hPut, hRef⟩ : ∃ (L : List UInt8) (er : Int), L.length ≤ 549755813888 ∧
      (∀ (S : Nat → Prop) (y : Ph) (W : World), PtIn S W y p → TabOk W → Calls Tryz.prog 9 #[.agg #[.int .u8 p.kind, .string p.file, .string p.text, .int .i64 p.hunk.at_, .slice y.h.oA p.hunk.old.length y.h.oc, .slice y.h.nA p.hunk.new.length y.h.nc, .int .u8 p.edit.kind, .slice y.e.pA p.edit.path.length y.e.pc, .int .i64 p.edit.at_, .int .i64 p.edit.far, .string p.edit.frm, .string p.edit.to, .slice y.e.oA p.edit.old.len y.e.oc, .slice y.e.nA p.edit.new.len y.e.nc]] W fun e w' => Below W.heap.size W w' ∧ ∃ v, e = .returned (.tuple #[v, .int .i64 er]) ∧ Own8 W.heap.size w' v L) ∧
      (∀ (S : Nat → Prop) (y : Ph) (W : World), PtIn S W y p → Calls Tryz.prog 10 #[.agg #[.int .u8 p.kind, .string p.file, .string p.text, .int .i64 p.hunk.at_, .slice y.h.oA p.hunk.old.length y.h.oc, .slice y.h.nA p.hunk.new.length y.h.nc, .int .u8 p.edit.kind, .slice y.e.pA p.edit.path.length y.e.pc, .int .i64 p.edit.at_, .int .i64 p.edit.far, .string p.edit.frm, .string p.edit.to, .slice y.e.oA p.edit.old.len y.e.oc, .slice y.e.nA p.edit.new.len y.e.nc]] W fun e w' => Below W.heap.size W w' ∧ ∃ v, e = .returned (.tuple #[v, .int .i64 er]) ∧ Own8 W.heap.size w' v L) := by
    by_cases hok : PtOk p
    · refine ⟨ptB p, 0, hlen, fun S y W hy ht => (put_own hy ht hsum (Nat.le_trans hlen (by decide))).mono ?_, fun S y W hy => (put24_any hy (Nat.le_trans hlen (by decide))).mono ?_⟩
      · rintro e w' ⟨hB, ⟨_, h⟩ | ⟨hno, _⟩⟩
        · exact ⟨hB, h⟩
        · exact absurd hok hno
      · rintro e w' ⟨hB, ⟨_, h⟩ | ⟨hno, _⟩⟩
        · exact ⟨hB, h⟩
        · exact absurd hok hno
    · refine ⟨[], 4, by simp, fun S y W hy ht => (put_own hy ht hsum (Nat.le_trans hlen (by decide))).mono ?_, fun S y W hy => (put24_any hy (Nat.le_trans hlen (by decide))).mono ?_⟩
      · rintro e w' ⟨hB, ⟨h, _⟩ | ⟨_, rfl⟩⟩
        · exact absurd h hok
        · exact ⟨hB, _, rfl, Own8.nil _ _⟩
      · rintro e w' ⟨hB, ⟨h, _⟩ | ⟨_, rfl⟩⟩
        · exact absurd h hok
        · exact ⟨hB, _, rfl, Own8.nil _ _⟩
  have HL := hide hL
  have HPut := hide hPut
  have HRef := hide hRef
  clear hL hPut hRef hlen
  obtain ⟨W0, hW0⟩ : ∃ W0, W0 = w.alloc (.cells #[.int .u8 p.kind, .string p.file, .string p.text, .int .i64 p.hunk.at_, .slice x.h.oA p.hunk.old.length x.h.oc, .slice x.h.nA p.hunk.new.length x.h.nc, .int .u8 p.edit.kind, .slice x.e.pA p.edit.path.length x.e.pc, .int .i64 p.edit.at_, .int .i64 p.edit.far, .string p.edit.frm, .string p.edit.to, .slice x.e.oA p.edit.old.len x.e.oc, .slice x.e.nA p.edit.new.len x.e.nc] 32) := ⟨_, rfl⟩
  have hb0 : Below w.heap.size w W0 := by rw [hW0]; exact below_alloc _ _
  have hbc : ∀ j v, #[.int .u8 p.kind, .string p.file, .string p.text, .int .i64 p.hunk.at_, .slice x.h.oA p.hunk.old.length x.h.oc, .slice x.h.nA p.hunk.new.length x.h.nc, .int .u8 p.edit.kind, .slice x.e.pA p.edit.path.length x.e.pc, .int .i64 p.edit.at_, .int .i64 p.edit.far, .string p.edit.frm, .string p.edit.to, .slice x.e.oA p.edit.old.len x.e.oc, .slice x.e.nA p.edit.new.len x.e.nc][j]? = some v → ∀ W, Below W0.heap.size W0 W → W.cell? ⟨w.heap.size, j, none⟩ = some v := by
    intro j v hj W hB
    have h0 : W0.cell? ⟨w.heap.size, j, none⟩ = some v := by rw [hW0, Lib.cell_of_heap (heap_alloc_new w _)]; exact hj
    exact (World.cell?_of_block (hB.block _ (block_lt_of_cell h0))).trans h0
  have c0 := hbc 0 _ rfl
  have c1 := hbc 1 _ rfl
  have c2 := hbc 2 _ rfl
  have c3 := hbc 3 _ rfl
  have c4 := hbc 4 _ rfl
  have c5 := hbc 5 _ rfl
  have c6 := hbc 6 _ rfl
  have c7 := hbc 7 _ rfl
  have c8 := hbc 8 _ rfl
  have c9 := hbc 9 _ rfl
  have c10 := hbc 10 _ rfl
  have c11 := hbc 11 _ rfl
  have c12 := hbc 12 _ rfl
  have c13 := hbc 13 _ rfl
  clear hbc
  have Hp := hide (hp.below hb0)
  have Htab := hide (htab.below hb0)
  have Hb0 := hide hb0
  have HW0 := hide hW0
  clear hp htab hb0 hW0
  go_enter Tryz.func3, Tryz.ntmps3
  go_upto_region 1 with fail
  change Code.wp _ _ _ _ (w.alloc (.cells #[.int .u8 p.kind, .string p.file, .string p.text, .int .i64 p.hunk.at_, .slice x.h.oA p.hunk.old.length x.h.oc, .slice x.h.nA p.hunk.new.length x.h.nc, .int .u8 p.edit.kind, .slice x.e.pA p.edit.path.length x.e.pc, .int .i64 p.edit.at_, .int .i64 p.edit.far, .string p.edit.frm, .string p.edit.to, .slice x.e.oA p.edit.old.len x.e.oc, .slice x.e.nA p.edit.new.len x.e.nc] 32))
  rw [← HW0.out]
  clear HW0
  have hr0 : Below W0.heap.size W0 W0 := Below.refl _ _
  go_upto_region 3 with (first
    | (go_at_call 6; (with_reducible refine (patchOf_any Hp.out is25).mono ?_); rintro e1 w1 ⟨⟨r1, rfl, hr1⟩, hB1⟩; have HB1 := hide hB1; by_cases hg : (2500 : Int) < r1)
    | (go_at_call 7; (with_reducible refine (awake_any (Htab.out.below HB1.out)).mono ?_); rintro e2 w2 ⟨rfl, hB2⟩; have HB2 := hide (HB1.out.trans (hB2.mono HB1.out.size)); clear hB2))
  · go_ret
    exact ⟨rfl, Hb0.out.trans (HB2.out.mono Hb0.out.size)⟩
  · clear hr0 hg
    have Hp1 := hide (Hp.out.below hB1)
    go_cut [3] (fun v wx => ∃ (N : Nat) (y : Ph), v = .pointer (some ⟨N, 0, none⟩) ∧ CellsL wx N [.int .u8 p.kind, .string p.file, .string p.text, .int .i64 p.hunk.at_, .slice y.h.oA p.hunk.old.length y.h.oc, .slice y.h.nA p.hunk.new.length y.h.nc, .int .u8 p.edit.kind, .slice y.e.pA p.edit.path.length y.e.pc, .int .i64 p.edit.at_, .int .i64 p.edit.far, .string p.edit.frm, .string p.edit.to, .slice y.e.oA p.edit.old.len y.e.oc, .slice y.e.nA p.edit.new.len y.e.nc] ∧ LentPt (fun _ => True) wx y p ∧ Below W0.heap.size W0 wx)
    case first =>
      go_wp2_with (go_at_call 8; (with_reducible refine (lentPatch_any Hp1.out h1 h2 h3 h4 h5).mono ?_); rintro e2 w2 ⟨y, rfl, hL, hB2⟩; have HLt := hide (hL.mono (S' := fun _ => True) fun _ _ => trivial); have HB2 := hide (HB1.out.trans (hB2.mono HB1.out.size)); clear hL hB2)
      go_meet
      have hN : Below w2.heap.size w2 (w2.alloc (.cells #[.int .u8 p.kind, .string p.file, .string p.text, .int .i64 p.hunk.at_, .slice y.h.oA p.hunk.old.length y.h.oc, .slice y.h.nA p.hunk.new.length y.h.nc, .int .u8 p.edit.kind, .slice y.e.pA p.edit.path.length y.e.pc, .int .i64 p.edit.at_, .int .i64 p.edit.far, .string p.edit.frm, .string p.edit.to, .slice y.e.oA p.edit.old.len y.e.oc, .slice y.e.nA p.edit.new.len y.e.nc] 32)) := below_alloc _ _
      have hcn : CellsL (w2.alloc (.cells #[.int .u8 p.kind, .string p.file, .string p.text, .int .i64 p.hunk.at_, .slice y.h.oA p.hunk.old.length y.h.oc, .slice y.h.nA p.hunk.new.length y.h.nc, .int .u8 p.edit.kind, .slice y.e.pA p.edit.path.length y.e.pc, .int .i64 p.edit.at_, .int .i64 p.edit.far, .string p.edit.frm, .string p.edit.to, .slice y.e.oA p.edit.old.len y.e.oc, .slice y.e.nA p.edit.new.len y.e.nc] 32)) w2.heap.size [.int .u8 p.kind, .string p.file, .string p.text, .int .i64 p.hunk.at_, .slice y.h.oA p.hunk.old.length y.h.oc, .slice y.h.nA p.hunk.new.length y.h.nc, .int .u8 p.edit.kind, .slice y.e.pA p.edit.path.length y.e.pc, .int .i64 p.edit.at_, .int .i64 p.edit.far, .string p.edit.frm, .string p.edit.to, .slice y.e.oA p.edit.old.len y.e.oc, .slice y.e.nA p.edit.new.len y.e.nc] := fun j u hu => by rw [Lib.cell_of_heap (heap_alloc_new w2 _)]; simpa using hu
      exact ⟨_, y, rfl, hcn, HLt.out.below hN, HB2.out.trans (hN.mono HB2.out.size)⟩
    case rest =>
    obtain ⟨N, y, rfl, hC, hLt, hBc⟩ := hcut
    have hNl : N < wc.heap.size := block_lt_of_cell (hC 0 _ rfl)
    have hdc : ∀ j v, [.int .u8 p.kind, .string p.file, .string p.text, .int .i64 p.hunk.at_, .slice y.h.oA p.hunk.old.length y.h.oc, .slice y.h.nA p.hunk.new.length y.h.nc, .int .u8 p.edit.kind, .slice y.e.pA p.edit.path.length y.e.pc, .int .i64 p.edit.at_, .int .i64 p.edit.far, .string p.edit.frm, .string p.edit.to, .slice y.e.oA p.edit.old.len y.e.oc, .slice y.e.nA p.edit.new.len y.e.nc][j]? = some v → ∀ W, Below wc.heap.size wc W → W.cell? ⟨N, j, none⟩ = some v := fun j v hj W hB => (hB.cell (p := ⟨N, j, none⟩) hNl).trans (hC j v hj)
    have d0 := hdc 0 _ rfl
    have d1 := hdc 1 _ rfl
    have d2 := hdc 2 _ rfl
    have d3 := hdc 3 _ rfl
    have d4 := hdc 4 _ rfl
    have d5 := hdc 5 _ rfl
    have d6 := hdc 6 _ rfl
    have d7 := hdc 7 _ rfl
    have d8 := hdc 8 _ rfl
    have d9 := hdc 9 _ rfl
    have d10 := hdc 10 _ rfl
    have d11 := hdc 11 _ rfl
    have d12 := hdc 12 _ rfl
    have d13 := hdc 13 _ rfl
    replace c0 := fun (W : World) (h : Below wc.heap.size wc W) => c0 W (hBc.trans (h.mono hBc.size))
    replace c1 := fun (W : World) (h : Below wc.heap.size wc W) => c1 W (hBc.trans (h.mono hBc.size))
    replace c2 := fun (W : World) (h : Below wc.heap.size wc W) => c2 W (hBc.trans (h.mono hBc.size))
    replace c3 := fun (W : World) (h : Below wc.heap.size wc W) => c3 W (hBc.trans (h.mono hBc.size))
    replace c4 := fun (W : World) (h : Below wc.heap.size wc W) => c4 W (hBc.trans (h.mono hBc.size))
    replace c5 := fun (W : World) (h : Below wc.heap.size wc W) => c5 W (hBc.trans (h.mono hBc.size))
    replace c6 := fun (W : World) (h : Below wc.heap.size wc W) => c6 W (hBc.trans (h.mono hBc.size))
    replace c7 := fun (W : World) (h : Below wc.heap.size wc W) => c7 W (hBc.trans (h.mono hBc.size))
    replace c8 := fun (W : World) (h : Below wc.heap.size wc W) => c8 W (hBc.trans (h.mono hBc.size))
    replace c9 := fun (W : World) (h : Below wc.heap.size wc W) => c9 W (hBc.trans (h.mono hBc.size))
    replace c10 := fun (W : World) (h : Below wc.heap.size wc W) => c10 W (hBc.trans (h.mono hBc.size))
    replace c11 := fun (W : World) (h : Below wc.heap.size wc W) => c11 W (hBc.trans (h.mono hBc.size))
    replace c12 := fun (W : World) (h : Below wc.heap.size wc W) => c12 W (hBc.trans (h.mono hBc.size))
    replace c13 := fun (W : World) (h : Below wc.heap.size wc W) => c13 W (hBc.trans (h.mono hBc.size))
    clear hdc hC hB1
    have Hy := hide hLt.pt
    have HLt := hide hLt
    have Hx := hide (Hp.out.below hBc)
    have HBc := hide hBc
    have HT := hide (Htab.out.below hBc)
    clear hLt hBc Hp1 HB1
    have hr1 : Below wc.heap.size wc wc := Below.refl _ _
    go_wp2_with (first
      | (go_at_call 9; (with_reducible refine (HPut.out _ y wc Hy.out HT.out).mono ?_); rintro e2 w2 ⟨hB2, v2, rfl, o2⟩; obtain ⟨A2, c2, rfl⟩ := o2.shape; have O2 := hide o2; clear o2)
      | (go_at_call 9; (with_reducible refine (HPut.out _ y w2 (Hy.out.below hB2) (HT.out.below hB2)).mono ?_); rintro e3 w3 ⟨hB, v3, rfl, o3⟩; have HB3 := hide hB; have hB3 := hB2.trans (hB.mono hB2.size); obtain ⟨A3, c3, rfl⟩ := o3.shape; have O3 := hide o3; clear o3 hB)
      | (go_at_call 10; (with_reducible refine (HRef.out _ x w3 (Hx.out.below hB3)).mono ?_); rintro e4 w4 ⟨hB, v4, rfl, o4⟩; have HB4 := hide hB; have hB4 := hB3.trans (hB.mono hB3.size); obtain ⟨A4, c4, rfl⟩ := o4.shape; have O4 := hide o4; clear o4 hB)
      | (go_at_call 11; refine (sameBytes_own O2.out HB3.out HB4.out O4.out).mono ?_; rintro e5 w5 ⟨rfl, n5, rfl⟩; have hB5 : Below wc.heap.size wc (w4.drewN n5) := blw_drewN hB4 _)
      | (go_at_call 12; (with_reducible refine (keptPatch_any (HLt.out.below hB5) (Hx.out.below hB5)).mono ?_); rintro e6 w6 ⟨rfl, hB⟩; have HB6 := hide hB; have hB6 := hB5.trans (hB.mono hB5.size); clear hB)
      | (go_at_call 13; refine (apart_last hB2.size O2.out O3.out HB3.out HB4.out HB6.out HL.out).mono ?_; rintro e7 w7 ⟨rfl, hB⟩; have HB7 := hide (hB6.trans hB); clear hB)
      | (go_at_call 7; (with_reducible refine (awake_any (HT.out.below HB7.out)).mono ?_); rintro e8 w8 ⟨rfl, hB8⟩; have HB8 := hide (HB7.out.trans (hB8.mono HB7.out.size)); clear hB8))
    go_ret
    exact ⟨rfl, Hb0.out.trans ((HBc.out.trans (HB8.out.mono HBc.out.size)).mono Hb0.out.size)⟩

end Go.Proofs.YtfhfkbdaglegpaaGreatDoor
