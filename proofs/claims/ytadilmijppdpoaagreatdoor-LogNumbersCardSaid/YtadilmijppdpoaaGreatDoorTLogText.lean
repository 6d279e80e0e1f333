/- A plain strings.Builder: its methods. Printed by gen_builds.py. -/
import Derived.Test.YtadilmijppdpoaaGreatDoorProg
import Derived.Lib.Builder
import Derived.Lib.AppendStr
import Derived.OwnWalk
import Derived.Lib.OthersKept
import Derived.Test.YtadilmijppdpoaaGreatDoorShelf
import Derived.Deep.RegionHeld
import Derived.Test.YtadilmijppdpoaaGreatDoorTBuild
import Derived.Test.YtadilmijppdpoaaGreatDoorTLogA
import Derived.Test.YtadilmijppdpoaaGreatDoorTBase
import Derived.Test.YtadilmijppdpoaaGreatDoorTLogLnK

set_option linter.unusedVariables false
set_option linter.unusedSimpArgs false

namespace Go.Proofs.YtadilmijppdpoaaGreatDoor
open Go.RowKit

theorem bq_t : Tryz.prog.underlying 54 = some (.pointer 57) := by kernel_rfl
theorem bq_u : Tryz.prog.underlying 104 = some .unsafePointer := by kernel_rfl
theorem bq_i : (Tryz.prog.info? 57).map (·.size) = some 2 := by kernel_rfl
theorem bq_l : liesAt Tryz.prog Tryz.prog.depth 57 (2 / Tryz.prog.cellsOf 57) 0 57 1 = true := by kernel_rfl
theorem bq_b : Tryz.prog.underlying 55 = some (.slice 5) := by kernel_rfl
theorem bq_s : Tryz.prog.underlying 9 = some .string := by kernel_rfl
theorem bq_8 : (Tryz.prog.info? 5).map (fun i => (i.zero, i.size, i.bytes)) = some (some (.int .u8 0), 1, 1) := by kernel_rfl
theorem bq_ne : (57 : TypeId) ≠ 5 := by decide

set_option maxHeartbeats 1000000 in
set_option maxRecDepth 1000000 in
theorem copyCheckS_used (b : Nat) (w : World) (h0 : w.cell? ⟨b, 0, none⟩ = some (.pointer (some ⟨b, 0, none⟩))) :
    Calls Tryz.prog 44 #[.pointer (some ⟨b, 0, none⟩)] w fun e w' => e = .returned (.tuple #[]) ∧ w' = w := by
  obtain ⟨j, hj, _⟩ := Option.map_eq_some_iff.1 bq_i
  go_enter Tryz.func44, Tryz.ntmps44
  go_wp2
  rw [Lib.run_neq_ptr_same w _ bq_t hj]
  go_wp2
  go_end0
  exact ⟨rfl, rfl⟩
set_option maxHeartbeats 1000000 in
set_option maxRecDepth 1000000 in
theorem copyCheckS_fresh (b : Nat) (w : World) (h0 : w.cell? ⟨b, 0, none⟩ = some (.pointer none)) (hsh : w.shape? b = some (57, 2)) (hfz : w.frozen? ⟨b, 0, none⟩ = false) :
    Calls Tryz.prog 44 #[.pointer (some ⟨b, 0, none⟩)] w fun e w' => e = .returned (.tuple #[]) ∧ w' = w.setCell ⟨b, 0, none⟩ (.pointer (some ⟨b, 0, none⟩)) := by
  obtain ⟨j, hj, hjs⟩ := Option.map_eq_some_iff.1 bq_i
  go_enter Tryz.func44, Tryz.ntmps44
  go_wp2
  rw [Lib.run_to_unsafe w ⟨b, 0, none⟩ bq_t bq_u hj (by rw [hjs]; decide) hsh (Nat.zero_lt_succ 1)]
  simp only [Result.andThen]
  rw [Oper.upon_value]
  go_wp2
  rw [run_callFunc_extern Tryz.func74 (by kernel_rfl) (by kernel_rfl) (by kernel_rfl) (e := Extern.AbiNoEscape.same) (by kernel_rfl)]
  rw [Lib.run_noEscape]
  simp only [Result.andThen]
  rw [Oper.upon_value]
  go_wp2
  rw [Lib.run_from_unsafe w ⟨b, 0, none⟩ bq_u bq_t hj hsh bq_l]
  simp only [Result.andThen]
  rw [Oper.upon_value]
  go_wp2
  go_end0
  exact ⟨rfl, rfl⟩

abbrev SbAt (B b : Nat) (p : Value) (bs : List Value) (w : World) : Prop := Lib.BuilderAt 57 5 B b p bs w
abbrev IsSb (B b : Nat) (bs : List Value) (w : World) : Prop := Lib.IsBuilder 57 5 B b bs w
theorem sb_copyCheck (B b : Nat) (bs : List Value) (w : World) (h : IsSb B b bs w) :
    Calls Tryz.prog 44 #[.pointer (some ⟨b, 0, none⟩)] w fun e w' => e = .returned (.tuple #[]) ∧ (SbAt B b (.pointer (some ⟨b, 0, none⟩)) bs w' ∧ Below B w w' ∧ Lib.OthersKept 5 (some b) w w') := by
  rcases h with h | h
  · refine (copyCheckS_fresh b w h.cell0 h.shape h.frozen0).mono ?_
    rintro e w' ⟨rfl, rfl⟩
    exact ⟨rfl, h.used _, (Below.refl B w).setCell (p := ⟨b, 0, none⟩) h.1 _, (Lib.OthersKept.refl _ _ w).setCell ⟨b, 0, none⟩ rfl _⟩
  · refine (copyCheckS_used b w h.cell0).mono ?_
    rintro e w' ⟨rfl, rfl⟩
    exact ⟨rfl, h, Below.refl B _, Lib.OthersKept.refl _ _ _⟩

set_option maxHeartbeats 1000000 in
set_option maxRecDepth 1000000 in
theorem sb_len (B b : Nat) (bs : List Value) (w : World) (h : IsSb B b bs w) :
    Calls Tryz.prog 87 #[.pointer (some ⟨b, 0, none⟩)] w fun e w' => e = .returned (.int .i64 bs.length) ∧ w' = w := by
  obtain ⟨p, hB, v, hbk, hown, hne⟩ : ∃ p, SbAt B b p bs w := by
    rcases h with h | h
    · exact ⟨_, h⟩
    · exact ⟨_, h⟩
  obtain ⟨ao, cap, rfl⟩ : ∃ ao cap, v = .slice ao bs.length cap := by
    rcases hown.2 with ⟨hv, h0⟩ | ⟨g, cap, cur, hv, _⟩
    · exact ⟨none, 0, by rw [hv, h0]⟩
    · exact ⟨_, _, hv⟩
  have c1 : w.cell? ⟨b, 1, none⟩ = some (.slice ao bs.length cap) := by rw [Lib.cell_of_heap hbk]; rfl
  go_enter Tryz.func87, Tryz.ntmps87
  go_wp2
  go_ret
  exact ⟨rfl, rfl⟩

set_option maxHeartbeats 2000000 in
set_option maxRecDepth 1000000 in
theorem sb_writeString (B b : Nat) (bs : List Value) (s : ByteArray) (w : World) (h : IsSb B b bs w) (hlen : bs.length + s.size ≤ 140737488355328) (hBw : B ≤ w.heap.size) :
    Calls Tryz.prog 22 #[.pointer (some ⟨b, 0, none⟩), .string s] w fun e w' => e = .returned (.tuple #[.int .i64 s.size, .nilIface]) ∧ (SbAt B b (.pointer (some ⟨b, 0, none⟩)) (bs ++ Lib.strCells s) w' ∧ Below B w w' ∧ Lib.OthersKept 5 (some b) w w') := by
  obtain ⟨i0, hi, hz0, hz1, hz2⟩ := info_parts bq_8
  have H := hide h
  clear h
  go_enter Tryz.func22, Tryz.ntmps22
  go_wp2_with (go_at_call 44; refine (sb_copyCheck B b bs _ H.out).mono ?_)
  rintro e w1 ⟨rfl, h1, hb1, ho1⟩
  obtain ⟨hB, v, hbk, hown, hne⟩ := h1
  have c0 : w1.cell? ⟨b, 0, none⟩ = some (.pointer (some ⟨b, 0, none⟩)) := by rw [Lib.cell_of_heap hbk]; rfl
  have c1 : w1.cell? ⟨b, 1, none⟩ = some v := by rw [Lib.cell_of_heap hbk]; rfl
  go_wp2_with (at_builtin; refine Lib.wpList_append_own_string _ rfl _ _ 55 9 rfl B 5 i0 bq_b bq_s hi hz0 hz1 hz2 _ _ _ rfl hown s rfl ?c3 ?c4 ?c5 ?_)
  case c3 => unfold maxLen; omega
  case c4 => omega
  case c5 => have := hb1.size; omega
  intro v' w2 hown' hgrow _
  have hlt : b < w1.heap.size := by
    rcases Nat.lt_or_ge b w1.heap.size with h' | h'
    · exact h'
    · simp [Array.getElem?_eq_none h'] at hbk
  have hb2 : w2.heap[b]? = some (.cells #[.pointer (some ⟨b, 0, none⟩), v] 57 (0, 0)) := by
    rw [hgrow.block b hlt (fun e => hne e.symm)]
    exact hbk
  have d0 : w2.cell? ⟨b, 0, none⟩ = some (.pointer (some ⟨b, 0, none⟩)) := by rw [Lib.cell_of_heap hb2]; rfl
  have d1 : w2.cell? ⟨b, 1, none⟩ = some v := by rw [Lib.cell_of_heap hb2]; rfl
  have f1 : w2.frozen? ⟨b, 1, none⟩ = false := Lib.frozen_of_heap hb2 1
  obtain ⟨ao, n', cap, rfl⟩ : ∃ ao n' cap, v' = .slice ao n' cap := by
    rcases hown'.2 with ⟨hv, _⟩ | ⟨g, cap, cur, hv, _⟩
    · exact ⟨_, _, _, hv⟩
    · exact ⟨_, _, _, hv⟩
  go_wp2
  go_ret2
  refine ⟨rfl, ?_, ?_, ?_⟩
  · exact Lib.BuilderAt.put (T := 57) (e := 5) hB hb2 (bs' := bs ++ Lib.strCells s) (by simpa [Lib.strCells_length] using hown') bq_ne
  · exact (hb1.grown hgrow (by have := hb1.size; omega) (fun k hk => (hown.lt k hk).1)).setCell (p := ⟨b, 1, none⟩) hB _
  · exact (ho1.grown hgrow (own_kind hown)).setCell ⟨b, 1, none⟩ rfl _

set_option maxHeartbeats 2000000 in
set_option maxRecDepth 1000000 in
theorem sb_writeByte (B b : Nat) (bs : List Value) (c : Int) (w : World) (h : IsSb B b bs w) (hlen : bs.length + 1 ≤ 140737488355328) (hBw : B ≤ w.heap.size) :
    Calls Tryz.prog 88 #[.pointer (some ⟨b, 0, none⟩), .int .u8 c] w fun e w' => e = .returned .nilIface ∧ (SbAt B b (.pointer (some ⟨b, 0, none⟩)) (bs ++ [.int .u8 c]) w' ∧ Below B w w' ∧ Lib.OthersKept 5 (some b) w w') := by
  obtain ⟨i0, hi, hz0, hz1, hz2⟩ := info_parts bq_8
  have H := hide h
  clear h
  go_enter Tryz.func88, Tryz.ntmps88
  go_wp2_with (go_at_call 44; refine (sb_copyCheck B b bs _ H.out).mono ?_)
  rintro e w1 ⟨rfl, h1, hb1, ho1⟩
  obtain ⟨hB, v, hbk, hown, hne⟩ := h1
  have hlt : b < w1.heap.size := by
    rcases Nat.lt_or_ge b w1.heap.size with h' | h'
    · exact h'
    · simp [Array.getElem?_eq_none h'] at hbk
  have c0 : w1.cell? ⟨b, 0, none⟩ = some (.pointer (some ⟨b, 0, none⟩)) := by rw [Lib.cell_of_heap hbk]; rfl
  have c1 : w1.cell? ⟨b, 1, none⟩ = some v := by rw [Lib.cell_of_heap hbk]; rfl
  go_wp2_with (at_builtin; refine wpList_append_own _ rfl _ _ 55 rfl B 5 i0 (.int .u8 0) 1 1 bq_b hi hz0 hz1 hz2 rfl (by decide) _ _ _ rfl (hown.alloc _) ⟨w1.heap.size, 0, none⟩ 1 1 [.int .u8 c] rfl rfl (cell_one_new _ _ _) (by intro u hu; simp at hu; subst hu; rfl) ?c3 ?c4 ?c5 ?_)
  case c3 => unfold maxLen; omega
  case c4 => omega
  case c5 => have := hb1.size; simp; omega
  intro v' w2 hown' hgrow _
  have hb2 : w2.heap[b]? = some (.cells #[.pointer (some ⟨b, 0, none⟩), v] 57 (0, 0)) := by
    rw [hgrow.block b (by simp; omega) (fun e => hne e.symm), Below.heap_alloc w1 _ b hlt]
    exact hbk
  have d0 : w2.cell? ⟨b, 0, none⟩ = some (.pointer (some ⟨b, 0, none⟩)) := by rw [Lib.cell_of_heap hb2]; rfl
  have d1 : w2.cell? ⟨b, 1, none⟩ = some v := by rw [Lib.cell_of_heap hb2]; rfl
  have f1 : w2.frozen? ⟨b, 1, none⟩ = false := Lib.frozen_of_heap hb2 1
  obtain ⟨ao, n', cap, rfl⟩ : ∃ ao n' cap, v' = .slice ao n' cap := by
    rcases hown'.2 with ⟨hv, _⟩ | ⟨g, cap, cur, hv, _⟩
    · exact ⟨_, _, _, hv⟩
    · exact ⟨_, _, _, hv⟩
  go_wp2
  go_ret
  refine ⟨rfl, ?_, ?_, ?_⟩
  · exact Lib.BuilderAt.put (T := 57) (e := 5) hB hb2 (bs' := bs ++ [.int .u8 c]) (by simpa using hown') bq_ne
  · exact ((hb1.alloc (by have := hb1.size; omega) _).grown hgrow (by have := hb1.size; simp; omega) (fun k hk => (hown.lt k hk).1)).setCell (p := ⟨b, 1, none⟩) hB _
  · exact ((ho1.alloc _).grown hgrow (own_kind (hown.alloc _))).setCell ⟨b, 1, none⟩ rfl _

theorem IsSb.below {B b : Nat} {bs : List Value} {w w' : World} (h : IsSb B b bs w) (hb : Below w.heap.size w w') : IsSb B b bs w' := by
  have key : ∀ p, SbAt B b p bs w → SbAt B b p bs w' := by
    rintro p ⟨hB, v, hbk, hown, hne⟩
    refine ⟨hB, v, (hb.block b (Array.getElem?_eq_some_iff.1 hbk).1).trans hbk, ⟨hown.1, ?_⟩, hne⟩
    rcases hown.2 with ⟨rfl, h0⟩ | ⟨g, cap, cur, rfl, hbg, hg, hr⟩
    · exact .inl ⟨rfl, h0⟩
    · exact .inr ⟨g, cap, cur, rfl, hbg, (hb.block g (Array.getElem?_eq_some_iff.1 hg).1).trans hg, hr⟩
  exact h.elim (fun h => .inl (key _ h)) (fun h => .inr (key _ h))

end Go.Proofs.YtadilmijppdpoaaGreatDoor

namespace Go.Proofs.YtadilmijppdpoaaGreatDoor
open Go.RowKit

/-- a named patch's line -/
noncomputable def sayB (d : Nd) : List UInt8 := d.name.data.toList ++ ([58, 32] ++ (saidB d.pt ++ [10]))
noncomputable def sayAll (l : List Nd) : List UInt8 := (l.map sayB).flatten
theorem sayAll_app (l m : List Nd) : sayAll (l ++ m) = sayAll l ++ sayAll m := by simp [sayAll]
/-- the same as a string, as the code puts it together -/
noncomputable abbrev sayS (d : Nd) : ByteArray := d.name ++ ⟨#[58, 32]⟩ ++ ⟨(saidB d.pt).toArray⟩ ++ ⟨#[10]⟩
theorem sayS_list (d : Nd) : (sayS d).data.toList = sayB d := by
  simp [sayS, sayB]
theorem sayS_size (d : Nd) : (sayS d).size = (sayB d).length := by
  rw [← sayS_list]
  show (sayS d).data.size = (sayS d).data.toList.length
  rw [Array.length_toList]
theorem sayAll_next {l : List Nd} {q : Nat} {d : Nd} (h : l[q]? = some d) : sayAll (l.take (q + 1)) = sayAll (l.take q) ++ sayB d := by
  obtain ⟨hq, e⟩ := List.getElem?_eq_some_iff.1 h
  rw [List.take_succ_eq_append_getElem hq, sayAll_app, e]
  simp [sayAll]
theorem sayAll_part {l : List Nd} {q : Nat} {d : Nd} (h : l[q]? = some d) : (sayAll (l.take q)).length + (sayB d).length ≤ (sayAll l).length := by
  have h1 := sayAll_next h
  have h2 : sayAll l = sayAll (l.take (q + 1)) ++ sayAll (l.drop (q + 1)) := by rw [← sayAll_app, List.take_append_drop]
  rw [h2, h1]
  simp only [List.length_append]
  omega
theorem Lib_app (a b : List UInt8) : Lib.byteCells (a ++ b) = Lib.byteCells a ++ Lib.byteCells b := by simp [Lib.byteCells]
/-- what a row of named patches must keep to be told -/
def NdFit (l : List Nd) : Prop := ∀ d ∈ l, d.pt.edit.frm.size + d.pt.edit.to.size ≤ 9223372036854775807 ∧ (ptB d.pt).length ≤ 549755813888

set_option maxHeartbeats 4000000 in
set_option maxRecDepth 1000000 in
theorem text_any {S : Nat → Prop} {A : Option Addr} {c : Nat} {l : List Nd} {w : World} (h : NdIn S w A l) (hl : l.length ≤ 9223372036854775807) (htab : TabOk w) (hpow : TabP w.heap.size w) (hfit : NdFit l) (hlen : (sayAll l).length ≤ 140737488355328) :
    Calls Tryz.prog 10 #[.slice A l.length c] w fun e w' => e = .returned (.string ⟨(sayAll l).toArray⟩) ∧ Below w.heap.size w w' := by
  have H := hide h
  have HT := hide htab
  have HP := hide hpow
  have HF := hide hfit
  have Hlen := hide hlen
  clear h htab hpow hfit hlen
  have H0 : Hid (IsSb w.heap.size w.heap.size (Lib.byteCells (sayAll (l.take 0))) (w.alloc (.cells #[.pointer none, .slice none 0 0] 57))) := hide (Lib.fresh_isBuilder _ _ _)
  go_enter Tryz.func10, Tryz.ntmps10
  go_wp2_with fail
  go_loopw [8] (fun i wr => ∃ q : Nat, q ≤ l.length ∧ i = .int .i64 q ∧ Hid (IsSb w.heap.size w.heap.size (Lib.byteCells (sayAll (l.take q))) wr) ∧ Hid (Below w.heap.size w wr) ∧ w.heap.size < wr.heap.size) (fun i _ => l.length - (intOf i).toNat)
  case atStart => exact ⟨0, Nat.zero_le _, rfl, H0, hide (below_alloc _ _), by simp⟩
  case round =>
    obtain ⟨q, hq, rfl, HL', HB', hwr⟩ := hrel
    have hsr := HB'.out.size
    by_cases hlt : q < l.length
    · obtain ⟨b, o, x, d, rfl, hd0, ⟨c0, c1, c2, c3, c4, c5, c6, c7, c8, c9, c10, c11, c12, c13, c14⟩, hsz, hp⟩ := (H.out.below HB'.out).at_ hlt
      have hmem : d ∈ l := List.mem_of_getElem? hd0
      have hf := HF.out d hmem
      have Hroom : Hid ((Lib.byteCells (sayAll (l.take q))).length + (sayS d).size ≤ 140737488355328) := hide (by rw [Lib.byteCells_length, sayS_size]; exact Nat.le_trans (sayAll_part hd0) Hlen.out)
      have Hnx := hide (sayAll_next hd0)
      have HLn : Hid (∀ W, Below wr.heap.size wr W → Calls Tryz.prog 8 #[.agg #[.int .u8 d.pt.kind, .string d.pt.file, .string d.pt.text, .int .i64 d.pt.hunk.at_, .slice x.h.oA d.pt.hunk.old.length x.h.oc, .slice x.h.nA d.pt.hunk.new.length x.h.nc, .int .u8 d.pt.edit.kind, .slice x.e.pA d.pt.edit.path.length x.e.pc, .int .i64 d.pt.edit.at_, .int .i64 d.pt.edit.far, .string d.pt.edit.frm, .string d.pt.edit.to, .slice x.e.oA d.pt.edit.old.len x.e.oc, .slice x.e.nA d.pt.edit.new.len x.e.nc]] W fun e w' => e = .returned (.string ⟨(saidB d.pt).toArray⟩) ∧ Below W.heap.size W w') :=
        hide (fun W hW => line_any (hp.below hW) ((HT.out.below HB'.out).below hW) ((HP.out.below (blw_up HB'.out hW)).up (Nat.le_trans hsr hW.size)) hf.1 hf.2)
      have hzz := Hroom.out
      rw [Lib.byteCells_length, sayS_size] at hzz
      have hzr : (sayB d).length = d.name.size + 2 + (saidB d.pt).length + 1 := by
        have e1 : d.name.data.toList.length = d.name.size := rfl
        simp only [sayB, List.length_append, List.length_cons, List.length_nil, e1]
        omega
      have hz1 : ¬ 9223372036854775807 < d.name.size + 2 := by omega
      have hz2 : ¬ 9223372036854775807 < d.name.size + 2 + (saidB d.pt).length := by omega
      have hz3 : ¬ 9223372036854775807 < d.name.size + 2 + (saidB d.pt).length + 1 := by omega
      clear hf hp hmem hd0 hzz hzr
      generalize sayAll (l.take q) = M at HL' Hroom Hnx
      go_wp2_with fail
      have hX : (wr.alloc (.cells #[.string d.name, .int .u8 d.pt.kind, .string d.pt.file, .string d.pt.text, .int .i64 d.pt.hunk.at_, .slice x.h.oA d.pt.hunk.old.length x.h.oc, .slice x.h.nA d.pt.hunk.new.length x.h.nc, .int .u8 d.pt.edit.kind, .slice x.e.pA d.pt.edit.path.length x.e.pc, .int .i64 d.pt.edit.at_, .int .i64 d.pt.edit.far, .string d.pt.edit.frm, .string d.pt.edit.to, .slice x.e.oA d.pt.edit.old.len x.e.oc, .slice x.e.nA d.pt.edit.new.len x.e.nc] 39)).heap[wr.heap.size]? = some (.cells #[.string d.name, .int .u8 d.pt.kind, .string d.pt.file, .string d.pt.text, .int .i64 d.pt.hunk.at_, .slice x.h.oA d.pt.hunk.old.length x.h.oc, .slice x.h.nA d.pt.hunk.new.length x.h.nc, .int .u8 d.pt.edit.kind, .slice x.e.pA d.pt.edit.path.length x.e.pc, .int .i64 d.pt.edit.at_, .int .i64 d.pt.edit.far, .string d.pt.edit.frm, .string d.pt.edit.to, .slice x.e.oA d.pt.edit.old.len x.e.oc, .slice x.e.nA d.pt.edit.new.len x.e.nc] 39) := heap_alloc_new wr _
      refine wp_region_held_drew (S := fun w' => w'.heap[wr.heap.size]? = some (.cells #[.string d.name, .int .u8 d.pt.kind, .string d.pt.file, .string d.pt.text, .int .i64 d.pt.hunk.at_, .slice x.h.oA d.pt.hunk.old.length x.h.oc, .slice x.h.nA d.pt.hunk.new.length x.h.nc, .int .u8 d.pt.edit.kind, .slice x.e.pA d.pt.edit.path.length x.e.pc, .int .i64 d.pt.edit.at_, .int .i64 d.pt.edit.far, .string d.pt.edit.frm, .string d.pt.edit.to, .slice x.e.oA d.pt.edit.old.len x.e.oc, .slice x.e.nA d.pt.edit.new.len x.e.nc] 39)) (by kernel_rfl) hX (fun hHeld => ?_)
      have hd : Below (wr.alloc (.cells #[.string d.name, .int .u8 d.pt.kind, .string d.pt.file, .string d.pt.text, .int .i64 d.pt.hunk.at_, .slice x.h.oA d.pt.hunk.old.length x.h.oc, .slice x.h.nA d.pt.hunk.new.length x.h.nc, .int .u8 d.pt.edit.kind, .slice x.e.pA d.pt.edit.path.length x.e.pc, .int .i64 d.pt.edit.at_, .int .i64 d.pt.edit.far, .string d.pt.edit.frm, .string d.pt.edit.to, .slice x.e.oA d.pt.edit.old.len x.e.oc, .slice x.e.nA d.pt.edit.new.len x.e.nc] 39)).heap.size (wr.alloc (.cells #[.string d.name, .int .u8 d.pt.kind, .string d.pt.file, .string d.pt.text, .int .i64 d.pt.hunk.at_, .slice x.h.oA d.pt.hunk.old.length x.h.oc, .slice x.h.nA d.pt.hunk.new.length x.h.nc, .int .u8 d.pt.edit.kind, .slice x.e.pA d.pt.edit.path.length x.e.pc, .int .i64 d.pt.edit.at_, .int .i64 d.pt.edit.far, .string d.pt.edit.frm, .string d.pt.edit.to, .slice x.e.oA d.pt.edit.old.len x.e.oc, .slice x.e.nA d.pt.edit.new.len x.e.nc] 39)) (wr.alloc (.cells #[.string d.name, .int .u8 d.pt.kind, .string d.pt.file, .string d.pt.text, .int .i64 d.pt.hunk.at_, .slice x.h.oA d.pt.hunk.old.length x.h.oc, .slice x.h.nA d.pt.hunk.new.length x.h.nc, .int .u8 d.pt.edit.kind, .slice x.e.pA d.pt.edit.path.length x.e.pc, .int .i64 d.pt.edit.at_, .int .i64 d.pt.edit.far, .string d.pt.edit.frm, .string d.pt.edit.to, .slice x.e.oA d.pt.edit.old.len x.e.oc, .slice x.e.nA d.pt.edit.new.len x.e.nc] 39)).drew := blw_drewN (Below.refl _ _) 1
      have hsN : wr.heap.size < (wr.alloc (.cells #[.string d.name, .int .u8 d.pt.kind, .string d.pt.file, .string d.pt.text, .int .i64 d.pt.hunk.at_, .slice x.h.oA d.pt.hunk.old.length x.h.oc, .slice x.h.nA d.pt.hunk.new.length x.h.nc, .int .u8 d.pt.edit.kind, .slice x.e.pA d.pt.edit.path.length x.e.pc, .int .i64 d.pt.edit.at_, .int .i64 d.pt.edit.far, .string d.pt.edit.frm, .string d.pt.edit.to, .slice x.e.oA d.pt.edit.old.len x.e.oc, .slice x.e.nA d.pt.edit.new.len x.e.nc] 39)).drew.heap.size := by show wr.heap.size < (wr.alloc (.cells #[.string d.name, .int .u8 d.pt.kind, .string d.pt.file, .string d.pt.text, .int .i64 d.pt.hunk.at_, .slice x.h.oA d.pt.hunk.old.length x.h.oc, .slice x.h.nA d.pt.hunk.new.length x.h.nc, .int .u8 d.pt.edit.kind, .slice x.e.pA d.pt.edit.path.length x.e.pc, .int .i64 d.pt.edit.at_, .int .i64 d.pt.edit.far, .string d.pt.edit.frm, .string d.pt.edit.to, .slice x.e.oA d.pt.edit.old.len x.e.oc, .slice x.e.nA d.pt.edit.new.len x.e.nc] 39)).heap.size; simp
      generalize hwD : (wr.alloc (.cells #[.string d.name, .int .u8 d.pt.kind, .string d.pt.file, .string d.pt.text, .int .i64 d.pt.hunk.at_, .slice x.h.oA d.pt.hunk.old.length x.h.oc, .slice x.h.nA d.pt.hunk.new.length x.h.nc, .int .u8 d.pt.edit.kind, .slice x.e.pA d.pt.edit.path.length x.e.pc, .int .i64 d.pt.edit.at_, .int .i64 d.pt.edit.far, .string d.pt.edit.frm, .string d.pt.edit.to, .slice x.e.oA d.pt.edit.old.len x.e.oc, .slice x.e.nA d.pt.edit.new.len x.e.nc] 39)).drew = wD at hd hsN hHeld ⊢
      clear hwD hX
      refine wpAnyH_take (i := 0) (v := ?_) rfl (by kernel_rfl) (by kernel_rfl) (by kernel_rfl) (fun _ _ _ h => h) (Or.inl ⟨by rfl, ?_⟩) hHeld ?_
      rotate_left
      · intro w' hSw
        first | (go_simp; done) | (go_simp; with_reducible rfl)
      try simp only [Act.put, List.getElem_toArray, List.getElem_cons_zero, List.getElem_cons_succ, List.setIfInBounds_toArray, List.set_cons_zero, List.set_cons_succ]
      refine wpAnyH_take (i := 1) (v := ?_) rfl (by kernel_rfl) (by kernel_rfl) (by kernel_rfl) (fun _ _ _ h => h) (Or.inl ⟨by rfl, ?_⟩) hHeld ?_
      rotate_left
      · intro w' hSw
        have hc : ∀ o, w'.cell? ⟨wr.heap.size, o, none⟩ = (#[.string d.name, .int .u8 d.pt.kind, .string d.pt.file, .string d.pt.text, .int .i64 d.pt.hunk.at_, .slice x.h.oA d.pt.hunk.old.length x.h.oc, .slice x.h.nA d.pt.hunk.new.length x.h.nc, .int .u8 d.pt.edit.kind, .slice x.e.pA d.pt.edit.path.length x.e.pc, .int .i64 d.pt.edit.at_, .int .i64 d.pt.edit.far, .string d.pt.edit.frm, .string d.pt.edit.to, .slice x.e.oA d.pt.edit.old.len x.e.oc, .slice x.e.nA d.pt.edit.new.len x.e.nc] : Array Value)[o]? := fun o => Lib.cell_of_heap hSw o
        first | (go_simp; done) | (go_simp; with_reducible rfl)
      try simp only [Act.put, List.getElem_toArray, List.getElem_cons_zero, List.getElem_cons_succ, List.setIfInBounds_toArray, List.set_cons_zero, List.set_cons_succ]
      refine wpAnyH_take (i := 2) (v := ?_) rfl (by kernel_rfl) (by kernel_rfl) (by kernel_rfl) (fun _ _ _ h => h) (Or.inl ⟨by rfl, ?_⟩) hHeld ?_
      rotate_left
      · intro w' hSw
        first | (go_simp; done) | (go_simp; with_reducible rfl)
      try simp only [Act.put, List.getElem_toArray, List.getElem_cons_zero, List.getElem_cons_succ, List.setIfInBounds_toArray, List.set_cons_zero, List.set_cons_succ]
      refine wpAnyH_take (i := 3) (v := ?_) rfl (by kernel_rfl) (by kernel_rfl) (by kernel_rfl) (fun _ _ _ h => h) (Or.inl ⟨by rfl, ?_⟩) hHeld ?_
      rotate_left
      · intro w' hSw
        first | (go_simp; done) | (go_simp; with_reducible rfl)
      try simp only [Act.put, List.getElem_toArray, List.getElem_cons_zero, List.getElem_cons_succ, List.setIfInBounds_toArray, List.set_cons_zero, List.set_cons_succ]
      refine wpAnyH_take (i := 4) (v := ?_) rfl (by kernel_rfl) (by kernel_rfl) (by kernel_rfl) (fun _ _ _ h => h) (Or.inl ⟨by rfl, ?_⟩) hHeld ?_
      rotate_left
      · intro w' hSw
        have hc : ∀ o, w'.cell? ⟨wr.heap.size, o, none⟩ = (#[.string d.name, .int .u8 d.pt.kind, .string d.pt.file, .string d.pt.text, .int .i64 d.pt.hunk.at_, .slice x.h.oA d.pt.hunk.old.length x.h.oc, .slice x.h.nA d.pt.hunk.new.length x.h.nc, .int .u8 d.pt.edit.kind, .slice x.e.pA d.pt.edit.path.length x.e.pc, .int .i64 d.pt.edit.at_, .int .i64 d.pt.edit.far, .string d.pt.edit.frm, .string d.pt.edit.to, .slice x.e.oA d.pt.edit.old.len x.e.oc, .slice x.e.nA d.pt.edit.new.len x.e.nc] : Array Value)[o]? := fun o => Lib.cell_of_heap hSw o
        first | (go_simp; done) | (go_simp; with_reducible rfl)
      try simp only [Act.put, List.getElem_toArray, List.getElem_cons_zero, List.getElem_cons_succ, List.setIfInBounds_toArray, List.set_cons_zero, List.set_cons_succ]
      refine wpAnyH_ready (rs := [5]) (by kernel_rfl) (by simp) ?_
      refine AllReadyH.cons rfl (fun K hK => ?_) AllReadyH.nil
      go_simp
      go_wp2_with (go_at_call 8; (with_reducible refine (HLn.out wD (blw_up (below_alloc wr _) hd)).mono ?_); rintro e4 w4 ⟨rfl, hB4⟩)
      have hHeld4 : w4.heap[wr.heap.size]? = some (.cells #[.string d.name, .int .u8 d.pt.kind, .string d.pt.file, .string d.pt.text, .int .i64 d.pt.hunk.at_, .slice x.h.oA d.pt.hunk.old.length x.h.oc, .slice x.h.nA d.pt.hunk.new.length x.h.nc, .int .u8 d.pt.edit.kind, .slice x.e.pA d.pt.edit.path.length x.e.pc, .int .i64 d.pt.edit.at_, .int .i64 d.pt.edit.far, .string d.pt.edit.frm, .string d.pt.edit.to, .slice x.e.oA d.pt.edit.old.len x.e.oc, .slice x.e.nA d.pt.edit.new.len x.e.nc] 39) := (hB4.block _ hsN).trans hHeld
      refine hK.out _ _ hHeld4 (fun _ => ?_)
      clear hK K
      try simp only [Act.put, List.getElem_toArray, List.getElem_cons_zero, List.getElem_cons_succ, List.setIfInBounds_toArray, List.set_cons_zero, List.set_cons_succ]
      refine wpAnyH_take (i := 6) (v := ?_) rfl (by kernel_rfl) (by kernel_rfl) (by kernel_rfl) (fun _ _ _ h => h) (Or.inl ⟨by rfl, ?_⟩) hHeld4 ?_
      rotate_left
      · intro w' hSw
        first | (go_simp; done) | (go_simp; with_reducible rfl)
      try simp only [Act.put, List.getElem_toArray, List.getElem_cons_zero, List.getElem_cons_succ, List.setIfInBounds_toArray, List.set_cons_zero, List.set_cons_succ]
      refine wpAnyH_take (i := 7) (v := ?_) rfl (by kernel_rfl) (by kernel_rfl) (by kernel_rfl) (fun _ _ _ h => h) (Or.inl ⟨by rfl, ?_⟩) hHeld4 ?_
      rotate_left
      · intro w' hSw
        first | (go_simp; done) | (go_simp; with_reducible rfl)
      try simp only [Act.put, List.getElem_toArray, List.getElem_cons_zero, List.getElem_cons_succ, List.setIfInBounds_toArray, List.set_cons_zero, List.set_cons_succ]
      have HW4 : Hid (Below wr.heap.size wr w4) := hide ((below_alloc wr _).trans ((hd.mono (by simp)).trans (hB4.mono (by omega))))
      have HL4 := hide (HL'.out.below HW4.out)
      have HB4 := hide (HB'.out.trans (HW4.out.mono hsr))
      have hs4 := HB4.out.size
      refine wpAnyH_ready (rs := [8]) (by kernel_rfl) (by simp) ?_
      refine AllReadyH.cons rfl (fun K hK => ?_) AllReadyH.nil
      go_simp
      go_wp2_with (go_at_call 22; (with_reducible refine (sb_writeString _ _ _ _ _ HL4.out Hroom.out hs4).mono ?_); rintro e5 w5 ⟨rfl, h5, hb5, hk5⟩)
      have hHeld5 : w5.heap[wr.heap.size]? = some (.cells #[.string d.name, .int .u8 d.pt.kind, .string d.pt.file, .string d.pt.text, .int .i64 d.pt.hunk.at_, .slice x.h.oA d.pt.hunk.old.length x.h.oc, .slice x.h.nA d.pt.hunk.new.length x.h.nc, .int .u8 d.pt.edit.kind, .slice x.e.pA d.pt.edit.path.length x.e.pc, .int .i64 d.pt.edit.at_, .int .i64 d.pt.edit.far, .string d.pt.edit.frm, .string d.pt.edit.to, .slice x.e.oA d.pt.edit.old.len x.e.oc, .slice x.e.nA d.pt.edit.new.len x.e.nc] 39) := hk5 _ _ hHeld4 (fun e => by have := Option.some.inj e; omega) (fun c f e => by injection e with _ e2 _; exact absurd e2 (by decide))
      refine hK.out _ _ hHeld5 (fun _ => ?_)
      clear hK K
      try simp only [Act.put, List.getElem_toArray, List.getElem_cons_zero, List.getElem_cons_succ, List.setIfInBounds_toArray, List.set_cons_zero, List.set_cons_succ]
      have H5 := hide h5
      have HB5 := hide (HB4.out.trans hb5)
      have hs5 := hb5.size
      clear h5 hb5 hk5
      refine wpAnyH_done (by kernel_rfl) ?_ _
      try simp only [Act.put, List.getElem_toArray, List.getElem_cons_zero, List.getElem_cons_succ, List.setIfInBounds_toArray, List.set_cons_zero, List.set_cons_succ]
      go_wp2_with fail
      go_roundw
      case rel => exact ⟨q + 1, by omega, by go_num, hide (by rw [Hnx.out, Lib_app, ← sayS_list, str_cells]; exact .inr H5.out), HB5, by have := HB5.out.size; have := HB4.out.size; have := HW4.out.size; omega⟩
      case measure => simp [intOf]; omega
    · have hqe : q = l.length := by omega
      subst hqe
      have Hst : Hid (Calls Tryz.prog 18 #[.pointer (some ⟨w.heap.size, 0, none⟩)] wr fun e w' => e = .returned (.string ⟨(sayAll l).toArray⟩) ∧ Below w.heap.size wr w') := hide (by
        have h1 := HL'.out
        rw [List.take_length] at h1
        exact Tryz.Builder_String_any _ _ _ _ h1 hsr)
      go_wp2_with (go_at_call 18; (with_reducible refine Hst.out.mono ?_); rintro e6 w6 ⟨rfl, hB6⟩; have HB6 := hide (HB'.out.trans hB6); clear hB6)
      go_ret
      exact ⟨rfl, HB6.out⟩

end Go.Proofs.YtadilmijppdpoaaGreatDoor

namespace Go.Proofs.YtadilmijppdpoaaGreatDoor
open Go.RowKit

def a1 : Pt := ⟨1, ⟨#[97]⟩, ⟨#[120, 10]⟩, Hk.zero, Ed.zero⟩
def a2 : Pt := ⟨3, ⟨#[97]⟩, noTxt, ⟨0, [⟨#[120, 10]⟩], []⟩, Ed.zero⟩
def a3 : Pt := ⟨4, ⟨#[109, 97, 105, 110]⟩, noTxt, Hk.zero, ⟨1, [0, 1], 0, 0, ⟨#[120]⟩, ⟨#[121]⟩, .nil, .nil⟩⟩
theorem name_one {s : ByteArray} (h : (s.data.toList.all fun c => decide (97 ≤ c.toNat ∧ c.toNat ≤ 122)) = true) (h1 : 1 ≤ s.size) (h2 : s.size ≤ 24) : FileName s :=
  ⟨h1, h2, fun c hc => .inl (of_decide_eq_true (List.all_eq_true.1 h c hc))⟩
theorem a1_ok : PtOk a1 := ⟨name_one (by decide) (by decide) (by decide), .inl ⟨.inl rfl, rfl, rfl⟩⟩
theorem a2_ok : PtOk a2 := by
  refine ⟨name_one (by decide) (by decide) (by decide), .inr (.inl ⟨rfl, rfl, rfl, by decide, by decide, ⟨⟨by decide, ?_, .inl rfl⟩, trivial⟩, trivial, by simp [a2]⟩)⟩
  intro i hi
  have hi2 : i = 0 := by
    have : i + 1 < 2 := hi
    omega
  subst hi2
  decide
theorem a3_ok : PtOk a3 := by
  refine ⟨name_one (by decide) (by decide) (by decide), .inr (.inr ⟨rfl, rfl, rfl, ?_, .inl ⟨rfl, rfl, rfl, rfl, rfl, by decide, ?_, ?_, by decide⟩⟩)⟩
  · intro n hn
    have : n = 0 ∨ n = 1 := by simpa [a3] using hn
    rcases this with rfl | rfl <;> (unfold Number; omega)
  · refine ⟨by decide, ⟨120, [], rfl, .inl ⟨by decide, by decide⟩⟩, by decide, ?_⟩
    intro c hc
    have : c = 120 := by simpa [a3] using hc
    subst this
    exact .inl (.inl ⟨by decide, by decide⟩)
  · refine ⟨by decide, ⟨121, [], rfl, .inl ⟨by decide, by decide⟩⟩, by decide, ?_⟩
    intro c hc
    have : c = 121 := by simpa [a3] using hc
    subst this
    exact .inl (.inl ⟨by decide, by decide⟩)
theorem a0_no : ¬ PtOk Pt.zero := by
  rintro ⟨_, ⟨h | h, _⟩ | ⟨h, _⟩ | ⟨h, _⟩⟩ <;> exact absurd h (by decide)
theorem it0 : Lib.itoa 0 = [48] := by simp [Lib.itoa, Lib.decDigits_one]
theorem it1 : Lib.itoa 1 = [49] := by simp [Lib.itoa, Lib.decDigits_one]
theorem it2 : Lib.itoa 2 = [50] := by simp [Lib.itoa, Lib.decDigits_one]
theorem a1_line : lineB a1 = [97, 100, 100, 32, 97, 32, 50] := by
  have : lineB a1 = Lib.join [[97, 100, 100], [97], Lib.itoa 2] [32] := rfl
  rw [this, it2]; rfl
theorem a2_line : lineB a2 = [108, 105, 110, 101, 115, 32, 97, 32, 48, 32, 49, 32, 48] := by
  have : lineB a2 = Lib.join [[108, 105, 110, 101, 115], [97], Lib.itoa 0, Lib.itoa 1, Lib.itoa 0] [32] := rfl
  rw [this, it0, it1]; rfl
theorem a3_line : lineB a3 = [114, 101, 110, 97, 109, 101, 32, 109, 97, 105, 110, 32, 48, 46, 49, 32, 120, 32, 121] := by
  have : lineB a3 = Lib.join [[114, 101, 110, 97, 109, 101], [109, 97, 105, 110], Lib.join [Lib.itoa 0, Lib.itoa 1] [46], [120], [121]] [32] := rfl
  rw [this, it0, it1]; rfl
theorem said_yes {p : Pt} (h : PtOk p) : saidB p = lineB p := by unfold saidB; rw [if_pos h]
theorem a_text : sayAll [⟨⟨#[112]⟩, a1⟩, ⟨⟨#[113]⟩, a2⟩] = [112, 58, 32, 97, 100, 100, 32, 97, 32, 50, 10, 113, 58, 32, 108, 105, 110, 101, 115, 32, 97, 32, 48, 32, 49, 32, 48, 10] := by
  simp only [sayAll, sayB, List.map_cons, List.map_nil, said_yes a1_ok, said_yes a2_ok, a1_line, a2_line]
  rfl
theorem str_new {S : Nat → Prop} {w : World} {N : Nat} {s : ByteArray} {T : TypeId} (hS : S N) (h : w.heap[N]? = some (.cells #[.string s] T)) (hs : s.size ≤ 9223372036854775807) : StrsIn S w (some ⟨N, 0, none⟩) [s] := by
  refine ⟨.inr ⟨N, 0, rfl, hS, fun j u hu => ?_⟩, by simpa using hs, by simp⟩
  rw [Lib.cell_of_heap h]
  cases j with
  | zero => simpa using hu
  | succ j => simp at hu
theorem two_new {S : Nat → Prop} {w : World} {N : Nat} {T : TypeId} (hS : S N) (h : w.heap[N]? = some (.cells #[.int .i64 0, .int .i64 1] T)) : IntsIn S w (some ⟨N, 0, none⟩) [0, 1] := by
  refine ⟨.inr ⟨N, 0, rfl, hS, fun j u hu => ?_⟩, by intro n hn; have : n = 0 ∨ n = 1 := (by simpa using hn); rcases this with rfl | rfl <;> (unfold isInt64; omega), by simp⟩
  rw [Lib.cell_of_heap h]
  match j, hu with
  | 0, hu => simpa using hu
  | 1, hu => simpa using hu
  | j + 2, hu => simp at hu
theorem zZero {S : Nat → Prop} {w : World} : HkIn S w ⟨none, 0, none, 0⟩ Hk.zero ∧ EdIn S w ⟨none, 0, none, 0, none, 0⟩ Ed.zero :=
  ⟨⟨by simp [isInt64, Hk.zero], ⟨.inl rfl, by simp [Hk.zero], by simp [Hk.zero]⟩, ⟨.inl rfl, by simp [Hk.zero], by simp [Hk.zero]⟩, by simp [Hk.zero], by simp [Hk.zero]⟩,
   ⟨by simp [Ed.zero], ⟨.inl rfl, by simp [Ed.zero], by simp [Ed.zero]⟩, by simp [isInt64, Ed.zero], by simp [isInt64, Ed.zero], Nat.zero_le _, Nat.zero_le _, trivial, trivial, by simp [Ed.zero], by simp [Ed.zero, Fo.len], by simp [Ed.zero, Fo.len]⟩⟩
theorem a1_in {w : World} : PtIn (fun _ => True) w ⟨⟨none, 0, none, 0⟩, ⟨none, 0, none, 0, none, 0⟩⟩ a1 := ⟨by decide, by decide, by decide, zZero.1, zZero.2⟩
theorem a2_in {w : World} {N : Nat} (h1 : w.heap[N + 1]? = some (.cells #[.string ⟨#[120, 10]⟩] 9)) : PtIn (fun _ => True) w ⟨⟨some ⟨N + 1, 0, none⟩, 1, none, 0⟩, ⟨none, 0, none, 0, none, 0⟩⟩ a2 :=
  ⟨by decide, by decide, by decide, ⟨by unfold isInt64; decide, str_new trivial h1 (by decide), (zZero (S := fun _ => True) (w := w)).1.new, (show (1 : Nat) ≤ 1 ∧ (1 : Nat) ≤ 9223372036854775807 from by decide), (show (0 : Nat) ≤ 0 ∧ (0 : Nat) ≤ 9223372036854775807 from by decide)⟩, zZero.2⟩
theorem a3_in {w : World} {N : Nat} (h3 : w.heap[N + 1 + 1 + 1]? = some (.cells #[.int .i64 0, .int .i64 1] 3)) : PtIn (fun _ => True) w ⟨⟨none, 0, none, 0⟩, ⟨some ⟨N + 1 + 1 + 1, 0, none⟩, 2, none, 0, none, 0⟩⟩ a3 :=
  ⟨by decide, by decide, by decide, zZero.1, ⟨by decide, two_new trivial h3, by unfold isInt64; decide, by unfold isInt64; decide, by decide, by decide, trivial, trivial, (show (2 : Nat) ≤ 2 ∧ (2 : Nat) ≤ 9223372036854775807 from by decide), (show (0 : Nat) ≤ 0 ∧ (0 : Nat) ≤ 9223372036854775807 from by decide), (show (0 : Nat) ≤ 0 ∧ (0 : Nat) ≤ 9223372036854775807 from by decide)⟩⟩
theorem a_rows {w : World} {N : Nat} (h1 : w.heap[N + 1]? = some (.cells #[.string ⟨#[120, 10]⟩] 9)) (h5 : w.heap[N + 1 + 1 + 1 + 1 + 1]? = some (.cells #[.string ⟨#[112]⟩, .int .u8 1, .string ⟨#[97]⟩, .string ⟨#[120, 10]⟩, .int .i64 0, .slice none 0 0, .slice none 0 0, .int .u8 0, .slice none 0 0, .int .i64 0, .int .i64 0, .string ⟨#[]⟩, .string ⟨#[]⟩, .slice none 0 0, .slice none 0 0, .string ⟨#[113]⟩, .int .u8 3, .string ⟨#[97]⟩, .string ⟨#[]⟩, .int .i64 0, .slice (some ⟨N + 1, 0, none⟩) 1 1, .slice none 0 0, .int .u8 0, .slice none 0 0, .int .i64 0, .int .i64 0, .string ⟨#[]⟩, .string ⟨#[]⟩, .slice none 0 0, .slice none 0 0] 39)) :
    NdIn (fun _ => True) w (some ⟨N + 1 + 1 + 1 + 1 + 1, 0, none⟩) [⟨⟨#[112]⟩, a1⟩, ⟨⟨#[113]⟩, a2⟩] := by
  have hc := Lib.cell_of_heap h5
  refine ⟨_, 0, ⟨⟨none, 0, none, 0⟩, ⟨none, 0, none, 0, none, 0⟩⟩, rfl, trivial, ⟨hc 0, hc 1, hc 2, hc 3, hc 4, hc 5, hc 6, hc 7, hc 8, hc 9, hc 10, hc 11, hc 12, hc 13, hc 14⟩, by decide, a1_in, ?_⟩
  exact ⟨_, 15, ⟨⟨some ⟨N + 1, 0, none⟩, 1, none, 0⟩, ⟨none, 0, none, 0, none, 0⟩⟩, rfl, trivial, ⟨hc 15, hc 16, hc 17, hc 18, hc 19, hc 20, hc 21, hc 22, hc 23, hc 24, hc 25, hc 26, hc 27, hc 28, hc 29⟩, by decide, a2_in h1, trivial⟩
theorem a1_len : (ptB a1).length ≤ 100 := by decide
theorem a2_len : (ptB a2).length ≤ 100 := by decide
theorem a3_len : (ptB a3).length ≤ 549755813888 := Nat.le_trans (by decide : (ptB a3).length ≤ 200) (by decide)
theorem a_fit : NdFit [⟨⟨#[112]⟩, a1⟩, ⟨⟨#[113]⟩, a2⟩] := by
  intro d hd
  have h1 := a1_len
  have h2 := a2_len
  simp only [List.mem_cons, List.not_mem_nil, or_false] at hd
  rcases hd with rfl | rfl
  · exact ⟨by decide, by show (ptB a1).length ≤ _; omega⟩
  · exact ⟨by decide, by show (ptB a2).length ≤ _; omega⟩
theorem awake_text {w : World} {N : Nat} (h1 : w.heap[N + 1]? = some (.cells #[.string ⟨#[120, 10]⟩] 9)) (h5 : w.heap[N + 1 + 1 + 1 + 1 + 1]? = some (.cells #[.string ⟨#[112]⟩, .int .u8 1, .string ⟨#[97]⟩, .string ⟨#[120, 10]⟩, .int .i64 0, .slice none 0 0, .slice none 0 0, .int .u8 0, .slice none 0 0, .int .i64 0, .int .i64 0, .string ⟨#[]⟩, .string ⟨#[]⟩, .slice none 0 0, .slice none 0 0, .string ⟨#[113]⟩, .int .u8 3, .string ⟨#[97]⟩, .string ⟨#[]⟩, .int .i64 0, .slice (some ⟨N + 1, 0, none⟩) 1 1, .slice none 0 0, .int .u8 0, .slice none 0 0, .int .i64 0, .int .i64 0, .string ⟨#[]⟩, .string ⟨#[]⟩, .slice none 0 0, .slice none 0 0] 39)) (htab : TabOk w) (hpow : TabP w.heap.size w) :
    Calls Tryz.prog 10 #[.slice (some ⟨N + 1 + 1 + 1 + 1 + 1, 0, none⟩) 2 2] w fun e w' => e = .returned (.string ⟨#[112, 58, 32, 97, 100, 100, 32, 97, 32, 50, 10, 113, 58, 32, 108, 105, 110, 101, 115, 32, 97, 32, 48, 32, 49, 32, 48, 10]⟩) ∧ Below w.heap.size w w' := by
  have h := text_any (c := 2) (a_rows h1 h5) (by simp) htab hpow a_fit (by rw [a_text]; decide)
  rw [a_text] at h
  exact h
theorem awake_line {w : World} {N : Nat} (h3 : w.heap[N + 1 + 1 + 1]? = some (.cells #[.int .i64 0, .int .i64 1] 3)) (htab : TabOk w) (hpow : TabP w.heap.size w) :
    Calls Tryz.prog 8 #[.agg #[.int .u8 4, .string ⟨#[109, 97, 105, 110]⟩, .string ⟨#[]⟩, .int .i64 0, .slice none 0 0, .slice none 0 0, .int .u8 1, .slice (some ⟨N + 1 + 1 + 1, 0, none⟩) 2 2, .int .i64 0, .int .i64 0, .string ⟨#[120]⟩, .string ⟨#[121]⟩, .slice none 0 0, .slice none 0 0]] w fun e w' => e = .returned (.string ⟨#[114, 101, 110, 97, 109, 101, 32, 109, 97, 105, 110, 32, 48, 46, 49, 32, 120, 32, 121]⟩) ∧ Below w.heap.size w w' := by
  have h := line_yes (a3_in h3) htab hpow a3_ok a3_len
  rw [a3_line] at h
  exact h
theorem awake_zero {w : World} (htab : TabOk w) :
    Calls Tryz.prog 8 #[.agg #[.int .u8 0, .string ⟨#[]⟩, .string ⟨#[]⟩, .int .i64 0, .slice none 0 0, .slice none 0 0, .int .u8 0, .slice none 0 0, .int .i64 0, .int .i64 0, .string ⟨#[]⟩, .string ⟨#[]⟩, .slice none 0 0, .slice none 0 0]] w fun e w' => e = .returned (.string ⟨#[63]⟩) ∧ Below w.heap.size w w' := by
  have h := line_no (S := fun _ => True) (x := ⟨⟨none, 0, none, 0⟩, ⟨none, 0, none, 0, none, 0⟩⟩) (p := Pt.zero) (w := w) ⟨by decide, by decide, by decide, zZero.1, zZero.2⟩ htab (by decide) a0_no
  exact h

set_option maxHeartbeats 4000000 in
set_option maxRecDepth 1000000 in
theorem awake_any {w : World} (htab : TabOk w) (hpow : TabP w.heap.size w) : Calls Tryz.prog 6 #[] w fun e w' => e = .returned (.bool true) ∧ Below w.heap.size w w' := by
  have HT := hide htab
  have HP := hide hpow
  clear htab hpow
  go_enter Tryz.func6, Tryz.ntmps6
  go_wp2_with fail
  have al : ∀ (u : World) (o : Obj) (k : Nat), u.heap.size = k → (u.alloc o).heap[k]? = some o ∧ (u.alloc o).heap.size = k + 1 ∧ (∀ j, j < k → (u.alloc o).heap[j]? = u.heap[j]?) ∧ Below k u (u.alloc o) := by
    intro u o k e
    subst e
    exact ⟨heap_alloc_new u o, by simp, fun j hj => Below.heap_alloc u o j hj, below_alloc u o⟩
  obtain ⟨n1, s1, k1, b1⟩ := al w (.cells #[.int .u8 1, .string ⟨#[97]⟩, .string ⟨#[120, 10]⟩, .int .i64 0, .slice none 0 0, .slice none 0 0, .int .u8 0, .slice none 0 0, .int .i64 0, .int .i64 0, .string ⟨#[]⟩, .string ⟨#[]⟩, .slice none 0 0, .slice none 0 0] 37) _ rfl
  generalize w.alloc (.cells #[.int .u8 1, .string ⟨#[97]⟩, .string ⟨#[120, 10]⟩, .int .i64 0, .slice none 0 0, .slice none 0 0, .int .u8 0, .slice none 0 0, .int .i64 0, .int .i64 0, .string ⟨#[]⟩, .string ⟨#[]⟩, .slice none 0 0, .slice none 0 0] 37) = W1 at n1 s1 k1 b1 ⊢
  obtain ⟨n2, s2, k2, b2⟩ := al W1 (.cells #[.string ⟨#[120, 10]⟩] 9) _ s1
  generalize W1.alloc (.cells #[.string ⟨#[120, 10]⟩] 9) = W2 at n2 s2 k2 b2 ⊢
  obtain ⟨n3, s3, k3, b3⟩ := al W2 (.cells #[.int .u8 3, .string ⟨#[97]⟩, .string ⟨#[]⟩, .int .i64 0, .slice (some ⟨w.heap.size + 1, 0, none⟩) 1 1, .slice none 0 0, .int .u8 0, .slice none 0 0, .int .i64 0, .int .i64 0, .string ⟨#[]⟩, .string ⟨#[]⟩, .slice none 0 0, .slice none 0 0] 37) _ s2
  generalize W2.alloc (.cells #[.int .u8 3, .string ⟨#[97]⟩, .string ⟨#[]⟩, .int .i64 0, .slice (some ⟨w.heap.size + 1, 0, none⟩) 1 1, .slice none 0 0, .int .u8 0, .slice none 0 0, .int .i64 0, .int .i64 0, .string ⟨#[]⟩, .string ⟨#[]⟩, .slice none 0 0, .slice none 0 0] 37) = W3 at n3 s3 k3 b3 ⊢
  obtain ⟨n4, s4, k4, b4⟩ := al W3 (.cells #[.int .i64 0, .int .i64 1] 3) _ s3
  generalize W3.alloc (.cells #[.int .i64 0, .int .i64 1] 3) = W4 at n4 s4 k4 b4 ⊢
  obtain ⟨n5, s5, k5, b5⟩ := al W4 (.cells #[.int .u8 4, .string ⟨#[109, 97, 105, 110]⟩, .string ⟨#[]⟩, .int .i64 0, .slice none 0 0, .slice none 0 0, .int .u8 1, .slice (some ⟨w.heap.size + 1 + 1 + 1, 0, none⟩) 2 2, .int .i64 0, .int .i64 0, .string ⟨#[120]⟩, .string ⟨#[121]⟩, .slice none 0 0, .slice none 0 0] 37) _ s4
  generalize W4.alloc (.cells #[.int .u8 4, .string ⟨#[109, 97, 105, 110]⟩, .string ⟨#[]⟩, .int .i64 0, .slice none 0 0, .slice none 0 0, .int .u8 1, .slice (some ⟨w.heap.size + 1 + 1 + 1, 0, none⟩) 2 2, .int .i64 0, .int .i64 0, .string ⟨#[120]⟩, .string ⟨#[121]⟩, .slice none 0 0, .slice none 0 0] 37) = W5 at n5 s5 k5 b5 ⊢
  obtain ⟨n6, s6, k6, b6⟩ := al W5 (.cells #[.string ⟨#[112]⟩, .int .u8 1, .string ⟨#[97]⟩, .string ⟨#[120, 10]⟩, .int .i64 0, .slice none 0 0, .slice none 0 0, .int .u8 0, .slice none 0 0, .int .i64 0, .int .i64 0, .string ⟨#[]⟩, .string ⟨#[]⟩, .slice none 0 0, .slice none 0 0, .string ⟨#[113]⟩, .int .u8 3, .string ⟨#[97]⟩, .string ⟨#[]⟩, .int .i64 0, .slice (some ⟨w.heap.size + 1, 0, none⟩) 1 1, .slice none 0 0, .int .u8 0, .slice none 0 0, .int .i64 0, .int .i64 0, .string ⟨#[]⟩, .string ⟨#[]⟩, .slice none 0 0, .slice none 0 0] 39) _ s5
  generalize W5.alloc (.cells #[.string ⟨#[112]⟩, .int .u8 1, .string ⟨#[97]⟩, .string ⟨#[120, 10]⟩, .int .i64 0, .slice none 0 0, .slice none 0 0, .int .u8 0, .slice none 0 0, .int .i64 0, .int .i64 0, .string ⟨#[]⟩, .string ⟨#[]⟩, .slice none 0 0, .slice none 0 0, .string ⟨#[113]⟩, .int .u8 3, .string ⟨#[97]⟩, .string ⟨#[]⟩, .int .i64 0, .slice (some ⟨w.heap.size + 1, 0, none⟩) 1 1, .slice none 0 0, .int .u8 0, .slice none 0 0, .int .i64 0, .int .i64 0, .string ⟨#[]⟩, .string ⟨#[]⟩, .slice none 0 0, .slice none 0 0] 39) = W6 at n6 s6 k6 b6 ⊢
  have g0 : W6.heap[w.heap.size + 1 + 1 + 1 + 1]? = some (.cells #[.int .u8 4, .string ⟨#[109, 97, 105, 110]⟩, .string ⟨#[]⟩, .int .i64 0, .slice none 0 0, .slice none 0 0, .int .u8 1, .slice (some ⟨w.heap.size + 1 + 1 + 1, 0, none⟩) 2 2, .int .i64 0, .int .i64 0, .string ⟨#[120]⟩, .string ⟨#[121]⟩, .slice none 0 0, .slice none 0 0] 37) := (k6 _ (by omega)).trans n5
  have g1 : W6.heap[w.heap.size + 1]? = some (.cells #[.string ⟨#[120, 10]⟩] 9) := (k6 _ (by omega)).trans ((k5 _ (by omega)).trans ((k4 _ (by omega)).trans ((k3 _ (by omega)).trans n2)))
  have g3 : W6.heap[w.heap.size + 1 + 1 + 1]? = some (.cells #[.int .i64 0, .int .i64 1] 3) := (k6 _ (by omega)).trans ((k5 _ (by omega)).trans n4)
  have gB : Hid (Below w.heap.size w W6) := hide (b1.trans ((b2.mono (by omega)).trans ((b3.mono (by omega)).trans ((b4.mono (by omega)).trans ((b5.mono (by omega)).trans (b6.mono (by omega)))))))
  have hcell : ∀ o, W6.cell? ⟨w.heap.size + 1 + 1 + 1 + 1, o, none⟩ = (#[.int .u8 4, .string ⟨#[109, 97, 105, 110]⟩, .string ⟨#[]⟩, .int .i64 0, .slice none 0 0, .slice none 0 0, .int .u8 1, .slice (some ⟨w.heap.size + 1 + 1 + 1, 0, none⟩) 2 2, .int .i64 0, .int .i64 0, .string ⟨#[120]⟩, .string ⟨#[121]⟩, .slice none 0 0, .slice none 0 0] : Array Value)[o]? := fun o => Lib.cell_of_heap g0 o
  have G1 := hide g1
  have G3 := hide g3
  have G5 := hide n6
  have h0 := hide g0
  clear g0 g1 g3 n1 n2 n3 n4 n5 n6 k1 k2 k3 k4 k5 k6 b1 b2 b3 b4 b5 b6 al hcell s1 s2 s3 s4 s5
  have gs := gB.out.size
  go_wp2_with (first
    | (go_at_call 10; (with_reducible refine (awake_text G1.out G5.out (HT.out.below gB.out) ((HP.out.below gB.out).up gs)).mono ?_); rintro e7 W7 ⟨rfl, hB7⟩; have HB7 := hide (gB.out.trans (hB7.mono gs)); have hs7 := HB7.out.size; have hcell7 : ∀ o, W7.cell? ⟨w.heap.size + 1 + 1 + 1 + 1, o, none⟩ = (#[.int .u8 4, .string ⟨#[109, 97, 105, 110]⟩, .string ⟨#[]⟩, .int .i64 0, .slice none 0 0, .slice none 0 0, .int .u8 1, .slice (some ⟨w.heap.size + 1 + 1 + 1, 0, none⟩) 2 2, .int .i64 0, .int .i64 0, .string ⟨#[120]⟩, .string ⟨#[121]⟩, .slice none 0 0, .slice none 0 0] : Array Value)[o]? := (fun o => Lib.cell_of_heap ((hB7.block _ (by omega)).trans h0.out) o); have G7 := hide ((hB7.block _ (by omega)).trans G3.out); clear hB7)
    | (go_at_call 8; (with_reducible refine (awake_line G7.out (HT.out.below HB7.out) ((HP.out.below HB7.out).up hs7)).mono ?_); rintro e8 W8 ⟨rfl, hB8⟩; have HB8 := hide (HB7.out.trans (hB8.mono hs7)); have hs8 := HB8.out.size; clear hB8)
    | (go_at_call 8; (with_reducible refine (awake_zero (HT.out.below HB8.out)).mono ?_); rintro e9 W9 ⟨rfl, hB9⟩; have HB9 := hide (HB8.out.trans (hB9.mono hs8)); clear hB9))
  go_ret
  exact ⟨rfl, HB9.out⟩

end Go.Proofs.YtadilmijppdpoaaGreatDoor
