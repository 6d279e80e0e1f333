/- What is put into a line is its words, one byte 32 between; a line and its inverse's have as many. Plain data. -/
import Derived.Test.YtadilmijppdpoaaGreatDoorTLogB
import Derived.Test.YtadilmijppdpoaaGreatDoorTInv
import Derived.Test.YtadilmijppdpoaaGreatDoorTLogTree1
import Derived.Test.YtadilmijppdpoaaGreatDoorTLogTree2
import Derived.Test.YtadilmijppdpoaaGreatDoorTLogTree3
import Derived.Test.YtadilmijppdpoaaGreatDoorTLogTree4
import Derived.Test.YtadilmijppdpoaaGreatDoorTLogTree5

set_option linter.unusedVariables false
set_option linter.unusedSimpArgs false

namespace Go.Proofs.YtadilmijppdpoaaGreatDoor
open Go

theorem inv_file (p : Pt) : p.inv.file = p.file := by
  unfold Pt.inv
  repeat' split
  all_goals rfl
/-- as many words -/
theorem tree_inv_len {file : ByteArray} {e : Ed} (h : EdOk e) : (treeW file e.inv).length = (treeW file e).length := by
  obtain ⟨kd, path, at_, far, frm, tto, old, new⟩ := e
  obtain ⟨hp, h | h | h | h | h⟩ := h
  · obtain ⟨rfl, _⟩ := h
    rfl
  · obtain ⟨rfl, _, _, _, h5, _⟩ := h
    simp only at h5
    subst h5
    show (treeW file ⟨3, path, at_, far, tto, frm, new, .nil⟩).length = _
    simp [treeW, numsW, sizesW, sizes_len]
  · obtain ⟨rfl, _, _, _, h5, _⟩ := h
    simp only at h5
    subst h5
    show (treeW file ⟨2, path, at_, far, tto, frm, .nil, old⟩).length = _
    simp [treeW, numsW, sizesW, sizes_len]
  · obtain ⟨rfl, _⟩ := h
    show (treeW file ⟨4, path, at_, far, tto, frm, new, old⟩).length = _
    simp [treeW, numsW, sizes_len]
    omega
  · obtain ⟨rfl, _⟩ := h
    show (treeW file ⟨5, path, far, at_, tto, frm, old, new⟩).length = _
    simp [treeW, numsW, sizes_len]
theorem line_inv_len {p : Pt} (h : PtOk p) : (lineW p.inv).length = (lineW p).length := by
  obtain ⟨kd, file, text, hunk, edit⟩ := p
  obtain ⟨hf, ⟨hk | hk, _⟩ | ⟨hk, _⟩ | ⟨hk, _, _, he⟩⟩ := h
  · simp only at hk; subst hk; rfl
  · simp only at hk; subst hk; rfl
  · simp only at hk; subst hk; rfl
  · simp only at hk; subst hk
    exact tree_inv_len he
/-- a line's words: three at least, the second the file -/
theorem line_shape {p : Pt} (h : PtOk p) : ∃ a c r, lineW p = a :: p.file.data.toList :: c :: r ∧ a ≠ [] := by
  obtain ⟨kd, file, text, hunk, edit⟩ := p
  obtain ⟨hf, ⟨hk | hk, _⟩ | ⟨hk, _⟩ | ⟨hk, _, _, he⟩⟩ := h
  · simp only at hk; subst hk; exact ⟨_, _, _, rfl, by simp⟩
  · simp only at hk; subst hk; exact ⟨_, _, _, rfl, by simp⟩
  · simp only at hk; subst hk; exact ⟨_, _, _, rfl, by simp⟩
  · simp only at hk; subst hk
    refine ⟨wordOf edit.kind, _, _, rfl, ?_⟩
    obtain ⟨_, h | h | h | h | h⟩ := he <;> (rw [h.1]; simp [wordOf])
theorem join_no10 {ws : List (List UInt8)} (h : ∀ s ∈ ws, Word s) : ∀ c ∈ Lib.join ws [32], c ≠ 10 := by
  cases ws with
  | nil => intro c hc; simp [Lib.join] at hc
  | cons x ws =>
    intro c hc
    rw [Lib.join_cons] at hc
    rcases List.mem_append.1 hc with hc | hc
    · exact (h x (by simp) c hc).2
    · unfold Lib.joinTail at hc
      obtain ⟨l, hl, hcl⟩ := List.mem_flatten.1 hc
      obtain ⟨y, hy, rfl⟩ := List.mem_map.1 hl
      rcases List.mem_append.1 hcl with h1 | h1
      · simp only [List.mem_singleton] at h1
        subst h1
        decide
      · exact (h y (by simp [hy]) c h1).2
theorem line_split {p : Pt} (h : PtOk p) : Lib.split (lineB p) [32] = lineW p := by
  obtain ⟨a, c, r, e, _⟩ := line_shape h
  have hw := line_words h
  unfold lineB
  rw [e] at hw ⊢
  exact (split_words a _ (fun c hc => (hw a List.mem_cons_self c hc).1) (fun y hy c hc => (hw y (List.mem_cons_of_mem a hy) c hc).1)).1
theorem line_no10 {p : Pt} (h : PtOk p) : ∀ c ∈ lineB p, c ≠ 10 := join_no10 (line_words h)

end Go.Proofs.YtadilmijppdpoaaGreatDoor

namespace Go.Proofs.YtadilmijppdpoaaGreatDoor
open Go.RowKit

theorem lineS_head {p : Pt} (h : PtOk p) : putsB [] (lineS p) = lineB p ∧ lineB p ≠ [] := by
  obtain ⟨a, c, r, e, ha⟩ := line_shape h
  have h1 := lineS_list p
  rw [e] at h1
  cases hl : lineS p with
  | nil => rw [hl] at h1; simp at h1
  | cons s ws =>
    rw [hl, List.map_cons] at h1
    injection h1 with h2 h3
    have hs : s.data.toList ≠ [] := by rw [h2]; exact ha
    have e2 : Lib.join (lineW p) [32] = Lib.join ((s :: ws).map (·.data.toList)) [32] := by rw [← lineS_list p, hl]
    refine ⟨by rw [puts_join ws hs]; exact e2.symm, ?_⟩
    unfold lineB
    rw [e, Lib.join_cons]
    intro h
    exact ha (List.append_eq_nil_iff.1 h).1
/-- what is left when a line was written -/
def Wrote (B b : Nat) (p : Pt) (w : World) (e : Ending) (w' : World) : Prop :=
  e = .returned (.tuple #[]) ∧ IsLine B b (Lib.byteCells (lineB p)) w' ∧ Below B w w' ∧ Lib.OthersKept 5 (some b) w w'
theorem write_1 {B b : Nat} {x : Ph} {p : Pt} {w : World} (h : IsLine B b (Lib.byteCells []) w) (hp : PtIn (fun k => k < B) w x p) (htab : TabP B w) (hBw : B ≤ w.heap.size) (hbl : b < w.heap.size) (hok : PtOk p) (hlen : (ptB p).length ≤ 549755813888) (hk : p.kind = 1) :
    Calls Tryz.prog 33 #[.pointer (some ⟨b, 0, none⟩), .agg #[.int .u8 p.kind, .string p.file, .string p.text, .int .i64 p.hunk.at_, .slice x.h.oA p.hunk.old.length x.h.oc, .slice x.h.nA p.hunk.new.length x.h.nc, .int .u8 p.edit.kind, .slice x.e.pA p.edit.path.length x.e.pc, .int .i64 p.edit.at_, .int .i64 p.edit.far, .string p.edit.frm, .string p.edit.to, .slice x.e.oA p.edit.old.len x.e.oc, .slice x.e.nA p.edit.new.len x.e.nc]] w (Wrote B b p w) := by
  have hr := line_room hok hlen
  have e : lineS p = [⟨#[97, 100, 100]⟩, p.file] ++ ([p.text.size] : List Int).map itoaS := by simp [lineS, hk]
  refine (line_add h hp htab hBw hbl (by rw [← e]; omega)).mono ?_
  rintro e1 w1 ⟨rfl, h1, h2, h3⟩
  refine ⟨rfl, ?_, h2, h3⟩
  rw [puts_app, ← e, (lineS_head hok).1] at h1
  exact h1
theorem write_2 {B b : Nat} {x : Ph} {p : Pt} {w : World} (h : IsLine B b (Lib.byteCells []) w) (hp : PtIn (fun k => k < B) w x p) (htab : TabP B w) (hBw : B ≤ w.heap.size) (hbl : b < w.heap.size) (hok : PtOk p) (hlen : (ptB p).length ≤ 549755813888) (hk : p.kind = 2) :
    Calls Tryz.prog 34 #[.pointer (some ⟨b, 0, none⟩), .agg #[.int .u8 p.kind, .string p.file, .string p.text, .int .i64 p.hunk.at_, .slice x.h.oA p.hunk.old.length x.h.oc, .slice x.h.nA p.hunk.new.length x.h.nc, .int .u8 p.edit.kind, .slice x.e.pA p.edit.path.length x.e.pc, .int .i64 p.edit.at_, .int .i64 p.edit.far, .string p.edit.frm, .string p.edit.to, .slice x.e.oA p.edit.old.len x.e.oc, .slice x.e.nA p.edit.new.len x.e.nc]] w (Wrote B b p w) := by
  have hr := line_room hok hlen
  have e : lineS p = [⟨#[114, 101, 109, 111, 118, 101]⟩, p.file] ++ ([p.text.size] : List Int).map itoaS := by simp [lineS, hk]
  refine (line_remove h hp htab hBw hbl (by rw [← e]; omega)).mono ?_
  rintro e1 w1 ⟨rfl, h1, h2, h3⟩
  refine ⟨rfl, ?_, h2, h3⟩
  rw [puts_app, ← e, (lineS_head hok).1] at h1
  exact h1
theorem write_3 {B b : Nat} {x : Ph} {p : Pt} {w : World} (h : IsLine B b (Lib.byteCells []) w) (hp : PtIn (fun k => k < B) w x p) (htab : TabP B w) (hBw : B ≤ w.heap.size) (hbl : b < w.heap.size) (hok : PtOk p) (hlen : (ptB p).length ≤ 549755813888) (hk : p.kind = 3) :
    Calls Tryz.prog 35 #[.pointer (some ⟨b, 0, none⟩), .agg #[.int .u8 p.kind, .string p.file, .string p.text, .int .i64 p.hunk.at_, .slice x.h.oA p.hunk.old.length x.h.oc, .slice x.h.nA p.hunk.new.length x.h.nc, .int .u8 p.edit.kind, .slice x.e.pA p.edit.path.length x.e.pc, .int .i64 p.edit.at_, .int .i64 p.edit.far, .string p.edit.frm, .string p.edit.to, .slice x.e.oA p.edit.old.len x.e.oc, .slice x.e.nA p.edit.new.len x.e.nc]] w (Wrote B b p w) := by
  have hr := line_room hok hlen
  have e : lineS p = [⟨#[108, 105, 110, 101, 115]⟩, p.file] ++ ([p.hunk.at_, p.hunk.old.length, p.hunk.new.length] : List Int).map itoaS := by simp [lineS, hk]
  refine (line_lines h hp htab hBw hbl (by rw [← e]; omega)).mono ?_
  rintro e1 w1 ⟨rfl, h1, h2, h3⟩
  refine ⟨rfl, ?_, h2, h3⟩
  rw [puts_app, ← e, (lineS_head hok).1] at h1
  exact h1
theorem edit_room {p : Pt} (hlen : (ptB p).length ≤ 549755813888) (hk : p.kind = 4) : (edB p.edit).length ≤ 549755813888 := by
  have e : (ptB p).length = 1 + (8 + p.file.size) + (edB p.edit).length := by
    simp [ptB, txtB_len, hk]; omega
  omega
theorem write_4 {B b : Nat} {x : Ph} {p : Pt} {w : World} (h : IsLine B b (Lib.byteCells []) w) (hp : PtIn (fun k => k < B) w x p) (htab : TabP B w) (hBw : B ≤ w.heap.size) (hbl : b < w.heap.size) (hok : PtOk p) (hlen : (ptB p).length ≤ 549755813888) (hk : p.kind = 4) :
    Calls Tryz.prog 36 #[.pointer (some ⟨b, 0, none⟩), .agg #[.int .u8 p.kind, .string p.file, .string p.text, .int .i64 p.hunk.at_, .slice x.h.oA p.hunk.old.length x.h.oc, .slice x.h.nA p.hunk.new.length x.h.nc, .int .u8 p.edit.kind, .slice x.e.pA p.edit.path.length x.e.pc, .int .i64 p.edit.at_, .int .i64 p.edit.far, .string p.edit.frm, .string p.edit.to, .slice x.e.oA p.edit.old.len x.e.oc, .slice x.e.nA p.edit.new.len x.e.nc]] w (Wrote B b p w) := by
  have hr := line_room hok hlen
  have he := edit_room hlen hk
  have e : lineS p = treeS p.file p.edit := by simp [lineS, hk]
  have hh := lineS_head hok
  have heok : EdOk p.edit := by
    obtain ⟨_, ⟨hk1 | hk1, _⟩ | ⟨hk1, _⟩ | ⟨_, _, _, he⟩⟩ := hok
    · omega
    · omega
    · omega
    · exact he
  have e1 := edB_len p.edit
  have e2 := path_l8 p.edit.path
  have e3 := foB_len p.edit.old
  have e4 := foB_len p.edit.new
  have hns : ∀ n ∈ numsN p.edit ++ (sizesN p.edit.old ++ sizesN p.edit.new), isInt64 n := by
    intro n hn
    rcases List.mem_append.1 hn with hn | hn
    · exact numsN_in heok n hn
    · rcases List.mem_append.1 hn with hn | hn
      · exact sizesN_in _ (by omega) n hn
      · exact sizesN_in _ (by omega) n hn
  have hroom : roomB (treeS p.file p.edit) ≤ 140737488355328 := by rw [← e]; omega
  have hpl : p.edit.path.length ≤ 549755813888 := by omega
  have hol : (p.edit.old.len + p.edit.new.len) * 56 ≤ 140737488355328 := by omega
  have hke := heok.numbers.2.2.2
  unfold Wrote
  rw [← hh.1, e]
  clear hh hr e he hok hlen e1 e2 e3 e4 heok
  obtain ⟨kd, file, text, hunk, ⟨ek, path, at_, far, frm, tto, old, new⟩⟩ := p
  simp only at hk hke
  subst hk
  have : ek = 1 ∨ ek = 2 ∨ ek = 3 ∨ ek = 4 ∨ ek = 5 := by omega
  rcases this with rfl | rfl | rfl | rfl | rfl
  · exact line_tree1 h hp htab hBw hbl hns hroom hpl hol
  · exact line_tree2 h hp htab hBw hbl hns hroom hpl hol
  · exact line_tree3 h hp htab hBw hbl hns hroom hpl hol
  · exact line_tree4 h hp htab hBw hbl hns hroom hpl hol
  · exact line_tree5 h hp htab hBw hbl hns hroom hpl hol
/-- an operation that yields a value, as one step of a region that draws -/
theorem step_value {P : Program} {ops : Array Oper} {o : Oper} {a : Act} {w w' : World} {K : Act → World → Prop} {Q : Exit → Act → World → Prop} {E : Prop} {v : Value}
    (hg : o.guard = none) (hrun : (execOp a.eval o).run P w = .ok (.value v) w') (hK : K (a.put o.dst v) w') : if Region.wanted o (yielded ops a.tmps) = true then Oper.wp P o a w K Q else E := by
  have hw : Region.wanted o (yielded ops a.tmps) = true := by simp [Region.wanted, hg]
  rw [if_pos hw]
  unfold Oper.wp
  simp [hrun]
  exact hK
theorem exec_lookup {P : Program} {o : Oper} {a : Act} (m k : Operand) (T : TypeId) (hop : o.op = Op.lookup T m k false) {v1 v2 r : Value} (h1 : a.eval m = v1) (h2 : a.eval k = v2) (w : World)
    (hrun : (Instr.lookup T v1 v2 false).run P w = .ok r w) : (execOp a.eval o).run P w = .ok (.value r) w := by
  simp [execOp, hop, h1, h2, hrun, Result.andThen]

end Go.Proofs.YtadilmijppdpoaaGreatDoor
