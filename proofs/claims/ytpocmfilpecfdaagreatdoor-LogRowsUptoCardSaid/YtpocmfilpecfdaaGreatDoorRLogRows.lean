/- Rows of named patches, one behind the other in one row. Printed by gen_namedapp.py. -/
import Derived.Laws.Append
import Derived.BigQuiet
import Derived.Deep.RegionHeld
import Derived.Test.YtpocmfilpecfdaaGreatDoorRBase
import Derived.Test.YtpocmfilpecfdaaGreatDoorRKeep
import Derived.Test.YtpocmfilpecfdaaGreatDoorRLogAwake
import Derived.Test.YtpocmfilpecfdaaGreatDoorRCount
import Derived.Test.YtpocmfilpecfdaaGreatDoorRInv8

set_option linter.unusedVariables false
set_option linter.unusedSimpArgs false

namespace Go.Proofs.YtpocmfilpecfdaaGreatDoor
open Go.RowKit

abbrev All : Nat → Prop := fun _ => True
section
variable {S : Nat → Prop}
def NdCells (S : Nat → Prop) (w : World) : List Value → List Nd → Prop
  | vs, [] => vs = []
  | vs, d :: r => ∃ (x : Ph) (vs' : List Value), vs = .string d.name :: .int .u8 d.pt.kind :: .string d.pt.file :: .string d.pt.text :: .int .i64 d.pt.hunk.at_ :: .slice x.h.oA d.pt.hunk.old.length x.h.oc :: .slice x.h.nA d.pt.hunk.new.length x.h.nc :: .int .u8 d.pt.edit.kind :: .slice x.e.pA d.pt.edit.path.length x.e.pc :: .int .i64 d.pt.edit.at_ :: .int .i64 d.pt.edit.far :: .string d.pt.edit.frm :: .string d.pt.edit.to :: .slice x.e.oA d.pt.edit.old.len x.e.oc :: .slice x.e.nA d.pt.edit.new.len x.e.nc :: vs' ∧ d.name.size ≤ 9223372036854775807 ∧ PtIn S w x d.pt ∧ NdCells S w vs' r
theorem NdCells.keep {w w' : World} (hk : ∀ b, S b → w'.heap[b]? = w.heap[b]?) : ∀ {l : List Nd} {vs : List Value}, NdCells S w vs l → NdCells S w' vs l
  | [], _, h => h
  | _ :: _, _, ⟨x, vs', h1, h2, h3, h4⟩ => ⟨x, vs', h1, h2, h3.keep hk, NdCells.keep hk h4⟩
theorem NdCells.app {w : World} {us : List Value} {m : List Nd} (hm : NdCells S w us m) : ∀ {l : List Nd} {vs : List Value}, NdCells S w vs l → NdCells S w (vs ++ us) (l ++ m)
  | [], _, h => by have h' : _ = [] := h; subst h'; exact hm
  | _ :: _, _, ⟨x, vs', h1, h2, h3, h4⟩ => ⟨x, vs' ++ us, by rw [h1]; rfl, h2, h3, NdCells.app hm h4⟩
theorem NdIn.row {w : World} : ∀ {l : List Nd} {A : Option Addr}, NdIn S w A l → ∃ vs, NdCells S w vs l ∧ vs.length = l.length * 15 ∧ (∀ u ∈ vs, u.oneCell' = true) ∧ ∀ a, A = some a → ∀ j u, vs[j]? = some u → w.cell? (a.add j) = some u := by
  intro l
  induction l with
  | nil => intro A _; exact ⟨[], rfl, rfl, by simp, by simp⟩
  | cons d r ih =>
    rintro A ⟨b, o, x, rfl, _, ⟨c0, c1, c2, c3, c4, c5, c6, c7, c8, c9, c10, c11, c12, c13, c14⟩, hn, hp, hr⟩
    obtain ⟨vs', h1, h2, h3, h4⟩ := ih hr
    refine ⟨_, ⟨x, vs', rfl, hn, hp, h1⟩, by simp [h2]; omega, ?_, ?_⟩
    · intro u hu
      simp only [List.mem_cons] at hu
      rcases hu with rfl | rfl | rfl | rfl | rfl | rfl | rfl | rfl | rfl | rfl | rfl | rfl | rfl | rfl | rfl | hu
      all_goals first | rfl | exact h3 u hu
    · intro a ha j u hu
      injection ha with ha
      subst ha
      rw [Addr.add_lit]
      match j, hu with
      | 0, hu => injection hu with hu; subst hu; simpa using c0
      | 1, hu => injection hu with hu; subst hu; simpa using c1
      | 2, hu => injection hu with hu; subst hu; simpa using c2
      | 3, hu => injection hu with hu; subst hu; simpa using c3
      | 4, hu => injection hu with hu; subst hu; simpa using c4
      | 5, hu => injection hu with hu; subst hu; simpa using c5
      | 6, hu => injection hu with hu; subst hu; simpa using c6
      | 7, hu => injection hu with hu; subst hu; simpa using c7
      | 8, hu => injection hu with hu; subst hu; simpa using c8
      | 9, hu => injection hu with hu; subst hu; simpa using c9
      | 10, hu => injection hu with hu; subst hu; simpa using c10
      | 11, hu => injection hu with hu; subst hu; simpa using c11
      | 12, hu => injection hu with hu; subst hu; simpa using c12
      | 13, hu => injection hu with hu; subst hu; simpa using c13
      | 14, hu => injection hu with hu; subst hu; simpa using c14
      | j + 15, hu =>
        have := h4 _ rfl j u (by simpa using hu)
        rw [Addr.add_lit] at this
        rw [show o + (j + 15) = o + 15 + j by omega]
        exact this
theorem NdCells.top {w : World} {b : Nat} : ∀ {l : List Nd} {vs : List Value} {o : Nat}, NdCells S w vs l → (∀ j u, vs[j]? = some u → w.cell? ⟨b, o + j, none⟩ = some u) → NdIn All w (some ⟨b, o, none⟩) l
  | [], _, _, _, _ => trivial
  | d :: r, _, o, ⟨x, vs', h1, h2, h3, h4⟩, hc => by
    subst h1
    refine ⟨b, o, x, rfl, trivial, ⟨hc 0 _ rfl, hc 1 _ rfl, hc 2 _ rfl, hc 3 _ rfl, hc 4 _ rfl, hc 5 _ rfl, hc 6 _ rfl, hc 7 _ rfl, hc 8 _ rfl, hc 9 _ rfl, hc 10 _ rfl, hc 11 _ rfl, hc 12 _ rfl, hc 13 _ rfl, hc 14 _ rfl⟩, h2, h3.mono (fun _ _ _ => trivial), NdCells.top h4 fun j u hu => ?_⟩
    have := hc (j + 15) u hu
    rwa [show o + (j + 15) = o + 15 + j by omega] at this
theorem InfoNamed : (Tryz.prog.info? 39).map (fun i => (i.zero, i.size, i.bytes)) = some (some (.agg #[.string ByteArray.empty, .int .u8 0, .string ByteArray.empty, .string ByteArray.empty, .int .i64 0, .slice none 0 0, .slice none 0 0, .int .u8 0, .slice none 0 0, .int .i64 0, .int .i64 0, .string ByteArray.empty, .string ByteArray.empty, .slice none 0 0, .slice none 0 0]), 15, 240) := by kernel_rfl
theorem nameds_n : Tryz.prog.underlying 22 = some (.slice 39) := by kernel_rfl
/-- one row appended to an own one -/
theorem named_step {base n cB : Nat} {w : World} {v : Value} {xs : List Value} {B : Option Addr} {m : List Nd} (hown : w.ownsRow base 39 15 v n xs) (hm : NdIn S w B m) (hB : B = none → m.length = 0) (hbase : base ≤ w.heap.size)
    (hl : (n + m.length) * 240 ≤ 140737488355328) (ty : TypeId) :
    ∃ v' w' us, (Builtin.append_ #[22, 22] ty #[v, .slice B m.length cB]).run Tryz.prog w = .ok v' w' ∧ w'.ownsRow base 39 15 v' (n + m.length) (xs ++ us) ∧ NdCells S w us m ∧ Below base w w' := by
  obtain ⟨i0, hi, hz0, hz1, hz2⟩ := info_parts InfoNamed
  obtain ⟨us, h1, h2, h3, h4⟩ := hm.row
  rcases B with _ | a
  · have h0 := hB rfl
    have hn : m = [] := List.length_eq_zero_iff.1 h0
    subst hn
    have hu : us = [] := h1
    subst hu
    refine ⟨v, w, [], ?_, by simpa using hown, h1, Below.refl _ _⟩
    obtain ⟨A, c, rfl⟩ := own_shape hown
    have hnc : n ≤ c := by
      rcases hown.2 with ⟨e, rfl⟩ | ⟨g, cap, cur, e, _, _, hc, _⟩
      · exact Nat.zero_le _
      · injection e with _ _ e; omega
    rcases A with _ | ⟨b, o, p⟩
    · have hn0 : n = 0 := by
        rcases hown.2 with ⟨e, h⟩ | ⟨g, cap, cur, e, _⟩
        · exact h
        · cases e
      subst hn0
      simp [Builtin.append_, run_underlying nameds_n, sizeOf, typeInfo, hi, Builtin.lenOf, Builtin.firstCells, loadCells, loadCellsFrom, storeCells, hnc]
    · simp [Builtin.append_, run_underlying nameds_n, sizeOf, typeInfo, hi, Builtin.lenOf, Builtin.firstCells, loadCells, loadCellsFrom, storeCells, hnc]
  · obtain ⟨v', w', hrun, hown', hgr, _⟩ := run_append_own (P := Tryz.prog) w base 22 ty 39 i0 _ 15 240 nameds_n hi hz0 hz1 hz2 rfl (by decide) v n xs hown a m.length cB us h2 (h4 a rfl) h3 (by unfold maxLen; omega) hl hbase
    exact ⟨v', w', us, hrun, hown', h1, (Below.refl _ _).grown hgr hbase (fun k hk => (hown.lt k hk).1)⟩
end
/-- both rows in a new one -/
theorem nameds_join {cA cB : Nat} {w : World} {A B : Option Addr} {l m : List Nd} (h1 : NdIn All w A l) (h2 : NdIn All w B m) (hA : A = none → l.length = 0) (hB : B = none → m.length = 0) (hl : (l.length + m.length) * 240 ≤ 140737488355328) (ty ty' : TypeId) :
    ∃ v1 w1 A2 c2 w2, (Builtin.append_ #[22, 22] ty #[.slice (some ⟨w.heap.size, 0, none⟩) 0 0, .slice A l.length cA]).run Tryz.prog (w.alloc (.cells #[] 39)) = .ok v1 w1 ∧
      (Builtin.append_ #[22, 22] ty' #[v1, .slice B m.length cB]).run Tryz.prog w1 = .ok (.slice A2 (l ++ m).length c2) w2 ∧ NdIn All w2 A2 (l ++ m) ∧ Below w.heap.size w w2 := by
  have hown0 : (w.alloc (.cells #[] 39)).ownsRow w.heap.size 39 15 (.slice (some ⟨w.heap.size, 0, none⟩) 0 0) 0 [] :=
    ⟨rfl, .inr ⟨w.heap.size, 0, #[], rfl, Nat.le_refl _, heap_alloc_new w _, Nat.le_refl _, Nat.zero_le _, rfl, rfl⟩⟩
  have g1 : NdIn (fun k => k < w.heap.size) w A l := h1.mono fun b hb _ => hb
  have g2 : NdIn (fun k => k < w.heap.size) w B m := h2.mono fun b hb _ => hb
  have ha : Below w.heap.size w (w.alloc (.cells #[] 39)) := below_alloc w _
  obtain ⟨v1, w1, us, r1, o1, n1, b1⟩ := named_step (cB := cA) hown0 (g1.keep fun b hb => ha.block b hb) hA (by simp) (by omega) ty
  have hb1 : Below w.heap.size w w1 := ha.trans b1
  rw [Nat.zero_add, List.nil_append] at o1
  obtain ⟨v2, w2, us2, r2, o2, n2, b2⟩ := named_step (cB := cB) o1 (g2.keep fun b hb => hb1.block b hb) hB hb1.size hl ty'
  obtain ⟨A2, c2, rfl⟩ := own_shape o2
  have hlen : (l ++ m).length = l.length + m.length := by simp
  refine ⟨v1, w1, A2, c2, w2, r1, by rw [hlen]; exact r2, ?_, hb1.trans b2⟩
  have k1 : NdCells (fun k => k < w.heap.size) w2 us l := n1.keep fun b hb => (b2.block b hb).trans (b1.block b hb)
  have k2 : NdCells (fun k => k < w.heap.size) w2 us2 m := n2.keep fun b hb => b2.block b hb
  rcases o2.2 with ⟨e, h0⟩ | ⟨g, cap, cur, e, hbg, hg, hr⟩
  · have hn : l ++ m = [] := List.length_eq_zero_iff.1 (by omega)
    rw [hn]
    exact trivial
  · injection e with e1 e2 e3
    subst e1
    refine NdCells.top (NdCells.app k2 k1) fun j u hu => ?_
    have := o2.cells (g := g) rfl j u hu
    rwa [Addr.add_lit] at this

end Go.Proofs.YtpocmfilpecfdaaGreatDoor

namespace Go.Proofs.YtpocmfilpecfdaaGreatDoor
open Go.RowKit

theorem wpList_append_run {P : Program} {ops : Array Oper} {rest : List Oper} {o : Oper} {a : Act} {K0 : Exit → Act → World → Prop} {w w' : World} (hgd : o.guard = none) (s x : Operand) (t : TypeId)
    (ho : o.op = .call { callee := .builtin .append, args := #[s, x], argTypes := #[t, t] }) {v1 v2 r : Value} (h1 : a.eval s = v1) (h2 : a.eval x = v2) (hrun : (Builtin.append_ #[t, t] o.type #[v1, v2]).run P w = .ok r w')
    (h : wpList P ops K0 rest (a.put o.dst r) w') : wpList P ops K0 (o :: rest) a w := by
  refine wpList_plain hgd fun K hK' => ?_
  unfold Oper.wp
  simp [execOp, ho, resolve, invoke, builtin, h1, h2, hrun, Result.andThen]
  exact hK' _ _ h
/-- the word for the longest that is searched at once -/
def MaxOk (w : World) : Prop := 0 < w.heap.size ∧ ∃ m : Int, w.cell? ⟨0, 0, none⟩ = some (.int .i64 m)
theorem MaxOk.below {w w' : World} (h : MaxOk w) (hb : Below w.heap.size w w') : MaxOk w' := by
  obtain ⟨h1, m, h2⟩ := h
  exact ⟨Nat.lt_of_lt_of_le h1 hb.size, m, (hb.cell (p := ⟨0, 0, none⟩) h1).trans h2⟩
theorem lineB_len {p : Pt} (h : PtOk p) (hl : (ptB p).length ≤ 190000000) : (lineB p).length < 4294967281 := by
  have h1 := line_room h (by omega)
  have h2 := putsB_len (lineS p) []
  rw [(lineS_head h).1] at h2
  simp only [List.length_nil] at h2
  omega
theorem arr_app (a b : List UInt8) : (⟨(a ++ b).toArray⟩ : ByteArray) = ⟨a.toArray⟩ ++ ⟨b.toArray⟩ := by
  apply ByteArray.ext
  simp
/-- the text of both rows, one behind the other -/
theorem text_join {S : Nat → Prop} {A : Option Addr} {c : Nat} {l m : List Nd} {w : World} {lm : List Nd} (elm : lm = l ++ m) (h : NdIn S w A lm) (hl : lm.length ≤ 9223372036854775807) (htab : TabOk w) (hpow : TabP w.heap.size w) (hfl : NdFit l) (hfm : NdFit m) (hlen : (sayAll l).length + (sayAll m).length ≤ 140737488355328) :
    Calls Tryz.prog 6 #[.slice A lm.length c] w fun e w' => e = .returned (.string (⟨(sayAll l).toArray⟩ ++ ⟨(sayAll m).toArray⟩)) ∧ Below w.heap.size w w' := by
  subst elm
  have hf : NdFit (l ++ m) := fun d hd => by
    rcases List.mem_append.1 hd with hd | hd
    · exact hfl d hd
    · exact hfm d hd
  have h1 := text_any (c := c) h hl htab hpow hf (by rw [sayAll_app, List.length_append]; exact hlen)
  rw [sayAll_app, arr_app] at h1
  exact h1
theorem nd_new {w : World} {x : Ph} {d : Nd} (hp : PtIn All w x d.pt) (hn : d.name.size ≤ 9223372036854775807) : NdIn All (w.alloc (.cells #[.string d.name, .int .u8 d.pt.kind, .string d.pt.file, .string d.pt.text, .int .i64 d.pt.hunk.at_, .slice x.h.oA d.pt.hunk.old.length x.h.oc, .slice x.h.nA d.pt.hunk.new.length x.h.nc, .int .u8 d.pt.edit.kind, .slice x.e.pA d.pt.edit.path.length x.e.pc, .int .i64 d.pt.edit.at_, .int .i64 d.pt.edit.far, .string d.pt.edit.frm, .string d.pt.edit.to, .slice x.e.oA d.pt.edit.old.len x.e.oc, .slice x.e.nA d.pt.edit.new.len x.e.nc] 39)) (some ⟨w.heap.size, 0, none⟩) [d] := by
  have hc := Lib.cell_of_heap (heap_alloc_new w (.cells #[.string d.name, .int .u8 d.pt.kind, .string d.pt.file, .string d.pt.text, .int .i64 d.pt.hunk.at_, .slice x.h.oA d.pt.hunk.old.length x.h.oc, .slice x.h.nA d.pt.hunk.new.length x.h.nc, .int .u8 d.pt.edit.kind, .slice x.e.pA d.pt.edit.path.length x.e.pc, .int .i64 d.pt.edit.at_, .int .i64 d.pt.edit.far, .string d.pt.edit.frm, .string d.pt.edit.to, .slice x.e.oA d.pt.edit.old.len x.e.oc, .slice x.e.nA d.pt.edit.new.len x.e.nc] 39))
  exact ⟨w.heap.size, 0, x, rfl, trivial, ⟨hc 0, hc 1, hc 2, hc 3, hc 4, hc 5, hc 6, hc 7, hc 8, hc 9, hc 10, hc 11, hc 12, hc 13, hc 14⟩, hn, hp.below (below_alloc _ _), trivial⟩
/-- the text of one -/
theorem text_one {c : Nat} {A : Option Addr} {d : Nd} {w : World} (h : NdIn All w A [d]) (htab : TabOk w) (hpow : TabP w.heap.size w) (hf : NdFit [d]) (hlen : (sayB d).length ≤ 140737488355328) :
    Calls Tryz.prog 6 #[.slice A 1 c] w fun e w' => e = .returned (.string (sayS d)) ∧ Below w.heap.size w w' := by
  have e : sayAll [d] = sayB d := by simp [sayAll]
  have h1 := text_any (c := c) h (by simp) htab hpow hf (by rw [e]; exact hlen)
  have e2 : (⟨(sayB d).toArray⟩ : ByteArray) = sayS d := by
    rw [← sayS_list]
  rw [e, e2] at h1
  exact h1

end Go.Proofs.YtpocmfilpecfdaaGreatDoor

namespace Go.Proofs.YtpocmfilpecfdaaGreatDoor
open Go.RowKit

theorem line_not63 {p : Pt} (h : PtOk p) : (lineB p == [63]) = false := by
  rw [beq_eq_false_iff_ne]
  intro e2
  obtain ⟨a, c, r, e1, _⟩ := line_shape h
  have hm : (32 : UInt8) ∈ lineB p := by
    unfold lineB
    rw [e1, Lib.join_cons]
    apply List.mem_append_right
    simp [Lib.joinTail]
  rw [e2] at hm
  simp at hm
theorem line_words3 {p : Pt} (h : PtOk p) : 3 ≤ (lineW p).length := by
  obtain ⟨a, c, r, e1, _⟩ := line_shape h
  rw [e1]
  simp
theorem line_count {p : Pt} (h : PtOk p) : Lib.count (lineB p) [32] + 1 = (lineW p).length := by
  obtain ⟨a, c, r, e, _⟩ := line_shape h
  have hw := line_words h
  unfold lineB
  rw [e] at hw ⊢
  rw [(split_words a _ (fun c hc => (hw a List.mem_cons_self c hc).1) (fun y hy c hc => (hw y (List.mem_cons_of_mem a hy) c hc).1)).2]
  rfl
theorem split_line {p : Pt} {W : World} (hok : PtOk p) (hl : (ptB p).length ≤ 190000000) (hmx : MaxOk W) :
    Calls Tryz.prog 10 #[.string ⟨(lineB p).toArray⟩, .string ⟨#[32]⟩] W fun e w' => ∃ N, e = .returned (.slice (some ⟨N, 0, none⟩) (lineW p).length (lineW p).length) ∧ w'.cell? ⟨N, 1, none⟩ = some (.string p.file) ∧ Below W.heap.size W w' := by
  obtain ⟨hM, m, hm⟩ := hmx
  have hd : ((⟨(lineB p).toArray⟩ : ByteArray)).data.toList = lineB p := by simp
  have hs : (⟨(lineB p).toArray⟩ : ByteArray).size < 4294967281 := by
    have : (⟨(lineB p).toArray⟩ : ByteArray).size = (lineB p).length := by simp [ByteArray.size]
    rw [this]
    exact lineB_len hok hl
  have hc : Lib.countB ⟨(lineB p).toArray⟩ ⟨#[32]⟩ + 1 = (lineW p).length := by
    show Lib.count (⟨(lineB p).toArray⟩ : ByteArray).data.toList [32] + 1 = _
    rw [hd, line_count hok]
  have h1 := Tryz.strings_Split ⟨(lineB p).toArray⟩ ⟨#[32]⟩ m W hs hm (by decide)
  rw [hc] at h1
  refine h1.mono ?_
  rintro e w' ⟨rfl, rfl⟩
  refine ⟨W.heap.size, rfl, ?_, below_alloc _ _⟩
  rw [Lib.cell_of_heap (heap_alloc_new W _)]
  have hx : (Lib.splitB ⟨#[32]⟩ 0 (Lib.countB ⟨(lineB p).toArray⟩ ⟨#[32]⟩) ⟨(lineB p).toArray⟩).map (·.data.toList) = lineW p := by
    rw [Lib.splitB_data]
    show Lib.splitK [32] 0 (Lib.count (⟨(lineB p).toArray⟩ : ByteArray).data.toList [32]) (⟨(lineB p).toArray⟩ : ByteArray).data.toList = _
    rw [hd]
    exact line_split hok
  obtain ⟨a, c, r, e1, _⟩ := line_shape hok
  rw [e1] at hx
  generalize Lib.splitB ⟨#[32]⟩ 0 (Lib.countB ⟨(lineB p).toArray⟩ ⟨#[32]⟩) ⟨(lineB p).toArray⟩ = L at hx ⊢
  match L, hx with
  | s0 :: s1 :: L', hx =>
    rw [List.map_cons, List.map_cons] at hx
    injection hx with _ hx
    injection hx with hx _
    have : s1 = p.file := by
      apply ByteArray.ext
      exact Array.toList_inj.1 hx
    subst this
    rfl
  | [s0], hx => simp at hx
  | [], hx => simp at hx
theorem index10_none : ∀ {l : List UInt8}, (∀ c ∈ l, c ≠ 10) → Lib.indexByte l 10 = -1
  | [], _ => rfl
  | c :: l, h => by
    have hc : (c == 10) = false := by rw [beq_eq_false_iff_ne]; exact h c (by simp)
    have ih := index10_none (l := l) (fun d hd => h d (by simp [hd]))
    unfold Lib.indexByte
    rw [hc, ih]
    rfl
theorem contains_line {p : Pt} {W : World} (hok : PtOk p) : Calls Tryz.prog 11 #[.string ⟨(lineB p).toArray⟩, .string ⟨#[10]⟩] W fun e w' => e = .returned (.bool false) ∧ W = w' := by
  refine (Tryz.strings_Contains_one ⟨(lineB p).toArray⟩ 10 W).mono ?_
  rintro e w' ⟨rfl, rfl⟩
  refine ⟨?_, rfl⟩
  have hd : ((⟨(lineB p).toArray⟩ : ByteArray)).data.toList = lineB p := by simp
  rw [hd]
  rw [index10_none (line_no10 hok)]
  rfl

end Go.Proofs.YtpocmfilpecfdaaGreatDoor

namespace Go.Proofs.YtpocmfilpecfdaaGreatDoor
open Go.RowKit

set_option maxHeartbeats 8000000 in
set_option maxRecDepth 1000000 in
theorem rows_0 {A : Option Addr} {A' : Option Addr} {cA cB : Nat} {l m : List Nd} {w : World} (hl : NdIn All w A l) (hm : NdIn All w A' m) (h0 : l.length = 0) (hB : A' = none → m.length = 0) (hcl : (l : List Nd).length ≤ 1048576) (hcm : m.length ≤ 1048576)
    (htab : TabOk w) (hpow : TabP w.heap.size w) (hmx : MaxOk w) (hfl : NdFit l) (hfm : NdFit m) (hlen : (sayAll l).length + (sayAll m).length ≤ 140737488355328) (hsm : ∀ d ∈ (l : List Nd), (ptB d.pt).length ≤ 190000000) :
    Calls Tryz.prog 3 #[.slice A l.length cA, .slice A' m.length cB] w fun e w' => e = .returned (.bool true) ∧ Below w.heap.size w w' := by
  have H := hide hl
  have H2 := hide hm
  have HT := hide htab
  have HP := hide hpow
  have HM := hide hmx
  have HFl := hide hfl
  have HFm := hide hfm
  have Hlen := hide hlen
  have Hsm := hide hsm
  have HA : Hid ((A : Option Addr) = none → (l : List Nd).length = 0) := hide (fun _ => h0)
  have HBn := hide hB
  have hz0 : ¬ 9223372036854775807 < (sayAll l).length + (sayAll m).length := by omega
  have h3000 : is63 3000 := by unfold is63; omega
  have H0 := hide h0
  clear h0
  clear hl hm htab hpow hmx hfl hfm hlen hsm hB
  go_enter Tryz.func3, Tryz.ntmps3
  go_wp2_with (first
    | (go_at_call 4; (with_reducible refine (awake_any HT.out HP.out).mono ?_); rintro e1 w1 ⟨rfl, hB1⟩; have HB1 := hide hB1; have hs1 := HB1.out.size; clear hB1)
    | (go_at_call 5; (with_reducible refine (namedOf_any (l := l) (H.out.below HB1.out) h3000 (Nat.le_trans hcl (by omega))).mono ?_); rintro e2 w2 ⟨⟨r2, rfl, hr2⟩, hB2⟩; have HB2 := hide (HB1.out.trans (hB2.mono hs1)); have hs2 := HB2.out.size; clear hB2)
    | (go_at_call 5; (with_reducible refine (namedOf_any (l := m) (H2.out.below HB2.out) h3000 (Nat.le_trans hcm (by omega))).mono ?_); rintro e3 w3 ⟨⟨r3, rfl, hr3⟩, hB3⟩; have HB3 := hide (HB2.out.trans (hB3.mono hs2)); have hs3 := HB3.out.size; have HJ := hide (nameds_join (cA := cA) (cB := cB) (H.out.below HB3.out) (H2.out.below HB3.out) HA.out HBn.out (by omega) 22 22); clear hB3)
    | (at_builtin; obtain ⟨v1, w4, A5, c5, w5, hr1, hr2, hN5, hB5⟩ := HJ.out; obtain ⟨lm, hlm⟩ : ∃ lm, lm = l ++ m := ⟨_, rfl⟩; rw [← hlm] at hr2 hN5; refine wpList_append_run (v1 := .slice (some ⟨w3.heap.size, 0, none⟩) 0 0) (v2 := .slice A l.length cA) rfl _ _ _ rfl rfl rfl hr1 ?_; have Hr2 := hide hr2; have HN5 := hide hN5; have HB5 := hide (HB3.out.trans (hB5.mono hs3)); have hs5 := HB5.out.size; have hlm2 : lm.length ≤ 9223372036854775807 := (by rw [hlm, List.length_append]; omega); have Hlm := hide hlm; clear hr1 hr2 hN5 hB5 HJ hlm)
    | (at_builtin; refine wpList_append_run (v1 := v1) (v2 := .slice A' m.length cB) rfl _ _ _ rfl rfl rfl Hr2.out ?_; clear Hr2)
    | (go_at_call 6; (with_reducible refine (text_join (l := l) (m := m) Hlm.out HN5.out hlm2 (HT.out.below HB5.out) ((HP.out.below HB5.out).up hs5) HFl.out HFm.out Hlen.out).mono ?_); rintro e6 w6 ⟨rfl, hB6⟩; have HB6 := hide (HB5.out.trans (hB6.mono hs5)); have hs6 := HB6.out.size; clear hB6 HN5)
    | (go_at_call 6; (with_reducible refine (text_any (l := l) (H.out.below HB6.out) (Nat.le_trans hcl (by omega)) (HT.out.below HB6.out) ((HP.out.below HB6.out).up hs6) HFl.out (Nat.le_trans (Nat.le_add_right _ _) Hlen.out)).mono ?_); rintro e7 w7 ⟨rfl, hB7⟩; have HB7 := hide (HB6.out.trans (hB7.mono hs6)); have hs7 := HB7.out.size; clear hB7)
    | (go_at_call 6; (with_reducible refine (text_any (l := m) (H2.out.below HB7.out) (Nat.le_trans hcm (by omega)) (HT.out.below HB7.out) ((HP.out.below HB7.out).up hs7) HFm.out (Nat.le_trans (Nat.le_add_left _ _) Hlen.out)).mono ?_); rintro e8 w8 ⟨rfl, hB8⟩; have HB8 := hide (HB7.out.trans (hB8.mono hs7)); have hs8 := HB8.out.size; clear hB8))
  all_goals first | (go_ret; exact ⟨rfl, by first | exact HB2.out | exact HB3.out⟩) | skip
  clear HA HBn Hlm H2 HFm hz0
  go_loopw [5] (fun i wr => i = .int .i64 l.length ∧ Hid (Below w.heap.size w wr)) (fun _ _ => 0)
  case atStart => exact ⟨by rw [H0.out]; rfl, HB8⟩
  case round =>
    clear HB1 HB2 HB3 HB5 HB6 HB7 HB8
    obtain ⟨rfl, HB⟩ := hrel
    go_wp2_with fail
    go_ret
    exact ⟨rfl, HB.out⟩

end Go.Proofs.YtpocmfilpecfdaaGreatDoor
