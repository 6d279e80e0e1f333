/- For the walk of CodeBack. Printed by gen_back.py. -/
import Derived.Test.YthaoldnlleilfaaDoorCAwake
import Derived.Test.YthaoldnlleilfaaDoorCCount

set_option linter.unusedVariables false
set_option linter.unusedSimpArgs false

namespace Go.Proofs.YthaoldnlleilfaaDoor
open Go.RowKit

theorem zero_in {S : Nat → Prop} {w : World} : PtIn S w ⟨⟨none, 0, none, 0⟩, ⟨none, 0, none, 0, none, 0⟩⟩ Pt.zero := ⟨by decide, by decide, by decide, ptZero.1, ptZero.2⟩
theorem samePatch_zero {w : World} : Calls Tryd.prog 11 #[.agg #[.int .u8 0, .string { data := #[] }, .string { data := #[] }, .int .i64 0, .slice none 0 0, .slice none 0 0, .int .u8 0, .slice none 0 0, .int .i64 0, .int .i64 0, .string { data := #[] }, .string { data := #[] }, .slice none 0 0, .slice none 0 0], .agg #[.int .u8 0, .string { data := #[] }, .string { data := #[] }, .int .i64 0, .slice none 0 0, .slice none 0 0, .int .u8 0, .slice none 0 0, .int .i64 0, .int .i64 0, .string { data := #[] }, .string { data := #[] }, .slice none 0 0, .slice none 0 0]] w fun e w' => e = .returned (.bool true) ∧ Below w.heap.size w w' := by
  have h := samePatch_any (S := fun _ => True) (S' := fun _ => True) (w := w) (a := Pt.zero) (b := Pt.zero) zero_in zero_in
  refine Calls.mono h ?_
  rintro e w' ⟨⟨b, rfl, hb⟩, hB⟩
  exact ⟨by rw [hb.mpr rfl], hB⟩
theorem is2500 : is63 2500 := by unfold is63; omega
theorem put_no {S : Nat → Prop} {x : Ph} {p : Pt} {w : World} (hp : PtIn S w x p) (htab : TabOk w) (hsum : p.edit.frm.size + p.edit.to.size ≤ 9223372036854775807) (hlen : (ptB p).length ≤ lid) (hno : ¬ PtOk p) :
    Calls Tryd.prog 8 #[.agg #[.int .u8 p.kind, .string p.file, .string p.text, .int .i64 p.hunk.at_, .slice x.h.oA p.hunk.old.length x.h.oc, .slice x.h.nA p.hunk.new.length x.h.nc, .int .u8 p.edit.kind, .slice x.e.pA p.edit.path.length x.e.pc, .int .i64 p.edit.at_, .int .i64 p.edit.far, .string p.edit.frm, .string p.edit.to, .slice x.e.oA p.edit.old.len x.e.oc, .slice x.e.nA p.edit.new.len x.e.nc]] w fun e w' => e = .returned (.tuple #[.slice none 0 0, .int .i64 4]) ∧ Below w.heap.size w w' := by
  refine (put_get hp htab hsum hlen).mono ?_
  rintro e w' ⟨hB, ⟨ho, _⟩ | ⟨_, he⟩⟩
  · exact absurd ho hno
  · exact ⟨he, hB⟩
theorem put_yes {S : Nat → Prop} {x : Ph} {p : Pt} {w : World} (hp : PtIn S w x p) (htab : TabOk w) (hsum : p.edit.frm.size + p.edit.to.size ≤ 9223372036854775807) (hlen : (ptB p).length ≤ lid) (hok : PtOk p) :
    Calls Tryd.prog 8 #[.agg #[.int .u8 p.kind, .string p.file, .string p.text, .int .i64 p.hunk.at_, .slice x.h.oA p.hunk.old.length x.h.oc, .slice x.h.nA p.hunk.new.length x.h.nc, .int .u8 p.edit.kind, .slice x.e.pA p.edit.path.length x.e.pc, .int .i64 p.edit.at_, .int .i64 p.edit.far, .string p.edit.frm, .string p.edit.to, .slice x.e.oA p.edit.old.len x.e.oc, .slice x.e.nA p.edit.new.len x.e.nc]] w fun e w' => (∃ A c, e = .returned (.tuple #[.slice A (ptB p).length c, .int .i64 0]) ∧ BytesIn (fun b => w.heap.size ≤ b) w' A (ptB p) ∧ (ptB p).length ≤ c ∧ c ≤ 9223372036854775807) ∧ Below w.heap.size w w' := by
  refine (put_get hp htab hsum hlen).mono ?_
  rintro e w' ⟨hB, ⟨_, h⟩ | ⟨ho, _⟩⟩
  · exact ⟨h, hB⟩
  · exact absurd hok ho
theorem right_no {S : Nat → Prop} {x : Ph} {p : Pt} {w : World} (hp : PtIn S w x p) (htab : TabOk w) (hsum : p.edit.frm.size + p.edit.to.size ≤ 9223372036854775807) (hno : ¬ PtOk p) :
    Calls Tryd.prog 9 #[.agg #[.int .u8 p.kind, .string p.file, .string p.text, .int .i64 p.hunk.at_, .slice x.h.oA p.hunk.old.length x.h.oc, .slice x.h.nA p.hunk.new.length x.h.nc, .int .u8 p.edit.kind, .slice x.e.pA p.edit.path.length x.e.pc, .int .i64 p.edit.at_, .int .i64 p.edit.far, .string p.edit.frm, .string p.edit.to, .slice x.e.oA p.edit.old.len x.e.oc, .slice x.e.nA p.edit.new.len x.e.nc]] w fun e w' => e = .returned (.bool false) ∧ Below w.heap.size w w' := by
  refine (patchRight_any hp htab hsum).mono ?_
  rintro e w' ⟨⟨b, rfl, hb⟩, hB⟩
  cases b
  · exact ⟨rfl, hB⟩
  · exact absurd (hb.mp rfl) hno
theorem right_yes {S : Nat → Prop} {x : Ph} {p : Pt} {w : World} (hp : PtIn S w x p) (htab : TabOk w) (hsum : p.edit.frm.size + p.edit.to.size ≤ 9223372036854775807) (hok : PtOk p) :
    Calls Tryd.prog 9 #[.agg #[.int .u8 p.kind, .string p.file, .string p.text, .int .i64 p.hunk.at_, .slice x.h.oA p.hunk.old.length x.h.oc, .slice x.h.nA p.hunk.new.length x.h.nc, .int .u8 p.edit.kind, .slice x.e.pA p.edit.path.length x.e.pc, .int .i64 p.edit.at_, .int .i64 p.edit.far, .string p.edit.frm, .string p.edit.to, .slice x.e.oA p.edit.old.len x.e.oc, .slice x.e.nA p.edit.new.len x.e.nc]] w fun e w' => e = .returned (.bool true) ∧ Below w.heap.size w w' := by
  refine (patchRight_any hp htab hsum).mono ?_
  rintro e w' ⟨⟨b, rfl, hb⟩, hB⟩
  exact ⟨by rw [hb.mpr hok], hB⟩

end Go.Proofs.YthaoldnlleilfaaDoor

namespace Go.Proofs.YthaoldnlleilfaaDoor
open Go.RowKit

theorem sameBytes_yes {S S' : Nat → Prop} {A A' : Option Addr} {c c' : Nat} {l m : List UInt8} {w : World} (hl : BytesIn S w A l) (hm : BytesIn S' w A' m) (he : l = m) :
    Calls Tryd.prog 10 #[.slice A l.length c, .slice A' m.length c'] w fun e w' => e = .returned (.bool true) ∧ Below w.heap.size w w' := by
  refine (sameBytes_any hl hm).mono ?_
  rintro e w' ⟨⟨b, rfl, hb⟩, n, rfl⟩
  exact ⟨by rw [hb.mpr he], blw_drewN (Below.refl _ _) n⟩
theorem patchSame_self {S S' : Nat → Prop} {x y : Ph} {p : Pt} {w : World} (ha : PtIn S w x p) (hb : PtIn S' w y p) :
    Calls Tryd.prog 14 #[.agg #[.int .u8 p.kind, .string p.file, .string p.text, .int .i64 p.hunk.at_, .slice x.h.oA p.hunk.old.length x.h.oc, .slice x.h.nA p.hunk.new.length x.h.nc, .int .u8 p.edit.kind, .slice x.e.pA p.edit.path.length x.e.pc, .int .i64 p.edit.at_, .int .i64 p.edit.far, .string p.edit.frm, .string p.edit.to, .slice x.e.oA p.edit.old.len x.e.oc, .slice x.e.nA p.edit.new.len x.e.nc], .agg #[.int .u8 p.kind, .string p.file, .string p.text, .int .i64 p.hunk.at_, .slice y.h.oA p.hunk.old.length y.h.oc, .slice y.h.nA p.hunk.new.length y.h.nc, .int .u8 p.edit.kind, .slice y.e.pA p.edit.path.length y.e.pc, .int .i64 p.edit.at_, .int .i64 p.edit.far, .string p.edit.frm, .string p.edit.to, .slice y.e.oA p.edit.old.len y.e.oc, .slice y.e.nA p.edit.new.len y.e.nc]] w fun e w' => e = .returned (.bool true) ∧ Below w.heap.size w w' := by
  refine (patchSame_any ha hb).mono ?_
  rintro e w' ⟨⟨b, rfl, hb⟩, hB⟩
  exact ⟨by rw [hb.mpr rfl], hB⟩
theorem pick_nat {x : Int} {n : Nat} {w : World} (hx : is63 x) (hn : n ≤ lid) (h0 : 0 < n) : Calls Tryd.prog 12 #[.int .i64 x, .int .i64 n] w fun e w' => (∃ k : Nat, e = .returned (.int .i64 k) ∧ k < n) ∧ w = w' := by
  have hn' : is63 (n : Int) := by simp only [lid] at hn; unfold is63; omega
  refine (pick_any x n w hx hn').mono ?_
  rintro e w' ⟨⟨r, rfl, h1, _, h2⟩, rfl⟩
  have h3 := h2 (by omega)
  exact ⟨⟨r.toNat, by rw [Int.toNat_of_nonneg h1], by omega⟩, rfl⟩
section
variable {Q : Program} (w : World)
/-- an append to a row of the call's own, in a walk, of a row that may be nil -/
theorem wpList_append_any {ops : Array Oper} {rest : List Oper} {o : Oper} {a : Act} {K0 : Exit → Act → World → Prop} (hgd : o.guard = none) (s x : Operand) (t : TypeId)
    (ho : o.op = .call { callee := .builtin .append, args := #[s, x], argTypes := #[t, t] })
    (e : TypeId) (i : TypeInfo) (z : Value) (size bytes : Nat) (ht : Q.underlying t = some (.slice e)) (hi : Q.info? e = some i) (hz : i.zero = some z)
    (hsize : i.size = size) (hby : i.bytes = bytes) (hzs : z.cells.size = size) (hsz : 0 < size)
    (v : Value) (n : Nat) (xs : List Value) (hs : a.eval s = v) (hown : w.ownsRow 0 e size v n xs)
    (ao : Option Addr) (m c : Nat) (news : List Value) (hx : a.eval x = .slice ao m c) (hl : news.length = m * size) (hnone : ao = none → m = 0 ∧ c = 0)
    (hnews : ∀ ad, ao = some ad → ∀ j u, news[j]? = some u → w.cell? (ad.add j) = some u) (h1 : ∀ u ∈ news, u.oneCell' = true)
    (h63 : n + m ≤ maxLen) (hbytes : (n + m) * bytes ≤ 140737488355328)
    (h : ∀ v' w', w'.ownsRow 0 e size v' (n + m) (xs ++ news) → w.grownBy w' v.ownBlock → (v'.ownBlock = v.ownBlock ∨ v'.ownBlock = some w.heap.size) →
      wpList Q ops K0 rest (a.put o.dst v') w') : wpList Q ops K0 (o :: rest) a w := by
  cases ao with
  | some ad => exact wpList_append_own2 w hgd s x t ho e i z size bytes ht hi hz hsize hby hzs hsz v n xs hs hown ad m c news hx hl (hnews ad rfl) h1 h63 hbytes (fun v' w' g1 g2 _ g4 => h v' w' g1 g2 g4)
  | none =>
    obtain ⟨rfl, rfl⟩ := hnone rfl
    have hn : news = [] := List.eq_nil_of_length_eq_zero (by simpa using hl)
    subst hn
    refine wpList_plain hgd fun K hK' => ?_
    have hrun := run_append_owned_none (P := Q) (w := w) 0 t o.type e i size ht hi v n xs hown
    unfold Oper.wp
    simp [execOp, ho, resolve, invoke, builtin, hs, hx, hrun, Result.andThen]
    exact hK' _ _ (h v w (by simpa using hown) (World.grownBy.refl _ _) (.inl rfl))
end
theorem rd_cells {S : Nat → Prop} {w : World} {A : Option Addr} {xs : List Value} (h : Rd S w A xs) : ∀ ad, A = some ad → ∀ j u, xs[j]? = some u → w.cell? (ad.add j) = some u := by
  rintro ad rfl j u hu
  rcases h with rfl | ⟨b, o, e, _, hc⟩
  · simp at hu
  · injection e with e
    subst e
    rw [Addr.add_lit]
    exact hc j u hu
theorem bytes_one (l : List UInt8) : ∀ u ∈ bytesV l, u.oneCell' = true := by
  intro u hu
  simp [bytesV] at hu
  obtain ⟨x, _, rfl⟩ := hu
  rfl
theorem take_len {l : List UInt8} {k : Nat} (h : k < l.length) : (l.take k).length = k := by rw [List.length_take]; omega
theorem own_app {w : World} {v : Value} {n : Nat} {l r : List UInt8} (h : w.ownsRow 0 5 1 v n (bytesV l ++ bytesV r)) : w.ownsRow 0 5 1 v n (bytesV (l ++ r)) := by rwa [bytesV_app]

end Go.Proofs.YthaoldnlleilfaaDoor

namespace Go.Proofs.YthaoldnlleilfaaDoor
open Go.RowKit

set_option maxHeartbeats 4000000 in
set_option maxRecDepth 1000000 in
theorem codeBack_big {S S' : Nat → Prop} {x : Ph} {p : Pt} {cut : Int} {A : Option Addr} {c : Nat} {b : List UInt8} {w : World} (hp : PtIn S w x p) (hcut : is63 cut) (hb : BytesIn S' w A b) (hc : b.length ≤ c) (hc2 : c ≤ 9223372036854775807) (htab : TabOk w)
    (hsum : p.edit.frm.size + p.edit.to.size ≤ 9223372036854775807) (hlen : (ptB p).length ≤ 549755813888) (h20 : 20000 < b.length)  :
    Calls Tryd.prog 3 #[.agg #[.int .u8 p.kind, .string p.file, .string p.text, .int .i64 p.hunk.at_, .slice x.h.oA p.hunk.old.length x.h.oc, .slice x.h.nA p.hunk.new.length x.h.nc, .int .u8 p.edit.kind, .slice x.e.pA p.edit.path.length x.e.pc, .int .i64 p.edit.at_, .int .i64 p.edit.far, .string p.edit.frm, .string p.edit.to, .slice x.e.oA p.edit.old.len x.e.oc, .slice x.e.nA p.edit.new.len x.e.nc], .int .i64 cut, .slice A b.length c] w fun e w' => e = .returned (.bool true) ∧ Below w.heap.size w w' := by
  have Hp := hide hp
  have Hb := hide hb
  have Htab := hide htab
  have hlid : (ptB p).length ≤ lid := Nat.le_trans hlen (by decide)
  have hgt : decide ((20000 : Int) < (b.length : Int)) = true := by simp; omega
  clear hp hb htab
  go_enter Tryd.func3, Tryd.ntmps3
  go_wp2_with (first
    | (go_at_call 5; (with_reducible refine (awake_any (Htab.out.below (below_alloc _ _))).mono ?_); rintro e1 w1 ⟨rfl, hB⟩; have HB1 : Hid (Below w.heap.size w w1) := hide (blw_up (below_alloc _ _) hB); obtain ⟨hx1, hf1, hz1⟩ := bbox (N := w.heap.size) hB (by simp); clear hB)
    | (go_at_call 6; (with_reducible refine (patchOf_any (Hp.out.below HB1.out) is2500).mono ?_); rintro e2 w2 ⟨⟨r, rfl, hr⟩, hB⟩; have HB2 : Hid (Below w.heap.size w w2) := hide (blw_up HB1.out hB); obtain ⟨hx2, hf2, hz2⟩ := bbox (N := w.heap.size) hB (by first | exact hz1 | (simp; omega)); clear hB))
  all_goals (go_ret; go_tidy)
  all_goals first | exact ⟨rfl, HB2.out⟩ | exact ⟨rfl, HB2.out⟩

end Go.Proofs.YthaoldnlleilfaaDoor
