/- For every patch, every number and every row of bytes, clerestorylaw24.CodeBack returns true and its arguments read as they did. Conditions: the arguments are together of bulk at most 1048576; the two listed package variables hold what their initialisers lay. -/
import Derived.Test.YthaoldnlleilfaaDoorRows
import Derived.Test.YthaoldnlleilfaaDoorTie
import Derived.ProofKit
import Derived.Lib.LaidTab
import Derived.LaidLaws
import Derived.Test.YthaoldnlleilfaaDoorCards
import Derived.OpenShut
import Derived.Deep.DeepHandedRow
import Derived.Deep.DeepWitnessRowRef
import Derived.Test.YthaoldnlleilfaaDoorCBackNN
import Derived.Test.YthaoldnlleilfaaDoorCBackBase
import Derived.Test.YthaoldnlleilfaaDoorCBackYN
import Derived.Test.YthaoldnlleilfaaDoorCBackYY
import Derived.Test.YthaoldnlleilfaaDoorCBackNP
import Derived.Test.YthaoldnlleilfaaDoorCBackNZ
import Derived.Test.YthaoldnlleilfaaDoorCOpen

set_option linter.unusedVariables false
set_option linter.unusedSimpArgs false

namespace Go.Proofs.YthaoldnlleilfaaDoor
open Go.RowKit

theorem own_knob : ownKnob Tryd.prog.godebug = none := by kernel_rfl
noncomputable def laidWorld (os : Os) : World :=
  let N := (World.settled Tryd.prog os).heap.size
  let w0 := World.holding Tryd.prog os ⟨#[
    .cells #[.int .u16 9, .int .u16 13, .int .u16 1, .int .u16 32, .int .u16 133, .int .u16 101, .int .u16 160, .int .u16 5760, .int .u16 5600, .int .u16 8192, .int .u16 8202, .int .u16 1, .int .u16 8232, .int .u16 8233, .int .u16 1, .int .u16 8239, .int .u16 8287, .int .u16 48, .int .u16 12288, .int .u16 12288, .int .u16 1] 145,
    .cells #[.slice (some ⟨N, 0, none⟩) 7 7, .slice none 0 0, .int .i64 2] 142], #[], []⟩
  let put (h : Array Obj) (g : Nat) (cs : Array Value) : Array Obj := h.modify g fun
    | .cells _ t frozen => .cells cs t frozen
    | o => o
  let h1 := put w0.heap 0 ((List.range 256).map fun i => Value.int .u8 (if i = 32 ∨ (9 ≤ i ∧ i ≤ 13) then 1 else 0)).toArray
  let h2 := put h1 2 #[.pointer (some ⟨N + 1, 0, none⟩)]
  { w0 with heap := h2 }
set_option maxRecDepth 100000 in
theorem laid_met (os : Os) (args : Array Value) : laidMet Tryd.prog [("unicode.White_Space", Rows.laid_unicode_White_Space), ("strings.asciiSpace", Rows.laid_strings_asciiSpace)] ((laidWorld os).forCall (fun _ _ => 0) ⟨#[], args, []⟩).memory :=
  laidMet_of_run' 12 (by kernel_rfl) (by kernel_rfl)
end Go.Proofs.YthaoldnlleilfaaDoor

namespace Go.Proofs.YthaoldnlleilfaaDoor
open Go.RowKit Go.ChangeShapes Go.WideShapes

theorem codeBack_all {x : Ph} {p : Pt} {cut : Int} {A : Option Addr} {c : Nat} {b : List UInt8} {w : World} (hp : PtIn (fun _ => True) w x p) (hcut : is63 cut) (hb : BytesIn (fun _ => True) w A b) (hc : b.length ≤ c) (hc2 : c ≤ 9223372036854775807) (htab : TabOk w)
    (hsum : p.edit.frm.size + p.edit.to.size ≤ 9223372036854775807) (hlen : (ptB p).length ≤ 549755813888) (hnil : A = none → b.length = 0 ∧ c = 0) :
    Calls Tryd.prog 3 #[.agg #[.int .u8 p.kind, .string p.file, .string p.text, .int .i64 p.hunk.at_, .slice x.h.oA p.hunk.old.length x.h.oc, .slice x.h.nA p.hunk.new.length x.h.nc, .int .u8 p.edit.kind, .slice x.e.pA p.edit.path.length x.e.pc, .int .i64 p.edit.at_, .int .i64 p.edit.far, .string p.edit.frm, .string p.edit.to, .slice x.e.oA p.edit.old.len x.e.oc, .slice x.e.nA p.edit.new.len x.e.nc], .int .i64 cut, .slice A b.length c] w fun e w' => e = .returned (.bool true) ∧ Below w.heap.size w w' := by
  by_cases h20 : b.length ≤ 20000
  · have hq : ∀ q, b = ptB q → (ptB q).length ≤ lid := fun q e => by rw [← e]; exact Nat.le_trans h20 (by decide)
    by_cases hpat : PatAt b
    · obtain ⟨q, hfq, hoq, heq⟩ := hpat
      by_cases hok : PtOk p
      · exact codeBack_yy hp hcut hb hc hc2 htab hsum hlen h20 hnil hfq hoq heq (hq q heq) hok (fun e => by have := ptB_pos q; rw [← heq, e] at this; simp at this)
      · exact codeBack_yn hp hcut hb hc hc2 htab hsum hlen h20 hfq hoq heq (hq q heq) hok
    · by_cases hok : PtOk p
      · by_cases hb0 : b = []
        · exact codeBack_nz hp hcut hb hc hc2 htab hsum hlen h20 hnil hpat hok hb0
        · exact codeBack_np hp hcut hb hc hc2 htab hsum hlen h20 hnil hpat hok hb0
      · exact codeBack_nn hp hcut hb hc hc2 htab hsum hlen h20 hpat hok
  · exact codeBack_big hp hcut hb hc hc2 htab hsum hlen (by omega)

set_option maxRecDepth 1000000 in
/-- WHAT THE WALKS GIVE, FOR EVERY ARGUMENT of a bulk that is not too great, and every world that holds the table -/
theorem back_contract (H : Type) (enc : TypeId × Value → H) (W : World) (base : Nat) (args : Array Value) (ds gs : List (DataW H)) (before : List MemPlace)
    (hval0 : ∀ (j : Nat) t v, Tryd.f3.params[j]? = some t → args[j]? = some v → Value.okWide Tryd.prog W .any base t v)
    (hW0 : DataW.Whole enc Tryd.prog Tryd.f3.params.toList Rows.codeBackSpec.vars false W args.toList ds gs before)
    (hk : Rows.uptoSmall H (ds ++ gs) = true) (hL : laidMetH Tryd.prog Rows.codeBackUptoRow.laid W) :
    Calls Tryd.prog 3 args W fun e W' => ∃ v, e = .returned v ∧ Rows.codeBackSpec.post enc Tryd.prog Tryd.f3 false true false false W args v W' := by
  have hW := hW0
  have hval := hval0
  obtain ⟨p, q, hA0, hV, rfl, _, _⟩ := hW0
  have hA : DataW.TrodAll enc Tryd.prog W 0 (fun _ => true) true Tryd.f3.params.toList args.toList ds p := hA0
  rw [Tryd.params3] at hA hval
  obtain ⟨v0, v1, v2, d0, d1, d2, p0, p1, p2, rfl, rfl, rfl, h0, h1, h2⟩ := trodAll_three hA
  obtain ⟨rfl, rfl⟩ := trodVars_none hV
  obtain ⟨cut, rfl, rfl, rfl, wcut⟩ := open_int u_int (hval 1 _ v1 rfl rfl) h1
  obtain ⟨cs, rfl, _⟩ := okWide_struct Tryd.underlying32 (hval 0 _ v0 rfl rfl)
  obtain ⟨A, len, c, rfl⟩ := okWide_slice u_bytes (hval 2 _ v2 rfl rfl)
  obtain ⟨m0, f0⟩ := h0
  obtain ⟨m2, f2⟩ := h2
  obtain ⟨x, pp, ecs, hp, hlen, hsum⟩ := pt_in f0
  obtain ⟨A', b, c', eb, hb, hc, hc2, hnil⟩ := bytes_in u_bytes u_u8 c_u8 f2
  have ecs' : cs = _ := Array.toList_inj.mp ecs
  have eb' : [Value.slice A len c] = _ := eb
  simp only [List.cons.injEq, Value.slice.injEq, and_true] at eb'
  obtain ⟨rfl, rfl, rfl⟩ := eb'
  subst ecs'
  have hbulk : Rows.uptoBulkAll ([d0, .lit (.int .i64 cut), d2] ++ ([] : List (DataW H))) ≤ 1048576 := of_decide_eq_true hk
  simp only [List.append_nil, Rows.uptoBulkAll] at hbulk
  dsimp only at hlen hsum
  refine (codeBack_all hp (wf_i64 wcut) hb hc hc2 (tab_ok hL) (by omega) (by omega) hnil).mono fun e W' ⟨he, hB⟩ => ?_
  subst he
  have hlt := hW.lt
  have hs0 : ∀ z ∈ p0, W.sameAt W' z := fun z hz => hB.same (hlt z (by simp [hz]))
  have hs2 : ∀ z ∈ p2, W.sameAt W' z := fun z hz => hB.same (hlt z (by simp [hz]))
  have hold : ∀ z ∈ p0 ++ [] ++ p2 ++ [], (fun b => decide (b < W.heap.size)) z.block = true := fun z hz => by simpa using hlt z hz
  refine ⟨_, rfl, _, _, _, [], p0 ++ ([] ++ p2), [], hW, trodAll_mk1 (shut_bool u_bool true), trodAll_mk3 (Go.WideElems.Trod_stays laid_out r_patch l_patch ⟨m0, f0⟩ hs0 (fun z hz => hold z (by simp [hz]))) (shut_int u_int wcut) (Go.WideElems.Trod_stays laid_out r_bytes l_bytes ⟨m2, f2⟩ hs2 (fun z hz => hold z (by simp [hz]))), rfl, hB.frame _, fun h => by cases h⟩

end Go.Proofs.YthaoldnlleilfaaDoor

namespace Go.Proofs.YthaoldnlleilfaaDoor
open Go.RowKit Go.ChangeShapes Go.WideShapes

set_option maxRecDepth 100000 in
theorem codeBack_reads (os : Os) {H : Type} (enc : TypeId × Value → H) : (DataW.whole enc Tryd.prog ((laidWorld os).forCall (fun _ _ => 0) ⟨#[], #[.agg #[.int .u8 0, .string ⟨#[]⟩, .string ⟨#[]⟩, .int .i64 0, .slice none 0 0, .slice none 0 0, .int .u8 0, .slice none 0 0, .int .i64 0, .int .i64 0, .string ⟨#[]⟩, .string ⟨#[]⟩, .slice none 0 0, .slice none 0 0], .int .i64 0, .slice none 0 0], []⟩).memory Tryd.f3.params.toList Rows.codeBackSpec.vars false #[.agg #[.int .u8 0, .string ⟨#[]⟩, .string ⟨#[]⟩, .int .i64 0, .slice none 0 0, .slice none 0 0, .int .u8 0, .slice none 0 0, .int .i64 0, .int .i64 0, .string ⟨#[]⟩, .string ⟨#[]⟩, .slice none 0 0, .slice none 0 0], .int .i64 0, .slice none 0 0].toList 8).map (fun x => (x.1, x.2.1)) = some ([.agg [.lit (.int .u8 0), .lit (.string []), .lit (.string []), .agg [.lit (.int .i64 0), .nil, .nil], .agg [.lit (.int .u8 0), .nil, .lit (.int .i64 0), .lit (.int .i64 0), .lit (.string []), .lit (.string []), .nil, .nil]], .lit (.int .i64 0), .nil], []) := by kernel_rfl
set_option maxRecDepth 100000 in
theorem codeBack_lifted (os : Os) (started : os.Started) (H : Type) (enc : TypeId × Value → H) (F : Stop.Interp) :
    ReturnsInHanded {} Tryd.checked os 3 .any ((Rows.OpenSpec.upto Rows.codeBackSpec).preRow enc Tryd.prog Tryd.f3 Rows.codeBackUptoRow.domain false Rows.codeBackUptoRow.laid) (((Rows.OpenSpec.upto Rows.codeBackSpec).at F).post enc Tryd.prog Tryd.f3 false true false false) := by
  obtain ⟨⟨x1, x2, x3⟩, hx, hx1⟩ := Option.map_eq_some_iff.1 (codeBack_reads os enc)
  simp only [Prod.mk.injEq] at hx1
  obtain ⟨rfl, rfl⟩ := hx1
  refine returnsInHanded_of_row (C := Tryd.checked) (s := Rows.OpenSpec.upto Rows.codeBackSpec) own_knob started (by kernel_rfl) Tryd.func3
    (witness_row_atRef (enc := enc) (C := Tryd.checked) false (laidWorld os) #[.agg #[.int .u8 0, .string ⟨#[]⟩, .string ⟨#[]⟩, .int .i64 0, .slice none 0 0, .slice none 0 0, .int .u8 0, .slice none 0 0, .int .i64 0, .int .i64 0, .string ⟨#[]⟩, .string ⟨#[]⟩, .slice none 0 0, .slice none 0 0], .int .i64 0, .slice none 0 0] rfl (by kernel_rfl) (by kernel_rfl) (by kernel_rfl)
      (OpenSpec.preRow_of_cond 8 hx (by kernel_rfl) (fun k hk => by cases hk; kernel_rfl) (by kernel_rfl) (laid_met os _))) ?_
  intro W base args ds gs before hval hW _ hcond _ hL _ _
  exact back_contract H enc W base args ds gs before hval hW (hcond _ rfl) hL
set_option maxRecDepth 100000 in
theorem codeBack_saidUpto : Rows.CodeBackUptoSaid :=
  OpenClaim.holds_of_cond 3 Tryd.f3 rfl rfl rfl rfl rfl rfl rfl ⟨rfl, rfl, rfl, rfl, rfl⟩ rfl rfl rfl rfl rfl (by kernel_rfl) Tryd.func3 (by kernel_rfl)
    (of_decide_eq_true (by kernel_rfl)) (by unfold Func.isWrapper; first | (rw [if_pos (by decide +kernel)]; kernel_rfl) | (rw [if_neg (by decide +kernel)]; exact ⟨rfl, rfl⟩))
    (fun os started H enc _ F => by rw [OpenClaim.pre_eq_preRow]; exact codeBack_lifted os started H enc F)
theorem codeBack_plain (f : FuncId) (fn : Func) (hf : Tryd.pinned.checked.prog.funcNamed "clerestory/clerestorylaw24.CodeBack" = some f) (hfn : Tryd.pinned.checked.prog.funcs[f]? = some fn) :
    true = Tryd.pinned.checked.prog.looks [] ∧ ∀ (j : Nat) t, fn.params[j]? = some t → Tryd.pinned.checked.prog.wantsStandIn t = false := by
  obtain rfl : f = 3 := Option.some.inj ((show Tryd.prog.funcNamed "clerestory/clerestorylaw24.CodeBack" = some 3 by kernel_rfl).symm.trans hf) |>.symm
  obtain rfl : fn = Tryd.f3 := (Option.some.inj (Tryd.func3.symm.trans hfn)).symm
  refine ⟨by kernel_rfl, fun j t ht => ?_⟩
  rw [Tryd.params3] at ht
  have hm := Array.mem_of_getElem? ht
  simp only [List.mem_toArray, List.mem_cons, List.not_mem_nil, or_false] at hm
  rcases hm with rfl | rfl | rfl
  · exact (show Tryd.prog.wantsStandIn 32 = false by kernel_rfl)
  · exact (show Tryd.prog.wantsStandIn 3 = false by kernel_rfl)
  · exact (show Tryd.prog.wantsStandIn 33 = false by kernel_rfl)
theorem codeBack_cardUpto : Rows.CodeBackUptoCardSaid :=
  Claim7.holds_tied_plain_at .later [] _ _ _ _ codeBack_saidUpto (fun _ h => by cases h) (by kernel_rfl) (fun _ h => by cases h) codeBackUpto_row_tie rfl ⟨rfl, rfl⟩ (by kernel_rfl) rfl codeBack_plain (by kernel_rfl)

end Go.Proofs.YthaoldnlleilfaaDoor
