/- For every two hunks, clerestorylaw22.MergeLines returns true and its arguments read as they did. Conditions: the arguments are together of bulk at most 1048576; the two listed package variables hold what their initialisers lay. -/
import Derived.Test.YtialngdffhmobaaGreatDoorCards
import Derived.Test.YtialngdffhmobaaGreatDoorUCard
import Derived.Test.YtialngdffhmobaaGreatDoorUAll
import Derived.Test.YtialngdffhmobaaGreatDoorUFacts
import Derived.OpenShut
import Derived.Deep.DeepHandedRow
import Derived.Deep.DeepWitnessRowRef
set_option linter.unusedVariables false
set_option linter.unusedSimpArgs false
set_option maxHeartbeats 16000000
set_option maxRecDepth 1000000
namespace Go.Proofs.YtialngdffhmobaaGreatDoor
open Go.RowKit Go.ChangeShapes Go.WideShapes
theorem mergeLines_reads(os:Os){H:Type}(enc:TypeId×Value→H):(DataW.whole enc Tryz.prog ((laidWorld os).forCall (fun _ _=>0) ⟨#[],#[.agg #[.int .i64 0,.slice none 0 0,.slice none 0 0],.agg #[.int .i64 0,.slice none 0 0,.slice none 0 0]],[]⟩).memory Tryz.f6.params.toList Rows.mergeLinesSpec.vars false #[.agg #[.int .i64 0,.slice none 0 0,.slice none 0 0],.agg #[.int .i64 0,.slice none 0 0,.slice none 0 0]].toList 8).map (fun x=>(x.1,x.2.1))=some ([.agg [.lit (.int .i64 0),.nil,.nil],.agg [.lit (.int .i64 0),.nil,.nil]],[]):=by kernel_rfl
theorem mergeLines_lifted(os:Os)(started:os.Started)(H:Type)(enc:TypeId×Value→H)(F:Stop.Interp):
  ReturnsInHanded {} Tryz.checked os 6 .any ((Rows.OpenSpec.upto Rows.mergeLinesSpec).preRow enc Tryz.prog Tryz.f6 Rows.mergeLinesUptoRow.domain false Rows.mergeLinesUptoRow.laid) (((Rows.OpenSpec.upto Rows.mergeLinesSpec).at F).post enc Tryz.prog Tryz.f6 false true false false):=by
 obtain⟨⟨x1,x2,x3⟩,hx,hx1⟩:=Option.map_eq_some_iff.1 (mergeLines_reads os enc)
 simp only[Prod.mk.injEq]at hx1
 obtain⟨rfl,rfl⟩:=hx1
 refine returnsInHanded_of_row (C:=Tryz.checked) (s:=Rows.OpenSpec.upto Rows.mergeLinesSpec) own_knob started (by kernel_rfl) Tryz.func6
  (witness_row_atRef (enc:=enc) (C:=Tryz.checked) false (laidWorld os) #[.agg #[.int .i64 0,.slice none 0 0,.slice none 0 0],.agg #[.int .i64 0,.slice none 0 0,.slice none 0 0]] rfl (by kernel_rfl) (by kernel_rfl) (by kernel_rfl)
   (OpenSpec.preRow_of_cond 8 hx (by kernel_rfl) (fun k hk=>by cases hk;kernel_rfl) (by kernel_rfl) (laid_met os _))) ?_
 intro W base args ds gs before hval hW _ hcond _ hL _ _
 exact mgl_contract H enc W base args ds gs before hval hW (hcond _ rfl) hL
theorem mergeLines_saidUpto:Rows.MergeLinesUptoSaid :=
 OpenClaim.holds_of_cond 6 Tryz.f6 rfl rfl rfl rfl rfl rfl rfl ⟨rfl,rfl,rfl,rfl,rfl⟩ rfl rfl rfl rfl rfl (by kernel_rfl) Tryz.func6 mergeLines_closed
  (of_decide_eq_true (by kernel_rfl)) (by unfold Func.isWrapper;first|(rw[if_pos (by decide +kernel)];kernel_rfl)|(rw[if_neg (by decide +kernel)];exact⟨rfl,rfl⟩))
  (fun os started H enc _ F=>by rw[OpenClaim.pre_eq_preRow];exact mergeLines_lifted os started H enc F)
theorem mergeLines_plain (f : FuncId) (fn : Func) (hf : Tryz.pinned.checked.prog.funcNamed "clerestory/clerestorylaw22.MergeLines" = some f) (hfn : Tryz.pinned.checked.prog.funcs[f]? = some fn) :
  false=Tryz.pinned.checked.prog.looks []∧∀(j:Nat) t,fn.params[j]?=some t→Tryz.pinned.checked.prog.wantsStandIn t=false:=by
 obtain rfl : f = 6 := Option.some.inj ((show Tryz.prog.funcNamed "clerestory/clerestorylaw22.MergeLines" = some 6 by kernel_rfl).symm.trans hf) |>.symm
 obtain rfl:fn=Tryz.f6:=(Option.some.inj (Tryz.func6.symm.trans hfn)).symm
 refine⟨by kernel_rfl,fun j t ht=>?_⟩
 rw[Tryz.params6]at ht
 have hm:=Array.mem_of_getElem? ht
 simp only[List.mem_toArray,List.mem_cons,List.not_mem_nil,or_false]at hm
 rcases hm with rfl|rfl
 ·exact(show Tryz.prog.wantsStandIn 25=false by kernel_rfl)
 ·exact(show Tryz.prog.wantsStandIn 25=false by kernel_rfl)
theorem mergeLines_cardUpto:Rows.MergeLinesUptoCardSaid :=
 Claim7.holds_tied_plain_at .later [] _ _ _ _ mergeLines_saidUpto (fun _ h=>by cases h) (by kernel_rfl) (fun _ h=>by cases h) mergeLinesUpto_row_tie rfl ⟨rfl,rfl⟩ (by kernel_rfl) rfl mergeLines_plain (by kernel_rfl)
end Go.Proofs.YtialngdffhmobaaGreatDoor
