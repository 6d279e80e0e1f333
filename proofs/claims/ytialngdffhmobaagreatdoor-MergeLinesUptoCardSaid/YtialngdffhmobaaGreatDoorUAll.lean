/- MergeLines: what its arguments' readings give. -/
import Derived.Test.YtialngdffhmobaaGreatDoorUMl
set_option linter.unusedVariables false
set_option linter.unusedSimpArgs false
set_option maxHeartbeats 16000000
set_option maxRecDepth 1000000
namespace Go.Proofs.YtialngdffhmobaaGreatDoor
open Go.RowKit Go.ChangeShapes Go.WideShapes
theorem r_hunk:Tryz.prog.readableRec 25=true:=by kernel_rfl
theorem l_hunk:(25:TypeId)<Tryz.prog.types.size:=of_decide_eq_true (by kernel_rfl)
theorem mgl_contract(H:Type)(enc:TypeId×Value→H)(W:World)(base:Nat)(args:Array Value)(ds gs:List (DataW H))(before:List MemPlace)
  (hval0 :∀(j:Nat) t v,Tryz.f6.params[j]?=some t→args[j]?=some v→Value.okWide Tryz.prog W .any base t v)
  (hW0:DataW.Whole enc Tryz.prog Tryz.f6.params.toList Rows.mergeLinesSpec.vars false W args.toList ds gs before)
  (hk:Rows.uptoSmall H (ds++gs)=true) (hL:laidMetH Tryz.prog Rows.mergeLinesUptoRow.laid W):
  Calls Tryz.prog 6 args W fun e W'=>∃v,e = .returned v∧Rows.mergeLinesSpec.post enc Tryz.prog Tryz.f6 false true false false W args v W':=by
 have hW:=hW0
 have hval:=hval0
 obtain⟨p,q,hA0,hV,rfl,_,_⟩:=hW0
 have hA:DataW.TrodAll enc Tryz.prog W 0 (fun _=>true) true Tryz.f6.params.toList args.toList ds p:=hA0
 rw[Tryz.params6]at hA hval
 obtain⟨v0,v1,d0,d1,p0,p1,rfl,rfl,rfl,h0,h1⟩:=trodAll_two hA
 obtain⟨rfl,rfl⟩:=trodVars_none hV
 obtain⟨cs,rfl,_⟩:=okWide_struct Tryz.underlying25 (hval 0 _ v0 rfl rfl)
 obtain⟨cs1,rfl,_⟩:=okWide_struct Tryz.underlying25 (hval 1 _ v1 rfl rfl)
 obtain⟨m0,f0⟩:=h0
 obtain⟨m1,f1⟩:=h1
 have hbulk:Rows.uptoBulkAll ([d0,d1]++([]:List (DataW H)))≤1048576:=of_decide_eq_true hk
 simp only[List.append_nil,Rows.uptoBulkAll]at hbulk
 obtain⟨x,pp,ecs,hp,hlen⟩:=hk_in f0
 obtain⟨y,qq,ecs1,hq,hlen1⟩:=hk_in f1
 dsimp only at hlen hlen1
 have bp:=hkB_of hp hlen (by omega)
 have bq:=hkB_of hq hlen1 (by omega)
 have ecs':cs=_:=Array.toList_inj.mp ecs
 have ecs1':cs1=_:=Array.toList_inj.mp ecs1
 subst ecs' ecs1'
 refine(mergeLines_any ⟨hp,bp⟩ ⟨hq,bq⟩ (tab_ok hL)).mono fun e W' ⟨he,hB⟩=>?_
 subst he
 have hlt:=hW.lt
 have hs0 :∀z∈p0,W.sameAt W' z:=fun z hz=>hB.same (hlt z (by simp[hz]))
 have hs1 :∀z∈p1,W.sameAt W' z:=fun z hz=>hB.same (hlt z (by simp[hz]))
 have hold :∀z∈p0++p1++[],(fun b=>decide (b<W.heap.size)) z.block=true:=fun z hz=>by simpa using hlt z hz
 refine⟨_,rfl,_,_,_,[],p0++p1,[],hW,trodAll_mk1 (shut_bool u_bool true),trodAll_mk2 (Go.WideElems.Trod_stays laid_out r_hunk l_hunk ⟨m0,f0⟩ hs0 (fun z hz=>hold z (by simp[hz]))) (Go.WideElems.Trod_stays laid_out r_hunk l_hunk ⟨m1,f1⟩ hs1 (fun z hz=>hold z (by simp[hz]))),rfl,hB.frame _,fun h=>by cases h⟩
end Go.Proofs.YtialngdffhmobaaGreatDoor
