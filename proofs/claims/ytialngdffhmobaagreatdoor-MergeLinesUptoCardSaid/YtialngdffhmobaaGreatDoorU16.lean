/- Part 17 of what mgTop rests on. -/
import Derived.Test.YtialngdffhmobaaGreatDoorU04
import Derived.Test.YtialngdffhmobaaGreatDoorU03
import Derived.Test.YtialngdffhmobaaGreatDoorU15
import Derived.Test.YtialngdffhmobaaGreatDoorU14
import Derived.Test.YtialngdffhmobaaGreatDoorU12
import Derived.Test.YtialngdffhmobaaGreatDoorU01
import Derived.Test.YtialngdffhmobaaGreatDoorU00
set_option linter.unusedVariables false
set_option linter.unusedSimpArgs false
set_option maxHeartbeats 16000000
set_option maxRecDepth 1000000
namespace Go.Proofs.YtialngdffhmobaaGreatDoor
section
open Go.RowKit
section
variable {P : Program} {ops : Array Oper} {Q : Exit → Act → World → Prop} {md : Region.Mode} {S : World → Prop} {o : Oper} {fuel n : Nat} {listed : Array Bool} {L L' : List Value} {df : List Deferred} {w w' : World} {v : Value} {K : Act → World → Prop} {i j k : Nat} {a : Act}
theorem bm{ty:TypeId}{x y:Operand}{b off:Nat}{cells:Array Value}(h:K ⟨L.toArray,df⟩ (w.setCells b off cells.toList))(ht:w.there b off cells.size)(hz:(P.info? ty).map (·.size)=some cells.size)(h1:cells.all (·.oneCell')=true)
  (hi:ops[i]?=some o:=by rfl) (ho:o.op = .store ty x y:=by rfl) (hx:(Act.mk L.toArray df).eval x = .pointer (some ⟨b,off,none⟩):=by rfl) (hy:(Act.mk L.toArray df).eval y = .agg cells:=by rfl) (hd:o.dst=none:=by rfl)
  (hw:Region.wanted o (yielded ops L.toArray)=true:=by rfl):wpOp P ops Q i K ⟨L.toArray,df⟩ w:=by
 unfold wpOp;simp only[hi];rw[if_pos hw];refine .inl (wp_store_mid ty x y ho b off cells hx hy ht hz h1 ?_);rw[hd];exact h
theorem tl(i:Nat){ty:TypeId}{x:Operand}{b off:Nat}{cs:List Value}{d:TypeDesc}(hS:S w)(h:wpAnyH P md ops Q S fuel (listed.setIfInBounds i true) ⟨L'.toArray,df⟩ w)(hc :∀W,S W→W.rangeAt b off cs)
  (hu:P.underlying ty=some d) (hz:(P.info? ty).map (·.size)=some cs.length) (hi:ops[i]?=some o:=by rfl) (ho:o.op = .load ty x:=by rfl) (hx:(Act.mk L.toArray df).eval x = .pointer (some ⟨b,off,none⟩):=by rfl) (hd2:d.isRow=true:=by rfl) (hd:o.dst=some n:=by rfl)
  (hL:L.set n (.agg cs.toArray)=L':=by(try simp only[List.set_cons_zero,List.set_cons_succ]);rfl) (hw:Region.wanted o (yielded ops L.toArray)=true:=by rfl)
  (hs:Region.noSelect ops=true:=by kernel_rfl) (hf:Region.free md ops listed i=true:=by kernel_rfl) (hr:(Region.ready md ops listed).contains i=true:=by kernel_rfl)
  (hQ :∀c a w,Q (.panic c) (a.put o.dst (.agg cs.toArray)) w→Q (.panic c) a w:=by exact fun _ _ _ h=>h):wpAnyH P md ops Q S (fuel+1) listed ⟨L.toArray,df⟩ w :=
 tk i hS (fun W hW=>exec_load_range ho hx (hc W hW) hu hd2 hz) (by rw[hL];exact h) hi hd hw hs hf hr hQ
theorem mapM_two2{W:World}(f:ResultVar→Sem Value)(r0 r1:ResultVar)(v0 v1:Value)(h0:(f r0).run P W = .ok v0 W)(h1:(f r1).run P W = .ok v1 W):((#[r0,r1].mapM f).run P W) = .ok #[v0,v1] W:=by
 simp[go_sem,h0,h1]
theorem cell_result{n ty:Nat}{T:Array Value}{W:World}{p:Nat}{cs:List Value}{d:TypeDesc}(hr:W.rangeAt p 0 cs)(hu:P.underlying ty=some d)(hi:(P.info? ty).map (·.size)=some cs.length)(hd:d.isRow=true)(h:T[n]?=some (.pointer (some ⟨p,0,none⟩))):
  ((asAddr (T.getD n undef)) >>= fun a=>loadVar ty a).run P W = .ok (.agg cs.toArray) W:=by
 have hg:T.getD n undef = .pointer (some ⟨p,0,none⟩):=by rw[Array.getD_eq_getD_getElem?,h];rfl
 rw[hg,Sem.run_bind];simp only[asAddr,Sem.run_pure,Result.andThen_ok];exact run_loadVar_mid W p 0 ty cs d hr hu hd hi
theorem box_result2{fn:Func}{n m ty ty2:Nat}{T:Array Value}{W:World}{p q:Nat}{cs ds:List Value}{d d2:TypeDesc}(hf:fn.results=#[.cell n ty,.cell m ty2])(hr:W.rangeAt p 0 cs)(hr2:W.rangeAt q 0 ds)(hu:P.underlying ty=some d)(hu2:P.underlying ty2=some d2)
  (hi:(P.info? ty).map (·.size)=some cs.length) (hi2:(P.info? ty2).map (·.size)=some ds.length) (hd:d.isRow=true:=by rfl) (hd2:d2.isRow=true:=by rfl) (h:T[n]?=some (.pointer (some ⟨p,0,none⟩)):=by rfl) (h2:T[m]?=some (.pointer (some ⟨q,0,none⟩)):=by rfl):
  (results fn T).run P W = .ok (.tuple #[.agg cs.toArray,.agg ds.toArray]) W:=by
 unfold results;rw[Sem.run_bind,hf,mapM_two2 _ _ _ (.agg cs.toArray) (.agg ds.toArray)]
 ·rfl
 ·exact cell_result hr hu hi hd h
 ·exact cell_result hr2 hu2 hi2 hd2 h2
theorem mapM_three{W:World}(f:ResultVar→Sem Value)(r0 r1 r2:ResultVar)(v0 v1 v2:Value)(h0:(f r0).run P W = .ok v0 W)(h1:(f r1).run P W = .ok v1 W)(h2:(f r2).run P W = .ok v2 W):((#[r0,r1,r2].mapM f).run P W) = .ok #[v0,v1,v2] W:=by
 simp[go_sem,h0,h1,h2]
theorem box_result3{fn:Func}{n m s ty ty2:Nat}{T:Array Value}{W:World}{p q:Nat}{cs ds:List Value}{d d2:TypeDesc}{x:Value}(hf:fn.results=#[.cell n ty,.cell m ty2,.tmp s])(hr:W.rangeAt p 0 cs)(hr2:W.rangeAt q 0 ds)(hu:P.underlying ty=some d)(hu2:P.underlying ty2=some d2)
  (hi:(P.info? ty).map (·.size)=some cs.length) (hi2:(P.info? ty2).map (·.size)=some ds.length) (hd:d.isRow=true:=by rfl) (hd2:d2.isRow=true:=by rfl) (h:T[n]?=some (.pointer (some ⟨p,0,none⟩)):=by rfl) (h2:T[m]?=some (.pointer (some ⟨q,0,none⟩)):=by rfl) (h3:T[s]?=some x:=by rfl):
  (results fn T).run P W = .ok (.tuple #[.agg cs.toArray,.agg ds.toArray,x]) W:=by
 unfold results;rw[Sem.run_bind,hf,mapM_three _ _ _ _ (.agg cs.toArray) (.agg ds.toArray) x]
 ·rfl
 ·exact cell_result hr hu hi hd h
 ·exact cell_result hr2 hu2 hi2 hd2 h2
 ·have hg:T.getD s undef=x:=by rw[Array.getD_eq_getD_getElem?,h3];rfl
  show(pure (T.getD s undef):Sem Value).run P W=_;rw[hg];rfl
end
end
section
open Go.RowKit
theorem infoHk:(Tryz.prog.info? 25).map (·.size)=some 3:=by kernel_rfl
abbrev zeroHk:List Value:=[.int .i64 0,.slice none 0 0,.slice none 0 0]
abbrev Hk.inv(h:Hk):Hk:=⟨h.at_,h.new,h.old⟩
theorem strs_one(l:List ByteArray):∀u∈l.map Value.string,u.oneCell'=true:=by intro u hu;obtain⟨x,_,rfl⟩:=List.mem_map.1 hu;rfl
theorem bx_two(w:World)(us zs:List Value)(t u:TypeId):Bx ((w.alloc (.cells us.toArray t)).alloc (.cells zs.toArray u)) w.heap.size us∧Bx ((w.alloc (.cells us.toArray t)).alloc (.cells zs.toArray u)) (w.heap.size+1) zs :=
 ⟨(Bx.new w us t).alloc _,by have:=Bx.new (w.alloc (.cells us.toArray t)) zs u;simpa using this⟩
theorem hunkInvO{x:Hh}{h:Hk}{w:World}(H:HkX w x h):
  Calls Tryz.prog 181 #[.agg (hkVs h x).toArray] w fun e w'=>(∃y L,e = .returned (.agg (hkVs h.inv y).toArray)∧HkO w' y h.inv L∧New w w' L)∧Below w.heap.size w w':=by
 obtain⟨W0,hW0⟩:∃W0,W0=(w.alloc (.cells (hkVs h x).toArray 25)).alloc (.cells zeroHk.toArray 25):=⟨_,rfl⟩;obtain⟨hN0,hR0⟩:=bx_two w (hkVs h x) zeroHk 25 25;rw[←hW0]at hN0 hR0;have hB0:Below w.heap.size w W0:=by rw[hW0];exact below2 _ _
 have HW0:=hide hW0;have HN0:=hide hN0.drew;have HR0:=hide hR0.drew;have HB0:=hide hB0.drew;have HH:=hide H;have hs0:W0.heap.size=w.heap.size+2:=by rw[hW0];simp
 clear hW0 hN0 hR0 hB0 H;go_enter Tryz.func181,Tryz.ntmps181
 go_upto_region 1 with fail
 change Code.wp _ _ _ _ ((w.alloc (.cells (hkVs h x).toArray 25)).alloc (.cells zeroHk.toArray 25));rw[←HW0.out];clear HW0;have hS:(fun V:World=>V.cell? ⟨w.heap.size,0,none⟩=some (.int .i64 h.at_)∧V.cell? ⟨w.heap.size,1,none⟩=some (.slice x.oA h.old.length x.oc)∧V.cell? ⟨w.heap.size,2,none⟩=some (.slice x.nA h.new.length x.nc)) W0.drew:=⟨HN0.out.cell 0,HN0.out.cell 1,HN0.out.cell 2⟩;refine wp_region_held_drew (S:=fun V:World=>V.cell? ⟨w.heap.size,0,none⟩=some (.int .i64 h.at_)∧V.cell? ⟨w.heap.size,1,none⟩=some (.slice x.oA h.old.length x.oc)∧V.cell? ⟨w.heap.size,2,none⟩=some (.slice x.nA h.new.length x.nc)) (by kernel_rfl) hS (fun hS0=>?_);have hsz:W0.drew.heap.size=w.heap.size+2:=hs0;generalize W0.drew=D0 at hS0 HN0 HR0 HB0 hsz⊢;have Hsz:=hide hsz;clear hS hs0 hsz;refine tka 0 hS0 ?_;refine tka 1 hS0 ?_;refine tka 2 hS0 ?_;refine tka 3 hS0 ?_;refine tka 5 hS0 ?_;refine tka 6 hS0 ?_;refine dr1 4 ?_;refine bc (cloneStrs_any (HH.out.r.new.1.below HB0.out) (by simp) (strs_one _) HH.out.b.new.2) ?_;rintro e1 w1 ⟨v,rfl,hown,hg,hB⟩;obtain⟨A1,c1,rfl⟩:=own_shape hown;have HN1:=hide (HN0.out.call hB);have HR1:=hide (HR0.out.call hB);have HB1:=hide (blw_up HB0.out hB);have HV1:=hide hB;have HO1:=hide hown;have HG1:=hide hg;have hS1:(fun V:World=>V.cell? ⟨w.heap.size,0,none⟩=some (.int .i64 h.at_)∧V.cell? ⟨w.heap.size,1,none⟩=some (.slice x.oA h.old.length x.oc)∧V.cell? ⟨w.heap.size,2,none⟩=some (.slice x.nA h.new.length x.nc)) w1:=⟨HN1.out.cell 0,HN1.out.cell 1,HN1.out.cell 2⟩;refine⟨_,rfl,⟨hS1,?_⟩⟩;clear hB hown hg;refine dr1 7 ?_;refine bc (cloneStrs_any (HH.out.r.old.1.below HB1.out) (by simp) (strs_one _) HH.out.b.old.2) ?_;rintro e2 w2 ⟨v2,rfl,hown,hg,hB⟩;obtain⟨A2,c2,rfl⟩:=own_shape hown;have HN2:=hide (HN1.out.call hB);have HR2:=hide (HR1.out.call hB);have HB2:=hide (blw_up HB1.out hB);have HV2:=hide hB;have HO2:=hide hown;have HG2:=hide hg;have hS2:(fun V:World=>V.cell? ⟨w.heap.size,0,none⟩=some (.int .i64 h.at_)∧V.cell? ⟨w.heap.size,1,none⟩=some (.slice x.oA h.old.length x.oc)∧V.cell? ⟨w.heap.size,2,none⟩=some (.slice x.nA h.new.length x.nc)) w2:=⟨HN2.out.cell 0,HN2.out.cell 1,HN2.out.cell 2⟩;refine⟨_,rfl,⟨hS2,?_⟩⟩;clear hB hown hg;refine tka 8 hS2 ?_;refine dr1 9 ?_;refine bm (cells:=(hkVs h.inv ⟨A1,c1,A2,c2⟩).toArray) ?_ (HR2.out.th (o:=0) (by simp)) infoHk (hkVs_one _ _);have HR3:=hide (HR2.out.puts 0 (hkVs h.inv ⟨A1,c1,A2,c2⟩) (hkVs h.inv ⟨A1,c1,A2,c2⟩) (by simp));have HN3:=hide (HN2.out.off (M:=w.heap.size+1) (by omega) 0 (hkVs h.inv ⟨A1,c1,A2,c2⟩));refine⟨⟨HN3.out.cell 0,HN3.out.cell 1,HN3.out.cell 2⟩,?_⟩;refine wpAnyH_done (by kernel_rfl) ?_ _;rename_i hK;refine hK _ _ ?_;clear hK;refine wp_ret ?_;obtain⟨hO,hN⟩:=HkO.two (w:=w) (h:=h.inv) HO1.out HG1.out HO2.out HG2.out (by have:=Hsz.out;omega) HV2.out HV1.out.size;have hne :∀b∈ob (.slice A1 h.inv.old.length c1)++ob (.slice A2 h.inv.new.length c2),b≠w.heap.size+1:=fun b hb e=>by
  have hz:=Hsz.out;rcases List.mem_append.1 hb with hb|hb
  ·have:=HG1.out b (mem_ob.1 hb);omega
  ·have:=HG2.out b (mem_ob.1 hb);have:=HV1.out.size;omega
 exact bodyPost_ret (v:= .agg (hkVs h.inv ⟨A1,c1,A2,c2⟩).toArray) (box_result Tryz.results181 HR3.out.c Tryz.underlying25 infoHk) rfl ⟨⟨_,_,rfl,hO.keep (bx_keep hne),hN.up (by rw[bx_size];exact Nat.le_refl _)⟩,bx_below (by omega) _ _ HB2.out⟩
theorem getNodeO{w:World}{KA:Option Addr}{c k:Nat}{n:Int}{t:ByteArray}{ks:Fo}(h:FoIn Any w KA ks)(hc:ks.len≤c)(hc2:c≤9223372036854775807)(hb:(foB ks).length≤549755813888):
  Calls Tryz.prog 250 #[.agg #[.int .u8 k,.string t,.int .i64 n,.slice KA ks.len c],.slice none 0 0] w fun e w'=>(∃KA c L,e = .returned (.tuple #[.agg #[.int .u8 k,.string t,.int .i64 n,.slice KA ks.len c],.bool true])∧NodesO w' KA c ks L∧New w w' L)∧Below w.heap.size w w':=by
 have H:=hide h;clear h;go_enter Tryz.func250,Tryz.ntmps250
 go_wp2_with(first
  | (go_at_call 272;(with_reducible refine(find_nil _ _).mono ?_);rintro e1 w1 ⟨rfl,rfl⟩)
  | (go_at_call 273;(with_reducible refine(copiedO_any (H.out.below (below2 _ _)) hc hc2 hb).mono ?_);rintro e2 w2 ⟨KA2,c2,L2,rfl,hin,hnw,hB⟩;obtain⟨hy2,hg2,hu2⟩:=bbox (N:=w.heap.size+1) hB (by simp);have Hin:=hide hin;have Hnw:=hide hnw;have HB2:Hid (Below w.heap.size w w2):=hide (blw_up2 hB);clear hin hB hnw))
 have cx0:=(hy2 0).trans (World.cell?_alloc2_new _ _ _ _);have cx1:=(hy2 1).trans (World.cell?_alloc2_new _ _ _ _);have cx2:=(hy2 2).trans (World.cell?_alloc2_new _ _ _ _);have cx3:=(hy2 3).trans (World.cell?_alloc2_new _ _ _ _);simp only[List.getElem?_toArray,List.getElem?_cons_zero,List.getElem?_cons_succ]at cx0 cx1 cx2 cx3;obtain⟨s0,s1,s2,s3⟩:=same4 (x:= .int .u8 k) (y:= .string t) (z:= .int .i64 n) (u:= .slice KA2 ks.len c2) cx0 cx1 cx2 cx3;refine bodyPost_ret (v:= .tuple #[.agg #[.int .u8 k,.string t,.int .i64 n,.slice KA2 ks.len c2],.bool true]) ?_ rfl ?_
 ·simp only[results,Tryz.results250];go_simp
 ·have hge :∀b∈L2,w.heap.size+1<b:=fun b hb=>by have:=Hnw.out.ge b hb;simp at this;omega
  exact⟨⟨_,_,L2,rfl,Hin.out.keep fun b hb=>heap4 _ _ _ _ _ _ _ _ _ _ (by have:=hge b hb;omega),⟨Hnw.out.nd,fun b hb=>by have:=hge b hb;omega,fun b hb=>by have:=Hnw.out.lt b hb;simp[World.setCell];exact this⟩⟩,(((HB2.out.setCell (by simp) _).setCell (by simp) _).setCell (by simp) _).setCell (by simp) _⟩
structure CopAt(w:World)(wr:World)(v:Value)(j:Nat)(f:Fo)(vs:List Value)(R:List (Value×Nat)):Prop where
 own:wr.ownsRow 0 152 4 v j vs
 fo:FoR wr vs (f.take j) R
 new:New w wr (ob v++obs R)
 b:Below w.heap.size w wr
theorem CopAt.step{w wr w3 w4:World}{v v':Value}{j k:Nat}{t:ByteArray}{n:Int}{f ks r:Fo}{vs:List Value}{R:List (Value×Nat)}{KA:Option Addr}{c:Nat}{L:List Nat}{o1 o2:Obj}(h:CopAt w wr v j f vs R)(hd:f.drop j = .cons k t n ks r)
  (h1:k<256∧t.size≤9223372036854775807∧isInt64 n) (hB:Below wr.heap.size wr w3) (hO:NodesO w3 KA c ks L) (hN:New wr w3 L)
  (hown:w4.ownsRow 0 152 4 v' (j+1) (vs++[.int .u8 k,.string t,.int .i64 n,.slice KA ks.len c])) (hgr:((w3.alloc o1).alloc o2).grownBy w4 v.ownBlock) (hwh:v'.ownBlock=v.ownBlock∨v'.ownBlock=some ((w3.alloc o1).alloc o2).heap.size):
  ∃R',CopAt w w4 v' (j+1) f (vs++[.int .u8 k,.string t,.int .i64 n,.slice KA ks.len c]) R':=by
 have hb2:=below2 (w:=w3) o1 o2;have hs3:=hB.size;have hsz:((w3.alloc o1).alloc o2).heap.size=w3.heap.size+2:=by simp
 have hs4:=hgr.size;have hkp :∀b,b<w3.heap.size→v.ownBlock≠some b→w4.heap[b]?=w3.heap[b]?:=fun b hb hv=>(hgr.block b (by omega) (fun e=>hv e.symm)).trans (hb2.block b hb);have hnd:=List.nodup_append.1 h.new.nd;have hRv :∀b∈obs R,v.ownBlock≠some b:=fun b hb e=>hnd.2.2 b (mem_ob.2 e) b hb rfl;have hLv :∀b∈L,v.ownBlock≠some b:=fun b hb e=>by have h2:=h.new.lt b (by simp[mem_ob,e]);have h3:=hN.ge b hb;omega
 obtain⟨ys,R2,q1,q2,rfl,q3⟩:=hO.keep (w':=w4) fun b hb=>hkp b (hN.lt b hb) (hLv b hb);have hf:FoR w4 vs (f.take j) R:=(h.fo.below hB).keep fun b hb=>hkp b (Nat.lt_of_lt_of_le (h.fo.lt b hb) hs3) (hRv b hb);refine⟨R++(.slice KA ks.len c,ks.len)::R2,hown,?_,?_,?_⟩
 ·rw[Fo.take_next hd];exact FoR.snoc h1 q1 q2 hf
 ·rw[obs_app,obs_cons];have hv' :∀b∈ob v',b∈ob v∨b=w3.heap.size+2:=fun b hb=>by
   rcases hwh with e|e
   ·exact .inl (mem_ob.2 (e▸mem_ob.1 hb))
   ·right;have:=mem_ob.1 hb;rw[e]at this;injection this with this;omega
  have hA:New w w3 (ob v++(obs R++(ob (.slice KA ks.len c)++obs R2))):=by
   rw[←List.append_assoc];exact h.new.app hN h.b.size hs3
  have hA2:=List.nodup_append.1 hA.nd;refine⟨List.nodup_append.2 ⟨ob_nodup _,hA2.2.1,fun a ha b hb e=>?_⟩,fun b hb=>?_,fun b hb=>?_⟩
  ·rcases hv' a ha with h2|h2
   ·exact hA2.2.2 a h2 b hb e
   ·have:=hA.lt b (by simp only[List.mem_append]at hb⊢;exact .inr hb);omega
  ·rcases List.mem_append.1 hb with hb|hb
   ·rcases hv' b hb with h2|h2
    ·exact hA.ge b (by simp[h2])
    ·have:=h.b.size;omega
   ·exact hA.ge b (by simp only[List.mem_append]at hb⊢;exact .inr hb)
  ·rcases List.mem_append.1 hb with hb|hb
   ·exact(hown.lt b (mem_ob.1 hb)).2
   ·have:=hA.lt b (by simp only[List.mem_append]at hb⊢;exact .inr hb);omega
 ·refine Below.grown (h.b.trans ((hB.mono h.b.size).trans (hb2.mono (Nat.le_trans h.b.size hs3)))) hgr (by have:=h.b.size;omega) (fun b hb=>h.new.ge b (by simp[mem_ob,hb]))
theorem CopAt.done{w wr:World}{v:Value}{j:Nat}{f:Fo}{vs:List Value}{R:List (Value×Nat)}(h:CopAt w wr v j f vs R)(hj:j=f.len):∃A c,v = .slice A f.len c∧NodesO wr A c f (ob v++obs R)∧New w wr (ob v++obs R):=by
 subst hj;obtain⟨A,c,rfl⟩:=own_shape h.own;have hf:=h.fo;rw[Fo.take_whole]at hf;exact⟨A,c,rfl,⟨vs,R,h.own,hf,rfl,h.new.nd⟩,h.new⟩
theorem rowCopiedO{w:World}{A:Option Addr}{c:Nat}{f:Fo}(h:FoIn Any w A f)(hc:f.len≤c)(hc2:c≤9223372036854775807)(hb:(foB f).length≤549755813888):
  Calls Tryz.prog 220 #[.slice A f.len c] w fun e w'=>(∃A c L,e = .returned (.slice A f.len c)∧NodesO w' A c f L∧New w w' L)∧Below w.heap.size w w':=by
 have hlen:f.len≤549755813888:=by have:=foB_len f;omega
 have H:=hide h;obtain⟨i0,hi,hz0,hz1,hz2⟩:=info_parts InfoNode;clear h;go_enter Tryz.func220,Tryz.ntmps220
 go_wp2_with fail
 go_loopw [10,3] (fun i v wr=>∃(j:Nat) (vs:List Value) (R:List (Value×Nat)),i = .int .i64 j∧j≤f.len∧Hid (CopAt w wr v j f vs R)) (fun i _ _=>f.len-(intOf i).toNat)
 case atStart=>exact⟨0,[],[],rfl,Nat.zero_le _,hide ⟨World.ownsRow_nil _ _ _ _,by cases f<;>exact⟨rfl,rfl⟩,New.nil,Below.refl _ _⟩⟩
 case round =>
  obtain⟨j,vs,R,rfl,hj,HA⟩:=hrel;by_cases hlt:j<f.len
  ·obtain⟨b,o,KA,kc,k,t,n,ks,r,rfl,hd,d0,d1,d2,d3,g1,g2,g3,g4,g5,g6,_⟩:=(H.out.below HA.out.b).at_ hlt;have hkb:=Nat.le_trans (drop_foB hd) hb;have HG:=hide g6;have Hd:=hide hd;clear g6 hd
   go_wp2_with(first
    | (go_at_call 250;(with_reducible refine(getNodeO (HG.out.below (below_alloc _ _)) g4 g5 hkb).mono ?_);rintro e3 w3 ⟨⟨KA3,c3,L3,rfl,hin,hnw⟩,hB⟩;have Hin:=hide hin;have HR3:Hid (Below wr.heap.size wr w3):=hide (blw_up (below_alloc _ _) hB);have Hnw:Hid (New wr w3 L3):=hide (hnw.from (by simp));clear hin hB hnw)
    | (at_builtin;refine wpList_append_own2 _ rfl _ _ 28 rfl 152 i0 (.agg #[.int .u8 0,.string ByteArray.empty,.int .i64 0,.slice none 0 0]) 4 56 Tryz.underlying28 hi hz0 hz1 hz2 rfl (by decide) _ j vs rfl ((own_below HA.out.own (fun g hg=>(HA.out.own.lt g hg).2) (HR3.out.trans ((below2 _ _).mono HR3.out.size)))) ⟨w3.heap.size+1,0,none⟩ 1 1 [.int .u8 k,.string t,.int .i64 n,.slice KA3 ks.len c3] rfl rfl (cell_four_new2 _ _ _ _ _ _ _) (by intro u hu;simp at hu;rcases hu with rfl|rfl|rfl|rfl<;>rfl) (by unfold maxLen;omega) (by omega) ?_;intro v' w4 hown hgrow hnil hwhere))
   obtain⟨R',hA'⟩:=HA.out.step Hd.out ⟨g1,g2,g3⟩ HR3.out Hin.out Hnw.out hown hgrow hwhere;exact⟨⟨j+1,_,R',by simp,by omega,hide hA'⟩,by simp[intOf];omega⟩
  ·have hje:j=f.len:=by omega
   go_wp2_with fail
   go_ret;obtain⟨A1,c1,rfl,q1,q2⟩:=HA.out.done hje;exact⟨⟨_,_,_,rfl,q1,q2⟩,HA.out.b⟩
theorem exec_append{P:Program}{o:Oper}{a:Act}{w w':World}{s x:Operand}{t:TypeId}{v1 v2 r:Value}(hrun:(Builtin.append_ #[t,t] o.type #[v1,v2]).run P w = .ok r w')
  (hop:o.op=Op.call {callee:=Callee.builtin Builtin.append,args:=#[s,x],argTypes:=#[t,t]}) (h1:a.eval s=v1) (h2:a.eval x=v2):(execOp a.eval o).run P w = .ok (.value r) w':=by
 simp[execOp,hop,resolve,invoke,builtin,h1,h2,hrun,Result.andThen]
def Pushed(e:TypeId)(w:World)(v:Value)(n:Nat)(xs:List Value)(v':Value)(w':World):Prop :=
 w'.ownsRow 0 e 1 v' n xs∧w.grownBy w' v.ownBlock∧(v'.ownBlock=v.ownBlock∨v'.ownBlock=some w.heap.size)
theorem push_int{w:World}{v u:Value}{n:Nat}{xs:List Value}{ad:Addr}(hown:w.ownsRow 0 3 1 v n xs)(hc:w.cell? (ad.add 0)=some u)(h1:u.oneCell'=true)(hn:n≤549755813888):
  ∃v' w',(Builtin.append_ #[27,27] 27 #[v,.slice (some ad) 1 1]).run Tryz.prog w = .ok v' w'∧Pushed 3 w v (n+1) (xs++[u]) v' w':=by
 obtain⟨i0,hi,hz0,hz1,hz2⟩:=info_parts InfosomeInt;have hnews :∀j x,[u][j]?=some x→w.cell? (ad.add j)=some x:=by
  intro j x hx
  match j,hx with
  | 0,hx=>injection hx with hx;subst hx;exact hc
 have hone :∀x∈[u],x.oneCell'=true:=by intro x hx;simp at hx;subst hx;exact h1
 obtain⟨v',w',hr,h2,h3,h4⟩:=run_append_own (P:=Tryz.prog) w 0 27 27 3 i0 (.int .i64 0) 1 8 Tryz.underlying27 hi hz0 hz1 hz2 rfl (by decide) v n xs hown ad 1 1 [u] rfl hnews hone (by unfold maxLen;omega) (by omega) (Nat.zero_le _);have h5:=append_where w 27 27 3 i0 (.int .i64 0) 1 8 Tryz.underlying27 hi hz0 hz1 hz2 v n xs hown ad 1 1 [u] rfl hnews hone (by unfold maxLen;omega) (by omega) v' w' hr;exact⟨v',w',hr,h2,h3,h5⟩
theorem push_str{w:World}{v u:Value}{n:Nat}{xs:List Value}{ad:Addr}(hown:w.ownsRow 0 9 1 v n xs)(hc:w.cell? (ad.add 0)=some u)(h1:u.oneCell'=true)(hn:n≤549755813888):
  ∃v' w',(Builtin.append_ #[23,23] 23 #[v,.slice (some ad) 1 1]).run Tryz.prog w = .ok v' w'∧Pushed 9 w v (n+1) (xs++[u]) v' w':=by
 obtain⟨i0,hi,hz0,hz1,hz2⟩:=info_parts InfosomeStr;have hnews :∀j x,[u][j]?=some x→w.cell? (ad.add j)=some x:=by
  intro j x hx
  match j,hx with
  | 0,hx=>injection hx with hx;subst hx;exact hc
 have hone :∀x∈[u],x.oneCell'=true:=by intro x hx;simp at hx;subst hx;exact h1
 obtain⟨v',w',hr,h2,h3,h4⟩:=run_append_own (P:=Tryz.prog) w 0 23 23 9 i0 (.string ByteArray.empty) 1 16 Tryz.underlying23 hi hz0 hz1 hz2 rfl (by decide) v n xs hown ad 1 1 [u] rfl hnews hone (by unfold maxLen;omega) (by omega) (Nat.zero_le _);have h5:=append_where w 23 23 9 i0 (.string ByteArray.empty) 1 16 Tryz.underlying23 hi hz0 hz1 hz2 v n xs hown ad 1 1 [u] rfl hnews hone (by unfold maxLen;omega) (by omega) v' w' hr;exact⟨v',w',hr,h2,h3,h5⟩
end
end Go.Proofs.YtialngdffhmobaaGreatDoor
