/- Part 26 of what mgTop rests on. -/
import Derived.LoopTactic
import Derived.Sort.OwnSorted
import Derived.Lib.OwnBridge
import Derived.Lib.SlicesCompact
import Derived.Test.YtialngdffhmobaaGreatDoorU01
import Derived.Test.YtialngdffhmobaaGreatDoorU16
import Derived.Test.YtialngdffhmobaaGreatDoorU24
import Derived.Test.YtialngdffhmobaaGreatDoorU23
import Derived.Test.YtialngdffhmobaaGreatDoorU03
import Derived.Test.YtialngdffhmobaaGreatDoorU00
set_option linter.unusedVariables false
set_option linter.unusedSimpArgs false
set_option maxHeartbeats 16000000
set_option maxRecDepth 1000000
namespace Go.Proofs.YtialngdffhmobaaGreatDoor
section
open Go.RowKit
abbrev ItV:World→Value→Value→Prop:=fun _ v x=>v=x
theorem itV_stable(r:Nat):Stable r ItV:=fun _ _ _ _ _ h=>h
section
variable {P : Program} {ops : Array Oper} {Q : Exit → Act → World → Prop} {o : Oper} {rest : List Oper} {n r : Nat} {L L' : List Value} {df : List Deferred} {w : World} {v : Value} {T K E : TypeId} {kd : IntKind} {t : List (Int × Value)}
theorem gi{x y z:Operand}{k:Int}(hT:Tab ItV kd w r t)(h :∀w',Tab ItV kd w' r (t++[(k,v)])→w.grownBy w' (some r)→wpList P ops Q rest ⟨L.toArray,df⟩ w')
  (ht:P.underlying T=some (.map K E)) (hK:P.underlying K=some (.int kd)) (hn:t.find? (fun p=>k == p.1)=none:=by rfl)
  (ho:o.op = .insert T x y z:=by rfl) (hx:(Act.mk L.toArray df).eval x = .map (some r):=by rfl) (hy:(Act.mk L.toArray df).eval y = .int kd k:=by rfl) (hz:(Act.mk L.toArray df).eval z=v:=by rfl) (hd:o.dst=none:=by rfl)
  (hw:Region.wanted o (yielded ops L.toArray)=true:=by rfl):wpList P ops Q (o::rest) ⟨L.toArray,df⟩ w:=by
 obtain⟨w',hrun,h1,h2⟩:=run_insert_tab (P:=P) hT (itV_stable r) ht hK (k:=k) (v:=v) (x:=v) rfl hn;unfold wpList;rw[if_pos hw];refine .inl ?_;unfold Oper.wp;have e:(execOp (Act.mk L.toArray df).eval o).run P w = .ok .skip w':=by
  unfold execOp;simp only[ho,hx,hy,hz,Sem.run_bind,hrun,Result.andThen_ok,Sem.run_pure]
 rw[e];show wpList P ops Q rest ((Act.mk L.toArray df).put o.dst undef) w';rw[hd];exact h w' h1 h2
theorem exec_hit{a:Act}{x y:Operand}{k k':Int}(hT:Tab ItV kd w r t)(ht:P.underlying T=some (.map K E))(hK:P.underlying K=some (.int kd)){z:Value}(hz:(zeroValue E).run P w = .ok z w)(hf:t.find? (fun p=>k == p.1)=some (k',v))
  (ho:o.op = .lookup T x y true) (hx:a.eval x = .map (some r)) (hy:a.eval y = .int kd k):(execOp a.eval o).run P w = .ok (.value (.tuple #[v,.bool true])) w:=by
 rcases run_lookup_tab (P:=P) hT ht hK hz k with⟨h1,_⟩|⟨k2,x2,v2,h1,h2,h3⟩
 ·rw[h1]at hf;cases hf
 ·rw[h1]at hf;injection hf with hf;injection hf with _ hf;have h2:v2=x2:=h2;subst h2 hf;unfold execOp;simp only[ho,hx,hy,Sem.run_bind,h3,Result.andThen_ok,Sem.run_pure]
theorem exec_miss{a:Act}{x y:Operand}{k:Int}(hT:Tab ItV kd w r t)(ht:P.underlying T=some (.map K E))(hK:P.underlying K=some (.int kd)){z:Value}(hz:(zeroValue E).run P w = .ok z w)(hf:t.find? (fun p=>k == p.1)=none)
  (ho:o.op = .lookup T x y true) (hx:a.eval x = .map (some r)) (hy:a.eval y = .int kd k):(execOp a.eval o).run P w = .ok (.value (.tuple #[z,.bool false])) w:=by
 rcases run_lookup_tab (P:=P) hT ht hK hz k with⟨_,h3⟩|⟨k2,x2,v2,h1,h2,h3⟩
 ·unfold execOp;simp only[ho,hx,hy,Sem.run_bind,h3,Result.andThen_ok,Sem.run_pure]
 ·rw[h1]at hf;cases hf
theorem Tab.below{α:Type}{V:World→Value→α→Prop}{w w':World}{r:Nat}{t:List (Int×α)}{kd:IntKind}(h:Tab V kd w r t)(hV:Stable r V)(hB:Below w.heap.size w w'):Tab V kd w' r t:=h.keep hV hB
end
theorem Bx.grown{w w':World}{N r:Nat}{us:List Value}(h:Bx w N us)(hg:w.grownBy w' (some r))(hN:N≠r):Bx w' N us:=h.keep (hg.block N h.lt (by simp;exact fun e=>hN e)) hg.size
end
section
open Go.RowKit
theorem rightFn_any{x:Hh}{h:Hk}{w:World}(H:HkX w x h):Calls Tryz.prog 184 #[.agg (hkVs h x).toArray] w fun e w'=>RetB (¬HkOk h) e∧Below w.heap.size w w':=by
 have HH:=hide (H.below (below_alloc w (.cells (hkVs h x).toArray 94)));clear H;go_enter Tryz.func184,Tryz.ntmps184
 go_wp2_with(go_at_call 35;(with_reducible refine(hunkRight_any HH.out.r).mono ?_);rintro e1 w1 ⟨⟨b,rfl,hb⟩,hB⟩;have Hb:=hide hb;have HB1:=hide hB;clear hb hB)
 go_ret;refine⟨RetB.mk ?_,blw_up (below_alloc _ _) HB1.out⟩;rw[←Hb.out];cases b<;>simp
structure Row2(w:World)(g:Nat)(p q:Hk)(x y:Hh):Prop where
 c:w.rangeAt g 0 (hkVs p x++hkVs q y)
 p:HkX w x p
 q:HkX w y q
theorem Row2.below{w w':World}{g:Nat}{p q:Hk}{x y:Hh}(h:Row2 w g p q x y)(hB:Below w.heap.size w w'):Row2 w' g p q x y :=
 ⟨fun j v hv=>(hB.cell (p:=⟨g,0+j,none⟩) (block_lt_of_cell (h.c j v hv))).trans (h.c j v hv),h.p.below hB,h.q.below hB⟩
theorem indexParts{g c:Nat}{p q:Hk}{x y:Hh}{w:World}(H:Row2 w g p q x y):
  Calls Tryz.prog 221 #[.slice (some ⟨g,0,none⟩) 2 c,.func (.func 184) #[] #[]] w fun e w'=>(∃n:Int,e = .returned (.int .i64 n)∧(0≤n↔¬(HkOk p∧HkOk q))∧-1≤n)∧Below w.heap.size w w':=by
 have HH:=hide H;clear H;go_enter Tryz.func221,Tryz.ntmps221
 go_wp2_with fail
 go_loopw [8] (fun i wr=>∃j:Nat,i = .int .i64 j∧j≤2∧Hid (1≤j→HkOk p)∧Hid (2≤j→HkOk q)∧Hid (Below w.heap.size w wr)) (fun i _=>2-(intOf i).toNat)
 case atStart=>exact⟨0,rfl,by omega,hide (by omega),hide (by omega),hide (Below.refl _ _)⟩
 case round =>
  obtain⟨j,rfl,hj,H1,H2,HB⟩:=hrel;have HR:=hide (HH.out.below HB.out);by_cases h0:j=0
  ·subst h0;have c0:=HR.out.c 0 _ rfl;have c1:=HR.out.c 1 _ rfl;have c2:=HR.out.c 2 _ rfl
   go_wp2_with(go_at_call 184;(with_reducible refine(rightFn_any HR.out.p).mono ?_);rintro e1 w1 ⟨⟨b,rfl,hb⟩,hB⟩;have Hb:=hide hb;have HB1:=hide (blw_up HB.out hB);clear hb hB)
   case _ =>
    rename_i hb;go_ret;exact⟨⟨0,rfl,⟨fun _ h=>(Hb.out.mp hb) h.1,fun _=>by omega⟩,by omega⟩,HB1.out⟩
   case _ =>
    rename_i hb;have hp:HkOk p:=Classical.byContradiction fun hn=>by have:=Hb.out.mpr hn;rw[hb]at this;cases this
    exact⟨⟨1,rfl,by omega,hide fun _=>hp,hide (by omega),HB1⟩,by simp[intOf]⟩
  ·by_cases h1:j=1
   ·subst h1;have c0:=HR.out.c 3 _ rfl;have c1:=HR.out.c 4 _ rfl;have c2:=HR.out.c 5 _ rfl;simp only[Nat.zero_add]at c0 c1 c2;have hp:=H1.out (by omega)
    go_wp2_with(go_at_call 184;(with_reducible refine(rightFn_any HR.out.q).mono ?_);rintro e1 w1 ⟨⟨b,rfl,hb⟩,hB⟩;have Hb:=hide hb;have HB1:=hide (blw_up HB.out hB);clear hb hB)
    case _ =>
     rename_i hb;go_ret;exact⟨⟨1,rfl,⟨fun _ h=>(Hb.out.mp hb) h.2,fun _=>by omega⟩,by omega⟩,HB1.out⟩
    case _ =>
     rename_i hb;have hq:HkOk q:=Classical.byContradiction fun hn=>by have:=Hb.out.mpr hn;rw[hb]at this;cases this
     exact⟨⟨2,rfl,by omega,hide fun _=>hp,hide fun _=>hq,HB1⟩,by simp[intOf]⟩
   ·have h2:j=2:=by omega
    subst h2;have hp:=H1.out (by omega);have hq:=H2.out (by omega)
    go_wp2_with fail
    go_ret;exact⟨⟨-1,rfl,⟨fun h=>by omega,fun h=>absurd ⟨hp,hq⟩ h⟩,by omega⟩,HB.out⟩
theorem containsParts{g c:Nat}{p q:Hk}{x y:Hh}{w:World}(H:Row2 w g p q x y):
  Calls Tryz.prog 183 #[.slice (some ⟨g,0,none⟩) 2 c,.func (.func 184) #[] #[]] w fun e w'=>RetB (¬(HkOk p∧HkOk q)) e∧Below w.heap.size w w':=by
 have HH:=hide H;clear H;go_enter Tryz.func183,Tryz.ntmps183
 go_wp2_with(go_at_call 221;(with_reducible refine(indexParts HH.out).mono ?_);rintro e1 w1 ⟨⟨n,rfl,hn,hn2⟩,hB⟩;have Hn:=hide hn;have HB1:=hide hB;clear hn hB)
 go_ret;exact⟨RetB.mk (by rw[←Hn.out];simp),HB1.out⟩
theorem rightParts{g c:Nat}{p q:Hk}{x y:Hh}{w:World}(H:Row2 w g p q x y):
  Calls Tryz.prog 121 #[.slice (some ⟨g,0,none⟩) 2 c] w fun e w'=>RetB (HkOk p∧HkOk q) e∧Below w.heap.size w w':=by
 have HH:=hide H;clear H;go_enter Tryz.func121,Tryz.ntmps121
 go_wp2_with(go_at_call 183;(with_reducible refine(containsParts HH.out).mono ?_);rintro e1 w1 ⟨⟨b,rfl,hb⟩,hB⟩;have Hb:=hide hb;have HB1:=hide hB;clear hb hB)
 go_ret;refine⟨RetB.mk ?_,HB1.out⟩;have h1:=Hb.out;cases b
 ·simp only[Bool.not_false,true_iff];exact Classical.byContradiction fun h=>by have:=h1.mpr h;cases this
 ·simp only[Bool.not_true,Bool.false_eq_true,false_iff];exact h1.mp rfl
theorem cnt_foB :∀f:Fo,f.cnt≤(foB f).length
 | .nil=>by simp[Fo.cnt]
 | .cons k t n ks r=>by
  have h1:=cnt_foB ks;have h2:=cnt_foB r;simp only[Fo.cnt,foB,List.length_cons,List.length_append];omega
theorem mem_compact{zs:List (List UInt8)}{x:List UInt8}:x∈Lib.compact zs↔x∈zs:=by
 unfold Lib.compact Lib.compactUpTo;simp only[List.mem_map,List.mem_filter,List.mem_range];constructor
 ·rintro⟨j,⟨hj,_⟩,rfl⟩;have:zs.toArray[j]! = zs[j]:=by simp[getElem!_pos,hj]
  rw[this];exact List.getElem_mem hj
 ·intro hx;obtain⟨j,hj,rfl⟩:=List.getElem_of_mem hx;clear hx
  induction j with
  | zero=>exact⟨0,⟨hj,by simp[Lib.keeps]⟩,by simp[getElem!_pos,hj]⟩
  | succ j ih =>
   by_cases hk:Lib.keeps zs.toArray (j+1)=true
   ·exact⟨j+1,⟨hj,hk⟩,by simp[getElem!_pos,hj]⟩
   ·obtain⟨i,h1,h2⟩:=ih (by omega);refine⟨i,h1,h2.trans ?_⟩;simp[Lib.keeps,getElem!_pos,hj,show j<zs.length by omega]at hk;exact hk.symm
theorem enc_names(l:List ByteArray):(l.map Value.string)=(l.map (·.data.toList)).map encStr:=(Lib.map_encStr l).symm
open Go.Sort in
theorem sort_own{w:World}{g cap:Nat}{ss:List (List UInt8)}(h:w.ownsRow 0 9 1 (.slice (some ⟨g,0,none⟩) ss.length cap) ss.length (ss.map encStr))(h0:ss≠[])(hs:ss.length<4611686018427387904):
  Calls Tryz.prog 255 #[.slice (some ⟨g,0,none⟩) ss.length cap] w fun e w'=>e = .returned (.tuple #[])∧∃ts:List (List UInt8),ts.length=ss.length∧(∀x,x∈ts↔x∈ss)∧w'.ownsRow 0 9 1 (.slice (some ⟨g,0,none⟩) ss.length cap) ss.length (ts.map encStr)∧w.grownBy w' (some g):=by
 obtain⟨g',cap',e0,hg0,hgl,hn,hm,hl,hH⟩:=Lib.holds_of_ownsRow h (by intro e;cases e);injection e0 with e1 _ e3;injection e1 with e1;injection e1 with e1;subst e1 e3;refine(Tryz.slices_Sort_string g 0 cap ss w hH hgl hs).mono ?_;rintro e w' ⟨rfl,n,os,rfl⟩;refine⟨rfl,ss.mergeSort fun x y=>decide (x≤y),by simp,fun x=>by simp,?_,grownBy_sorted _⟩;rcases h.2 with⟨e0,_⟩|⟨g',cap',cur,e0,hb,hg,hn,hm,hs,ht⟩
 ·cases e0
 ·injection e0 with e1 _ e3;injection e1 with e1;injection e1 with e1;subst e1 e3;exact ownsRow_sorted (by simp) hb hg hn hm hs
open Go.Sort in
theorem compact_own{w:World}{g cap n:Nat}{ss:List (List UInt8)}(h:w.ownsRow 0 9 1 (.slice (some ⟨g,0,none⟩) n cap) n (ss.map encStr))(hn:ss.length=n)(h1:n≤4611686018427387904):
  Calls Tryz.prog 256 #[.slice (some ⟨g,0,none⟩) n cap] w fun e w'=>(∃ts:List (List UInt8),e = .returned (.slice (some ⟨g,0,none⟩) ts.length cap)∧ts.length≤n∧(∀x,x∈ts↔x∈ss)∧w'.ownsRow 0 9 1 (.slice (some ⟨g,0,none⟩) ts.length cap) ts.length (ts.map encStr))∧w.grownBy w' (some g):=by
 obtain⟨g',cap',e0,hg0,hgl,hnc,hm,hl,hH⟩:=Lib.holds_of_ownsRow h (by intro e;cases e);injection e0 with e1 _ e3;injection e1 with e1;injection e1 with e1;subst e1 e3;have hc:=Tryz.slices_Compact_string g 0 cap ss w hH (by omega) (by omega);rw[hn]at hc;refine hc.mono ?_;rintro e w' ⟨rfl,q,rfl⟩;have hle:(Lib.compact ss).length≤ss.length:=by
  unfold Lib.compact Lib.compactUpTo;rw[List.length_map];exact Nat.le_trans (List.length_filter_le _ _) (by simp)
 refine⟨⟨Lib.compact ss,rfl,by omega,fun x=>mem_compact,?_⟩,by have:=grownBy_sorted (w:=w) (g:=g) (n:=q) (os:=#[]) (Lib.compact ss++List.replicate (n-(Lib.compact ss).length) []).toArray;rwa [grow_empty]at this⟩;have:=Lib.ownsRow_putRow (q:=q) (k:=(Lib.compact ss).length) (ys:=Lib.compact ss++List.replicate (n-(Lib.compact ss).length) []) h (by simp;omega) (by omega)
 rwa [List.take_left']at this
 rfl
theorem namesEach(w:World):EachOk 253 #[.pointer (some ⟨w.heap.size,0,none⟩)] Any w (NamesJ w w.heap.size) nameStep where
 en:=enters_of Tryz.func253 (by kernel_rfl) rfl
 lt:=by
  rintro m st D W ⟨v,hr,hb⟩ b hbD;rw[hr.d]at hbD;rcases List.mem_cons.1 hbD with rfl|h
  ·exact hb.lt
  ·exact(hr.own.lt b (mem_ob.1 h)).2
 below:=by rintro m st D W ⟨v,hr,hb⟩ b _ hb2;exact hr.below.block b hb2
 keep:=by rintro m st D W W' ⟨v,hr,hb⟩ hB;exact⟨v,hr.keep hB,hb.call hB⟩
 ca:=fun k t n A l c hJ hk ht=>namesFn hJ hk ht
def NamesOut(l0:List ByteArray)(w:World)(e:Ending)(w':World):Prop:=(∃A c l,e = .returned (.slice A l.length c)∧StrsIn (fun b=>w.heap.size≤b) w' A l∧l.length≤c∧(∀s,s∈l↔s∈l0))∧Below w.heap.size w w'
theorem treeNames_any{w:World}{A:Option Addr}{f:Fo}{c:Nat}(h:FoIn Any w A f)(hc:f.len≤c)(hc2:c≤9223372036854775807)(hb:(foB f).length≤274877906944):
  Calls Tryz.prog 223 #[.slice A f.len c] w fun e w'=>NamesOut f.names w e w':=by
 have hcnt:=cnt_foB f;have hmf:=hmf;have hX:=Bx.new w [.slice none 0 0] 23;have hJ0:NamesJ w w.heap.size (f.cnt+0) [] [w.heap.size] (w.alloc (.cells #[.slice none 0 0] 23)):=
  ⟨.slice none 0 0,⟨rfl,World.ownsRow_nil _ _ _ _,by simp[ob,Value.ownBlock],fun b hb=>by rw[List.mem_singleton]at hb;omega,below_alloc _ _,by simp;omega,by simp⟩,hX⟩
 have HE:=hide (treeEach_any (namesEach w) h hc hc2 (by omega) hJ0);clear h hcnt hX hJ0;go_enter Tryz.func223,Tryz.ntmps223
 go_upto_region 2 with fail
 refine wp_region_lit ?_;refine sk ?_;refine sk ?_;refine gc HE.out ?_;rintro e1 w1 ⟨rfl,D,⟨v,hr,hbx⟩,hT⟩;refine⟨_,rfl,?_⟩;rw[names_fold,List.nil_append]at hr;have HR:=hide hr;have HX:=hide hbx;clear hr hbx hT HE;refine wpList_nil ?_;rename_i hK;refine hK _ _ ?_;clear hK;have k0:=HX.out.cell 0;have hlen:=HR.out.len;have hvs:v.ownBlock=some w.heap.size→False:=fun e=>HR.out.nb (mem_ob.2 e);have Hvs:=hide hvs;clear hvs;rcases hn:f.names with _|⟨s0,l0⟩
 ·have ho:=HR.out.own;rw[hn]at ho;obtain⟨A1,c1,rfl⟩:=own_shape ho;have HN:=hide hn;clear hn ho
  go_wp2_with(first
   | (go_at_call 255;(with_reducible refine(Tryz.slices_Sort_string_none A1 c1 _).mono ?_);rintro e2 w2 ⟨rfl,rfl⟩)
   | (go_at_call 256;(with_reducible refine(Tryz.slices_Compact_string_empty A1 c1 _).mono ?_);rintro e3 w3 ⟨rfl,rfl⟩))
  go_ret;exact⟨⟨_,_,[],rfl,⟨.inl rfl,by simp,by simp⟩,Nat.zero_le _,by rw[HN.out];simp⟩,HR.out.below⟩
 ·have ho:=HR.out.own;rw[enc_names]at ho;have hl:(f.names.map (·.data.toList)).length=f.names.length:=by simp
  rw[←hl]at ho;obtain⟨g,cap,e0,hg0,hgl,hncap,hcm,hzl,hH⟩:=Lib.holds_of_ownsRow ho (by
   intro e;subst e;rcases ho.2 with⟨_,h0⟩|⟨_,_,_,h0,_⟩
   ·rw[hn]at h0;simp at h0
   ·cases h0)
  subst e0;have hso:=sort_own ho (by rw[hn];simp) (by rw[hl];omega);have hgw:w.heap.size≤g:=HR.out.ge g (by rw[HR.out.d];simp[ob,Value.ownBlock]);have hgn:g≠w.heap.size:=fun e=>Hvs.out (by rw[e];rfl);have HSo:=hide hso;have Hgw:=hide hgw;have HL:=hide hl;have hnl:(f.names.map (·.data.toList)).length≤4611686018427387904:=by rw[hl];omega
  have Hnl:=hide hnl;have Hzz:=hide HR.out.sz;have HB1:=hide HR.out.below;have hgX :∀w2,w1.grownBy w2 (some g)→w2.cell? ⟨w.heap.size,0,none⟩=some (.slice (some ⟨g,0,none⟩) (f.names.map (·.data.toList)).length cap):=fun w2 hgr=>(HX.out.grown hgr (Ne.symm hgn)).cell 0;have HgX:=hide hgX;clear hn ho hl hH hso hgw hzl hcm hncap hg0 HR hgn hgX hnl;generalize (f.names.map (·.data.toList)).length=nn at *
  go_wp2_with(first
   | (go_at_call 255;(with_reducible refine HSo.out.mono ?_);rintro e2 w2 ⟨rfl,ts,hts,hmem,hown,hgr⟩;have k2:=HgX.out w2 hgr;have HO2:=hide hown;have HG2:=hide hgr;have Hts:=hide hts;have Hm2:=hide hmem;clear hown hgr hts hmem)
   | (go_at_call 256;(with_reducible refine(compact_own HO2.out Hts.out Hnl.out).mono ?_);rintro e3 w3 ⟨⟨us,rfl,hul,hum,huo⟩,hgr3⟩;have HO3:=hide huo;have HG3:=hide hgr3;have Hum:=hide hum;have Hul:=hide hul;clear huo hgr3 hum hul))
  go_ret;have hBf:Below w.heap.size w w3:=(HB1.out.grown HG2.out HB1.out.size (by intro k hk;cases hk;exact Hgw.out)).grown HG3.out (Nat.le_trans HB1.out.size HG2.out.size) (by intro k hk;cases hk;exact Hgw.out);have hmm :∀x,x∈us↔x∈f.names.map (·.data.toList):=fun x=>(Hum.out x).trans (Hm2.out x);have hback:(us.map fun b=>(⟨b.toArray⟩:ByteArray)).map Value.string=us.map encStr:=by
   rw[List.map_map];rfl
  have hlen2:(us.map fun b=>(⟨b.toArray⟩:ByteArray)).length=us.length:=by simp
  obtain⟨A',c',e1,hrd,hlc,_⟩:=own_rd (S:=fun b=>w.heap.size≤b) HO3.out (fun b hb=>by have e:some g=some b:=hb;injection e with e;rw[←e];exact Hgw.out);injection e1 with e1 _ e3;subst e1 e3;refine⟨⟨_,_,us.map fun b=>(⟨b.toArray⟩:ByteArray),by rw[hlen2];rfl,⟨by rw[hback];exact hrd,fun s hs=>?_,by rw[hlen2];have:=Hul.out;have:=Hnl.out;omega⟩,by rw[hlen2];exact hlc,fun s=>?_⟩,hBf⟩
  ·obtain⟨b,hb,rfl⟩:=List.mem_map.1 hs;obtain⟨s',hs',rfl⟩:=List.mem_map.1 ((hmm b).1 hb);have:=Hzz.out s' hs';have e:(⟨s'.data.toList.toArray⟩:ByteArray)=s':=by simp
   rw[e];omega
  ·rw[List.mem_map];constructor
   ·rintro⟨b,hb,rfl⟩;obtain⟨s',hs',rfl⟩:=List.mem_map.1 ((hmm b).1 hb)
    simpa using hs'
   ·intro hs;exact⟨s.data.toList,(hmm _).2 (List.mem_map.2 ⟨s,hs,rfl⟩),by simp⟩
end
section
open Go.RowKit
section
variable {P : Program} {ops : Array Oper} {Q : Exit → Act → World → Prop} {o : Oper} {rest : List Oper} {n : Nat} {L L' : List Value} {df : List Deferred} {w : World} {v : Value}
theorem gno(h:wpList P ops Q rest ⟨(L.set n undef).toArray,df⟩ w)(hd:o.dst=some n)(hw:Region.wanted o (yielded ops L.toArray)=false):wpList P ops Q (o::rest) ⟨L.toArray,df⟩ w:=by
 unfold wpList;rw[hw,if_neg (by simp)];have e:(Act.mk L.toArray df).put o.dst undef=⟨(L.set n undef).toArray,df⟩:=by rw[hd];simp[Act.put]
 rw[e];exact h
theorem gcg(b:Bool){f:FuncId}{args:Array Value}{post:Value→World→Prop}(hc:b=true→Calls P f args w fun e w'=>∃u,e = .returned u∧post u w')
  (h :∀u w',(b=true→post u w')→(b=false→u=undef∧w'=w)→wpList P ops Q rest ⟨(L.set n u).toArray,df⟩ w')
  (hw:Region.wanted o (yielded ops L.toArray)=b)
  (he:b=true→(execOp (Act.mk L.toArray df).eval o).run P w = .ok (.enter f args) w:=by intro hb;first|(go_simp;done)|(go_simp;with_reducible rfl)) (hd:o.dst=some n:=by rfl):wpList P ops Q (o::rest) ⟨L.toArray,df⟩ w:=by
 cases b with
 | true=>exact gc (hc rfl) (fun e w' ⟨u,h1,h2⟩=>⟨u,h1,h u w' (fun _=>h2) (fun h=>by cases h)⟩) (he rfl) hd hw
 | false=>exact gno (h undef w (fun h=>by cases h) (fun _=>⟨rfl,rfl⟩)) hd hw
theorem gwg_below{b:Bool}{w w' w1:World}(hy:b=true→w'=w1)(hn:b=false→w'=w)(hB:Below w.heap.size w w1):Below w.heap.size w w':=by
 cases b with
 | true=>rw[hy rfl];exact hB
 | false=>rw[hn rfl];exact Below.refl _ _
theorem gwg(b:Bool){w1:World}(h :∀w',(b=true→w'=w1)→(b=false→w'=w)→wpList P ops Q rest ⟨L'.toArray,df⟩ w')
  (hw:Region.wanted o (yielded ops L.toArray)=b)
  (hy:b=true→(execOp (Act.mk L.toArray df).eval o).run P w = .ok (.value v) w1:=by intro hb;first|(go_simp;done)|(go_simp;with_reducible rfl)|(go_simp;exact⟨rfl,rfl⟩)) (hd:o.dst=some n:=by rfl)
  (hL:L.set n (if b then v else undef)=L':=by(try simp only[List.set_cons_zero,List.set_cons_succ]);rfl):wpList P ops Q (o::rest) ⟨L.toArray,df⟩ w:=by
 subst hL;cases b with
 | true=>exact gw (h w1 (fun _=>rfl) (fun h=>by cases h)) hd (hy rfl) (by simp) hw
 | false=>exact gno (by simpa using h w (fun h=>by cases h) (fun _=>rfl)) hd hw
theorem gcb(b:Bool){f:FuncId}{args:Array Value}{X:Prop}(hc:b=true→Calls P f args w fun e w'=>RetB X e∧Below w.heap.size w w')
  (h :∀(c:Bool) w',(b=true→(c=true↔X))→Below w.heap.size w w'→wpList P ops Q rest ⟨(L.set n (if b then .bool c else undef)).toArray,df⟩ w')
  (hw:Region.wanted o (yielded ops L.toArray)=b)
  (he:b=true→(execOp (Act.mk L.toArray df).eval o).run P w = .ok (.enter f args) w:=by intro hb;first|(go_simp;done)|(go_simp;with_reducible rfl)) (hd:o.dst=some n:=by rfl):wpList P ops Q (o::rest) ⟨L.toArray,df⟩ w:=by
 cases b with
 | true=>exact gc (hc rfl) (fun e w' ⟨⟨c,h1,h2⟩,hB⟩=>⟨.bool c,h1,h c w' (fun _=>h2) hB⟩) (he rfl) hd hw
 | false=>exact gno (h false w (fun h=>by cases h) (Below.refl _ _)) hd hw
theorem so{a b:Nat}{g g1 X:Bool}{ty:TypeId}{ps:String}{af:Array Edge}(hg:g1 = !g)(h :∀c d:Bool,c=(g || X)→d = !c→wpList P ops Q rest ⟨(L.set n (.bool c)).toArray,df⟩ w)
  (hx:L[a]?=some (.bool g):=by rfl) (hy:L[b]?=some (if g1 then .bool X else undef):=by simp only[List.getElem?_cons_succ,List.getElem?_cons_zero];with_reducible rfl):
  wpList P ops Q ({dst:=some n,op:= .pick (.tmp a) (.const (.bool true)) (.tmp b),type:=ty,pos:=ps,after:=af,guard:=none}::rest) ⟨L.toArray,df⟩ w:=by
 subst hg;refine sk (v:= .bool (g || X)) (h _ _ rfl rfl) rfl ?_ rfl rfl;have e1:(Act.mk L.toArray df).eval (.tmp a) = .bool g:=by show L.toArray.getD a undef=_;simp[hx]
 have e2:(Act.mk L.toArray df).eval (.tmp b)=if(!g)then .bool X else undef:=by show L.toArray.getD b undef=_;simp[hy]
 have e3:(Act.mk L.toArray df).eval (.const (.bool true)) = .bool true:=rfl;generalize (Act.mk L.toArray df).eval=ev at e1 e2 e3⊢;cases g<;>simp[execOp,e1,e2,e3,asBool,go_sem]
theorem sa{a b:Nat}{g X:Bool}{ty:TypeId}{ps:String}{af:Array Edge}(h :∀c:Bool,c=(g && X)→wpList P ops Q rest ⟨(L.set n (.bool c)).toArray,df⟩ w)
  (hx:L[a]?=some (.bool g):=by rfl) (hy:L[b]?=some (if g then .bool X else undef):=by simp only[List.getElem?_cons_succ,List.getElem?_cons_zero];with_reducible rfl):
  wpList P ops Q ({dst:=some n,op:= .pick (.tmp a) (.tmp b) (.const (.bool false)),type:=ty,pos:=ps,after:=af,guard:=none}::rest) ⟨L.toArray,df⟩ w :=
 sp (h _ rfl) hx hy rfl
end
end
end Go.Proofs.YtialngdffhmobaaGreatDoor
