/- Part 16. -/
import Derived.Test.YtjjaojnglnpgaaaGreatDoorProg
import Derived.Deep.Cut
import Derived.Deep.MidRow
import Derived.Defers
import Derived.Recover
import Derived.Laws.EntriesVeiled
import Derived.Lib.IndexLaws
import Derived.Deep.CutBlock
import Derived.Deep.DeepCutAuto
import Derived.Test.YtjjaojnglnpgaaaGreatDoorZ10
import Derived.Test.YtjjaojnglnpgaaaGreatDoorZ14
import Derived.Test.YtjjaojnglnpgaaaGreatDoorZ11
import Derived.Test.YtjjaojnglnpgaaaGreatDoorZ05
import Derived.Test.YtjjaojnglnpgaaaGreatDoorZ03
import Derived.Test.YtjjaojnglnpgaaaGreatDoorZ09
import Derived.Test.YtjjaojnglnpgaaaGreatDoorZ00
set_option linter.unusedVariables false
set_option linter.unusedSimpArgs false
set_option maxHeartbeats 16000000
set_option maxRecDepth 1000000
namespace Go.Proofs.YtjjaojnglnpgaaaGreatDoor
section
open Go.RowKit
theorem En(p q:Addr)(w:World):
  CallsD Tryz.prog 75 #[.pointer (some p),.pointer (some q)] .returning w fun e u' w'=>e = .returned (.tuple #[])∧u' = .returning∧w'=w:=by
 refine callsD_of_wpS Tryz.func75 rfl fun c₀ cs hu=>?_;apply wpS_seq;apply wpS_region;simp[wpOpsS,go_sem,recoverD,hu,Tryz.ntmps75,Exit.thenS];refine wpS_of_wp ?_;rw[show(#[Value.pointer (some p),Value.pointer (some q)]++(((Array.replicate 15 undef).setIfInBounds 3 Value.nilIface).setIfInBounds 0 Value.nilIface))=#[.pointer (some p),.pointer (some q),.nilIface,undef,undef,.nilIface,undef,undef,undef,undef,undef,undef,undef,undef,undef,undef,undef]from rfl]
 go_wp2_with fail
 cases c₀;simp_all [bodyPostS,results,Tryz.results75]
abbrev zeroL:List Value:=[.int .u8 0,.string {data:=#[]},.string {data:=#[]},.string {data:=#[]},.string {data:=#[]},.int .u8 0,.string {data:=#[]},.string {data:=#[]},.int .i64 0,.slice none 0 0,.slice none 0 0,.int .u8 0,.slice none 0 0,.int .i64 0,.int .i64 0,.string {data:=#[]},.string {data:=#[]},.slice none 0 0,.slice none 0 0,.slice none 0 0]
def wipedP(w:World)(p q:Nat):World:=((w.alloc (.cells #[] 136)).setCells p 0 zeroL).setCell ⟨q,0,none⟩ (.bool false)
theorem uP:zeroL.toArray.all (·.oneCell')=true:=all_oneCell_toArray (cs:=zeroL) (by
 intro v hv;simp only[zeroL,List.mem_cons,List.not_mem_nil,or_false]at hv;rcases hv with rfl|rfl|rfl|rfl|rfl|rfl|rfl|rfl|rfl|rfl|rfl|rfl|rfl|rfl|rfl|rfl|rfl|rfl|rfl|rfl<;>rfl)
theorem aZ:(Tryz.prog.info? 46).map (·.size)=some 20:=by kernel_rfl
theorem wo(p q:Nat)(z:Value)(w:World)(older:List PanicEntry)(hp:w.cell? ⟨q,0,none⟩=some z)(Me:w.frozen? ⟨q,0,none⟩=false)(hpq :¬p=q)(ht:w.there p 0 20):
  CallsD Tryz.prog 75 #[.pointer (some ⟨p,0,none⟩),.pointer (some ⟨q,0,none⟩)] (.panicking ({v:= .iface 136 (.agg #[]),recovered:=false}::older)) w fun e u' w' =>
   e = .returned (.tuple #[])∧u' = .panicking ({v:= .iface 136 (.agg #[]),recovered:=true}::older)∧w'=wipedP w p q:=by
 refine callsD_of_wpS Tryz.func75 rfl fun c₀ cs hu=>?_;apply wpS_seq;apply wpS_region;simp[wpOpsS,go_sem,recoverD,hu,Tryz.ntmps75,Exit.thenS];have qO :¬q=p:=fun e=>hpq e.symm;have BU:=block_lt_of_cell hp;have hbb:=ag w (.cells #[] 136);have Ht:(w.alloc (.cells #[] 136)).there p 0 20:=World.there_alloc ht _;have Hp:((w.alloc (.cells #[] 136)).setCells p 0 zeroL).cell? ⟨q,0,none⟩=some z:=(World.cell?_setCells_out p zeroL 0 _ ⟨q,0,none⟩ (fun e _=>absurd e qO)).trans ((hbb.cell (p:=⟨q,0,none⟩) BU).trans hp);have Fp:((w.alloc (.cells #[] 136)).setCells p 0 zeroL).frozen? ⟨q,0,none⟩=false:=(World.frozen?_setCells p zeroL 0 _ _).trans ((hbb.frozen (p:=⟨q,0,none⟩) BU).trans Me);have hta :∀w',(Instr.typeAssert (.iface 136 (.agg #[])) 20 136 true).run Tryz.prog w' = .ok (.tuple #[.agg #[],.bool true]) w':=fun w'=>by simp[Instr.typeAssert,run_underlying Tryz.underlying136]
 clear hbb hp Me ht;refine wpS_of_wp ?_;rw[show(#[Value.pointer (some (⟨p,0,none⟩:Addr)),Value.pointer (some (⟨q,0,none⟩:Addr))]++(((Array.replicate 15 undef).setIfInBounds 3 (Value.iface 136 (Value.agg #[]))).setIfInBounds 0 (Value.iface 136 (Value.agg #[]))))=#[.pointer (some ⟨p,0,none⟩),.pointer (some ⟨q,0,none⟩),.iface 136 (.agg #[]),undef,undef,.iface 136 (.agg #[]),undef,undef,undef,undef,undef,undef,undef,undef,undef,undef,undef]from rfl]
 go_upto_region 5 with fail
 generalize hWw:w.alloc (.cells #[] 136)=W at Hp Fp Ht⊢;generalize hV:W.setCells p 0 zeroL=V at Hp Fp;have HW:=hide hWw;have HV:=hide hV;clear hWw hV
 go_wp2_with(refine wpList_store_mid rfl _ _ _ rfl p 0 zeroL.toArray rfl rfl Ht aZ uP ?_;rw[show W.setCells p 0 zeroL.toArray.toList=V from HV.out])
 clear hta Hp Fp Ht;cases c₀;simp_all [bodyPostS,results,Tryz.results75];unfold wipedP;rw[HW.out,HV.out]
abbrev zeroVs:List Value:=cmdVs Cmd.zero Ph.zero none 0
def ParsePost(w:World)(s:ByteArray)(e:Ending)(w':World):Prop :=
 Below w.heap.size w w'∧(lineOf (wordsOf 32 s)=none→e = .returned (.tuple #[.agg zeroVs.toArray,.bool false]))∧
  ∀c,lineOf (wordsOf 32 s)=some c→∃x A n,e = .returned (.tuple #[.agg (cmdVs c x A n).toArray,.bool true])∧CmdAt w.heap.size w' c x A n
theorem Sj{P:Program}{W:World}(f:ResultVar→Sem Value)(r0 r1:ResultVar)(v0 v1:Value)(h0:(f r0).run P W = .ok v0 W)(h1:(f r1).run P W = .ok v1 W):((#[r0,r1].mapM f).run P W) = .ok #[v0,v1] W:=by
 simp[go_sem,h0,h1]
theorem Sl{T:Array Value}{W:World}{p q:Nat}{cs:List Value}{b:Bool}(h2:T[2]?=some (.pointer (some ⟨p,0,none⟩)))(h3:T[3]?=some (.pointer (some ⟨q,0,none⟩)))
  (hr:W.rangeAt p 0 cs) (hl:cs.length=20) (hb:W.cell? ⟨q,0,none⟩=some (.bool b)):(results Tryz.f34 T).run Tryz.prog W = .ok (.tuple #[.agg cs.toArray,.bool b]) W:=by
 have hld:=run_loadVar_mid (P:=Tryz.prog) W p 0 46 cs _ hr Tryz.underlying46 rfl (by rw[hl];exact aZ);have MJ:(loadVar 4 ⟨q,0,none⟩).run Tryz.prog W = .ok (.bool b) W:=by simp[go_sem,hb]
 have hg2:T.getD 2 undef = .pointer (some ⟨p,0,none⟩):=by rw[Array.getD_eq_getD_getElem?,h2];rfl
 have hg3:T.getD 3 undef = .pointer (some ⟨q,0,none⟩):=by rw[Array.getD_eq_getD_getElem?,h3];rfl
 unfold results;rw[Sem.run_bind,Tryz.results34,Sj _ _ _ (.agg cs.toArray) (.bool b)]
 ·rfl
 ·show((asAddr (T.getD 2 undef)) >>= fun a=>loadVar 46 a).run Tryz.prog W=_;rw[hg2,Sem.run_bind];simp only[asAddr,Sem.run_pure,Result.andThen_ok];exact hld
 ·show((asAddr (T.getD 3 undef)) >>= fun a=>loadVar 4 a).run Tryz.prog W=_;rw[hg3,Sem.run_bind];simp only[asAddr,Sem.run_pure,Result.andThen_ok];exact MJ
theorem mO{w W:World}{s:ByteArray}{T:Array Value}{p q:Nat}{cs:List Value}{b:Bool}(h2:T[2]?=some (.pointer (some ⟨p,0,none⟩)))(h3:T[3]?=some (.pointer (some ⟨q,0,none⟩)))
  (hr:W.rangeAt p 0 cs) (hl:cs.length=20) (hb:W.cell? ⟨q,0,none⟩=some (.bool b)) (hP:ParsePost w s (.returned (.tuple #[.agg cs.toArray,.bool b])) W):
  Leaves Tryz.prog Tryz.f34 T (ParsePost w s) [{target:= .fn (.func 75) #[.pointer (some ⟨p,0,none⟩),.pointer (some ⟨q,0,none⟩)],args:=#[]}] .returning W:=by
 refine leaves_cons (f:=75) (args:=#[.pointer (some ⟨p,0,none⟩),.pointer (some ⟨q,0,none⟩)]) (by simp) (by simp[go_sem]) ?_;refine(En _ _ _).mono ?_;rintro e u' w'' ⟨rfl,rfl,rfl⟩;exact⟨_,Sl h2 h3 hr hl hb,hP⟩
theorem Xn{w W:World}{s:ByteArray}{T:Array Value}{p q:Nat}{z:Value}(h2:T[2]?=some (.pointer (some ⟨p,0,none⟩)))(h3:T[3]?=some (.pointer (some ⟨q,0,none⟩)))
  (ht:W.there p 0 20) (hq:W.cell? ⟨q,0,none⟩=some z) (RI:W.frozen? ⟨q,0,none⟩=false) (hpq :¬p=q) (hB:Below w.heap.size w W) (hp:w.heap.size≤p) (BU:w.heap.size≤q) (hn:lineOf (wordsOf 32 s)=none):
  Leaves Tryz.prog Tryz.f34 T (ParsePost w s) [{target:= .fn (.func 75) #[.pointer (some ⟨p,0,none⟩),.pointer (some ⟨q,0,none⟩)],args:=#[]}]
   (.panicking [{v:= .iface 136 (.agg #[]),recovered:=false}]) W:=by
 refine leaves_cons (f:=75) (args:=#[.pointer (some ⟨p,0,none⟩),.pointer (some ⟨q,0,none⟩)]) (by simp) (by simp[go_sem]) ?_;refine(wo p q z W [] hq RI hpq ht).mono ?_;rintro e u' w'' ⟨rfl,rfl,rfl⟩;have qO :¬q=p:=fun e=>hpq e.symm;have hpl:p<W.heap.size:=by
  obtain⟨v,hv⟩:=Option.isSome_iff_exists.1 (ht 0 (by decide)).1;exact block_lt_of_cell hv
 have MK:=block_lt_of_cell hq;have hbb:=ag W (.cells #[] 136);have ht1:(W.alloc (.cells #[] 136)).there p 0 20:=World.there_alloc ht _;have hq1:((W.alloc (.cells #[] 136)).setCells p 0 zeroL).cell? ⟨q,0,none⟩=some z:=(World.cell?_setCells_out p zeroL 0 _ ⟨q,0,none⟩ (fun e _=>absurd e qO)).trans ((hbb.cell (p:=⟨q,0,none⟩) MK).trans hq);have hr:(wipedP W p q).rangeAt p 0 zeroL:=by
  intro j v hv;have h:=World.rangeAt_setCells_same (W.alloc (.cells #[] 136)) p 0 zeroL ht1 j v hv;unfold wipedP;rw[World.cell?_setCell_other]
  ·exact h
  ·intro e;injection e with e1;exact qO e1
 refine⟨_,Sl h2 h3 hr rfl (World.cell?_setCell_same _ _ _ hq1),?_,fun _=>rfl,fun c hc=>by rw[hn]at hc;cases hc⟩;unfold wipedP;refine Below.setCell ?_ (p:=⟨q,0,none⟩) BU _;exact Keep.below (Keep.trans (P:=fun k=>k<w.heap.size) (Keep.of_below (hB.alloc hB.size _) fun k hk=>hk) (qo p (fun h=>by omega) zeroL 0 _))
structure ParseAt(w W:World):Prop where
 below:Below w.heap.size w W
 size:w.heap.size+2≤W.heap.size
 cr:W.rangeAt w.heap.size 0 zeroL
 ct:W.there w.heap.size 0 20
 iq:W.cell? ⟨w.heap.size+1,0,none⟩=some (.bool false)
 fr:W.frozen? ⟨w.heap.size+1,0,none⟩=false
theorem ParseAt.keep{w W W':World}(h:ParseAt w W)(hk:Keep (fun k=>k<w.heap.size+2) W W'):ParseAt w W' where
 below:=h.below.trans (Keep.below (hk.mono fun k hk=>by omega))
 size:=aI h.size hk.size
 cr:=fun j v hv=>(hk.cell (a:=⟨w.heap.size,0+j,none⟩) (by show w.heap.size<_;omega)).trans (h.cr j v hv)
 ct:=fun j hj=>⟨by rw[hk.cell (a:=⟨w.heap.size,0+j,none⟩) (by show w.heap.size<_;omega)];exact(h.ct j hj).1,(hk.frozen (a:=⟨w.heap.size,0+j,none⟩) (by show w.heap.size<_;omega)).trans (h.ct j hj).2⟩
 iq:=(hk.cell (a:=⟨w.heap.size+1,0,none⟩) (by show w.heap.size+1<_;omega)).trans h.iq
 fr:=(hk.frozen (a:=⟨w.heap.size+1,0,none⟩) (by show w.heap.size+1<_;omega)).trans h.fr
theorem ParseAt.fell{w W:World}{s:ByteArray}{T:Array Value}(h:ParseAt w W)(h2:T[2]?=some (.pointer (some ⟨w.heap.size,0,none⟩)))(h3:T[3]?=some (.pointer (some ⟨w.heap.size+1,0,none⟩)))(hn:lineOf (wordsOf 32 s)=none):
  Leaves Tryz.prog Tryz.f34 T (ParsePost w s) [{target:= .fn (.func 75) #[.pointer (some ⟨w.heap.size,0,none⟩),.pointer (some ⟨w.heap.size+1,0,none⟩)],args:=#[]}]
   (.panicking [{v:= .iface 136 (.agg #[]),recovered:=false}]) W :=
 Xn h2 h3 h.ct h.iq h.fr (by omega) h.below (aC _) (Nat.le_succ _) hn
theorem ParseAt.stored{w W:World}(h:ParseAt w W)(cs:List Value)(hl:cs.length=20):∃V,V=W.setCells w.heap.size 0 cs.toArray.toList∧V.cell? ⟨w.heap.size+1,0,none⟩=some (.bool false)∧V.frozen? ⟨w.heap.size+1,0,none⟩=false∧
  V.rangeAt w.heap.size 0 cs∧Keep (fun k=>k≠w.heap.size) W V∧Below w.heap.size w V :=
 ⟨_,rfl,(World.cell?_setCells_out w.heap.size cs.toArray.toList 0 W ⟨w.heap.size+1,0,none⟩ (fun e _=>absurd e (by show¬w.heap.size+1=w.heap.size;omega))).trans h.iq,(World.frozen?_setCells _ _ _ _ _).trans h.fr,
  World.rangeAt_setCells_same W w.heap.size 0 cs (by rw[hl];exact h.ct),qo w.heap.size (fun h=>h rfl) cs 0 W,h.below.trans (Keep.below (qo w.heap.size (P:=fun k=>k<w.heap.size) (Nat.lt_irrefl _) cs 0 W))⟩
theorem dL(c:Cmd)(x:Ph)(A:Option Addr)(n:Nat):(cmdVs c x A n).toArray.all (·.oneCell')=true:=all_oneCell_toArray (cs:=cmdVs c x A n) (by
 intro v hv;simp only[cmdVs,List.mem_cons,List.not_mem_nil,or_false]at hv;rcases hv with rfl|rfl|rfl|rfl|rfl|rfl|rfl|rfl|rfl|rfl|rfl|rfl|rfl|rfl|rfl|rfl|rfl|rfl|rfl|rfl<;>rfl)
theorem Sm{w V:World}{s:ByteArray}{T:Array Value}{cs:List Value}{b:Bool}(h2:T[2]?=some (.pointer (some ⟨w.heap.size,0,none⟩)))(h3:T[3]?=some (.pointer (some ⟨w.heap.size+1,0,none⟩)))
  (hl:cs.length=20) (hc:V.cell? ⟨w.heap.size+1,0,none⟩=some (.bool false)) (hr:V.rangeAt w.heap.size 0 cs) (hP:ParsePost w s (.returned (.tuple #[.agg cs.toArray,.bool b])) (V.setCell ⟨w.heap.size+1,0,none⟩ (.bool b))):
  Leaves Tryz.prog Tryz.f34 T (ParsePost w s) [{target:= .fn (.func 75) #[.pointer (some ⟨w.heap.size,0,none⟩),.pointer (some ⟨w.heap.size+1,0,none⟩)],args:=#[]}] .returning (V.setCell ⟨w.heap.size+1,0,none⟩ (.bool b)):=by
 refine mO h2 h3 (fun j v hv=>?_) hl (World.cell?_setCell_same _ _ _ hc) hP;rw[World.cell?_setCell_other]
 ·exact hr j v hv
 ·intro e;injection e with e1;omega
def startW(w:World)(ws:List ByteArray):World :=
 (((w.alloc (.cells zeroL.toArray 46)).alloc (.cells #[.bool false] 4)).alloc (.cells (ws.map .string).toArray 9)).alloc
  (.cells ((.slice (some ⟨w.heap.size+1+1,0,none⟩) ws.length ws.length)::zeroL).toArray 142)
theorem qV(w:World)(ws:List ByteArray)(hl:ws.length≤9223372036854775807):
  ParseAt w (startW w ws)∧LnIn (fun b=>b=w.heap.size+1+1) (w.heap.size+1+1+1) (startW w ws) ws zeroVs∧(startW w ws).heap.size=w.heap.size+1+1+1+1:=by
 obtain⟨o0,e0⟩:∃o0,o0=Obj.cells zeroL.toArray 46:=⟨_,rfl⟩;obtain⟨o1,e1⟩:∃o1,o1=Obj.cells #[.bool false] 4:=⟨_,rfl⟩;obtain⟨o2,e2⟩:∃o2,o2=Obj.cells (ws.map .string).toArray 9:=⟨_,rfl⟩;obtain⟨o3,e3⟩:∃o3,o3=Obj.cells ((.slice (some ⟨w.heap.size+1+1,0,none⟩) ws.length ws.length)::zeroL).toArray 142:=⟨_,rfl⟩;have hW:startW w ws=(((w.alloc o0).alloc o1).alloc o2).alloc o3:=by rw[e0,e1,e2,e3];rfl
 rw[hW];have z1:(w.alloc o0).heap.size=w.heap.size+1:=by simp
 have z2:((w.alloc o0).alloc o1).heap.size=w.heap.size+1+1:=by simp
 have z3:(((w.alloc o0).alloc o1).alloc o2).heap.size=w.heap.size+1+1+1:=by simp
 have z4:((((w.alloc o0).alloc o1).alloc o2).alloc o3).heap.size=w.heap.size+1+1+1+1:=by simp
 have b1:=ag (w.alloc o0) o1;have b2:=ag ((w.alloc o0).alloc o1) o2;have b3:=ag (((w.alloc o0).alloc o1).alloc o2) o3;have h0:((((w.alloc o0).alloc o1).alloc o2).alloc o3).heap[w.heap.size]?=some o0:=((b3.block _ (by omega)).trans (b2.block _ (by omega))).trans ((b1.block _ (by omega)).trans (heap_alloc_new w o0));have h1:((((w.alloc o0).alloc o1).alloc o2).alloc o3).heap[w.heap.size+1]?=some o1:=((b3.block _ (by omega)).trans (b2.block _ (by omega))).trans (by have:=heap_alloc_new (w.alloc o0) o1;rwa [z1]at this);have h2:((((w.alloc o0).alloc o1).alloc o2).alloc o3).heap[w.heap.size+1+1]?=some o2:=(b3.block _ (by omega)).trans (by have:=heap_alloc_new ((w.alloc o0).alloc o1) o2;rwa [z2]at this);have h3:((((w.alloc o0).alloc o1).alloc o2).alloc o3).heap[w.heap.size+1+1+1]?=some o3:=by have:=heap_alloc_new (((w.alloc o0).alloc o1).alloc o2) o3;rwa [z3]at this
 have hB:Below w.heap.size w ((((w.alloc o0).alloc o1).alloc o2).alloc o3):=(((ag w o0).trans (b1.mono (by omega))).trans (b2.mono (by omega))).trans (b3.mono (by omega));generalize ((((w.alloc o0).alloc o1).alloc o2).alloc o3)=W at h0 h1 h2 h3 hB z4⊢;subst e0 e1 e2 e3;have c0 :∀j v,zeroL[j]?=some v→W.cell? ⟨w.heap.size,0+j,none⟩=some v:=fun j v hv=>by rw[Lib.cell_of_heap h0];simpa using hv
 refine⟨⟨hB,by omega,c0,fun j hj=>?_,by rw[Lib.cell_of_heap h1];rfl,by unfold World.frozen?;rw[h1];rfl⟩,⟨⟨⟨_,_,by rw[Lib.cell_of_heap h3];rfl,.inr ⟨_,0,rfl,rfl,fun j u hu=>by rw[Nat.zero_add,Lib.cell_of_heap h2];simpa using hu⟩,aC _,hl⟩,by unfold World.frozen?;rw[h3];rfl,fun b hb=>by omega⟩,rfl,fun j u hu=>?_,fun o=>by unfold World.frozen?;rw[h3];rfl⟩,z4⟩
 ·have hv:zeroL[j]?=some (zeroL[j]'hj):=List.getElem?_eq_getElem hj;exact⟨by rw[c0 j _ hv];rfl,by unfold World.frozen?;rw[h0];rfl⟩
 ·rw[Lib.cell_of_heap h3,Nat.add_comm 1 j];have hu:zeroL[j]?=some u:=hu
  simpa using hu
theorem Sr:(Tryz.prog.info? 9).map (fun i=>(i.zero,i.size,i.bytes))=some (some (.string ByteArray.empty),1,16):=by kernel_rfl
theorem Xo{c:UInt8}{s:ByteArray}{d:List ByteArray}(h:d.map (·.data.toList)=partsL c s.data.toList):d=wordsOf c s:=by
 rw[←D9]at h;refine List.map_inj_right (f:=fun b:ByteArray=>b.data.toList) ?_ |>.1 h;intro a b e;exact ByteArray.ext (Array.toList_inj.1 e)
theorem iU(s:ByteArray)(c:UInt8)(hl:s.size≤1099511627776)(w:World):
  Calls Tryz.prog 72 #[.string s,.int .u8 (c.toNat:Int)] w fun e w'=>∃v,e = .returned v∧w'.ownsRow w.heap.size 9 1 v (wordsOf c s).length ((wordsOf c s).map .string)∧Below w.heap.size w w':=by
 go_enter Tryz.func72,Tryz.ntmps72
 go_wp2_with fail
 go_loopg [5,6,7] s.size (fun g v f i wr=>∃(q k n:Nat) (d:List ByteArray),q≤s.size∧k≤q∧g=s.size-q∧i = .int .i64 q∧f = .int .i64 k∧n≤q∧Hid (n=d.length)∧Hid (wr.ownsRow w.heap.size 9 1 v n (d.map .string))∧Hid (Below w.heap.size w wr)∧
  Hid (partsL c (s.data.toList.take q)=d.map (·.data.toList)++[(s.data.toList.take q).drop k]))
 case atStart=>exact⟨0,0,0,[],by omega,by omega,by omega,rfl,rfl,by omega,hide rfl,hide (World.ownsRow_nil _ _ _ _),hide (Below.refl _ _),hide (by simp[partsL])⟩
 case round =>
  obtain⟨q,k,n,d,hq,hk,hg,rfl,rfl,hn,Hn,HO,HB,HP⟩:=hrel;obtain⟨Av,cv,rfl⟩:=bM HO.out;by_cases hlt:q<s.size
  ·have Xp:q<s.data.toList.length:=by rw[BJ];exact hlt
   have mP:s.data.toList[q]=s[q]:=by simp[ByteArray.getElem_eq_getElem_data]
   have ht:s.data.toList.take (q+1)=s.data.toList.take q++[s[q]]:=by rw[List.take_succ_eq_append_getElem Xp,mP]
   have hsn:=IJ c s[q] _ _ _ HP.out;rw[←ht]at hsn;have hkl:(s.data.toList.take q).length=q:=by rw[List.length_take];omega
   by_cases hc:s[q]=c
   ·have e1:(((s[q]).toNat:Int) == (c.toNat:Int))=true:=by rw[hc];simp
    rw[if_pos hc]at hsn;have HS2:=hide hsn;clear hsn hc ht mP;have hdr:(s.data.toList.take (q+1)).drop (q+1)=[]:=List.drop_eq_nil_of_le (by rw[List.length_take];omega);have hex:(s.extract k q).data.toList=(s.data.toList.take q).drop k:=by simp only[ByteArray.data_extract,Array.toList_extract,List.extract_eq_take_drop,List.drop_take]
    have Hdr:=hide hdr;have Hex:=hide hex;clear hdr hex
    go_wp2_with(at_builtin;refine fE rfl _ _ 34 rfl w.heap.size 9 Tryz.underlying34 Sr rfl (by decide) _ n (d.map .string) rfl (HO.out.alloc _) (some ⟨wr.heap.size,0,none⟩) 1 1 [.string (s.extract k q)] rfl (by simp) rfl (fun ad e=>by injection e with e;subst e;intro j u hu;rw[Addr.add_lit,Nat.zero_add,Lib.cell_of_heap (heap_alloc_new wr _)];simpa using hu) (by intro u hu;simp at hu;subst hu;rfl) (by unfold maxLen;omega) (by omega) (by have:=HB.out.size;simp;omega) ?_)
    intro v1 w4 h4 hg4 hw4;have HB4:Hid (Below w.heap.size w w4):=hide ((HB.out.alloc HB.out.size _).grown hg4 (by have:=HB.out.size;simp;omega) fun j hj=>(HO.out.lt j hj).1);have H4:=hide h4;clear h4 hg4 hw4
    go_wp2_with fail
    go_roundg (s.size-(q+1))
    case measure=>omega
    case rel =>
     refine⟨q+1,q+1,n+1,d++[s.extract k q],by omega,by omega,rfl,by go_num,by go_num,by omega,hide (by simp[Hn.out]),hide ?_,HB4,hide ?_⟩
     ·have h:=H4.out;rw[List.map_append];exact h
     ·rw[HS2.out,Hdr.out];simp only[List.map_append,List.map_cons,List.map_nil,Hex.out,List.append_assoc,List.singleton_append]
   ·have e1:(((s[q]).toNat:Int) == (c.toNat:Int))=false:=by
     rw[aK];intro e;exact hc (UInt8.toNat_inj.1 (by omega))
    rw[if_neg hc]at hsn;have hdr:(s.data.toList.take (q+1)).drop k=(s.data.toList.take q).drop k++[s[q]]:=by rw[ht,List.drop_append_of_le_length (by omega)]
    rw[←hdr]at hsn;have HS2:=hide hsn;clear hsn hc ht mP hdr
    go_wp2_with fail
    go_roundg (s.size-(q+1))
    case measure=>omega
    case rel=>exact⟨q+1,k,n,d,by omega,by omega,rfl,by go_num,rfl,by omega,Hn,HO,HB,HS2⟩
  ·have ML:q=s.size:=by omega
   subst ML;have htk:s.data.toList.take s.size=s.data.toList:=List.take_of_length_le (by rw[BJ];exact aC _);have hex:(s.extract k s.size).data.toList=s.data.toList.drop k:=by
    simp only[ByteArray.data_extract,Array.toList_extract,List.extract_eq_take_drop];exact List.take_of_length_le (by rw[List.length_drop,BJ];exact aC _)
   have hw:d++[s.extract k s.size]=wordsOf c s:=Xo (by
    have:=HP.out;rw[htk]at this;rw[this,List.map_append,List.map_cons,List.map_nil,hex])
   have Hw:=hide hw;have Su:(wordsOf c s).length=n+1:=by rw[←hw,aJ,Hn.out];rfl
   have Xq:=hide Su;clear hw htk hex Su
   go_wp2_with(at_builtin;refine fE rfl _ _ 34 rfl w.heap.size 9 Tryz.underlying34 Sr rfl (by decide) _ n (d.map .string) rfl (HO.out.alloc _) (some ⟨wr.heap.size,0,none⟩) 1 1 [.string (s.extract k s.size)] rfl (by simp) rfl (fun ad e=>by injection e with e;subst e;intro j u hu;rw[Addr.add_lit,Nat.zero_add,Lib.cell_of_heap (heap_alloc_new wr _)];simpa using hu) (by intro u hu;simp at hu;subst hu;rfl) (by unfold maxLen;omega) (by omega) (by have:=HB.out.size;simp;omega) ?_)
   intro v1 w4 h4 hg4 hw4;have HB4:Hid (Below w.heap.size w w4):=hide ((HB.out.alloc HB.out.size _).grown hg4 (by have:=HB.out.size;simp;omega) fun j hj=>(HO.out.lt j hj).1);have H4:=hide h4;clear h4 hg4 hw4
   go_wp2_with fail
   go_ret;refine⟨_,rfl,?_,HB4.out⟩;have h:=H4.out;rw[Xq.out,←Hw.out,List.map_append];exact h
theorem kQ{l:List UInt8}{c:UInt8}:(!decide (0≤Lib.indexByte l c))=true↔c∉l:=by
 rw[Bool.not_eq_true',decide_eq_false_iff_not];have h1:=Lib.indexByte_ge l c;constructor
 ·intro h hm;have h2:Lib.indexByte l c = -1:=by omega
  obtain⟨k,hk,e⟩:=List.getElem_of_mem hm;exact Lib.indexByte_none h2 k (by rw[List.getElem?_eq_getElem hk,e])
 ·intro h h0;obtain⟨o,ho⟩:∃o:Nat,Lib.indexByte l c=o:=⟨(Lib.indexByte l c).toNat,by omega⟩;exact h (List.mem_of_getElem? (Lib.indexByte_some ho).1)
theorem MM{s:ByteArray}:isWord s=true↔1≤s.size∧s.size≤100∧∀c∈s.data.toList,c≠10∧c≠32:=by
 unfold isWord;rw[Bool.and_eq_true,Bool.and_eq_true,Bool.and_eq_true,kQ,kQ,decide_eq_true_eq];have h0:(!s.toList.isEmpty)=true↔1≤s.size:=by
  rw[Bool.not_eq_true',Bool.eq_false_iff,ne_eq,List.isEmpty_iff,fH];omega
 rw[h0];constructor
 ·rintro⟨h1,h2,h3,h4⟩;exact⟨h1,h2,fun c hc=>⟨fun e=>h4 (e▸hc),fun e=>h3 (e▸hc)⟩⟩
 ·rintro⟨h1,h2,h3⟩;exact⟨h1,h2,fun h=>(h3 32 h).2 rfl,fun h=>(h3 10 h).1 rfl⟩
theorem Sv(s:ByteArray)(hl:s.size≤1099511627776)(w:World):Calls Tryz.prog 188 #[.string s] w fun e w'=>e = .returned (.bool (isWord s))∧w'=w:=by
 go_enter Tryz.func188,Tryz.ntmps188
 go_wp2_with fail
 go_loopg [3] s.size (fun g i wr=>∃q:Nat,q≤s.size∧g=s.size-q∧i = .int .i64 q∧wr=w∧Hid (∀j,j<q→∀h:j<s.size,s[j]≠10∧s[j]≠32))
 case atStart=>exact⟨0,by omega,by omega,rfl,rfl,hide (fun j hj=>by omega)⟩
 case round =>
  obtain⟨q,hq,hg,rfl,rfl,HA⟩:=hrel;by_cases hlt:q<s.size
  ·have hb:=(s[q]).toNat_lt;have hmem:s[q]∈s.data.toList:=Array.getElem_mem_toList (xs:=s.data) hlt;by_cases h10:(s[q]).toNat=10
   ·have e10:(((s[q]).toNat:Int) == 10)=true:=by rw[beq_iff_eq];omega
    have hno:isWord s=false:=by
     rw[Bool.eq_false_iff];intro h;exact((MM.1 h).2.2 _ hmem).1 (by rw[←UInt8.toNat_inj];exact h10)
    have Hno:=hide hno;clear hno h10
    go_wp2_with fail
    go_ret;exact⟨by rw[Hno.out];rfl,rfl⟩
   ·have e10:(((s[q]).toNat:Int) == 10)=false:=by rw[aK];omega
    by_cases h32:(s[q]).toNat=32
    ·have e32:(((s[q]).toNat:Int) == 32)=true:=by rw[beq_iff_eq];omega
     have hno:isWord s=false:=by
      rw[Bool.eq_false_iff];intro h;exact((MM.1 h).2.2 _ hmem).2 (by rw[←UInt8.toNat_inj];exact h32)
     have Hno:=hide hno;clear hno h10 h32
     go_wp2_with fail
     go_ret;exact⟨by rw[Hno.out];rfl,rfl⟩
    ·have e32:(((s[q]).toNat:Int) == 32)=false:=by rw[aK];omega
     have HA2:Hid (∀j,j<q+1→∀h:j<s.size,s[j]≠10∧s[j]≠32):=hide fun j hj h=>by
      by_cases e:j=q
      ·subst e;exact⟨fun e=>h10 (by rw[e];rfl),fun e=>h32 (by rw[e];rfl)⟩
      ·exact HA.out j (by omega) h
     clear h10 h32
     go_wp2_with fail
     go_roundg (s.size-(q+1))
     case measure=>omega
     case rel=>exact⟨q+1,by omega,rfl,by go_num,rfl,HA2⟩
  ·have ML:q=s.size:=by omega
   subst ML;have hw:isWord s=(decide (1≤(s.size:Int)) && decide ((s.size:Int)≤100)):=by
    rw[Bool.eq_iff_iff,MM,Bool.and_eq_true,decide_eq_true_eq,decide_eq_true_eq];constructor
    ·rintro⟨h1,h2,_⟩;omega
    ·rintro⟨h1,h2⟩;refine⟨by omega,by omega,fun c hc=>?_⟩;obtain⟨k,hk,e⟩:=List.getElem_of_mem hc;have hk':k<s.size:=by rw[Array.length_toList]at hk;exact hk
     have:=HA.out k hk' hk';have e2:s[k]=c:=by rw[←e];simp[ByteArray.getElem_eq_getElem_data]
     rwa [e2]at this
   have Hw:=hide hw;clear hw
   go_wp2_with fail
   all_goals
    go_ret;refine⟨?_,rfl⟩;rw[Hw.out]
    first
     | rfl
     | grind
     | (simp_all;done)
     | (simp_all;omega)
theorem kR{S:Nat→Prop}{w:World}{A:Option Addr}{c:Nat}{l:List ByteArray}(h:Rd S w A (l.map .string))(hl:l.length≤1099511627776)(hs :∀s∈l,s.size≤1099511627776):
  Calls Tryz.prog 122 #[.slice A l.length c] w fun e w'=>e = .returned (.bool (l.all isWord))∧w'=w:=by
 have H:=hide h;clear h;go_enter Tryz.func122,Tryz.ntmps122
 go_wp2_with fail
 go_loopg [3] l.length (fun g i wr=>∃q:Nat,q≤l.length∧g=l.length-q∧i = .int .i64 q∧wr=w∧Hid (∀s∈l.take q,isWord s=true))
 case atStart=>exact⟨0,by omega,by omega,rfl,rfl,hide (fun s hs=>by simp at hs)⟩
 case round =>
  obtain⟨q,hq,hg,rfl,rfl,HA⟩:=hrel;by_cases hlt:q<l.length
  ·obtain⟨b,o,rfl,hc⟩:=H.out.at_ (j:=q) (by simpa using hlt);simp only[List.getElem_map]at hc;have hsz:=hs _ (List.getElem_mem hlt);rcases hw:isWord l[q]with _|_
   ·have hno:l.all isWord=false:=by
     rw[List.all_eq_false];exact⟨_,List.getElem_mem hlt,by simp[hw]⟩
    have Hno:=hide hno;clear hno
    go_wp2_with(go_at_call 188;(with_reducible refine(Sv _ hsz _).mono ?_);rintro e1 w1 ⟨rfl,rfl⟩;rw[hw])
    go_ret;exact⟨by rw[Hno.out];rfl,rfl⟩
   ·have HA2:Hid (∀s∈l.take (q+1),isWord s=true):=hide fun s hs'=>by
     rw[List.take_succ_eq_append_getElem hlt]at hs';rcases List.mem_append.1 hs' with h|h
     ·exact HA.out s h
     ·rw[List.mem_singleton]at h;rw[h];exact hw
    go_wp2_with(go_at_call 188;(with_reducible refine(Sv _ hsz _).mono ?_);rintro e1 w1 ⟨rfl,rfl⟩;rw[hw])
    go_roundg (l.length-(q+1))
    case measure=>omega
    case rel=>exact⟨q+1,by omega,rfl,by go_num,rfl,HA2⟩
  ·have zk:q=l.length:=by omega
   subst zk;have hall:l.all isWord=true:=by
    rw[List.all_eq_true];have:=HA.out
    rwa [List.take_length]at this
   have ah:=hide hall;clear hall
   go_wp2_with fail
   go_ret;exact⟨by rw[ah.out];rfl,rfl⟩
theorem yE{P:Program}{a:Act}{op:Oper}{ty:TypeId}{x:Operand}{b o:Nat}{cs:List Value}{d:TypeDesc}{w:World}(ho:op.op = .load ty x)(hx:a.eval x = .pointer (some ⟨b,o,none⟩))(hc:w.rangeAt b o cs)
  (hu:P.underlying ty=some d) (hd:d.isRow=true) (hi:(P.info? ty).map (·.size)=some cs.length):(execOp a.eval op).run P w = .ok (.value (.agg cs.toArray)) w:=by
 unfold execOp;simp only[ho,hx,Instr.loadAt,Instr.sureAddr,Sem.run_bind,Sem.run_pure,Result.andThen_ok,run_loadVar_mid w b o ty cs d hc hu hd hi]
theorem Sz{P:Program}{ops:Array Oper}{o:Oper}{a:Act}{w:World}{K:Act→World→Prop}{Q:Exit→Act→World→Prop}{E:Prop}
  (hg:o.guard=none) (ty:TypeId) (x y:Operand) (ho:o.op = .store ty x y) (b off:Nat) (cells:Array Value) (hx:a.eval x = .pointer (some ⟨b,off,none⟩)) (hy:a.eval y = .agg cells)
  (ht:w.there b off cells.size) (hi:(P.info? ty).map (·.size)=some cells.size) (h1:cells.all (·.oneCell')=true) (hK:K (a.put o.dst undef) (w.setCells b off cells.toList)):
  if Region.wanted o (yielded ops a.tmps)=true then Oper.wp P o a w K Q else E:=by
 have hw:Region.wanted o (yielded ops a.tmps)=true:=by simp[Region.wanted,hg]
 rw[if_pos hw];exact wp_store_mid ty x y ho b off cells hx hy ht hi h1 hK
theorem mQ{w:World}{b j:Nat}{cs:List Value}{v:Value}(h:w.rangeAt b 0 cs)(hj:cs[j]?=some v)(u:Value):(w.setCell ⟨b,j,none⟩ u).rangeAt b 0 (cs.set j u):=fun i x hx=>by
 have hjl:j<cs.length:=(List.getElem?_eq_some_iff.1 hj).1;rw[Nat.zero_add];by_cases e:i=j
 ·subst e;rw[List.getElem?_set_self hjl]at hx;rw[←hx];have h1:=h i v hj;rw[Nat.zero_add]at h1;exact World.cell?_setCell_same _ _ _ h1
 ·rw[List.getElem?_set_ne (Ne.symm e)]at hx;have h1:=h i x hx;rw[Nat.zero_add]at h1;exact(World.cell?_setCell_other _ _ _ _ (by intro e2;injection e2 with _ e3;exact e e3.symm)).trans h1
structure ZAt(w W:World):Prop where
 below:Below w.heap.size w W
 cr:W.rangeAt w.heap.size 0 zeroL
 ct:W.there w.heap.size 0 20
 lt:w.heap.size<W.heap.size
theorem fK(w:World):ZAt w (w.alloc (.cells zeroL.toArray 46)):=
 ⟨ag _ _,fun j v hv=>by rw[Lib.cell_of_heap (heap_alloc_new w _),Nat.zero_add];simpa using hv,fun j hj=>⟨by
  have hv:zeroL[j]?=some (zeroL[j]'hj):=List.getElem?_eq_getElem hj;rw[Lib.cell_of_heap (heap_alloc_new w _),Nat.zero_add,List.getElem?_toArray,hv];rfl,by unfold World.frozen?;rw[heap_alloc_new];rfl⟩,by simp⟩
theorem ZAt.keep{w W W':World}(h:ZAt w W)(hk:Keep (fun k=>k<w.heap.size+1) W W'):ZAt w W' where
 below:=h.below.trans (Keep.below (hk.mono fun k hk=>by omega))
 cr:=fun j v hv=>(hk.cell (a:=⟨w.heap.size,0+j,none⟩) (by show w.heap.size<_;omega)).trans (h.cr j v hv)
 ct:=fun j hj=>⟨by rw[hk.cell (a:=⟨w.heap.size,0+j,none⟩) (by show w.heap.size<_;omega)];exact(h.ct j hj).1,(hk.frozen (a:=⟨w.heap.size,0+j,none⟩) (by show w.heap.size<_;omega)).trans (h.ct j hj).2⟩
 lt:=aH h.lt hk.size
theorem ZAt.next{w W W':World}(h:ZAt w W)(hb:Below W.heap.size W W'):ZAt w W':=h.keep (Keep.of_below hb fun k hk=>by have:=h.lt;omega)
theorem ZAt.stored{w W:World}(h:ZAt w W)(cs:List Value)(hl:cs.length=20):∃V,V=W.setCells w.heap.size 0 cs.toArray.toList∧V.rangeAt w.heap.size 0 cs∧Keep (fun k=>k≠w.heap.size) W V∧Below w.heap.size w V∧V.heap.size=W.heap.size :=
 ⟨_,rfl,World.rangeAt_setCells_same W w.heap.size 0 cs (by rw[hl];exact h.ct),qo w.heap.size (fun h=>h rfl) cs 0 W,h.below.trans (Keep.below (qo w.heap.size (P:=fun k=>k<w.heap.size) (Nat.lt_irrefl _) cs 0 W)),Lm _ _ _ _⟩
theorem qW{W:World}{p:Nat}{cs:List Value}(hr:W.rangeAt p 0 cs)(hl:cs.length=20):(loadVar 46 ⟨p,0,none⟩).run Tryz.prog W = .ok (.agg cs.toArray) W :=
 run_loadVar_mid (P:=Tryz.prog) W p 0 46 cs _ hr Tryz.underlying46 rfl (by rw[hl];exact aZ)
theorem qX{P:Program}{W:World}(f:ResultVar→Sem Value)(r0:ResultVar)(v0:Value)(h0:(f r0).run P W = .ok v0 W):((#[r0].mapM f).run P W) = .ok #[v0] W:=by
 simp[go_sem,h0]
theorem Xr{fn:Func}{n:Nat}{T:Array Value}{W:World}{p:Nat}{cs:List Value}(hf:fn.results=#[.cell n 46])(h:T[n]?=some (.pointer (some ⟨p,0,none⟩)))(hr:W.rangeAt p 0 cs)(hl:cs.length=20):
  (results fn T).run Tryz.prog W = .ok (.agg cs.toArray) W:=by
 have hg:T.getD n undef = .pointer (some ⟨p,0,none⟩):=by rw[Array.getD_eq_getD_getElem?,h];rfl
 unfold results;rw[Sem.run_bind,hf,qX _ _ (.agg cs.toArray)]
 ·rfl
 ·show((asAddr (T.getD n undef)) >>= fun a=>loadVar 46 a).run Tryz.prog W=_;rw[hg,Sem.run_bind];simp only[asAddr,Sem.run_pure,Result.andThen_ok];exact qW hr hl
theorem fP{fn:Func}{n m:Nat}{T:Array Value}{W:World}{p:Nat}{cs:List Value}{b:Bool}(hf:fn.results=#[.cell n 46,.tmp m])(h:T[n]?=some (.pointer (some ⟨p,0,none⟩)))(hb:T[m]?=some (.bool b))(hr:W.rangeAt p 0 cs)(hl:cs.length=20):
  (results fn T).run Tryz.prog W = .ok (.tuple #[.agg cs.toArray,.bool b]) W:=by
 have hg:T.getD n undef = .pointer (some ⟨p,0,none⟩):=by rw[Array.getD_eq_getD_getElem?,h];rfl
 have hg2:T.getD m undef = .bool b:=by rw[Array.getD_eq_getD_getElem?,hb];rfl
 unfold results;rw[Sem.run_bind,hf,Sj _ _ _ (.agg cs.toArray) (.bool b)]
 ·rfl
 ·show((asAddr (T.getD n undef)) >>= fun a=>loadVar 46 a).run Tryz.prog W=_;rw[hg,Sem.run_bind];simp only[asAddr,Sem.run_pure,Result.andThen_ok];exact qW hr hl
 ·show(pure (T.getD m undef):Sem Value).run Tryz.prog W=_;rw[hg2];rfl
def PathPost(B rb:Nat)(w:World)(l:List UInt8)(bd:Bool)(e:Ending)(w':World):Prop:=∃(xs:List Int) (l':List UInt8) (dB:Bool) (A:Option Addr) (c:Nat),e = .returned (.slice A xs.length c)∧IntsIn (fun b=>w.heap.size≤b) w' A xs∧xs.length≤c∧c≤9223372036854775807∧Rdb B rb w' l' dB∧Side rb w w'∧l'.length≤l.length∧
   ((l=pathB xs++l'∧dB=bd)∨(dB=true∧¬RowAt num8 (is63) l))
theorem Xt{B rb:Nat}{w:World}{l:List UInt8}{bd:Bool}(h:Rdb B rb w l bd)(hl:l.length≤lid):Calls Tryz.prog 288 #[.pointer (some ⟨rb,0,none⟩)] w (PathPost B rb w l bd):=by
 have hrb:=h.lt;have HM:Hid (Calls Tryz.prog 287 #[.pointer (some ⟨rb,0,none⟩),.int .i64 8] w (ManyPost B rb 8 w l bd)):=hide (IL (least:=8) h (by decide) (by decide));obtain⟨i0,hi,hz0,hz1,hz2⟩:=info_parts Px;clear h;go_enter Tryz.func288,Tryz.ntmps288
 go_wp2_with(go_at_call 287;(with_reducible refine HM.out.mono ?_);rintro e w1 ⟨n,l1,b1,rfl,hn,hr,hs,hle,hx⟩;have HR:=hide hr;have HS:=hide hs;have HX:=hide hx;clear hr hs hx)
 have hl1:l1.length≤1099511627776:=by simp only[lid]at hl;omega
 go_loopw [3,5] (fun v i wr=>∃(xs:List Int) (lq:List UInt8) (bq:Bool),i = .int .i64 xs.length∧xs.length≤n∧Hid (∀a∈xs,(is63) a)∧Hid (wr.ownsRow 0 3 1 v xs.length (xs.map (.int .i64)))∧Hid (∀g,v.ownBlock=some g→w.heap.size≤g)∧
   Hid (Rdb B rb wr lq bq)∧Hid (Side rb w wr)∧lq.length≤l1.length∧Hid ((l1=(xs.map num8).flatten++lq∧bq=b1)∨(bq=true∧∃(ys:List Int) (lr:List UInt8),(∀a∈ys,(is63) a)∧l1=(ys.map num8).flatten++lr∧ys.length<n∧¬∃a l',(is63) a∧lr=num8 a++l'))) (fun _ i _=>(n-intOf i).toNat)
 case atStart=>exact⟨[],l1,b1,rfl,Nat.zero_le _,hide (by simp),hide (World.ownsRow_nil _ _ _ _),hide (by simp[Value.ownBlock]),HR,HS,aC _,hide (.inl ⟨rfl,rfl⟩)⟩
 case round =>
  obtain⟨xs,lq,bq,rfl,hle2,Hf,Ho,Hg,Hq,HS2,hlq,HC⟩:=hrel;have hwr:=HS2.out.size;by_cases hlt:xs.length<n
  ·go_wp2_with(first
    | (go_at_call 268;(with_reducible refine(BK Hq.out).mono ?_);rintro e w3 ⟨a,l2,b2,rfl,ha2,hr2,hs2,hle3,hx2⟩;have HR2:=hide hr2;have dF:=hide hs2;have gB:=hide hx2;clear hr2 hs2 hx2)
    | (at_builtin;refine BC _ rfl _ _ 38 rfl 3 i0 (.int .i64 0) 1 8 Tryz.underlying38 hi hz0 hz1 hz2 rfl (by decide) _ xs.length (xs.map (.int .i64)) rfl ((BH Ho.out (fun g hg=>by have:=Hg.out g hg;omega) dF.out).alloc _) ⟨w3.heap.size,0,none⟩ 1 1 [.int .i64 a] rfl rfl (cell_one_new _ _ _) (by intro u hu;simp at hu;subst hu;rfl) (by unfold maxLen;omega) (by omega) ?_))
   intro v' w4 hown hgrow hnil aX;have hS3:Side rb w w3:=Side.trans HS2.out dF.out;have hsz:=hS3.size;have aY:=hide hown;have eU:=hide hgrow;have Hw:=hide aX;have H3:=hide hS3;clear hown hgrow hnil aX hS3
   go_wp2
   refine⟨⟨xs++[a],l2,b2,by simp,by simp;omega,hide ?_,hide ?_,hide ?_,hide ?_,hide ?_,by omega,hide ?_⟩,by simp[intOf];omega⟩
   ·intro b hb;rcases List.mem_append.mp hb with hb|hb
    ·exact Hf.out b hb
    ·rw[List.mem_singleton]at hb;rw[hb];exact ha2
   ·have:=aY.out;simpa using this
   ·intro g hg;rcases Hw.out with e|e
    ·exact Hg.out g (e▸hg)
    ·rw[hg]at e;injection e with e;(try simp at e);omega
   ·exact(HR2.out.alloc _).grown eU.out (fun k hk=>by have:=Hg.out k hk;omega)
   ·exact Keep.grown (Side.alloc H3.out _) eU.out (fun k hk=>hk.1) (fun k hk hp=>absurd hp.1 (by have:=Hg.out k hk;omega))
   ·rcases HC.out with⟨e1,e2⟩|⟨e1,h1⟩
    ·rcases gB.out with⟨g1,g2⟩|hno
     ·refine .inl ⟨?_,by rw[g2,e2]⟩;rw[e1,g1];simp
     ·refine .inr ⟨hno.2.1,xs,lq,Hf.out,e1,hlt,PX hno.1⟩
    ·refine .inr ⟨?_,h1⟩;rcases gB.out with⟨_,g2⟩|hno
     ·rw[g2,e1]
     ·exact hno.2.1
  ·go_wp2_with fail
   obtain⟨A2,c2,rfl,hrd,hc2,hc3⟩:=CZ (S:=fun b=>w.heap.size≤b) Ho.out Hg.out;go_ret;have hnn:xs.length=n:=by omega
   refine⟨xs,lq,bq,_,_,rfl,⟨hrd,fun a ha=>Hf.out a ha,by omega⟩,hc2,hc3,Hq.out,HS2.out,by omega,?_⟩;rcases HX.out with⟨e1,e2⟩|⟨h0,e2,hno⟩
   ·rcases HC.out with⟨g1,g2⟩|⟨g1,ys,lr,q1,q2,q3,q4⟩
    ·refine .inl ⟨?_,by rw[g2,e2]⟩;rw[e1,g1,←List.append_assoc,←hnn];rfl
    ·refine .inr ⟨g1,?_⟩;rw[e1];exact Ii (fun _ _ _ _ ha hb h=>zag ha hb h) (iK (by simp only[max63];omega)) q1 q2 (by omega) q4
   ·refine .inr ⟨?_,?_⟩
    ·rcases HC.out with⟨_,g2⟩|⟨g1,_⟩
     ·rw[g2,e2]
     ·exact g1
    ·rcases hno with h8|⟨m,l2,hm,rfl,hg⟩
     ·exact Ie h8
     ·exact Ig (fun a=>Nat.le_of_eq (eY a).symm) hm hg
def TextsPost(B rb:Nat)(w:World)(l:List UInt8)(bd:Bool)(e:Ending)(w':World):Prop:=∃(xs:List ByteArray) (l':List UInt8) (dB:Bool) (A:Option Addr) (c:Nat),e = .returned (.slice A xs.length c)∧StrsIn (fun b=>w.heap.size≤b) w' A xs∧xs.length≤c∧c≤9223372036854775807∧Rdb B rb w' l' dB∧Side rb w w'∧l'.length≤l.length∧
   ((l=txtsB xs++l'∧dB=bd)∨(dB=true∧¬RowAt txtB (fun s=>s.size≤max63) l))
theorem SA{B rb:Nat}{w:World}{l:List UInt8}{bd:Bool}(h:Rdb B rb w l bd)(hl:l.length≤lid):Calls Tryz.prog 269 #[.pointer (some ⟨rb,0,none⟩)] w (TextsPost B rb w l bd):=by
 have hrb:=h.lt;have HM:Hid (Calls Tryz.prog 287 #[.pointer (some ⟨rb,0,none⟩),.int .i64 8] w (ManyPost B rb 8 w l bd)):=hide (IL (least:=8) h (by decide) (by decide));obtain⟨i0,hi,hz0,hz1,hz2⟩:=info_parts Py;clear h;go_enter Tryz.func269,Tryz.ntmps269
 go_wp2_with(go_at_call 287;(with_reducible refine HM.out.mono ?_);rintro e w1 ⟨n,l1,b1,rfl,hn,hr,hs,hle,hx⟩;have HR:=hide hr;have HS:=hide hs;have HX:=hide hx;clear hr hs hx)
 have hl1:l1.length≤1099511627776:=by simp only[lid]at hl;omega
 go_loopw [3,5] (fun v i wr=>∃(xs:List ByteArray) (lq:List UInt8) (bq:Bool),i = .int .i64 xs.length∧xs.length≤n∧Hid (∀a∈xs,(fun s=>s.size≤max63) a)∧Hid (wr.ownsRow 0 9 1 v xs.length (xs.map (.string)))∧Hid (∀g,v.ownBlock=some g→w.heap.size≤g)∧
   Hid (Rdb B rb wr lq bq)∧Hid (Side rb w wr)∧lq.length≤l1.length∧Hid ((l1=(xs.map txtB).flatten++lq∧bq=b1)∨(bq=true∧∃(ys:List ByteArray) (lr:List UInt8),(∀a∈ys,(fun s=>s.size≤max63) a)∧l1=(ys.map txtB).flatten++lr∧ys.length<n∧¬∃a l',(fun s=>s.size≤max63) a∧lr=txtB a++l'))) (fun _ i _=>(n-intOf i).toNat)
 case atStart=>exact⟨[],l1,b1,rfl,Nat.zero_le _,hide (by simp),hide (World.ownsRow_nil _ _ _ _),hide (by simp[Value.ownBlock]),HR,HS,aC _,hide (.inl ⟨rfl,rfl⟩)⟩
 case round =>
  obtain⟨xs,lq,bq,rfl,hle2,Hf,Ho,Hg,Hq,HS2,hlq,HC⟩:=hrel;have hwr:=HS2.out.size;by_cases hlt:xs.length<n
  ·go_wp2_with(first
    | (go_at_call 267;(with_reducible refine(BL Hq.out (by simp only[max63];omega)).mono ?_);rintro e w3 ⟨a,l2,b2,rfl,ha2,hr2,hs2,hle3,hx2⟩;have HR2:=hide hr2;have dF:=hide hs2;have gB:=hide hx2;clear hr2 hs2 hx2)
    | (at_builtin;refine BC _ rfl _ _ 34 rfl 9 i0 (.string ByteArray.empty) 1 16 Tryz.underlying34 hi hz0 hz1 hz2 rfl (by decide) _ xs.length (xs.map (.string)) rfl ((BH Ho.out (fun g hg=>by have:=Hg.out g hg;omega) dF.out).alloc _) ⟨w3.heap.size,0,none⟩ 1 1 [.string a] rfl rfl (cell_one_new _ _ _) (by intro u hu;simp at hu;subst hu;rfl) (by unfold maxLen;omega) (by omega) ?_))
   intro v' w4 hown hgrow hnil aX;have hS3:Side rb w w3:=Side.trans HS2.out dF.out;have hsz:=hS3.size;have aY:=hide hown;have eU:=hide hgrow;have Hw:=hide aX;have H3:=hide hS3;clear hown hgrow hnil aX hS3
   go_wp2
   refine⟨⟨xs++[a],l2,b2,by simp,by simp;omega,hide ?_,hide ?_,hide ?_,hide ?_,hide ?_,by omega,hide ?_⟩,by simp[intOf];omega⟩
   ·intro b hb;rcases List.mem_append.mp hb with hb|hb
    ·exact Hf.out b hb
    ·rw[List.mem_singleton]at hb;rw[hb];exact ha2
   ·have:=aY.out;simpa using this
   ·intro g hg;rcases Hw.out with e|e
    ·exact Hg.out g (e▸hg)
    ·rw[hg]at e;injection e with e;(try simp at e);omega
   ·exact(HR2.out.alloc _).grown eU.out (fun k hk=>by have:=Hg.out k hk;omega)
   ·exact Keep.grown (Side.alloc H3.out _) eU.out (fun k hk=>hk.1) (fun k hk hp=>absurd hp.1 (by have:=Hg.out k hk;omega))
   ·rcases HC.out with⟨e1,e2⟩|⟨e1,h1⟩
    ·rcases gB.out with⟨g1,g2⟩|hno
     ·refine .inl ⟨?_,by rw[g2,e2]⟩;rw[e1,g1];simp
     ·refine .inr ⟨hno.1,xs,lq,Hf.out,e1,hlt,hno.2⟩
    ·refine .inr ⟨?_,h1⟩;rcases gB.out with⟨_,g2⟩|hno
     ·rw[g2,e1]
     ·exact hno.1
  ·go_wp2_with fail
   obtain⟨A2,c2,rfl,hrd,hc2,hc3⟩:=CZ (S:=fun b=>w.heap.size≤b) Ho.out Hg.out;go_ret;have hnn:xs.length=n:=by omega
   refine⟨xs,lq,bq,_,_,rfl,⟨hrd,fun a ha=>Hf.out a ha,by omega⟩,hc2,hc3,Hq.out,HS2.out,by omega,?_⟩;rcases HX.out with⟨e1,e2⟩|⟨h0,e2,hno⟩
   ·rcases HC.out with⟨g1,g2⟩|⟨g1,ys,lr,q1,q2,q3,q4⟩
    ·refine .inl ⟨?_,by rw[g2,e2]⟩;rw[e1,g1,←List.append_assoc,←hnn];rfl
    ·refine .inr ⟨g1,?_⟩;rw[e1];exact Ii (fun _ _ _ _ ha hb h=>jb ha hb h) (iK (by simp only[max63];omega)) q1 q2 (by omega) q4
   ·refine .inr ⟨?_,?_⟩
    ·rcases HC.out with⟨_,g2⟩|⟨g1,_⟩
     ·rw[g2,e2]
     ·exact g1
    ·rcases hno with h8|⟨m,l2,hm,rfl,hg⟩
     ·exact Ie h8
     ·exact Ig (fun a=>by rw[uw];omega) hm hg
theorem SB :∀f:Fo,25*f.len≤(foB f).length
 | .nil=>by simp[Fo.len]
 | .cons k t n ks r=>by
  have ih:=SB r;rw[G5,aJ];have:25≤(nodeB k t n ks).length:=by
   simp only[nodeB,nodesB,List.length_cons,aJ,eY,uw];omega
  simp only[Fo.len];omega
theorem Xu{d:Nat}{n:Int}{l1:List UInt8}(hn:is63 n)(h :¬(0≤n∧n≤(l1.length:Int) / ((25:Nat):Int))):¬NodesAt d (num8 n++l1):=by
 rintro⟨f,l',hf,_,he⟩;unfold nodesB at he;rw[List.append_assoc]at he;obtain⟨e1,e2⟩:=zag hn (iK hf.2) he;have:=SB f;rw[e2,aJ]at h;refine h ⟨by omega,?_⟩;omega
theorem Rdb.setNew{B rb:Nat}{w:World}{l:List UInt8}{bd:Bool}(h:Rdb B rb w l bd){a:Addr}(ha:rb<a.block)(u:Value):Rdb B rb (w.setCell a u) l bd:=h.keep fun b hb=>Below.heap_setCell w a u b (by omega)
def NodesPostR(B rb D:Nat)(w:World)(l:List UInt8)(bd:Bool)(e:Ending)(w':World):Prop:=∃(f:Fo) (l':List UInt8) (dB:Bool) (A:Option Addr) (c:Nat),e = .returned (.slice A f.len c)∧FoIn (fun b=>w.heap.size≤b) w' A f∧f.fit∧f.len≤c∧c≤9223372036854775807∧Rdb B rb w' l' dB∧Side rb w w'∧l'.length≤l.length∧
   ((dB=false∧bd=false∧l=nodesB f++l'∧f.high≤D)∨(dB=true∧(bd=true∨¬NodesAt (41-D) l)))
def NodesMid(n D:Nat)(l1:List UInt8)(b1:Bool)(f:Fo)(lq:List UInt8)(bq:Bool):Prop :=
 (bq=false∧b1=false∧l1=foB f++lq∧f.high≤D)∨(bq=true∧(b1=true∨∃(g:Fo) (lr:List UInt8),g.fit∧l1=foB g++lr∧g.len<n∧¬NodeAt (41-D) lr))
theorem Jc{n D:Nat}{l l1 lq:List UInt8}{bd b1 bq:Bool}{f:Fo}(hn:n≤max63)(hm:NodesMid n D l1 b1 f lq bq)(hfit:f.fit)(hlen:bq=false→f.len=n)
  (hX:(l=num8 (n:Nat)++l1∧b1=bd)∨(n=0∧b1=true∧(l.length<8∨∃(m:Int) (l1:List UInt8),is63 m∧l=num8 m++l1∧¬(0≤m∧m≤(l1.length:Int) / ((25:Nat):Int))))):
  (bq=false∧bd=false∧l=nodesB f++lq∧f.high≤D)∨(bq=true∧(bd=true∨¬NodesAt (41-D) l)):=by
 rcases hm with⟨e1,e2,e3,e4⟩|⟨e1,h⟩
 ·rcases hX with⟨g1,g2⟩|⟨_,g2,_⟩
  ·refine .inl ⟨e1,by rw[←g2,e2],?_,e4⟩;rw[g1,e3,←List.append_assoc];unfold nodesB;rw[hlen e1]
  ·rw[e2]at g2;cases g2
 ·refine .inr ⟨e1,?_⟩;rcases hX with⟨g1,g2⟩|⟨_,g2,hno⟩
  ·rcases h with h|⟨g,lr,q1,q2,q3,q4⟩
   ·exact .inl (by rw[←g2,h])
   ·right;rw[g1];exact Qh (iK hn) q1 q2 (by omega) q4
  ·right;rcases hno with h8|⟨m,l2,hm,rfl,hg⟩
   ·exact Qg h8
   ·exact Xu hm hg
theorem mid_step{n D:Nat}{l1 lq la lb lc ld:List UInt8}{b1 ba bb bc be:Bool}{f ks:Fo}{x:UInt8}{s:ByteArray}{m:Int}(hD:0<D)(hm:NodesMid n D l1 b1 f lq false)(hf:f.fit)(hlt:f.len<n)(hs:s.size≤max63)(hn:is63 m)
  (h1:(lq=x::la∧ba=false)∨(lq=[]∧la=[]∧ba=true)) (h2:(la=txtB s++lb∧bb=ba)∨(bb=true∧¬TextAt la)) (h3:(lb=num8 m++lc∧bc=bb)∨(lb.length<8∧bc=true∧lc=[]))
  (h4:(be=false∧bc=false∧lc=nodesB ks++ld∧ks.high≤D-1)∨(be=true∧(bc=true∨¬NodesAt (41-(D-1)) lc))) (hD2:D≤41):NodesMid n D l1 b1 (f.app (.cons x.toNat s m ks .nil)) ld be:=by
 rcases hm with⟨_,e2,e3,e4⟩|⟨e1,_⟩
 case inr=>cases e1
 have bad:be=true→(¬NodeAt (41-D) lq)→NodesMid n D l1 b1 (f.app (.cons x.toNat s m ks .nil)) ld be:=fun hb hno=> .inr ⟨hb,.inr ⟨f,lq,hf,e3,hlt,hno⟩⟩;rcases h4 with⟨q1,q2,q3,q4⟩|⟨q1,hq⟩
 ·
  rcases h3 with⟨r1,r2⟩|⟨_,r2,_⟩
  ·rcases h2 with⟨s1,s2⟩|⟨s1,_⟩
   ·rcases h1 with⟨t1,t2⟩|⟨_,_,t2⟩
    ·refine .inl ⟨q1,e2,?_,?_⟩
     ·rw[e3,t1,s1,r1,q3,J3,G5];simp[foB,nodeB]
     ·rw[Fo.high_app];simp only[Fo.high];omega
    ·rw[←s2,←r2,q2]at t2;cases t2
   ·rw[←r2,q2]at s1;cases s1
  ·rw[q2]at r2;cases r2
 ·refine bad q1 ?_;rcases h1 with⟨t1,t2⟩|⟨t1,_,_⟩
  ·rw[t1];rcases h2 with⟨s1,s2⟩|⟨_,s1⟩
   ·rw[s1];rcases h3 with⟨r1,r2⟩|⟨r1,_,_⟩
    ·rw[r1];rcases hq with hq|hq
     ·rw[r2,s2,t2]at hq;cases hq
     ·refine Qn hs hn ?_
      rwa [show 41-D+1=41-(D-1)by omega]
    ·exact Qm hs r1
   ·exact Ql s1
  ·exact Iq (.inl t1)
theorem MN(n D:Nat)(l1:List UInt8)(b1:Bool):NodesMid n D l1 b1 .nil l1 b1:=by
 cases b1
 ·exact .inl ⟨rfl,rfl,rfl,by simp[Fo.high]⟩
 ·exact .inr ⟨rfl,.inl rfl⟩
theorem SC{D B rb:Nat}{w:World}{l:List UInt8}{bd:Bool}(hD:D≤41)(hkids:0<D→∀(w:World) (l:List UInt8) (bd:Bool),Rdb B rb w l bd→l.length≤lid→Calls Tryz.prog 289 #[.pointer (some ⟨rb,0,none⟩),.int .i64 ((D:Int)-1)] w (NodesPostR B rb (D-1) w l bd))
  (h:Rdb B rb w l bd) (hl:l.length≤lid):Calls Tryz.prog 289 #[.pointer (some ⟨rb,0,none⟩),.int .i64 D] w (NodesPostR B rb D w l bd):=by
 have hrb:=h.lt;have Eo:=hide hkids;have HM:Hid (Calls Tryz.prog 287 #[.pointer (some ⟨rb,0,none⟩),.int .i64 25] w (ManyPost B rb 25 w l bd)):=hide (IL (least:=25) h (by decide) (by decide));obtain⟨i0,hi,hz0,hz1,hz2⟩:=info_parts Pz;have hll:l.length≤1099511627776:=hl;clear h hkids hl;by_cases hD0:D=0
 ·subst hD0;go_enter Tryz.func289,Tryz.ntmps289
  go_wp2_with(go_at_call 287;(with_reducible refine HM.out.mono ?_);rintro e w1 ⟨n,l1,b1,rfl,hn,hr,hs,hle,hx⟩;obtain⟨A1,c1,k0,k1,k2,k3,_,_,_⟩:=hr.cells;have HR:=hide hr;have HS:=hide hs;have HX:=hide hx;clear hr hs hx;rcases n with _|n)
  ·go_loopw [5,7] (fun v i wr=>v = .slice none 0 0∧i = .int .i64 0∧wr=w1) (fun _ _ _=>0)
   case atStart=>exact⟨rfl,rfl,rfl⟩
   case round =>
    obtain⟨rfl,rfl,rfl⟩:=hrel
    go_wp2_with fail
    go_ret;exact⟨.nil,l1,b1,none,0,rfl,trivial,trivial,aC _,by omega,HR.out,HS.out,hle,Jc (by decide) (MN 0 0 l1 b1) trivial (fun _=>rfl) (HX.out.imp id fun h=>⟨rfl,h.2⟩)⟩
  ·go_ret;exact⟨.nil,l1,true,none,0,rfl,trivial,trivial,aC _,by omega,HR.out.setBad,HS.out.set 1 _,hle,.inr ⟨rfl,.inr (by rintro⟨f,_,_,h,_⟩;omega)⟩⟩
 ·have hD1:((D:Int) == 0)=false:=by rw[aK];omega
  go_enter Tryz.func289,Tryz.ntmps289
  go_wp2_with(go_at_call 287;(with_reducible refine HM.out.mono ?_);rintro e w1 ⟨n,l1,b1,rfl,hn,hr,hs,hle,hx⟩;have HR:=hide hr;have HS:=hide hs;have HX:=hide hx;clear hr hs hx;by_cases hn0:n=0)
  ·subst hn0
   go_loopw [5,7] (fun v i wr=>v = .slice none 0 0∧i = .int .i64 0∧wr=w1) (fun _ _ _=>0)
   case atStart=>exact⟨rfl,rfl,rfl⟩
   case round =>
    obtain⟨rfl,rfl,rfl⟩:=hrel
    go_wp2_with fail
    go_ret;exact⟨.nil,l1,b1,none,0,rfl,trivial,trivial,aC _,by omega,HR.out,HS.out,hle,Jc (by decide) (MN 0 D l1 b1) trivial (fun _=>rfl) (HX.out.imp id fun h=>⟨rfl,h.2⟩)⟩
  ·go_loopw [5,7] (fun v i wr=>∃(f:Fo) (vs:List Value) (lq:List UInt8) (bq:Bool),i = .int .i64 f.len∧f.len≤n∧Hid (NodesMid n D l1 b1 f lq bq)∧Hid f.fit∧Hid (wr.ownsRow 0 218 4 v f.len vs)∧Hid (∀g,v.ownBlock=some g→w.heap.size≤g)∧
     Hid (FoCells (fun b=>w.heap.size≤b∧v.ownBlock≠some b) wr vs f)∧Hid (Rdb B rb wr lq bq)∧Hid (Side rb w wr)∧lq.length≤l1.length) (fun _ i _=>(n-intOf i).toNat)
   case atStart=>exact⟨.nil,[],l1,b1,rfl,Nat.zero_le _,hide (MN n D l1 b1),hide trivial,hide (World.ownsRow_nil _ _ _ _),hide (by simp[Value.ownBlock]),hide rfl,HR,HS,aC _⟩
   case round =>
    obtain⟨f,vs,lq,bq,rfl,hle2,Hm,Hf,Ho,Hg,Hc,Hq,HS2,hlq⟩:=hrel;have hwr:=HS2.out.size;obtain⟨A1,c1,k0,k1,k2,k3,_,_,_⟩:=Hq.out.cells;clear k0 k2 k3;by_cases hlt:f.len<n
    ·cases bq
     ·go_wp2_with(first
       | (go_at_call 266;(with_reducible refine(IK Hq.out).mono ?_);rintro e w3 ⟨x,la,ba,rfl,hr3,hs3,hx3⟩;have HR3:=hide (hr3.alloc (.cells #[.int .u8 x.toNat,.string ⟨#[]⟩,.int .i64 0,.slice none 0 0] 218));have dF:=hide hs3;have bJ:=hide hx3;have hz3:=hs3.size;have hle3:la.length≤lq.length:=(by rcases hx3 with⟨e,_⟩|⟨_,e,_⟩<;>rw[e]<;>simp);clear hr3 hs3 hx3)
       | (go_at_call 267;(with_reducible refine(BL HR3.out (by simp only[max63];omega)).mono ?_);rintro e w4 ⟨s,lb,bb,rfl,hsz,hr4,hs4,wu,hx4⟩;obtain⟨VA,VB,VC⟩:=hs4.box (N:=w3.heap.size) (by simp) (by omega);have HR4:=hide (hr4.setNew (a:=⟨w3.heap.size,1,none⟩) (by show rb<w3.heap.size;omega) (.string s));have gu:Hid (Side rb wr (w4.setCell ⟨w3.heap.size,1,none⟩ (.string s))):=hide (Side.setNew (Side.trans (Side.alloc dF.out _) hs4) (a:=⟨w3.heap.size,1,none⟩) hz3 _);have wz:=hide hx4;clear hr4 hs4 hx4)
       | (go_at_call 268;(with_reducible refine(BK HR4.out).mono ?_);rintro e w5 ⟨m,lc,bc,rfl,hm,Jd,hs5,Ep,hx5⟩;obtain⟨VD,VE,VF⟩:=hs5.box (N:=w3.heap.size) (by simp;omega) (by omega);have Xv:=hide (Jd.setNew (a:=⟨w3.heap.size,2,none⟩) (by show rb<w3.heap.size;omega) (.int .i64 m));have jl:Hid (Side rb wr (w5.setCell ⟨w3.heap.size,2,none⟩ (.int .i64 m))):=hide (Side.setNew (Side.trans gu.out hs5) (a:=⟨w3.heap.size,2,none⟩) hz3 _);have Es:=hide hx5;have MO:=hide hm;clear Jd hs5 hx5 hm)
       | (go_at_call 289;(with_reducible refine(Eo.out (by omega) _ _ _ Xv.out (by simp only[lid];omega)).mono ?_);rintro e w6 ⟨ks,ld,be,KA,kc,rfl,hin,SE,hk1,hk2,Je,hs6,Et,hx6⟩;obtain⟨ia6,ib6,ic6⟩:=hs6.box (N:=w3.heap.size) (by simp;omega) (by omega);have Xw:=hide (Je.setNew (a:=⟨w3.heap.size,3,none⟩) (by show rb<w3.heap.size;omega) (.slice KA ks.len kc));have uJ:Hid (Side rb wr (w6.setCell ⟨w3.heap.size,3,none⟩ (.slice KA ks.len kc))):=hide (Side.setNew (Side.trans jl.out hs6) (a:=⟨w3.heap.size,3,none⟩) hz3 _);have zO:w5.heap.size≤w6.heap.size:=(by have:=hs6.size;simpa using this);have yF:=hide hx6;have yh:=hide hin;have Xx:=hide SE;clear Je hs6 hx6 hin SE)
       | (at_builtin;refine BC _ rfl _ _ 39 rfl 218 i0 (.agg #[.int .u8 0,.string ByteArray.empty,.int .i64 0,.slice none 0 0]) 4 56 Tryz.underlying39 hi hz0 hz1 hz2 rfl (by decide) _ f.len vs rfl ((BH Ho.out (fun g hg=>by have:=Hg.out g hg;omega) uJ.out).alloc _) ⟨w6.heap.size,0,none⟩ 1 1 [.int .u8 x.toNat,.string s,.int .i64 m,.slice KA ks.len kc] rfl rfl (by have:=Qi (w6.setCell ⟨w3.heap.size,3,none⟩ (.slice KA ks.len kc)) (.int .u8 x.toNat) (.string s) (.int .i64 m) (.slice KA ks.len kc) 218;simpa using this) (by intro u hu;simp at hu;rcases hu with rfl|rfl|rfl|rfl<;>rfl) (by unfold maxLen;omega) (by omega) ?_))
      intro v' w8 hown hgrow hnil aX;have hx256:=x.toNat_lt;have hS7:=uJ.out;have Xy:=hS7.size;have SG:(w6.setCell ⟨w3.heap.size,3,none⟩ (.slice KA ks.len kc)).heap.size=w6.heap.size:=by simp[World.setCell]
      have hlen1:(f.app (.cons x.toNat s m ks .nil)).len=f.len+1:=by rw[Fo.len_app];rfl
      have hc3:FoCells (fun b=>w.heap.size≤b∧v'.ownBlock≠some b) w8 (vs++[.int .u8 x.toNat,.string s,.int .i64 m,.slice KA ks.len kc]) (f.app (.cons x.toNat s m ks .nil)):=by
       refine FoCells.snoc (by omega) hsz MO.out hk1 hk2 ?_ ?_
       ·have hi2:FoIn (fun b=>w5.heap.size≤b∧b<w6.heap.size) w6 KA ks:=yh.out.mono fun b hb hS=>⟨by simpa using hS,hb⟩;refine(hi2.keep (w':=w8) fun b hb=>?_).mono fun b _ hb=>⟨by omega,fun e=>?_⟩
        ·rw[hgrow.block b (by simp;omega) (fun e=>by have:=(Ho.out.lt b e.symm).2;omega),Below.heap_alloc _ _ b (by omega)];exact Below.heap_setCell _ _ _ b (by show b≠w3.heap.size;omega)
        ·rcases aX with e2|e2
         ·have:=(Ho.out.lt b (e2▸e)).2;omega
         ·rw[e]at e2;injection e2 with e2;(try simp at e2);omega
       ·refine FoCells.keep (fun b hb hS=>?_) (fun b hb hS=>⟨hS.1,fun e=>?_⟩) Hc.out
        ·rw[hgrow.block b (by simp;omega) (fun e=>hS.2 e.symm),Below.heap_alloc _ _ b (by omega)];exact hS7.block b ⟨hb,by have:=hS.1;omega⟩
        ·rcases aX with e2|e2
         ·exact hS.2 (e2▸e)
         ·rw[e]at e2;injection e2 with e2;(try simp at e2);omega
      have Xz:=hide hc3;have aY:=hide hown;have eU:=hide hgrow;have Hw:=hide aX;clear hc3 hown hgrow hnil aX hS7
      go_wp2
      refine⟨⟨f.app (.cons x.toNat s m ks .nil),_,ld,be,by rw[hlen1];simp,by rw[hlen1];omega,hide ?_,hide ?_,hide ?_,hide ?_,hide Xz.out,hide ?_,hide ?_,by omega⟩,by simp[intOf];omega⟩
      ·exact mid_step (by omega) Hm.out Hf.out hlt hsz MO.out bJ.out wz.out Es.out yF.out hD
      ·exact Fo.fit_app.mpr ⟨Hf.out,by omega,hsz,MO.out,aI hk1 hk2,Xx.out,trivial⟩
      ·rw[hlen1];exact aY.out
      ·intro g hg;rcases Hw.out with e|e
       ·exact Hg.out g (e▸hg)
       ·rw[hg]at e;injection e with e;(try simp at e);omega
      ·exact(Xw.out.alloc _).grown eU.out (fun k hk=>by have:=Hg.out k hk;omega)
      ·exact Keep.grown (Side.alloc (Side.trans HS2.out uJ.out) _) eU.out (fun k hk=>hk.1) (fun k hk hp=>absurd hp.1 (by have:=Hg.out k hk;omega))
     ·go_wp2_with fail
      obtain⟨A2,c2,rfl,hrd,hc2,hc3⟩:=jk Ho.out Hg.out Hc.out rfl;go_ret;exact⟨f,lq,_,_,_,rfl,hrd,Hf.out,hc2,hc3,Hq.out,HS2.out,by omega,Jc (by simp only[max63];omega) Hm.out Hf.out (by first|(intro _;omega)|(intro h;cases h)) HX.out⟩
    ·go_wp2_with fail
     obtain⟨A2,c2,rfl,hrd,hc2,hc3⟩:=jk Ho.out Hg.out Hc.out rfl;go_ret;exact⟨f,lq,_,_,_,rfl,hrd,Hf.out,hc2,hc3,Hq.out,HS2.out,by omega,Jc (by simp only[max63];omega) Hm.out Hf.out (by first|(intro _;omega)|(intro h;cases h)) HX.out⟩
theorem XA(D:Nat):D≤41→∀(B rb:Nat) (w:World) (l:List UInt8) (bd:Bool),Rdb B rb w l bd→l.length≤lid→Calls Tryz.prog 289 #[.pointer (some ⟨rb,0,none⟩),.int .i64 D] w (NodesPostR B rb D w l bd):=by
 induction D with
 | zero=>exact fun hD B rb w l bd h hl=>SC hD (fun h=>absurd h (Nat.lt_irrefl _)) h hl
 | succ D ih =>
  intro hD B rb w l bd h hl;refine SC hD (fun _ w l bd h hl=>?_) h hl;have:=ih (by omega) B rb w l bd h hl;have e:(((D+1:Nat):Int)-1)=(D:Int):=by omega
  rw[e];exact this
end
end Go.Proofs.YtjjaojnglnpgaaaGreatDoor
