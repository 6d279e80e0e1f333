/- Part 16 of what scriptBack_cardUpto rests on. -/
import Derived.Laws.IdiomCopy
import Derived.Deep.RegionHeld
import Derived.Test.YtjjaojnglnpgaaaGreatDoorY05
import Derived.Test.YtjjaojnglnpgaaaGreatDoorY13
import Derived.Test.YtjjaojnglnpgaaaGreatDoorY02
import Derived.Test.YtjjaojnglnpgaaaGreatDoorY14
import Derived.Test.YtjjaojnglnpgaaaGreatDoorY04
import Derived.Test.YtjjaojnglnpgaaaGreatDoorY01
import Derived.Test.YtjjaojnglnpgaaaGreatDoorY00
set_option linter.unusedVariables false
set_option linter.unusedSimpArgs false
set_option maxHeartbeats 16000000
set_option maxRecDepth 1000000
namespace Go.Proofs.YtjjaojnglnpgaaaGreatDoor
section
open Go.RowKit
theorem GZ{P:Program}{a:Act}{op:Oper}{ty:TypeId}{x:Operand}{b o:Nat}{cs:List Value}{d:TypeDesc}{w:World}(ho:op.op = .load ty x)(hx:a.eval x = .pointer (some ⟨b,o,none⟩))(hc:w.rangeAt b o cs)
  (hu:P.underlying ty=some d) (hd:d.isRow=true) (hi:(P.info? ty).map (·.size)=some cs.length):(execOp a.eval op).run P w = .ok (.value (.agg cs.toArray)) w:=by
 unfold execOp;simp only[ho,hx,Instr.loadAt,Instr.sureAddr,Sem.run_bind,Sem.run_pure,Result.andThen_ok,run_loadVar_mid w b o ty cs d hc hu hd hi]
theorem Tu{w:World}{b o j n:Nat}{cs:List Value}(h:w.rangeAt b o cs)(u:Value)(hn:n≠b):(w.setCell ⟨n,j,none⟩ u).rangeAt b o cs:=fun i x hx =>
 (World.cell?_setCell_other _ _ _ _ (by intro e2;injection e2 with e3;exact hn e3)).trans (h i x hx)
structure Ob(w W:World):Prop where
 below:Below w.heap.size w W
 cr:W.rangeAt w.heap.size 0 aY
 ct:W.there w.heap.size 0 20
 lt:w.heap.size<W.heap.size
theorem pK(w:World):Ob w (w.alloc (.cells aY.toArray 46)):=
 ⟨az _ _,fun j v hv=>by rw[Lib.cell_of_heap (heap_alloc_new w _),Nat.zero_add];simpa using hv,fun j hj=>⟨by
  have hv:aY[j]?=some (aY[j]' hj):=List.getElem?_eq_getElem hj;rw[Lib.cell_of_heap (heap_alloc_new w _),Nat.zero_add,List.getElem?_toArray,hv];rfl,by unfold World.frozen?;rw[heap_alloc_new];rfl⟩,by simp⟩
theorem Ob.stored{w W:World}(h:Ob w W)(cs:List Value)(hl:cs.length=20):∃V,V=W.setCells w.heap.size 0 cs.toArray.toList∧V.rangeAt w.heap.size 0 cs∧Keep (fun k=>k≠w.heap.size) W V∧Below w.heap.size w V∧V.heap.size=W.heap.size :=
 ⟨_,rfl,World.rangeAt_setCells_same W w.heap.size 0 cs (by rw[hl];exact h.ct),xZ w.heap.size (fun h=>h rfl) cs 0 W,h.below.trans (Keep.below (xZ w.heap.size (P:=fun k=>k<w.heap.size) (Nat.lt_irrefl _) cs 0 W)),NC _ _ _ _⟩
theorem Oc{w:World}{s:ByteArray}(hs63:s.size≤9223372036854775807)(hmx:eP w)(htab:ax w)(hrec :∀t∈wordsOf 10 s,∀r,wordsOf 32 t=dM::r→dO 106 restRecord):Calls Tryz.prog 10 #[.string s] w (bQ w s):=by
 by_cases hbig:262144<s.size
 ·have hbi:(262144:Int)<(s.size:Int):=by omega
  go_enter Tryz.func10,Tryz.ntmps10
  go_wp2_with fail
  refine bodyPost_ret (v:= .tuple #[.slice none 0 0,.agg #[.int .i64 3,.int .i64 0]]) ?_ rfl ⟨az _ _,fun _=>rfl,fun h=>absurd h (by omega)⟩;simp[results,Tryz.results10,go_sem]
 have hs:s.size≤262144:=by omega
 have hbi :¬(262144:Int)<(s.size:Int):=by omega
 have hlen:=SY (c:=10) (s:=s) (by omega);obtain⟨n,hn⟩:∃n,n=(wordsOf 10 s).length:=⟨_,rfl⟩;have hn2:n≤262145:=by
  rw[hn,Jw];have:=Lib.countB_le ⟨#[10]⟩ (aC 1) s.size s (aC _);omega
 clear hlen;go_enter Tryz.func10,Tryz.ntmps10
 go_wp2_with(go_at_call 26;(with_reducible refine(NR 10 (by omega) (hmx.below (az _ _))).mono ?_);rintro e1 w1 ⟨rfl,rfl⟩)
 clear hn2 hn;have hws2:(wordsOf 10 s).length≤262145:=by
  rw[Jw];have:=Lib.countB_le ⟨#[10]⟩ (aC 1) s.size s (aC _);omega
 have hall :∀x∈wordsOf 10 s,x.size≤262144:=fun x hx=>aI (LK hx).1 hs;obtain⟨o1,ho1⟩:∃o1,o1=Obj.cells #[.int .i64 0,.int .i64 0] 26:=⟨_,rfl⟩;obtain⟨o2,ho2⟩:∃o2,o2=Obj.cells ((wordsOf 10 s).map .string).toArray 9:=⟨_,rfl⟩;rw[←ho1,←ho2];have hb1:=az w o1;have hb2:=az (w.alloc o1) o2;have z1:(w.alloc o1).heap.size=w.heap.size+1:=by simp
 have hz2:((w.alloc o1).alloc o2).heap.size=w.heap.size+1+1:=by simp
 have hB2:Below w.heap.size w ((w.alloc o1).alloc o2):=hb1.trans (hb2.mono (by omega));have hF:((w.alloc o1).alloc o2).heap[w.heap.size]?=some o1:=(hb2.block _ (by omega)).trans (heap_alloc_new w o1);have hR:((w.alloc o1).alloc o2).heap[w.heap.size+1]?=some o2:=by have:=heap_alloc_new (w.alloc o1) o2;rwa [z1]at this
 generalize (w.alloc o1).alloc o2=W2 at hz2 hB2 hF hR⊢;clear hb1 hb2 z1;subst ho1 ho2;have hrd:Rd (fun b=>b=w.heap.size+1) W2 (some ⟨w.heap.size+1,0,none⟩) ((wordsOf 10 s).map .string):= .inr ⟨_,0,rfl,rfl,fun j u hu=>by rw[Nat.zero_add,Lib.cell_of_heap hR];simpa using hu⟩;have HF:=hide hF;have Tv:=hide hrd;have HB2:=hide hB2;have G5:=hmx.below hB2;have Bq:=htab.below hB2;have J7:=hide G5;have ai:=hide Bq;clear hF hR hrd hB2 hmx htab G5 Bq;generalize hws:wordsOf 10 s=ws at hws2 hall Tv hrec⊢;have Oe:=hide hrec;clear hrec;have Hws:=hide hws;have jO:=hide hall;clear hws hall
 go_loopg [4,16] ws.length (fun g v i wr=>∃(q m:Nat) (l:List dh),q≤ws.length∧g=ws.length-q∧i = .int .i64 q∧m≤q∧Hid (m=l.length)∧Hid (fB W2.heap.size wr v l)∧Hid (rowsOf 0 ws=before (l.map (·.c)) (rowsOf q (ws.drop q)))∧Hid (Below W2.heap.size W2 wr))
 case atStart=>exact⟨0,0,[],by omega,by omega,rfl,by omega,hide rfl,hide (fB.nil _ _),hide (by rw[List.map_nil,QR,List.drop_zero]),hide (Below.refl _ _)⟩
 case round =>
  obtain⟨q,m,l,hq,hg,rfl,hm,Hm,HC,HP,HB⟩:=hrel;have hzr:=HB.out.size;have hfr:wr.heap[w.heap.size]?=some (.cells #[.int .i64 0,.int .i64 0] 26):=(HB.out.block _ (by omega)).trans HF.out;have Og:wr.cell? ⟨w.heap.size,0,none⟩=some (.int .i64 0):=by rw[Lib.cell_of_heap hfr];rfl
  have Oh:wr.cell? ⟨w.heap.size,1,none⟩=some (.int .i64 0):=by rw[Lib.cell_of_heap hfr];rfl
  have Tz:wr.frozen? ⟨w.heap.size,0,none⟩=false:=by unfold World.frozen?;rw[hfr];rfl
  have TA:wr.frozen? ⟨w.heap.size,1,none⟩=false:=by unfold World.frozen?;rw[hfr];rfl
  have hBw:Hid (Below w.heap.size w wr):=hide (HB2.out.trans (HB.out.mono (by omega)));clear hfr;by_cases hlt:q<ws.length
  ·have hcw:wr.cell? ⟨w.heap.size+1,q,none⟩=some (.string ws[q]):=by
    obtain⟨b,o,e,hc⟩:=Tv.out.at_ (j:=q) (by simpa using hlt);injection e with e;injection e with e1 e2;subst e1 e2;rw[Nat.zero_add]at hc;rw[HB.out.cell (p:=⟨w.heap.size+1,q,none⟩) (by show w.heap.size+1<_;omega),hc];simp
   have Oi:ws[q]∈ws:=List.getElem_mem hlt;have hdr:ws.drop q=ws[q]::ws.drop (q+1):=List.drop_eq_getElem_cons hlt;rw[hdr]at HP;generalize ws[q]=t at hcw Oi HP;have Oj:Hid (rowsOf 0 ws=before (l.map (·.c)) (rowsOf q (t::ws.drop (q+1)))):=HP;have htz:=jO.out t Oi;by_cases h0:t.size=0
   ·have ht0:t=⟨#[]⟩:=by
     apply ByteArray.ext;exact Array.eq_empty_of_size_eq_zero h0
    have HP2:Hid (rowsOf 0 ws=before (l.map (·.c)) (rowsOf (q+1) (ws.drop (q+1)))):=hide (by rw[Oj.out,AP h0]);subst ht0
    go_wp2_with fail
    go_roundg (ws.length-(q+1))
    case measure=>omega
    case rel=>exact⟨q+1,m,l,by omega,rfl,by go_num,by omega,Hm,HC,HP2,HB⟩
   ·have hne:t.toList.isEmpty=false:=by rw[Bool.eq_false_iff,ne_eq,List.isEmpty_iff,lH];omega
    have TB:Hid (Calls Tryz.prog 34 #[.string t] wr (dH wr t)):=hide (parse_any (by omega) (J7.out.below HB.out) (ai.out.below HB.out) (Oe.out t Oi));rcases hl:lineOf (wordsOf 32 t)with _|c
    ·have HX:Hid (rowsOf 0 ws = .error (q+1)):=hide (by rw[Oj.out,AQ h0 hl];rfl);have Hl:=hide hl;clear hl
     go_wp2_with(first
      | (go_at_call 34;(with_reducible refine TB.out.mono ?_);rintro e1 w1 ⟨hB1,hn1,_⟩;have he1:=hn1 Hl.out;subst he1;have zn:w.heap.size<w1.heap.size:=aH (by omega) hB1.size;have HB1:=hide hB1;clear hB1 hn1)
      | (refine wpList_store_mid rfl _ _ _ rfl w1.heap.size 0 aY.toArray rfl rfl (NW w1 aY _) mg Nj ?_;obtain⟨V,hV,hV1,hV2,nz⟩:=Tc w1 46 aY (aY) rfl;rw[←hV];have TC:=(hV2.cell (p:=⟨w.heap.size,0,none⟩) zn).trans ((HB1.out.cell (p:=⟨w.heap.size,0,none⟩) (by show w.heap.size<_;omega)).trans Og);have TD:=(hV2.cell (p:=⟨w.heap.size,1,none⟩) zn).trans ((HB1.out.cell (p:=⟨w.heap.size,1,none⟩) (by show w.heap.size<_;omega)).trans Oh);have XP:=(hV2.frozen (p:=⟨w.heap.size,0,none⟩) zn).trans ((HB1.out.frozen (p:=⟨w.heap.size,0,none⟩) (by show w.heap.size<_;omega)).trans Tz);have XQ:=(hV2.frozen (p:=⟨w.heap.size,1,none⟩) zn).trans ((HB1.out.frozen (p:=⟨w.heap.size,1,none⟩) (by show w.heap.size<_;omega)).trans TA);have TE:=hide hV1;have J8:=hide hV2;have sN:=hide nz;clear hV hV1 hV2 nz))
     refine bodyPost_ret (v:= .tuple #[.slice none 0 0,.agg #[.int .i64 210,.int .i64 ((q:Int)+1)]]) ?_ rfl ?_
     ·obtain⟨r0,r1⟩:=pz (u:= .int .i64 210) (v:= .int .i64 ((q:Int)+1)) TC TD;simp[results,Tryz.results10,go_sem,r0,r1]
     have hb4:Below w.heap.size w V:=(hBw.out.trans (HB1.out.mono (by omega))).trans (J8.out.mono (by omega));refine⟨(hb4.setCell (p:=⟨w.heap.size,0,none⟩) (aC _) _).setCell (p:=⟨w.heap.size,1,none⟩) (aC _) _,fun h=>absurd h (by omega),fun _=>⟨fun i hi=>?_,fun cs hcs=>?_⟩⟩
     ·rw[Hws.out,HX.out]at hi;injection hi with hi;subst hi;rfl
     ·rw[Hws.out,HX.out]at hcs;cases hcs
    ·have HX:Hid (rowsOf 0 ws=before ((l.map (·.c))++[c]) (rowsOf (q+1) (ws.drop (q+1)))):=hide (by rw[Oj.out,xR h0 hl,QS]);have Hl:=hide hl;have TF:Hid (wr.ownsRow W2.heap.size 46 20 _ m (l.flatMap dh.cells)):=hide (by rw[Hm.out];exact HC.out.1);clear hl
     go_wp2_with(first
      | (go_at_call 34;(with_reducible refine TB.out.mono ?_);rintro e1 w1 ⟨hB1,_,hy1⟩;obtain⟨x,A,k,he1,TG⟩:=hy1 c Hl.out;subst he1;have zn:w.heap.size<w1.heap.size:=aH (by omega) hB1.size;have HB1:=hide hB1;have XR:=hide TG;clear hB1 hy1 TG)
      | (refine wpList_store_mid rfl _ _ _ rfl w1.heap.size 0 (ak c x A k).toArray rfl rfl (NW w1 aY _) mg (NQ c x A k) ?_;obtain⟨V,hV,hV1,hV2,nz⟩:=Tc w1 46 aY (ak c x A k) rfl;rw[←hV];have TC:=(hV2.cell (p:=⟨w.heap.size,0,none⟩) zn).trans ((HB1.out.cell (p:=⟨w.heap.size,0,none⟩) (by show w.heap.size<_;omega)).trans Og);have TD:=(hV2.cell (p:=⟨w.heap.size,1,none⟩) zn).trans ((HB1.out.cell (p:=⟨w.heap.size,1,none⟩) (by show w.heap.size<_;omega)).trans Oh);have XP:=(hV2.frozen (p:=⟨w.heap.size,0,none⟩) zn).trans ((HB1.out.frozen (p:=⟨w.heap.size,0,none⟩) (by show w.heap.size<_;omega)).trans Tz);have XQ:=(hV2.frozen (p:=⟨w.heap.size,1,none⟩) zn).trans ((HB1.out.frozen (p:=⟨w.heap.size,1,none⟩) (by show w.heap.size<_;omega)).trans TA);have TE:=hide hV1;have J8:=hide hV2;have sN:=hide nz;clear hV hV1 hV2 nz)
      | (refine wpList_load_mid rfl _ _ rfl w1.heap.size 0 rfl (ak c x A k) _ TE.out Tryz.underlying46 rfl mg ?_)
      | (at_builtin;refine BQ rfl _ _ 23 rfl W2.heap.size 46 Tryz.underlying23 J4 rfl (by decide) _ m (l.flatMap dh.cells) rfl (zap TF.out (fun b hb=>((HB1.out.trans (J8.out.mono HB1.out.size)).trans ((az V _).mono (by have:=sN.out;have:=HB1.out.size;omega))).block b (zag TF.out b hb).2)) (some ⟨V.heap.size,0,none⟩) 1 1 (ak c x A k) rfl (by simp) rfl (fun ad e=>by injection e with e;subst e;intro j u hu;rw[Addr.add_lit,Nat.zero_add,Lib.cell_of_heap (heap_alloc_new V _)];simpa using hu) (NV c x A k) (by unfold maxLen;omega) (by omega) (by have:=sN.out;have:=HB1.out.size;have:=HB.out.size;simp;omega) ?_;intro v1 w4 h4 hg4 hw4;have H4:=hide h4;have J9:=hide hg4;have yP:=hide hw4;clear h4 hg4 hw4))
     have hz1:=HB1.out.size;have hz3:=sN.out;obtain⟨hin,L1,hO,hnd,hge⟩:=XR.out;have Ol:Below w1.heap.size w1 (V.alloc (.cells (ak c x A k).toArray 46)):=J8.out.trans ((az V _).mono (by omega));have hok:dh.ok (V.alloc (.cells (ak c x A k).toArray 46)) ⟨c,x,A,k⟩ L1:=dh.ok.keep (w:=w1) ⟨hO,hO.inn hin⟩ fun b hb=>Ol.block b (hO.lt b hb);have Ko:Below wr.heap.size wr (V.alloc (.cells (ak c x A k).toArray 46)):=HB1.out.trans (Ol.mono hz1);have hown:w4.ownsRow W2.heap.size 46 20 v1 (l.length+1) (l.flatMap dh.cells++dh.cells ⟨c,x,A,k⟩):=by rw[←Hm.out];exact H4.out
     have hW:jL (V.alloc (.cells (ak c x A k).toArray 46)) w4 u4 v1 l.length 1:=by rw[←Hm.out];exact yP.out
     have XT:=hide (HC.out.next Ko HB.out.size hok hnd hge hown J9.out hW);have XU:Hid (Below W2.heap.size W2 w4):=hide ((HB.out.trans (Ko.mono HB.out.size)).grown J9.out (by have:=Ko.size;omega) fun j hj=>(zag HC.out.1 j (iV.2 hj)).1);clear hin hO hnd hge hok Ko hown hW Ol
     go_roundg (ws.length-(q+1))
     case measure=>omega
     case rel=>exact⟨q+1,m+1,l++[⟨c,x,A,k⟩],by omega,rfl,by go_num,by omega,hide (by simp[Hm.out]),XT,hide (by rw[HX.out,List.map_append];rfl),XU⟩
  ·have hq2:q=ws.length:=by omega
   have hX:rowsOf 0 ws = .ok (l.map (·.c)):=by
    rw[HP.out,hq2,List.drop_length];simp[rowsOf,before]
   have HX:=hide hX;clear hX;obtain⟨r0,r1⟩:=pz (u:= .int .i64 0) (v:= .int .i64 0) Og Oh
   go_wp2_with fail
   refine bodyPost_ret (v:= .tuple #[u4,.agg #[.int .i64 0,.int .i64 0]]) ?_ rfl ?_
   ·simp[results,Tryz.results10,go_sem,r0,r1]
   refine⟨(hBw.out.setCell (p:=⟨w.heap.size,0,none⟩) (aC _) _).setCell (p:=⟨w.heap.size,1,none⟩) (aC _) _,fun h=>absurd h (by omega),fun _=>⟨fun i hi=>?_,fun cs hcs=>?_⟩⟩
   ·rw[Hws.out,HX.out]at hi;cases hi
   ·rw[Hws.out,HX.out]at hcs;injection hcs with hcs;refine⟨l,u4,hcs,rfl,((HC.out.keep fun b hb=>?_).mono (by omega))⟩;rw[Below.heap_setCell _ _ _ _ (by show b≠w.heap.size;omega),Below.heap_setCell _ _ _ _ (by show b≠w.heap.size;omega)]
end
section
open Go.RowKit
section
variable {w wx w1 : World} {us zs : List Value}
end
section
variable {S S' : Nat → Prop} {w w' : World} {A : Option Addr} {c : Nat}
end
end
section
open Go.RowKit
section
variable {P : Program} {ops : Array Oper} {Q : Exit → Act → World → Prop} {o : Oper} {rest : List Oper} {n : Nat} {L L' : List Value} {df : List Deferred} {w : World} {v : Value}
theorem sc{f:FuncId}{args:Array Value}{post:Ending→World→Prop}(hc:Calls P f args w post)(h :∀e w',post e w'→∃u,e = .returned u∧wpList P ops Q rest ⟨(L.set n u).toArray,df⟩ w')
  (he:(execOp (Act.mk L.toArray df).eval o).run P w = .ok (.enter f args) w:=by first|(go_simp;done)|(go_simp;with_reducible rfl)) (hd:o.dst=some n:=by rfl)
  (hw:Region.wanted o (yielded ops L.toArray)=true:=by rfl):wpList P ops Q (o::rest) ⟨L.toArray,df⟩ w:=by
 unfold wpList;rw[if_pos hw];refine .inl ?_;unfold Oper.wp;rw[he];show Calls P f args w _;refine Calls.mono hc fun e w' hp=>?_;obtain⟨u,rfl,h2⟩:=h e w' hp;have e2:(Act.mk L.toArray df).put o.dst u=⟨(L.set n u).toArray,df⟩:=by rw[hd];simp[Act.put]
 show wpList P ops Q rest ((Act.mk L.toArray df).put o.dst u) w';rw[e2];exact h2
theorem sl{ty:TypeId}{x:Operand}{b off:Nat}{cs:List Value}{d:TypeDesc}(h:wpList P ops Q rest ⟨L'.toArray,df⟩ w)(hc:w.rangeAt b off cs)
  (hu:P.underlying ty=some d) (hi:(P.info? ty).map (·.size)=some cs.length) (ho:o.op = .load ty x:=by rfl) (hx:(Act.mk L.toArray df).eval x = .pointer (some ⟨b,off,none⟩):=by rfl) (hd2:d.isRow=true:=by rfl) (hd:o.dst=some n:=by rfl)
  (hL:L.set n (.agg cs.toArray)=L':=by(try simp only[aA,aB]);rfl) (hw:Region.wanted o (yielded ops L.toArray)=true:=by rfl):wpList P ops Q (o::rest) ⟨L.toArray,df⟩ w :=
 sk h hd (GZ ho hx hc hu hd2 hi) hL hw
theorem st{ty:TypeId}{x y:Operand}{b off:Nat}{cells:Array Value}(h:wpList P ops Q rest ⟨L.toArray,df⟩ (w.setCells b off cells.toList))(ht:w.there b off cells.size)(hi:(P.info? ty).map (·.size)=some cells.size)(h1:cells.all (·.oneCell')=true)
  (ho:o.op = .store ty x y:=by rfl) (hx:(Act.mk L.toArray df).eval x = .pointer (some ⟨b,off,none⟩):=by rfl) (hy:(Act.mk L.toArray df).eval y = .agg cells:=by rfl) (hd:o.dst=none:=by rfl)
  (hw:Region.wanted o (yielded ops L.toArray)=true:=by rfl):wpList P ops Q (o::rest) ⟨L.toArray,df⟩ w:=by
 unfold wpList;rw[if_pos hw];refine .inl (wp_store_mid ty x y ho b off cells hx hy ht hi h1 ?_);rw[hd];exact h
theorem sw{w':World}(h:wpList P ops Q rest ⟨L'.toArray,df⟩ w')(hd:o.dst=some n:=by rfl)
  (hy:(execOp (Act.mk L.toArray df).eval o).run P w = .ok (.value v) w':=by first|(go_simp;done)|(go_simp;with_reducible rfl)|(go_simp;exact⟨rfl,rfl⟩))
  (hL:L.set n v=L':=by(try simp only[aA,aB]);rfl)
  (hw:Region.wanted o (yielded ops L.toArray)=true:=by rfl):wpList P ops Q (o::rest) ⟨L.toArray,df⟩ w:=by
 unfold wpList;rw[if_pos hw];refine .inl ?_;unfold Oper.wp;rw[hy];have e:(Act.mk L.toArray df).put o.dst v=⟨L'.toArray,df⟩:=by rw[hd,←hL];simp[Act.put]
 show wpList P ops Q rest ((Act.mk L.toArray df).put o.dst v) w';rw[e];exact h
end
end
section
open Go.RowKit
section
variable {P : Program} {ops : Array Oper} {Q : Exit → Act → World → Prop} {md : Region.Mode} {S : World → Prop} {o : Oper} {fuel n : Nat} {listed : Array Bool} {L L' : List Value} {df : List Deferred} {w w' : World} {v : Value} {K : Act → World → Prop} {i j k : Nat} {a : Act}
abbrev Next(P:Program)(md:Region.Mode)(ops:Array Oper)(Q:Exit→Act→World→Prop)(S:World→Prop)(fuel:Nat)(listed:Array Bool)(a:Act)(w:World):Prop:=S w∧wpAnyH P md ops Q S fuel listed a w
theorem G6(i:Nat)(h:wpOp P ops Q i (fun a' w'=>Next P md ops Q S fuel (listed.setIfInBounds i true) a' w') a w)(hr:Region.ready md ops listed=[i]:=by kernel_rfl):wpAnyH P md ops Q S (fuel+1) listed a w :=
 ⟨fun e=>(by rw[hr]at e;cases e),fun x hx=>by rw[hr,List.mem_singleton]at hx;subst hx;exact h⟩
theorem bc{f:FuncId}{args:Array Value}{post:Ending→World→Prop}(hc:Calls P f args w post)(h :∀e w',post e w'→∃u,e = .returned u∧K ⟨(L.set n u).toArray,df⟩ w')
  (hi:ops[i]?=some o:=by rfl) (he:(execOp (Act.mk L.toArray df).eval o).run P w = .ok (.enter f args) w:=by first|(go_simp;done)|(go_simp;with_reducible rfl)) (hd:o.dst=some n:=by rfl)
  (hw:Region.wanted o (yielded ops L.toArray)=true:=by rfl):wpOp P ops Q i K ⟨L.toArray,df⟩ w:=by
 unfold wpOp;simp only[hi];rw[if_pos hw];refine .inl ?_;unfold Oper.wp;rw[he];show Calls P f args w _;refine Calls.mono hc fun e w' hp=>?_;obtain⟨u,rfl,h2⟩:=h e w' hp;have e2:(Act.mk L.toArray df).put o.dst u=⟨(L.set n u).toArray,df⟩:=by rw[hd];simp[Act.put]
 show K ((Act.mk L.toArray df).put o.dst u) w';rw[e2];exact h2
theorem bw(h:K ⟨L'.toArray,df⟩ w')(hi:ops[i]?=some o:=by rfl)(hd:o.dst=some n:=by rfl)
  (hy:(execOp (Act.mk L.toArray df).eval o).run P w = .ok (.value v) w':=by first|(go_simp;done)|(go_simp;with_reducible rfl)|(go_simp;exact⟨rfl,rfl⟩))
  (hL:L.set n v=L':=by(try simp only[aA,aB]);rfl)
  (hw:Region.wanted o (yielded ops L.toArray)=true:=by rfl):wpOp P ops Q i K ⟨L.toArray,df⟩ w:=by
 unfold wpOp;simp only[hi];rw[if_pos hw];refine .inl ?_;unfold Oper.wp;rw[hy];have e:(Act.mk L.toArray df).put o.dst v=⟨L'.toArray,df⟩:=by rw[hd,←hL];simp[Act.put]
 show K ((Act.mk L.toArray df).put o.dst v) w';rw[e];exact h
end
end
section
open Go.RowKit
theorem Dv:isWord {data:=#[]}=false:=by
 have h:(ByteArray.toList {data:=#[]}).isEmpty=true:=by rw[List.isEmpty_iff,lH];decide
 unfold isWord;rw[h];rfl
theorem vX{w:World}{P R:Nat}{r:Bool}{s:ByteArray}(hr:w.cell? ⟨R,0,none⟩=some (.bool r))(hf:w.frozen? ⟨R,0,none⟩=false):
  Calls Tryz.prog 44 #[.bool false,.string s,.pointer (some ⟨P,0,none⟩),.pointer (some ⟨R,0,none⟩)] w fun e w'=>e = .returned (.tuple #[])∧w'=w.setCell ⟨R,0,none⟩ (.bool (r && decide (s.size=0))):=by
 rcases r with _|_
 ·go_enter Tryz.func44,Tryz.ntmps44
  go_wp2_with fail
  all_goals go_end0
  exact⟨rfl,rfl⟩
 ·by_cases h0:s.size=0
  ·have hs:s=⟨#[]⟩:=ByteArray.ext (Array.eq_empty_of_size_eq_zero h0);subst hs;go_enter Tryz.func44,Tryz.ntmps44
   go_wp2_with(go_at_call 42;(with_reducible refine(CB _ _).mono ?_);rintro e1 w1 ⟨rfl,rfl⟩;rw[Dv])
   all_goals go_end0
   exact⟨rfl,rfl⟩
  ·have hne:s.toList.isEmpty=false:=by rw[Bool.eq_false_iff,ne_eq,List.isEmpty_iff,lH];omega
   have hd:decide (s.size=0)=false:=by simp[h0]
   rcases hw:isWord s with _|_
   all_goals
    go_enter Tryz.func44,Tryz.ntmps44
    go_wp2_with(go_at_call 42;(with_reducible refine(CB _ _).mono ?_);rintro e1 w1 ⟨rfl,rfl⟩;rw[hw])
    all_goals go_end0
    exact⟨rfl,by rw[hd];rfl⟩
theorem TI{w:World}{b:Nat}{p:Nat×ByteArray}(hT:jW w b)(hp:p∈dS):(Instr.lookup 100 (.map (some b)) (.int .u8 p.1) true).run Tryz.prog w = .ok (.tuple #[lS p,.bool true]) w:=by
 obtain⟨es,clock,hb,F,_,hD⟩:=hT;have hlt:p.1<256:=by
  simp only[dS,List.mem_cons,List.not_mem_nil,or_false]at hp;rcases hp with rfl|rfl|rfl|rfl|rfl|rfl|rfl|rfl|rfl<;>decide
 have hk:=vK (p.1:Int) (by
  simp only[dS,List.mem_cons,List.not_mem_nil,or_false]at hp;rcases hp with rfl|rfl|rfl|rfl|rfl|rfl|rfl|rfl|rfl<;>decide)
 have hz:(zeroValue 98).run Tryz.prog w = .ok (.agg #[.string {data:=#[]},.nilFunc]) w:=by kernel_rfl
 have hat :∀zd,iK.atKey (.int .u8 (p.1:Int)) zd = .lit (.int .u8 (p.1:Int)):=fun zd=>by
  rw[Nw];simp only[dS,List.mem_cons,List.not_mem_nil,or_false]at hp;rcases hp with rfl|rfl|rfl|rfl|rfl|rfl|rfl|rfl|rfl<;>rfl
 rw[hD]at hat;rcases Maps.fit_look true jw Tryz.underlying100 hz hb F hk with⟨_,_,hh⟩|⟨e0,y,_,_,hrun,hRv,Dw,_⟩
 ·have h1:=hh (.lit (.bool false));rw[hat]at h1;cases h1
 ·obtain⟨⟨q,hq⟩,hv⟩:=Nv hRv;have hv:e0.val=lS q:=hv;have hy:=Option.some.inj ((sH hq).symm.trans (hv▸hRv));have hqp:(p.1:Int)=(q.1:Int):=by
   have h1:=Dw (.lit (.bool false));have h2:DataW.lit (Lit.int .u8 (p.1:Int))=y.1:=(hat _).symm.trans h1;rw[←hy]at h2;exact(Lit.int.inj (DataW.lit.inj h2)).2
  have hpq:p.1=q.1:=by omega
  have h2:p.2=q.2:=Ny (k:=p.1) (show(p.1,p.2)∈dS from hp) (by rw[hpq];exact hq);have h3:p=q:=Prod.ext hpq h2;subst h3;rw[hv]at hrun
  simpa only[if_true]using hrun
theorem pM(e:Ed):(gV e).length=1+(di e.path).length+8+8+(aP e.frm).length+(aP e.to).length+(aS e.old).length+(aS e.new).length:=by
 simp only[gV,List.length_cons,aJ,fD];omega
theorem vY{S P:Nat→Prop}{wb:Nat}{w:World}{l:List UInt8}{x:Eh}{e:Ed}(h:Buf P wb w l)(he:dD S w x e)(hS :∀b,S b→P b)(hlen:l.length+(gV e).length≤lid):
  Calls Tryz.prog 180 #[.pointer (some ⟨wb,0,none⟩),.agg #[.int .u8 e.kind,.slice x.pA e.path.length x.pc,.int .i64 e.at_,.int .i64 e.far,.string e.frm,.string e.to,.slice x.oA e.old.len x.oc,.slice x.nA e.new.len x.nc]] w fun e1 w'=>e1 = .returned (.tuple #[])∧Buf P wb w' (l++gV e)∧Keep P w w':=by
 have H:=hide h;have HS:=hide hS;have bK:=hide he.path;have hk:=he.kind;have iH:Hid (aT e.at_):=hide he.at_;have dP:Hid (aT e.far):=hide he.far;have iJ:=he.frm;have hto:=he.to;have bT:=hide he.old;have dQ:=hide he.new;have ho:=aI he.oc.1 he.oc.2;have hn:=aI he.nc.1 he.nc.2;have yO :∀o,Hid (Buf (fun b=>P b∨b=w.heap.size) wb (w.alloc o) l):=fun o=>hide (h.box o);have hsz:=h.lt;rw[pM]at hlen;have HK :∀o,Hid (Keep P w (w.alloc o)):=fun o=>hide ((Keep.refl P w).alloc h.lts o);clear h hS he;go_enter Tryz.func180,Tryz.ntmps180
 go_wp2_with(first
  | (go_at_call 176;(with_reducible refine(FY (yO _).out (by simp) rfl hk (by omega)).mono ?_);rintro e w1 ⟨rfl,hb,hB⟩;have HB1:=hide hb;have HW1:=hide (hB);have Kq:=hide ((HK _).out.trans (Keep.mono (P:=P) (hB) fun b hb=> .inl hb));obtain⟨hc1,hf1⟩:=hB.box (N:=w.heap.size) (.inr rfl);have hz1:w.heap.size<w1.heap.size:=hb.lts _ (.inr rfl);clear hb hB)
  | (go_at_call 225;(with_reducible refine(VK HB1.out (bK.out.keep (Buf.keepIn HS.out Kq.out)) (fun b hb=> .inl (HS.out b hb)) (by simp only[aJ,List.length_cons,List.length_nil,fD];omega)).mono ?_);rintro e w2 ⟨rfl,hb,hB⟩;have HB2:=hide hb;have HW2:=hide (HW1.out.trans hB);have Kr:=hide ((HK _).out.trans (Keep.mono (P:=P) (HW1.out.trans hB) fun b hb=> .inl hb));obtain⟨hc2,hf2⟩:=hB.box (N:=w.heap.size) (.inr rfl);have hz2:w.heap.size<w2.heap.size:=hb.lts _ (.inr rfl);clear hb hB)
  | (go_at_call 178;(with_reducible refine(yA HB2.out iH.out (by simp only[aJ,List.length_cons,List.length_nil,fD];omega)).mono ?_);rintro e w3 ⟨rfl,hb,hB⟩;have HB3:=hide hb;have HW3:=hide (HW2.out.trans hB);have EO:=hide ((HK _).out.trans (Keep.mono (P:=P) (HW2.out.trans hB) fun b hb=> .inl hb));obtain⟨hc3,hf3⟩:=hB.box (N:=w.heap.size) (.inr rfl);have hz3:w.heap.size<w3.heap.size:=hb.lts _ (.inr rfl);clear hb hB)
  | (go_at_call 178;(with_reducible refine(yA HB3.out dP.out (by simp only[aJ,List.length_cons,List.length_nil,fD];omega)).mono ?_);rintro e w4 ⟨rfl,hb,hB⟩;have HB4:=hide hb;have yP:=hide (HW3.out.trans hB);have TJ:=hide ((HK _).out.trans (Keep.mono (P:=P) (HW3.out.trans hB) fun b hb=> .inl hb));obtain⟨hc4,hf4⟩:=hB.box (N:=w.heap.size) (.inr rfl);have jH:w.heap.size<w4.heap.size:=hb.lts _ (.inr rfl);clear hb hB)
  | (go_at_call 177;(with_reducible refine(AU HB4.out iJ (by simp only[aJ,List.length_cons,List.length_nil,fD];omega)).mono ?_);rintro e w5 ⟨rfl,hb,hB⟩;have dV:=hide hb;have EP:=hide (yP.out.trans hB);have TK:=hide ((HK _).out.trans (Keep.mono (P:=P) (yP.out.trans hB) fun b hb=> .inl hb));obtain⟨hc5,hf5⟩:=hB.box (N:=w.heap.size) (.inr rfl);have yf:w.heap.size<w5.heap.size:=hb.lts _ (.inr rfl);clear hb hB)
  | (go_at_call 177;(with_reducible refine(AU dV.out hto (by simp only[aJ,List.length_cons,List.length_nil,fD];omega)).mono ?_);rintro e w6 ⟨rfl,hb,hB⟩;have ng:=hide hb;have TL:=hide (EP.out.trans hB);have XV:=hide ((HK _).out.trans (Keep.mono (P:=P) (EP.out.trans hB) fun b hb=> .inl hb));obtain⟨hc6,Om⟩:=hB.box (N:=w.heap.size) (.inr rfl);have Dp:w.heap.size<w6.heap.size:=hb.lts _ (.inr rfl);clear hb hB)
  | (go_at_call 226;(with_reducible refine(Q5 ng.out (bT.out.keep (Buf.keepIn HS.out XV.out)) (fun b hb=> .inl (HS.out b hb)) ho (by simp only[aJ,List.length_cons,List.length_nil,fD];omega)).mono ?_);rintro e w7 ⟨rfl,hb,hB⟩;have kF:=hide hb;have TM:=hide (TL.out.trans hB);have XW:=hide ((HK _).out.trans (Keep.mono (P:=P) (TL.out.trans hB) fun b hb=> .inl hb));obtain⟨Dl,hf7⟩:=hB.box (N:=w.heap.size) (.inr rfl);have TN:w.heap.size<w7.heap.size:=hb.lts _ (.inr rfl);clear hb hB)
  | (go_at_call 226;(with_reducible refine(Q5 kF.out (dQ.out.keep (Buf.keepIn HS.out XW.out)) (fun b hb=> .inl (HS.out b hb)) hn (by simp only[aJ,List.length_cons,List.length_nil,fD];omega)).mono ?_);rintro e w8 ⟨rfl,hb,hB⟩;have sS:=hide hb;have Oo:=hide (TM.out.trans hB);have XX:=hide ((HK _).out.trans (Keep.mono (P:=P) (TM.out.trans hB) fun b hb=> .inl hb));obtain⟨hc8,NJ⟩:=hB.box (N:=w.heap.size) (.inr rfl);have hz8:w.heap.size<w8.heap.size:=hb.lts _ (.inr rfl);clear hb hB))
 go_end0
 refine⟨rfl,?_,XX.out⟩;have:=sS.out.mono (P:=P) fun b hb=> .inl hb
 simpa[gV,List.append_assoc]using this
theorem XY{S P:Nat→Prop}{wb:Nat}{w:World}{l:List UInt8}{x:Ph}{p:Pt}(h:Buf P wb w l)(hp:aV S w x p)(hS :∀b,S b→P b)(hlen:l.length+(UInt8.ofNat 3::(aP p.file++(au p.hunk.at_++(bC p.hunk.old++bC p.hunk.new)))).length≤lid):
  Calls Tryz.prog 115 #[.pointer (some ⟨wb,0,none⟩),.agg #[.int .u8 3,.string p.file,.string p.text,.int .i64 p.hunk.at_,.slice x.h.oA p.hunk.old.length x.h.oc,.slice x.h.nA p.hunk.new.length x.h.nc,.int .u8 p.edit.kind,.slice x.e.pA p.edit.path.length x.e.pc,.int .i64 p.edit.at_,.int .i64 p.edit.far,.string p.edit.frm,.string p.edit.to,.slice x.e.oA p.edit.old.len x.e.oc,.slice x.e.nA p.edit.new.len x.e.nc]] w fun e1 w'=>e1 = .returned (.tuple #[])∧Buf P wb w' (l++UInt8.ofNat 3::(aP p.file++(au p.hunk.at_++(bC p.hunk.old++bC p.hunk.new))))∧Keep P w w':=by
 have H:=hide h;have HS:=hide hS;have Hp:=hide hp;have hk:3<256:=by omega
 have iH:Hid (aT p.hunk.at_):=hide hp.hunk.at_;have gp:=hp.file;have htext:=hp.text;have yO :∀o,Hid (Buf (fun b=>P b∨b=w.heap.size) wb (w.alloc o) l):=fun o=>hide (h.box o);have hsz:=h.lt;simp only[aJ,List.length_cons,fD]at hlen;have HK :∀o,Hid (Keep P w (w.alloc o)):=fun o=>hide ((Keep.refl P w).alloc h.lts o);clear h hS hp;go_enter Tryz.func115,Tryz.ntmps115
 go_wp2_with(first
  | (go_at_call 176;(with_reducible refine(FY (k:=3) (yO _).out (by simp) (by simp) hk (by omega)).mono ?_);rintro e w1 ⟨rfl,hb,hB⟩;have HB1:=hide hb;have HW1:=hide (hB);have Kq:=hide ((HK _).out.trans (Keep.mono (P:=P) (hB) fun b hb=> .inl hb));obtain⟨hc1,hf1⟩:=hB.box (N:=w.heap.size) (.inr rfl);have hz1:w.heap.size<w1.heap.size:=hb.lts _ (.inr rfl);clear hb hB)
  | (go_at_call 177;(with_reducible refine(AU HB1.out gp (by simp only[aJ,List.length_cons,List.length_nil,fD];omega)).mono ?_);rintro e w2 ⟨rfl,hb,hB⟩;have HB2:=hide hb;have HW2:=hide (HW1.out.trans hB);have Kr:=hide ((HK _).out.trans (Keep.mono (P:=P) (HW1.out.trans hB) fun b hb=> .inl hb));obtain⟨hc2,hf2⟩:=hB.box (N:=w.heap.size) (.inr rfl);have hz2:w.heap.size<w2.heap.size:=hb.lts _ (.inr rfl);clear hb hB)
  | (go_at_call 178;(with_reducible refine(yA HB2.out iH.out (by simp only[aJ,List.length_cons,List.length_nil,fD];omega)).mono ?_);rintro e w3 ⟨rfl,hb,hB⟩;have HB3:=hide hb;have HW3:=hide (HW2.out.trans hB);have EO:=hide ((HK _).out.trans (Keep.mono (P:=P) (HW2.out.trans hB) fun b hb=> .inl hb));obtain⟨hc3,hf3⟩:=hB.box (N:=w.heap.size) (.inr rfl);have hz3:w.heap.size<w3.heap.size:=hb.lts _ (.inr rfl);clear hb hB)
  | (go_at_call 179;(with_reducible refine(Q4 HB3.out (Hp.out.hunk.old.keep (Buf.keepIn HS.out EO.out)) (fun b hb=> .inl (HS.out b hb)) (by simp only[aJ,List.length_cons,List.length_nil,fD];omega)).mono ?_);rintro e w4 ⟨rfl,hb,hB⟩;have HB4:=hide hb;have yP:=hide (HW3.out.trans hB);have TJ:=hide ((HK _).out.trans (Keep.mono (P:=P) (HW3.out.trans hB) fun b hb=> .inl hb));obtain⟨hc4,hf4⟩:=hB.box (N:=w.heap.size) (.inr rfl);have jH:w.heap.size<w4.heap.size:=hb.lts _ (.inr rfl);clear hb hB)
  | (go_at_call 179;(with_reducible refine(Q4 HB4.out (Hp.out.hunk.new.keep (Buf.keepIn HS.out TJ.out)) (fun b hb=> .inl (HS.out b hb)) (by simp only[aJ,List.length_cons,List.length_nil,fD];omega)).mono ?_);rintro e w5 ⟨rfl,hb,hB⟩;have dV:=hide hb;have EP:=hide (yP.out.trans hB);have TK:=hide ((HK _).out.trans (Keep.mono (P:=P) (yP.out.trans hB) fun b hb=> .inl hb));obtain⟨hc5,hf5⟩:=hB.box (N:=w.heap.size) (.inr rfl);have yf:w.heap.size<w5.heap.size:=hb.lts _ (.inr rfl);clear hb hB))
 go_end0
 refine⟨rfl,?_,TK.out⟩;have:=dV.out.mono (P:=P) fun b hb=> .inl hb
 simpa[List.append_assoc]using this
theorem XZ{S P:Nat→Prop}{wb:Nat}{w:World}{l:List UInt8}{x:Ph}{p:Pt}(h:Buf P wb w l)(hp:aV S w x p)(hS :∀b,S b→P b)(hlen:l.length+(UInt8.ofNat 4::(aP p.file++gV p.edit)).length≤lid):
  Calls Tryz.prog 115 #[.pointer (some ⟨wb,0,none⟩),.agg #[.int .u8 4,.string p.file,.string p.text,.int .i64 p.hunk.at_,.slice x.h.oA p.hunk.old.length x.h.oc,.slice x.h.nA p.hunk.new.length x.h.nc,.int .u8 p.edit.kind,.slice x.e.pA p.edit.path.length x.e.pc,.int .i64 p.edit.at_,.int .i64 p.edit.far,.string p.edit.frm,.string p.edit.to,.slice x.e.oA p.edit.old.len x.e.oc,.slice x.e.nA p.edit.new.len x.e.nc]] w fun e1 w'=>e1 = .returned (.tuple #[])∧Buf P wb w' (l++UInt8.ofNat 4::(aP p.file++gV p.edit))∧Keep P w w':=by
 have H:=hide h;have HS:=hide hS;have Hp:=hide hp;have hk:4<256:=by omega
 have iH:Hid (aT p.hunk.at_):=hide hp.hunk.at_;have gp:=hp.file;have htext:=hp.text;have yO :∀o,Hid (Buf (fun b=>P b∨b=w.heap.size) wb (w.alloc o) l):=fun o=>hide (h.box o);have hsz:=h.lt;simp only[aJ,List.length_cons,fD]at hlen;have HK :∀o,Hid (Keep P w (w.alloc o)):=fun o=>hide ((Keep.refl P w).alloc h.lts o);clear h hS hp;go_enter Tryz.func115,Tryz.ntmps115
 go_wp2_with(first
  | (go_at_call 176;(with_reducible refine(FY (k:=4) (yO _).out (by simp) (by simp) hk (by omega)).mono ?_);rintro e w1 ⟨rfl,hb,hB⟩;have HB1:=hide hb;have HW1:=hide (hB);have Kq:=hide ((HK _).out.trans (Keep.mono (P:=P) (hB) fun b hb=> .inl hb));obtain⟨hc1,hf1⟩:=hB.box (N:=w.heap.size) (.inr rfl);have hz1:w.heap.size<w1.heap.size:=hb.lts _ (.inr rfl);clear hb hB)
  | (go_at_call 177;(with_reducible refine(AU HB1.out gp (by simp only[aJ,List.length_cons,List.length_nil,fD];omega)).mono ?_);rintro e w2 ⟨rfl,hb,hB⟩;have HB2:=hide hb;have HW2:=hide (HW1.out.trans hB);have Kr:=hide ((HK _).out.trans (Keep.mono (P:=P) (HW1.out.trans hB) fun b hb=> .inl hb));obtain⟨hc2,hf2⟩:=hB.box (N:=w.heap.size) (.inr rfl);have hz2:w.heap.size<w2.heap.size:=hb.lts _ (.inr rfl);clear hb hB)
  | (go_at_call 180;(with_reducible refine(vY HB2.out (Hp.out.edit.keep (Buf.keepIn HS.out Kr.out)) (fun b hb=> .inl (HS.out b hb)) (by simp only[aJ,List.length_cons,List.length_nil,fD];omega)).mono ?_);rintro e w3 ⟨rfl,hb,hB⟩;have HB3:=hide hb;have HW3:=hide (HW2.out.trans hB);have EO:=hide ((HK _).out.trans (Keep.mono (P:=P) (HW2.out.trans hB) fun b hb=> .inl hb));obtain⟨hc3,hf3⟩:=hB.box (N:=w.heap.size) (.inr rfl);have hz3:w.heap.size<w3.heap.size:=hb.lts _ (.inr rfl);clear hb hB))
 go_end0
 refine⟨rfl,?_,EO.out⟩;have:=HB3.out.mono (P:=P) fun b hb=> .inl hb
 simpa[List.append_assoc]using this
theorem X4{S P:Nat→Prop}{wb:Nat}{w:World}{l:List UInt8}{x:Ph}{p:Pt}(h:Buf P wb w l)(hp:aV S w x p)(hS :∀b,S b→P b)(h3 :¬(p.kind:Int)=3)(h4 :¬(p.kind:Int)=4)(hlen:l.length+(UInt8.ofNat p.kind::(aP p.file++aP p.text)).length≤lid):
  Calls Tryz.prog 115 #[.pointer (some ⟨wb,0,none⟩),.agg #[.int .u8 p.kind,.string p.file,.string p.text,.int .i64 p.hunk.at_,.slice x.h.oA p.hunk.old.length x.h.oc,.slice x.h.nA p.hunk.new.length x.h.nc,.int .u8 p.edit.kind,.slice x.e.pA p.edit.path.length x.e.pc,.int .i64 p.edit.at_,.int .i64 p.edit.far,.string p.edit.frm,.string p.edit.to,.slice x.e.oA p.edit.old.len x.e.oc,.slice x.e.nA p.edit.new.len x.e.nc]] w fun e1 w'=>e1 = .returned (.tuple #[])∧Buf P wb w' (l++UInt8.ofNat p.kind::(aP p.file++aP p.text))∧Keep P w w':=by
 have H:=hide h;have HS:=hide hS;have Hp:=hide hp;have hk:p.kind<256:=by exact hp.kind
 have iH:Hid (aT p.hunk.at_):=hide hp.hunk.at_;have gp:=hp.file;have htext:=hp.text;have yO :∀o,Hid (Buf (fun b=>P b∨b=w.heap.size) wb (w.alloc o) l):=fun o=>hide (h.box o);have hsz:=h.lt;simp only[aJ,List.length_cons,fD]at hlen;have HK :∀o,Hid (Keep P w (w.alloc o)):=fun o=>hide ((Keep.refl P w).alloc h.lts o);clear h hS hp;go_enter Tryz.func115,Tryz.ntmps115
 go_wp2_with(first
  | (go_at_call 176;(with_reducible refine(FY (k:=p.kind) (yO _).out (by simp) (by simp) hk (by omega)).mono ?_);rintro e w1 ⟨rfl,hb,hB⟩;have HB1:=hide hb;have HW1:=hide (hB);have Kq:=hide ((HK _).out.trans (Keep.mono (P:=P) (hB) fun b hb=> .inl hb));obtain⟨hc1,hf1⟩:=hB.box (N:=w.heap.size) (.inr rfl);have hz1:w.heap.size<w1.heap.size:=hb.lts _ (.inr rfl);clear hb hB)
  | (go_at_call 177;(with_reducible refine(AU HB1.out gp (by simp only[aJ,List.length_cons,List.length_nil,fD];omega)).mono ?_);rintro e w2 ⟨rfl,hb,hB⟩;have HB2:=hide hb;have HW2:=hide (HW1.out.trans hB);have Kr:=hide ((HK _).out.trans (Keep.mono (P:=P) (HW1.out.trans hB) fun b hb=> .inl hb));obtain⟨hc2,hf2⟩:=hB.box (N:=w.heap.size) (.inr rfl);have hz2:w.heap.size<w2.heap.size:=hb.lts _ (.inr rfl);clear hb hB)
  | (go_at_call 177;(with_reducible refine(AU HB2.out htext (by simp only[aJ,List.length_cons,List.length_nil,fD];omega)).mono ?_);rintro e w3 ⟨rfl,hb,hB⟩;have HB3:=hide hb;have HW3:=hide (HW2.out.trans hB);have EO:=hide ((HK _).out.trans (Keep.mono (P:=P) (HW2.out.trans hB) fun b hb=> .inl hb));obtain⟨hc3,hf3⟩:=hB.box (N:=w.heap.size) (.inr rfl);have hz3:w.heap.size<w3.heap.size:=hb.lts _ (.inr rfl);clear hb hB))
 go_end0
 refine⟨rfl,?_,EO.out⟩;have:=HB3.out.mono (P:=P) fun b hb=> .inl hb
 simpa[List.append_assoc]using this
theorem qX{S P:Nat→Prop}{wb:Nat}{w:World}{l:List UInt8}{x:Ph}{p:Pt}(h:Buf P wb w l)(hp:aV S w x p)(hS :∀b,S b→P b)(hlen:l.length+(dX p).length≤lid):
  Calls Tryz.prog 115 #[.pointer (some ⟨wb,0,none⟩),.agg #[.int .u8 p.kind,.string p.file,.string p.text,.int .i64 p.hunk.at_,.slice x.h.oA p.hunk.old.length x.h.oc,.slice x.h.nA p.hunk.new.length x.h.nc,.int .u8 p.edit.kind,.slice x.e.pA p.edit.path.length x.e.pc,.int .i64 p.edit.at_,.int .i64 p.edit.far,.string p.edit.frm,.string p.edit.to,.slice x.e.oA p.edit.old.len x.e.oc,.slice x.e.nA p.edit.new.len x.e.nc]] w fun e1 w'=>e1 = .returned (.tuple #[])∧Buf P wb w' (l++dX p)∧Keep P w w':=by
 by_cases h3:p.kind=3
 ·have he:dX p=UInt8.ofNat 3::(aP p.file++(au p.hunk.at_++(bC p.hunk.old++bC p.hunk.new))):=by unfold dX;rw[if_pos h3,h3]
  rw[he]at hlen⊢;rw[h3];exact XY h hp hS hlen
 ·by_cases h4:p.kind=4
  ·have he:dX p=UInt8.ofNat 4::(aP p.file++gV p.edit):=by unfold dX;rw[if_neg h3,if_pos h4,h4]
   rw[he]at hlen⊢;rw[h4];exact XZ h hp hS hlen
  ·have he:dX p=UInt8.ofNat p.kind::(aP p.file++aP p.text):=by unfold dX;rw[if_neg h3,if_neg h4]
   rw[he]at hlen⊢;exact X4 h hp hS (by omega) (by omega) hlen
end
def later(k:Nat):Except Nat (List bJ)→Except Nat (List bJ)
 | .error e=> .error (e+k)
 | .ok r=> .ok r
theorem X5(l:List bJ)(k:Nat)(x:Except Nat (List bJ)):before l (later k x)=later k (before l x):=by cases x<;>rfl
theorem TP(k:Nat):∀(i:Nat) (l:List ByteArray),rowsOf (i+k) l=later k (rowsOf i l)
 | _,[]=>rfl
 | i,t::r=>by
  have ih:=TP k (i+1) r;rw[show i+1+k=i+k+1 by omega]at ih;by_cases h:t.size=0
  ·rw[AP h,AP h,ih]
  ·rcases hl:lineOf (wordsOf 32 t)with _|c
   ·rw[AQ h hl,AQ h hl,later,show i+1+k=i+k+1 by omega]
   ·rw[xR h hl,xR h hl,ih,X5]
def behind(x:Except Nat (List bJ))(y:Except Nat (List bJ)):Except Nat (List bJ):=match x with
 | .error e=> .error e
 | .ok l=>before l y
theorem X6(l:List bJ)(x y:Except Nat (List bJ)):behind (before l x) y=before l (behind x y):=by
 cases x
 ·rfl
 ·exact(QS _ _ _).symm
theorem TQ :∀(i:Nat) (l m:List ByteArray),rowsOf i (l++m)=behind (rowsOf i l) (rowsOf (i+l.length) m)
 | i,[],m=>(QR _).symm
 | i,t::r,m=>by
  have ih:=TQ (i+1) r m;rw[show i+1+r.length=i+(t::r).length by simp;omega]at ih;by_cases h:t.size=0
  ·rw[List.cons_append,AP h,AP h,ih]
  ·rcases hl:lineOf (wordsOf 32 t)with _|c
   ·rw[List.cons_append,AQ h hl,AQ h hl];rfl
   ·rw[List.cons_append,xR h hl,xR h hl,ih,X6]
theorem Kt :∀{l:List ByteArray} {i e:Nat},rowsOf i l = .error e→i+1≤e∧e≤i+l.length
 | [],_,_,h=>by cases h
 | t::r,i,e,h=>by
  by_cases h0:t.size=0
  ·rw[AP h0]at h;have:=Kt h;simp only[List.length_cons];omega
  ·rcases hl:lineOf (wordsOf 32 t)with _|c
   ·rw[AQ h0 hl]at h;injection h with h;subst h;simp only[List.length_cons];omega
   ·rw[xR h0 hl]at h;rcases hx:rowsOf (i+1) r with e'|l
    ·rw[hx]at h;injection h with h;subst h;have:=Kt hx;simp only[List.length_cons];omega
    ·rw[hx]at h;cases h
def bI(l:List ByteArray):List ByteArray:=l.filter fun t=>decide (¬t.size=0)
theorem Ku :∀{l:List ByteArray} {i:Nat} {cs:List bJ},rowsOf i l = .ok cs→(∀c∈cs,aQ c)∧cs.map ah=bI l
 | [],_,_,h=>by
  injection h with h;subst h;exact⟨fun c hc=>(by cases hc),rfl⟩
 | t::r,i,cs,h=>by
  by_cases h0:t.size=0
  ·rw[AP h0]at h;have:=Ku h;refine⟨this.1,this.2.trans ?_⟩;simp only[bI,List.filter_cons,h0,not_true_eq_false,decide_false,Bool.false_eq_true,if_false]
  ·rcases hl:lineOf (wordsOf 32 t)with _|c
   ·rw[AQ h0 hl]at h;cases h
   ·rw[xR h0 hl]at h;rcases hx:rowsOf (i+1) r with e'|l
    ·rw[hx]at h;cases h
    ·rw[hx]at h;injection h with h;subst h;have ih:=Ku hx;obtain⟨s1,s2⟩:=ql hl;refine⟨fun d hd=>?_,?_⟩
     ·rcases List.mem_cons.1 hd with rfl|hd
      ·exact s1
      ·exact ih.1 d hd
     ·have ih2:=ih.2;simp only[bI]at ih2⊢;simp only[List.singleton_append,List.map_cons,List.filter_cons,h0,not_false_eq_true,decide_true,if_true,ih2,←s2]
theorem TR :∀{cs:List bJ} {i:Nat},(∀c∈cs,aQ c∧dn c.patch)→rowsOf i (cs.map ah) = .ok cs
 | [],_,_=>rfl
 | c::r,i,h=>by
  have ih:=TR (i:=i+1) fun d hd=>h d (List.mem_cons_of_mem _ hd);obtain⟨h1,h2⟩:=h c List.mem_cons_self;have hn :¬(ah c).size=0:=fun e=>oM h1 (by rw[←List.length_eq_zero_iff,Array.length_toList];exact e);rw[List.map_cons,xR hn ((qj h2).2 h1),ih];rfl
theorem X7{cs:List bJ}(h :∀c∈cs,aQ c∧dn c.patch):rowsOf 0 (wordsOf 10 (dN 10 (cs.map ah))) = .ok cs:=by
 rcases cs with _|⟨c,r⟩
 ·have e:wordsOf 10 (dN 10 ([].map ah))=[⟨#[]⟩]:=MJ (by rw[yx];rfl);rw[e,AP (by rfl)];rfl
 ·rw[QX (by simp) (fun x hx=>by obtain⟨d,hd,rfl⟩:=List.mem_map.1 hx;exact qi (h d hd).1)];exact TR h
theorem Oq(s t:ByteArray):rowsOf 0 (wordsOf 10 (s++⟨#[10]⟩++t))=behind (rowsOf 0 (wordsOf 10 s)) (later (wordsOf 10 s).length (rowsOf 0 (wordsOf 10 t))):=by
 rw[VH,TQ,TP]
end Go.Proofs.YtjjaojnglnpgaaaGreatDoor
