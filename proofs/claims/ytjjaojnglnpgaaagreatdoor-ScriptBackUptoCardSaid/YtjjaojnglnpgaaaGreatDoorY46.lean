/- Part 47 of what scriptBack_cardUpto rests on. -/
import Derived.Deep.RegionHeld
import Derived.Deep.DeepCutAuto
import Derived.Deep.CutBlock
import Derived.Test.YtjjaojnglnpgaaaGreatDoorY17
import Derived.Test.YtjjaojnglnpgaaaGreatDoorY18
import Derived.Test.YtjjaojnglnpgaaaGreatDoorY19
import Derived.Test.YtjjaojnglnpgaaaGreatDoorY41
import Derived.Test.YtjjaojnglnpgaaaGreatDoorY43
import Derived.Test.YtjjaojnglnpgaaaGreatDoorY04
import Derived.Test.YtjjaojnglnpgaaaGreatDoorY16
import Derived.Test.YtjjaojnglnpgaaaGreatDoorY02
import Derived.Test.YtjjaojnglnpgaaaGreatDoorY42
import Derived.Test.YtjjaojnglnpgaaaGreatDoorY44
import Derived.Test.YtjjaojnglnpgaaaGreatDoorY03
import Derived.Test.YtjjaojnglnpgaaaGreatDoorY45
import Derived.Test.YtjjaojnglnpgaaaGreatDoorY15
import Derived.Test.YtjjaojnglnpgaaaGreatDoorY00
set_option linter.unusedVariables false
set_option linter.unusedSimpArgs false
set_option maxHeartbeats 16000000
set_option maxRecDepth 1000000
namespace Go.Proofs.YtjjaojnglnpgaaaGreatDoor
section
open Go.RowKit
def jf(M:Nat)(w:World)(v:Value)(l:List dh):Prop :=
 w.ownsRow M 46 20 v l.length (l.flatMap dh.cells)∧∀it∈l,dw (fun g=>M≤g∧g∉ob v) w it.c it.x it.A it.n
theorem jf.below{M:Nat}{w w':World}{v:Value}{l:List dh}(h:jf M w v l)(hb:Below w.heap.size w w'):jf M w' v l :=
 ⟨zap h.1 fun b hb'=>hb.block b (zag h.1 b hb').2,fun it hi=>(h.2 it hi).below hb⟩
theorem fJ.inn :∀{w:World} {l:List dh} {L:List Nat},fJ w l L→∀it∈l,dw (fun g=>g∈L) w it.c it.x it.A it.n
 | _,[],_,_,_,h=>by cases h
 | w,it::r,_,⟨L1,L2,h1,h2,e⟩,x,hx=>by
  subst e;rcases List.mem_cons.1 hx with rfl|hx
  ·exact h1.2.mono fun b _ hb=>List.mem_append_left _ hb
  ·exact(fJ.inn h2 x hx).mono fun b _ hb=>List.mem_append_right _ hb
theorem fB.rd{M:Nat}{w:World}{v:Value}{l:List dh}(h:fB M w v l):jf M w v l:=by
 obtain⟨h1,L,h2,h3,h4⟩:=h;refine⟨h1,fun it hi=>(h2.inn it hi).mono fun b _ hb=>⟨h4 b hb,fun hb2=>(List.nodup_append.1 h3).2.2 b hb2 b hb rfl⟩⟩
theorem UC{α:Type}{s:Nat}(f:α→List Value)(hs :∀a,(f a).length=s):∀{l:List α} {q:Nat} {a:α},l[q]?=some a→∀t,t<s→(l.flatMap f)[q*s+t]?=(f a)[t]?
 | b::l,0,a,h,t,ht=>by
  injection h with h;subst h;rw[List.flatMap_cons,Nat.zero_mul,Nat.zero_add,List.getElem?_append_left (by rw[hs];exact ht)]
 | b::l,q+1,a,h,t,ht=>by
  rw[List.flatMap_cons,List.getElem?_append_right (by rw[hs,Nat.succ_mul];omega),hs,show(q+1)*s+t-s=q*s+t by rw[Nat.succ_mul];omega];exact UC f hs (by simpa using h) t ht
theorem jf.at_{M:Nat}{w:World}{A:Option Addr}{n c q:Nat}{l:List dh}(h:jf M w (.slice A n c) l)(hn:l.length=n)(hq:q<n):
  ∃g,A=some ⟨g,0,none⟩∧∃it,l[q]?=some it∧w.rangeAt g (q*20) it.cells:=by
 obtain⟨h1,h2⟩:=h;rcases h1.2 with⟨e,h0⟩|⟨g,cap,cur,e,_⟩
 ·omega
 ·injection e with e;subst e;refine⟨g,rfl,_,List.getElem?_eq_getElem (by omega),fun t u hu=>?_⟩;have ht:t<20:=(List.getElem?_eq_some_iff.1 hu).1;have hc:=h1.cells (g:=g) rfl (q*20+t) u (by rw[UC (s:=20) dh.cells (fun _=>rfl) (List.getElem?_eq_getElem (by omega)) t ht];exact hu)
  rwa [Addr.add_lit,Nat.zero_add]at hc
theorem jf.room{M:Nat}{w:World}{A:Option Addr}{n c:Nat}{l:List dh}(h:jf M w (.slice A n c) l):l.length=n∧n≤c∧c≤9223372036854775807:=by
 obtain⟨A',c',e⟩:=iw h.1;have h1:=JE (NK h.1) e;injection e with e1 e2 e3;subst e2 e3;exact⟨rfl,h1⟩
theorem UD{M M':Nat}{w:World}{A A':Option Addr}{n n' c c':Nat}{l l':List dh}(h:jf M w (.slice A n c) l)(h':jf M' w (.slice A' n' c') l'):
  Calls Tryz.prog 24 #[.slice A n c,.slice A' n' c'] w fun e w'=>ag (l.map (·.c)=l'.map (·.c)) e∧Below w.heap.size w w':=by
 obtain⟨hn,hc1,hc2⟩:=h.room;obtain⟨hn',hc1',hc2'⟩:=h'.room;have H:=hide h;have H':=hide h';have Hn:=hide hn;have O8:=hide hn';clear h h' hn hn';by_cases hne:n=n'
 ·subst hne;go_enter Tryz.func24,Tryz.ntmps24
  go_wp2_with fail
  go_loopg [5] n (fun g i wr=>∃q:Nat,q≤n∧g=n-q∧i = .int .i64 q∧Hid (Below w.heap.size w wr)∧Hid ((l.take q).map (·.c)=(l'.take q).map (·.c)))
  case atStart=>exact⟨0,by omega,by omega,rfl,hide (Below.refl _ _),hide (by simp)⟩
  case round =>
  obtain⟨q,hq,hg,rfl,HB,HE⟩:=hrel;by_cases hlt:q<n
  ·obtain⟨g,rfl,it,hit,hr⟩:=(H.out.below HB.out).at_ Hn.out hlt;obtain⟨g',rfl,it',D8,hr'⟩:=(H'.out.below HB.out).at_ O8.out hlt;have UE:=hide hit;have IG:=hide D8;have hin:=hide (H.out.2 it (List.mem_of_getElem? hit));have hin':=hide (H'.out.2 it' (List.mem_of_getElem? D8));have D9 :∀{b o:Nat} {cs:List Value},wr.rangeAt b o cs→∀W,Below wr.heap.size wr W→W.rangeAt b o cs:=fun h W hW j v hv=>(World.cell?_of_block (hW.block _ (block_lt_of_cell (h j v hv)))).trans (h j v hv);have HC:Hid (∀W,Below wr.heap.size wr W→Calls Tryz.prog 51 #[.agg it.cells.toArray,.agg it'.cells.toArray] W fun e w'=>ag (it.c=it'.c) e∧Below W.heap.size W w'):=hide fun W hW=>X8 ((hin.out.below HB.out).below hW) ((hin'.out.below HB.out).below hW);replace hr:=D9 hr;replace hr':=D9 hr';clear D9 hit D8
   go_upto_region 6 with fail
   have hd1:Below wr.heap.size wr wr.drew:=bW (Below.refl _ _) 1;refine wp_region_held_drew (S:=Below wr.heap.size wr) (by kernel_rfl) hd1 (fun hHeld=>?_);generalize wr.drew=wD at hHeld⊢;refine dC 0 hHeld ?_;refine dC 1 hHeld ?_;refine dC 2 hHeld ?_;refine tk (v:= .agg it.cells.toArray) 3 hHeld ?_ ?_
   ·intro w' hSw;exact GZ (b:=g) (o:=q*20) rfl (by first|rfl|(go_simp;done)) (hr w' hSw) Tryz.underlying46 rfl mg
   try simp only[aA,aB]
   refine dC 4 hHeld ?_;refine dC 5 hHeld ?_;refine dC 6 hHeld ?_;refine tk (v:= .agg it'.cells.toArray) 7 hHeld ?_ ?_
   ·intro w' hSw;exact GZ (b:=g') (o:=q*20) rfl (by first|rfl|(go_simp;done)) (hr' w' hSw) Tryz.underlying46 rfl mg
   try simp only[aA,aB]
   refine wpAnyH_ready (rs:=[8]) (by kernel_rfl) (by simp) ?_;refine AllReadyH.cons rfl (fun K hK=>?_) AllReadyH.nil;go_simp
   go_wp2_with(go_at_call 51;(with_reducible refine(HC.out _ hHeld).mono ?_);rintro e8 w1 ⟨⟨b1,rfl,hb1⟩,hB1⟩)
   have Hb1:=hide hb1;have hH1:=hHeld.trans (hB1.mono hHeld.size);refine hK.out _ _ hH1 (fun hHeld=>?_);clear hK K hb1 hB1
   try simp only[Act.put,aG,aE,aF,aD,aA,aB]
   refine dC 9 hHeld ?_;refine wpAnyH_done (by kernel_rfl) ?_ _
   try simp only[Act.put,aG,aE,aF,aD,aA,aB]
   have HB2:=hide (HB.out.trans (hH1.mono HB.out.size));rcases b1 with _|_
   ·go_wp2_with fail
    go_ret;refine⟨ag.mk ⟨fun h=>(by cases h),fun h=>?_⟩,HB2.out⟩;have h1:=congrArg (fun x=>x[q]?) h;simp only[List.getElem?_map,UE.out,IG.out,Option.map_some,Option.some.injEq]at h1;exact Hb1.out.2 h1
   ·go_wp2_with fail
    go_roundg (n-(q+1))
    case measure=>omega
    case rel=>exact⟨q+1,by omega,rfl,by go_num,HB2,hide (by rw[List.take_add_one,List.take_add_one,UE.out,IG.out,List.map_append,List.map_append,HE.out];simp[show it.c=it'.c from Hb1.out.1 (by first|rfl|trivial)])⟩
  ·have EE:q=n:=by omega
   subst EE
   go_wp2_with fail
   go_ret;refine⟨ag.mk ⟨fun _=>?_,fun _=>rfl⟩,HB.out⟩;have:=HE.out
   rwa [List.take_of_length_le (by rw[Hn.out];exact aC _),List.take_of_length_le (by rw[O8.out];exact aC _)]at this
 ·have hnn:((n:Int) != (n':Int))=true:=by rw[bne_iff_ne];omega
  go_enter Tryz.func24,Tryz.ntmps24
  go_wp2_with fail
  go_ret;refine⟨ag.mk ⟨fun h=>(by cases h),fun h=>absurd ?_ hne⟩,Below.refl _ _⟩;have h1:=congrArg List.length h;rw[List.length_map,List.length_map,Hn.out,O8.out]at h1;exact h1
end
section
open Go.RowKit
section
variable {P : Program} {ops : Array Oper} {Q : Exit → Act → World → Prop} {o : Oper} {rest : List Oper} {L : List Value} {df : List Deferred} {w : World}
theorem Zd{a:Act}(hw:Region.wanted o (yielded ops a.tmps)=true)(h:wpList P ops Q ({o with guard:=none}::rest) a w):wpList P ops Q (o::rest) a w:=by
 unfold wpList at h⊢;rw[if_pos (by rfl)]at h;rw[if_pos hw];exact h
theorem wW{s x:Operand}{t:TypeId}(base:Nat)(e:TypeId){z:Value}{size bytes d:Nat}(ht:P.underlying t=some (.slice e))(hI:(P.info? e).map (fun i=>(i.zero,i.size,i.bytes))=some (some z,size,bytes))(hzs:z.cells.size=size)(hsz:0<size)
  {v:Value} {n:Nat} {xs:List Value} (hown:w.ownsRow base e size v n xs) {B:Option Addr} {m c:Nat} {news:List Value} (hB:B=none→m=0) (hl:news.length=m*size) (hnews :∀ad,B=some ad→∀j u,news[j]?=some u→w.cell? (ad.add j)=some u) (h1 :∀u∈news,u.oneCell'=true)
  (h63:n+m≤maxLen) (hbytes:(n+m)*bytes≤140737488355328) (hbase:base≤w.heap.size)
  (h :∀v' w',w'.ownsRow base e size v' (n+m) (xs++news)→w.grownBy w' v.ownBlock→jL w w' v v' n m→wpList P ops Q rest ⟨(L.set d v').toArray,df⟩ w')
  (ho:o.op = .call {callee:= .builtin .append,args:=#[s,x],argTypes:=#[t,t]}:=by rfl) (hs:(Act.mk L.toArray df).eval s=v:=by rfl) (hx:(Act.mk L.toArray df).eval x = .slice B m c:=by rfl) (hw:Region.wanted o (yielded ops L.toArray)=true:=by rfl) (hd:o.dst=some d:=by rfl):
  wpList P ops Q (o::rest) ⟨L.toArray,df⟩ w :=
 Zd hw <| BQ (o:={o with guard:=none}) rfl s x t ho base e ht hI hzs hsz v n xs hs hown B m c news hx hB hl hnews h1 h63 hbytes hbase fun v' w' a1 a2 a3=>by
  have e2:(Act.mk L.toArray df).put o.dst v'=⟨(L.set d v').toArray,df⟩:=by rw[hd];simp[Act.put]
  show wpList P ops Q rest ((Act.mk L.toArray df).put o.dst v') w';rw[e2];exact h v' w' a1 a2 a3
end
theorem KO{w w':World}{v v':Value}{n m:Nat}(h:jL w w' v v' n m):∀g∈ob v',g∈ob v∨g=w.heap.size:=fun g hg=>by
 rcases h with⟨A,c,e1,e2⟩|⟨h,_⟩
 ·rw[e2,J3 A (n+m) n c,←e1]at hg;exact .inl hg
 ·rw[ob,h]at hg;simp at hg;exact .inr hg
structure gJ(M:Nat)(w:World)(v1 v2:Value)(cs:List dh):Prop where
 r1:w.ownsRow M 9 1 v1 cs.length (cs.map fun it=> .string (ah it.c))
 r2:w.ownsRow M 46 20 v2 cs.length (cs.flatMap dh.cells)
 ap :∀g∈ob v1,g∉ob v2
theorem gJ.nil(M:Nat)(w:World):gJ M w (.slice none 0 0) (.slice none 0 0) []:=⟨World.ownsRow_nil _ _ _ _,World.ownsRow_nil _ _ _ _,fun g hg=>by simp[ob,Value.ownBlock]at hg⟩
theorem gJ.below{M:Nat}{w w':World}{v1 v2:Value}{cs:List dh}(h:gJ M w v1 v2 cs)(hb:Below w.heap.size w w'):gJ M w' v1 v2 cs :=
 ⟨zap h.r1 fun b hb'=>hb.block b (zag h.r1 b hb').2,zap h.r2 fun b hb'=>hb.block b (zag h.r2 b hb').2,h.ap⟩
theorem O9{M e size n:Nat}{w w':World}{v:Value}{xs:List Value}{row:Option Nat}(h:w.ownsRow M e size v n xs)(hg:w.grownBy w' row)(hr :∀g∈ob v,some g≠row):w'.ownsRow M e size v n xs :=
 zap h fun b hb=>hg.block b (zag h b hb).2 (hr b hb)
theorem gJ.two{M:Nat}{w w1 w2 w3:World}{v1 v2 v1' v2':Value}{cs:List dh}{it:dh}{o1 o2:Obj}(h:gJ M w v1 v2 cs)(hw1:w1=w.alloc o1)
  (h1:w2.ownsRow M 9 1 v1' (cs.length+1) ((cs.map fun it=> .string (ah it.c))++[.string (ah it.c)])) (g1:w1.grownBy w2 v1.ownBlock) (n1:jL w1 w2 v1 v1' cs.length 1) (hw3:w3=w2.alloc o2) {w4:World}
  (h2:w4.ownsRow M 46 20 v2' (cs.length+1) (cs.flatMap dh.cells++it.cells)) (g2:w3.grownBy w4 v2.ownBlock) (n2:jL w3 w4 v2 v2' cs.length 1):gJ M w4 v1' v2' (cs++[it]):=by
 subst hw1 hw3;have b1:=KO n1;have b2:=KO n2;have s1:w.heap.size<w2.heap.size:=by have:=g1.size;simp at this;omega
 have a1:=zap h1 (w':=w2.alloc o2) fun b hb=>(az w2 o2).block b (zag h1 b hb).2;have UF :∀g∈ob v1',g∉ob v2:=fun g hg hg2=>by
  rcases b1 g hg with hg|hg
  ·exact h.ap g hg hg2
  ·have:=(zag h.r2 g hg2).2;simp at hg;omega
 refine⟨?_,?_,fun g hg hg2=>?_⟩
 ·rw[aJ,List.map_append];exact O9 a1 g2 fun g hg e=>UF g hg (iV.2 e.symm)
 ·rw[aJ,List.flatMap_append,List.flatMap_singleton];exact h2
 ·rcases b2 g hg2 with hg2|hg2
  ·exact UF g hg hg2
  ·have:=(zag h1 g hg).2;simp at hg2;omega
theorem gJ.room1{M:Nat}{w:World}{v1 v2:Value}{cs:List dh}(h:gJ M w v1 v2 cs):∃A k,v1 = .slice A cs.length k:=iw h.r1
theorem gJ.room2{M:Nat}{w:World}{v1 v2:Value}{cs:List dh}(h:gJ M w v1 v2 cs):∃A k,v2 = .slice A cs.length k:=iw h.r2
theorem Ze{w:World}{B n c:Nat}{A:Option Addr}{ws:List ByteArray}(ho:w.ownsRow B 9 1 (.slice A n c) n (ws.map .string))(hn:ws.length=n)(h1:n≤140737488355328)(hl:(dN 10 ws).size≤140737488355328):
  Calls Tryz.prog 23 #[.slice A n c,.string {data:=#[10]}] w fun e w'=>e = .returned (.string (dN 10 ws))∧Below w.heap.size w w':=by
 subst hn;by_cases h0:ws.length=0
 ·obtain rfl:=List.length_eq_zero_iff.1 h0;refine(Tryz.strings_Join_none A c ⟨#[10]⟩ w).mono ?_;rintro e w' ⟨rfl,rfl⟩;exact⟨rfl,Below.refl _ _⟩
 obtain⟨g,rfl⟩:∃g,A=some ⟨g,0,none⟩:=by
  rcases ho.2 with⟨_,e⟩|⟨g,cap,cur,e,_⟩
  ·omega
  ·injection e with e;exact⟨g,e⟩
 have hg:=(ho.lt g rfl).2;have hc :∀(j:Nat) x,ws[j]?=some x→w.cell? ⟨g,0+j,none⟩=some (.string x):=fun j x hx=>by
  have hj:=(List.getElem?_eq_some_iff.1 hx).1;rw[Nat.zero_add,ho.cellAt j (by omega),List.getElem?_map,hx];rfl
 have hcap:ws.length≤c:=by
  rcases ho.2 with⟨e,_⟩|⟨g,cap,cur,e,_,_,h,_⟩
  ·cases e
  ·injection e with _ _ e;omega
 have e1:dN 10 ws=⟨(Lib.join (ws.map (·.data.toList)) [10]).toArray⟩:=by rw[dN,JF]
 have h2:(Lib.join (ws.map (·.data.toList)) [10]).length=(dN 10 ws).size:=by
  have h3:(dN 10 ws).size=(dN 10 ws).data.toList.length:=Array.length_toList.symm;rw[h3,mZ,JF]
 rw[e1];exact Tryz.strings_Join g 0 c ws ⟨#[10]⟩ w hc hg h1 hcap (by rw[show(⟨#[10]⟩:ByteArray).data.toList=[10]from rfl,h2];exact hl)
theorem rU{c:bJ}(h:aQ c):((ah c).toList == [63])=false:=by
 rw[aK];intro e;have h1:(ah c).data.toList.length=1:=by rw[←ByteArray.toList_eq,e];rfl
 have h2:=wU h;have h3:(ah c).data.toList.length=(ah c).size:=Array.length_toList;omega
theorem gJ.rowR{S:Nat→Prop}{w wx:World}{v1 v2:Value}{A:Option Addr}{l cs:List dh}(h:gJ w.heap.size wx v1 v2 cs)(hsub :∀it∈cs,it∈l)(hr:iP S w A l)(hb:Below w.heap.size w wx):jf 0 wx v2 cs:=by
 refine⟨⟨h.r2.1,h.r2.2.imp id fun⟨g,cap,cur,e1,hB,rest⟩=>⟨g,cap,cur,e1,Nat.zero_le _,rest⟩⟩,fun it hi=>?_⟩;obtain⟨q,hq⟩:=List.mem_iff_getElem?.1 (hsub it hi);obtain⟨b,o,_,_,hc⟩:=hr.at_ q it hq;exact(hc.mono (S':=fun g=>0≤g∧g∉ob v2) fun g hg _=>⟨Nat.zero_le _,fun hm=>by have:=(zag h.r2 g hm).1;omega⟩).below hb
theorem rV(l:List dh):bF l=((l.map (·.c)).map gZ).sum:=by
 unfold bF;rw[List.map_map];rfl
theorem UG(p:dh→Bool):∀l:List dh,bF (l.filter p)≤bF l
 | []=>by simp
 | x::r=>by
  have ih:=UG p r;rw[List.filter_cons];split<;>simp only[bF,List.map_cons,List.sum_cons]at ih⊢<;> omega
theorem UH(c:UInt8):∀l:List UInt8,(partsL c l).length=l.count c+1
 | []=>rfl
 | b::r=>by
  have ih:=UH c r;by_cases hb:b=c
  ·rw[partsL,if_pos hb,List.length_cons,ih,hb,List.count_cons_self]
  ·rw[partsL,if_neg hb,List.count_cons_of_ne hb];rcases hp:partsL c r with _|⟨h,t⟩
   ·exact absurd hp (Fh c r)
   ·rw[hp]at ih;exact ih
theorem II(c:UInt8)(s:ByteArray):(wordsOf c s).length=Lib.countByte s.data.toList c+1:=by
 have h:((wordsOf c s).map (·.data.toList)).length=(partsL c s.data.toList).length:=by rw[yx]
 rw[List.length_map,UH]at h;exact h
theorem bQ.err{w w':World}{s:ByteArray}{e:Ending}{i:Nat}(h:bQ w s e w')(hs:s.size≤262144)(hr:rowsOf 0 (wordsOf 10 s) = .error i):e = .returned (.tuple #[.slice none 0 0,.agg #[.int .i64 210,.int .i64 i]])∧Below w.heap.size w w':=⟨(h.2.2 hs).1 i hr,h.1⟩
theorem bQ.ok{w w':World}{s:ByteArray}{e:Ending}{cs:List bJ}(h:bQ w s e w')(hs:s.size≤262144)(hr:rowsOf 0 (wordsOf 10 s) = .ok cs):∃(l:List dh) (A:Option Addr) (k:Nat),l.map (·.c)=cs∧e = .returned (.tuple #[.slice A l.length k,.agg #[.int .i64 0,.int .i64 0]])∧fB w.heap.size w' (.slice A l.length k) l∧Below w.heap.size w w':=by
 obtain⟨l,v,h1,h2,h3⟩:=(h.2.2 hs).2 cs hr;obtain⟨A,k,rfl⟩:=iw h3.1;exact⟨l,A,k,h1,h2,h3,h.1⟩
theorem bQ.any{w w':World}{s:ByteArray}{e:Ending}(h:bQ w s e w')(hs:s.size≤262144):∃(A:Option Addr) (n k:Nat) (er at_:Int),e = .returned (.tuple #[.slice A n k,.agg #[.int .i64 er,.int .i64 at_]])∧Below w.heap.size w w':=by
 rcases hr:rowsOf 0 (wordsOf 10 s)with i|cs
 ·obtain⟨h1,h2⟩:=h.err hs hr;exact⟨none,0,0,210,i,h1,h2⟩
 ·obtain⟨l,A,k,_,h1,_,h2⟩:=h.ok hs hr;exact⟨A,l.length,k,0,0,h1,h2⟩
theorem bQ.all{w w':World}{s:ByteArray}{e:Ending}(h:bQ w s e w')(hs:s.size≤262144):∃(A:Option Addr) (n k:Nat) (er at_:Int),e = .returned (.tuple #[.slice A n k,.agg #[.int .i64 er,.int .i64 at_]])∧Below w.heap.size w w'∧
  ((∃i:Nat,rowsOf 0 (wordsOf 10 s) = .error i∧n=0∧er=210∧at_=i)∨(∃l:List dh,rowsOf 0 (wordsOf 10 s) = .ok (l.map (·.c))∧n=l.length∧er=0∧at_=0∧fB w.heap.size w' (.slice A n k) l)):=by
 rcases hr:rowsOf 0 (wordsOf 10 s)with i|cs
 ·obtain⟨h1,h2⟩:=h.err hs hr;exact⟨none,0,0,210,i,h1,h2,.inl ⟨i,rfl,rfl,rfl,rfl⟩⟩
 ·obtain⟨l,A,k,e1,h1,h3,h2⟩:=h.ok hs hr;exact⟨A,l.length,k,0,0,h1,h2,.inr ⟨l,by rw[e1],rfl,rfl,rfl,h3⟩⟩
theorem Zf{ws:List ByteArray}{q:Nat}(h:q<ws.length):bI (ws.take (q+1))=bI (ws.take q)++(if ws[q].size=0 then[]else[ws[q]]):=by
 unfold bI;rw[List.take_succ_eq_append_getElem h,List.filter_append,List.filter_cons,List.filter_nil];by_cases h0:ws[q].size=0<;>simp[h0]
def lu(w w':World)(t:ByteArray)(A:Option Addr)(n k:Nat)(er at_:Int):Prop :=
 (∃i:Nat,rowsOf 0 (wordsOf 10 t) = .error i∧n=0∧er=210∧at_=i)∨(∃l:List dh,rowsOf 0 (wordsOf 10 t) = .ok (l.map (·.c))∧n=l.length∧er=0∧at_=0∧fB w.heap.size w' (.slice A n k) l)
theorem lu.below{w w' w2:World}{t:ByteArray}{A:Option Addr}{n k:Nat}{er at_:Int}(h:lu w w' t A n k er at_)(hb:Below w'.heap.size w' w2):lu w w2 t A n k er at_:=h.imp id fun⟨l,h1,h2,h3,h4,h5⟩=>⟨l,h1,h2,h3,h4,h5.below hb⟩
theorem UI{w:World}{M e size n c:Nat}{A:Option Addr}{xs:List Value}(h:w.ownsRow M e size (.slice A n c) n xs):(A=none→n=0)∧∀ad,A=some ad→∀j u,xs[j]?=some u→w.cell? (ad.add j)=some u:=by
 have h0:=h;rcases h.2 with⟨e1,hn⟩|⟨g,cap,cur,e1,hbg,hg,hr⟩
 ·exact⟨fun _=>hn,fun ad e2=>by injection e1 with e1;rw[e1]at e2;cases e2⟩
 ·injection e1 with e1;subst e1;refine⟨fun e2=>by(cases e2),fun ad e2=>?_⟩;injection e2 with e2;subst e2;exact World.ownsRow.cells h0 rfl
theorem UJ(l:List dh):∀u∈l.flatMap dh.cells,u.oneCell'=true:=fun u hu=>by
 obtain⟨it,_,h⟩:=List.mem_flatMap.1 hu;exact NV _ _ _ _ u h
theorem wX{M1 M2:Nat}{W Wy w1 w2:World}{v0 v1 v2 va vb:Value}{la lb:List dh}{o:Obj}(ha:jf M1 W va la)(hb:jf M2 W vb lb)(hy:Wy=W.alloc o)(h0:ob v0=[W.heap.size]){n1 m1 n2 m2:Nat}(g1:Wy.grownBy w1 v0.ownBlock)(n1':jL Wy w1 v0 v1 n1 m1)
  (g2:w1.grownBy w2 v1.ownBlock) (Zg:jL w1 w2 v1 v2 n2 m2) {M:Nat} (own:w2.ownsRow M 46 20 v2 (la++lb).length ((la++lb).flatMap dh.cells)):jf 0 w2 v2 (la++lb)∧Below W.heap.size W w2:=by
 subst hy;have b1 :∀g∈ob v1,W.heap.size≤g:=fun g hg=>by
  rcases KO n1' g hg with hg|hg
  ·rw[h0,List.mem_singleton]at hg;omega
  ·simp at hg;omega
 have s1:=g1.size;simp at s1;have b2 :∀g∈ob v2,W.heap.size≤g:=fun g hg=>by
  rcases KO Zg g hg with hg|hg
  ·exact b1 g hg
  ·omega
 have hB1:Below W.heap.size W w1:=(az W o).grown g1 (by simp) fun k hk=>by
  have hm:k∈ob v0:=iV.2 hk;rw[h0,List.mem_singleton]at hm;omega
 have hB2:Below W.heap.size W w2:=hB1.grown g2 hB1.size fun k hk=>b1 k (iV.2 hk);refine⟨⟨⟨own.1,own.2.imp id fun⟨g,cap,cur,e1,hB,rest⟩=>⟨g,cap,cur,e1,Nat.zero_le _,rest⟩⟩,fun it hi=>?_⟩,hB2⟩;have key :∀{S:Nat→Prop},dw S W it.c it.x it.A it.n→dw (fun g=>0≤g∧g∉ob v2) w2 it.c it.x it.A it.n:=fun h =>
  (h.mono (S':=fun g=>0≤g∧g∉ob v2) fun g hg _=>⟨Nat.zero_le _,fun hm=>by have:=b2 g hm;omega⟩).below hB2
 rcases List.mem_append.1 hi with hi|hi
 ·exact key (ha.2 it hi)
 ·exact key (hb.2 it hi)
end
section
open Go.RowKit
open Classical in
noncomputable def nK(it:dh):Bool:=decide (aQ it.c)
open Classical in
theorem Zh{l:List dh}{q:Nat}(h:q<l.length):(l.take (q+1)).filter nK=(l.take q).filter nK++(if nK l[q]then[l[q]]else[]):=by
 rw[List.take_succ_eq_append_getElem h,List.filter_append,List.filter_cons,List.filter_nil]
open Classical in
theorem Pe{it:dh}:nK it=true↔aQ it.c:=by unfold nK;exact decide_eq_true_iff
theorem Zi{S:Nat→Prop}{A:Option Addr}{k:Nat}{l:List dh}{s t:ByteArray}{w:World}(h:iP S w A l)(hk:l.length≤k∧k≤9223372036854775807)(hz :∀it∈l,iM it.c∧dn it.c.patch)(hU:bF l≤549755813888)(hs:s.size≤1099511627776)(ht:t.size≤1099511627776)(hlen:l.length≤140737488355)
    (htab:ax w) (hmx:eP w) (haw :∀W:World,Below w.heap.size w W→Calls Tryz.prog 9 #[] W fun e w'=>e = .returned (.bool true)∧Below W.heap.size W w'):
    Calls Tryz.prog 6 #[.slice A l.length k,.string s,.string t] w fun e w'=>e = .returned (.bool true)∧Below w.heap.size w w':=by
  have H:=hide h;have HZ:=hide hz;have HT:=hide htab;have HA:=hide haw;have HP:Hid (∀(W:World) (x:ByteArray),Below w.heap.size w W→x.size≤9223372036854775807→Calls Tryz.prog 10 #[.string x] W (bQ W x)):=hide fun W x hW hx=>Oc hx (hmx.below hW) (htab.below hW) (fun _ _ _ _=>Y4);have Zj:Hid (∀W:World,Below w.heap.size w W→eP W):=hide fun W hW=>hmx.below hW;clear h hz htab haw hmx;go_enter Tryz.func6,Tryz.ntmps6
  go_upto_region 3 with(go_at_call 9;(with_reducible refine(HA.out _ (Below.refl _ _)).mono ?_);rintro e1 w1 ⟨rfl,hB1⟩;have HB1:=hide hB1;clear hB1)
  refine wp_region_lit ?_;refine sk ?_;refine sc (Za (m:=2500) (H.out.below HB1.out) hk (by omega) (by omega) hU) ?_;rintro e w2 ⟨⟨r,rfl,hr0,hr1,hr2⟩,hB2⟩;refine⟨_,rfl,?_⟩;have HB2:=hide (HB1.out.trans (hB2.mono HB1.out.size));clear hB2 HB1;refine sk (v:= .bool (decide (2500<r))) ?_;by_cases hbig:2500<r∨20000<s.size+t.size
  · by_cases h1:2500<r
    · have hr3:decide (2500<r)=true:=decide_eq_true h1
      rw[hr3]
      go_wp2_with fail
      go_ret;exact⟨rfl,HB2.out⟩
    · have hr3:decide (2500<r)=false:=decide_eq_false h1
      have hs3:20000<s.size+t.size:=by omega
      rw[hr3]
      go_wp2_with fail
      all_goals go_ret
      all_goals exact⟨rfl,HB2.out⟩
  have hW:bF l≤2500:=by have:=hr2 (by omega);omega
  have hs2:s.size+t.size≤20000:=by omega
  have hr3:decide (2500<r)=false:=decide_eq_false (by omega);rw[hr3];clear hbig hr0 hr1 hr2 hU hr3
  go_upto_block 0 with fail
  go_cut [7,8,9,10]from 38 to 62 (fun v1 v2 i x wx=>gJ w.heap.size wx v1 v2 (l.filter nK)∧Below w.heap.size w wx)
  case first =>
    go_wp2_with fail
    go_loopg [7,8,9] l.length (fun g v1 v2 i wr=>∃q:Nat,q≤l.length∧g=l.length-q∧i = .int .i64 q∧Hid (gJ w.heap.size wr v1 v2 ((l.take q).filter nK))∧Hid (Below w.heap.size w wr))
    case atStart=>exact⟨0,Nat.zero_le _,by omega,rfl,hide (gJ.nil _ _),HB2⟩
    case round =>
      obtain⟨q,hq,hg,rfl,HR,HB⟩:=hrel;by_cases hlt:q<l.length
      · obtain⟨b,o,hA,hr,hc⟩:=H.out.at_ q _ (List.getElem?_eq_getElem hlt)
        subst hA;have hzi:=HZ.out l[q] (List.getElem_mem hlt);have htk:=Zh hlt;generalize l[q]=it at hr hc hzi htk;have hb0:b<w.heap.size:=block_lt_of_cell (hr 0 _ rfl);have UK:Hid (∀W:World,Below w.heap.size w W→W.rangeAt b (o+q*20) (ak it.c it.x it.A it.n)):=hide fun W hW j v hv=>(hW.cell (p:=⟨b,o+q*20+j,none⟩) hb0).trans (hr j v hv);have HC:=hide hc;have Zk:=hide hzi;have UL:=hide htk;clear hr hc hzi htk hb0
        go_upto_region 10 with fail
        refine wp_region_lit ?_;refine sk ?_;refine sk ?_;refine sk (v:= .pointer (some ⟨b,o+q*20,none⟩)) ?_;refine sl ?_ (UK.out _ HB.out) Tryz.underlying46 mg;refine sc (Ux (HC.out.below HB.out) Zk.out.1 (HT.out.below HB.out)) ?_;rintro e w3 ⟨rfl,hB3⟩;refine⟨_,rfl,?_⟩;have HR3:=hide (HR.out.below hB3);have HB3:=hide (HB.out.trans (hB3.mono HB.out.size));clear hB3 HR HB;refine sk ?_;refine wpList_nil ?_;rename_i hK;refine hK _ _ ?_;clear hK;by_cases hsh:aQ it.c
        · have hl:kK it.c=ah it.c:=MV hsh
          rw[hl];have hm:=rU hsh;have hcs:(l.take (q+1)).filter nK=(l.take q).filter nK++[it]:=by rw[UL.out,if_pos (Pe.2 hsh)]
          have UM:=hide hcs;have hlc:((l.take q).filter nK).length≤q:=aI (List.length_filter_le _ _) (List.length_take_le _ _);clear hl hcs hsh;generalize (l.take q).filter nK=cs at HR3 UM hlc;obtain⟨A1,k1,rfl⟩:=HR3.out.room1;obtain⟨A2,k2,rfl⟩:=HR3.out.room2
          go_upto_region 12 with fail
          clear hm;refine wp_region_lit ?_;refine sk ?_;refine sk ?_;refine sw (v:= .slice (some ⟨w3.heap.size,0,none⟩) 1 1) (w':=w3.alloc (.cells #[.string (ah it.c)] 9)) ?_;have hba:=az w3 (.cells #[.string (ah it.c)] 9);have IJ:=hide (HR3.out.below hba);have kz:=hide (HB3.out.alloc HB3.out.size (.cells #[.string (ah it.c)] 9));refine wW w.heap.size 9 Tryz.underlying34 Kz rfl (by decide) IJ.out.r1 (B:=some ⟨w3.heap.size,0,none⟩) (m:=1) (c:=1) (news:=[.string (ah it.c)]) (fun e=>by cases e) rfl (fun ad e=>by injection e with e;subst e;intro j u hu;rw[Addr.add_lit,Nat.zero_add,Lib.cell_of_heap (heap_alloc_new w3 _)];simpa using hu) (by intro u hu;simp at hu;subst hu;rfl) (by unfold maxLen;omega) (by omega) kz.out.size ?_;intro v1 w5 nM jY rW;have dV:=hide (kz.out.grown jY kz.out.size fun kk hkk=>(zag IJ.out.r1 kk (iV.2 hkk)).1);refine sk ?_;refine wpList_nil ?_;rename_i hK;refine hK _ _ ?_;clear hK
          go_upto_region 13 with fail
          refine wp_region_lit ?_;refine sk ?_;refine sk ?_;refine sk ?_;refine sk (v:= .pointer (some ⟨b,o+q*20,none⟩)) ?_;refine sl ?_ (UK.out _ dV.out) Tryz.underlying46 mg;refine sw (v:= .slice (some ⟨w5.heap.size,0,none⟩) 1 1) (w':=w5.alloc (.cells (ak it.c it.x it.A it.n).toArray 46)) ?_;have hbb:=az w5 (.cells (ak it.c it.x it.A it.n).toArray 46);have hne2 :∀g∈ob (Value.slice A2 cs.length k2),some g≠(Value.slice A1 cs.length k1).ownBlock:=fun g hg e=>HR3.out.ap g (iV.2 e.symm) hg;have rZ:=hide (zap (O9 IJ.out.r2 jY hne2) (w':=w5.alloc (.cells (ak it.c it.x it.A it.n).toArray 46)) fun bb hb=>hbb.block bb (zag (O9 IJ.out.r2 jY hne2) bb hb).2);have zL:=hide (dV.out.alloc dV.out.size (.cells (ak it.c it.x it.A it.n).toArray 46));refine wW w.heap.size 46 Tryz.underlying23 J4 rfl (by decide) rZ.out (B:=some ⟨w5.heap.size,0,none⟩) (m:=1) (c:=1) (news:=ak it.c it.x it.A it.n) (fun e=>by cases e) rfl (fun ad e=>by injection e with e;subst e;intro j u hu;rw[Addr.add_lit,Nat.zero_add,Lib.cell_of_heap (heap_alloc_new w5 _)];simpa using hu) (NV _ _ _ _) (by unfold maxLen;omega) (by omega) zL.out.size ?_;intro v2 w6 zM wY zN;have UN:Hid (gJ w.heap.size w6 v1 v2 (cs++[it])):=hide (HR3.out.two rfl nM jY rW rfl zM wY zN);have ng:=hide (zL.out.grown wY zL.out.size fun kk hkk=>(zag rZ.out kk (iV.2 hkk)).1);clear nM jY rW zM wY zN hne2 hba hbb IJ kz dV rZ zL HR3;rw[←UM.out]at UN;refine sk ?_;refine wpList_nil ?_
          go_wp2_with fail
          go_roundg (l.length-(q+1))
          case rel=>exact⟨q+1,by omega,rfl,by go_num,UN,ng⟩
          case measure=>omega
        · have hl:kK it.c={data:=#[63]}:=Ba hsh
          rw[hl];have hcs:(l.take (q+1)).filter nK=(l.take q).filter nK:=by rw[UL.out,if_neg (fun h=>hsh (Pe.1 h)),List.append_nil]
          rw[←hcs]at HR3;clear hl hcs hsh
          go_wp2_with fail
          go_roundg (l.length-(q+1))
          case rel=>exact⟨q+1,by omega,rfl,by go_num,HR3,HB3⟩
          case measure=>omega
      · have hqe:q=l.length:=by omega
        have HE:=hide (show gJ w.heap.size wr _ _ (l.filter nK)by have h1:=HR.out;rw[hqe,List.take_length]at h1;exact h1);clear hqe
        go_wp2_with fail
        go_meet
        exact⟨HE.out,HB.out⟩
  case rest =>
  obtain⟨hR,hB⟩:=hcut;obtain⟨cs,ecs⟩:∃cs,cs=l.filter nK:=⟨_,rfl⟩;have hsub :∀it∈cs,it∈l:=fun it hi=>by rw[ecs]at hi;exact(List.mem_filter.1 hi).1
  have lZ :∀it∈cs,aQ it.c:=fun it hi=>by rw[ecs]at hi;exact Pe.1 (List.mem_filter.1 hi).2
  have hcw:bF cs≤2500:=by rw[ecs];exact aI (UG _ _) hW
  rw[←ecs]at hR;clear ecs hW;have hok :∀c∈cs.map (·.c),aQ c∧dn c.patch:=fun c hc=>by
    obtain⟨it,hi,rfl⟩:=List.mem_map.1 hc;exact⟨lZ it hi,(HZ.out it (hsub it hi)).2⟩
  have hsz:(dN 10 ((cs.map (·.c)).map ah)).size≤160000:=by
    have h1:=Y5 (cs:=cs.map (·.c)) fun c hc=>(hok c hc).1;rw[←rV]at h1;omega
  have Pg:=hide (X7 hok);have HRR:=hide (hR.rowR hsub H.out hB);have HR1:Hid (wc.ownsRow w.heap.size 9 1 _ cs.length (((cs.map (·.c)).map ah).map .string)):=hide (by rw[List.map_map,List.map_map];exact hR.r1);obtain⟨A1,k1,rfl⟩:=hR.room1;obtain⟨A2,k2,rfl⟩:=hR.room2;have HB:=hide hB;have hcl:cs.length≤2500:=by
    have :∀m:List dh,m.length≤bF m:=by
      intro m
      induction m with
      | nil=>simp
      | cons x r ih=>simp only[bF,List.map_cons,List.sum_cons,List.length_cons]at ih⊢;have:1≤gZ x.c:=(by unfold gZ;omega);omega
    exact aI (this cs) hcw
  have HJ:=hide (Ze HR1.out (by simp) (by omega) (by omega));clear hR hB hok hsub lZ hcw HR1;generalize dN 10 ((cs.map (·.c)).map ah)=J at Pg HJ hsz
  go_upto_region 15 with(first
    | (go_at_call 23;(with_reducible refine HJ.out.mono ?_);rintro e4 w4 ⟨rfl,hB4⟩;have HB4:=hide (HB.out.trans (hB4.mono HB.out.size));have HR4:=hide (HRR.out.below hB4);clear hB4)
    | (go_at_call 10;(with_reducible refine(HP.out _ _ HB4.out (by omega)).mono ?_);rintro e5 w5 ⟨fA,_,hp⟩;obtain⟨l2,v3,hmp,rfl,hrow⟩:=(hp (by omega)).2 _ Pg.out;obtain⟨A3,k3,rfl⟩:=iw hrow.1;have dV:=hide (HB4.out.trans (fA.mono HB4.out.size));have UO:=hide (HR4.out.below fA);have UQ:=hide hmp;have EP:=hide hrow;clear fA hp hmp hrow))
  go_upto_region 17 with(go_at_call 24;(with_reducible refine(UD (EP.out.rd.below (az _ _)) (UO.out.below (az _ _))).mono ?_);rintro e6 w6 ⟨⟨b6,rfl,hb6⟩,uz⟩;obtain rfl:b6=true:=hb6.2 UQ.out;have ng:=hide (dV.out.trans ((aZ (az _ _) uz).mono dV.out.size));clear hb6 uz)
  clear UO UQ EP Pg HJ HRR HR4 HB4 dV HB hsz hcl;rcases hrs:rowsOf 0 (wordsOf 10 s)with i|Pj
  · have hi:=Kt hrs
    have BH:Hid (rowsOf 0 (wordsOf 10 (s++⟨#[10]⟩++t)) = .error i):=hide (by rw[Oq,hrs];rfl);have KP:Hid (∀W:World,Below w.heap.size w W→Calls Tryz.prog 10 #[.string s] W fun e w'=>e = .returned (.tuple #[.slice none 0 0,.agg #[.int .i64 210,.int .i64 i]])∧Below W.heap.size W w'):=hide fun W hW=>(HP.out W s hW (by omega)).mono fun e w' hp=>hp.err (by omega) hrs;have KQ:Hid (∀W:World,Below w.heap.size w W→Calls Tryz.prog 10 #[.string t] W fun e w'=>∃(A:Option Addr) (n k:Nat) (er at_:Int),e = .returned (.tuple #[.slice A n k,.agg #[.int .i64 er,.int .i64 at_]])∧Below W.heap.size W w'):=hide fun W hW=>(HP.out W t hW (by omega)).mono fun e w' hp=>hp.any (by omega);have hst:(s++⟨#[10]⟩++t).size≤262144:=by simp only[ByteArray.size_append,show(⟨#[10]⟩:ByteArray).size=1 from rfl];omega
    have xg:Hid (∀W:World,Below w.heap.size w W→Calls Tryz.prog 10 #[.string (s++{data:=#[10]}++t)] W fun e w'=>e = .returned (.tuple #[.slice none 0 0,.agg #[.int .i64 210,.int .i64 i]])∧Below W.heap.size W w'):=hide fun W hW=>(HP.out W _ hW (by omega)).mono fun e w' hp=>hp.err hst BH.out;have hcn:(i:Int)≤1+(Lib.countByte s.data.toList 10:Nat):=by have:=II 10 s;omega
    have hi1:(1:Int)≤(i:Int):=by omega
    have hcb:Lib.countByte s.data.toList 10≤20000:=by
      have h1:=List.count_le_length (l:=s.data.toList) (a:=(10:UInt8));have h2:s.data.toList.length=s.size:=Array.length_toList;show List.count 10 s.data.toList≤20000;omega
    clear hrs BH hst hi
    go_upto_region 19 with(first
      | (go_at_call 10;(with_reducible refine(KP.out _ ng.out).mono ?_);rintro e7 w7 ⟨rfl,ku⟩;have kF:=hide (ng.out.trans (ku.mono ng.out.size));clear ku)
      | (go_at_call 10;(with_reducible refine(KQ.out _ (kF.out.alloc kF.out.size _)).mono ?_);rintro e8 w8 ⟨A8,n8,k8,er8,at8,rfl,zO⟩;have nN:w8.cell? ⟨w7.heap.size,0,none⟩=some (.int .i64 210):=(zO.cell (p:=⟨w7.heap.size,0,none⟩) (by simp)).trans (by rw[Lib.cell_of_heap (heap_alloc_new w7 _)];rfl);have zQ:w8.cell? ⟨w7.heap.size,1,none⟩=some (.int .i64 i):=(zO.cell (p:=⟨w7.heap.size,1,none⟩) (by simp)).trans (by rw[Lib.cell_of_heap (heap_alloc_new w7 _)];rfl);have Ea:=(fun o=>lT (o:=o) nN);have Pm:=(fun o=>lT (o:=o) zQ);have sS:=hide ((kF.out.alloc kF.out.size _).trans (zO.mono (kF.out.alloc kF.out.size _).size));clear zO))
    go_upto_region 21 with(go_at_call 10;(with_reducible refine(xg.out _ (sS.out.alloc sS.out.size _)).mono ?_);rintro e9 w9 ⟨rfl,kM⟩;have Pn:w9.cell? ⟨w7.heap.size,0,none⟩=some (.int .i64 210):=(kM.cell (p:=⟨w7.heap.size,0,none⟩) (block_lt_of_cell (lT nN))).trans (lT nN);have Po:w9.cell? ⟨w7.heap.size,1,none⟩=some (.int .i64 i):=(kM.cell (p:=⟨w7.heap.size,1,none⟩) (block_lt_of_cell (lT zQ))).trans (lT zQ);have Zl:=(fun o=>lT (o:=o) Pn);have Zm:=(fun o=>lT (o:=o) Po);clear Ea Pm nN zQ;have zS:=hide ((sS.out.alloc sS.out.size _).trans (kM.mono (sS.out.alloc sS.out.size _).size));clear kM)
    go_quiet ((go_at_call 25;(with_reducible refine(Tryz.strings_Count_one s 10 _).mono ?_);rintro e10 w10 ⟨rfl,rfl⟩;exact⟨rfl,_,rfl⟩))
    go_wp2_with fail
    go_ret;exact⟨rfl,bW (zS.out.alloc zS.out.size _) _⟩
  · obtain⟨lZ,hlin⟩:=Ku hrs
    have KP:Hid (∀W:World,Below w.heap.size w W→Calls Tryz.prog 10 #[.string s] W fun e w'=>∃(l3:List dh) (A4:Option Addr) (k4:Nat),l3.map (·.c)=Pj∧e = .returned (.tuple #[.slice A4 l3.length k4,.agg #[.int .i64 0,.int .i64 0]])∧fB W.heap.size w' (.slice A4 l3.length k4) l3∧Below W.heap.size W w'):=hide fun W hW=>(HP.out W s hW (by omega)).mono fun e w' hp=>hp.ok (by omega) hrs;have KQ:Hid (∀W:World,Below w.heap.size w W→Calls Tryz.prog 10 #[.string t] W fun e w'=>∃(A:Option Addr) (n k:Nat) (er at_:Int),e = .returned (.tuple #[.slice A n k,.agg #[.int .i64 er,.int .i64 at_]])∧Below W.heap.size W w'∧lu W w' t A n k er at_):=hide fun W hW=>(HP.out W t hW (by omega)).mono fun e w' hp=>hp.all (by omega);have Zn:=hide lZ;have HLn:=hide hlin;have HRs:=hide hrs;clear lZ hlin hrs
    go_upto_region 22 with(first
      | (go_at_call 10;(with_reducible refine(KP.out _ ng.out).mono ?_);rintro e7 w7 ⟨l3,A4,k4,BR,rfl,hrow3,ku⟩;have Pq:=hide BR;have HW3:=hide hrow3.rd;have kF:=hide (ng.out.trans (ku.mono ng.out.size));clear ku BR hrow3)
      | (go_at_call 10;(with_reducible refine(KQ.out _ (kF.out.alloc kF.out.size _)).mono ?_);rintro e8 w8 ⟨A8,n8,k8,er8,at8,rfl,zO,IK⟩;have nN:w8.cell? ⟨w7.heap.size,0,none⟩=some (.int .i64 0):=(zO.cell (p:=⟨w7.heap.size,0,none⟩) (by simp)).trans (by rw[Lib.cell_of_heap (heap_alloc_new w7 _)];rfl);have Ea:=(fun o=>lT (o:=o) nN);have sS:=hide ((kF.out.alloc kF.out.size _).trans (zO.mono (kF.out.alloc kF.out.size _).size));have JS:=hide IK;have Oo:=hide ((HW3.out.below (az _ _)).below zO);clear zO IK))
    have kz:=hide (sS.out.alloc sS.out.size (.cells #[.int .i64 er8,.int .i64 at8] 26));have Pv:=hide (JS.out.below (az w8 (.cells #[.int .i64 er8,.int .i64 at8] 26)));have Px:=hide (Oo.out.below (az w8 (.cells #[.int .i64 er8,.int .i64 at8] 26)));have IL:Hid ((w8.alloc (.cells #[.int .i64 er8,.int .i64 at8] 26)).rangeAt w8.heap.size 0 [.int .i64 er8,.int .i64 at8]):=hide (wK rfl [.int .i64 er8,.int .i64 at8] _);clear nN Ea sS JS Oo kF HW3 KP KQ ng;generalize w8.alloc (.cells #[.int .i64 er8,.int .i64 at8] 26)=Wa at kz Pv Px IL⊢;generalize w8.heap.size=F at IL⊢
    go_upto_region 24 with(go_at_call 26;(with_reducible refine(NR 10 (by omega) (Zj.out _ kz.out)).mono ?_);rintro e9 w9 ⟨rfl,rfl⟩)
    have hbs:=az Wa (.cells ((wordsOf 10 s).map Value.string).toArray 9);have zL:=hide (kz.out.trans (hbs.mono kz.out.size));have Py:=hide (Pv.out.below hbs);have Pz:=hide (Px.out.below hbs);have KR:Hid ((Wa.alloc (.cells ((wordsOf 10 s).map Value.string).toArray 9)).rangeAt F 0 [.int .i64 er8,.int .i64 at8]):=hide (fun j v hv=>(hbs.cell (p:=⟨F,0+j,none⟩) (block_lt_of_cell (IL.out j v hv))).trans (IL.out j v hv));have IM:Hid ((Wa.alloc (.cells ((wordsOf 10 s).map Value.string).toArray 9)).rangeAt Wa.heap.size 0 ((wordsOf 10 s).map Value.string)):=hide (wK rfl _ _);have UR:Wa.heap.size<(Wa.alloc (.cells ((wordsOf 10 s).map Value.string).toArray 9)).heap.size:=by simp
    have KT:=hide UR;have hwl:(wordsOf 10 s).length≤20001:=by
      have h0:=II 10 s;have h1:=List.count_le_length (l:=s.data.toList) (a:=(10:UInt8));have h2:s.data.toList.length=s.size:=Array.length_toList;have h3:Lib.countByte s.data.toList 10=List.count 10 s.data.toList:=rfl;omega
    clear hbs kz Pv Px IL UR;generalize Wa.alloc (.cells ((wordsOf 10 s).map Value.string).toArray 9)=Wb at zL Py Pz KR IM KT⊢;generalize Wa.heap.size=G at IM KT⊢;obtain⟨ws,hws⟩:∃ws,ws=wordsOf 10 s:=⟨_,rfl⟩;rw[←hws]at IM HLn hwl⊢;have HWs:=hide hws;clear hws
    go_upto_block 2 with fail
    go_cut [19,21]from 126 to 144 (fun v i wx=>wx.ownsRow Wb.heap.size 9 1 v (bI ws).length ((bI ws).map .string)∧Below Wb.heap.size Wb wx)
    case first =>
      go_wp2_with fail
      go_loopg [19,21] ws.length (fun g v i wr=>∃q:Nat,q≤ws.length∧g=ws.length-q∧i = .int .i64 q∧Hid (wr.ownsRow Wb.heap.size 9 1 v (bI (ws.take q)).length ((bI (ws.take q)).map .string))∧Hid (Below Wb.heap.size Wb wr))
      case atStart=>exact⟨0,Nat.zero_le _,by omega,rfl,hide (World.ownsRow_nil _ _ _ _),hide (Below.refl _ _)⟩
      case round =>
        obtain⟨q,hq,hg,rfl,HV,HB⟩:=hrel;by_cases hlt:q<ws.length
        · have hcx:wr.cell? ⟨G,q,none⟩=some (.string ws[q]):=(HB.out.cell (p:=⟨G,q,none⟩) KT.out).trans (by have h1:=IM.out q (.string ws[q]) (by rw[List.getElem?_map,List.getElem?_eq_getElem hlt];rfl);rwa [Nat.zero_add]at h1)
          have hst:=Zf hlt;generalize ws[q]=x at hcx hst;by_cases h0:x.size=0
          · have hx0:x={data:=#[]}:=ByteArray.ext (Array.eq_empty_of_size_eq_zero h0)
            rw[if_pos h0,List.append_nil]at hst;rw[←hst]at HV;rw[hx0]at hcx;clear hst h0 hx0
            go_wp2_with fail
            go_roundg (ws.length-(q+1))
            case rel=>exact⟨q+1,by omega,rfl,by go_num,HV,HB⟩
            case measure=>omega
          · have hne:x.toList.isEmpty=false:=by rw[Bool.eq_false_iff,ne_eq,List.isEmpty_iff,lH];omega
            rw[if_neg h0]at hst;have xW:=hide hst;have hlc:(bI (ws.take q)).length≤20001:=aI (aI (List.length_filter_le _ _) (List.length_take_le _ _)) (aI hq hwl);clear hst h0;obtain⟨Av,kv,rfl⟩:=iw HV.out
            go_upto_region 28 with fail
            clear hne;refine wp_region_lit ?_;refine sk ?_;refine sk ?_;refine sk ?_;refine sk (v:= .pointer (some ⟨G,q,none⟩)) ?_;refine sk ?_;refine sw (v:= .slice (some ⟨wr.heap.size,0,none⟩) 1 1) (w':=wr.alloc (.cells #[.string x] 9)) ?_;have hba:=az wr (.cells #[.string x] 9);have PD:=hide (zap HV.out (w':=wr.alloc (.cells #[.string x] 9)) fun bb hb=>hba.block bb (zag HV.out bb hb).2);have kz:=hide (HB.out.alloc HB.out.size (.cells #[.string x] 9));refine wW Wb.heap.size 9 Tryz.underlying34 Kz rfl (by decide) PD.out (B:=some ⟨wr.heap.size,0,none⟩) (m:=1) (c:=1) (news:=[.string x]) (fun e=>by cases e) rfl (fun ad e=>by injection e with e;subst e;intro j u hu;rw[Addr.add_lit,Nat.zero_add,Lib.cell_of_heap (heap_alloc_new wr _)];simpa using hu) (by intro u hu;simp at hu;subst hu;rfl) (by unfold maxLen;omega) (by omega) kz.out.size ?_;intro v1 w5 nM jY rW;have dV:=hide (kz.out.grown jY kz.out.size fun kk hkk=>(zag PD.out kk (iV.2 hkk)).1);have HV5:Hid (w5.ownsRow Wb.heap.size 9 1 v1 (bI (ws.take (q+1))).length ((bI (ws.take (q+1))).map .string)):=hide (by rw[xW.out,aJ,List.map_append];exact nM);clear nM jY rW hba PD kz HV HB hcx xW hlc;refine sk ?_;refine wpList_nil ?_
            go_wp2_with fail
            go_roundg (ws.length-(q+1))
            case rel=>exact⟨q+1,by omega,rfl,by go_num,HV5,dV⟩
            case measure=>omega
        · have hqe:q=ws.length:=by omega
          have HE:=hide (show wr.ownsRow Wb.heap.size 9 1 _ (bI ws).length ((bI ws).map .string)by have h1:=HV.out;rw[hqe,List.take_length]at h1;exact h1);clear hqe
          go_wp2_with fail
          go_meet
          exact⟨HE.out,HB.out⟩
    case rest =>
    obtain⟨hV,hB⟩:=hcut;have hln:bI ws=l3.map fun it=>ah it.c:=by rw[←HLn.out,←Pq.out,List.map_map];rfl
    have hsub :∀it∈l3,aQ it.c∧iM it.c:=fun it hi=>by
      have h1:aQ it.c:=Zn.out it.c (by rw[←Pq.out];exact List.mem_map_of_mem hi);have h2:ah it.c∈bI ws:=by rw[hln];exact List.mem_map_of_mem (f:=fun it:dh=>ah it.c) hi
      have h3:ah it.c∈wordsOf 10 s:=by rw[←HWs.out];exact(List.mem_filter.1 h2).1
      exact⟨h1,rQ h1 (aI (LK h3).1 (by omega))⟩
    have uV:=hide hsub;have hl3:l3.length≤20001:=by
      have h1:(bI ws).length≤ws.length:=List.length_filter_le _ _;rw[hln,List.length_map]at h1;omega
    rw[hln,List.length_map,List.map_map]at hV;have nz:=hV;clear hV hln hsub hwl IM KT;obtain⟨Av,kv,rfl⟩:=iw nz;have sN:=hide nz;have HBc:=hide (zL.out.trans (hB.mono zL.out.size));have PE:=hide (Py.out.below hB);have IP:=hide (Pz.out.below hB);have KU:Hid (wc.rangeAt F 0 [.int .i64 er8,.int .i64 at8]):=hide (fun j v hv=>(hB.cell (p:=⟨F,0+j,none⟩) (block_lt_of_cell (KR.out j v hv))).trans (KR.out j v hv));clear nz hB zL Py Pz KR
    go_upto_block 4 with fail
    generalize wc=Wc at sN HBc PE IP KU⊢
    go_cut [22]from 149 to 165 (fun i wx=>Below Wc.heap.size Wc wx)
    case first =>
      go_wp2_with fail
      go_loopg [22] l3.length (fun g i wr=>∃q:Nat,q≤l3.length∧g=l3.length-q∧i = .int .i64 q∧Hid (Below Wc.heap.size Wc wr))
      case atStart=>exact⟨0,Nat.zero_le _,by omega,rfl,hide (Below.refl _ _)⟩
      case round =>
        obtain⟨q,hq,hg,rfl,HB⟩:=hrel;by_cases hlt:q<l3.length
        · obtain⟨g,hA,it,hit,hr⟩:=IP.out.at_ rfl hlt
          subst hA;have hmem:it∈l3:=List.mem_of_getElem? hit;have hC:=IP.out.2 it hmem;obtain⟨lZ,hsz⟩:=uV.out it hmem;obtain⟨gv,rfl⟩:∃gv,Av=some ⟨gv,0,none⟩:=by
            rcases sN.out.2 with⟨_,e⟩|⟨gv,cap,cur,e,_⟩
            · omega
            · injection e with e;exact⟨gv,e⟩
          have hx:Wc.cell? ⟨gv,q,none⟩=some (.string (ah it.c)):=by
            have h1:=sN.out.cellAt q (by omega);rw[h1,List.getElem?_map,hit];rfl
          have hS:(fun W:World=>W.rangeAt g (q*20) (ak it.c it.x it.A it.n)∧W.cell? ⟨gv,q,none⟩=some (.string (ah it.c))) wr.drew:=⟨fun j v hv=>(HB.out.cell (p:=⟨g,q*20+j,none⟩) (block_lt_of_cell (hr j v hv))).trans (hr j v hv),(HB.out.cell (p:=⟨gv,q,none⟩) (block_lt_of_cell hx)).trans hx⟩;have UT:=hide (hC.below HB.out.drew);have UU:=hide (HBc.out.trans (HB.out.drew.mono HBc.out.size));have xk:=hide HB.out.drew;have Hl:=hide (MV lZ);have Hz:=hide hsz;clear hmem hit hC lZ hsz hx hr HB
          go_upto_region 34 with fail
          refine wp_region_held_drew (S:=fun W:World=>W.rangeAt g (q*20) (ak it.c it.x it.A it.n)∧W.cell? ⟨gv,q,none⟩=some (.string (ah it.c))) (by kernel_rfl) hS (fun hSD=>?_);generalize wr.drew=D at hSD UT UU xk⊢;clear hS;refine dC 0 hSD ?_;refine dC 1 hSD ?_;refine dC 2 (v:= .pointer (some ⟨g,q*20,none⟩)) hSD ?_;refine dC 3 hSD ?_ (hy:=fun W hW=>GZ rfl rfl hW.1 Tryz.underlying46 rfl mg);refine dC 5 hSD ?_;refine dC 6 hSD ?_;refine dC 7 hSD ?_;refine dC 8 hSD ?_;refine G6 4 ?_;refine bc (Ux UT.out Hz.out (HT.out.below UU.out)) ?_;rintro e w10 ⟨rfl,nJ⟩;rw[Hl.out];refine⟨_,rfl,?_⟩;have PG:(fun W:World=>W.rangeAt g (q*20) (ak it.c it.x it.A it.n)∧W.cell? ⟨gv,q,none⟩=some (.string (ah it.c))) w10:=⟨fun j v hv=>(nJ.cell (p:=⟨g,q*20+j,none⟩) (block_lt_of_cell (hSD.1 j v hv))).trans (hSD.1 j v hv),(nJ.cell (p:=⟨gv,q,none⟩) (block_lt_of_cell hSD.2)).trans hSD.2⟩;refine⟨PG,?_⟩;have Zo:=hide (xk.out.trans (nJ.mono xk.out.size));clear nJ hSD;refine G6 9 ?_;refine bw ?_;refine⟨PG,?_⟩;refine wpAnyH_done (by kernel_rfl) ?_ _;clear PG;rename_i hK;refine hK _ _ ?_;clear hK
          go_wp2_with fail
          go_roundg (l3.length-(q+1))
          case rel=>exact⟨q+1,by omega,rfl,by go_num,Zo⟩
          case measure=>omega
        · have hqe:q=l3.length:=by omega
          clear hqe
          go_wp2_with fail
          go_meet
          exact HB.out
    case rest =>
    have xk:=hide (HBc.out.trans (hcut.mono HBc.out.size));have UW:=hide (PE.out.below hcut);have UX:=hide (IP.out.below hcut);have Eb:Hid (wc.rangeAt F 0 [.int .i64 er8,.int .i64 at8]):=hide (fun j v hv=>(hcut.cell (p:=⟨F,0+j,none⟩) (block_lt_of_cell (KU.out j v hv))).trans (KU.out j v hv));have hst:(s++⟨#[10]⟩++t).size≤262144:=by simp only[ByteArray.size_append,show(⟨#[10]⟩:ByteArray).size=1 from rfl];omega
    have hcb:Lib.countByte s.data.toList 10≤20000:=by
      have h1:=List.count_le_length (l:=s.data.toList) (a:=(10:UInt8));have h2:s.data.toList.length=s.size:=Array.length_toList;show List.count 10 s.data.toList≤20000;omega
    clear hcut HBc PE IP KU;rcases UW.out with⟨i,hrt,rfl,rfl,rfl⟩|⟨l8,hrt,rfl,rfl,rfl,BI⟩
    · have hi:=Kt hrt
      have hwt:(wordsOf 10 t).length≤20001:=by
        have h0:=II 10 t;have h1:=List.count_le_length (l:=t.data.toList) (a:=(10:UInt8));have h2:t.data.toList.length=t.size:=Array.length_toList;have h3:Lib.countByte t.data.toList 10=List.count 10 t.data.toList:=rfl;omega
      have BH:Hid (rowsOf 0 (wordsOf 10 (s++⟨#[10]⟩++t)) = .error (i+(wordsOf 10 s).length)):=hide (by rw[Oq,HRs.out,hrt];rfl);have hsum:((i+(wordsOf 10 s).length:Nat):Int)=(i:Int)+1+(Lib.countByte s.data.toList 10:Nat):=by have:=II 10 s;omega
      have xg:Hid (∀W:World,Below w.heap.size w W→Calls Tryz.prog 10 #[.string (s++{data:=#[10]}++t)] W fun e w'=>e = .returned (.tuple #[.slice none 0 0,.agg #[.int .i64 210,.int .i64 ((i:Int)+1+(Lib.countByte s.data.toList 10:Nat))]])∧Below W.heap.size W w'):=hide fun W hW=>(HP.out W _ hW (by omega)).mono fun e w' hp=>by rw[←hsum];exact hp.err hst BH.out
      have hi2:(i:Int)≤20001:=by omega
      have hi3:0≤(i:Int):=by omega
      clear hrt hsum hst hi hwt BH
      go_upto_region 37 with(go_at_call 10;(with_reducible refine(xg.out _ xk.out).mono ?_);rintro e9 w9 ⟨rfl,kM⟩;have c0:w9.cell? ⟨F,0,none⟩=some (.int .i64 210):=(kM.cell (p:=⟨F,0,none⟩) (block_lt_of_cell (Eb.out 0 _ rfl))).trans (Eb.out 0 _ rfl);have c1:w9.cell? ⟨F,1,none⟩=some (.int .i64 i):=(kM.cell (p:=⟨F,1,none⟩) (block_lt_of_cell (Eb.out 1 _ rfl))).trans (Eb.out 1 _ rfl);have f0:=(fun o=>lT (o:=o) c0);have f1:=(fun o=>lT (o:=o) c1);have zS:=hide (xk.out.trans (kM.mono xk.out.size));clear kM)
      go_upto_region 38 with fail
      go_quiet ((go_at_call 25;(with_reducible refine(Tryz.strings_Count_one s 10 _).mono ?_);rintro e10 w10 ⟨rfl,rfl⟩;exact⟨rfl,_,rfl⟩))
      go_wp2_with fail
      go_ret;exact⟨rfl,bW (zS.out.alloc zS.out.size _) _⟩
    · have Ci:l8.length≤20001:=by
        have h1:=(Ku hrt).2;have h2:=congrArg List.length h1;have h3:(bI (wordsOf 10 t)).length≤(wordsOf 10 t).length:=List.length_filter_le _ _;have h4:=II 10 t;have h5:=List.count_le_length (l:=t.data.toList) (a:=(10:UInt8));have h6:t.data.toList.length=t.size:=Array.length_toList;have h7:Lib.countByte t.data.toList 10=List.count 10 t.data.toList:=rfl;rw[List.length_map,List.length_map]at h2;omega
      have BH:Hid (rowsOf 0 (wordsOf 10 (s++⟨#[10]⟩++t)) = .ok (Pj++l8.map (·.c))):=hide (by rw[Oq,HRs.out,hrt];rfl);have xg:Hid (∀W:World,Below w.heap.size w W→Calls Tryz.prog 10 #[.string (s++{data:=#[10]}++t)] W fun e w'=>∃(l9:List dh) (A9:Option Addr) (k9:Nat),l9.map (·.c)=Pj++l8.map (·.c)∧e = .returned (.tuple #[.slice A9 l9.length k9,.agg #[.int .i64 0,.int .i64 0]])∧fB W.heap.size w' (.slice A9 l9.length k9) l9∧Below W.heap.size W w'):=hide fun W hW=>(HP.out W _ hW (by omega)).mono fun e w' hp=>hp.ok hst BH.out;have H8:=hide BI.rd;clear hrt hst hcb BH BI
      go_upto_region 37 with(go_at_call 10;(with_reducible refine(xg.out _ xk.out).mono ?_);rintro e9 w9 ⟨l9,A9,k9,UY,rfl,BJ,kM⟩;have c0:w9.cell? ⟨F,0,none⟩=some (.int .i64 0):=(kM.cell (p:=⟨F,0,none⟩) (block_lt_of_cell (Eb.out 0 _ rfl))).trans (Eb.out 0 _ rfl);have f0:=(fun o=>lT (o:=o) c0);have zS:=hide (xk.out.trans (kM.mono xk.out.size));have UZ:=hide (UX.out.below kM);have U0:=hide (H8.out.below kM);have KL:=hide BJ.rd;have Zp:=hide UY;clear kM BJ UY)
      go_upto_region 39 with fail
      have hbf:=az w9 (.cells #[.int .i64 0,.int .i64 0] 26);have DI:=hide (zS.out.trans (hbf.mono zS.out.size));have KW:=hide (UZ.out.below hbf);have KX:=hide (U0.out.below hbf);have U1:=hide (KL.out.below hbf);have cD:(w9.alloc (.cells #[.int .i64 0,.int .i64 0] 26)).cell? ⟨w9.heap.size,0,none⟩=some (.int .i64 0):=by rw[Lib.cell_of_heap (heap_alloc_new w9 _)];rfl
      clear hbf c0 f0 zS UZ U0 KL UX UW Eb H8 xk;generalize w9.alloc (.cells #[.int .i64 0,.int .i64 0] 26)=Wx at DI KW KX U1 cD⊢;generalize w9.heap.size=Db at cD⊢;refine wp_region_lit ?_;refine sk ?_;refine sk ?_;refine sk ?_;refine sk ?_;refine sk ?_;refine sw (v:= .slice (some ⟨Wx.heap.size,0,none⟩) 0 0) (w':=Wx.alloc (.cells #[] 46)) ?_;have hba:=az Wx (.cells #[] 46);have Zq:Hid ((Wx.alloc (.cells #[] 46)).ownsRow Wx.heap.size 46 20 (.slice (some ⟨Wx.heap.size,0,none⟩) 0 0) 0 []):=hide (World.ownsRow_lit Wx #[] 0 (aC _) (by decide) rfl);have U2:=hide (UI (KW.out.below hba).1);refine sk ?_;refine wW Wx.heap.size 46 Tryz.underlying23 J4 rfl (by decide) Zq.out (B:=A4) (m:=l3.length) (c:=k4) (news:=l3.flatMap dh.cells) U2.out.1 KW.out.1.1 U2.out.2 (UJ l3) (by unfold maxLen;omega) (by omega) (by simp) ?_;intro v1 w10 nM jY rW;have IQ:Hid (Below Wx.heap.size Wx w10):=hide (hba.grown jY (by simp) fun kk hkk=>by have hm:kk∈ob (Value.slice (some ⟨Wx.heap.size,0,none⟩) 0 0):=iV.2 hkk;simp[ob,Value.ownBlock]at hm;omega);have U3:=hide (UI (KX.out.below IQ.out).1);refine sk ?_;refine wW Wx.heap.size 46 Tryz.underlying23 J4 rfl (by decide) nM (B:=A8) (m:=l8.length) (c:=k8) (news:=l8.flatMap dh.cells) U3.out.1 KX.out.1.1 U3.out.2 (UJ l8) (by unfold maxLen;omega) (by omega) IQ.out.size ?_;intro v2 yh zM wY zN;have hown:yh.ownsRow Wx.heap.size 46 20 v2 (l3++l8).length ((l3++l8).flatMap dh.cells):=by
        rw[aJ,List.flatMap_append]
        simpa using zM
      obtain⟨hRR,Ec⟩:=wX KW.out KX.out rfl (by simp[ob,Value.ownBlock]) jY rW wY zN hown;obtain⟨Av2,kv2,rfl⟩:=iw hRR.1;refine sc (UD (U1.out.below Ec) hRR) ?_;rintro e12 w12 ⟨⟨b12,rfl,Ee⟩,zT⟩;obtain rfl:b12=true:=Ee.2 (by rw[Zp.out,List.map_append,Pq.out]);refine⟨_,rfl,?_⟩;refine sk ?_;refine sk ?_;refine wpList_nil ?_
      go_wp2_with fail
      go_ret;exact⟨rfl,DI.out.trans ((Ec.trans (zT.mono Ec.size)).mono DI.out.size)⟩
end
end Go.Proofs.YtjjaojnglnpgaaaGreatDoor
