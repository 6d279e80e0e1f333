/- Part 18 of what commuteFiles_cardUpto rests on. -/
import Derived.Test.YtialngdffhmobaaGreatDoorShelf
import Derived.Lib.IndexLaws
import Derived.Test.YtialngdffhmobaaGreatDoorV15
import Derived.Test.YtialngdffhmobaaGreatDoorV16
import Derived.Test.YtialngdffhmobaaGreatDoorV00
set_option linter.unusedVariables false
set_option linter.unusedSimpArgs false
set_option maxHeartbeats 16000000
set_option maxRecDepth 1000000
namespace Go.Proofs.YtialngdffhmobaaGreatDoor
section
open Go.RowKit
theorem IV(last:Bool)(s:List UInt8){p:Int}(hp:Lib.indexByte s 10=p):lZ last s↔s≠[]∧¬(0≤p∧p<s.length-1)∧(p<0→last=true):=by
 have hge:=Lib.indexByte_ge s 10;rw[hp]at hge;unfold lZ;by_cases h0:p<0
 ·have e:p = -1:=by omega
  subst e;have hn:=Lib.indexByte_none hp;constructor
  ·rintro⟨h1,h2,h3⟩;refine⟨h1,by omega,fun _=>?_⟩;rcases h3 with h3|h3
   ·exact h3
   ·rw[List.getLast?_eq_getElem?]at h3;exact absurd h3 (hn _)
  ·rintro⟨h1,_,h3⟩;exact⟨h1,fun i _=>hn i,.inl (h3 (by omega))⟩
 ·obtain⟨o,rfl⟩:=Int.eq_ofNat_of_zero_le (a:=p) (by omega);obtain⟨hs,hlt⟩:=Lib.indexByte_some hp;have hol:o<s.length:=(List.getElem?_eq_some_iff.1 hs).1;constructor
  ·rintro⟨h1,h2,h3⟩;refine⟨h1,fun h=>h2 o (by omega) hs,by omega⟩
  ·rintro⟨h1,h2,_⟩;have e:o=s.length-1:=by omega
   refine⟨h1,fun i hi=>hlt i (by omega),.inr ?_⟩;rw[List.getLast?_eq_getElem?,←e];exact hs
theorem IW{l:List ByteArray}{k:Nat}(hk:k<l.length){s:ByteArray}(hs:l[k]?=some s):LinesOk (l.drop k)↔lZ (decide (k+1=l.length)) s.data.toList∧LinesOk (l.drop (k+1)):=by
 have e:l[k]=s:=by
  have:=List.getElem?_eq_getElem hk;rw[this]at hs;injection hs
 rw[List.drop_eq_getElem_cons hk,LinesOk,e];have:(l.drop (k+1)).isEmpty=decide (k+1=l.length):=by
  rw[Bool.eq_iff_iff];simp;omega
 rw[this]
theorem Mc{l:List ByteArray}{k:Nat}(h:LinesOk l↔LinesOk (l.drop k))(hk:k<l.length){s:ByteArray}(hs:l[k]?=some s){p:Int}(hp:Lib.indexByte s.data.toList 10=p)
  (hok :¬s.toList=[]∧¬(0≤p∧p<(s.size:Int)-1)∧(p<0→k+1=l.length)):LinesOk l↔LinesOk (l.drop (k+1)):=by
 rw[ByteArray.toList_eq]at hok;have hl:s.data.toList.length=s.size:=by simp
 rw[←hl]at hok;rw[h,IW hk hs,IV _ _ hp];simp only[decide_eq_true_eq];exact⟨fun h=>h.2,fun h=>⟨hok,h⟩⟩
theorem sD{l:List ByteArray}{k:Nat}(h:LinesOk l↔LinesOk (l.drop k))(hk:k<l.length){s:ByteArray}(hs:l[k]?=some s){p:Int}(hp:Lib.indexByte s.data.toList 10=p)
  (hok :¬(¬s.toList=[]∧¬(0≤p∧p<(s.size:Int)-1)∧(p<0→k+1=l.length))):¬LinesOk l:=by
 rw[ByteArray.toList_eq]at hok;have hl:s.data.toList.length=s.size:=by simp
 rw[←hl]at hok;rw[h,IW hk hs,IV _ _ hp];simp only[decide_eq_true_eq];exact fun h=>hok h.1
theorem qx{l:List ByteArray}{k:Nat}(h:LinesOk l↔LinesOk (l.drop k))(hk :¬k<l.length):LinesOk l:=by
 rw[h,List.drop_eq_nil_of_le (by omega)];trivial
theorem IX{S:Nat→Prop}{A:Option Addr}{c:Nat}{l:List ByteArray}{w:World}(hl:bU S w A l):
    Calls Tryz.prog 103 #[.slice A l.length c] w fun e w'=>ay (LinesOk l) e∧w=w':=by
  have hl3:=hl.2.2;have Hl:=hide hl;clear hl;go_enter Tryz.func103,Tryz.ntmps103
  go_wp2_with fail
  go_loop [8,3,4,5,15,29] (fun i _ _ _ _ _=>∃k:Nat,k≤l.length∧i = .int .i64 k∧Hid (LinesOk l↔LinesOk (l.drop k))) (fun i _ _ _ _ _=>l.length-(intOf i).toNat)
  case atStart=>exact⟨0,Nat.zero_le _,rfl,hide Iff.rfl⟩
  case round =>
    obtain⟨k,hk,rfl,hall⟩:=hrel;by_cases hlt:k<l.length
    · obtain⟨b,o,rfl,h1⟩:=Hl.out.1.at_ (j:=k) (by simpa using hlt)
      simp only[List.getElem_map]at h1;have hsz:=Hl.out.2.1 _ (List.getElem_mem hlt);have E:=hide (show l[k]?=some l[k]by simp[hlt]);generalize l[k]=s at h1 hsz E;have hge:=Lib.indexByte_ge s.data.toList 10;obtain⟨p,hp⟩:∃p,Lib.indexByte s.data.toList 10=p:=⟨_,rfl⟩;rw[hp]at hge;have hup:p<s.size+1:=by
        rcases Int.lt_or_le p 0 with h|h
        · omega
        · obtain⟨q,rfl⟩:=Int.eq_ofNat_of_zero_le h
          have:=(List.getElem?_eq_some_iff.1 (Lib.indexByte_some hp).1).1;simp at this;omega
      have Hp:=hide hp;clear hp
      go_wp2_with(go_at_call 174;refine(Tryz.strings_IndexByte s 10 _).mono ?_;rintro e w' ⟨rfl,rfl⟩;simp only[show((10:Int).toNat.toUInt8)=10 from rfl,Hp.out])
      all_goals first
        | (go_ret
           exact⟨ay.no (sD hall.out hlt E.out Hp.out (by go_tidy;clear hall Hp E Hl;grind)),rfl⟩)
        | (go_round
           case rel=>exact⟨k+1,by omega,by go_num,hide (Mc hall.out hlt E.out Hp.out (by go_tidy;clear hall Hp E Hl;grind))⟩
           case measure=>simp[intOf];omega)
    · go_wp2_with fail
      go_ret;exact⟨ay.yes (qx hall.out hlt),rfl⟩
theorem IY{S:Nat→Prop}{x:Hh}{a:Hk}{w:World}(ha:jv S w x a):
  Calls Tryz.prog 35 #[.agg #[.int .i64 a.at_,.slice x.oA a.old.length x.oc,.slice x.nA a.new.length x.nc]] w
   fun e w'=>ay (dN a) e∧Below w.heap.size w w':=by
 have h1:=ha.at_;unfold aU at h1;have Ha:=hide ha;have fQ:Hid (dN a↔0≤a.at_∧a.at_≤1099511627776∧LinesOk a.old∧LinesOk a.new∧a.old≠a.new):=hide Iff.rfl;clear ha;go_enter Tryz.func35,Tryz.ntmps35
 go_wp2_with(first
  | (go_at_call 103;(with_reducible refine(IX (Ha.out.old.below (bg _ _))).mono ?_);rintro e w1 ⟨⟨b1,rfl,hb⟩,rfl⟩;have Hb1:=hide hb;clear hb)
  | (go_at_call 103;(with_reducible refine(IX (Ha.out.new.below (bg _ _))).mono ?_);rintro e w1 ⟨⟨b2,rfl,hb⟩,rfl⟩;have Hb2:=hide hb;clear hb)
  | (go_at_call 104;(with_reducible refine(Ef (Ha.out.old.below (bg _ _)) (Ha.out.new.below (bg _ _))).mono ?_);rintro e w1 ⟨⟨b3,rfl,hb⟩,q,rfl⟩;have Hb3:=hide hb;clear hb))
 all_goals
  go_ret;go_tidy;refine⟨ay.mk ?_,?_⟩
  ·rw[fQ.out]
   first
    | (have h1:=Hb1.out;have h2:=Hb2.out;have h3:=Hb3.out;clear Hb1 Hb2 Hb3 Ha fQ;grind)
    | (have h1:=Hb1.out;have h2:=Hb2.out;clear Hb1 Hb2 Ha fQ;grind)
    | (have h1:=Hb1.out;clear Hb1 Ha fQ;grind)
    | grind
  ·first
    | exact bg _ _
    | exact dM (bg _ _) _
theorem sF{w:World}{KA:Option Addr}{c k:Nat}{n:Int}{t:ByteArray}{ks:Fo}(h:bu Any w KA ks)(hc:ks.len≤c)(hc2:c≤9223372036854775807)(hb:(fC ks).length≤549755813888):
  Calls Tryz.prog 250 #[.agg #[.int .u8 k,.string t,.int .i64 n,.slice KA ks.len c],.slice none 0 0] w fun e w'=>(∃KA c L,e = .returned (.tuple #[.agg #[.int .u8 k,.string t,.int .i64 n,.slice KA ks.len c],.bool true])∧bP w' KA c ks L∧New w w' L)∧Below w.heap.size w w':=by
 have H:=hide h;clear h;go_enter Tryz.func250,Tryz.ntmps250
 go_wp2_with(first
  | (go_at_call 272;(with_reducible refine(rU _ _).mono ?_);rintro e1 w1 ⟨rfl,rfl⟩)
  | (go_at_call 273;(with_reducible refine(L9 (H.out.below (dW _ _)) hc hc2 hb).mono ?_);rintro e2 w2 ⟨EN,c2,L2,rfl,hin,hnw,hB⟩;obtain⟨hy2,hg2,hu2⟩:=aY (N:=w.heap.size+1) hB (by simp);have rZ:=hide hin;have su:=hide hnw;have HB2:Hid (Below w.heap.size w w2):=hide (qY hB);clear hin hB hnw))
 have Dn:=(hy2 0).trans (World.cell?_alloc2_new _ _ _ _);have Dp:=(hy2 1).trans (World.cell?_alloc2_new _ _ _ _);have Dq:=(hy2 2).trans (World.cell?_alloc2_new _ _ _ _);have Dt:=(hy2 3).trans (World.cell?_alloc2_new _ _ _ _);simp only[List.getElem?_toArray,List.getElem?_cons_zero,List.getElem?_cons_succ]at Dn Dp Dq Dt;obtain⟨s0,s1,s2,s3⟩:=oU (x:= .int .u8 k) (y:= .string t) (z:= .int .i64 n) (u:= .slice EN ks.len c2) Dn Dp Dq Dt;refine bodyPost_ret (v:= .tuple #[.agg #[.int .u8 k,.string t,.int .i64 n,.slice EN ks.len c2],.bool true]) ?_ rfl ?_
 ·simp only[results,Tryz.results250];go_simp
 ·have hge :∀b∈L2,w.heap.size+1<b:=fun b hb=>by have:=su.out.ge b hb;simp at this;omega
  exact⟨⟨_,_,L2,rfl,rZ.out.keep fun b hb=>mX _ _ _ _ _ _ _ _ _ _ (by have:=hge b hb;omega),⟨su.out.nd,fun b hb=>by have:=hge b hb;omega,fun b hb=>by have:=su.out.lt b hb;simp[World.setCell];exact this⟩⟩,(((HB2.out.setCell (by simp) _).setCell (by simp) _).setCell (by simp) _).setCell (by simp) _⟩
structure lQ(w:World)(wr:World)(v:Value)(j:Nat)(f:Fo)(vs:List Value)(R:List (Value×Nat)):Prop where
 own:wr.ownsRow 0 152 4 v j vs
 fo:kQ wr vs (f.take j) R
 new:New w wr (ob v++lH R)
 b:Below w.heap.size w wr
theorem lQ.step{w wr w3 w4:World}{v v':Value}{j k:Nat}{t:ByteArray}{n:Int}{f ks r:Fo}{vs:List Value}{R:List (Value×Nat)}{KA:Option Addr}{c:Nat}{L:List Nat}{o1 o2:Obj}(h:lQ w wr v j f vs R)(hd:f.drop j = .cons k t n ks r)
  (h1:k<256∧t.size≤9223372036854775807∧aU n) (hB:Below wr.heap.size wr w3) (hO:bP w3 KA c ks L) (hN:New wr w3 L)
  (hown:w4.ownsRow 0 152 4 v' (j+1) (vs++[.int .u8 k,.string t,.int .i64 n,.slice KA ks.len c])) (hgr:((w3.alloc o1).alloc o2).grownBy w4 v.ownBlock) (hwh:v'.ownBlock=v.ownBlock∨v'.ownBlock=some ((w3.alloc o1).alloc o2).heap.size):
  ∃R',lQ w w4 v' (j+1) f (vs++[.int .u8 k,.string t,.int .i64 n,.slice KA ks.len c]) R':=by
 have hb2:=dW (w:=w3) o1 o2;have hs3:=hB.size;have hsz:((w3.alloc o1).alloc o2).heap.size=w3.heap.size+2:=by simp
 have hs4:=hgr.size;have hkp :∀b,b<w3.heap.size→v.ownBlock≠some b→w4.heap[b]?=w3.heap[b]?:=fun b hb hv=>(hgr.block b (by omega) (fun e=>hv e.symm)).trans (hb2.block b hb);have hnd:=List.nodup_append.1 h.new.nd;have hRv :∀b∈lH R,v.ownBlock≠some b:=fun b hb e=>hnd.2.2 b (gy.2 e) b hb rfl;have Md :∀b∈L,v.ownBlock≠some b:=fun b hb e=>by have h2:=h.new.lt b (by simp[gy,e]);have h3:=hN.ge b hb;omega
 obtain⟨ys,R2,q1,q2,rfl,q3⟩:=hO.keep (w':=w4) fun b hb=>hkp b (hN.lt b hb) (Md b hb);have hf:kQ w4 vs (f.take j) R:=(h.fo.below hB).keep fun b hb=>hkp b (aH (h.fo.lt b hb) hs3) (hRv b hb);refine⟨R++(.slice KA ks.len c,ks.len)::R2,hown,?_,?_,?_⟩
 ·rw[Fo.take_next hd];exact kQ.snoc h1 q1 q2 hf
 ·rw[Aw,Au];have hv' :∀b∈ob v',b∈ob v∨b=w3.heap.size+2:=fun b hb=>by
   rcases hwh with e|e
   ·exact .inl (gy.2 (e▸gy.1 hb))
   ·right;have:=gy.1 hb;rw[e]at this;injection this with this;omega
  have hA:New w w3 (ob v++(lH R++(ob (.slice KA ks.len c)++lH R2))):=by
   rw[←List.append_assoc];exact h.new.app hN h.b.size hs3
  have hA2:=List.nodup_append.1 hA.nd;refine⟨List.nodup_append.2 ⟨uH _,hA2.2.1,fun a ha b hb e=>?_⟩,fun b hb=>?_,fun b hb=>?_⟩
  ·rcases hv' a ha with h2|h2
   ·exact hA2.2.2 a h2 b hb e
   ·have:=hA.lt b (by simp only[List.mem_append]at hb⊢;exact .inr hb);omega
  ·rcases List.mem_append.1 hb with hb|hb
   ·rcases hv' b hb with h2|h2
    ·exact hA.ge b (by simp[h2])
    ·have:=h.b.size;omega
   ·exact hA.ge b (by simp only[List.mem_append]at hb⊢;exact .inr hb)
  ·rcases List.mem_append.1 hb with hb|hb
   ·exact(hown.lt b (gy.1 hb)).2
   ·have:=hA.lt b (by simp only[List.mem_append]at hb⊢;exact .inr hb);omega
 ·refine Below.grown (h.b.trans ((hB.mono h.b.size).trans (hb2.mono (aI h.b.size hs3)))) hgr (by have:=h.b.size;omega) (fun b hb=>h.new.ge b (by simp[gy,hb]))
theorem lQ.done{w wr:World}{v:Value}{j:Nat}{f:Fo}{vs:List Value}{R:List (Value×Nat)}(h:lQ w wr v j f vs R)(hj:j=f.len):∃A c,v = .slice A f.len c∧bP wr A c f (ob v++lH R)∧New w wr (ob v++lH R):=by
 subst hj;obtain⟨A,c,rfl⟩:=lG h.own;have hf:=h.fo;rw[Fo.take_whole]at hf;exact⟨A,c,rfl,⟨vs,R,h.own,hf,rfl,h.new.nd⟩,h.new⟩
theorem vH{w:World}{A:Option Addr}{c:Nat}{f:Fo}(h:bu Any w A f)(hc:f.len≤c)(hc2:c≤9223372036854775807)(hb:(fC f).length≤549755813888):
  Calls Tryz.prog 220 #[.slice A f.len c] w fun e w'=>(∃A c L,e = .returned (.slice A f.len c)∧bP w' A c f L∧New w w' L)∧Below w.heap.size w w':=by
 have hlen:f.len≤549755813888:=by have:=CZ f;omega
 have H:=hide h;obtain⟨i0,hi,hz0,hz1,hz2⟩:=info_parts Aq;clear h;go_enter Tryz.func220,Tryz.ntmps220
 go_wp2_with fail
 go_loopw [10,3] (fun i v wr=>∃(j:Nat) (vs:List Value) (R:List (Value×Nat)),i = .int .i64 j∧j≤f.len∧Hid (lQ w wr v j f vs R)) (fun i _ _=>f.len-(intOf i).toNat)
 case atStart=>exact⟨0,[],[],rfl,Nat.zero_le _,hide ⟨World.ownsRow_nil _ _ _ _,by cases f<;>exact⟨rfl,rfl⟩,New.nil,Below.refl _ _⟩⟩
 case round =>
  obtain⟨j,vs,R,rfl,hj,HA⟩:=hrel;by_cases hlt:j<f.len
  ·obtain⟨b,o,KA,kc,k,t,n,ks,r,rfl,hd,d0,d1,d2,d3,g1,g2,g3,g4,g5,g6,_⟩:=(H.out.below HA.out.b).at_ hlt;have hkb:=aI (ED hd) hb;have HG:=hide g6;have Hd:=hide hd;clear g6 hd
   go_wp2_with(first
    | (go_at_call 250;(with_reducible refine(sF (HG.out.below (bg _ _)) g4 g5 hkb).mono ?_);rintro e3 w3 ⟨⟨Me,c3,L3,rfl,hin,hnw⟩,hB⟩;have rZ:=hide hin;have HR3:Hid (Below wr.heap.size wr w3):=hide (aQ (bg _ _) hB);have su:Hid (New wr w3 L3):=hide (hnw.from (by simp));clear hin hB hnw)
    | (at_builtin;refine C9 _ rfl _ _ 28 rfl 152 i0 (.agg #[.int .u8 0,.string ByteArray.empty,.int .i64 0,.slice none 0 0]) 4 56 Tryz.underlying28 hi hz0 hz1 hz2 rfl (by decide) _ j vs rfl ((zN HA.out.own (fun g hg=>(HA.out.own.lt g hg).2) (HR3.out.trans ((dW _ _).mono HR3.out.size)))) ⟨w3.heap.size+1,0,none⟩ 1 1 [.int .u8 k,.string t,.int .i64 n,.slice Me ks.len c3] rfl rfl (Lu _ _ _ _ _ _ _) (by intro u hu;simp at hu;rcases hu with rfl|rfl|rfl|rfl<;>rfl) (by unfold maxLen;omega) (by omega) ?_;intro v' w4 hown hgrow hnil jh))
   obtain⟨R',hA'⟩:=HA.out.step Hd.out ⟨g1,g2,g3⟩ HR3.out rZ.out su.out hown hgrow jh;exact⟨⟨j+1,_,R',by simp,by omega,hide hA'⟩,by simp[intOf];omega⟩
  ·have hje:j=f.len:=by omega
   go_wp2_with fail
   go_ret;obtain⟨A1,c1,rfl,q1,q2⟩:=HA.out.done hje;exact⟨⟨_,_,_,rfl,q1,q2⟩,HA.out.b⟩
end
end Go.Proofs.YtialngdffhmobaaGreatDoor
