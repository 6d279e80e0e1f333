/- Part 10 of what scriptShows_cardUpto rests on. -/
import Derived.Test.YtjjaojnglnpgaaaGreatDoorShelf
import Derived.Deep.CutBlock
import Derived.Deep.DeepCutAuto
import Derived.BigQuiet
import Derived.Deep.RegionHeld
import Derived.Lib.AppendIntMem
import Derived.Shelf.Strconv.Itoa3
import Derived.Deep.Cut
import Derived.Deep.CutRange
import Derived.Lib.ItoaLen
import Derived.Test.YtjjaojnglnpgaaaGreatDoorZ02
import Derived.Test.YtjjaojnglnpgaaaGreatDoorZ01
import Derived.Test.YtjjaojnglnpgaaaGreatDoorZ03
import Derived.Test.YtjjaojnglnpgaaaGreatDoorZ05
import Derived.Test.YtjjaojnglnpgaaaGreatDoorZ00
set_option linter.unusedVariables false
set_option linter.unusedSimpArgs false
set_option maxHeartbeats 16000000
set_option maxRecDepth 1000000
namespace Go.Proofs.YtjjaojnglnpgaaaGreatDoor
section
open Go.RowKit
theorem Nq(n:Nat)(h:n<signs.size):signs[n]'h=hexD n:=by
 have h1:=vU n h;have h2:signs.data[n]?=some (signs[n]'h):=by
  rw[Array.getElem?_eq_getElem (by exact h)];rfl
 rw[h2]at h1;injection h1
theorem JE{S:Nat→Prop}{w:World}{A:Option Addr}{c:Nat}{l:List UInt8}(hb:BytesIn S w A l)(hl:l.length≤1099511627776):
  Calls Tryz.prog 46 #[.slice A l.length c] w fun e w'=>e = .returned (.string ⟨(hexL l).toArray⟩)∧Below w.heap.size w w':=by
 have Hb:=hide hb;clear hb;by_cases h0:l.length=0
 ·have hnil:l=[]:=List.length_eq_zero_iff.1 h0;subst hnil;go_enter Tryz.func46,Tryz.ntmps46
  go_wp2_with fail
  go_ret;exact⟨rfl,Below.refl _ _⟩
 ·have H0:Hid (pV w.heap.size w.heap.size (Lib.byteCells (hexT (l.take 0))) (w.alloc (.cells #[.pointer none,.slice none 0 0] 117))):=hide (Lib.fresh_isBuilder _ _ _);have YF:((l.length:Int) == 0)=false:=by rw[aK];omega
  go_enter Tryz.func46,Tryz.ntmps46
  go_wp2_with fail
  go_loopg [11] l.length (fun g i wr=>∃q:Nat,q≤l.length∧g=l.length-q∧i = .int .i64 q∧Hid (pV w.heap.size w.heap.size (Lib.byteCells (hexT (l.take q))) wr)∧Hid (Below w.heap.size w wr))
  case atStart=>exact⟨0,by omega,by omega,rfl,H0,hide (az _ _)⟩
  case round =>
   clear H0;obtain⟨q,hq,hg,rfl,HS,HB⟩:=hrel;by_cases hlt:q<l.length
   ·obtain⟨b,o,rfl,hc⟩:=(Hb.out.below HB.out).1.at_ (j:=q) (by simp[bytesV];omega);simp only[bytesV,List.getElem_map]at hc;have hx:=(l[q]).toNat_lt;have hs1:=HB.out.size;have hlen:(Lib.byteCells (hexT (l.take q))).length+2≤140737488355328:=by simp[Lib.byteCells,zZ];omega
    go_wp2_with(first
     | (go_at_call 69;(with_reducible refine(Uj w.heap.size w.heap.size _ _ _ HS.out (by omega) hs1).mono ?_);rintro e1 w1 ⟨rfl,h1,hb1,_⟩;have Iq:Hid (pV _ _ _ w1):=hide (.inr h1);have HB1:=hide (HB.out.trans hb1);have hs2:=hb1.size;clear h1 hb1)
     | (go_at_call 69;(with_reducible refine(Uj w.heap.size w.heap.size _ _ _ Iq.out (by rw[aJ];simp only[List.length_cons,List.length_nil];omega) (aI hs1 hs2)).mono ?_);rintro e2 w2 ⟨rfl,h1,hb1,_⟩;have HS2:Hid (pV _ _ _ w2):=hide (.inr h1);have HB2:=hide (HB1.out.trans hb1);clear h1 hb1))
    go_roundg (l.length-(q+1))
    case rel =>
     refine⟨q+1,by omega,rfl,by go_num,hide ?_,HB2⟩;have h:=HS2.out;rw[List.take_succ_eq_append_getElem hlt,Uh];have e1:(Lib.byteCells (hexT (l.take q)++[hexD (l[q].toNat / 16),hexD (l[q].toNat % 16)]))=Lib.byteCells (hexT (l.take q))++[.int .u8 ((signs[l[q].toNat / 16]'(by show _<16;omega)).toNat:Nat)]++[.int .u8 ((signs[l[q].toNat % 16]'(by show _<16;omega)).toNat:Nat)]:=by
      rw[Nq,Nq];simp[Lib.byteCells]
     rw[e1];exact h
    case measure=>omega
   ·have Bi:q=l.length:=by omega
    have HS2:Hid (pV w.heap.size w.heap.size (Lib.byteCells (hexT l)) wr):=hide (by have:=HS.out;rwa [List.take_of_length_le (by omega)]at this)
    go_wp2_with(go_at_call 59;(with_reducible refine(Tryz.Builder_String_any w.heap.size w.heap.size (hexT l) _ HS2.out HB.out.size).mono ?_);rintro e1 w1 ⟨rfl,hb1⟩;have HB1:=hide (HB.out.trans hb1);clear hb1)
    go_ret;refine⟨?_,HB1.out⟩;rw[hexL,if_neg (fun e=>h0 (by rw[e];rfl))];rfl
theorem uV{P:Program}{ops:Array Oper}{o:Oper}{a:Act}{w w':World}{K:Act→World→Prop}{Q:Exit→Act→World→Prop}{E:Prop}
  (hg:o.guard=none) (s x:Operand) (t:TypeId) (hop:o.op=Op.call {callee:=Callee.builtin Builtin.append,args:=#[s,x],argTypes:=#[t,t]}) {v1 v2 r:Value} (h1:a.eval s=v1) (h2:a.eval x=v2)
  (hrun:(Builtin.append_ #[t,t] o.type #[v1,v2]).run P w = .ok r w') (hK:K (a.put o.dst r) w'):
  if Region.wanted o (yielded ops a.tmps)=true then Oper.wp P o a w K Q else E:=by
 have hw:Region.wanted o (yielded ops a.tmps)=true:=by simp[Region.wanted,hg]
 rw[if_pos hw];unfold Oper.wp;simp[execOp,hop,resolve,invoke,builtin,h1,h2,hrun,Result.andThen];exact hK
theorem Bj:(Tryz.prog.info? 5).map (fun i=>(i.zero,i.size,i.bytes))=some (some (.int .u8 0),1,1):=by kernel_rfl
theorem YG{w:World}{B n:Nat}{v:Value}{l:List UInt8}(h:w.ownsRow B 5 1 v n (Lib.byteCells l))(hn:n=l.length):∃A c,v = .slice A l.length c∧BytesIn (fun _=>True) w A l:=by
 subst hn;obtain⟨A,c,e,h1,h2,h3⟩:=MV (S:=fun _=>True) (w:=w) (v:=v) (n:=l.length) (e:=5) (xs:=Lib.byteCells l) ⟨h.1,by
  rcases h.2 with h|⟨g,cap,cur,e,_,r⟩
  ·exact .inl h
  ·exact .inr ⟨g,cap,cur,e,Nat.zero_le _,r⟩⟩ (fun _ _=>trivial)
 exact⟨A,c,e,h1,by omega⟩
theorem U1{S:Nat→Prop}{w:World}{A:Option Addr}{c:Nat}{l:List UInt8}(hb:BytesIn S w A l)(hl:l.length≤1099511627776):
  Calls Tryz.prog 49 #[.slice A l.length c] w fun e w'=>e = .returned (.string ⟨(hexL l).toArray⟩)∧Below w.heap.size w w':=by
 have Hb:=hide hb;clear hb;by_cases h0:l.length=0
 ·have hnil:l=[]:=List.length_eq_zero_iff.1 h0;subst hnil;go_enter Tryz.func49,Tryz.ntmps49
  go_wp2_with fail
  go_ret;exact⟨rfl,Below.refl _ _⟩
 ·have YF:((l.length:Int) == 0)=false:=by rw[aK];omega
  go_enter Tryz.func49,Tryz.ntmps49
  go_wp2_with fail
  go_loopg [4,3] l.length (fun g i v wr=>∃q:Nat,q≤l.length∧g=l.length-q∧i = .int .i64 q∧Hid (wr.ownsRow w.heap.size 5 1 v (2*q) (Lib.byteCells (hexT (l.take q))))∧Hid (Below w.heap.size w wr))
  case atStart=>exact⟨0,by omega,by omega,rfl,hide (World.ownsRow_nil _ _ _ _),hide (Below.refl _ _)⟩
  case round =>
   obtain⟨q,hq,hg,rfl,HO,HB⟩:=hrel;by_cases hlt:q<l.length
   ·obtain⟨b,o,rfl,hc⟩:=Hb.out.1.at_ (j:=q) (by simp[bytesV];omega);simp only[bytesV,List.getElem_map]at hc;have hbl:=block_lt_of_cell hc;have hx:=(l[q]).toNat_lt;obtain⟨Av,cv,rfl⟩:=jD HO.out;obtain⟨y,hy⟩:∃y,y=l[q].toNat / 16:=⟨_,rfl⟩;obtain⟨z,hz⟩:∃z,z=l[q].toNat % 16:=⟨_,rfl⟩;have P7:y<signs.size:=by show y<16;omega
    have E5:z<signs.size:=by show z<16;omega
    have hyi:(y:Int)<16:=by have:y<16:=P7;omega
    have hzi:(z:Int)<16:=by have:z<16:=E5;omega
    have hyw:IntKind.u8.wrap ((l[q].toNat:Int) / 16)=(y:Int):=by simp[IntKind.wrap,IntKind.bits,IntKind.signed];omega
    have hzw:(l[q].toNat:Int).tmod 16=(z:Int):=by rw[Int.tmod_eq_emod_of_nonneg (by omega)];omega
    have Hy:=hide hy;have Hz:=hide hz;clear hy hz
    go_upto_region 7 with fail
    have hd1:Below w.heap.size w wr.drew:=HB.out.drew;have JF:Hid (wr.drew.ownsRow w.heap.size 5 1 (.slice Av (2*q) cv) (2*q) (Lib.byteCells (hexT (l.take q)))):=HO;refine wp_region_held_drew (S:=Below w.heap.size w) (by kernel_rfl) hd1 (fun hHeld=>?_);generalize wr.drew=wD at hHeld JF⊢;refine aj 0 hHeld ?_;refine aj 1 hHeld ?_;refine aj 2 hHeld ?_;refine aj 3 hHeld ?_;refine tk (v:=?_) 4 hHeld ?_ ?_;rotate_left
    ·intro w' hSw;have hc':=(hSw.cell (p:=⟨b,o+q,none⟩) hbl).trans hc
     first|(go_simp;done)|(go_simp;with_reducible rfl)
    try simp only[aA,aB]
    refine aj 5 hHeld ?_;refine aj 6 hHeld ?_;refine aj 7 hHeld ?_;refine aj 8 hHeld ?_;refine aj 9 hHeld ?_;refine tk (v:=?_) 10 hHeld ?_ ?_;rotate_left
    ·intro w' hSw;have hc':=(hSw.cell (p:=⟨b,o+q,none⟩) hbl).trans hc
     first|(go_simp;done)|(go_simp;with_reducible rfl)
    try simp only[aA,aB]
    refine aj 11 hHeld ?_;refine aj 12 hHeld ?_;refine wpAnyH_ready (rs:=[13]) (by kernel_rfl) (by simp) ?_;refine AllReadyH.cons rfl (fun K hK=>?_) AllReadyH.nil;go_simp
    go_wp2_with fail
    have hH2:Below w.heap.size w (wD.alloc (.cells #[.int .u8 ((signs[y]'P7).toNat:Nat),.int .u8 ((signs[z]'E5).toNat:Nat)] 5)):=hHeld.alloc hHeld.size _;refine hK.out _ _ hH2 (fun _=>?_);clear hK K
    try simp only[Act.put,aG,aE,aF,aD,aA,aB]
    obtain⟨v',w5,hrun,hown,gy⟩:=MX (P:=Tryz.prog) (T:=44) (us:=[.int .u8 ((signs[y]'P7).toNat:Nat),.int .u8 ((signs[z]'E5).toNat:Nat)]) (B:=some ⟨wD.heap.size,0,none⟩) (m:=2) (cB:=2) Tryz.underlying44 Bj rfl (by decide) (JF.out.alloc (.cells #[.int .u8 ((signs[y]'P7).toNat:Nat),.int .u8 ((signs[z]'E5).toNat:Nat)] 5)) (fun e=>by cases e) rfl (by intro u hu;simp at hu;rcases hu with rfl|rfl<;>rfl) (fun ad e=>by injection e with e;subst e;intro j u hu;rw[Addr.add_lit,Nat.zero_add,Lib.cell_of_heap (heap_alloc_new wD _)];simpa using hu) hH2.size (by unfold maxLen;omega) (by omega) 44;refine wpAnyH_ready (rs:=[14]) (by kernel_rfl) (by simp) ?_;refine AllReadyH.cons rfl (fun K hK=>?_) AllReadyH.nil;refine uV (v1:= .slice Av (2*q) cv) (v2:= .slice (some ⟨wD.heap.size,0,none⟩) 2 2) rfl _ _ _ rfl (by rfl) (by rfl) hrun ?_;have hH3:=hH2.trans gy;refine hK.out _ _ hH3 (fun mr=>?_);clear hK K
    try simp only[Act.put,aG,aE,aF,aD,aA,aB]
    refine aj 15 mr ?_;refine wpAnyH_done (by kernel_rfl) ?_ _
    try simp only[Act.put,aG,aE,aF,aD,aA,aB]
    have P8:=hide hown;have Ae:=hide hH3;clear hrun hown gy hH2 hH3 hHeld mr
    go_wp2_with fail
    go_roundg (l.length-(q+1))
    case measure=>omega
    case rel =>
     refine⟨q+1,by omega,rfl,by go_num,hide ?_,Ae⟩;have h:=P8.out;rw[List.take_succ_eq_append_getElem hlt,Uh,Nat.mul_add];have e1:(Lib.byteCells (hexT (l.take q)++[hexD (l[q].toNat / 16),hexD (l[q].toNat % 16)]))=Lib.byteCells (hexT (l.take q))++[.int .u8 ((signs[y]'P7).toNat:Nat),.int .u8 ((signs[z]'E5).toNat:Nat)]:=by
      rw[Nq,Nq,Hy.out,Hz.out];simp[Lib.byteCells]
     rw[e1];exact h
   ·have Bi:q=l.length:=by omega
    subst Bi;obtain⟨Av,cv,rfl,hby⟩:=YG (l:=hexT l) (by have:=HO.out;rwa [List.take_length]at this) (by rw[zZ]);have hcv:=Uo wr Av cv (hexT l) hby
    go_wp2_with fail
    go_ret;refine⟨?_,HB.out⟩;rw[hexL,if_neg (fun e=>h0 (by rw[e];rfl))];rfl
end
section
open Go.RowKit
section
variable {S : Nat → Prop} {w : World} {A : Option Addr} {xs : List Value}
theorem Nr{α:Type}{l:List α}{f:α→Value}(h:Rd S w A (l.map f)):A=none→l.length=0:=by
 intro e;rcases h with h|⟨b,o,e2,_⟩
 ·simpa using h
 ·rw[e]at e2;cases e2
theorem Ns(h:Rd S w A xs):∀ad,A=some ad→∀j u,xs[j]?=some u→w.cell? (ad.add j)=some u:=by
 intro ad e j u hu;rcases h with h|⟨b,o,e2,_,hc⟩
 ·subst h;simp at hu
 ·rw[e]at e2;injection e2 with e2;subst e2;rw[Addr.add_lit];exact hc j u hu
theorem Nu{α:Type}{f:α→Value}(l:List α)(h :∀x,(f x).oneCell'=true):∀u∈l.map f,u.oneCell'=true:=by
 intro u hu;obtain⟨x,_,rfl⟩:=List.mem_map.1 hu;exact h x
theorem P9(w:World)(a:Value)(t:TypeId):∀ad,(some ⟨w.heap.size,0,none⟩:Option Addr)=some ad→∀j u,[a][j]?=some u→(w.alloc (.cells #[a] t)).cell? (ad.add j)=some u:=by
 intro ad e j u hu;injection e with e;subst e;rw[Addr.add_lit,Nat.zero_add,Lib.cell_of_heap (heap_alloc_new w _)]
 simpa using hu
end
theorem U2(n:Int)(h:0≤n∧n<12)(w:World):Calls Tryz.prog 144 #[.int .i64 1,.int .i64 n] w fun e w'=>e = .returned (.int .i64 (8000024+n))∧w=w':=by
 go_enter Tryz.func144,Tryz.ntmps144
 go_wp2_with fail
 go_ret;exact⟨by simp<;>omega,rfl⟩
theorem wP{n:Int}(h:0≤n∧n<12)(w:World):Calls Tryz.prog 127 #[.int .i64 1,.int .i64 n] w fun e w'=>e = .returned (.string (markT n.toNat))∧Below w.heap.size w w':=Ur n h w
theorem zip{n:Int}(h:0≤n∧n<12)(w:World):Calls Tryz.prog 144 #[.int .i64 1,.int .i64 n] w fun e w'=>e = .returned (.int .i64 (8000024+n))∧Below w.heap.size w w' :=
 (U2 n h w).mono fun _ _ ⟨h1,h2⟩=>⟨h1,h2▸Below.refl _ _⟩
theorem YH{q:Nat}(h:q<12):(iL.take (q+1)).map Value.string=(iL.take q).map Value.string++[.string (markT (q:Int).toNat)]:=by
 have e:iL[q]'(by rw[Jn];omega)=markT q:=by simp[iL]
 rw[List.take_succ_eq_append_getElem (by rw[Jn];omega),List.map_append,e];rfl
theorem YI{q:Nat}(h:q<12):(iK.take (q+1)).map (fun n=>Value.int .i64 n)=(iK.take q).map (fun n=>Value.int .i64 n)++[.int .i64 (8000024+(q:Int))]:=by
 have e:iK[q]'(by rw[Jm];omega)=lL q:=by simp[iK]
 rw[List.take_succ_eq_append_getElem (by rw[Jm];omega),List.map_append,e];rfl
theorem U3{S:Nat→Prop}{A:Option Addr}{c:Nat}{l:List ByteArray}{w:World}(h:bJ S w A l)(hl:l.length≤1099511627776):
  Calls Tryz.prog 54 #[.slice A l.length c] w fun e w'=>∃A' c',e = .returned (.slice A' l.length c')∧bT (fun b=>w.heap.size≤b) w' A' c' l∧Below w.heap.size w w':=by
 have H:=hide h;obtain⟨i0,hi,E8,qg,Fa⟩:=info_parts Ul;clear h;go_enter Tryz.func54,Tryz.ntmps54
 go_wp2_with(first
  | (at_make;refine wpList_make_own _ rfl _ _ 34 rfl w.heap.size 9 i0 (.string ByteArray.empty) 1 Tryz.underlying34 hi E8 qg _ _ _ (l.length+12) rfl rfl (by omega) (by rw[Fa];omega) (by unfold maxLen;omega) (aC _) ?_;intro w1 hown hgrow;have iI:=hide hown;have HB1:Hid (Below w.heap.size w w1):=hide ((Below.refl _ _).grown hgrow (aC _) (fun k hk=>by cases hk));clear hown hgrow)
  | (at_builtin;refine DF _ rfl _ _ 34 rfl w.heap.size 9 i0 1 Tryz.underlying34 hi qg w.heap.size 0 (l.length+12) [] rfl iI.out A l.length c (l.map Value.string) rfl (by simp) (Nr (H.out.below HB1.out).1) (Ns (H.out.below HB1.out).1) (Nu _ (fun _=>rfl)) (by omega) ?_;intro w2 hown2 hgrow2;have kC:=hide hown2;have HB2:=hide (DI HB1.out (aC _) hgrow2);clear hown2 hgrow2 iI HB1))
 have DT:Hid (w2.ownsRow w.heap.size 9 1 (.slice (some ⟨w.heap.size,0,none⟩) l.length (l.length+12)) l.length (l.map Value.string++(iL.take 0).map Value.string)):=hide (by have:=kC.out;simpa using this);clear kC
 go_loopw [4,3] (fun i v wr=>∃q:Nat,q≤12∧i = .int .i64 q∧v = .slice (some ⟨w.heap.size,0,none⟩) (l.length+q) (l.length+12)∧Hid (wr.ownsRow w.heap.size 9 1 (.slice (some ⟨w.heap.size,0,none⟩) (l.length+q) (l.length+12)) (l.length+q) (l.map Value.string++(iL.take q).map Value.string))∧Hid (Below w.heap.size w wr)) (fun i _ _=>12-(intOf i).toNat)
 case atStart=>exact⟨0,by omega,rfl,rfl,DT,HB2⟩
 case round =>
  clear DT HB2;obtain⟨q,hq,rfl,rfl,HO,HB⟩:=hrel;by_cases hlt:q<12
  ·have hq12:(0:Int)≤(q:Int)∧(q:Int)<12:=by omega
   have Hm:=hide (YH hlt);have hsz:=HB.out.size
   go_wp2_with(first
    | (go_at_call 127;(with_reducible refine(wP hq12 _).mono ?_);rintro e1 w1 ⟨rfl,hB⟩;have iI:=hide (Js HO.out hB);have HB1:=hide (HB.out.trans (hB.mono hsz));clear hB)
    | (at_builtin;refine DF _ rfl _ _ 34 rfl w.heap.size 9 i0 1 Tryz.underlying34 hi qg w.heap.size (l.length+q) (l.length+12) _ rfl (iI.out.alloc _) (some ⟨w1.heap.size,0,none⟩) 1 1 [.string (markT (q:Int).toNat)] rfl rfl (by intro h;cases h) (P9 _ _ _) (by intro u hu;simp at hu;subst hu;rfl) (by omega) ?_;intro w2 hown2 hgrow2;have kC:=hide hown2;have HB2:=hide (DI (HB1.out.alloc HB1.out.size _) (aC _) hgrow2);clear hown2 hgrow2 iI HB1))
   go_roundw
   case rel=>exact⟨q+1,by omega,by go_num,by rw[Nat.add_assoc],hide (by have h5:=kC.out;rw[Nat.add_assoc]at h5;rw[Hm.out];simpa using h5),HB2⟩
   case measure=>simp[intOf];omega
  ·obtain rfl:q=12:=by omega
   have hcap:=Jt HO.out
   go_wp2_with fail
   go_ret;refine⟨_,_,rfl,⟨?_,H.out.2⟩,HB.out⟩;have h5:=HO.out;rw[List.take_of_length_le (by rw[Jn];omega),←List.map_append]at h5;exact PE h5 (aC _)
theorem YJ{S:Nat→Prop}{A:Option Addr}{c:Nat}{l:List Int}{w:World}(h:IntsIn S w A l)(hl:l.length≤1099511627776):
  Calls Tryz.prog 167 #[.slice A l.length c] w fun e w'=>∃A' c',e = .returned (.slice A' l.length c')∧cZ (fun b=>w.heap.size≤b) w' A' c' l∧Below w.heap.size w w':=by
 have H:=hide h;obtain⟨i0,hi,E8,qg,Fa⟩:=info_parts Uk;clear h;go_enter Tryz.func167,Tryz.ntmps167
 go_wp2_with(first
  | (at_make;refine wpList_make_own _ rfl _ _ 38 rfl w.heap.size 3 i0 (.int .i64 0) 1 Tryz.underlying38 hi E8 qg _ _ _ (l.length+12) rfl rfl (by omega) (by rw[Fa];omega) (by unfold maxLen;omega) (aC _) ?_;intro w1 hown hgrow;have iI:=hide hown;have HB1:Hid (Below w.heap.size w w1):=hide ((Below.refl _ _).grown hgrow (aC _) (fun k hk=>by cases hk));clear hown hgrow)
  | (at_builtin;refine DF _ rfl _ _ 38 rfl w.heap.size 3 i0 1 Tryz.underlying38 hi qg w.heap.size 0 (l.length+12) [] rfl iI.out A l.length c (l.map (fun n=>Value.int .i64 n)) rfl (by simp) (Nr (H.out.below HB1.out).1) (Ns (H.out.below HB1.out).1) (Nu _ (fun _=>rfl)) (by omega) ?_;intro w2 hown2 hgrow2;have kC:=hide hown2;have HB2:=hide (DI HB1.out (aC _) hgrow2);clear hown2 hgrow2 iI HB1))
 have DT:Hid (w2.ownsRow w.heap.size 3 1 (.slice (some ⟨w.heap.size,0,none⟩) l.length (l.length+12)) l.length (l.map (fun n=>Value.int .i64 n)++(iK.take 0).map (fun n=>Value.int .i64 n))):=hide (by have:=kC.out;simpa using this);clear kC
 go_loopw [4,3] (fun i v wr=>∃q:Nat,q≤12∧i = .int .i64 q∧v = .slice (some ⟨w.heap.size,0,none⟩) (l.length+q) (l.length+12)∧Hid (wr.ownsRow w.heap.size 3 1 (.slice (some ⟨w.heap.size,0,none⟩) (l.length+q) (l.length+12)) (l.length+q) (l.map (fun n=>Value.int .i64 n)++(iK.take q).map (fun n=>Value.int .i64 n)))∧Hid (Below w.heap.size w wr)) (fun i _ _=>12-(intOf i).toNat)
 case atStart=>exact⟨0,by omega,rfl,rfl,DT,HB2⟩
 case round =>
  clear DT HB2;obtain⟨q,hq,rfl,rfl,HO,HB⟩:=hrel;by_cases hlt:q<12
  ·have hq12:(0:Int)≤(q:Int)∧(q:Int)<12:=by omega
   have Hm:=hide (YI hlt);have hsz:=HB.out.size
   go_wp2_with(first
    | (go_at_call 144;(with_reducible refine(zip hq12 _).mono ?_);rintro e1 w1 ⟨rfl,hB⟩;have iI:=hide (Js HO.out hB);have HB1:=hide (HB.out.trans (hB.mono hsz));clear hB)
    | (at_builtin;refine DF _ rfl _ _ 38 rfl w.heap.size 3 i0 1 Tryz.underlying38 hi qg w.heap.size (l.length+q) (l.length+12) _ rfl (iI.out.alloc _) (some ⟨w1.heap.size,0,none⟩) 1 1 [.int .i64 (8000024+(q:Int))] rfl rfl (by intro h;cases h) (P9 _ _ _) (by intro u hu;simp at hu;subst hu;rfl) (by omega) ?_;intro w2 hown2 hgrow2;have kC:=hide hown2;have HB2:=hide (DI (HB1.out.alloc HB1.out.size _) (aC _) hgrow2);clear hown2 hgrow2 iI HB1))
   go_roundw
   case rel=>exact⟨q+1,by omega,by go_num,by rw[Nat.add_assoc],hide (by have h5:=kC.out;rw[Nat.add_assoc]at h5;rw[Hm.out];simpa using h5),HB2⟩
   case measure=>simp[intOf];omega
  ·obtain rfl:q=12:=by omega
   have hcap:=Jt HO.out
   go_wp2_with fail
   go_ret;refine⟨_,_,rfl,⟨?_,H.out.2⟩,HB.out⟩;have h5:=HO.out;rw[List.take_of_length_le (by rw[Jm];omega),←List.map_append]at h5;exact PE h5 (aC _)
end
section
open Go.RowKit
structure Ah where
 nA:Option Addr
 nc:Nat
 bA:Option Addr
 bc:Nat
structure oO(S:Nat→Prop)(w:World)(x:Ah)(a:An):Prop where
 err:ai a.err
 names:bJ S w x.nA a.names
 text:a.text.size≤9223372036854775807
 bytes:BytesIn S w x.bA a.bytes
 nc:a.names.length≤x.nc∧x.nc≤9223372036854775807
 bc:a.bytes.length≤x.bc∧x.bc≤9223372036854775807
theorem oO.below{S:Nat→Prop}{w w':World}{x:Ah}{a:An}(h:oO S w x a)(hB:Below w.heap.size w w'):oO S w' x a:=⟨h.err,h.names.below hB,h.text,h.bytes.below hB,h.nc,h.bc⟩
theorem U4{w w':World}{B e k n:Nat}{v:Value}{xs:List Value}(h:w.ownsRow B e k v n xs)(hb:Below w.heap.size w w'):w'.ownsRow B e k v n xs :=
 ⟨h.1,h.2.imp id fun⟨g,cap,cur,e1,hB,hg,hr⟩=>⟨g,cap,cur,e1,hB,(hb.block g (Array.getElem?_eq_some_iff.1 hg).1).trans hg,hr⟩⟩
def ik (w : World) : Prop := 4 < w.heap.size ∧ Lib.TabIs Tryz.prog w "internal/strconv.uint64pow10" .u64 Lib.pow10Tab
theorem ik.below{w w':World}(h:ik w)(hb:Below w.heap.size w w'):ik w':=⟨aH h.1 hb.size,var?_below hb (by kernel_rfl) h.1 h.2⟩
theorem YK(w:World)(k:Nat)(os:Array Obj):Below w.heap.size w (Go.Sort.grow (w.drewN k) os):=by
 exact⟨rfl,rfl,rfl,by show w.heap.size≤(w.heap++os).size;simp,fun i hi=>Lib.heap_grow_old w k os i hi⟩
theorem Nv{w:World}{B n c:Nat}{A:Option Addr}{ws:List ByteArray}(ho:w.ownsRow B 9 1 (.slice A n c) n (ws.map .string))(hn:ws.length=n)(h0:0<n)(h1:n≤140737488355328)(hl:(Lib.join (ws.map (·.data.toList)) [32]).length≤140737488355328):
  Calls Tryz.prog 47 #[.slice A n c] w fun e w'=>e = .returned (.string ⟨(Lib.join (ws.map (·.data.toList)) [32]).toArray⟩)∧Below w.heap.size w w':=by
 subst hn;obtain⟨g,rfl⟩:∃g,A=some ⟨g,0,none⟩:=by
  rcases ho.2 with⟨_,e⟩|⟨g,cap,cur,e,_⟩
  ·omega
  ·injection e with e;exact⟨g,e⟩
 have hg:=(ho.lt g rfl).2;have hc :∀(j:Nat) x,ws[j]?=some x→w.cell? ⟨g,0+j,none⟩=some (.string x):=fun j x hx=>by
  have hj:=(List.getElem?_eq_some_iff.1 hx).1;rw[Nat.zero_add,ho.cellAt j (by omega),List.getElem?_map,hx];rfl
 have hcap:ws.length≤c:=by
  rcases ho.2 with⟨e,_⟩|⟨g,cap,cur,e,_,_,h,_⟩
  ·cases e
  ·injection e with _ _ e;omega
 have HJ:=hide (Tryz.strings_Join g 0 c ws ⟨#[32]⟩ w hc hg h1 hcap hl);clear hc ho;go_enter Tryz.func47,Tryz.ntmps47
 go_wp2_with(go_at_call 23;(with_reducible refine HJ.out.mono ?_);rintro e1 w1 ⟨rfl,hB⟩;have HB:=hide hB;clear hB)
 go_ret;exact⟨rfl,HB.out⟩
theorem sU{S:Nat→Prop}{w:World}{A:Option Addr}{n c:Nat}{l:List UInt8}(hb:BytesIn S w A l)(hn:l.length=n)(hl:n≤1099511627776):
  Calls Tryz.prog 46 #[.slice A n c] w fun e w'=>e = .returned (.string ⟨(hexL l).toArray⟩)∧Below w.heap.size w w':=by
 subst hn;exact JE hb hl
theorem YL(w:World)(s:ByteArray)(e:TypeId)(cap:Nat)(m:Nat×Nat)(h:s.size≤9223372036854775807:=by omega):BytesIn (fun _=>True) (w.alloc (.cells (bytesRow s cap) e m)).drew (some ⟨w.heap.size,0,none⟩) s.data.toList:=by
 show BytesIn (fun _=>True) (w.alloc (.cells (bytesRow s cap) e m)) (some ⟨w.heap.size,0,none⟩) s.data.toList;refine⟨.inr ⟨w.heap.size,0,rfl,trivial,fun j u hu=>?_⟩,by simpa using h⟩;have hj:j<s.data.size:=by
  have:=(List.getElem?_eq_some_iff.1 hu).1
  simpa[bytesV]using this
 rw[Nat.zero_add,World.cell?_alloc_mark,bytesRow_at s cap j hj];simp only[bytesV,List.getElem?_map,Option.map_eq_some_iff]at hu;obtain⟨a,ha,rfl⟩:=hu;rw[Array.getElem?_toList,Array.getElem?_eq_getElem hj]at ha;injection ha with ha;rw[ha]
theorem Nw:(Tryz.prog.info? 9).map (fun i=>(i.zero,i.size,i.bytes))=some (some (.string ByteArray.empty),1,16):=by kernel_rfl
def Bl:ByteArray:=⟨#[111,107]⟩
def jZ:ByteArray:=⟨#[110,97,109,101,115]⟩
def wText:ByteArray:=⟨#[116,101,120,116]⟩
def lC:ByteArray:=⟨#[98,121,116,101,115]⟩
def hexS(l:List UInt8):ByteArray:=⟨(hexL l).toArray⟩
def An.wsN(a:An):List ByteArray:=Bl::(if a.names=[]then[]else jZ::a.names)
def An.wsT(a:An):List ByteArray:=a.wsN++(if a.text.size=0 then[]else[wText,hexS a.text.data.toList])
def An.ws(a:An):List ByteArray:=a.wsT++(if a.bytes=[]then[]else[lC,hexS a.bytes])
theorem An.ws_line(a:An)(h:a.err=0):Lib.join (a.ws.map (·.data.toList)) [32]=a.line:=by
 rw[An.line,An.parts,if_pos h];congr 1;unfold An.ws An.wsT An.wsN An.partN An.partT An.partB;by_cases h1:a.names=[]<;>by_cases h2:a.text.size=0<;>by_cases h3:a.bytes=[]<;>simp[h1,h2,h3,Bl,jZ,wText,lC,hexS,AU,nN,pU,nO]
theorem U5(a:An):(a.names.map fun s=>s.size+1).sum≤a.bulk∧a.text.size≤a.bulk∧a.bytes.length≤a.bulk:=by unfold An.bulk;omega
theorem U6 :∀(l:List ByteArray),((l.map (·.data.toList)).flatMap (fun y=>32::y)).length=(l.map fun s=>s.size+1).sum
 | []=>rfl
 | s::l=>by
  have:=U6 l;have e:s.data.toList.length=s.size:=by simp
  simp only[List.map_cons,List.flatMap_cons,aJ,List.length_cons,List.sum_cons,e]at this⊢;omega
theorem An.line_len(a:An)(h:a.err=0):a.line.length≤2*a.bulk+100:=by
 rw[a.line_ok h];obtain⟨h1,h2,h3⟩:=U5 a;have hb:a.bulk=(a.names.map fun s=>s.size+1).sum+a.text.size+a.bytes.length:=rfl;have e1:(a.partN.flatMap (fun y=>32::y)).length≤6+(a.names.map fun s=>s.size+1).sum:=by
  unfold An.partN;split
  ·simp
  ·rw[List.flatMap_cons,aJ,U6];simp[nN]
 have e2:(a.partT.flatMap (fun y=>32::y)).length≤10+2*a.text.size:=by
  unfold An.partT;split
  ·simp
  ·have:=Pv a.text.data.toList;have e:a.text.data.toList.length=a.text.size:=by simp
   simp[pU];omega
 have e3:(a.partB.flatMap (fun y=>32::y)).length≤10+2*a.bytes.length:=by
  unfold An.partB;split
  ·simp
  ·have:=Pv a.bytes;simp[nO];omega
 simp only[aJ];have:AU.length=2:=rfl;omega
theorem sV(l:List ByteArray):l.length≤(l.map fun s=>s.size+1).sum:=by
 induction l with
 | nil=>simp
 | cons s l ih=>simp only[List.length_cons,List.map_cons,List.sum_cons];omega
theorem qK{S:Nat→Prop}{w:World}{x:Ah}{a:An}(h:oO S w x a)(he:a.err=0)(hbk:a.bulk≤1099511627776):
  Calls Tryz.prog 20 #[.agg #[.int .i64 0,.slice x.nA a.names.length x.nc,.string a.text,.slice x.bA a.bytes.length x.bc]] w fun e w'=>e = .returned (.string ⟨a.line.toArray⟩)∧Below w.heap.size w w':=by
 obtain⟨k1,k2,k3⟩:=U5 a;have hnl:=sV a.names;have hll:=a.line_len he;have hwl:a.ws.length≤a.names.length+6:=by
  unfold An.ws An.wsT An.wsN;by_cases h1:a.names=[]<;>by_cases h2:a.text.size=0<;>by_cases h3:a.bytes=[]<;>simp[h1,h2,h3]<;>omega
 have hwn:a.wsN.length≤a.names.length+2:=by
  unfold An.wsN;by_cases h1:a.names=[]<;>simp[h1]<;>omega
 have hwt:a.wsT.length≤a.names.length+4:=by
  unfold An.wsT;by_cases h2:a.text.size=0<;>simp[h2]<;>omega
 have H:=hide h;clear h;have oP:=hide (a.ws_line he);clear he;go_enter Tryz.func20,Tryz.ntmps20
 go_upto_if 16 with fail
 obtain⟨W1,hW1⟩:∃W1,W1=(w.alloc (.cells #[.int .i64 0,.slice x.nA a.names.length x.nc,.string a.text,.slice x.bA a.bytes.length x.bc] 53)).alloc (.cells #[.string Bl] 9):=⟨_,rfl⟩;have hB1:Below w.heap.size w W1:=by rw[hW1];exact iD _ _
 have hs1:W1.heap.size=w.heap.size+2:=by rw[hW1];simp
 have hx0:W1.heap[w.heap.size]?=some (.cells #[.int .i64 0,.slice x.nA a.names.length x.nc,.string a.text,.slice x.bA a.bytes.length x.bc] 53):=by rw[hW1,heap_alloc_old _ _ (by simp)];exact heap_alloc_new w _
 have iI:Hid (W1.ownsRow (w.heap.size+1) 9 1 (.slice (some ⟨w.heap.size+1,0,none⟩) 1 1) 1 [.string Bl]):=hide ⟨rfl,.inr ⟨w.heap.size+1,1,#[.string Bl],rfl,aC _,by rw[hW1];have:=heap_alloc_new (w.alloc (.cells #[.int .i64 0,.slice x.nA a.names.length x.nc,.string a.text,.slice x.bA a.bytes.length x.bc] 53)) (.cells #[.string Bl] 9);simpa using this,aC _,by decide,rfl,rfl⟩⟩;rw[show(w.alloc (.cells #[.int .i64 0,.slice x.nA a.names.length x.nc,.string a.text,.slice x.bA a.bytes.length x.bc] 53)).alloc (.cells #[.string {data:=#[111,107]}] 9)=W1 from hW1.symm];have a0 :∀W,Below (w.heap.size+1) W1 W→W.cell? ⟨w.heap.size,1,none⟩=some (.slice x.nA a.names.length x.nc):=fun W hW=>by rw[Lib.cell_of_heap ((hW.block _ (Nat.lt_succ_self _)).trans hx0)];rfl
 have a1 :∀W,Below (w.heap.size+1) W1 W→W.cell? ⟨w.heap.size,2,none⟩=some (.string a.text):=fun W hW=>by rw[Lib.cell_of_heap ((hW.block _ (Nat.lt_succ_self _)).trans hx0)];rfl
 have a2 :∀W,Below (w.heap.size+1) W1 W→W.cell? ⟨w.heap.size,3,none⟩=some (.slice x.bA a.bytes.length x.bc):=fun W hW=>by rw[Lib.cell_of_heap ((hW.block _ (Nat.lt_succ_self _)).trans hx0)];rfl
 have Qa:Below (w.heap.size+1) W1 W1:=Below.refl _ _;clear hW1 hx0
 go_cut [3,16]from 16 to 22 (fun v b wx=>b = .bool (decide ((0:Int)<(a.names.length:Int)))∧wx.ownsRow (w.heap.size+1) 9 1 v a.wsN.length (a.wsN.map .string)∧Below (w.heap.size+1) W1 wx)
 case first =>
  by_cases hn:a.names=[]
  ·have hn0:a.names.length=0:=by rw[hn];rfl
   go_wp2_with fail
   go_meet
   exact⟨by simp[hn0],by have:=iI.out;simpa[An.wsN,hn]using this,Below.refl _ _⟩
  ·have hn0 :¬a.names.length=0:=fun e=>hn (List.length_eq_zero_iff.1 e);have hgt:(0:Int)<(a.names.length:Int):=by omega
   have hgt2:0<a.names.length:=by omega
   go_upto_region 5 with fail
   have hd1:Below (w.heap.size+1) W1 W1.drew:=Qa.drew;have JF:Hid (W1.drew.ownsRow (w.heap.size+1) 9 1 (.slice (some ⟨w.heap.size+1,0,none⟩) 1 1) 1 [.string Bl]):=iI;refine wp_region_held_drew (S:=Below (w.heap.size+1) W1) (by kernel_rfl) hd1 (fun hHeld=>?_);generalize W1.drew=wD at hHeld JF⊢;have hsD:=hHeld.size;refine aj 0 hHeld ?_;refine aj 3 hHeld ?_;refine tk (v:=?_) 4 hHeld ?_ ?_;rotate_left
   ·intro w' hSw;have b0:=a0 w' hSw
    first|(go_simp;done)|(go_simp;with_reducible rfl)
   try simp only[aA,aB]
   refine wpAnyH_ready (rs:=[1]) (by kernel_rfl) (by simp) ?_;refine AllReadyH.cons rfl (fun K hK=>?_) AllReadyH.nil;go_simp
   go_wp2_with fail
   have hH2:Below (w.heap.size+1) W1 (wD.alloc (.cells #[.string jZ] 9)):=hHeld.alloc (by omega) _;refine hK.out _ _ hH2 (fun _=>?_);clear hK K
   try simp only[Act.put,aG,aE,aF,aD,aA,aB]
   obtain⟨v',w5,hrun,hown,gy⟩:=MX (P:=Tryz.prog) (T:=34) (us:=[.string jZ]) (B:=some ⟨wD.heap.size,0,none⟩) (m:=1) (cB:=1) Tryz.underlying34 Nw rfl (by decide) (JF.out.alloc (.cells #[.string jZ] 9)) (fun e=>by cases e) rfl (by intro u hu;simp at hu;subst hu;rfl) (fun ad e=>by injection e with e;subst e;intro j u hu;rw[Addr.add_lit,Nat.zero_add,Lib.cell_of_heap (heap_alloc_new wD _)];simpa using hu) (by simp;omega) (by decide) (by decide) 34;refine wpAnyH_ready (rs:=[2]) (by kernel_rfl) (by simp) ?_;refine AllReadyH.cons rfl (fun K hK=>?_) AllReadyH.nil;refine uV (v1:= .slice (some ⟨w.heap.size+1,0,none⟩) 1 1) (v2:= .slice (some ⟨wD.heap.size,0,none⟩) 1 1) rfl _ _ _ rfl (by rfl) (by rfl) hrun ?_;have hH3:=hH2.trans gy;refine hK.out _ _ hH3 (fun mr=>?_);clear hK K
   try simp only[Act.put,aG,aE,aF,aD,aA,aB]
   have hs5:=hH3.size;have hnm:=(H.out.below (hB1.trans (hH3.mono (Nat.le_succ _)))).names;obtain⟨v6,w6,hrun6,hown6,nT⟩:=MX (P:=Tryz.prog) (T:=34) (us:=a.names.map .string) (B:=x.nA) (m:=a.names.length) (cB:=x.nc) Tryz.underlying34 Nw rfl (by decide) hown (Nr hnm.1) (by simp) (Nu _ (fun _=>rfl)) (Ns hnm.1) (by omega) (by unfold maxLen;omega) (by omega) 34;refine wpAnyH_ready (rs:=[5]) (by kernel_rfl) (by simp) ?_;refine AllReadyH.cons rfl (fun K hK=>?_) AllReadyH.nil;refine uV (v1:=v') (v2:= .slice x.nA a.names.length x.nc) rfl _ _ _ rfl (by rfl) (by rfl) hrun6 ?_;have hH6:=hH3.trans nT;refine hK.out _ _ hH6 (fun wQ=>?_);clear hK K
   try simp only[Act.put,aG,aE,aF,aD,aA,aB]
   refine aj 6 wQ ?_;refine wpAnyH_done (by kernel_rfl) ?_ _
   try simp only[Act.put,aG,aE,aF,aD,aA,aB]
   have Fb:=hide hown6;have Ae:=hide hH6;clear hrun hown gy hH2 hH3 hHeld mr wQ hrun6 hown6 nT hH6
   go_wp2_with fail
   go_meet
   refine⟨by simp;omega,?_,Ae.out⟩;have h:=Fb.out;have e:a.wsN=Bl::jZ::a.names:=by rw[An.wsN,if_neg hn]
   rw[e];have el:(Bl::jZ::a.names).length=1+1+a.names.length:=by simp;omega
   rw[el]
   simpa using h
 case rest =>
 obtain⟨Qb,hO,hBc⟩:=hcut;clear Qb;obtain⟨Av,cv,rfl⟩:=jD hO;have HO:=hide hO;clear hO iI
 go_upto_if 25 with fail
 go_cut [3,25]from 25 to 32 (fun v b wx=>wx.ownsRow (w.heap.size+1) 9 1 v a.wsT.length (a.wsT.map .string)∧Below (w.heap.size+1) W1 wx)
 case first =>
  by_cases ht:a.text.size=0
  ·have hte:a.text.toList.isEmpty=true:=by rw[List.isEmpty_iff];exact(mg _).2 (by omega)
   go_wp2_with fail
   ·exact absurd ‹(!a.text.toList.isEmpty)=true› (by simp[hte])
   ·go_meet
    exact⟨by have:=HO.out;simpa[An.wsT,ht]using this,hBc⟩
  ·have hte:a.text.toList.isEmpty=false:=by rw[Bool.eq_false_iff,ne_eq,List.isEmpty_iff,mg];omega
   have hcv:=fun w':World=>run_bytes_of_string (P:=Tryz.prog) w' 9 44 5 a.text Tryz.underlying9 Tryz.underlying44 Tryz.underlying5;have hsc:=hBc.size;have lX:Hid (a.text.data.toList.length=a.text.size):=hide (by simp);have YM:Hid (a.text.size≤9223372036854775807):=hide (by omega)
   go_wp2_with(first
    | (go_at_call 46;(with_reducible refine(sU (l:=a.text.data.toList) (YL wc a.text _ _ _ YM.out) lX.out (by omega)).mono ?_);rintro e1 w1 ⟨rfl,hb1⟩;have jT:Hid (Below wc.heap.size wc w1):=hide (((az wc _).drew).trans (hb1.mono (by simp)));have kC:=hide (U4 HO.out jT.out);have hs1:=jT.out.size;clear hb1)
    | (at_builtin;refine Aa rfl _ _ 34 rfl (w.heap.size+1) 9 Tryz.underlying34 Nw rfl (by decide) _ a.wsN.length (a.wsN.map .string) rfl (kC.out.alloc _) (some ⟨w1.heap.size,0,none⟩) 2 2 [.string wText,.string (hexS a.text.data.toList)] rfl (by simp) rfl (fun ad e=>by injection e with e;subst e;intro j u hu;rw[Addr.add_lit,Nat.zero_add,Lib.cell_of_heap (heap_alloc_new w1 _)];simpa[wText,lC,hexS]using hu) (by intro u hu;simp at hu;rcases hu with rfl|rfl<;>rfl) (by unfold maxLen;omega) (by omega) (by simp;omega) ?_))
   intro v1 w2 h1 hg1 hw1;have HB2:Hid (Below (w.heap.size+1) W1 w2):=hide (((hBc.trans (jT.out.mono (by omega))).alloc (by omega) _).grown hg1 (by simp;omega) fun k hk=>(kC.out.lt k hk).1);have H1:=hide h1;clear h1 hg1 hw1
   go_wp2_with fail
   go_meet
   refine⟨?_,HB2.out⟩;have e:a.wsT=a.wsN++[wText,hexS a.text.data.toList]:=by rw[An.wsT,if_neg ht]
   rw[e,aJ,List.map_append];exact H1.out;exact absurd ‹(!a.text.toList.isEmpty)=false› (by simp[hte])
 case rest =>
 clear HO hBc;obtain⟨hO,hBc⟩:=hcut;obtain⟨Av,cv,rfl⟩:=jD hO;have HO:=hide hO;clear hO
 go_upto_if 36 with fail
 go_cut [3,36]from 36 to 42 (fun v b wx=>wx.ownsRow (w.heap.size+1) 9 1 v a.ws.length (a.ws.map .string)∧Below (w.heap.size+1) W1 wx)
 case first =>
  by_cases hb:a.bytes=[]
  ·have hb0:a.bytes.length=0:=by rw[hb];rfl
   go_wp2_with fail
   go_meet
   exact⟨by have:=HO.out;simpa[An.ws,hb]using this,hBc⟩
  ·have hb0:0<a.bytes.length:=List.length_pos_iff.2 hb;have hsc:=hBc.size;have hby:=(H.out.below (hB1.trans (hBc.mono (Nat.le_succ _)))).bytes;have YN:=hide hby;clear hby
   go_wp2_with(first
    | (go_at_call 46;(with_reducible refine(JE YN.out (by omega)).mono ?_);rintro e1 w1 ⟨rfl,hb1⟩;have kC:=hide (U4 HO.out hb1);have hs1:=hb1.size;have jT:=hide hb1;clear hb1)
    | (at_builtin;refine Aa rfl _ _ 34 rfl (w.heap.size+1) 9 Tryz.underlying34 Nw rfl (by decide) _ a.wsT.length (a.wsT.map .string) rfl (kC.out.alloc _) (some ⟨w1.heap.size,0,none⟩) 2 2 [.string lC,.string (hexS a.bytes)] rfl (by simp) rfl (fun ad e=>by injection e with e;subst e;intro j u hu;rw[Addr.add_lit,Nat.zero_add,Lib.cell_of_heap (heap_alloc_new w1 _)];simpa[wText,lC,hexS]using hu) (by intro u hu;simp at hu;rcases hu with rfl|rfl<;>rfl) (by unfold maxLen;omega) (by omega) (by simp;omega) ?_))
   intro v1 w2 h1 hg1 hw1;have HB2:Hid (Below (w.heap.size+1) W1 w2):=hide (((hBc.trans (jT.out.mono (by omega))).alloc (by omega) _).grown hg1 (by simp;omega) fun k hk=>(kC.out.lt k hk).1);have H1:=hide h1;clear h1 hg1 hw1
   go_wp2_with fail
   go_meet
   refine⟨?_,HB2.out⟩;have e:a.ws=a.wsT++[lC,hexS a.bytes]:=by rw[An.ws,if_neg hb]
   rw[e,aJ,List.map_append];exact H1.out
 case rest =>
 clear HO hBc;obtain⟨hO,hBc⟩:=hcut;obtain⟨Av,cv,rfl⟩:=jD hO;have HO:=hide hO;clear hO;have hwT:0<a.ws.length:=by unfold An.ws An.wsT An.wsN;simp
 go_wp2_with(go_at_call 47;(with_reducible refine(Nv HO.out rfl hwT (by omega) (by rw[oP.out];omega)).mono ?_);rintro e1 w1 ⟨rfl,hb1⟩;have YO:=hide hb1;clear hb1)
 go_ret;exact⟨by rw[oP.out];rfl,(hB1.trans (hBc.mono (Nat.le_succ _))).trans (YO.out.mono (by have:=hB1.size;have:=hBc.size;omega))⟩
end
section
open Go.RowKit
section
variable {S S' : Nat → Prop} {w w' : World}
end
end
section
open Go.RowKit
theorem Fe(s:ByteArray)(w:World):Calls Tryz.prog 42 #[.string s] w fun e w'=>e = .returned (.bool (isWord s))∧w'=w:=by
 go_enter Tryz.func42,Tryz.ntmps42
 go_wp2_with(go_at_call 28;first
  | ((with_reducible refine(Tryz.strings_Contains_one s 32 _).mono ?_);rintro e1 w1 ⟨rfl,rfl⟩)
  | ((with_reducible refine(Tryz.strings_Contains_one s 10 _).mono ?_);rintro e1 w1 ⟨rfl,rfl⟩))
 all_goals
  go_ret;refine⟨?_,rfl⟩;refine congrArg (fun b=>Ending.returned (.bool b)) (?_:(_:Bool)=isWord s);unfold isWord
  first
   | rfl
   | grind
   | (simp_all;done)
abbrev fQ:Ending:= .panicked [{v:= .iface 136 (.agg #[]),recovered:=false}]
theorem Ff{b:Bool}(hb:b=true)(w:World):Calls Tryz.prog 78 #[.bool b] w fun e w'=>e = .returned (.tuple #[])∧w'=w:=by
 subst hb;go_enter Tryz.func78,Tryz.ntmps78
 go_wp2_with fail
 all_goals go_end0
 all_goals exact⟨rfl,rfl⟩
theorem Fg{b:Bool}(hb:b=false)(w:World):Calls Tryz.prog 78 #[.bool b] w fun e w'=>e=fQ∧w'=w:=by
 subst hb;go_enter Tryz.func78,Tryz.ntmps78
 go_wp2_with fail
 exact⟨rfl,rfl,rfl⟩
structure gI(D:Nat→Prop)(N:Nat)(w:World)(l:List ByteArray):Prop where
 at_ :∃A c,w.cell? ⟨N,0,none⟩=some (.slice A l.length c)∧Rd D w A (l.map .string)∧l.length≤c∧c≤9223372036854775807
 free:w.frozen? ⟨N,0,none⟩=false
 off :∀b,D b→b≠N
theorem U7{D:Nat→Prop}{N:Nat}{w:World}(h:gI D N w []):
  Calls Tryz.prog 76 #[.pointer (some ⟨N,0,none⟩)] w fun e w'=>e=fQ∧w'=w:=by
 obtain⟨A,c,hc,hr,h1,h2⟩:=h.at_;have hc0:w.cell? ⟨N,0,none⟩=some (.slice A 0 c):=hc;clear h hr hc;go_enter Tryz.func76,Tryz.ntmps76
 go_wp2_with(go_at_call 78;(with_reducible refine(Fg rfl _).mono ?_);rintro e1 w1 ⟨rfl,rfl⟩)
 exact⟨rfl,rfl,rfl⟩
theorem Bo{D:Nat→Prop}{w:World}{b o:Nat}{x:Value}{xs:List Value}(h:Rd D w (some ⟨b,o,none⟩) (x::xs)):Rd D w (some ⟨b,o+1,none⟩) xs:=by
 rcases h with h|⟨b',o',e,hS,hc⟩
 ·cases h
 ·injection e with e;injection e with e1 e2;subst e1 e2;refine .inr ⟨b,o+1,rfl,hS,fun j u hu=>?_⟩;have:=hc (j+1) u (by simpa using hu)
  rwa [show o+1+j=o+(j+1)by omega]
theorem gI.next{D:Nat→Prop}{N:Nat}{w:World}{s:ByteArray}{r:List ByteArray}{A:Option Addr}{c:Nat}(h:gI D N w (s::r))(hr:Rd D w A (r.map .string))(hc:r.length≤c∧c≤9223372036854775807):
  gI D N (w.setCell ⟨N,0,none⟩ (.slice A r.length c)) r:=by
 obtain⟨A0,c0,hc0,_⟩:=h.at_;refine⟨⟨A,c,World.cell?_setCell_same _ _ _ hc0,hr.keep (fun b hb=>Below.heap_setCell w _ _ b (h.off b hb)),hc⟩,by rw[World.frozen?_setCell];exact h.free,h.off⟩
theorem DU{D:Nat→Prop}{N:Nat}{w:World}{s:ByteArray}{r:List ByteArray}(h:gI D N w (s::r)):
    Calls Tryz.prog 76 #[.pointer (some ⟨N,0,none⟩)] w fun e w'=>e = .returned (.string s)∧gI D N w' r∧∃v,w'=w.setCell ⟨N,0,none⟩ v:=by
  obtain⟨A,c,hc,hr,h1,h2⟩:=h.at_;obtain⟨b,o,rfl,hx⟩:=hr.at_ (j:=0) (by simp);have hx0:w.cell? ⟨b,o,none⟩=some (.string s):=by simpa using hx
  have hc0:w.cell? ⟨N,0,none⟩=some (.slice (some ⟨b,o,none⟩) (r.length+1) c):=hc;have hf:=h.free;have hl:0<r.length+1:=by omega
  have hli:(0:Int)<(r.length:Int)+1:=by omega
  have hlc:r.length+1≤c:=h1;have Hr:=hide hr;have H:=hide h;clear h hr hc hx;go_enter Tryz.func76,Tryz.ntmps76
  go_wp2_with(go_at_call 78;(with_reducible refine(Ff rfl _).mono ?_);rintro e1 w1 ⟨rfl,rfl⟩)
  all_goals
    go_ret
    first
      | exact⟨rfl,H.out.next (Bo Hr.out) ⟨by omega,by omega⟩,_,rfl⟩
      | (have hr0:r=[]:=List.eq_nil_of_length_eq_zero (by omega)
         subst hr0;exact⟨rfl,H.out.next (r:=[]) .nil ⟨by simp,by omega⟩,_,rfl⟩)
theorem Ny{D:Nat→Prop}{N:Nat}{w:World}(h:gI D N w []):
  Calls Tryz.prog 77 #[.pointer (some ⟨N,0,none⟩)] w fun e w'=>e=fQ∧w'=w:=by
 have H:=hide h;clear h;go_enter Tryz.func77,Tryz.ntmps77
 go_wp2_with(go_at_call 76;(with_reducible refine(U7 H.out).mono ?_);rintro e1 w1 ⟨rfl,rfl⟩)
 exact⟨rfl,rfl,rfl⟩
theorem Nz{D:Nat→Prop}{N:Nat}{w:World}{s:ByteArray}{r:List ByteArray}(h:gI D N w (s::r))(hs:isWord s=false):
  Calls Tryz.prog 77 #[.pointer (some ⟨N,0,none⟩)] w fun e w'=>e=fQ∧∃v,w'=w.setCell ⟨N,0,none⟩ v:=by
 have H:=hide h;have Hs:=hide hs;clear h hs;go_enter Tryz.func77,Tryz.ntmps77
 go_wp2_with(first
  | (go_at_call 76;(with_reducible refine(DU H.out).mono ?_);rintro e1 w1 ⟨rfl,h1,hv⟩)
  | (go_at_call 42;(with_reducible refine(Fe s _).mono ?_);rintro e2 w2 ⟨rfl,rfl⟩)
  | (go_at_call 78;(with_reducible refine(Fg Hs.out _).mono ?_);rintro e3 w3 ⟨rfl,rfl⟩))
 exact⟨rfl,rfl,hv⟩
theorem Bq{D:Nat→Prop}{N:Nat}{w:World}{s:ByteArray}{r:List ByteArray}(h:gI D N w (s::r))(hs:isWord s=true):
  Calls Tryz.prog 77 #[.pointer (some ⟨N,0,none⟩)] w fun e w'=>e = .returned (.string s)∧gI D N w' r∧∃v,w'=w.setCell ⟨N,0,none⟩ v:=by
 have H:=hide h;have Hs:=hide hs;clear h hs;go_enter Tryz.func77,Tryz.ntmps77
 go_wp2_with(first
  | (go_at_call 76;(with_reducible refine(DU H.out).mono ?_);rintro e1 w1 ⟨rfl,h1,hv⟩;have H1:=hide h1;have Hv:=hide hv;clear h1 hv)
  | (go_at_call 42;(with_reducible refine(Fe s _).mono ?_);rintro e2 w2 ⟨rfl,rfl⟩)
  | (go_at_call 78;(with_reducible refine(Ff Hs.out _).mono ?_);rintro e3 w3 ⟨rfl,rfl⟩))
 go_ret;exact⟨rfl,H1.out,Hv.out⟩
end
section
open Go.RowKit
def ob(v:Value):List Nat:=v.ownBlock.toList
def uX(R:List (Value×Nat)):List Nat:=R.flatMap fun r=>ob r.1
theorem qL{v:Value}{g:Nat}:g∈ob v↔v.ownBlock=some g:=by simp[ob,Option.mem_toList]
theorem Bv:uX []=[]:=rfl
theorem Qc(r:Value×Nat)(R:List (Value×Nat)):uX (r::R)=ob r.1++uX R:=by simp[uX]
theorem Qd(R R':List (Value×Nat)):uX (R++R')=uX R++uX R':=by simp[uX]
section
variable {w w' : World} {e : TypeId} {size n : Nat} {v : Value} {xs : List Value}
theorem Qe(h:w.ownsRow 0 e size v n xs)(hk :∀b∈ob v,w'.heap[b]?=w.heap[b]?):w'.ownsRow 0 e size v n xs:=by
 refine⟨h.1,?_⟩;rcases h.2 with hn|⟨g,cap,cur,rfl,hb,hgg,rest⟩
 ·exact .inl hn
 ·exact .inr ⟨g,cap,cur,rfl,hb,(hk g (qL.2 rfl)).trans hgg,rest⟩
theorem qi(h:w.ownsRow 0 e size v n xs):∀b∈ob v,b<w.heap.size:=fun b hb=>(h.lt b (qL.1 hb)).2
theorem YP{L L':List Nat}{M:Nat}(h:L.Nodup)(h':L'.Nodup)(hl :∀b∈L,b<M)(hl' :∀b∈L',M≤b):(L++L').Nodup :=
 List.nodup_append.2 ⟨h,h',fun a ha b hb e=>by have:=hl a ha;have:=hl' b hb;omega⟩
theorem U8(v:Value):(ob v).Nodup:=by unfold ob;cases v.ownBlock<;>simp
end
def Af(w:World):List Value→Fo→List (Value×Nat)→Prop
 | vs,.nil,R=>vs=[]∧R=[]
 | vs,.cons k t n ks r,R=>∃KA c vs' ys R1 R2,vs = .int .u8 k :: .string t :: .int .i64 n :: .slice KA ks.len c::vs'∧(k<256∧t.size≤9223372036854775807∧ai n)∧
   w.ownsRow 0 218 4 (.slice KA ks.len c) ks.len ys∧Af w ys ks R1∧Af w vs' r R2∧R=(.slice KA ks.len c,ks.len)::(R1++R2)
section
variable {w w' : World}
theorem Af.keep :∀{f:Fo} {vs:List Value} {R:List (Value×Nat)},Af w vs f R→(∀b∈uX R,w'.heap[b]?=w.heap[b]?)→Af w' vs f R:=by
 intro f
 induction f with
 | nil=>intro vs R h _;exact h
 | cons k t n ks r ihk ihr =>
  rintro vs R ⟨KA,c,vs',ys,R1,R2,rfl,h1,h2,h3,h4,rfl⟩ hk;simp only[Qc,Qd,List.mem_append]at hk;exact⟨KA,c,vs',ys,R1,R2,rfl,h1,Qe h2 fun b hb=>hk b (.inl hb),ihk h3 fun b hb=>hk b (.inr (.inl hb)),ihr h4 fun b hb=>hk b (.inr (.inr hb)),rfl⟩
theorem Af.lt :∀{f:Fo} {vs:List Value} {R:List (Value×Nat)},Af w vs f R→∀b∈uX R,b<w.heap.size:=by
 intro f
 induction f with
 | nil=>rintro vs R ⟨_,rfl⟩ b hb;simp[Bv]at hb
 | cons k t n ks r ihk ihr =>
  rintro vs R ⟨KA,c,vs',ys,R1,R2,rfl,h1,h2,h3,h4,rfl⟩ b hb;simp only[Qc,Qd,List.mem_append]at hb;rcases hb with hb|hb|hb
  ·exact qi h2 b hb
  ·exact ihk h3 b hb
  ·exact ihr h4 b hb
theorem JG{e n:Nat}{v:Value}{xs:List Value}{A:Option Addr}{c size:Nat}(h:w.ownsRow 0 e size v n xs)(hv:v = .slice A n c):n≤c∧c≤9223372036854775807:=by
 subst hv;rcases h.2 with⟨e1,e2⟩|⟨g,cap,cur,e1,_,_,hn,hc,_⟩
 ·injection e1 with _ _ e3;omega
 ·injection e1 with _ _ e3;unfold maxLen at hc;omega
theorem Fh{S:Nat→Prop}{e n c:Nat}{A:Option Addr}{xs:List Value}(h:w.ownsRow 0 e 1 (.slice A n c) n xs)(hS :∀g∈ob (.slice A n c),S g):Rd S w A xs:=by
 obtain⟨A',c',e1,h1,_⟩:=MV (S:=S) h fun g hg=>hS g (qL.2 hg);injection e1 with e1;exact e1▸h1
theorem qM{S:Nat→Prop}{e c:Nat}{A:Option Addr}{vs:List Value}{f:Fo}(h:w.ownsRow 0 e 4 (.slice A f.len c) f.len vs)(hS :∀g∈ob (.slice A f.len c),S g)(hf:dI S w vs f):bG S w A f:=by
 rcases h.2 with⟨e1,h0⟩|⟨g,cap,cur,e1,hb,hgg,hn,hc,_⟩
 ·have:f = .nil:=by cases f with
   | nil=>rfl
   | cons=>simp[Fo.len]at h0
  subst this;exact trivial
 ·injection e1 with e1 _ e3;subst e1;refine hf.at_ (fun b hS=>hS) (hS g (qL.2 rfl)) fun j u hu=>?_;have:=h.cells (g:=g) rfl j u hu
  rwa [Addr.add_lit]at this
theorem Af.cells{S:Nat→Prop}:∀{f:Fo} {vs:List Value} {R:List (Value×Nat)},Af w vs f R→(∀b∈uX R,S b)→dI S w vs f:=by
 intro f
 induction f with
 | nil=>rintro vs R ⟨rfl,_⟩ _;rfl
 | cons k t n ks r ihk ihr =>
  rintro vs R ⟨KA,c,vs',ys,R1,R2,rfl,⟨h1,h5,h6⟩,h2,h3,h4,rfl⟩ hS;simp only[Qc,Qd,List.mem_append]at hS;obtain⟨hn,hc⟩:=JG h2 rfl;exact⟨KA,c,vs',rfl,h1,h5,h6,hn,hc,qM h2 (fun g hg=>hS g (.inl hg)) (ihk h3 fun b hb=>hS b (.inr (.inl hb))),ihr h4 fun b hb=>hS b (.inr (.inr hb))⟩
end
def gQ(w:World)(A:Option Addr)(c:Nat)(f:Fo)(L:List Nat):Prop :=
 ∃vs R,w.ownsRow 0 218 4 (.slice A f.len c) f.len vs∧Af w vs f R∧L=ob (.slice A f.len c)++uX R∧L.Nodup
def ku(e:TypeId)(w:World)(A:Option Addr)(c n:Nat)(xs:List Value)(L:List Nat):Prop:=w.ownsRow 0 e 1 (.slice A n c) n xs∧L=ob (.slice A n c)
section
variable {w w' : World} {A : Option Addr} {c : Nat} {f : Fo} {L : List Nat} {e : TypeId} {n : Nat} {xs : List Value}
theorem gQ.keep(h:gQ w A c f L)(hk :∀b∈L,w'.heap[b]?=w.heap[b]?):gQ w' A c f L:=by
 obtain⟨vs,R,h1,h2,rfl,h3⟩:=h;exact⟨vs,R,Qe h1 fun b hb=>hk b (by simp[hb]),h2.keep fun b hb=>hk b (by simp[hb]),rfl,h3⟩
theorem gQ.lt(h:gQ w A c f L):∀b∈L,b<w.heap.size:=by
 obtain⟨vs,R,h1,h2,rfl,h3⟩:=h;intro b hb;rcases List.mem_append.1 hb with hb|hb
 ·exact qi h1 b hb
 ·exact h2.lt b hb
theorem gQ.fo{S:Nat→Prop}(h:gQ w A c f L)(hS :∀b∈L,S b):bG S w A f:=by
 obtain⟨vs,R,h1,h2,rfl,h3⟩:=h;exact qM h1 (fun g hg=>hS g (by simp[hg])) (h2.cells fun b hb=>hS b (by simp[hb]))
theorem gQ.zero:gQ w none 0 .nil []:=⟨[],[],⟨rfl,.inl ⟨rfl,rfl⟩⟩,⟨rfl,rfl⟩,rfl,List.nodup_nil⟩
theorem ku.keep(h:ku e w A c n xs L)(hk :∀b∈L,w'.heap[b]?=w.heap[b]?):ku e w' A c n xs L:=by
 obtain⟨h1,rfl⟩:=h;exact⟨Qe h1 hk,rfl⟩
theorem ku.lt(h:ku e w A c n xs L):∀b∈L,b<w.heap.size:=by
 obtain⟨h1,rfl⟩:=h;exact qi h1
theorem ku.zero:ku e w none 0 0 [] []:=⟨⟨rfl,.inl ⟨rfl,rfl⟩⟩,rfl⟩
end
def wS(w:World)(x:Hh)(h:Hk)(L:List Nat):Prop:=∃L1 L2,ku 9 w x.oA x.oc h.old.length (h.old.map .string) L1∧ku 9 w x.nA x.nc h.new.length (h.new.map .string) L2∧L=L1++L2
def wU(w:World)(x:Eh)(e:Ed)(L:List Nat):Prop:=∃L1 L2 L3,ku 3 w x.pA x.pc e.path.length (e.path.map (.int .i64)) L1∧gQ w x.oA x.oc e.old L2∧gQ w x.nA x.nc e.new L3∧L=L1++(L2++L3)
def uY(w:World)(x:Ph)(p:Pt)(L:List Nat):Prop:=∃L1 L2,wS w x.h p.hunk L1∧wU w x.e p.edit L2∧L=L1++L2
section
variable {w w' : World} {L : List Nat}
theorem wS.keep{x:Hh}{h:Hk}(a:wS w x h L)(hk :∀b∈L,w'.heap[b]?=w.heap[b]?):wS w' x h L:=by
 obtain⟨L1,L2,h1,h2,rfl⟩:=a;exact⟨L1,L2,h1.keep fun b hb=>hk b (by simp[hb]),h2.keep fun b hb=>hk b (by simp[hb]),rfl⟩
theorem wU.keep{x:Eh}{e:Ed}(a:wU w x e L)(hk :∀b∈L,w'.heap[b]?=w.heap[b]?):wU w' x e L:=by
 obtain⟨L1,L2,L3,h1,h2,h3,rfl⟩:=a;exact⟨L1,L2,L3,h1.keep fun b hb=>hk b (by simp[hb]),h2.keep fun b hb=>hk b (by simp[hb]),h3.keep fun b hb=>hk b (by simp[hb]),rfl⟩
theorem uY.keep{x:Ph}{p:Pt}(a:uY w x p L)(hk :∀b∈L,w'.heap[b]?=w.heap[b]?):uY w' x p L:=by
 obtain⟨L1,L2,h1,h2,rfl⟩:=a;exact⟨L1,L2,h1.keep fun b hb=>hk b (by simp[hb]),h2.keep fun b hb=>hk b (by simp[hb]),rfl⟩
theorem wS.lt{x:Hh}{h:Hk}(a:wS w x h L):∀b∈L,b<w.heap.size:=by
 obtain⟨L1,L2,h1,h2,rfl⟩:=a;intro b hb;rcases List.mem_append.1 hb with hb|hb
 ·exact h1.lt b hb
 ·exact h2.lt b hb
theorem wU.lt{x:Eh}{e:Ed}(a:wU w x e L):∀b∈L,b<w.heap.size:=by
 obtain⟨L1,L2,L3,h1,h2,h3,rfl⟩:=a;intro b hb;simp only[List.mem_append]at hb;rcases hb with hb|hb|hb
 ·exact h1.lt b hb
 ·exact h2.lt b hb
 ·exact h3.lt b hb
theorem uY.lt{x:Ph}{p:Pt}(a:uY w x p L):∀b∈L,b<w.heap.size:=by
 obtain⟨L1,L2,h1,h2,rfl⟩:=a;intro b hb;rcases List.mem_append.1 hb with hb|hb
 ·exact h1.lt b hb
 ·exact h2.lt b hb
theorem wS.zero:wS w ⟨none,0,none,0⟩ Hk.zero []:=⟨[],[],ku.zero,ku.zero,rfl⟩
theorem wU.zero:wU w ⟨none,0,none,0,none,0⟩ Ed.zero []:=⟨[],[],[],ku.zero,gQ.zero,gQ.zero,rfl⟩
theorem uY.bare{k:Nat}{f t:ByteArray}:uY w ⟨⟨none,0,none,0⟩,⟨none,0,none,0,none,0⟩⟩ ⟨k,f,t,Hk.zero,Ed.zero⟩ []:=⟨[],[],wS.zero,wU.zero,rfl⟩
end
end
section
open Go.RowKit
theorem ik.tab {w : World} (h : ik w) : Lib.TabIs Tryz.prog w "internal/strconv.uint64pow10" .u64 Lib.pow10Tab := h.2
theorem Bz(w:World)(a b:ByteArray):(w.alloc (.cells #[.string a,.string b] 9)).ownsRow 0 9 1 (.slice (some ⟨w.heap.size,0,none⟩) 2 2) 2 ([a,b].map .string):=
 ⟨rfl,.inr ⟨w.heap.size,2,#[.string a,.string b],rfl,Nat.zero_le _,heap_alloc_new w _,aC _,by decide,rfl,rfl⟩⟩
abbrev qN(n:Int):ByteArray:=⟨(Lib.itoa n).toArray⟩
abbrev nU:ByteArray:=⟨#[101,114,114,111,114]⟩
theorem An.err_line(a:An)(h :¬a.err=0):Lib.join ([nU,qN a.err].map (·.data.toList)) [32]=a.line:=by
 rw[An.line,An.parts,if_neg h];simp[nU,qN,lZ]
theorem An.err_len(a:An)(h :¬a.err=0)(hi:ai a.err):a.line.length≤40:=by
 rw[An.line_err a h];have:=Lib.itoa_length_le a.err hi.1 hi.2;simp[lZ];omega
theorem wV{S:Nat→Prop}{w:World}{x:Ah}{a:An}(h:oO S w x a)(he :¬a.err=0)(ht:ik w):
  Calls Tryz.prog 20 #[.agg #[.int .i64 a.err,.slice x.nA a.names.length x.nc,.string a.text,.slice x.bA a.bytes.length x.bc]] w fun e w'=>e = .returned (.string ⟨a.line.toArray⟩)∧Below w.heap.size w w':=by
 have Qg:=hide (a.err_len he h.err);have oP:=hide (a.err_line he);have Hi:Hid (-9223372036854775808≤a.err∧a.err≤9223372036854775807):=hide h.err;have HT:=hide (ik.below ht (az w (.cells #[.int .i64 a.err,.slice x.nA a.names.length x.nc,.string a.text,.slice x.bA a.bytes.length x.bc] 53)));clear h ht;go_enter Tryz.func20,Tryz.ntmps20
 go_wp2_with(first
  | (go_at_call 55;(with_reducible refine(Tryz.strconv_Itoa a.err Hi.out.1 Hi.out.2 _ (ik.tab HT.out)).mono ?_);rintro e1 w1 ⟨rfl,k1,os,rfl⟩;have hg:=YK (w.alloc (.cells #[.int .i64 a.err,.slice x.nA a.names.length x.nc,.string a.text,.slice x.bA a.bytes.length x.bc] 53)) k1 os;generalize Go.Sort.grow ((w.alloc (.cells #[.int .i64 a.err,.slice x.nA a.names.length x.nc,.string a.text,.slice x.bA a.bytes.length x.bc] 53)).drewN k1) os=w1 at hg;have HB1:Hid (Below w.heap.size w w1):=hide ((az w _).trans (hg.mono (by simp)));clear hg)
  | (go_at_call 47;(with_reducible refine(Nv (B:=0) (ws:=[nU,qN a.err]) (Bz w1 nU (qN a.err)) rfl (Nat.succ_pos _) (by simp) (by have:=Qg.out;rw[oP.out];omega)).mono ?_);rintro e2 w2 ⟨rfl,hb2⟩;have HB2:Hid (Below w.heap.size w w2):=hide ((HB1.out.trans ((az w1 _).mono HB1.out.size)).trans (hb2.mono (by have:=HB1.out.size;simp;omega)));clear hb2))
 go_ret;exact⟨congrArg (fun l:List UInt8=>Ending.returned (.string ⟨l.toArray⟩)) oP.out,HB2.out⟩
theorem wW{S:Nat→Prop}{w:World}{x:Ah}{a:An}(h:oO S w x a)(ht:ik w)(hbk:a.bulk≤1099511627776):
  Calls Tryz.prog 20 #[.agg #[.int .i64 a.err,.slice x.nA a.names.length x.nc,.string a.text,.slice x.bA a.bytes.length x.bc]] w fun e w'=>e = .returned (.string ⟨a.line.toArray⟩)∧Below w.heap.size w w':=by
 by_cases he:a.err=0
 ·rw[he];exact qK h he hbk
 ·exact wV h he ht
theorem U9{p:Nat}(h:kindRow p=none)(w:World):
  Calls Tryz.prog 283 #[.int .u8 p] w fun e w'=>e = .returned (.tuple #[.agg #[.slice none 0 0,.bool false],.bool false])∧Below w.heap.size w w':=by
 refine(UF p w).mono ?_;rintro e w' ⟨hB,⟨_,he⟩|⟨k',ks,all,A,c,hf,_⟩⟩
 ·exact⟨he,hB⟩
 ·rw[h]at hf;cases hf
theorem Fj{p:Nat}{k':Int}{ks:List Int}{all:Bool}(h:kindRow p=some (k',ks,all))(w:World):
  Calls Tryz.prog 283 #[.int .u8 p] w fun e w'=>∃A c,e = .returned (.tuple #[.agg #[.slice A ks.length c,.bool all],.bool true])∧Rd (fun _=>True) w' A (ks.map (.int .u8))∧Below w.heap.size w w':=by
 refine(UF p w).mono ?_;rintro e w' ⟨hB,⟨hf,_⟩|⟨k'',ks',all',A,c,hf,he,hr⟩⟩
 ·rw[h]at hf;cases hf
 ·rw[h]at hf;cases hf;exact⟨A,c,he,hr,hB⟩
theorem NC :∀r∈fB,(∀x∈r.2.1,0≤x∧x<256)∧(r.2.2=true→r.2.1.length=1)∧r.2.1.length≤3:=by decide
theorem Va{p:Nat}{k':Int}{ks:List Int}{all:Bool}(h:kindRow p=some (k',ks,all)){j:Nat}(hj:j<ks.length):∃n:Nat,ks[j]=n:=by
 have:=(NC _ (EU h).1).1 ks[j] (List.getElem_mem hj);exact⟨ks[j].toNat,by omega⟩
theorem Vb(p k i:Nat)(w:World):Calls Tryz.prog 285 #[.int .u8 p,.int .u8 k,.int .i64 i] w fun e w'=>ah (aZ p k i) e∧Below w.heap.size w w':=by
 cases h:kindRow p with
 | none =>
  have H:=hide h;clear h;go_enter Tryz.func285,Tryz.ntmps285
  go_wp2_with(go_at_call 283;refine(U9 H.out _).mono ?_;rintro e w1 ⟨rfl,hB⟩;have HB:=hide hB;clear hB)
  go_ret;exact⟨ah.no (sK H.out k i),HB.out.alloc HB.out.size _⟩
 | some x =>
  obtain⟨k',ks,all⟩:=x;have H:=hide h;have hlen:=(NC _ (EU h).1).2.2;have hone:=hide (NC _ (EU h).1).2.1;simp only at hlen;clear h;by_cases hall:all=true
  ·subst hall;have h0:0<ks.length:=by have:=hone.out rfl;simp only at this;omega
   obtain⟨n,hn⟩:=Va H.out h0;have Hn:=hide hn;clear hn;go_enter Tryz.func285,Tryz.ntmps285
   go_wp2_with(first
    | (go_at_call 283;refine(Fj H.out _).mono ?_;rintro e w1 ⟨A,c,rfl,hrd,hB⟩;have HB:=hide hB;clear hB;obtain⟨b,o,rfl,hc⟩:=hrd.at_ (j:=0) (by simpa using h0);simp only[List.getElem_map,Hn.out,Nat.add_zero]at hc;have hb:=block_lt_of_cell hc;clear hrd)
    | (go_at_call 298;refine(wE k n _).mono ?_;rintro e w2 ⟨⟨b2,rfl,hb2⟩,rfl⟩;have Hb:=hide hb2;clear hb2))
   go_ret;exact⟨ah.mk (by rw[Hb.out,PS H.out];simp[List.getElem?_eq_getElem h0,Hn.out,Int.natCast_inj]),HB.out.alloc HB.out.size _⟩
  ·obtain rfl:all=false:=by simpa using hall
   by_cases h0:i<ks.length
   ·obtain⟨n,hn⟩:=Va H.out h0;have Hn:=hide hn;clear hn hall;go_enter Tryz.func285,Tryz.ntmps285
    go_wp2_with(first
     | (go_at_call 283;refine(Fj H.out _).mono ?_;rintro e w1 ⟨A,c,rfl,hrd,hB⟩;have HB:=hide hB;clear hB;obtain⟨b,o,rfl,hc⟩:=hrd.at_ (j:=i) (by simpa using h0);simp only[List.getElem_map,Hn.out]at hc;have hb:=block_lt_of_cell hc;clear hrd)
     | (go_at_call 298;refine(wE k n _).mono ?_;rintro e w2 ⟨⟨b2,rfl,hb2⟩,rfl⟩;have Hb:=hide hb2;clear hb2))
    go_ret;exact⟨ah.mk (by rw[Hb.out,PS H.out];simp[List.getElem?_eq_getElem h0,Hn.out,Int.natCast_inj]),HB.out.alloc HB.out.size _⟩
   ·clear hall;go_enter Tryz.func285,Tryz.ntmps285
    go_wp2_with(go_at_call 283;refine(Fj H.out _).mono ?_;rintro e w1 ⟨A,c,rfl,hrd,hB⟩;have HB:=hide hB;clear hB;have UG:=hide hrd;clear hrd)
    go_ret;refine⟨ah.no ?_,HB.out.alloc HB.out.size _⟩;rw[PS H.out];simp[List.getElem?_eq_none (by omega:ks.length≤i)]
end
section
open Go.RowKit
section
variable {S S' : Nat → Prop} {w w' : World} {A : Option Addr} {c : Nat}
theorem bT.keep{l:List ByteArray}(h:bT S w A c l)(hk :∀b,S b→w'.heap[b]?=w.heap[b]?):bT S w' A c l:=⟨h.1.keep hk,h.2⟩
theorem cZ.keep{l:List Int}(h:cZ S w A c l)(hk :∀b,S b→w'.heap[b]?=w.heap[b]?):cZ S w' A c l:=⟨h.1.keep hk,h.2⟩
theorem bQ.keep{f:Fo}(h:bQ S w A c f)(hk :∀b,S b→w'.heap[b]?=w.heap[b]?):bQ S w' A c f:=by
 obtain⟨g,e,h1,h2,h3,h4⟩:=h;exact⟨g,e,h1,h2,h3,h4.keep h1 hk⟩
theorem eG.keep{x:Hh}{h:Hk}(a:eG S w x h)(hk :∀b,S b→w'.heap[b]?=w.heap[b]?):eG S w' x h:=⟨a.at_,a.old.keep hk,a.new.keep hk⟩
theorem fK.keep{x:Eh}{e:Ed}(a:fK S w x e)(hk :∀b,S b→w'.heap[b]?=w.heap[b]?):fK S w' x e:=⟨a.kind,a.path.keep hk,a.at_,a.far,a.frm,a.to,a.old.keep hk,a.new.keep hk⟩
theorem eH.keep{x:Ph}{p:Pt}(a:eH S w x p)(hk :∀b,S b→w'.heap[b]?=w.heap[b]?):eH S w' x p:=⟨a.kind,a.file,a.text,a.hunk.keep hk,a.edit.keep hk⟩
end
end
section
open Go.RowKit
theorem sW{f:Fo}{i k:Nat}{t:ByteArray}{n:Int}{ks r:Fo}(h:f.drop i = .cons k t n ks r):iy (f.take (i+1))=iy (f.take i)++eX k t n ks:=by
 have h2:f.take (i+1)=(f.take i).app (.cons k t n ks .nil):=by
  induction i generalizing f with
  | zero=>cases f with
   | nil=>cases h
   | cons=>cases h;rfl
  | succ i ih=>cases f with
   | nil=>cases h
   | cons k' t' n' ks' r'=>simp only[Fo.take,Fo.app];rw[ih h]
 rw[h2,Il,EO];simp[iy]
theorem sZ{f:Fo}{i k:Nat}{t:ByteArray}{n:Int}{ks r:Fo}(h:f.drop i = .cons k t n ks r):(iy (f.take i)).length+(eX k t n ks).length≤(iy f).length:=by
 have h1:=congrArg (fun x=>(iy x).length) (Fo.take_drop i f);simp only[Il,h,EO,aJ]at h1;omega
theorem YQ(f:Fo):f.take f.len=f:=by
 have:=Fo.take_drop f.len f
 rwa [Fo.drop_len f _ (aC _),Fo.app_nil]at this
theorem BA(k:Nat)(hk:k<256):(k:Int)=((UInt8.ofNat k).toNat:Int):=by simp;omega
theorem YR(N:Nat):∀(S:Nat→Prop) (w:World) (A:Option Addr) (c:Nat) (f:Fo),f.cnt<N→bG S w A f→f.len≤9223372036854775807→(aO f).length≤gG→
  Calls Tryz.prog 185 #[.slice A f.len c] w fun e w'=>∃v,e = .returned v∧bW w.heap.size w' v (aO f)∧Below w.heap.size w w':=by
 induction N with
 | zero=>intro S w A c f h;omega
 | succ N ih =>
  intro S w A c f hcnt hf hfl hlen;have Hf:=hide hf;have Hlen:=hide hlen;have nH:=hide ih;clear hf hlen ih;go_enter Tryz.func185,Tryz.ntmps185
  go_wp2_with(go_at_call 118;refine(AZ (n:=f.len) (by unfold ai;omega)).mono ?_;rintro e w1 ⟨v1,rfl,h1,hB1⟩;have H1:=hide h1;have HB1:=hide hB1;clear h1 hB1)
  go_loopw [3,4] (fun v i wr=>∃q:Nat,q≤f.len∧i = .int .i64 q∧Hid (bW w.heap.size wr v (au f.len++iy (f.take q)))∧Hid (Below w.heap.size w wr)) (fun _ i _=>f.len-(intOf i).toNat)
  case atStart=>exact⟨0,Nat.zero_le _,rfl,hide (by have:=H1.out;cases f<;>simpa[Fo.take,iy]using this),HB1⟩
  case round =>
   obtain⟨q,hq,rfl,HO,HW⟩:=hrel;by_cases hlt:q<f.len
   ·obtain⟨b,o,KA,c',k,t,n,ks,r,rfl,hd,c0,c1,c2,c3,e1,e2,e3,e4,e5,hks,hc⟩:=Hf.out.at_ hlt;have hlow :∀{p:Addr} {v:Value},w.cell? p=some v→∀W,Below w.heap.size w W→W.cell? p=some v:=fun h W hW=>(World.cell?_of_block (hW.block _ (block_lt_of_cell h))).trans h;replace c0:=hlow c0;replace c1:=hlow c1;replace c2:=hlow c2;replace c3:=hlow c3;clear hlow;have Hd:=hide hd;have He:=hide e3;have kT:=hide hks;have HL:Hid ((au f.len++iy (f.take q)).length+(1+(ax t).length+8+(aO ks).length)≤gG):=by
     have h1:=Hlen.out;have h2:=sZ hd;simp only[aO,eX,aJ,List.length_cons,iC]at h1 h2;refine hide ?_;simp only[aO,aJ,iC];omega
    have hW0:=HW.out;clear hd e3 hks HW
    go_wp2_with(at_builtin;refine oH rfl _ _ rfl w.heap.size wr.heap.size _ _ _ [UInt8.ofNat k] rfl (HO.out.below (az _ _)) rfl (bW.lit wr (BA k e1)) (by have:=HL.out;(try simp only[aJ,List.length_cons,List.length_nil,iC]at this⊢);omega) (aI hW0.size (az _ _).size) ?_)
    intro v1 w1 h1 hB1;have H1:=hide h1;have hW1:Below w.heap.size w w1:=(hW0.trans ((az _ _).mono hW0.size)).trans hB1;clear h1 hB1
    go_wp2_with(first
     | (go_at_call 117;(with_reducible refine(vY e2 (by have:=HL.out;(try simp only[aJ,List.length_cons,List.length_nil,iC]at this⊢);omega)).mono ?_);rintro e2 c2 ⟨u2,rfl,g2,k2⟩;have G2:=hide g2;have K2:=hide k2;clear g2 k2)
     | (at_builtin;refine oH rfl _ _ rfl w.heap.size w1.heap.size _ _ _ (ax t) rfl (H1.out.below K2.out) rfl G2.out (by have:=HL.out;(try simp only[aJ,List.length_cons,List.length_nil,iC]at this⊢);omega) (aI hW1.size K2.out.size) ?_))
    intro v2 w2 h2 hB2;have H2:=hide h2;have hW2:Below w.heap.size w w2:=(hW1.trans (K2.out.mono hW1.size)).trans hB2;clear h2 hB2
    go_wp2_with(first
     | (go_at_call 118;(with_reducible refine(AZ He.out).mono ?_);rintro e3 c3 ⟨u3,rfl,g3,k3⟩;have G3:=hide g3;have K3:=hide k3;clear g3 k3)
     | (at_builtin;refine oH rfl _ _ rfl w.heap.size w2.heap.size _ _ _ (au n) rfl (H2.out.below K3.out) rfl G3.out (by have:=HL.out;(try simp only[aJ,List.length_cons,List.length_nil,iC]at this⊢);omega) (aI hW2.size K3.out.size) ?_))
    intro v3 w3 h3 hB3;have H3:=hide h3;have hW3:Below w.heap.size w w3:=(hW2.trans (K3.out.mono hW2.size)).trans hB3;clear h3 hB3
    go_wp2_with(first
     | (go_at_call 185;(with_reducible refine(nH.out S w3 KA c' ks (by omega) (kT.out.below hW3) (by omega) (by have:=HL.out;(try simp only[aJ,List.length_cons,List.length_nil,iC]at this⊢);omega)).mono ?_);rintro e4 c4 ⟨u4,rfl,g4,k4⟩;have G4:=hide g4;have K4:=hide k4;clear g4 k4)
     | (at_builtin;refine oH rfl _ _ rfl w.heap.size w3.heap.size _ _ _ (aO ks) rfl (H3.out.below K4.out) rfl G4.out (by have:=HL.out;(try simp only[aJ,List.length_cons,List.length_nil,iC]at this⊢);omega) (aI hW3.size K4.out.size) ?_))
    intro v4 w4 h4 hB4;have H4:=hide h4;have DV:Below w.heap.size w w4:=(hW3.trans (K4.out.mono hW3.size)).trans hB4;clear h4 hB4
    go_wp2
    have YS:=hide DV
    go_roundw
    case rel=>exact⟨q+1,by omega,by go_num,hide (by rw[sW Hd.out];have:=H4.out;simpa[eX,List.append_assoc]using this),hide DV⟩
    case measure=>simp[intOf];omega
   ·go_wp2_with fail
    go_ret;have hq8:q=f.len:=by omega
    subst hq8;exact⟨_,rfl,by have:=HO.out;rwa [YQ]at this,HW.out⟩
theorem Vd{S:Nat→Prop}{w:World}{A:Option Addr}{c:Nat}{f:Fo}(hf:bG S w A f)(hfl:f.len≤9223372036854775807)(hlen:(aO f).length≤gG):
  Calls Tryz.prog 185 #[.slice A f.len c] w fun e w'=>∃v,e = .returned v∧bW w.heap.size w' v (aO f)∧Below w.heap.size w w' :=
 YR (f.cnt+1) S w A c f (by omega) hf hfl hlen
end
end Go.Proofs.YtjjaojnglnpgaaaGreatDoor
