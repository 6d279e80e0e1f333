/- Part 35 of what commuteFiles_cardUpto rests on. -/
import Derived.Laws.EntriesVeiled
import Derived.LoopTactic
import Derived.Test.YtialngdffhmobaaGreatDoorV33
import Derived.Test.YtialngdffhmobaaGreatDoorV25
import Derived.Test.YtialngdffhmobaaGreatDoorV00
set_option linter.unusedVariables false
set_option linter.unusedSimpArgs false
set_option maxHeartbeats 16000000
set_option maxRecDepth 1000000
namespace Go.Proofs.YtialngdffhmobaaGreatDoor
section
open Go.RowKit
abbrev ag(e:Ed)(y:Eh)(nm bd:Value)(pr cl:Bool):List Value:=[.int .u8 e.kind,.slice y.pA e.path.length y.pc,.int .i64 e.at_,.int .i64 e.far,.string e.frm,.string e.to,.slice y.oA e.old.len y.oc,.slice y.nA e.new.len y.nc,nm,bd,.bool pr,.bool cl]
theorem iM:(Tryz.prog.info? 246).map (·.size)=some 12:=by kernel_rfl
def tV(e:Ed)(y:Eh)(nm:Value)(pr:Bool)(w0:World)(b0:Nat)(m:Nat)(st:List ByteArray×Bool)(D:List Nat)(W:World):Prop:=∃v,jl w0 b0 v m st.1 D W∧Bx W b0 (ag e y nm v pr st.2)
def bn(st:List ByteArray×Bool)(k:Nat)(t:ByteArray):List ByteArray×Bool:=if k=25 then(st.1,true)else if k=2∨k=4∨k=6 then(st.1++[t],st.2)else st
theorem FC :∀(f:Fo) (st:List ByteArray×Bool),(f.fold bn st).1=st.1++f.binds
 | .nil,st=>by simp[Fo.fold,Fo.binds]
 | .cons k t n ks r,st=>by
  simp only[Fo.fold,Fo.binds,FC ks,FC r,bn];by_cases h:k=25
  ·subst h;simp
  ·by_cases h2:k=2∨k=4∨k=6
   ·simp[h,h2]
   ·simp[h,h2]
theorem FD :∀(f:Fo) (st:List ByteArray×Bool),(f.fold bn st).2=true↔st.2=true∨f.calls
 | .nil,st=>by simp[Fo.fold,Fo.calls]
 | .cons k t n ks r,st=>by
  simp only[Fo.fold,Fo.calls,FD ks,FD r,bn];by_cases h:k=25
  ·subst h;simp
  ·by_cases h2:k=2∨k=4∨k=6
   ·simp[h,h2,or_assoc]
   ·simp[h,h2,or_assoc]
theorem jl.less{w0 W:World}{b0 m:Nat}{v:Value}{st:List ByteArray}{D:List Nat}(h:jl w0 b0 v (m+1) st D W):jl w0 b0 v m st D W:=⟨h.d,h.own,h.nb,h.ge,h.below,by have:=h.len;omega,h.sz⟩
theorem jl.box{w0 W:World}{b0 m o:Nat}{v:Value}{st:List ByteArray}{D:List Nat}{us:List Value}(h:jl w0 b0 v m st D W):jl w0 b0 v m st D (W.setCells b0 o us)∧Touch D D W (W.setCells b0 o us):=
 ⟨⟨h.d,wO h.own (jU fun b hb e=>h.nb (e▸hb)),h.nb,h.ge,dK (h.ge b0 (by rw[h.d];simp)) _ _ h.below,h.len,h.sz⟩,⟨by rw[dU];exact aC _,fun b hb hD=>iI b0 (fun e=>hD (by rw[h.d,e];simp)) _ _ _,fun b hb=> .inl hb⟩⟩
theorem yO{e:Ed}{y:Eh}{nm:Value}{pr:Bool}{w0 W:World}{b0 m k l c:Nat}{st:List ByteArray×Bool}{D:List Nat}{t:ByteArray}{n:Int}{A:Option Addr}(hJ:tV e y nm pr w0 b0 (m+1) st D W)(hk:k<256)(ht:t.size≤549755813888):
  Calls Tryz.prog 227 #[.agg #[.int .u8 k,.string t,.int .i64 n,.slice A l c],.pointer (some ⟨b0,0,none⟩)] W fun e1 W'=>e1 = .returned (.tuple #[])∧∃D',tV e y nm pr w0 b0 m (bn st k t) D' W'∧Touch D D' W W':=by
 obtain⟨v,hr,hb⟩:=hJ;have hX:=Bx.new W (eP k t n A l c) 152;have hB:=bg W (.cells (eP k t n A l c).toArray 152);have HR:=hide (hr.keep hB);have HT:=hide (Touch.below (D:=D) hB);have HX:=hide hX;have nT:=hide (hb.call hB);have hne:b0≠W.heap.size:=by have:=hb.lt;omega
 have jP:=hide hne;clear hr hb hX hB hne;go_enter Tryz.func227,Tryz.ntmps227
 go_upto_region 1 with fail
 change Code.wp _ _ _ _ (W.alloc (.cells (eP k t n A l c).toArray 152));generalize W.alloc (.cells (eP k t n A l c).toArray 152)=W1 at HR HT HX nT⊢;generalize W.heap.size=N at HX jP⊢;have k0:=HX.out.cell 0;by_cases zY:k=25
 ·have e25:((k:Int) == 25)=true:=by simp;omega
  have hstep:bn st k t=(st.1,true):=by unfold bn;rw[if_pos zY]
  have iC:=hide hstep;clear hstep zY;have NS:=nT.out.cell 11;have hf:=nT.out.f
  go_wp2_with fail
  obtain⟨q1,q2⟩:=HR.out.box (o:=11) (us:=[.bool true])
  go_end0
  refine⟨rfl,D,?_,HT.out.trans q2⟩;rw[iC.out];exact⟨v,q1.less,nT.out.puts 11 [.bool true] (ag e y nm v pr true) (by simp)⟩
 ·have e25:((k:Int) == 25)=false:=by simp;omega
  by_cases hb:k=2∨k=4∨k=6
  ·have hstep:bn st k t=(st.1++[t],st.2):=by unfold bn;rw[if_neg zY,if_pos hb]
   have iC:=hide hstep;clear hstep zY;have kt:=HX.out.cell 1;have k9:=nT.out.cell 9;have hpost :∀(K:Act→World→Prop),True:=fun _=>trivial;rcases hb with rfl|rfl|rfl
   all_goals
    go_upto_region 7 with fail
    refine wp_region_lit ?_;refine sk ?_;refine sk (v:=v) ?_;refine sk ?_;refine sk ?_;refine gw (w':=W1.alloc (.cells #[.string t] 9)) (v:= .slice (some ⟨W1.heap.size,0,none⟩) 1 1) ?_;have hb2:=bg W1 (.cells #[.string t] 9);have hr2:=HR.out.keep hb2;have hbx2:=nT.out.call hb2;obtain⟨v',W2,hrun,hp⟩:=IJ (ad:=⟨W1.heap.size,0,none⟩) (u:= .string t) hr2.own (by rw[Addr.add_lit];simp) rfl (by have:=hr2.len;omega);obtain⟨A',c',rfl⟩:=lG hp.1;have yP:Bx W2 b0 (ag e y nm v pr st.2):=hbx2.keep (hp.2.1.block b0 hbx2.lt (fun e=>hr2.nb (gy.2 e.symm))) hp.2.1.size;obtain⟨q1,q2⟩:=hr2.push (o:=9) hbx2.lt hp ht [.slice A' (st.1.length+1) c'];refine gw (hy:=wY hrun rfl rfl rfl) ?_;have c9:=yP.cell 9;have f9:=yP.f;refine sk ?_;refine ss (w':=W2.setCells b0 9 [.slice A' (st.1.length+1) c']) ?_ (by simp only[World.setCells];go_simp);refine wpList_nil ?_
    go_wp2_with fail
    go_end0
    refine⟨rfl,_,?_,HT.out.trans ((Touch.below hb2).trans q2)⟩;rw[iC.out];exact⟨_,q1,yP.puts 9 [.slice A' (st.1.length+1) c'] (ag e y nm (.slice A' (st.1.length+1) c') pr st.2) (by simp)⟩
  ·have hstep:bn st k t=st:=by unfold bn;rw[if_neg zY,if_neg hb]
   have iC:=hide hstep;have e2:((k:Int) == 2)=false:=by simp;omega
   have e4:((k:Int) == 4)=false:=by simp;omega
   have e6:((k:Int) == 6)=false:=by simp;omega
   clear hstep zY hb
   go_wp2_with fail
   go_end0
   refine⟨rfl,D,?_,HT.out⟩;rw[iC.out];exact⟨v,HR.out.less,nT.out⟩
theorem vU{k l c:Nat}{t:ByteArray}{n:Int}{A:Option Addr}{w:World}:Calls Tryz.prog 225 #[.agg (eP k t n A l c).toArray] w fun e w'=>ay (k=3∨k=4) e∧Below w.heap.size w w':=by
 have hX:=hide (Bx.new w (eP k t n A l c) 152);have hB:=hide (bg w (.cells (eP k t n A l c).toArray 152));go_enter Tryz.func225,Tryz.ntmps225
 go_upto_region 1 with fail
 change Code.wp _ _ _ _ (w.alloc (.cells (eP k t n A l c).toArray 152));have k0:=hX.out.cell 0;generalize w.alloc (.cells (eP k t n A l c).toArray 152)=W1 at hX hB k0⊢;by_cases h4:k=4
 ·subst h4
  go_wp2_with fail
  go_ret;exact⟨ay.mk (by simp),hB.out⟩
 ·have e4:((k:Int) == 4)=false:=by simp;omega
  obtain⟨b,hb⟩:∃b,b=((k:Int) == 3):=⟨_,rfl⟩
  go_wp2_with fail
  go_ret;exact⟨ay.mk (by simp;omega),hB.out⟩
theorem Fo.params_app :∀(f g:Fo),(f.app g).params↔f.params∨g.params
 | .nil,g=>by simp[Fo.app,Fo.params]
 | .cons k t n ks r,g=>by simp only[Fo.app,Fo.params,Fo.params_app r g,or_assoc]
theorem NT{c:Nat}{f:Fo}{A:Option Addr}{w:World}(h:bu Any w A f)(hl:f.len≤9223372036854775807):
  Calls Tryz.prog 257 #[.slice A f.len c,.func (.func 225) #[] #[]] w fun e w'=>(∃n:Int,e = .returned (.int .i64 n)∧(0≤n↔f.params)∧-1≤n)∧Below w.heap.size w w':=by
 have H:=hide h;clear h;go_enter Tryz.func257,Tryz.ntmps257
 go_wp2_with fail
 go_loopw [8] (fun i wr=>∃j:Nat,i = .int .i64 j∧j≤f.len∧Hid (¬(f.take j).params)∧Hid (Below w.heap.size w wr)) (fun i _=>f.len-(intOf i).toNat)
 case atStart=>exact⟨0,rfl,by omega,hide (by cases f<;>exact id),hide (Below.refl _ _)⟩
 case round =>
  obtain⟨j,rfl,hj,H1,HB⟩:=hrel;by_cases hlt:j<f.len
  ·obtain⟨b,o,KA,kc,k,t,n,ks,r,rfl,hd,d0,d1,d2,d3,g1,g2,g3,g4,g5,g6,hcnt⟩:=(H.out.below HB.out).at_ hlt;have hrg:wr.rangeAt b (o+j*4) (eP k t n KA ks.len kc):=fun i v hv=>by
    match i,hv with
    | 0,hv=>injection hv with hv;subst hv;exact d0
    | 1,hv=>injection hv with hv;subst hv;exact d1
    | 2,hv=>injection hv with hv;subst hv;exact d2
    | 3,hv=>injection hv with hv;subst hv;exact d3
   have Hd:=hide hd;have Bc:=hide hrg;clear hd hrg g6 d0 d1 d2 d3;have hnx:(f.take (j+1)).params↔(f.take j).params∨(k=3∨k=4):=by
    rw[Fo.take_next Hd.out,Fo.params_app];simp[Fo.params]
   have Jt:=hide hnx;clear hnx
   go_upto_region 4 with fail
   refine wp_region_lit ?_;refine sk ?_;refine sk ?_;refine sk ?_;refine sk ?_;refine gl (off:=o+j*4) ?_ Bc.out Tryz.underlying152 yw;refine gc (vU (k:=k) (t:=t) (n:=n) (A:=KA) (l:=ks.len) (c:=kc)) ?_;rintro e1 W1 ⟨⟨q,rfl,hq⟩,hB⟩;refine⟨_,rfl,?_⟩;have Hq:=hide hq;have HB1:=hide (aQ HB.out hB);clear hq hB;refine wpList_nil ?_;rename_i hK;refine hK _ _ ?_;clear hK;cases q
   ·go_wp2_with fail
    exact⟨⟨j+1,by go_num,by omega,hide (fun hp=>by
     rcases Jt.out.mp hp with hp|hp
     ·exact H1.out hp
     ·exact absurd (Hq.out.mpr hp) (by decide)),HB1⟩,by simp[intOf];omega⟩
   ·have BK:f.params:=by
     have h1:(f.take (j+1)).params:=Jt.out.mpr (.inr (Hq.out.mp rfl));have h2:=Fo.take_drop (j+1) f;rw[←h2,Fo.params_app];exact .inl h1
    have FH:=hide BK;clear BK
    go_wp2_with fail
    go_ret;exact⟨⟨j,rfl,⟨fun _=>FH.out,fun _=>by omega⟩,by omega⟩,HB1.out⟩
  ·have hje:j=f.len:=by omega
   subst hje
   go_wp2_with fail
   go_ret;exact⟨⟨-1,rfl,⟨fun h=>by omega,fun h=>absurd (by rw[Fo.take_whole];exact h) H1.out⟩,by omega⟩,HB.out⟩
theorem NU{c:Nat}{f:Fo}{A:Option Addr}{w:World}(h:bu Any w A f)(hl:f.len≤9223372036854775807):
  Calls Tryz.prog 224 #[.slice A f.len c,.func (.func 225) #[] #[]] w fun e w'=>ay f.params e∧Below w.heap.size w w':=by
 have HH:=hide h;clear h;go_enter Tryz.func224,Tryz.ntmps224
 go_wp2_with(go_at_call 257;(with_reducible refine(NT HH.out hl).mono ?_);rintro e1 w1 ⟨⟨n,rfl,hn,hn2⟩,hB⟩;have Hn:=hide hn;have HB1:=hide hB;clear hn hB)
 go_ret;exact⟨ay.mk (by rw[←Hn.out];simp),HB1.out⟩
end
end Go.Proofs.YtialngdffhmobaaGreatDoor
