/- Part 27 of what mgTop rests on. -/
import Derived.Laws.EntriesVeiled
import Derived.LoopTactic
import Derived.Test.YtialngdffhmobaaGreatDoorU13
import Derived.Test.YtialngdffhmobaaGreatDoorU25
import Derived.Test.YtialngdffhmobaaGreatDoorU22
import Derived.Test.YtialngdffhmobaaGreatDoorU04
import Derived.Test.YtialngdffhmobaaGreatDoorU01
import Derived.Test.YtialngdffhmobaaGreatDoorU00
set_option linter.unusedVariables false
set_option linter.unusedSimpArgs false
set_option maxHeartbeats 16000000
set_option maxRecDepth 1000000
namespace Go.Proofs.YtialngdffhmobaaGreatDoor
section
open Go.RowKit
def PastIs(e:Ed)(x:List Int)(w w':World)(A:Option Addr)(n c:Nat)(ok:Bool):Prop:=(pastOf e x=none∧ok=false)∨∃l,pastOf e x=some l∧n=l.length∧ok=true∧IntsO w w' A c l
def PastPost(e:Ed)(x:List Int)(w:World)(r:Ending)(w':World):Prop:=(∃A n c ok,r = .returned (.tuple #[.slice A n c,.bool ok])∧PastIs e x w w' A n c ok)∧Below w.heap.size w w'
theorem PastPost.up{e:Ed}{x:List Int}{w w0:World}{r:Ending}{w':World}(h:PastPost e x w r w')(hB:Below w0.heap.size w0 w):PastPost e x w0 r w':=by
 obtain⟨⟨A,n,c,ok,h1,h3⟩,h2⟩:=h;refine⟨⟨A,n,c,ok,h1,h3.imp id ?_⟩,blw_up hB h2⟩;rintro⟨l,h3,h4,h5,h6⟩;exact⟨l,h3,h4,h5,h6.up hB.size⟩
structure PastIn(w:World)(A:Option Addr)(c:Nat)(x:List Int)(y:Eh)(e:Ed):Prop where
 two:TwoP w A y.pA c x e.path
 ed:EdX w y e
theorem PastIn.below{w w':World}{A:Option Addr}{c:Nat}{x:List Int}{y:Eh}{e:Ed}(h:PastIn w A c x y e)(hB:Below w.heap.size w w'):PastIn w' A c x y e:=⟨h.two.below hB,h.ed.below hB⟩
theorem cloneInts_o{w:World}{A:Option Addr}{c:Nat}{l:List Int}(h:IntsIn Any w A l)(hb:l.length≤549755813888):
  Calls Tryz.prog 219 #[.slice A l.length c] w fun e w'=>(∃A' c',e = .returned (.slice A' l.length c')∧IntsO w w' A' c' l)∧Below w.heap.size w w':=by
 refine(cloneInts_any h.1 (by simp) (ints_one l) hb).mono ?_;rintro e w' ⟨v,rfl,hown,hg,hB⟩;obtain⟨A',c',rfl⟩:=own_shape hown;exact⟨⟨A',c',rfl,_,⟨hown,rfl⟩,⟨ob_nodup _,fun b hb=>hg b (mem_ob.1 hb),fun b hb=>(hown.lt b (mem_ob.1 hb)).2⟩⟩,hB⟩
structure PastBx(W:World)(M N:Nat)(A:Option Addr)(c:Nat)(x:List Int)(y:Eh)(e:Ed):Prop where
 m:Bx W M [.slice A x.length c]
 n:Bx W N (edVs e y)
 i:PastIn W A c x y e
theorem PastBx.below{W W':World}{M N:Nat}{A:Option Addr}{c:Nat}{x:List Int}{y:Eh}{e:Ed}(h:PastBx W M N A c x y e)(hB:Below W.heap.size W W'):PastBx W' M N A c x y e:=⟨h.m.call hB,h.n.call hB,h.i.below hB⟩
theorem thru_len(x l:List Int)(g:Int→Int):(thru x l g).length=x.length:=by unfold thru;split<;>simp
theorem past1{W:World}{M N:Nat}{A:Option Addr}{c:Nat}{x:List Int}{y:Eh}{e:Ed}(h:PastBx W M N A c x y e)(hk:pastOf e x=some x):
  Calls Tryz.prog 230 #[.pointer (some ⟨M,0,none⟩)] W fun r w'=>PastPost e x W r w':=by
 have H:=hide h;have c0:=h.m.cell 0;clear h;go_enter Tryz.func230,Tryz.ntmps230
 go_wp2_with(go_at_call 219;(with_reducible refine(cloneInts_o H.out.i.two.pa H.out.i.two.la).mono ?_);rintro e1 w1 ⟨⟨A1,c1,rfl,hi⟩,hB⟩;have HI:=hide hi;have HB:=hide hB;clear hi hB)
 go_ret2
 exact⟨⟨_,_,_,_,rfl,.inr ⟨x,hk,rfl,rfl,HI.out⟩⟩,HB.out⟩
theorem past2{W:World}{M N:Nat}{A:Option Addr}{c:Nat}{x:List Int}{y:Eh}{e:Ed}(h:PastBx W M N A c x y e)(hk:e.kind=2):
  Calls Tryz.prog 231 #[.pointer (some ⟨M,0,none⟩),.pointer (some ⟨N,0,none⟩)] W fun r w'=>PastPost e x W r w':=by
 have hp:pastOf e x=some (insertedP x e.path e.at_):=by unfold pastOf;rw[if_pos hk]
 have hl:(insertedP x e.path e.at_).length=x.length:=thru_len _ _ _;have H:=hide h;have c0:=h.m.cell 0;have d1:=h.n.cell 1;have d2:=h.n.cell 2;have Hp:=hide hp;have Hl:=hide hl;clear h hp hl;go_enter Tryz.func231,Tryz.ntmps231
 go_wp2_with(go_at_call 232;(with_reducible refine(inserted_any H.out.i.two).mono ?_);rintro e1 w1 ⟨⟨A1,c1,rfl,hi⟩,hB⟩;have HI:=hide hi;have HB:=hide hB;clear hi hB)
 go_ret2
 exact⟨⟨_,_,_,_,rfl,.inr ⟨_,Hp.out,by rw[Hl.out],rfl,HI.out⟩⟩,HB.out⟩
theorem past3{W:World}{M N:Nat}{A:Option Addr}{c:Nat}{x:List Int}{y:Eh}{e:Ed}(h:PastBx W M N A c x y e)(hk:e.kind=3):
  Calls Tryz.prog 233 #[.pointer (some ⟨M,0,none⟩),.pointer (some ⟨N,0,none⟩)] W fun r w'=>PastPost e x W r w':=by
 have hp:pastOf e x=deletedP x e.path e.at_:=by unfold pastOf;rw[if_neg (by omega),if_pos hk]
 have H:=hide h;have c0:=h.m.cell 0;have d1:=h.n.cell 1;have d2:=h.n.cell 2;have Hp:=hide hp;clear h hp;have hcall:Hid (Calls Tryz.prog 234 #[.slice A x.length c,.slice y.pA e.path.length y.pc,.int .i64 e.at_] W (PastPost e x W)):=by
  refine hide ((deleted_any H.out.i.two).mono ?_);rintro r w' ⟨⟨hd,rfl⟩|⟨A1,c1,l,hd,hln,rfl,hi⟩,hB⟩
  ·exact⟨⟨_,_,_,_,rfl,.inl ⟨by rw[Hp.out];exact hd,rfl⟩⟩,hB⟩
  ·exact⟨⟨_,_,_,_,rfl,.inr ⟨l,by rw[Hp.out];exact hd,hln.symm,rfl,hi⟩⟩,hB⟩
 go_enter Tryz.func233,Tryz.ntmps233
 go_wp2_with(go_at_call 234;(with_reducible refine hcall.out.mono ?_);rintro e1 w1 ⟨⟨A1,n1,c1,ok,rfl,hi⟩,hB⟩;have HI:=hide hi;have HB:=hide hB;clear hi hB)
 go_ret2
 exact⟨⟨_,_,_,_,rfl,HI.out⟩,HB.out⟩
theorem past4{W:World}{M N:Nat}{A:Option Addr}{c:Nat}{x:List Int}{y:Eh}{e:Ed}(h:PastBx W M N A c x y e)(hk:e.kind=4):
  Calls Tryz.prog 235 #[.pointer (some ⟨M,0,none⟩),.pointer (some ⟨N,0,none⟩)] W fun r w'=>PastPost e x W r w':=by
 have hp:pastOf e x=if underP x e.path then none else some x:=by unfold pastOf;rw[if_neg (by omega),if_neg (by omega),if_pos hk]
 have H:=hide h;have c0:=h.m.cell 0;have d1:=h.n.cell 1;have Hp:=hide hp;clear h hp;go_enter Tryz.func235,Tryz.ntmps235
 go_upto_region 1 with fail
 have hS:(fun V:World=>V.cell? ⟨M,0,none⟩=some (.slice A x.length c)∧V.cell? ⟨N,1,none⟩=some (.slice y.pA e.path.length y.pc)) W.drew:=⟨c0,d1⟩;refine wp_region_held_drew (S:=fun V:World=>V.cell? ⟨M,0,none⟩=some (.slice A x.length c)∧V.cell? ⟨N,1,none⟩=some (.slice y.pA e.path.length y.pc)) (by kernel_rfl) hS (fun hS0=>?_);have HI0:Hid (PastIn W.drew A c x y e):=hide (H.out.i.below ((Below.refl _ _).drew));have HB0:Hid (Below W.heap.size W W.drew):=hide ((Below.refl _ _).drew);generalize W.drew=D0 at hS0 HI0 HB0⊢;clear hS;refine tka 0 hS0 ?_;refine tka 2 hS0 ?_;refine tka 3 hS0 ?_;refine tka 4 hS0 ?_;refine dr1 1 ?_;refine bc (cloneInts_o HI0.out.two.pa HI0.out.two.la) ?_;rintro e1 D1 ⟨⟨A1,c1,rfl,hi⟩,hB⟩;have hS1:(fun V:World=>V.cell? ⟨M,0,none⟩=some (.slice A x.length c)∧V.cell? ⟨N,1,none⟩=some (.slice y.pA e.path.length y.pc)) D1:=⟨(hB.cell (p:=⟨M,0,none⟩) (block_lt_of_cell hS0.1)).trans hS0.1,(hB.cell (p:=⟨N,1,none⟩) (block_lt_of_cell hS0.2)).trans hS0.2⟩;have HI1:=hide (HI0.out.below hB);have HB1:=hide (blw_up HB0.out hB);have HR1:=hide (hi.up HB0.out.size);refine⟨_,rfl,⟨hS1,?_⟩⟩;clear hi hB;refine dr1 5 ?_;refine bc (under_any (c':=y.pc) HI1.out.two.pa HI1.out.two.pb HI1.out.two.ca) ?_;rintro e2 D2 ⟨⟨q,rfl,hq⟩,hB⟩;have hS2:(fun V:World=>V.cell? ⟨M,0,none⟩=some (.slice A x.length c)∧V.cell? ⟨N,1,none⟩=some (.slice y.pA e.path.length y.pc)) D2:=⟨(hB.cell (p:=⟨M,0,none⟩) (block_lt_of_cell hS1.1)).trans hS1.1,(hB.cell (p:=⟨N,1,none⟩) (block_lt_of_cell hS1.2)).trans hS1.2⟩;have HB2:=hide (blw_up HB1.out hB);have HR2:=hide (HR1.out.below hB);have Hq:=hide hq;refine⟨_,rfl,⟨hS2,?_⟩⟩;clear hB hq;refine tka (v:= .bool !q) 6 hS2 ?_;refine dr1 7 ?_;refine bw ?_;refine⟨hS2,?_⟩;refine dr1 8 ?_;refine bw ?_;refine⟨hS2,?_⟩;refine wpAnyH_done (by kernel_rfl) ?_ _;rename_i hK;refine hK _ _ ?_;clear hK;refine wp_ret ?_
 try simp only[Exit.then,Exit.inBlock]
 go_ret2
 refine⟨⟨_,_,_,_,rfl,?_⟩,HB2.out⟩;unfold PastIs;rw[Hp.out];have hq:=Hq.out;cases q
 ·have hn :¬underP x e.path:=fun h=>by have:=hq.mpr h;cases this
  rw[if_neg hn];exact .inr ⟨x,rfl,rfl,rfl,HR2.out⟩
 ·rw[if_pos (hq.mp rfl)];exact .inl ⟨rfl,rfl⟩
abbrev sideVs(e:Ed)(y:Eh)(nm bd:Value)(pr cl:Bool):List Value:=[.int .u8 e.kind,.slice y.pA e.path.length y.pc,.int .i64 e.at_,.int .i64 e.far,.string e.frm,.string e.to,.slice y.oA e.old.len y.oc,.slice y.nA e.new.len y.nc,nm,bd,.bool pr,.bool cl]
theorem infoSide:(Tryz.prog.info? 246).map (·.size)=some 12:=by kernel_rfl
def LookJ(e:Ed)(y:Eh)(nm:Value)(pr:Bool)(w0:World)(b0:Nat)(m:Nat)(st:List ByteArray×Bool)(D:List Nat)(W:World):Prop:=∃v,RowJ w0 b0 v m st.1 D W∧Bx W b0 (sideVs e y nm v pr st.2)
def lookStep(st:List ByteArray×Bool)(k:Nat)(t:ByteArray):List ByteArray×Bool:=if k=25 then(st.1,true)else if k=2∨k=4∨k=6 then(st.1++[t],st.2)else st
theorem look_binds :∀(f:Fo) (st:List ByteArray×Bool),(f.fold lookStep st).1=st.1++f.binds
 | .nil,st=>by simp[Fo.fold,Fo.binds]
 | .cons k t n ks r,st=>by
  simp only[Fo.fold,Fo.binds,look_binds ks,look_binds r,lookStep];by_cases h:k=25
  ·subst h;simp
  ·by_cases h2:k=2∨k=4∨k=6
   ·simp[h,h2]
   ·simp[h,h2]
theorem look_calls :∀(f:Fo) (st:List ByteArray×Bool),(f.fold lookStep st).2=true↔st.2=true∨f.calls
 | .nil,st=>by simp[Fo.fold,Fo.calls]
 | .cons k t n ks r,st=>by
  simp only[Fo.fold,Fo.calls,look_calls ks,look_calls r,lookStep];by_cases h:k=25
  ·subst h;simp
  ·by_cases h2:k=2∨k=4∨k=6
   ·simp[h,h2,or_assoc]
   ·simp[h,h2,or_assoc]
theorem RowJ.less{w0 W:World}{b0 m:Nat}{v:Value}{st:List ByteArray}{D:List Nat}(h:RowJ w0 b0 v (m+1) st D W):RowJ w0 b0 v m st D W:=⟨h.d,h.own,h.nb,h.ge,h.below,by have:=h.len;omega,h.sz⟩
theorem RowJ.box{w0 W:World}{b0 m o:Nat}{v:Value}{st:List ByteArray}{D:List Nat}{us:List Value}(h:RowJ w0 b0 v m st D W):RowJ w0 b0 v m st D (W.setCells b0 o us)∧Touch D D W (W.setCells b0 o us):=
 ⟨⟨h.d,own_kept h.own (bx_keep fun b hb e=>h.nb (e▸hb)),h.nb,h.ge,bx_below (h.ge b0 (by rw[h.d];simp)) _ _ h.below,h.len,h.sz⟩,⟨by rw[bx_size];exact Nat.le_refl _,fun b hb hD=>bx_heap b0 (fun e=>hD (by rw[h.d,e];simp)) _ _ _,fun b hb=> .inl hb⟩⟩
theorem lookFn{e:Ed}{y:Eh}{nm:Value}{pr:Bool}{w0 W:World}{b0 m k l c:Nat}{st:List ByteArray×Bool}{D:List Nat}{t:ByteArray}{n:Int}{A:Option Addr}(hJ:LookJ e y nm pr w0 b0 (m+1) st D W)(hk:k<256)(ht:t.size≤549755813888):
  Calls Tryz.prog 227 #[.agg #[.int .u8 k,.string t,.int .i64 n,.slice A l c],.pointer (some ⟨b0,0,none⟩)] W fun e1 W'=>e1 = .returned (.tuple #[])∧∃D',LookJ e y nm pr w0 b0 m (lookStep st k t) D' W'∧Touch D D' W W':=by
 obtain⟨v,hr,hb⟩:=hJ;have hX:=Bx.new W (ndVs k t n A l c) 152;have hB:=below_alloc W (.cells (ndVs k t n A l c).toArray 152);have HR:=hide (hr.keep hB);have HT:=hide (Touch.below (D:=D) hB);have HX:=hide hX;have HBx:=hide (hb.call hB);have hne:b0≠W.heap.size:=by have:=hb.lt;omega
 have Hne:=hide hne;clear hr hb hX hB hne;go_enter Tryz.func227,Tryz.ntmps227
 go_upto_region 1 with fail
 change Code.wp _ _ _ _ (W.alloc (.cells (ndVs k t n A l c).toArray 152));generalize W.alloc (.cells (ndVs k t n A l c).toArray 152)=W1 at HR HT HX HBx⊢;generalize W.heap.size=N at HX Hne⊢;have k0:=HX.out.cell 0;by_cases h25:k=25
 ·have e25:((k:Int) == 25)=true:=by simp;omega
  have hstep:lookStep st k t=(st.1,true):=by unfold lookStep;rw[if_pos h25]
  have Hstep:=hide hstep;clear hstep h25;have hc11:=HBx.out.cell 11;have hf:=HBx.out.f
  go_wp2_with fail
  obtain⟨q1,q2⟩:=HR.out.box (o:=11) (us:=[.bool true])
  go_end0
  refine⟨rfl,D,?_,HT.out.trans q2⟩;rw[Hstep.out];exact⟨v,q1.less,HBx.out.puts 11 [.bool true] (sideVs e y nm v pr true) (by simp)⟩
 ·have e25:((k:Int) == 25)=false:=by simp;omega
  by_cases hb:k=2∨k=4∨k=6
  ·have hstep:lookStep st k t=(st.1++[t],st.2):=by unfold lookStep;rw[if_neg h25,if_pos hb]
   have Hstep:=hide hstep;clear hstep h25;have kt:=HX.out.cell 1;have k9:=HBx.out.cell 9;have hpost :∀(K:Act→World→Prop),True:=fun _=>trivial;rcases hb with rfl|rfl|rfl
   all_goals
    go_upto_region 7 with fail
    refine wp_region_lit ?_;refine sk ?_;refine sk (v:=v) ?_;refine sk ?_;refine sk ?_;refine gw (w':=W1.alloc (.cells #[.string t] 9)) (v:= .slice (some ⟨W1.heap.size,0,none⟩) 1 1) ?_;have hb2:=below_alloc W1 (.cells #[.string t] 9);have hr2:=HR.out.keep hb2;have hbx2:=HBx.out.call hb2;obtain⟨v',W2,hrun,hp⟩:=push_str (ad:=⟨W1.heap.size,0,none⟩) (u:= .string t) hr2.own (by rw[Addr.add_lit];simp) rfl (by have:=hr2.len;omega);obtain⟨A',c',rfl⟩:=own_shape hp.1;have hbx3:Bx W2 b0 (sideVs e y nm v pr st.2):=hbx2.keep (hp.2.1.block b0 hbx2.lt (fun e=>hr2.nb (mem_ob.2 e.symm))) hp.2.1.size;obtain⟨q1,q2⟩:=hr2.push (o:=9) hbx2.lt hp ht [.slice A' (st.1.length+1) c'];refine gw (hy:=exec_append hrun rfl rfl rfl) ?_;have c9:=hbx3.cell 9;have f9:=hbx3.f;refine sk ?_;refine ss (w':=W2.setCells b0 9 [.slice A' (st.1.length+1) c']) ?_ (by simp only[World.setCells];go_simp);refine wpList_nil ?_
    go_wp2_with fail
    go_end0
    refine⟨rfl,_,?_,HT.out.trans ((Touch.below hb2).trans q2)⟩;rw[Hstep.out];exact⟨_,q1,hbx3.puts 9 [.slice A' (st.1.length+1) c'] (sideVs e y nm (.slice A' (st.1.length+1) c') pr st.2) (by simp)⟩
  ·have hstep:lookStep st k t=st:=by unfold lookStep;rw[if_neg h25,if_neg hb]
   have Hstep:=hide hstep;have e2:((k:Int) == 2)=false:=by simp;omega
   have e4:((k:Int) == 4)=false:=by simp;omega
   have e6:((k:Int) == 6)=false:=by simp;omega
   clear hstep h25 hb
   go_wp2_with fail
   go_end0
   refine⟨rfl,D,?_,HT.out⟩;rw[Hstep.out];exact⟨v,HR.out.less,HBx.out⟩
theorem paramFn{k l c:Nat}{t:ByteArray}{n:Int}{A:Option Addr}{w:World}:Calls Tryz.prog 225 #[.agg (ndVs k t n A l c).toArray] w fun e w'=>RetB (k=3∨k=4) e∧Below w.heap.size w w':=by
 have hX:=hide (Bx.new w (ndVs k t n A l c) 152);have hB:=hide (below_alloc w (.cells (ndVs k t n A l c).toArray 152));go_enter Tryz.func225,Tryz.ntmps225
 go_upto_region 1 with fail
 change Code.wp _ _ _ _ (w.alloc (.cells (ndVs k t n A l c).toArray 152));have k0:=hX.out.cell 0;generalize w.alloc (.cells (ndVs k t n A l c).toArray 152)=W1 at hX hB k0⊢;by_cases h4:k=4
 ·subst h4
  go_wp2_with fail
  go_ret;exact⟨RetB.mk (by simp),hB.out⟩
 ·have e4:((k:Int) == 4)=false:=by simp;omega
  obtain⟨b,hb⟩:∃b,b=((k:Int) == 3):=⟨_,rfl⟩
  go_wp2_with fail
  go_ret;exact⟨RetB.mk (by simp;omega),hB.out⟩
theorem Fo.params_app :∀(f g:Fo),(f.app g).params↔f.params∨g.params
 | .nil,g=>by simp[Fo.app,Fo.params]
 | .cons k t n ks r,g=>by simp only[Fo.app,Fo.params,Fo.params_app r g,or_assoc]
theorem indexParams{c:Nat}{f:Fo}{A:Option Addr}{w:World}(h:FoIn Any w A f)(hl:f.len≤9223372036854775807):
  Calls Tryz.prog 257 #[.slice A f.len c,.func (.func 225) #[] #[]] w fun e w'=>(∃n:Int,e = .returned (.int .i64 n)∧(0≤n↔f.params)∧-1≤n)∧Below w.heap.size w w':=by
 have H:=hide h;clear h;go_enter Tryz.func257,Tryz.ntmps257
 go_wp2_with fail
 go_loopw [8] (fun i wr=>∃j:Nat,i = .int .i64 j∧j≤f.len∧Hid (¬(f.take j).params)∧Hid (Below w.heap.size w wr)) (fun i _=>f.len-(intOf i).toNat)
 case atStart=>exact⟨0,rfl,by omega,hide (by cases f<;>exact id),hide (Below.refl _ _)⟩
 case round =>
  obtain⟨j,rfl,hj,H1,HB⟩:=hrel;by_cases hlt:j<f.len
  ·obtain⟨b,o,KA,kc,k,t,n,ks,r,rfl,hd,d0,d1,d2,d3,g1,g2,g3,g4,g5,g6,hcnt⟩:=(H.out.below HB.out).at_ hlt;have hrg:wr.rangeAt b (o+j*4) (ndVs k t n KA ks.len kc):=fun i v hv=>by
    match i,hv with
    | 0,hv=>injection hv with hv;subst hv;exact d0
    | 1,hv=>injection hv with hv;subst hv;exact d1
    | 2,hv=>injection hv with hv;subst hv;exact d2
    | 3,hv=>injection hv with hv;subst hv;exact d3
   have Hd:=hide hd;have Hrg:=hide hrg;clear hd hrg g6 d0 d1 d2 d3;have hnx:(f.take (j+1)).params↔(f.take j).params∨(k=3∨k=4):=by
    rw[Fo.take_next Hd.out,Fo.params_app];simp[Fo.params]
   have Hnx:=hide hnx;clear hnx
   go_upto_region 4 with fail
   refine wp_region_lit ?_;refine sk ?_;refine sk ?_;refine sk ?_;refine sk ?_;refine gl (off:=o+j*4) ?_ Hrg.out Tryz.underlying152 infoNd;refine gc (paramFn (k:=k) (t:=t) (n:=n) (A:=KA) (l:=ks.len) (c:=kc)) ?_;rintro e1 W1 ⟨⟨q,rfl,hq⟩,hB⟩;refine⟨_,rfl,?_⟩;have Hq:=hide hq;have HB1:=hide (blw_up HB.out hB);clear hq hB;refine wpList_nil ?_;rename_i hK;refine hK _ _ ?_;clear hK;cases q
   ·go_wp2_with fail
    exact⟨⟨j+1,by go_num,by omega,hide (fun hp=>by
     rcases Hnx.out.mp hp with hp|hp
     ·exact H1.out hp
     ·exact absurd (Hq.out.mpr hp) (by decide)),HB1⟩,by simp[intOf];omega⟩
   ·have hpar:f.params:=by
     have h1:(f.take (j+1)).params:=Hnx.out.mpr (.inr (Hq.out.mp rfl));have h2:=Fo.take_drop (j+1) f;rw[←h2,Fo.params_app];exact .inl h1
    have Hpar:=hide hpar;clear hpar
    go_wp2_with fail
    go_ret;exact⟨⟨j,rfl,⟨fun _=>Hpar.out,fun _=>by omega⟩,by omega⟩,HB1.out⟩
  ·have hje:j=f.len:=by omega
   subst hje
   go_wp2_with fail
   go_ret;exact⟨⟨-1,rfl,⟨fun h=>by omega,fun h=>absurd (by rw[Fo.take_whole];exact h) H1.out⟩,by omega⟩,HB.out⟩
theorem containsParams{c:Nat}{f:Fo}{A:Option Addr}{w:World}(h:FoIn Any w A f)(hl:f.len≤9223372036854775807):
  Calls Tryz.prog 224 #[.slice A f.len c,.func (.func 225) #[] #[]] w fun e w'=>RetB f.params e∧Below w.heap.size w w':=by
 have HH:=hide h;clear h;go_enter Tryz.func224,Tryz.ntmps224
 go_wp2_with(go_at_call 257;(with_reducible refine(indexParams HH.out hl).mono ?_);rintro e1 w1 ⟨⟨n,rfl,hn,hn2⟩,hB⟩;have Hn:=hide hn;have HB1:=hide hB;clear hn hB)
 go_ret;exact⟨RetB.mk (by rw[←Hn.out];simp),HB1.out⟩
end
end Go.Proofs.YtialngdffhmobaaGreatDoor
