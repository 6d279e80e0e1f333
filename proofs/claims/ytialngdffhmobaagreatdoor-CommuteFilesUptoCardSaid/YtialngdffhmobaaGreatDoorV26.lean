/- Part 27 of what commuteFiles_cardUpto rests on. -/
import Derived.Laws.EntriesVeiled
import Derived.Test.YtialngdffhmobaaGreatDoorShelf
import Derived.Test.YtialngdffhmobaaGreatDoorV14
import Derived.Test.YtialngdffhmobaaGreatDoorV04
import Derived.Test.YtialngdffhmobaaGreatDoorV25
import Derived.Test.YtialngdffhmobaaGreatDoorV03
import Derived.Test.YtialngdffhmobaaGreatDoorV19
import Derived.Test.YtialngdffhmobaaGreatDoorV12
import Derived.Test.YtialngdffhmobaaGreatDoorV07
import Derived.Test.YtialngdffhmobaaGreatDoorV02
import Derived.Test.YtialngdffhmobaaGreatDoorV00
set_option linter.unusedVariables false
set_option linter.unusedSimpArgs false
set_option maxHeartbeats 16000000
set_option maxRecDepth 1000000
namespace Go.Proofs.YtialngdffhmobaaGreatDoor
section
open Go.RowKit
def nS(e:Ed)(x:List Int)(w w':World)(A:Option Addr)(n c:Nat)(ok:Bool):Prop:=(cO e x=none∧ok=false)∨∃l,cO e x=some l∧n=l.length∧ok=true∧fO w w' A c l
def dH(e:Ed)(x:List Int)(w:World)(r:Ending)(w':World):Prop:=(∃A n c ok,r = .returned (.tuple #[.slice A n c,.bool ok])∧nS e x w w' A n c ok)∧Below w.heap.size w w'
theorem dH.up{e:Ed}{x:List Int}{w w0:World}{r:Ending}{w':World}(h:dH e x w r w')(hB:Below w0.heap.size w0 w):dH e x w0 r w':=by
 obtain⟨⟨A,n,c,ok,h1,h3⟩,h2⟩:=h;refine⟨⟨A,n,c,ok,h1,h3.imp id ?_⟩,aQ hB h2⟩;rintro⟨l,h3,h4,h5,h6⟩;exact⟨l,h3,h4,h5,h6.up hB.size⟩
structure iL(w:World)(A:Option Addr)(c:Nat)(x:List Int)(y:Eh)(e:Ed):Prop where
 two:lJ w A y.pA c x e.path
 ed:kH w y e
theorem iL.below{w w':World}{A:Option Addr}{c:Nat}{x:List Int}{y:Eh}{e:Ed}(h:iL w A c x y e)(hB:Below w.heap.size w w'):iL w' A c x y e:=⟨h.two.below hB,h.ed.below hB⟩
theorem Jk{w:World}{A:Option Addr}{c:Nat}{l:List Int}(h:IntsIn Any w A l)(hb:l.length≤549755813888):
  Calls Tryz.prog 219 #[.slice A l.length c] w fun e w'=>(∃A' c',e = .returned (.slice A' l.length c')∧fO w w' A' c' l)∧Below w.heap.size w w':=by
 refine(ve h.1 (by simp) (xk l) hb).mono ?_;rintro e w' ⟨v,rfl,hown,hg,hB⟩;obtain⟨A',c',rfl⟩:=lG hown;exact⟨⟨A',c',rfl,_,⟨hown,rfl⟩,⟨uH _,fun b hb=>hg b (gy.1 hb),fun b hb=>(hown.lt b (gy.1 hb)).2⟩⟩,hB⟩
structure jk(W:World)(M N:Nat)(A:Option Addr)(c:Nat)(x:List Int)(y:Eh)(e:Ed):Prop where
 m:Bx W M [.slice A x.length c]
 n:Bx W N (ae e y)
 i:iL W A c x y e
theorem EU(x l:List Int)(g:Int→Int):(iG x l g).length=x.length:=by unfold iG;split<;>simp
theorem Bj{W:World}{M N:Nat}{A:Option Addr}{c:Nat}{x:List Int}{y:Eh}{e:Ed}(h:jk W M N A c x y e)(hk:cO e x=some x):
  Calls Tryz.prog 230 #[.pointer (some ⟨M,0,none⟩)] W fun r w'=>dH e x W r w':=by
 have H:=hide h;have c0:=h.m.cell 0;clear h;go_enter Tryz.func230,Tryz.ntmps230
 go_wp2_with(go_at_call 219;(with_reducible refine(Jk H.out.i.two.pa H.out.i.two.la).mono ?_);rintro e1 w1 ⟨⟨A1,c1,rfl,hi⟩,hB⟩;have HI:=hide hi;have HB:=hide hB;clear hi hB)
 go_ret2
 exact⟨⟨_,_,_,_,rfl,.inr ⟨x,hk,rfl,rfl,HI.out⟩⟩,HB.out⟩
theorem Bl{W:World}{M N:Nat}{A:Option Addr}{c:Nat}{x:List Int}{y:Eh}{e:Ed}(h:jk W M N A c x y e)(hk:e.kind=2):
  Calls Tryz.prog 231 #[.pointer (some ⟨M,0,none⟩),.pointer (some ⟨N,0,none⟩)] W fun r w'=>dH e x W r w':=by
 have hp:cO e x=some (iU x e.path e.at_):=by unfold cO;rw[if_pos hk]
 have hl:(iU x e.path e.at_).length=x.length:=EU _ _ _;have H:=hide h;have c0:=h.m.cell 0;have d1:=h.n.cell 1;have d2:=h.n.cell 2;have Hp:=hide hp;have Hl:=hide hl;clear h hp hl;go_enter Tryz.func231,Tryz.ntmps231
 go_wp2_with(go_at_call 232;(with_reducible refine(LH H.out.i.two).mono ?_);rintro e1 w1 ⟨⟨A1,c1,rfl,hi⟩,hB⟩;have HI:=hide hi;have HB:=hide hB;clear hi hB)
 go_ret2
 exact⟨⟨_,_,_,_,rfl,.inr ⟨_,Hp.out,by rw[Hl.out],rfl,HI.out⟩⟩,HB.out⟩
theorem Bo{W:World}{M N:Nat}{A:Option Addr}{c:Nat}{x:List Int}{y:Eh}{e:Ed}(h:jk W M N A c x y e)(hk:e.kind=3):
  Calls Tryz.prog 233 #[.pointer (some ⟨M,0,none⟩),.pointer (some ⟨N,0,none⟩)] W fun r w'=>dH e x W r w':=by
 have hp:cO e x=dh x e.path e.at_:=by unfold cO;rw[if_neg (by omega),if_pos hk]
 have H:=hide h;have c0:=h.m.cell 0;have d1:=h.n.cell 1;have d2:=h.n.cell 2;have Hp:=hide hp;clear h hp;have hcall:Hid (Calls Tryz.prog 234 #[.slice A x.length c,.slice y.pA e.path.length y.pc,.int .i64 e.at_] W (dH e x W)):=by
  refine hide ((LJ H.out.i.two).mono ?_);rintro r w' ⟨⟨hd,rfl⟩|⟨A1,c1,l,hd,hln,rfl,hi⟩,hB⟩
  ·exact⟨⟨_,_,_,_,rfl,.inl ⟨by rw[Hp.out];exact hd,rfl⟩⟩,hB⟩
  ·exact⟨⟨_,_,_,_,rfl,.inr ⟨l,by rw[Hp.out];exact hd,hln.symm,rfl,hi⟩⟩,hB⟩
 go_enter Tryz.func233,Tryz.ntmps233
 go_wp2_with(go_at_call 234;(with_reducible refine hcall.out.mono ?_);rintro e1 w1 ⟨⟨A1,n1,c1,ok,rfl,hi⟩,hB⟩;have HI:=hide hi;have HB:=hide hB;clear hi hB)
 go_ret2
 exact⟨⟨_,_,_,_,rfl,HI.out⟩,HB.out⟩
theorem Bq{W:World}{M N:Nat}{A:Option Addr}{c:Nat}{x:List Int}{y:Eh}{e:Ed}(h:jk W M N A c x y e)(hk:e.kind=4):
  Calls Tryz.prog 235 #[.pointer (some ⟨M,0,none⟩),.pointer (some ⟨N,0,none⟩)] W fun r w'=>dH e x W r w':=by
 have hp:cO e x=if cZ x e.path then none else some x:=by unfold cO;rw[if_neg (by omega),if_neg (by omega),if_pos hk]
 have H:=hide h;have c0:=h.m.cell 0;have d1:=h.n.cell 1;have Hp:=hide hp;clear h hp;go_enter Tryz.func235,Tryz.ntmps235
 go_upto_region 1 with fail
 have hS:(fun V:World=>V.cell? ⟨M,0,none⟩=some (.slice A x.length c)∧V.cell? ⟨N,1,none⟩=some (.slice y.pA e.path.length y.pc)) W.drew:=⟨c0,d1⟩;refine wp_region_held_drew (S:=fun V:World=>V.cell? ⟨M,0,none⟩=some (.slice A x.length c)∧V.cell? ⟨N,1,none⟩=some (.slice y.pA e.path.length y.pc)) (by kernel_rfl) hS (fun hS0=>?_);have HI0:Hid (iL W.drew A c x y e):=hide (H.out.i.below ((Below.refl _ _).drew));have HB0:Hid (Below W.heap.size W W.drew):=hide ((Below.refl _ _).drew);generalize W.drew=D0 at hS0 HI0 HB0⊢;clear hS;refine dI 0 hS0 ?_;refine dI 2 hS0 ?_;refine dI 3 hS0 ?_;refine dI 4 hS0 ?_;refine aP 1 ?_;refine bc (Jk HI0.out.two.pa HI0.out.two.la) ?_;rintro e1 D1 ⟨⟨A1,c1,rfl,hi⟩,hB⟩;have hS1:(fun V:World=>V.cell? ⟨M,0,none⟩=some (.slice A x.length c)∧V.cell? ⟨N,1,none⟩=some (.slice y.pA e.path.length y.pc)) D1:=⟨(hB.cell (p:=⟨M,0,none⟩) (block_lt_of_cell hS0.1)).trans hS0.1,(hB.cell (p:=⟨N,1,none⟩) (block_lt_of_cell hS0.2)).trans hS0.2⟩;have HI1:=hide (HI0.out.below hB);have HB1:=hide (aQ HB0.out hB);have HR1:=hide (hi.up HB0.out.size);refine⟨_,rfl,⟨hS1,?_⟩⟩;clear hi hB;refine aP 5 ?_;refine bc (zO (c':=y.pc) HI1.out.two.pa HI1.out.two.pb HI1.out.two.ca) ?_;rintro e2 D2 ⟨⟨q,rfl,hq⟩,hB⟩;have hS2:(fun V:World=>V.cell? ⟨M,0,none⟩=some (.slice A x.length c)∧V.cell? ⟨N,1,none⟩=some (.slice y.pA e.path.length y.pc)) D2:=⟨(hB.cell (p:=⟨M,0,none⟩) (block_lt_of_cell hS1.1)).trans hS1.1,(hB.cell (p:=⟨N,1,none⟩) (block_lt_of_cell hS1.2)).trans hS1.2⟩;have HB2:=hide (aQ HB1.out hB);have HR2:=hide (HR1.out.below hB);have Hq:=hide hq;refine⟨_,rfl,⟨hS2,?_⟩⟩;clear hB hq;refine dI (v:= .bool !q) 6 hS2 ?_;refine aP 7 ?_;refine bw ?_;refine⟨hS2,?_⟩;refine aP 8 ?_;refine bw ?_;refine⟨hS2,?_⟩;refine wpAnyH_done (by kernel_rfl) ?_ _;rename_i hK;refine hK _ _ ?_;clear hK;refine wp_ret ?_
 try simp only[Exit.then,Exit.inBlock]
 go_ret2
 refine⟨⟨_,_,_,_,rfl,?_⟩,HB2.out⟩;unfold nS;rw[Hp.out];have hq:=Hq.out;cases q
 ·have hn :¬cZ x e.path:=fun h=>by have:=hq.mpr h;cases this
  rw[if_neg hn];exact .inr ⟨x,rfl,rfl,rfl,HR2.out⟩
 ·rw[if_pos (hq.mp rfl)];exact .inl ⟨rfl,rfl⟩
structure jl(w0:World)(b0:Nat)(v:Value)(m:Nat)(st:List ByteArray)(D:List Nat)(W:World):Prop where
 d:D=b0::ob v
 own:W.ownsRow 0 9 1 v st.length (st.map .string)
 nb:b0∉ob v
 ge :∀b∈D,w0.heap.size≤b
 below:Below w0.heap.size w0 W
 len:st.length+m≤549755813887
 sz :∀s∈st,s.size≤549755813888
theorem jl.keep{w0 W W':World}{b0 m:Nat}{v:Value}{st:List ByteArray}{D:List Nat}(h:jl w0 b0 v m st D W)(hB:Below W.heap.size W W'):jl w0 b0 v m st D W' :=
 ⟨h.d,zN h.own (fun g hg=>(h.own.lt g hg).2) hB,h.nb,h.ge,h.below.trans (hB.mono h.below.size),h.len,h.sz⟩
theorem jl.push{w0 W W':World}{b0 m o:Nat}{v v':Value}{st:List ByteArray}{D:List Nat}{t:ByteArray}(h:jl w0 b0 v (m+1) st D W)(hb0:b0<W.heap.size)(hp:Pushed 9 W v (st.length+1) (st.map .string++[.string t]) v' W')(ht:t.size≤549755813888)(u:List Value):
  jl w0 b0 v' m (st++[t]) (b0::ob v') (W'.setCells b0 o u)∧Touch D (b0::ob v') W (W'.setCells b0 o u):=by
 obtain⟨p1,p2,p3⟩:=hp;have hv :∀b∈ob v',b∈ob v∨b=W.heap.size:=fun b hb=>by
  rcases p3 with e|e
  ·exact .inl (gy.2 (e▸gy.1 hb))
  ·right;have:=gy.1 hb;rw[e]at this;injection this with this;exact this.symm
 have hnb:b0∉ob v':=fun hb=>by
  rcases hv b0 hb with h1|h1
  ·exact h.nb h1
  ·omega
 have Bv:=h.ge b0 (by rw[h.d];simp);refine⟨⟨rfl,wO (w:=W') (by simpa using p1) (jU fun b hb e=>hnb (e▸hb)),hnb,fun b hb=>?_,?_,by have:=h.len;simp;omega,fun s hs=>?_⟩,⟨by rw[dU];exact p2.size,fun b hb hD=>?_,fun b hb=>?_⟩⟩
 ·rcases List.mem_cons.1 hb with rfl|hb
  ·exact Bv
  ·rcases hv b hb with h1|h1
   ·exact h.ge b (by rw[h.d];simp[h1])
   ·have:=h.below.size;omega
 ·exact dK Bv _ _ (Below.grown h.below p2 h.below.size (fun k hk=>h.ge k (by rw[h.d];simp[gy,hk])))
 ·rcases List.mem_append.1 hs with hs|hs
  ·exact h.sz s hs
  ·rw[List.mem_singleton]at hs;subst hs;exact ht
 ·rw[h.d]at hD;simp only[List.mem_cons,not_or]at hD;rw[iI b0 hD.1];exact p2.block b hb (fun e=>hD.2 (gy.2 e.symm))
 ·rcases List.mem_cons.1 hb with rfl|hb
  ·exact .inl (by rw[h.d];simp)
  ·rcases hv b hb with h1|h1
   ·exact .inl (by rw[h.d];simp[h1])
   ·exact .inr (Nat.le_of_eq h1.symm)
def kV(w0:World)(b0:Nat)(m:Nat)(st:List ByteArray)(D:List Nat)(W:World):Prop:=∃v,jl w0 b0 v m st D W∧Bx W b0 [v]
def fP(st:List ByteArray)(k:Nat)(t:ByteArray):List ByteArray:=if Named k then st++[t]else st
theorem EW :∀(f:Fo) (st:List ByteArray),f.fold fP st=st++f.names
 | .nil,st=>by simp[Fo.fold,Fo.names]
 | .cons k t n ks r,st=>by
  simp only[Fo.fold,Fo.names,EW ks,EW r,fP];split<;>simp
theorem EX{s:ByteArray}{w:World}(h:s.size≤549755813888):Calls Tryz.prog 254 #[.string s] w fun e w'=>e = .returned (.string s)∧Below w.heap.size w w':=by
 have H:=hide (Tryz.stringslite_Clone s w (by omega));clear h;go_enter Tryz.func254,Tryz.ntmps254
 go_wp2_with(go_at_call 274;(with_reducible refine H.out.mono ?_);rintro e1 w1 ⟨rfl,hB⟩;have HB:=hide hB;clear hB)
 go_ret;exact⟨rfl,HB.out⟩
theorem vP{w0 W:World}{b0 m k l c:Nat}{st:List ByteArray}{D:List Nat}{t:ByteArray}{n:Int}{A:Option Addr}(hJ:kV w0 b0 (m+1) st D W)(hk:k<256)(ht:t.size≤549755813888):
  Calls Tryz.prog 253 #[.agg #[.int .u8 k,.string t,.int .i64 n,.slice A l c],.pointer (some ⟨b0,0,none⟩)] W fun e W'=>e = .returned (.tuple #[])∧∃D',kV w0 b0 m (fP st k t) D' W'∧Touch D D' W W':=by
 obtain⟨v,hr,hb⟩:=hJ;have hX:=Bx.new W (eP k t n A l c) 152;have hB:=bg W (.cells (eP k t n A l c).toArray 152);have HR:=hide (hr.keep hB);have HT:=hide (Touch.below (D:=D) hB);have HX:=hide hX;have nT:=hide (hb.call hB);have zW:=hide hb.lt;have hne:W.heap.size≠b0:=by have:=hb.lt;omega
 clear hr hb hX hB;go_enter Tryz.func253,Tryz.ntmps253
 go_upto_region 1 with fail
 change Code.wp _ _ _ _ (W.alloc (.cells (eP k t n A l c).toArray 152));generalize W.alloc (.cells (eP k t n A l c).toArray 152)=W1 at HR HT HX nT⊢;have k0:=HX.out.cell 0;refine wp_region_lit ?_;refine sk ?_;refine sk ?_;refine gc (Ij k W1) ?_;rintro e1 W2 ⟨⟨q,rfl,hq⟩,hB⟩;refine⟨_,rfl,?_⟩;have HR2:=hide (HR.out.keep hB);have HT2:=hide (HT.out.trans (Touch.below hB));have vN:=hide (HX.out.call hB);have yx:=hide (nT.out.call hB);clear hB k0 HR HT HX nT;refine wpList_nil ?_;rename_i hK;refine hK _ _ ?_;clear hK;by_cases hn:Named k
 ·have hq1:q=true:=hq.mpr hn;subst hq1;clear hq;have hstep:fP st k t=st++[t]:=by unfold fP;rw[if_pos hn]
  have iC:=hide hstep;clear hstep
  go_upto_region 2 with fail
  refine wp_region_held_drew (S:=fun _=>True) (by kernel_rfl) trivial (fun hS0=>?_);have Jl:Hid (jl w0 b0 v (m+1) st D W2.drew):=hide (HR2.out.keep (Below.refl _ _).drew);have Jm:Hid (Touch D D W W2.drew):=hide (HT2.out.trans (Touch.below (Below.refl _ _).drew));have Jn:=hide vN.out.drew;have uK:=hide yx.out.drew;generalize W2.drew=E0 at Jl Jm Jn uK⊢;clear HR2 HT2 vN yx;refine dI 1 trivial ?_;have ko:=uK.out.cell 0;have kt:=Jn.out.cell 1;have fin :∀(E1:World) (gb:Nat),Below E0.heap.size E0 E1→E1.cell? ((⟨gb,0,none⟩:Addr).add 0)=some (.string t)→∃A' c' E2,(Builtin.append_ #[23,23] 23 #[v,.slice (some ⟨gb,0,none⟩) 1 1]).run Tryz.prog E1 = .ok (.slice A' (st.length+1) c') E2∧E2.cell? ⟨b0,0,none⟩=some v∧E2.frozen? ⟨b0,0,none⟩=false∧
    (∃D',kV w0 b0 m (st++[t]) D' (E2.setCells b0 0 [.slice A' (st.length+1) c'])∧Touch D D' W (E2.setCells b0 0 [.slice A' (st.length+1) c'])):=by
   intro E1 gb hB hc;have hr1:=Jl.out.keep hB;obtain⟨v',E2,hrun,hp⟩:=IJ hr1.own hc rfl (by have:=hr1.len;omega);obtain⟨A',c',rfl⟩:=lG hp.1;have yz:=uK.out.call hB;have hbx2:Bx E2 b0 [v]:=yz.keep (hp.2.1.block b0 yz.lt (fun e=>hr1.nb (gy.2 e.symm))) hp.2.1.size;obtain⟨q1,q2⟩:=hr1.push (o:=0) yz.lt hp ht [.slice A' (st.length+1) c'];exact⟨A',c',E2,hrun,hbx2.cell 0,hbx2.f 0,_,⟨_,q1,hbx2.puts 0 [.slice A' (st.length+1) c'] [.slice A' (st.length+1) c'] (by simp)⟩,Jm.out.trans ((Touch.below hB).trans q2)⟩
  have Fin:=hide fin;clear fin;refine iW 0 2 ?_ ?_
  ·refine bw (w':=E0) (v:=v) ?_ (hy:=by have:=ko;go_simp);refine⟨trivial,?_⟩;refine aP 2 ?_;refine bw (w':=E0) (v:= .string t) ?_ (hy:=by have:=kt;go_simp);refine⟨trivial,?_⟩;refine aP 3 ?_;refine bc (EX ht) ?_;rintro e1 E1 ⟨rfl,hB⟩;refine⟨_,rfl,⟨trivial,?_⟩⟩;have EY:=(uK.out.call hB).cell 0;refine aP 4 ?_;refine bw (w':=E1.alloc (.cells #[.string t] 9)) (v:= .slice (some ⟨E1.heap.size,0,none⟩) 1 1) ?_;refine⟨trivial,?_⟩;have hb2:=bg E1 (.cells #[.string t] 9);have sO:=hB.trans (hb2.mono hB.size);have Dz:=(uK.out.call sO).cell 0;obtain⟨A',c',E2,hrun,c1,c2,D',hJ',hT'⟩:=Fin.out _ E1.heap.size sO (by rw[Addr.add_lit];simp);refine aP 5 ?_;refine bw (hy:=wY hrun rfl rfl rfl) ?_;refine⟨trivial,?_⟩;refine aP 6 ?_;refine bs (w':=E2.setCells b0 0 [.slice A' (st.length+1) c']) ?_ (hy:=by have:=c1;have:=c2;simp only[World.setCells];go_simp);refine⟨trivial,?_⟩;refine wpAnyH_done (by kernel_rfl) ?_ _
   go_wp2_with fail
   go_end0
   exact⟨rfl,D',by rw[iC.out];exact hJ',hT'⟩
  ·refine bw (w':=E0) (v:= .string t) ?_ (hy:=by have:=kt;go_simp);refine⟨trivial,?_⟩;refine iW 0 3 ?_ ?_
   ·refine bw (w':=E0) (v:=v) ?_ (hy:=by have:=ko;go_simp);refine⟨trivial,?_⟩;refine aP 3 ?_;refine bc (EX ht) ?_;rintro e1 E1 ⟨rfl,hB⟩;refine⟨_,rfl,⟨trivial,?_⟩⟩;have EY:=(uK.out.call hB).cell 0;refine aP 4 ?_;refine bw (w':=E1.alloc (.cells #[.string t] 9)) (v:= .slice (some ⟨E1.heap.size,0,none⟩) 1 1) ?_;refine⟨trivial,?_⟩;have hb2:=bg E1 (.cells #[.string t] 9);have sO:=hB.trans (hb2.mono hB.size);have Dz:=(uK.out.call sO).cell 0;obtain⟨A',c',E2,hrun,c1,c2,D',hJ',hT'⟩:=Fin.out _ E1.heap.size sO (by rw[Addr.add_lit];simp);refine aP 5 ?_;refine bw (hy:=wY hrun rfl rfl rfl) ?_;refine⟨trivial,?_⟩;refine aP 6 ?_;refine bs (w':=E2.setCells b0 0 [.slice A' (st.length+1) c']) ?_ (hy:=by have:=c1;have:=c2;simp only[World.setCells];go_simp);refine⟨trivial,?_⟩;refine wpAnyH_done (by kernel_rfl) ?_ _
    go_wp2_with fail
    go_end0
    exact⟨rfl,D',by rw[iC.out];exact hJ',hT'⟩
   ·refine bc (EX ht) ?_;rintro e1 E1 ⟨rfl,hB⟩;refine⟨_,rfl,⟨trivial,?_⟩⟩;have EY:=(uK.out.call hB).cell 0;refine iW 0 4 ?_ ?_
    ·refine bw (w':=E1) (v:=v) ?_ (hy:=by have:=EY;go_simp);refine⟨trivial,?_⟩;refine aP 4 ?_;refine bw (w':=E1.alloc (.cells #[.string t] 9)) (v:= .slice (some ⟨E1.heap.size,0,none⟩) 1 1) ?_;refine⟨trivial,?_⟩;have hb2:=bg E1 (.cells #[.string t] 9);have sO:=hB.trans (hb2.mono hB.size);have Dz:=(uK.out.call sO).cell 0;obtain⟨A',c',E2,hrun,c1,c2,D',hJ',hT'⟩:=Fin.out _ E1.heap.size sO (by rw[Addr.add_lit];simp);refine aP 5 ?_;refine bw (hy:=wY hrun rfl rfl rfl) ?_;refine⟨trivial,?_⟩;refine aP 6 ?_;refine bs (w':=E2.setCells b0 0 [.slice A' (st.length+1) c']) ?_ (hy:=by have:=c1;have:=c2;simp only[World.setCells];go_simp);refine⟨trivial,?_⟩;refine wpAnyH_done (by kernel_rfl) ?_ _
     go_wp2_with fail
     go_end0
     exact⟨rfl,D',by rw[iC.out];exact hJ',hT'⟩
    ·refine bw (w':=E1.alloc (.cells #[.string t] 9)) (v:= .slice (some ⟨E1.heap.size,0,none⟩) 1 1) ?_;refine⟨trivial,?_⟩;have hb2:=bg E1 (.cells #[.string t] 9);have sO:=hB.trans (hb2.mono hB.size);have Dz:=(uK.out.call sO).cell 0;refine aP 0 ?_;refine bw (w':=E1.alloc (.cells #[.string t] 9)) (v:=v) ?_ (hy:=by have:=Dz;go_simp);refine⟨trivial,?_⟩;obtain⟨A',c',E2,hrun,c1,c2,D',hJ',hT'⟩:=Fin.out _ E1.heap.size sO (by rw[Addr.add_lit];simp);refine aP 5 ?_;refine bw (hy:=wY hrun rfl rfl rfl) ?_;refine⟨trivial,?_⟩;refine aP 6 ?_;refine bs (w':=E2.setCells b0 0 [.slice A' (st.length+1) c']) ?_ (hy:=by have:=c1;have:=c2;simp only[World.setCells];go_simp);refine⟨trivial,?_⟩;refine wpAnyH_done (by kernel_rfl) ?_ _
     go_wp2_with fail
     go_end0
     exact⟨rfl,D',by rw[iC.out];exact hJ',hT'⟩
 ·have hq1:q=false:=Bool.eq_false_iff.2 fun e=>hn (hq.mp e);subst hq1;clear hq;have hstep:fP st k t=st:=by unfold fP;rw[if_neg hn]
  have iC:=hide hstep;clear hstep
  go_wp2_with fail
  go_end0
  exact⟨rfl,D,by rw[iC.out];exact⟨v,⟨HR2.out.d,HR2.out.own,HR2.out.nb,HR2.out.ge,HR2.out.below,by have:=HR2.out.len;omega,HR2.out.sz⟩,yx.out⟩,HT2.out⟩
end
end Go.Proofs.YtialngdffhmobaaGreatDoor
