/- Part 40 of what commuteFiles_cardUpto rests on. -/
import Derived.LoopTactic
import Derived.Test.YtialngdffhmobaaGreatDoorV36
import Derived.Test.YtialngdffhmobaaGreatDoorV35
import Derived.Test.YtialngdffhmobaaGreatDoorV38
import Derived.Test.YtialngdffhmobaaGreatDoorV04
import Derived.Test.YtialngdffhmobaaGreatDoorV14
import Derived.Test.YtialngdffhmobaaGreatDoorV00
set_option linter.unusedVariables false
set_option linter.unusedSimpArgs false
set_option maxHeartbeats 16000000
set_option maxRecDepth 1000000
namespace Go.Proofs.YtialngdffhmobaaGreatDoor
section
open Go.RowKit
structure Bs(w W:World)(l:List (Nat×List Value)):Prop where
 bx :∀u∈l,Bx W u.1 u.2
 nd:(l.map Prod.fst).Nodup
 ge :∀u∈l,w.heap.size≤u.1
 b:Below w.heap.size w W
section
variable {w W W' w0 : World} {l : List (Nat × List Value)} {N : Nat}
theorem Bs.at(h:Bs w W l)(i:Nat){u:Nat×List Value}(hi:l[i]?=some u):Bx W u.1 u.2:=h.bx u (List.mem_of_getElem? hi)
theorem Bs.up(h:Bs w W l)(hd:Below W.heap.size W W'):Bs w W' l:=⟨fun u hu=>(h.bx u hu).call hd,h.nd,h.ge,aQ h.b hd⟩
theorem Bs.drew(h:Bs w W l):Bs w W.drew l:=⟨fun u hu=>(h.bx u hu).drew,h.nd,h.ge,h.b.drew⟩
theorem Bs.nil(h:Below w.heap.size w W):Bs w W []:=⟨fun _ h=>(List.not_mem_nil h).elim,List.nodup_nil,fun _ h=>(List.not_mem_nil h).elim,h⟩
theorem Bs.push(h:Bs w W l){b:Nat}{us:List Value}(hb:b=W.heap.size)(hx:Bx W' b us)(hd:Below W.heap.size W W'):Bs w W' (l++[(b,us)]) where
 bx:=fun u hu=>by
  rcases List.mem_append.1 hu with hu|hu
  ·exact(h.bx u hu).call hd
  ·rw[List.mem_singleton]at hu;subst hu;exact hx
 nd:=by
  rw[List.map_append,List.nodup_append];refine⟨h.nd,by simp,fun a ha c hc e=>?_⟩;simp only[List.map_cons,List.map_nil,List.mem_singleton]at hc;obtain⟨u,hu,rfl⟩:=List.mem_map.1 ha;have:=(h.bx u hu).lt;omega
 ge:=fun u hu=>by
  rcases List.mem_append.1 hu with hu|hu
  ·exact h.ge u hu
  ·rw[List.mem_singleton]at hu;subst hu;rw[hb];exact h.b.size
 b:=aQ h.b hd
theorem Bs.new(h:Bs w W l)(us:List Value)(t:TypeId):Bs w (W.alloc (.cells us.toArray t)) (l++[(W.heap.size,us)]):=h.push rfl (Bx.new W us t) (bg _ _)
theorem Bs.put(h:Bs w W l)(i:Nat){k:Nat}{us:List Value}(hi:l[i]?=some (k,us))(o:Nat)(vs pY:List Value)(ho:o+vs.length≤us.length)(he:us.take o++vs++us.drop (o+vs.length)=pY:=by rfl):Bs w (W.setCells k o vs) (l.set i (k,pY)) where
 bx:=fun u hu=>by
  have hlt:=(List.getElem?_eq_some_iff.1 hi).1;obtain⟨j,hj,rfl⟩:=List.mem_iff_getElem.1 hu;rw[List.length_set]at hj;by_cases e:i=j
  ·subst e;rw[List.getElem_set_self];exact(h.at i hi).puts o vs pY ho he
  ·rw[List.getElem_set_ne e];have hne:(l[j]).1≠k:=fun h2=>by
    have h3:=h.nd;rw[List.nodup_iff_pairwise_ne,List.pairwise_iff_getElem]at h3;have h4:l[i].1=k:=by rw[(List.getElem?_eq_some_iff.1 hi).2]
    rcases Nat.lt_or_gt_of_ne e with h5|h5
    ·have:=h3 i j (by simpa using hlt) (by simpa using hj) h5;simp only[List.getElem_map]at this;exact this (h4.trans h2.symm)
    ·have:=h3 j i (by simpa using hj) (by simpa using hlt) h5;simp only[List.getElem_map]at this;exact this (h2.trans h4.symm)
   exact(h.bx _ (List.getElem_mem hj)).off hne o vs
 nd:=by
  have e:(l.set i (k,pY)).map Prod.fst=l.map Prod.fst:=by
   rw[List.map_set];have h4:=(List.getElem?_eq_some_iff.1 hi).2;have hlt:=(List.getElem?_eq_some_iff.1 hi).1;have:(l.map Prod.fst)[i]'(by simpa using hlt)=k:=by rw[List.getElem_map,h4]
   conv=>lhs;rw[←this]
   exact List.set_getElem_self _
  rw[e];exact h.nd
 ge:=fun u hu=>by
  rcases List.mem_or_eq_of_mem_set hu with hu|rfl
  ·exact h.ge u hu
  ·exact h.ge (k,us) (List.mem_of_getElem? hi)
 b:=dK (h.ge _ (List.mem_of_getElem? hi)) _ _ h.b
theorem Bs.perm{l':List (Nat×List Value)}(h:Bs w W l)(hp:l.Perm l'):Bs w W l':=⟨fun u hu=>h.bx u (hp.mem_iff.2 hu),(hp.map _).nodup_iff.1 h.nd,fun u hu=>h.ge u (hp.mem_iff.2 hu),h.b⟩
theorem Bs.two(h:Bs w W l)(i j:Nat){k1 k2:Nat}{u1 u2:List Value}(hi:l[i]?=some (k1,u1))(hj:l[j]?=some (k2,u2)):W.rangeAt k1 0 u1∧W.rangeAt k2 0 u2:=⟨(h.at i hi).c,(h.at j hj).c⟩
structure dJ(w0 W:World)(y1:Eh)(e1:Ed)(L:List Nat)(x0:Eh)(e0:Ed)(l:List (Nat×List Value)):Prop where
 e:gK W y1 e1 L x0 e0
 n:New w0 W L
 s:w0.heap.size≤W.heap.size
 o :∀c∈L,∀u∈l,c≠u.1
variable {y1 y2 x0 : Eh} {e1 e2 e0 : Ed} {L L2 : List Nat}
theorem dJ.up(h:dJ w0 W y1 e1 L x0 e0 l)(hd:Below W.heap.size W W'):dJ w0 W' y1 e1 L x0 e0 l:=⟨h.e.below hd,h.n.up hd.size,aI h.s hd.size,h.o⟩
theorem dJ.push(h:dJ w0 W y1 e1 L x0 e0 l){b:Nat}{us:List Value}(hb:b=W.heap.size)(hd:Below W.heap.size W W'):dJ w0 W' y1 e1 L x0 e0 (l++[(b,us)]):=
 ⟨h.e.below hd,h.n.up hd.size,aI h.s hd.size,fun c hc u hu=>by
  rcases List.mem_append.1 hu with hu|hu
  ·exact h.o c hc u hu
  ·rw[List.mem_singleton]at hu;subst hu;have:=h.e.lt c hc;simp only;omega⟩
theorem dJ.mk1(hs:w0.heap.size≤W.heap.size)(hl :∀u∈l,Bx W u.1 u.2)(he:gK W' y1 e1 L x0 e0)(hn:New W W' L)(hd:Below W.heap.size W W'):dJ w0 W' y1 e1 L x0 e0 l :=
 ⟨he,hn.from hs,aI hs hd.size,fun c hc u hu=>by have:=hn.ge c hc;have:=(hl u hu).lt;omega⟩
theorem dJ.next(h:dJ w0 W y1 e1 L x0 e0 l)(hl :∀u∈l,Bx W u.1 u.2)(he:gK W' y2 e2 L2 y1 e1)(hn:New W W' L2)(hd:Below W.heap.size W W'):∃L',dJ w0 W' y2 e2 L' x0 e0 l:=by
 obtain⟨L',h1,h2,h3⟩:=h.e.trans he h.n hn hd h.s;exact⟨L',h1,h2,aI h.s hd.size,fun c hc u hu=>by
  rcases h3 c hc with h4|h4
  ·exact h.o c h4 u hu
  ·have:=hn.ge c h4;have:=(hl u hu).lt;omega⟩
structure bD(w W:World)(xa xb:Eh)(a b:Ed)(y:Eh)(q:Ed)(x:Eh)(p:Ed)(l:List (Nat×List Value)):Prop where
 t :∃La Lb,gK W xa a La y q∧gK W xb b Lb x p∧New w W (La++Lb)∧∀c∈La++Lb,∀u∈l,c≠u.1
variable {xa xb x y : Eh} {a b q p : Ed}
theorem bD.mk2{w1:World}{La Lb:List Nat}(ha:dJ w W xa a La y q l)(hb:dJ w1 W xb b Lb x p l)(n1:New w w1 La)(hs:w.heap.size≤w1.heap.size):bD w W xa xb a b y q x p l :=
 ⟨La,Lb,ha.e,hb.e,n1.app hb.n hs hb.s,fun c hc u hu=>by
  rcases List.mem_append.1 hc with hc|hc
  ·exact ha.o c hc u hu
  ·exact hb.o c hc u hu⟩
theorem bD.ed(h:bD w W xa xb a b y q x p l):je w W xa xb a b y q x p:=by
 obtain⟨La,Lb,h1,h2,h3,_⟩:=h.t;exact⟨La,Lb,h1,h2,h3⟩
theorem bD.up(h:bD w W xa xb a b y q x p l)(hd:Below W.heap.size W W'):bD w W' xa xb a b y q x p l:=by
 obtain⟨La,Lb,h1,h2,h3,h4⟩:=h.t;exact⟨La,Lb,h1.below hd,h2.below hd,h3.up hd.size,h4⟩
theorem bD.put(h:bD w W xa xb a b y q x p l){k:Nat}{us:List Value}(i:Nat)(hi:l[i]?=some (k,us))(o:Nat)(vs pY:List Value):bD w (W.setCells k o vs) xa xb a b y q x p (l.set i (k,pY)):=by
 obtain⟨La,Lb,h1,h2,h3,h4⟩:=h.t;have hne :∀c∈La++Lb,c≠k:=fun c hc=>h4 c hc _ (List.mem_of_getElem? hi);exact⟨La,Lb,h1.keep (jU fun c hc=>hne c (by simp[hc])),h2.keep (jU fun c hc=>hne c (by simp[hc])),h3.up (by rw[dU];exact aC _),fun c hc u hu=>by
  rcases List.mem_or_eq_of_mem_set hu with hu|rfl
  ·exact h4 c hc u hu
  ·exact hne c hc⟩
theorem bD.re(h:bD w W xa xb a b y q x p l){l':List (Nat×List Value)}(hl :∀u∈l',u.1∈l.map Prod.fst):bD w W xa xb a b y q x p l':=by
 obtain⟨La,Lb,h1,h2,h3,h4⟩:=h.t;exact⟨La,Lb,h1,h2,h3,fun c hc u hu=>by
  obtain⟨v,hv,e⟩:=List.mem_map.1 (hl u hu);rw[←e];exact h4 c hc v hv⟩
theorem bD.perm(h:bD w W xa xb a b y q x p l){l':List (Nat×List Value)}(hp:l.Perm l'):bD w W xa xb a b y q x p l':=h.re fun u hu=>List.mem_map.2 ⟨u,hp.mem_iff.2 hu,rfl⟩
theorem bD.at1(h:bD w W xa xb a b y q x p l)(j:Int):bD w W xa xb (a.withAt j) b y q x p l:=⟨h.t⟩
theorem bD.at2(h:bD w W xa xb a b y q x p l)(j:Int):bD w W xa xb a (b.withAt j) y q x p l:=⟨h.t⟩
theorem bD.swap(h:bD w W xa xb a b y q x p l):bD w W xb xa b a x p y q l:=by
 obtain⟨La,Lb,h1,h2,h3,h4⟩:=h.t;exact⟨Lb,La,h2,h1,h3.swap,fun c hc=>h4 c (by simp only[List.mem_append]at hc⊢;exact hc.symm)⟩
theorem bD.path1(h:bD w W xa xb a b y q x p l){A:Option Addr}{c:Nat}{r:List Int}(hi:fO W W' A c r)(hB:Below W.heap.size W W')(hl :∀u∈l,Bx W u.1 u.2)(hw:w.heap.size≤W.heap.size):bD w W' (xa.withPath A c) xb (a.withPath r) b y q x p l:=by
 obtain⟨La,Lb,h1,h2,h3,h4⟩:=h.t;obtain⟨Lr,Lp,g1,g2,g3,g4⟩:=(h1.below hB).withPath hi;refine⟨Lp++Lr,Lb,g1,h2.below hB,(h3.app g4 hw hB.size).le fun c=>?_,fun c hc u hu=>?_⟩
 ·have:=g2 c;simp only[List.count_append];omega
 ·simp only[List.mem_append]at hc;rcases hc with(hc|hc)|hc
  ·have:=g4.ge c hc;have:=(hl u hu).lt;omega
  ·exact h4 c (by simp[g3 c hc]) u hu
  ·exact h4 c (by simp[hc]) u hu
theorem bD.path2(h:bD w W xa xb a b y q x p l){A:Option Addr}{c:Nat}{r:List Int}(hi:fO W W' A c r)(hB:Below W.heap.size W W')(hl :∀u∈l,Bx W u.1 u.2)(hw:w.heap.size≤W.heap.size):bD w W' xa (xb.withPath A c) a (b.withPath r) y q x p l :=
 (h.swap.path1 hi hB hl hw).swap
theorem bD.x1(h:bD w W xa xb a b y q x p l)(hb:ja a)(hr:zL y):kH W xa a:=by
 obtain⟨La,Lb,h1,h2,h3,_⟩:=h.t;exact h1.x hb hr
theorem bD.x2(h:bD w W xa xb a b y q x p l)(hb:ja b)(hr:zL x):kH W xb b:=by
 obtain⟨La,Lb,h1,h2,h3,_⟩:=h.t;exact h2.x hb hr
structure dw(w W:World)(e:Ed)(y:Eh)(nm bd:Value)(pr cl:Bool)(l:List (Nat×List Value)):Prop where
 x:kH w y e
 b:Below w.heap.size w W
 s:ik W e y nm bd pr cl
 n :∀u∈l,kZ u.1 nm∧kZ u.1 bd
variable {nm bd : Value} {pr cl : Bool} {e : Ed}
theorem dw.mk1(hx:kH w y e)(hb:Below w.heap.size w W)(hl :∀u∈l,Bx W u.1 u.2)(h:ik W' e y nm bd pr cl)(g1:jG W.heap.size nm)(g2:jG W.heap.size bd)(hd:Below W.heap.size W W'):dw w W' e y nm bd pr cl l :=
 ⟨hx,aQ hb hd,h,fun u hu=>⟨g1.ne (hl u hu).lt,g2.ne (hl u hu).lt⟩⟩
theorem dw.up(h:dw w W e y nm bd pr cl l)(hd:Below W.heap.size W W'):dw w W' e y nm bd pr cl l:=⟨h.x,aQ h.b hd,h.s.below hd,h.n⟩
theorem dw.push(h:dw w W e y nm bd pr cl l){k:Nat}{us:List Value}(hk:k=W.heap.size)(hd:Below W.heap.size W W'):dw w W' e y nm bd pr cl (l++[(k,us)]):=
 ⟨h.x,aQ h.b hd,h.s.below hd,fun u hu=>by
  rcases List.mem_append.1 hu with hu|hu
  ·exact h.n u hu
  ·rw[List.mem_singleton]at hu;subst hu;exact⟨h.s.names.ne (Nat.le_of_eq hk.symm),h.s.binds.ne (Nat.le_of_eq hk.symm)⟩⟩
theorem dw.put(h:dw w W e y nm bd pr cl l){k:Nat}{us:List Value}(i:Nat)(hi:l[i]?=some (k,us))(hk:w.heap.size≤k)(o:Nat)(vs pY:List Value):dw w (W.setCells k o vs) e y nm bd pr cl (l.set i (k,pY)):=
 have hb:=dK hk vs o h.b;have hn:=h.n _ (List.mem_of_getElem? hi)
 ⟨h.x,hb,h.s.off (h.x.below hb) hn.1 hn.2,fun u hu=>by
  rcases List.mem_or_eq_of_mem_set hu with hu|rfl
  ·exact h.n u hu
  ·exact hn⟩
end
end
section
open Go.RowKit
abbrev ax(p:Pt)(x:Ph)(q:Pt)(y:Ph):List Value:=ai p x++ai q y
abbrev aN:List Value:=ak++ak
def eU(w w':World)(xa xb:Ph)(a b:Pt)(y:Ph)(q:Pt)(x:Ph)(p:Pt):Prop:=∃La Lb,jb w' xa a La y q∧jb w' xb b Lb x p∧New w w' (La++Lb)
abbrev Pt.withHunk(p:Pt)(h:Hk):Pt:={p with hunk:=h}
abbrev Pt.withEdit(p:Pt)(e:Ed):Pt:={p with edit:=e}
abbrev Ph.withHunk(x:Ph)(h:Hh):Ph:={x with h:=h}
abbrev Ph.withEdit(x:Ph)(e:Eh):Ph:={x with e:=e}
section
variable {w w1 w' : World} {x y xa xb : Ph} {p q a b : Pt}
theorem eU.zero:eU w w' Ph.zero Ph.zero Pt.zero Pt.zero y q x p:=⟨[],[],jb.zero,jb.zero,New.nil⟩
theorem eU.keep(h:eU w w1 xa xb a b y q x p)(hk :∀c,w.heap.size≤c→c<w1.heap.size→w'.heap[c]?=w1.heap[c]?)(hs:w1.heap.size≤w'.heap.size):eU w w' xa xb a b y q x p:=by
 obtain⟨La,Lb,h1,h2,h3⟩:=h;exact⟨La,Lb,h1.keep fun c hc=>hk c (h3.ge c (by simp[hc])) (h3.lt c (by simp[hc])),h2.keep fun c hc=>hk c (h3.ge c (by simp[hc])) (h3.lt c (by simp[hc])),h3.up hs⟩
theorem eU.from{w0:World}(h:eU w w' xa xb a b y q x p)(hs:w0.heap.size≤w.heap.size):eU w0 w' xa xb a b y q x p:=by
 obtain⟨La,Lb,h1,h2,h3⟩:=h;exact⟨La,Lb,h1,h2,h3.from hs⟩
theorem eU.mk2{L1 L2:List Nat}(h1:jb w1 xa a L1 y q)(n1:New w w1 L1)(h2:jb w' xb b L2 x p)(n2:New w1 w' L2)(hB:Below w1.heap.size w1 w')(hs:w.heap.size≤w1.heap.size):eU w w' xa xb a b y q x p :=
 ⟨L1,L2,h1.below hB,h2,n1.app n2 hs hB.size⟩
end
structure dR(w W:World)(xa xb:Ph)(a b:Pt)(y:Ph)(q:Pt)(x:Ph)(p:Pt)(l:List (Nat×List Value)):Prop where
 t :∃La Lb,jb W xa a La y q∧jb W xb b Lb x p∧New w W (La++Lb)∧∀c∈La++Lb,∀u∈l,c≠u.1
section
variable {w w1 W W' : World} {x y xa xb : Ph} {p q a b : Pt} {l : List (Nat × List Value)}
theorem eU.off(h:eU w1 W xa xb a b y q x p)(hl :∀u∈l,Bx w1 u.1 u.2)(hs:w.heap.size≤w1.heap.size):dR w W xa xb a b y q x p l:=by
 obtain⟨La,Lb,h1,h2,h3⟩:=h;exact⟨La,Lb,h1,h2,h3.from hs,fun c hc u hu=>by have:=h3.ge c hc;have:=(hl u hu).lt;omega⟩
theorem dR.two(h:dR w W xa xb a b y q x p l):eU w W xa xb a b y q x p:=by
 obtain⟨La,Lb,h1,h2,h3,_⟩:=h.t;exact⟨La,Lb,h1,h2,h3⟩
theorem dR.up(h:dR w W xa xb a b y q x p l)(hd:Below W.heap.size W W'):dR w W' xa xb a b y q x p l:=by
 obtain⟨La,Lb,h1,h2,h3,h4⟩:=h.t;exact⟨La,Lb,h1.below hd,h2.below hd,h3.up hd.size,h4⟩
theorem dR.push(h:dR w W xa xb a b y q x p l){k:Nat}{us:List Value}(hk:k=W.heap.size)(hd:Below W.heap.size W W'):dR w W' xa xb a b y q x p (l++[(k,us)]):=by
 obtain⟨La,Lb,h1,h2,h3,h4⟩:=h.t;exact⟨La,Lb,h1.below hd,h2.below hd,h3.up hd.size,fun c hc u hu=>by
  rcases List.mem_append.1 hu with hu|hu
  ·exact h4 c hc u hu
  ·rw[List.mem_singleton]at hu;subst hu;have:=h3.lt c hc;simp only;omega⟩
theorem dR.put(h:dR w W xa xb a b y q x p l){k:Nat}{us:List Value}(i:Nat)(hi:l[i]?=some (k,us))(o:Nat)(vs pY:List Value):dR w (W.setCells k o vs) xa xb a b y q x p (l.set i (k,pY)):=by
 obtain⟨La,Lb,h1,h2,h3,h4⟩:=h.t;have hne :∀c∈La++Lb,c≠k:=fun c hc=>h4 c hc _ (List.mem_of_getElem? hi);exact⟨La,Lb,h1.keep (jU fun c hc=>hne c (by simp[hc])),h2.keep (jU fun c hc=>hne c (by simp[hc])),h3.up (by rw[dU];exact aC _),fun c hc u hu=>by
  rcases List.mem_or_eq_of_mem_set hu with hu|rfl
  ·exact h4 c hc u hu
  ·exact hne c hc⟩
theorem dR.hunks{ha hb:Hk}{za zb:Hh}(h:dR w W xa xb a b y q x p l)(h2:dO W W' za zb ha hb)(hB:Below W.heap.size W W')(hl :∀u∈l,Bx W u.1 u.2)(hs:w.heap.size≤W.heap.size):dR w W' (xa.withHunk za) (xb.withHunk zb) (a.withHunk ha) (b.withHunk hb) y q x p l:=by
 obtain⟨_,_,⟨a1,a2,r1,r2,rfl⟩,⟨b1,b2,s1,s2,rfl⟩,n,f⟩:=h.t;obtain⟨Ha,Hb,g1,g2,m⟩:=h2;refine⟨Ha++a2,Hb++b2,⟨Ha,a2,jM.s g1,r2.below hB,rfl⟩,⟨Hb,b2,jM.s g2,s2.below hB,rfl⟩,(n.app m hs hB.size).le fun c=>?_,fun c hc u hu=>?_⟩
 ·simp only[List.count_append];omega
 ·have hn:c∈Ha++Hb→c≠u.1:=fun h=>by have:=m.ge c h;have:=(hl u hu).lt;omega
  simp only[List.mem_append]at hc hn f;rcases hc with(hc|hc)|hc|hc
  ·exact hn (.inl hc)
  ·exact f c (by simp[hc]) u hu
  ·exact hn (.inr hc)
  ·exact f c (by simp[hc]) u hu
theorem dR.edits{ea eb:Ed}{za zb:Eh}(h:dR w W xa xb a b y q x p l)(h2:je W W' za zb ea eb y.e q.edit x.e p.edit)(hB:Below W.heap.size W W')(hl :∀u∈l,Bx W u.1 u.2)(hs:w.heap.size≤W.heap.size):dR w W' (xa.withEdit za) (xb.withEdit zb) (a.withEdit ea) (b.withEdit eb) y q x p l:=by
 obtain⟨_,_,⟨a1,a2,r1,r2,rfl⟩,⟨b1,b2,s1,s2,rfl⟩,n,f⟩:=h.t;obtain⟨Ha,Hb,g1,g2,m⟩:=h2;refine⟨a1++Ha,b1++Hb,⟨a1,Ha,r1.below hB,g1,rfl⟩,⟨b1,Hb,s1.below hB,g2,rfl⟩,(n.app m hs hB.size).le fun c=>?_,fun c hc u hu=>?_⟩
 ·simp only[List.count_append];omega
 ·have hn:c∈Ha++Hb→c≠u.1:=fun h=>by have:=m.ge c h;have:=(hl u hu).lt;omega
  simp only[List.mem_append]at hc hn f;rcases hc with(hc|hc)|hc|hc
  ·exact f c (by simp[hc]) u hu
  ·exact hn (.inl hc)
  ·exact f c (by simp[hc]) u hu
  ·exact hn (.inr hc)
end
theorem JQ{p q:Pt}(hf:p.file=q.file)(h1:p.kind=3)(h2:q.kind=3):bz p q=(di p.hunk q.hunk).map fun(a,b)=>(q.withHunk a,p.withHunk b):=by
 unfold bz;rw[if_neg (by simp[hf]),if_neg (by omega),if_pos h1]
theorem Oj{p q:Pt}(hf:p.file=q.file)(h1:p.kind=4)(h2:q.kind=4):bz p q=(bT p.edit q.edit).map fun(a,b)=>(q.withEdit a,p.withEdit b):=by
 unfold bz;rw[if_neg (by simp[hf]),if_neg (by omega),if_neg (by omega),if_pos h1]
theorem F9{p q:Pt}(hf:p.file≠q.file):bz p q=some (q,p):=by
 unfold bz;rw[if_pos hf]
theorem Gf{p q:Pt}(hf:p.file=q.file)(h:p.kind≠q.kind∨(p.kind≠3∧p.kind≠4)):bz p q=none:=by
 unfold bz;rw[if_neg (by simp[hf])];split
 ·rfl
 ·rw[if_neg (by omega),if_neg (by omega)]
theorem bF.hk{p:Pt}(h:bF p)(hk:p.kind=3):dN p.hunk:=by
 obtain⟨_,h|h|h⟩:=h
 ·omega
 ·exact h.2.2.2
 ·omega
theorem bF.ed{p:Pt}(h:bF p)(hk:p.kind=4):bQ p.edit:=by
 obtain⟨_,h|h|h⟩:=h
 ·omega
 ·omega
 ·exact h.2.2.2
def jJ(x y:Ph)(p q:Pt)(w:World)(e:Ending)(w':World):Prop :=
 (∃err a b xa xb,e = .returned (.tuple #[.agg (ax a xa b xb).toArray,.int .i64 err])∧((bz p q=none∧err=130)∨(bz p q=some (a,b)∧err=0∧eU w w' xa xb a b y q x p)))∧Below w.heap.size w w'
def um(p q:Pt)(r:Option (Pt×Pt))(err:Int)(a b:Pt):Prop :=
 (¬(bF p∧bF q)∧err=4∧a=Pt.zero∧b=Pt.zero)∨((bF p∧bF q)∧((r=none∧err=130∧a=Pt.zero∧b=Pt.zero)∨(r=some (a,b)∧err=0)))
def zf(x y:Ph)(p q:Pt)(r:Option (Pt×Pt))(w:World)(e:Ending)(w':World):Prop :=
 (∃err a b xa xb,e = .returned (.tuple #[.agg (ai a xa).toArray,.agg (ai b xb).toArray,.int .i64 err])∧eU w w' xa xb a b y q x p∧um p q r err a b)∧Below w.heap.size w w'
end
section
open Go.RowKit
theorem JR{p:Ed}{x:Eh}{nm bd:Value}{pr cl:Bool}{w:World}:Calls Tryz.prog 191 #[.agg (ag p x nm bd pr cl).toArray] w fun e w'=>ay (listed p) e∧Below w.heap.size w w':=by
 have hX:=hide (Bx.new w (ag p x nm bd pr cl) 246);have hB:=hide (bg w (.cells (ag p x nm bd pr cl).toArray 246));go_enter Tryz.func191,Tryz.ntmps191
 go_upto_region 1 with fail
 change Code.wp _ _ _ _ (w.alloc (.cells (ag p x nm bd pr cl).toArray 246));have k0:=hX.out.cell 0;generalize w.alloc (.cells (ag p x nm bd pr cl).toArray 246)=W1 at hX hB k0⊢;by_cases h2:p.kind=2
 ·have e2:((p.kind:Int) == 2)=true:=by simp;omega
  go_wp2_with fail
  go_ret;exact⟨ay.yes (.inl h2),hB.out⟩
 ·have e2:((p.kind:Int) == 2)=false:=by simp;omega
  by_cases h3:p.kind=3
  ·have e3:((p.kind:Int) == 3)=true:=by simp;omega
   go_wp2_with fail
   go_ret;exact⟨ay.yes (.inr (.inl h3)),hB.out⟩
  ·have e3:((p.kind:Int) == 3)=false:=by simp;omega
   go_wp2_with fail
   go_ret;exact⟨ay.mk (by unfold listed;simp;omega),hB.out⟩
theorem uo{w:World}{g:Nat}{a b:Int}(h0:w.cell? ⟨g,0,none⟩=some (.int .u8 a))(h1:w.cell? ⟨g,1,none⟩=some (.int .u8 b)):
  Calls Tryz.prog 59 #[.slice (some ⟨g,0,none⟩) 2 2] w fun e w'=>e = .returned (.int .u8 (max a b))∧w'=w:=by
 go_enter Tryz.func59,Tryz.ntmps59
 go_wp2_with fail
 go_loopw [4,3] (fun i m wr=>(∃j:Nat,i = .int .i64 j∧((j=1∧m = .int .u8 a)∨(j=2∧m = .int .u8 (max a b))))∧w=wr) (fun i _ _=>2-(intOf i).toNat)
 case atStart=>exact⟨⟨1,rfl,.inl ⟨rfl,rfl⟩⟩,rfl⟩
 case round =>
  obtain⟨⟨j,rfl,⟨rfl,rfl⟩|⟨rfl,rfl⟩⟩,rfl⟩:=hrel
  ·go_wp2_with fail
   exact⟨⟨⟨2,rfl,.inr ⟨rfl,rfl⟩⟩,trivial⟩,by simp[intOf]⟩
  ·go_wp2_with fail
   go_ret;exact⟨rfl,rfl⟩
theorem uq{w:World}{g:Nat}{a b:Int}(h0:w.cell? ⟨g,0,none⟩=some (.int .u8 a))(h1:w.cell? ⟨g,1,none⟩=some (.int .u8 b)):
  Calls Tryz.prog 60 #[.slice (some ⟨g,0,none⟩) 2 2] w fun e w'=>e = .returned (.int .u8 (min a b))∧w'=w:=by
 go_enter Tryz.func60,Tryz.ntmps60
 go_wp2_with fail
 go_loopw [4,3] (fun i m wr=>(∃j:Nat,i = .int .i64 j∧((j=1∧m = .int .u8 a)∨(j=2∧m = .int .u8 (min a b))))∧w=wr) (fun i _ _=>2-(intOf i).toNat)
 case atStart=>exact⟨⟨1,rfl,.inl ⟨rfl,rfl⟩⟩,rfl⟩
 case round =>
  obtain⟨⟨j,rfl,⟨rfl,rfl⟩|⟨rfl,rfl⟩⟩,rfl⟩:=hrel
  ·go_wp2_with fail
   exact⟨⟨⟨2,rfl,.inr ⟨rfl,rfl⟩⟩,trivial⟩,by simp[intOf]⟩
  ·go_wp2_with fail
   go_ret;exact⟨rfl,rfl⟩
end
end Go.Proofs.YtialngdffhmobaaGreatDoor
