/- Part 39 of what mgTop rests on. -/
import Derived.LoopTactic
import Derived.Test.YtialngdffhmobaaGreatDoorU33
import Derived.Test.YtialngdffhmobaaGreatDoorU35
import Derived.Test.YtialngdffhmobaaGreatDoorU25
import Derived.Test.YtialngdffhmobaaGreatDoorU13
import Derived.Test.YtialngdffhmobaaGreatDoorU00
set_option linter.unusedVariables false
set_option linter.unusedSimpArgs false
set_option maxHeartbeats 16000000
set_option maxRecDepth 1000000
namespace Go.Proofs.YtialngdffhmobaaGreatDoor
section
open Go.RowKit
structure Bs(w W:World)(l:List (Nat×List Value)):Prop where
 bx :∀u∈l,Bx W u.1 u.2
 nd:(l.map Prod.fst).Nodup
 ge :∀u∈l,w.heap.size≤u.1
 b:Below w.heap.size w W
section
variable {w W W' w0 : World} {l : List (Nat × List Value)} {N : Nat}
theorem Bs.at(h:Bs w W l)(i:Nat){u:Nat×List Value}(hi:l[i]?=some u):Bx W u.1 u.2:=h.bx u (List.mem_of_getElem? hi)
theorem Bs.up(h:Bs w W l)(hd:Below W.heap.size W W'):Bs w W' l:=⟨fun u hu=>(h.bx u hu).call hd,h.nd,h.ge,blw_up h.b hd⟩
theorem Bs.drew(h:Bs w W l):Bs w W.drew l:=⟨fun u hu=>(h.bx u hu).drew,h.nd,h.ge,h.b.drew⟩
theorem Bs.nil(h:Below w.heap.size w W):Bs w W []:=⟨fun _ h=>(List.not_mem_nil h).elim,List.nodup_nil,fun _ h=>(List.not_mem_nil h).elim,h⟩
theorem Bs.push(h:Bs w W l){b:Nat}{us:List Value}(hb:b=W.heap.size)(hx:Bx W' b us)(hd:Below W.heap.size W W'):Bs w W' (l++[(b,us)]) where
 bx:=fun u hu=>by
  rcases List.mem_append.1 hu with hu|hu
  ·exact(h.bx u hu).call hd
  ·rw[List.mem_singleton]at hu;subst hu;exact hx
 nd:=by
  rw[List.map_append,List.nodup_append];refine⟨h.nd,by simp,fun a ha c hc e=>?_⟩;simp only[List.map_cons,List.map_nil,List.mem_singleton]at hc;obtain⟨u,hu,rfl⟩:=List.mem_map.1 ha;have:=(h.bx u hu).lt;omega
 ge:=fun u hu=>by
  rcases List.mem_append.1 hu with hu|hu
  ·exact h.ge u hu
  ·rw[List.mem_singleton]at hu;subst hu;rw[hb];exact h.b.size
 b:=blw_up h.b hd
theorem Bs.new(h:Bs w W l)(us:List Value)(t:TypeId):Bs w (W.alloc (.cells us.toArray t)) (l++[(W.heap.size,us)]):=h.push rfl (Bx.new W us t) (below_alloc _ _)
theorem Bs.put(h:Bs w W l)(i:Nat){k:Nat}{us:List Value}(hi:l[i]?=some (k,us))(o:Nat)(vs us':List Value)(ho:o+vs.length≤us.length)(he:us.take o++vs++us.drop (o+vs.length)=us':=by rfl):Bs w (W.setCells k o vs) (l.set i (k,us')) where
 bx:=fun u hu=>by
  have hlt:=(List.getElem?_eq_some_iff.1 hi).1;obtain⟨j,hj,rfl⟩:=List.mem_iff_getElem.1 hu;rw[List.length_set]at hj;by_cases e:i=j
  ·subst e;rw[List.getElem_set_self];exact(h.at i hi).puts o vs us' ho he
  ·rw[List.getElem_set_ne e];have hne:(l[j]).1≠k:=fun h2=>by
    have h3:=h.nd;rw[List.nodup_iff_pairwise_ne,List.pairwise_iff_getElem]at h3;have h4:l[i].1=k:=by rw[(List.getElem?_eq_some_iff.1 hi).2]
    rcases Nat.lt_or_gt_of_ne e with h5|h5
    ·have:=h3 i j (by simpa using hlt) (by simpa using hj) h5;simp only[List.getElem_map]at this;exact this (h4.trans h2.symm)
    ·have:=h3 j i (by simpa using hj) (by simpa using hlt) h5;simp only[List.getElem_map]at this;exact this (h2.trans h4.symm)
   exact(h.bx _ (List.getElem_mem hj)).off hne o vs
 nd:=by
  have e:(l.set i (k,us')).map Prod.fst=l.map Prod.fst:=by
   rw[List.map_set];have h4:=(List.getElem?_eq_some_iff.1 hi).2;have hlt:=(List.getElem?_eq_some_iff.1 hi).1;have:(l.map Prod.fst)[i]'(by simpa using hlt)=k:=by rw[List.getElem_map,h4]
   conv=>lhs;rw[←this]
   exact List.set_getElem_self _
  rw[e];exact h.nd
 ge:=fun u hu=>by
  rcases List.mem_or_eq_of_mem_set hu with hu|rfl
  ·exact h.ge u hu
  ·exact h.ge (k,us) (List.mem_of_getElem? hi)
 b:=bx_below (h.ge _ (List.mem_of_getElem? hi)) _ _ h.b
theorem Bs.perm{l':List (Nat×List Value)}(h:Bs w W l)(hp:l.Perm l'):Bs w W l':=⟨fun u hu=>h.bx u (hp.mem_iff.2 hu),(hp.map _).nodup_iff.1 h.nd,fun u hu=>h.ge u (hp.mem_iff.2 hu),h.b⟩
theorem Bs.ne(h:Bs w W l)(i j:Nat){u v:Nat×List Value}(hi:l[i]?=some u)(hj:l[j]?=some v)(hij:i<j):u.1≠v.1:=by
 have h3:=h.nd;rw[List.nodup_iff_pairwise_ne,List.pairwise_iff_getElem]at h3;have hi2:=List.getElem?_eq_some_iff.1 hi;have hj2:=List.getElem?_eq_some_iff.1 hj;have:=h3 i j (by simpa using hi2.1) (by simpa using hj2.1) hij;simp only[List.getElem_map,hi2.2,hj2.2]at this;exact this
theorem Bs.two(h:Bs w W l)(i j:Nat){k1 k2:Nat}{u1 u2:List Value}(hi:l[i]?=some (k1,u1))(hj:l[j]?=some (k2,u2)):W.rangeAt k1 0 u1∧W.rangeAt k2 0 u2:=⟨(h.at i hi).c,(h.at j hj).c⟩
structure OwnE(w0 W:World)(y1:Eh)(e1:Ed)(L:List Nat)(x0:Eh)(e0:Ed)(l:List (Nat×List Value)):Prop where
 e:EdS W y1 e1 L x0 e0
 n:New w0 W L
 s:w0.heap.size≤W.heap.size
 o :∀c∈L,∀u∈l,c≠u.1
variable {y1 y2 x0 : Eh} {e1 e2 e0 : Ed} {L L2 : List Nat}
theorem OwnE.up(h:OwnE w0 W y1 e1 L x0 e0 l)(hd:Below W.heap.size W W'):OwnE w0 W' y1 e1 L x0 e0 l:=⟨h.e.below hd,h.n.up hd.size,Nat.le_trans h.s hd.size,h.o⟩
theorem OwnE.push(h:OwnE w0 W y1 e1 L x0 e0 l){b:Nat}{us:List Value}(hb:b=W.heap.size)(hd:Below W.heap.size W W'):OwnE w0 W' y1 e1 L x0 e0 (l++[(b,us)]):=
 ⟨h.e.below hd,h.n.up hd.size,Nat.le_trans h.s hd.size,fun c hc u hu=>by
  rcases List.mem_append.1 hu with hu|hu
  ·exact h.o c hc u hu
  ·rw[List.mem_singleton]at hu;subst hu;have:=h.e.lt c hc;simp only;omega⟩
theorem OwnE.mk1(hs:w0.heap.size≤W.heap.size)(hl :∀u∈l,Bx W u.1 u.2)(he:EdS W' y1 e1 L x0 e0)(hn:New W W' L)(hd:Below W.heap.size W W'):OwnE w0 W' y1 e1 L x0 e0 l :=
 ⟨he,hn.from hs,Nat.le_trans hs hd.size,fun c hc u hu=>by have:=hn.ge c hc;have:=(hl u hu).lt;omega⟩
theorem OwnE.next(h:OwnE w0 W y1 e1 L x0 e0 l)(hl :∀u∈l,Bx W u.1 u.2)(he:EdS W' y2 e2 L2 y1 e1)(hn:New W W' L2)(hd:Below W.heap.size W W'):∃L',OwnE w0 W' y2 e2 L' x0 e0 l:=by
 obtain⟨L',h1,h2,h3⟩:=h.e.trans he h.n hn hd h.s;exact⟨L',h1,h2,Nat.le_trans h.s hd.size,fun c hc u hu=>by
  rcases h3 c hc with h4|h4
  ·exact h.o c h4 u hu
  ·have:=hn.ge c h4;have:=(hl u hu).lt;omega⟩
theorem OwnE.put(h:OwnE w0 W y1 e1 L x0 e0 l){k:Nat}{us:List Value}(i:Nat)(hi:l[i]?=some (k,us))(o:Nat)(vs us':List Value):OwnE w0 (W.setCells k o vs) y1 e1 L x0 e0 (l.set i (k,us')):=
 ⟨h.e.keep (bx_keep fun c hc=>h.o c hc _ (List.mem_of_getElem? hi)),h.n.up (by rw[bx_size];exact Nat.le_refl _),by rw[bx_size];exact h.s,fun c hc u hu=>by
  rcases List.mem_or_eq_of_mem_set hu with hu|rfl
  ·exact h.o c hc u hu
  ·exact h.o c hc (k,us) (List.mem_of_getElem? hi)⟩
structure TwoB(w W:World)(xa xb:Eh)(a b:Ed)(y:Eh)(q:Ed)(x:Eh)(p:Ed)(l:List (Nat×List Value)):Prop where
 t :∃La Lb,EdS W xa a La y q∧EdS W xb b Lb x p∧New w W (La++Lb)∧∀c∈La++Lb,∀u∈l,c≠u.1
variable {xa xb x y : Eh} {a b q p : Ed}
theorem TwoB.mk2{w1:World}{La Lb:List Nat}(ha:OwnE w W xa a La y q l)(hb:OwnE w1 W xb b Lb x p l)(n1:New w w1 La)(hs:w.heap.size≤w1.heap.size):TwoB w W xa xb a b y q x p l :=
 ⟨La,Lb,ha.e,hb.e,n1.app hb.n hs hb.s,fun c hc u hu=>by
  rcases List.mem_append.1 hc with hc|hc
  ·exact ha.o c hc u hu
  ·exact hb.o c hc u hu⟩
theorem TwoB.ed(h:TwoB w W xa xb a b y q x p l):TwoEd w W xa xb a b y q x p:=by
 obtain⟨La,Lb,h1,h2,h3,_⟩:=h.t;exact⟨La,Lb,h1,h2,h3⟩
theorem TwoB.up(h:TwoB w W xa xb a b y q x p l)(hd:Below W.heap.size W W'):TwoB w W' xa xb a b y q x p l:=by
 obtain⟨La,Lb,h1,h2,h3,h4⟩:=h.t;exact⟨La,Lb,h1.below hd,h2.below hd,h3.up hd.size,h4⟩
theorem TwoB.put(h:TwoB w W xa xb a b y q x p l){k:Nat}{us:List Value}(i:Nat)(hi:l[i]?=some (k,us))(o:Nat)(vs us':List Value):TwoB w (W.setCells k o vs) xa xb a b y q x p (l.set i (k,us')):=by
 obtain⟨La,Lb,h1,h2,h3,h4⟩:=h.t;have hne :∀c∈La++Lb,c≠k:=fun c hc=>h4 c hc _ (List.mem_of_getElem? hi);exact⟨La,Lb,h1.keep (bx_keep fun c hc=>hne c (by simp[hc])),h2.keep (bx_keep fun c hc=>hne c (by simp[hc])),h3.up (by rw[bx_size];exact Nat.le_refl _),fun c hc u hu=>by
  rcases List.mem_or_eq_of_mem_set hu with hu|rfl
  ·exact h4 c hc u hu
  ·exact hne c hc⟩
theorem TwoB.re(h:TwoB w W xa xb a b y q x p l){l':List (Nat×List Value)}(hl :∀u∈l',u.1∈l.map Prod.fst):TwoB w W xa xb a b y q x p l':=by
 obtain⟨La,Lb,h1,h2,h3,h4⟩:=h.t;exact⟨La,Lb,h1,h2,h3,fun c hc u hu=>by
  obtain⟨v,hv,e⟩:=List.mem_map.1 (hl u hu);rw[←e];exact h4 c hc v hv⟩
theorem TwoB.perm(h:TwoB w W xa xb a b y q x p l){l':List (Nat×List Value)}(hp:l.Perm l'):TwoB w W xa xb a b y q x p l':=h.re fun u hu=>List.mem_map.2 ⟨u,hp.mem_iff.2 hu,rfl⟩
theorem TwoB.at1(h:TwoB w W xa xb a b y q x p l)(j:Int):TwoB w W xa xb (a.withAt j) b y q x p l:=⟨h.t⟩
theorem TwoB.at2(h:TwoB w W xa xb a b y q x p l)(j:Int):TwoB w W xa xb a (b.withAt j) y q x p l:=⟨h.t⟩
theorem TwoB.swap(h:TwoB w W xa xb a b y q x p l):TwoB w W xb xa b a x p y q l:=by
 obtain⟨La,Lb,h1,h2,h3,h4⟩:=h.t;exact⟨Lb,La,h2,h1,h3.swap,fun c hc=>h4 c (by simp only[List.mem_append]at hc⊢;exact hc.symm)⟩
theorem TwoB.path1(h:TwoB w W xa xb a b y q x p l){A:Option Addr}{c:Nat}{r:List Int}(hi:IntsO W W' A c r)(hB:Below W.heap.size W W')(hl :∀u∈l,Bx W u.1 u.2)(hw:w.heap.size≤W.heap.size):TwoB w W' (xa.withPath A c) xb (a.withPath r) b y q x p l:=by
 obtain⟨La,Lb,h1,h2,h3,h4⟩:=h.t;obtain⟨Lr,Lp,g1,g2,g3,g4⟩:=(h1.below hB).withPath hi;refine⟨Lp++Lr,Lb,g1,h2.below hB,(h3.app g4 hw hB.size).le fun c=>?_,fun c hc u hu=>?_⟩
 ·have:=g2 c;simp only[List.count_append];omega
 ·simp only[List.mem_append]at hc;rcases hc with(hc|hc)|hc
  ·have:=g4.ge c hc;have:=(hl u hu).lt;omega
  ·exact h4 c (by simp[g3 c hc]) u hu
  ·exact h4 c (by simp[hc]) u hu
theorem TwoB.path2(h:TwoB w W xa xb a b y q x p l){A:Option Addr}{c:Nat}{r:List Int}(hi:IntsO W W' A c r)(hB:Below W.heap.size W W')(hl :∀u∈l,Bx W u.1 u.2)(hw:w.heap.size≤W.heap.size):TwoB w W' xa (xb.withPath A c) a (b.withPath r) y q x p l :=
 (h.swap.path1 hi hB hl hw).swap
theorem TwoB.x1(h:TwoB w W xa xb a b y q x p l)(hb:EdB a)(hr:EhR y):EdX W xa a:=by
 obtain⟨La,Lb,h1,h2,h3,_⟩:=h.t;exact h1.x hb hr
theorem TwoB.x2(h:TwoB w W xa xb a b y q x p l)(hb:EdB b)(hr:EhR x):EdX W xb b:=by
 obtain⟨La,Lb,h1,h2,h3,_⟩:=h.t;exact h2.x hb hr
structure SideO(w W:World)(e:Ed)(y:Eh)(nm bd:Value)(pr cl:Bool)(l:List (Nat×List Value)):Prop where
 x:EdX w y e
 b:Below w.heap.size w W
 s:SideX W e y nm bd pr cl
 n :∀u∈l,RowNe u.1 nm∧RowNe u.1 bd
variable {nm bd : Value} {pr cl : Bool} {e : Ed}
theorem SideO.mk1(hx:EdX w y e)(hb:Below w.heap.size w W)(hl :∀u∈l,Bx W u.1 u.2)(h:SideX W' e y nm bd pr cl)(g1:RowGe W.heap.size nm)(g2:RowGe W.heap.size bd)(hd:Below W.heap.size W W'):SideO w W' e y nm bd pr cl l :=
 ⟨hx,blw_up hb hd,h,fun u hu=>⟨g1.ne (hl u hu).lt,g2.ne (hl u hu).lt⟩⟩
theorem SideO.up(h:SideO w W e y nm bd pr cl l)(hd:Below W.heap.size W W'):SideO w W' e y nm bd pr cl l:=⟨h.x,blw_up h.b hd,h.s.below hd,h.n⟩
theorem SideO.push(h:SideO w W e y nm bd pr cl l){k:Nat}{us:List Value}(hk:k=W.heap.size)(hd:Below W.heap.size W W'):SideO w W' e y nm bd pr cl (l++[(k,us)]):=
 ⟨h.x,blw_up h.b hd,h.s.below hd,fun u hu=>by
  rcases List.mem_append.1 hu with hu|hu
  ·exact h.n u hu
  ·rw[List.mem_singleton]at hu;subst hu;exact⟨h.s.names.ne (Nat.le_of_eq hk.symm),h.s.binds.ne (Nat.le_of_eq hk.symm)⟩⟩
theorem SideO.put(h:SideO w W e y nm bd pr cl l){k:Nat}{us:List Value}(i:Nat)(hi:l[i]?=some (k,us))(hk:w.heap.size≤k)(o:Nat)(vs us':List Value):SideO w (W.setCells k o vs) e y nm bd pr cl (l.set i (k,us')):=
 have hb:=bx_below hk vs o h.b;have hn:=h.n _ (List.mem_of_getElem? hi)
 ⟨h.x,hb,h.s.off (h.x.below hb) hn.1 hn.2,fun u hu=>by
  rcases List.mem_or_eq_of_mem_set hu with hu|rfl
  ·exact h.n u hu
  ·exact hn⟩
end
end
section
open Go.RowKit
abbrev pairVs(p:Pt)(x:Ph)(q:Pt)(y:Ph):List Value:=ptVs p x++ptVs q y
abbrev zeroPair:List Value:=zeroPt++zeroPt
def TwoPt(w w':World)(xa xb:Ph)(a b:Pt)(y:Ph)(q:Pt)(x:Ph)(p:Pt):Prop:=∃La Lb,PtS w' xa a La y q∧PtS w' xb b Lb x p∧New w w' (La++Lb)
abbrev Pt.withHunk(p:Pt)(h:Hk):Pt:={p with hunk:=h}
abbrev Pt.withEdit(p:Pt)(e:Ed):Pt:={p with edit:=e}
abbrev Ph.withHunk(x:Ph)(h:Hh):Ph:={x with h:=h}
abbrev Ph.withEdit(x:Ph)(e:Eh):Ph:={x with e:=e}
section
variable {w w1 w' : World} {x y xa xb : Ph} {p q a b : Pt}
theorem TwoPt.zero:TwoPt w w' Ph.zero Ph.zero Pt.zero Pt.zero y q x p:=⟨[],[],PtS.zero,PtS.zero,New.nil⟩
theorem TwoPt.keep(h:TwoPt w w1 xa xb a b y q x p)(hk :∀c,w.heap.size≤c→c<w1.heap.size→w'.heap[c]?=w1.heap[c]?)(hs:w1.heap.size≤w'.heap.size):TwoPt w w' xa xb a b y q x p:=by
 obtain⟨La,Lb,h1,h2,h3⟩:=h;exact⟨La,Lb,h1.keep fun c hc=>hk c (h3.ge c (by simp[hc])) (h3.lt c (by simp[hc])),h2.keep fun c hc=>hk c (h3.ge c (by simp[hc])) (h3.lt c (by simp[hc])),h3.up hs⟩
theorem TwoPt.below(h:TwoPt w w1 xa xb a b y q x p)(hB:Below w1.heap.size w1 w'):TwoPt w w' xa xb a b y q x p:=h.keep (fun c _ hc=>hB.block c hc) hB.size
theorem TwoPt.from{w0:World}(h:TwoPt w w' xa xb a b y q x p)(hs:w0.heap.size≤w.heap.size):TwoPt w0 w' xa xb a b y q x p:=by
 obtain⟨La,Lb,h1,h2,h3⟩:=h;exact⟨La,Lb,h1,h2,h3.from hs⟩
theorem TwoPt.swap(h:TwoPt w w' xa xb a b y q x p):TwoPt w w' xb xa b a x p y q:=by
 obtain⟨La,Lb,h1,h2,h3⟩:=h;exact⟨Lb,La,h2,h1,h3.swap⟩
theorem TwoPt.mk2{L1 L2:List Nat}(h1:PtS w1 xa a L1 y q)(n1:New w w1 L1)(h2:PtS w' xb b L2 x p)(n2:New w1 w' L2)(hB:Below w1.heap.size w1 w')(hs:w.heap.size≤w1.heap.size):TwoPt w w' xa xb a b y q x p :=
 ⟨L1,L2,h1.below hB,h2,n1.app n2 hs hB.size⟩
theorem TwoPt.hunks{ha hb:Hk}{za zb:Hh}(h:TwoPt w w1 xa xb a b y q x p)(h2:TwoHk w1 w' za zb ha hb)(hB:Below w1.heap.size w1 w')(hs:w.heap.size≤w1.heap.size):TwoPt w w' (xa.withHunk za) (xb.withHunk zb) (a.withHunk ha) (b.withHunk hb) y q x p:=by
 obtain⟨_,_,⟨a1,a2,r1,r2,rfl⟩,⟨b1,b2,s1,s2,rfl⟩,n⟩:=h;obtain⟨Ha,Hb,g1,g2,m⟩:=h2;refine⟨Ha++a2,Hb++b2,⟨Ha,a2,HkO.s g1,r2.below hB,rfl⟩,⟨Hb,b2,HkO.s g2,s2.below hB,rfl⟩,(n.app m hs hB.size).le fun c=>?_⟩;simp only[List.count_append];omega
theorem TwoPt.edits{ea eb:Ed}{za zb:Eh}(h:TwoPt w w1 xa xb a b y q x p)(h2:TwoEd w1 w' za zb ea eb y.e q.edit x.e p.edit)(hB:Below w1.heap.size w1 w')(hs:w.heap.size≤w1.heap.size):TwoPt w w' (xa.withEdit za) (xb.withEdit zb) (a.withEdit ea) (b.withEdit eb) y q x p:=by
 obtain⟨_,_,⟨a1,a2,r1,r2,rfl⟩,⟨b1,b2,s1,s2,rfl⟩,n⟩:=h;obtain⟨Ha,Hb,g1,g2,m⟩:=h2;refine⟨a1++Ha,b1++Hb,⟨a1,Ha,r1.below hB,g1,rfl⟩,⟨b1,Hb,s1.below hB,g2,rfl⟩,(n.app m hs hB.size).le fun c=>?_⟩;simp only[List.count_append];omega
end
structure TwoPb(w W:World)(xa xb:Ph)(a b:Pt)(y:Ph)(q:Pt)(x:Ph)(p:Pt)(l:List (Nat×List Value)):Prop where
 t :∃La Lb,PtS W xa a La y q∧PtS W xb b Lb x p∧New w W (La++Lb)∧∀c∈La++Lb,∀u∈l,c≠u.1
section
variable {w w1 W W' : World} {x y xa xb : Ph} {p q a b : Pt} {l : List (Nat × List Value)}
theorem TwoPt.off(h:TwoPt w1 W xa xb a b y q x p)(hl :∀u∈l,Bx w1 u.1 u.2)(hs:w.heap.size≤w1.heap.size):TwoPb w W xa xb a b y q x p l:=by
 obtain⟨La,Lb,h1,h2,h3⟩:=h;exact⟨La,Lb,h1,h2,h3.from hs,fun c hc u hu=>by have:=h3.ge c hc;have:=(hl u hu).lt;omega⟩
theorem TwoPb.two(h:TwoPb w W xa xb a b y q x p l):TwoPt w W xa xb a b y q x p:=by
 obtain⟨La,Lb,h1,h2,h3,_⟩:=h.t;exact⟨La,Lb,h1,h2,h3⟩
theorem TwoPb.up(h:TwoPb w W xa xb a b y q x p l)(hd:Below W.heap.size W W'):TwoPb w W' xa xb a b y q x p l:=by
 obtain⟨La,Lb,h1,h2,h3,h4⟩:=h.t;exact⟨La,Lb,h1.below hd,h2.below hd,h3.up hd.size,h4⟩
theorem TwoPb.push(h:TwoPb w W xa xb a b y q x p l){k:Nat}{us:List Value}(hk:k=W.heap.size)(hd:Below W.heap.size W W'):TwoPb w W' xa xb a b y q x p (l++[(k,us)]):=by
 obtain⟨La,Lb,h1,h2,h3,h4⟩:=h.t;exact⟨La,Lb,h1.below hd,h2.below hd,h3.up hd.size,fun c hc u hu=>by
  rcases List.mem_append.1 hu with hu|hu
  ·exact h4 c hc u hu
  ·rw[List.mem_singleton]at hu;subst hu;have:=h3.lt c hc;simp only;omega⟩
theorem TwoPb.put(h:TwoPb w W xa xb a b y q x p l){k:Nat}{us:List Value}(i:Nat)(hi:l[i]?=some (k,us))(o:Nat)(vs us':List Value):TwoPb w (W.setCells k o vs) xa xb a b y q x p (l.set i (k,us')):=by
 obtain⟨La,Lb,h1,h2,h3,h4⟩:=h.t;have hne :∀c∈La++Lb,c≠k:=fun c hc=>h4 c hc _ (List.mem_of_getElem? hi);exact⟨La,Lb,h1.keep (bx_keep fun c hc=>hne c (by simp[hc])),h2.keep (bx_keep fun c hc=>hne c (by simp[hc])),h3.up (by rw[bx_size];exact Nat.le_refl _),fun c hc u hu=>by
  rcases List.mem_or_eq_of_mem_set hu with hu|rfl
  ·exact h4 c hc u hu
  ·exact hne c hc⟩
theorem TwoPb.hunks{ha hb:Hk}{za zb:Hh}(h:TwoPb w W xa xb a b y q x p l)(h2:TwoHk W W' za zb ha hb)(hB:Below W.heap.size W W')(hl :∀u∈l,Bx W u.1 u.2)(hs:w.heap.size≤W.heap.size):TwoPb w W' (xa.withHunk za) (xb.withHunk zb) (a.withHunk ha) (b.withHunk hb) y q x p l:=by
 obtain⟨_,_,⟨a1,a2,r1,r2,rfl⟩,⟨b1,b2,s1,s2,rfl⟩,n,f⟩:=h.t;obtain⟨Ha,Hb,g1,g2,m⟩:=h2;refine⟨Ha++a2,Hb++b2,⟨Ha,a2,HkO.s g1,r2.below hB,rfl⟩,⟨Hb,b2,HkO.s g2,s2.below hB,rfl⟩,(n.app m hs hB.size).le fun c=>?_,fun c hc u hu=>?_⟩
 ·simp only[List.count_append];omega
 ·have hn:c∈Ha++Hb→c≠u.1:=fun h=>by have:=m.ge c h;have:=(hl u hu).lt;omega
  simp only[List.mem_append]at hc hn f;rcases hc with(hc|hc)|hc|hc
  ·exact hn (.inl hc)
  ·exact f c (by simp[hc]) u hu
  ·exact hn (.inr hc)
  ·exact f c (by simp[hc]) u hu
theorem TwoPb.edits{ea eb:Ed}{za zb:Eh}(h:TwoPb w W xa xb a b y q x p l)(h2:TwoEd W W' za zb ea eb y.e q.edit x.e p.edit)(hB:Below W.heap.size W W')(hl :∀u∈l,Bx W u.1 u.2)(hs:w.heap.size≤W.heap.size):TwoPb w W' (xa.withEdit za) (xb.withEdit zb) (a.withEdit ea) (b.withEdit eb) y q x p l:=by
 obtain⟨_,_,⟨a1,a2,r1,r2,rfl⟩,⟨b1,b2,s1,s2,rfl⟩,n,f⟩:=h.t;obtain⟨Ha,Hb,g1,g2,m⟩:=h2;refine⟨a1++Ha,b1++Hb,⟨a1,Ha,r1.below hB,g1,rfl⟩,⟨b1,Hb,s1.below hB,g2,rfl⟩,(n.app m hs hB.size).le fun c=>?_,fun c hc u hu=>?_⟩
 ·simp only[List.count_append];omega
 ·have hn:c∈Ha++Hb→c≠u.1:=fun h=>by have:=m.ge c h;have:=(hl u hu).lt;omega
  simp only[List.mem_append]at hc hn f;rcases hc with(hc|hc)|hc|hc
  ·exact f c (by simp[hc]) u hu
  ·exact hn (.inl hc)
  ·exact f c (by simp[hc]) u hu
  ·exact hn (.inr hc)
end
theorem ptCommute_lines{p q:Pt}(hf:p.file=q.file)(h1:p.kind=3)(h2:q.kind=3):ptCommute p q=(hkCommute p.hunk q.hunk).map fun(a,b)=>(q.withHunk a,p.withHunk b):=by
 unfold ptCommute;rw[if_neg (by simp[hf]),if_neg (by omega),if_pos h1]
theorem ptCommute_trees{p q:Pt}(hf:p.file=q.file)(h1:p.kind=4)(h2:q.kind=4):ptCommute p q=(edCommute p.edit q.edit).map fun(a,b)=>(q.withEdit a,p.withEdit b):=by
 unfold ptCommute;rw[if_neg (by simp[hf]),if_neg (by omega),if_neg (by omega),if_pos h1]
theorem ptCommute_files{p q:Pt}(hf:p.file≠q.file):ptCommute p q=some (q,p):=by
 unfold ptCommute;rw[if_pos hf]
theorem ptCommute_clash{p q:Pt}(hf:p.file=q.file)(h:p.kind≠q.kind∨(p.kind≠3∧p.kind≠4)):ptCommute p q=none:=by
 unfold ptCommute;rw[if_neg (by simp[hf])];split
 ·rfl
 ·rw[if_neg (by omega),if_neg (by omega)]
theorem PtOk.hk{p:Pt}(h:PtOk p)(hk:p.kind=3):HkOk p.hunk:=by
 obtain⟨_,h|h|h⟩:=h
 ·omega
 ·exact h.2.2.2
 ·omega
theorem PtOk.ed{p:Pt}(h:PtOk p)(hk:p.kind=4):EdOk p.edit:=by
 obtain⟨_,h|h|h⟩:=h
 ·omega
 ·omega
 ·exact h.2.2.2
def PairPost(x y:Ph)(p q:Pt)(w:World)(e:Ending)(w':World):Prop :=
 (∃err a b xa xb,e = .returned (.tuple #[.agg (pairVs a xa b xb).toArray,.int .i64 err])∧((ptCommute p q=none∧err=130)∨(ptCommute p q=some (a,b)∧err=0∧TwoPt w w' xa xb a b y q x p)))∧Below w.heap.size w w'
def PtIs(p q:Pt)(r:Option (Pt×Pt))(err:Int)(a b:Pt):Prop :=
 (¬(PtOk p∧PtOk q)∧err=4∧a=Pt.zero∧b=Pt.zero)∨((PtOk p∧PtOk q)∧((r=none∧err=130∧a=Pt.zero∧b=Pt.zero)∨(r=some (a,b)∧err=0)))
def PtPost(x y:Ph)(p q:Pt)(r:Option (Pt×Pt))(w:World)(e:Ending)(w':World):Prop :=
 (∃err a b xa xb,e = .returned (.tuple #[.agg (ptVs a xa).toArray,.agg (ptVs b xb).toArray,.int .i64 err])∧TwoPt w w' xa xb a b y q x p∧PtIs p q r err a b)∧Below w.heap.size w w'
end
section
open Go.RowKit
theorem list_any{p:Ed}{x:Eh}{nm bd:Value}{pr cl:Bool}{w:World}:Calls Tryz.prog 191 #[.agg (sideVs p x nm bd pr cl).toArray] w fun e w'=>RetB (listed p) e∧Below w.heap.size w w':=by
 have hX:=hide (Bx.new w (sideVs p x nm bd pr cl) 246);have hB:=hide (below_alloc w (.cells (sideVs p x nm bd pr cl).toArray 246));go_enter Tryz.func191,Tryz.ntmps191
 go_upto_region 1 with fail
 change Code.wp _ _ _ _ (w.alloc (.cells (sideVs p x nm bd pr cl).toArray 246));have k0:=hX.out.cell 0;generalize w.alloc (.cells (sideVs p x nm bd pr cl).toArray 246)=W1 at hX hB k0⊢;by_cases h2:p.kind=2
 ·have e2:((p.kind:Int) == 2)=true:=by simp;omega
  go_wp2_with fail
  go_ret;exact⟨RetB.yes (.inl h2),hB.out⟩
 ·have e2:((p.kind:Int) == 2)=false:=by simp;omega
  by_cases h3:p.kind=3
  ·have e3:((p.kind:Int) == 3)=true:=by simp;omega
   go_wp2_with fail
   go_ret;exact⟨RetB.yes (.inr (.inl h3)),hB.out⟩
  ·have e3:((p.kind:Int) == 3)=false:=by simp;omega
   go_wp2_with fail
   go_ret;exact⟨RetB.mk (by unfold listed;simp;omega),hB.out⟩
theorem maxKinds{w:World}{g:Nat}{a b:Int}(h0:w.cell? ⟨g,0,none⟩=some (.int .u8 a))(h1:w.cell? ⟨g,1,none⟩=some (.int .u8 b)):
  Calls Tryz.prog 59 #[.slice (some ⟨g,0,none⟩) 2 2] w fun e w'=>e = .returned (.int .u8 (max a b))∧w'=w:=by
 go_enter Tryz.func59,Tryz.ntmps59
 go_wp2_with fail
 go_loopw [4,3] (fun i m wr=>(∃j:Nat,i = .int .i64 j∧((j=1∧m = .int .u8 a)∨(j=2∧m = .int .u8 (max a b))))∧w=wr) (fun i _ _=>2-(intOf i).toNat)
 case atStart=>exact⟨⟨1,rfl,.inl ⟨rfl,rfl⟩⟩,rfl⟩
 case round =>
  obtain⟨⟨j,rfl,⟨rfl,rfl⟩|⟨rfl,rfl⟩⟩,rfl⟩:=hrel
  ·go_wp2_with fail
   exact⟨⟨⟨2,rfl,.inr ⟨rfl,rfl⟩⟩,trivial⟩,by simp[intOf]⟩
  ·go_wp2_with fail
   go_ret;exact⟨rfl,rfl⟩
theorem minKinds{w:World}{g:Nat}{a b:Int}(h0:w.cell? ⟨g,0,none⟩=some (.int .u8 a))(h1:w.cell? ⟨g,1,none⟩=some (.int .u8 b)):
  Calls Tryz.prog 60 #[.slice (some ⟨g,0,none⟩) 2 2] w fun e w'=>e = .returned (.int .u8 (min a b))∧w'=w:=by
 go_enter Tryz.func60,Tryz.ntmps60
 go_wp2_with fail
 go_loopw [4,3] (fun i m wr=>(∃j:Nat,i = .int .i64 j∧((j=1∧m = .int .u8 a)∨(j=2∧m = .int .u8 (min a b))))∧w=wr) (fun i _ _=>2-(intOf i).toNat)
 case atStart=>exact⟨⟨1,rfl,.inl ⟨rfl,rfl⟩⟩,rfl⟩
 case round =>
  obtain⟨⟨j,rfl,⟨rfl,rfl⟩|⟨rfl,rfl⟩⟩,rfl⟩:=hrel
  ·go_wp2_with fail
   exact⟨⟨⟨2,rfl,.inr ⟨rfl,rfl⟩⟩,trivial⟩,by simp[intOf]⟩
  ·go_wp2_with fail
   go_ret;exact⟨rfl,rfl⟩
end
section
open Go.RowKit
theorem smInv{p:Pt}(h:SmEd p.edit):SmEd p.inv.edit:=by
 have hi:SmEd p.edit.inv:=by
  unfold Ed.inv;split
  ·exact h
  ·split
   ·exact⟨h.2,h.1⟩
   ·split
    ·exact⟨h.2,h.1⟩
    ·exact⟨h.2,h.1⟩
 unfold Pt.inv;split
 ·exact h
 ·split
  ·exact h
  ·split
   ·exact h
   ·exact hi
theorem PtS.trans2{w w':World}{x0 x1 x2:Ph}{p0 p1 p2:Pt}{L1 L2:List Nat}(h:PtS w x1 p1 L1 x0 p0)(h2:PtS w' x2 p2 L2 x1 p1)(hB:Below w.heap.size w w'):∃L,PtS w' x2 p2 L x0 p0∧∀c,L.count c≤L1.count c+L2.count c:=by
 obtain⟨_,_,⟨a1,a2,r1,r2,rfl⟩,⟨a3,a4,a5,r3,r4,r5,rfl⟩,rfl⟩:=h;obtain⟨_,_,⟨b1,b2,q1,q2,rfl⟩,⟨b3,b4,b5,q3,q4,q5,rfl⟩,rfl⟩:=h2;obtain⟨c1,s1,e1⟩:=r1.trans q1 hB;obtain⟨c2,s2,e2⟩:=r2.trans q2 hB;obtain⟨c3,s3,e3⟩:=r3.trans q3 hB;obtain⟨c4,s4,e4⟩:=r4.trans q4 hB;obtain⟨c5,s5,e5⟩:=r5.trans q5 hB;have one :∀{l m n:List Nat} (c:Nat),(l=n∨l=m)→l.count c≤m.count c+n.count c:=fun c h=>by rcases h with rfl|rfl<;>omega
 refine⟨_,⟨_,_,⟨c1,c2,s1,s2,rfl⟩,⟨c3,c4,c5,s3,s4,s5,rfl⟩,rfl⟩,fun c=>?_⟩;have h1:=one c e1;have h2:=one c e2;have h3:=one c e3;have h4:=one c e4;have h5:=one c e5;simp only[List.count_append];omega
theorem mem_of_le{L M:List Nat}(h :∀c,L.count c≤M.count c){c:Nat}(hc:c∈L):c∈M:=List.count_pos_iff.1 (Nat.lt_of_lt_of_le (List.count_pos_iff.2 hc) (h c))
structure OwnP(w0 W:World)(y1:Ph)(p1:Pt)(L:List Nat)(x0:Ph)(p0:Pt)(l:List (Nat×List Value)):Prop where
 e:PtS W y1 p1 L x0 p0
 n:New w0 W L
 s:w0.heap.size≤W.heap.size
 o :∀c∈L,∀u∈l,c≠u.1
section
variable {w w0 W W' : World} {x y x0 x1 xa xb y1 yr : Ph} {p q a b p0 p1 r : Pt} {l : List (Nat × List Value)} {L Lr : List Nat}
theorem OwnP.up(h:OwnP w0 W y1 p1 L x0 p0 l)(hd:Below W.heap.size W W'):OwnP w0 W' y1 p1 L x0 p0 l:=⟨h.e.below hd,h.n.up hd.size,Nat.le_trans h.s hd.size,h.o⟩
theorem OwnP.push(h:OwnP w0 W y1 p1 L x0 p0 l){k:Nat}{us:List Value}(hb:k=W.heap.size)(hd:Below W.heap.size W W'):OwnP w0 W' y1 p1 L x0 p0 (l++[(k,us)]):=
 ⟨h.e.below hd,h.n.up hd.size,Nat.le_trans h.s hd.size,fun c hc u hu=>by
  rcases List.mem_append.1 hu with hu|hu
  ·exact h.o c hc u hu
  ·rw[List.mem_singleton]at hu;subst hu;have:=h.e.lt c hc;simp only;omega⟩
theorem OwnP.mk1(hs:w0.heap.size≤W.heap.size)(hl :∀u∈l,Bx W u.1 u.2)(he:PtS W' y1 p1 L x0 p0)(hn:New W W' L)(hd:Below W.heap.size W W'):OwnP w0 W' y1 p1 L x0 p0 l :=
 ⟨he,hn.from hs,Nat.le_trans hs hd.size,fun c hc u hu=>by have:=hn.ge c hc;have:=(hl u hu).lt;omega⟩
theorem OwnP.two(h:OwnP w W x1 p1 L x p l)(h2:TwoPt W W' xa xb a b y q x1 p1)(hl :∀u∈l,Bx W u.1 u.2)(hd:Below W.heap.size W W'):TwoPb w W' xa xb a b y q x p l:=by
 obtain⟨La,Lb,s1,s2,n⟩:=h2;obtain⟨M,g1,g2⟩:=h.e.trans2 s2 hd;refine⟨La,M,s1,g1,(h.n.app n h.s hd.size).le fun c=>?_,fun c hc u hu=>?_⟩
 ·have:=g2 c;simp only[List.count_append];omega
 ·have hn:c∈La++Lb→c≠u.1:=fun hc=>by have:=n.ge c hc;have:=(hl u hu).lt;omega
  rcases List.mem_append.1 hc with hc|hc
  ·exact hn (by simp[hc])
  ·have:c∈L++Lb:=mem_of_le (M:=L++Lb) (fun c=>by simpa[List.count_append]using g2 c) hc;rcases List.mem_append.1 this with h4|h4
   ·exact h.o c h4 u hu
   ·exact hn (by simp[h4])
theorem TwoPb.turn(h:TwoPb w W xa xb a b y q x p l)(he:PtS W' yr r Lr xb b)(hn:New W W' Lr)(hd:Below W.heap.size W W')(hl :∀u∈l,Bx W u.1 u.2)(hs:w.heap.size≤W.heap.size):TwoPb w W' yr xa r a x p y q l:=by
 obtain⟨La,Lb,s1,s2,n,o⟩:=h.t;obtain⟨M,g1,g2⟩:=s2.trans2 he hd;refine⟨M,La,g1,s1.below hd,(n.app hn hs hd.size).le fun c=>?_,fun c hc u hu=>?_⟩
 ·have:=g2 c;simp only[List.count_append];omega
 ·rcases List.mem_append.1 hc with hc|hc
  ·have:c∈Lb++Lr:=mem_of_le (M:=Lb++Lr) (fun c=>by simpa[List.count_append]using g2 c) hc;rcases List.mem_append.1 this with h4|h4
   ·exact o c (by simp[h4]) u hu
   ·have:=hn.ge c h4;have:=(hl u hu).lt;omega
  ·exact o c (by simp[hc]) u hu
theorem TwoPb.perm(h:TwoPb w W xa xb a b y q x p l){l':List (Nat×List Value)}(hp:l.Perm l'):TwoPb w W xa xb a b y q x p l':=by
 obtain⟨La,Lb,h1,h2,h3,h4⟩:=h.t;exact⟨La,Lb,h1,h2,h3,fun c hc u hu=>h4 c hc u (hp.mem_iff.2 hu)⟩
theorem TwoPb.px1(h:TwoPb w W xa xb a b y q x p l)(hb:PtB a)(hr:PhR y):PtX W xa a:=by
 obtain⟨La,Lb,h1,h2,h3,_⟩:=h.t;exact h1.x hb hr
theorem TwoPb.px2(h:TwoPb w W xa xb a b y q x p l)(hb:PtB b)(hr:PhR x):PtX W xb b:=by
 obtain⟨La,Lb,h1,h2,h3,_⟩:=h.t;exact h2.x hb hr
end
end
section
open Go.RowKit Go.ChangeShapes Go.WideShapes
theorem tsz(t:ByteArray):t.data.toList.length=t.size:=rfl
theorem list3{α:Type}{l:List α}(h:l.length=3):∃a0 a1 a2,l=[a0,a1,a2]:=by
 match l,h with
 | [a0,a1,a2],_=>exact⟨a0,a1,a2,rfl⟩
theorem list4{α:Type}{l:List α}(h:l.length=4):∃a0 a1 a2 a3,l=[a0,a1,a2,a3]:=by
 match l,h with
 | [a0,a1,a2,a3],_=>exact⟨a0,a1,a2,a3,rfl⟩
theorem list5{α:Type}{l:List α}(h:l.length=5):∃a0 a1 a2 a3 a4,l=[a0,a1,a2,a3,a4]:=by
 match l,h with
 | [a0,a1,a2,a3,a4],_=>exact⟨a0,a1,a2,a3,a4,rfl⟩
theorem list8{α:Type}{l:List α}(h:l.length=8):∃a0 a1 a2 a3 a4 a5 a6 a7,l=[a0,a1,a2,a3,a4,a5,a6,a7]:=by
 match l,h with
 | [a0,a1,a2,a3,a4,a5,a6,a7],_=>exact⟨a0,a1,a2,a3,a4,a5,a6,a7,rfl⟩
theorem list14{α:Type}{l:List α}(h:l.length=14):∃a0 a1 a2 a3 a4 a5 a6 a7 a8 a9 a10 a11 a12 a13,l=[a0,a1,a2,a3,a4,a5,a6,a7,a8,a9,a10,a11,a12,a13]:=by
 match l,h with
 | [a0,a1,a2,a3,a4,a5,a6,a7,a8,a9,a10,a11,a12,a13],_=>exact⟨a0,a1,a2,a3,a4,a5,a6,a7,a8,a9,a10,a11,a12,a13,rfl⟩
theorem c_node:Tryz.prog.cellsOf 152=4:=by kernel_rfl
theorem c_nk:Tryz.prog.cellsOf 150=1:=by kernel_rfl
theorem c_str:Tryz.prog.cellsOf 9=1:=by kernel_rfl
theorem c_i64:Tryz.prog.cellsOf 2=1:=by kernel_rfl
theorem c_int:Tryz.prog.cellsOf 3=1:=by kernel_rfl
theorem c_nodes:Tryz.prog.cellsOf 28=1:=by kernel_rfl
theorem c_strs:Tryz.prog.cellsOf 23=1:=by kernel_rfl
theorem c_ints:Tryz.prog.cellsOf 27=1:=by kernel_rfl
theorem c_ek:Tryz.prog.cellsOf 26=1:=by kernel_rfl
theorem c_pk:Tryz.prog.cellsOf 22=1:=by kernel_rfl
theorem c_hunk:Tryz.prog.cellsOf 25=3:=by kernel_rfl
theorem c_edit:Tryz.prog.cellsOf 30=8:=by kernel_rfl
theorem c_patch:Tryz.prog.cellsOf 32=14:=by kernel_rfl
theorem c_u8:Tryz.prog.cellsOf 5=1:=by kernel_rfl
theorem u_nk:Tryz.prog.underlying 150=some (.int .u8):=by kernel_rfl
theorem u_ek:Tryz.prog.underlying 26=some (.int .u8):=by kernel_rfl
theorem u_pk:Tryz.prog.underlying 22=some (.int .u8):=by kernel_rfl
theorem u_str:Tryz.prog.underlying 9=some .string:=by kernel_rfl
theorem u_i64:Tryz.prog.underlying 2=some (.int .i64):=by kernel_rfl
theorem u_int:Tryz.prog.underlying 3=some (.int .i64):=by kernel_rfl
theorem u_u8:Tryz.prog.underlying 5=some (.int .u8):=by kernel_rfl
theorem u_nodes:Tryz.prog.underlying 28=some (.slice 152):=by kernel_rfl
theorem u_strs:Tryz.prog.underlying 23=some (.slice 9):=by kernel_rfl
theorem u_ints:Tryz.prog.underlying 27=some (.slice 3):=by kernel_rfl
theorem u_bytes:Tryz.prog.underlying 165=some (.slice 5):=by kernel_rfl
section
variable {H : Type} {enc : TypeId × Value → H} {w : World} {spare : Nat → Bool} {held : Bool}
def FoGoal(w:World)(cs:List Value)(x:DataW H×List MemPlace):Prop :=
 ∃A f c,cs=[.slice A f.len c]∧FoIn (fun _=>True) w A f∧f.len≤c∧c≤9223372036854775807∧(nodesB f).length≤40*Rows.uptoBulk x.1
theorem nodes_len(f:Fo):(nodesB f).length=8+(foB f).length:=by
 have h8 :∀n:Int,(num8 n).length=8:=fun n=>rfl;simp only[nodesB,List.length_append,h8]
theorem foB_size(k:Nat)(t:ByteArray)(n:Int)(ks r:Fo):(foB (.cons k t n ks r)).length=25+t.size+(foB ks).length+(foB r).length:=by
 have h8 :∀n:Int,(num8 n).length=8:=fun n=>rfl;have hs:t.data.toList.length=t.size:=rfl;simp only[foB,txtB,List.length_cons,List.length_append,h8,hs];omega
theorem node_in{m:Nat}(ih :∀m',m'<m→∀{cs:List Value} {x:DataW H×List MemPlace},DataW.trod enc Tryz.prog w 0 spare held m' 28 cs=some x→FoGoal w cs x)
  {cs:List Value} {x:DataW H×List MemPlace} (h:DataW.trod enc Tryz.prog w 0 spare held m 152 cs=some x):
  ∃k t n KA f c,cs=[.int .u8 (k:Nat),.string t,.int .i64 n,.slice KA f.len c]∧k<256∧t.size≤9223372036854775807∧isInt64 n∧f.len≤c∧c≤9223372036854775807∧
   FoIn (fun _=>True) w KA f∧25+t.size+(foB f).length≤40*Rows.uptoBulk x.1:=by
 obtain⟨xs,n,rfl,rfl,hl,hlen,hf⟩:=DataW.trod_struct Tryz.underlying152 h;rw[c_node]at hl;obtain⟨c0,c1,c2,c3,rfl⟩:=list4 hl;obtain⟨y0,y1,y2,y3,rfl⟩:=list4 hlen;have f0:DataW.trod enc Tryz.prog w 0 spare held n 150 (List.take (Tryz.prog.cellsOf 150) (List.drop 0 [c0,c1,c2,c3]))=some y0:=hf 0 _ rfl;rw[c_nk]at f0;have f0:DataW.trod enc Tryz.prog w 0 spare held n 150 [c0]=some y0:=f0;have f1:DataW.trod enc Tryz.prog w 0 spare held n 9 (List.take (Tryz.prog.cellsOf 9) (List.drop 1 [c0,c1,c2,c3]))=some y1:=hf 1 _ rfl;rw[c_str]at f1;have f1:DataW.trod enc Tryz.prog w 0 spare held n 9 [c1]=some y1:=f1;have f2:DataW.trod enc Tryz.prog w 0 spare held n 2 (List.take (Tryz.prog.cellsOf 2) (List.drop 2 [c0,c1,c2,c3]))=some y2:=hf 2 _ rfl;rw[c_i64]at f2;have f2:DataW.trod enc Tryz.prog w 0 spare held n 2 [c2]=some y2:=f2;have f3:DataW.trod enc Tryz.prog w 0 spare held n 28 (List.take (Tryz.prog.cellsOf 28) (List.drop 3 [c0,c1,c2,c3]))=some y3:=hf 3 _ rfl;rw[c_nodes]at f3;have f3:DataW.trod enc Tryz.prog w 0 spare held n 28 [c3]=some y3:=f3;obtain⟨k,e0,hx0,w0⟩:=DataW.trod_int u_nk f0;obtain⟨t,e1,hx1,w1⟩:=DataW.trod_string u_str f1;obtain⟨i,e2,hx2,w2⟩:=DataW.trod_int u_i64 f2;obtain⟨KA,f,c,e3,hin,hc,hc2,hB⟩:=ih n (Nat.lt_succ_self n) f3;obtain⟨k',rfl,hk⟩:=wf_u8 w0;injection e0 with e0;injection e1 with e1;injection e2 with e2;injection e3 with e3;subst e0 e1 e2 e3 hx0 hx1 hx2;refine⟨k',t,i,KA,f,c,rfl,hk,sz63 w1,wf_i64 w2,hc,hc2,hin,?_⟩;rw[nodes_len]at hB;have h1:=bulk_one (H:=H) (.lit (.int .u8 (k':Int)));have h2:=bulk_one (H:=H) (.lit (.int .i64 i));simp only[List.map_cons,List.map_nil,Rows.uptoBulk,Rows.uptoBulkAll,tsz]at h1 h2⊢;omega
theorem fo_in :∀(m:Nat) {cs:List Value} {x:DataW H×List MemPlace},DataW.trod enc Tryz.prog w 0 spare held m 28 cs=some x→FoGoal w cs x:=by
 intro m
 induction m using Nat.strongRecOn with
 | ind m ih =>
  intro cs x h;have h8 :∀n:Int,(num8 n).length=8:=fun n=>rfl;rcases DataW.trod_slice u_nodes h with⟨rfl,rfl⟩|⟨a,len,cap,elems,rest,n,rfl,rfl,rfl,hb,hl,hm,hlen,hel,_,_⟩
  ·exact⟨none,.nil,0,rfl,trivial,Nat.le_refl _,by omega,by simp[nodesB,foB,h8,Rows.uptoBulk]⟩
  ·simp only[c_node]at hel;have key :∀i,i<len→∃cs' y,elems[i]?=some y∧w.cells? 0 (a.add (i*4)) 4=some cs'∧DataW.trod enc Tryz.prog w 0 spare held n 152 cs'=some y:=by
    intro i hi;have h1:=hel i hi;rw[List.getElem?_eq_getElem (by omega)]at h1;obtain⟨cs',h2,h3⟩:=Option.bind_eq_some_iff.1 h1;exact⟨cs',_,List.getElem?_eq_getElem (by omega),h2,h3⟩
   have hcap:=sz63 hm;by_cases h0:len=0
   ·subst h0;have:elems=[]:=List.eq_nil_of_length_eq_zero hlen;subst this;exact⟨some a,.nil,cap,rfl,trivial,Nat.zero_le _,hcap,by have:=bulk_one (H:=H) (.slice (List.map (·.1) ([]:List (DataW H×List MemPlace))) (rest.map (·.1)));simp only[nodesB,foB,List.length_append,h8,List.length_nil]at this⊢;omega⟩
   ·obtain⟨b,o,rfl⟩:∃b o,a=⟨b,o,none⟩:=by
     obtain⟨cs',y,_,h2,h3⟩:=key 0 (by omega);obtain⟨k,t,nn,KA,f,c,rfl,_⟩:=node_in (fun m' hm'=>ih m' (by omega)) h3;obtain⟨_,_,hc⟩:=World.cells?_some h2;have hc0:=hc 0 (by omega);obtain⟨b,o,sp⟩:=a;cases sp with
     | none=>exact⟨b,o,rfl⟩
     | some q=>exfalso;simp[Addr.add]at hc0;unfold World.cell? at hc0;split at hc0<;>simp at hc0
    have main :∀j,j≤len→∃f:Fo,f.len=j∧FoIn (fun _=>True) w (some ⟨b,o+(len-j)*4,none⟩) f∧(foB f).length≤40*Rows.uptoBulkAll ((elems.drop (len-j)).map (·.1)):=by
     intro j
     induction j with
     | zero=>intro _;exact⟨.nil,rfl,trivial,by simp[foB]⟩
     | succ j ihj =>
      intro hj;obtain⟨r,hr1,hr2,hr3⟩:=ihj (by omega);obtain⟨cs',y,hy,h2,h3⟩:=key (len-(j+1)) (by omega);obtain⟨k,t,nn,KA,f,c,rfl,hk,ht,hn,hc,hc2,hin,hB⟩:=node_in (fun m' hm'=>ih m' (by omega)) h3;obtain⟨_,_,hcell⟩:=World.cells?_some h2;have g0:=hcell 0 (by omega);have g1:=hcell 1 (by omega);have g2:=hcell 2 (by omega);have g3:=hcell 3 (by omega);rw[Addr.add_lit,Addr.add_lit]at g0 g1 g2 g3;have e4:o+(len-(j+1))*4+4=o+(len-j)*4:=by omega
      refine⟨.cons k t nn f r,by simp[Fo.len,hr1],⟨b,o+(len-(j+1))*4,KA,c,rfl,trivial,by simpa using g0,by simpa using g1,by simpa using g2,by simpa using g3,hk,ht,hn,hc,hc2,hin,by rw[e4];exact hr2⟩,?_⟩;have e5:elems.drop (len-(j+1))=y::elems.drop (len-j):=by
       obtain⟨hlt,rfl⟩:=List.getElem?_eq_some_iff.1 hy;rw[List.drop_eq_getElem_cons hlt,show len-(j+1)+1=len-j by omega]
      rw[e5,foB_size];simp only[List.map_cons,Rows.uptoBulkAll];omega
    obtain⟨f,h1,h2,h3⟩:=main len (Nat.le_refl _);simp only[Nat.sub_self,Nat.zero_mul,Nat.add_zero,List.drop_zero]at h2 h3;refine⟨some ⟨b,o,none⟩,f,cap,by rw[h1],h2,by omega,hcap,?_⟩;have:=bulk_slice (H:=H) (elems.map (·.1)) (rest.map (·.1));rw[nodes_len];simp only at this⊢;omega
end
end
section
open Go.RowKit Go.ChangeShapes Go.WideShapes
section
variable {H : Type} {enc : TypeId × Value → H} {w : World} {spare : Nat → Bool} {held : Bool}
theorem n8 :∀n:Int,(num8 n).length=8:=fun n=>rfl
theorem txt_len(t:ByteArray):(txtB t).length=8+t.size:=by
 have hs:t.data.toList.length=t.size:=rfl;simp only[txtB,List.length_append,n8,hs]
theorem hk_in{m:Nat}{cs:List Value}{x:DataW H×List MemPlace}(h:DataW.trod enc Tryz.prog w 0 spare held m 25 cs=some x):
  ∃(xx:Hh) (p:Hk),cs=[.int .i64 p.at_,.slice xx.oA p.old.length xx.oc,.slice xx.nA p.new.length xx.nc]∧HkIn (fun _=>True) w xx p∧8+(txtsB p.old).length+(txtsB p.new).length≤40*Rows.uptoBulk x.1:=by
 obtain⟨xs,n,rfl,rfl,hl,hlen,hf⟩:=DataW.trod_struct Tryz.underlying25 h;rw[c_hunk]at hl;obtain⟨c0,c1,c2,rfl⟩:=list3 hl;obtain⟨y0,y1,y2,rfl⟩:=list3 hlen;have f0:DataW.trod enc Tryz.prog w 0 spare held n 3 (List.take (Tryz.prog.cellsOf 3) (List.drop 0 [c0,c1,c2]))=some y0:=hf 0 _ rfl;rw[c_int]at f0;have f0:DataW.trod enc Tryz.prog w 0 spare held n 3 [c0]=some y0:=f0;have f1:DataW.trod enc Tryz.prog w 0 spare held n 23 (List.take (Tryz.prog.cellsOf 23) (List.drop 1 [c0,c1,c2]))=some y1:=hf 1 _ rfl;rw[c_strs]at f1;have f1:DataW.trod enc Tryz.prog w 0 spare held n 23 [c1]=some y1:=f1;have f2:DataW.trod enc Tryz.prog w 0 spare held n 23 (List.take (Tryz.prog.cellsOf 23) (List.drop 2 [c0,c1,c2]))=some y2:=hf 2 _ rfl;rw[c_strs]at f2;have f2:DataW.trod enc Tryz.prog w 0 spare held n 23 [c2]=some y2:=f2;obtain⟨k,e0,hx0,w0⟩:=DataW.trod_int u_int f0;obtain⟨A1,l1,k1,e1,g1,g2,g3,g4⟩:=strs_in u_strs u_str c_str f1;obtain⟨A2,l2,k2,e2,i1,i2,i3,i4⟩:=strs_in u_strs u_str c_str f2;injection e0 with e0;injection e1 with e1;injection e2 with e2;subst e0 e1 e2 hx0;refine⟨⟨A1,k1,A2,k2⟩,⟨k,l1,l2⟩,rfl,⟨wf_i64 w0,g1,i1,⟨g2,g3⟩,⟨i2,i3⟩⟩,?_⟩;simp only[List.map_cons,List.map_nil,Rows.uptoBulk,Rows.uptoBulkAll]at g4 i4⊢;omega
theorem ed_in{m:Nat}{cs:List Value}{x:DataW H×List MemPlace}(h:DataW.trod enc Tryz.prog w 0 spare held m 30 cs=some x):
  ∃(xx:Eh) (p:Ed),cs=[.int .u8 p.kind,.slice xx.pA p.path.length xx.pc,.int .i64 p.at_,.int .i64 p.far,.string p.frm,.string p.to,.slice xx.oA p.old.len xx.oc,.slice xx.nA p.new.len xx.nc]∧EdIn (fun _=>True) w xx p∧
   (edB p).length≤40*Rows.uptoBulk x.1∧p.frm.size+p.to.size≤Rows.uptoBulk x.1:=by
 obtain⟨xs,n,rfl,rfl,hl,hlen,hf⟩:=DataW.trod_struct Tryz.underlying30 h;rw[c_edit]at hl;obtain⟨c0,c1,c2,c3,c4,c5,c6,c7,rfl⟩:=list8 hl;obtain⟨y0,y1,y2,y3,y4,y5,y6,y7,rfl⟩:=list8 hlen;have f0:DataW.trod enc Tryz.prog w 0 spare held n 26 (List.take (Tryz.prog.cellsOf 26) (List.drop 0 [c0,c1,c2,c3,c4,c5,c6,c7]))=some y0:=hf 0 _ rfl;rw[c_ek]at f0;have f0:DataW.trod enc Tryz.prog w 0 spare held n 26 [c0]=some y0:=f0;have f1:DataW.trod enc Tryz.prog w 0 spare held n 27 (List.take (Tryz.prog.cellsOf 27) (List.drop 1 [c0,c1,c2,c3,c4,c5,c6,c7]))=some y1:=hf 1 _ rfl;rw[c_ints]at f1;have f1:DataW.trod enc Tryz.prog w 0 spare held n 27 [c1]=some y1:=f1;have f2:DataW.trod enc Tryz.prog w 0 spare held n 3 (List.take (Tryz.prog.cellsOf 3) (List.drop 2 [c0,c1,c2,c3,c4,c5,c6,c7]))=some y2:=hf 2 _ rfl;rw[c_int]at f2;have f2:DataW.trod enc Tryz.prog w 0 spare held n 3 [c2]=some y2:=f2;have f3:DataW.trod enc Tryz.prog w 0 spare held n 3 (List.take (Tryz.prog.cellsOf 3) (List.drop 3 [c0,c1,c2,c3,c4,c5,c6,c7]))=some y3:=hf 3 _ rfl;rw[c_int]at f3;have f3:DataW.trod enc Tryz.prog w 0 spare held n 3 [c3]=some y3:=f3;have f4:DataW.trod enc Tryz.prog w 0 spare held n 9 (List.take (Tryz.prog.cellsOf 9) (List.drop 4 [c0,c1,c2,c3,c4,c5,c6,c7]))=some y4:=hf 4 _ rfl;rw[c_str]at f4;have f4:DataW.trod enc Tryz.prog w 0 spare held n 9 [c4]=some y4:=f4;have f5:DataW.trod enc Tryz.prog w 0 spare held n 9 (List.take (Tryz.prog.cellsOf 9) (List.drop 5 [c0,c1,c2,c3,c4,c5,c6,c7]))=some y5:=hf 5 _ rfl;rw[c_str]at f5;have f5:DataW.trod enc Tryz.prog w 0 spare held n 9 [c5]=some y5:=f5;have f6:DataW.trod enc Tryz.prog w 0 spare held n 28 (List.take (Tryz.prog.cellsOf 28) (List.drop 6 [c0,c1,c2,c3,c4,c5,c6,c7]))=some y6:=hf 6 _ rfl;rw[c_nodes]at f6;have f6:DataW.trod enc Tryz.prog w 0 spare held n 28 [c6]=some y6:=f6;have f7:DataW.trod enc Tryz.prog w 0 spare held n 28 (List.take (Tryz.prog.cellsOf 28) (List.drop 7 [c0,c1,c2,c3,c4,c5,c6,c7]))=some y7:=hf 7 _ rfl;rw[c_nodes]at f7;have f7:DataW.trod enc Tryz.prog w 0 spare held n 28 [c7]=some y7:=f7;obtain⟨k,e0,hx0,w0⟩:=DataW.trod_int u_ek f0;obtain⟨A1,l1,k1,e1,g1,g2,g3,g4⟩:=ints_in u_ints u_int c_int f1;obtain⟨at1,e2,hx2,w2⟩:=DataW.trod_int u_int f2;obtain⟨far,e3,hx3,w3⟩:=DataW.trod_int u_int f3;obtain⟨frm,e4,hx4,w4⟩:=DataW.trod_string u_str f4;obtain⟨tto,e5,hx5,w5⟩:=DataW.trod_string u_str f5;obtain⟨A6,o6,k6,e6,i1,i2,i3,i4⟩:=fo_in _ f6;obtain⟨A7,o7,k7,e7,j1,j2,j3,j4⟩:=fo_in _ f7;obtain⟨k',rfl,hk⟩:=wf_u8 w0;injection e0 with e0;injection e1 with e1;injection e2 with e2;injection e3 with e3;injection e4 with e4;injection e5 with e5;injection e6 with e6;injection e7 with e7;subst e0 e1 e2 e3 e4 e5 e6 e7 hx0 hx2 hx3 hx4 hx5;have h1:=bulk_one (H:=H) (.lit (.int .u8 (k':Int)));have h2:=bulk_one (H:=H) (.lit (.int .i64 at1));have h3:=bulk_one (H:=H) (.lit (.int .i64 far));refine⟨⟨A1,k1,A6,k6,A7,k7⟩,⟨k',l1,at1,far,frm,tto,o6,o7⟩,rfl,⟨hk,g1,wf_i64 w2,wf_i64 w3,sz63 w4,sz63 w5,i1,j1,⟨g2,g3⟩,⟨i2,i3⟩,⟨j2,j3⟩⟩,?_,?_⟩
 ·simp only[edB,List.length_cons,List.length_append,n8,txt_len];simp only[List.map_cons,List.map_nil,Rows.uptoBulk,Rows.uptoBulkAll,tsz]at g4 i4 j4 h1 h2 h3⊢;omega
 ·simp only[List.map_cons,List.map_nil,Rows.uptoBulk,Rows.uptoBulkAll,tsz];omega
theorem pt_in{m:Nat}{cs:List Value}{x:DataW H×List MemPlace}(h:DataW.trod enc Tryz.prog w 0 spare held m 32 cs=some x):
  ∃(x':Ph) (p:Pt),cs=[.int .u8 p.kind,.string p.file,.string p.text,.int .i64 p.hunk.at_,.slice x'.h.oA p.hunk.old.length x'.h.oc,.slice x'.h.nA p.hunk.new.length x'.h.nc,.int .u8 p.edit.kind,.slice x'.e.pA p.edit.path.length x'.e.pc,.int .i64 p.edit.at_,.int .i64 p.edit.far,.string p.edit.frm,.string p.edit.to,.slice x'.e.oA p.edit.old.len x'.e.oc,.slice x'.e.nA p.edit.new.len x'.e.nc]∧
   PtIn (fun _=>True) w x' p∧(ptB p).length≤40*Rows.uptoBulk x.1∧p.edit.frm.size+p.edit.to.size≤Rows.uptoBulk x.1:=by
 obtain⟨xs,n,rfl,rfl,hl,hlen,hf⟩:=DataW.trod_struct Tryz.underlying32 h;rw[c_patch]at hl;obtain⟨c0,c1,c2,c3,c4,c5,c6,c7,c8,c9,c10,c11,c12,c13,rfl⟩:=list14 hl;obtain⟨y0,y1,y2,y3,y4,rfl⟩:=list5 hlen;have f0:DataW.trod enc Tryz.prog w 0 spare held n 22 (List.take (Tryz.prog.cellsOf 22) (List.drop 0 [c0,c1,c2,c3,c4,c5,c6,c7,c8,c9,c10,c11,c12,c13]))=some y0:=hf 0 _ rfl;rw[c_pk]at f0;have f0:DataW.trod enc Tryz.prog w 0 spare held n 22 [c0]=some y0:=f0;have f1:DataW.trod enc Tryz.prog w 0 spare held n 9 (List.take (Tryz.prog.cellsOf 9) (List.drop 1 [c0,c1,c2,c3,c4,c5,c6,c7,c8,c9,c10,c11,c12,c13]))=some y1:=hf 1 _ rfl;rw[c_str]at f1;have f1:DataW.trod enc Tryz.prog w 0 spare held n 9 [c1]=some y1:=f1;have f2:DataW.trod enc Tryz.prog w 0 spare held n 9 (List.take (Tryz.prog.cellsOf 9) (List.drop 2 [c0,c1,c2,c3,c4,c5,c6,c7,c8,c9,c10,c11,c12,c13]))=some y2:=hf 2 _ rfl;rw[c_str]at f2;have f2:DataW.trod enc Tryz.prog w 0 spare held n 9 [c2]=some y2:=f2;have f3:DataW.trod enc Tryz.prog w 0 spare held n 25 (List.take (Tryz.prog.cellsOf 25) (List.drop 3 [c0,c1,c2,c3,c4,c5,c6,c7,c8,c9,c10,c11,c12,c13]))=some y3:=hf 3 _ rfl;rw[c_hunk]at f3;have f3:DataW.trod enc Tryz.prog w 0 spare held n 25 [c3,c4,c5]=some y3:=f3;have f4:DataW.trod enc Tryz.prog w 0 spare held n 30 (List.take (Tryz.prog.cellsOf 30) (List.drop 6 [c0,c1,c2,c3,c4,c5,c6,c7,c8,c9,c10,c11,c12,c13]))=some y4:=hf 4 _ rfl;rw[c_edit]at f4;have f4:DataW.trod enc Tryz.prog w 0 spare held n 30 [c6,c7,c8,c9,c10,c11,c12,c13]=some y4:=f4;obtain⟨k,e0,hx0,w0⟩:=DataW.trod_int u_pk f0;obtain⟨file,e1,hx1,w1⟩:=DataW.trod_string u_str f1;obtain⟨text,e2,hx2,w2⟩:=DataW.trod_string u_str f2;obtain⟨xh,hk,e3,g1,g2⟩:=hk_in f3;obtain⟨xe,ed,e4,i1,i2,i3⟩:=ed_in f4;obtain⟨k',rfl,hk8⟩:=wf_u8 w0;injection e0 with e0;injection e1 with e1;injection e2 with e2;have e3:[c3,c4,c5]=_:=e3;have e4:[c6,c7,c8,c9,c10,c11,c12,c13]=_:=e4;simp only[List.cons.injEq,and_true]at e3 e4;obtain⟨rfl,rfl,rfl⟩:=e3;obtain⟨rfl,rfl,rfl,rfl,rfl,rfl,rfl,rfl⟩:=e4;subst e0 e1 e2 hx0 hx1 hx2;have h1:=bulk_one (H:=H) (.lit (.int .u8 (k':Int)));refine⟨⟨xh,xe⟩,⟨k',file,text,hk,ed⟩,rfl,⟨hk8,sz63 w1,sz63 w2,g1,i1⟩,?_,?_⟩
 ·simp only[List.map_cons,List.map_nil,Rows.uptoBulk,Rows.uptoBulkAll,tsz]at g2 i2 h1⊢;unfold ptB;split
  ·simp only[List.length_cons,List.length_append,n8,txt_len];omega
  ·split
   ·simp only[List.length_cons,List.length_append,n8,txt_len];omega
   ·simp only[List.length_cons,List.length_append,n8,txt_len];omega
 ·simp only[List.map_cons,List.map_nil,Rows.uptoBulk,Rows.uptoBulkAll,tsz]at i3⊢;omega
end
end
end Go.Proofs.YtialngdffhmobaaGreatDoor
