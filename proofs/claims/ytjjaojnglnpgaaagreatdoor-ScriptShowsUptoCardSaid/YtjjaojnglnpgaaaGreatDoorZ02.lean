/- Part 3 of what scriptShows_cardUpto rests on. -/
import Derived.Lib.Join
import Derived.Lib.ItoaNum
import Derived.Test.YtjjaojnglnpgaaaGreatDoorProg
import Derived.Lib.Builder
import Derived.Lib.AppendStr
import Derived.OwnWalk
import Derived.Lib.OthersKept
import Derived.Laws.AppendOwn
import Derived.Laws.OwnMore
import Derived.Laws.IdiomStrings
import Derived.Laws.Append
import Derived.BigQuiet
import Derived.Test.YtjjaojnglnpgaaaGreatDoorZ01
import Derived.Test.YtjjaojnglnpgaaaGreatDoorZ00
set_option linter.unusedVariables false
set_option linter.unusedSimpArgs false
set_option maxHeartbeats 16000000
set_option maxRecDepth 1000000
namespace Go.Proofs.YtjjaojnglnpgaaaGreatDoor
section
open Go.RowKit
structure Hh where
 oA:Option Addr
 oc:Nat
 nA:Option Addr
 nc:Nat
structure Eh where
 pA:Option Addr
 pc:Nat
 oA:Option Addr
 oc:Nat
 nA:Option Addr
 nc:Nat
structure Ph where
 h:Hh
 e:Eh
structure gB(S:Nat→Prop)(w:World)(x:Hh)(h:Hk):Prop where
 at_:ai h.at_
 old:bJ S w x.oA h.old
 new:bJ S w x.nA h.new
 oc:h.old.length≤x.oc∧x.oc≤9223372036854775807
 nc:h.new.length≤x.nc∧x.nc≤9223372036854775807
structure dm(S:Nat→Prop)(w:World)(x:Eh)(e:Ed):Prop where
 kind:e.kind<256
 path:IntsIn S w x.pA e.path
 at_:ai e.at_
 far:ai e.far
 frm:e.frm.size≤9223372036854775807
 to:e.to.size≤9223372036854775807
 old:bG S w x.oA e.old
 new:bG S w x.nA e.new
 pc:e.path.length≤x.pc∧x.pc≤9223372036854775807
 oc:e.old.len≤x.oc∧x.oc≤9223372036854775807
 nc:e.new.len≤x.nc∧x.nc≤9223372036854775807
structure bM(S:Nat→Prop)(w:World)(x:Ph)(p:Pt):Prop where
 kind:p.kind<256
 file:p.file.size≤9223372036854775807
 text:p.text.size≤9223372036854775807
 hunk:gB S w x.h p.hunk
 edit:dm S w x.e p.edit
section
variable {S S' : Nat → Prop} {w w' : World} {A : Option Addr}
theorem bJ.keep{l:List ByteArray}(h:bJ S w A l)(hk :∀b,S b→w'.heap[b]?=w.heap[b]?):bJ S w' A l:=⟨h.1.keep hk,h.2⟩
theorem bJ.mono{l:List ByteArray}(h:bJ S w A l)(hm :∀b,b<w.heap.size→S b→S' b):bJ S' w A l:=⟨h.1.mono hm,h.2⟩
theorem bJ.below{l:List ByteArray}(h:bJ S w A l)(hb:Below w.heap.size w w'):bJ S w' A l:=⟨h.1.below hb,h.2⟩
theorem IntsIn.keep{l:List Int}(h:IntsIn S w A l)(hk :∀b,S b→w'.heap[b]?=w.heap[b]?):IntsIn S w' A l:=⟨h.1.keep hk,h.2⟩
theorem IntsIn.mono{l:List Int}(h:IntsIn S w A l)(hm :∀b,b<w.heap.size→S b→S' b):IntsIn S' w A l:=⟨h.1.mono hm,h.2⟩
theorem IntsIn.below{l:List Int}(h:IntsIn S w A l)(hb:Below w.heap.size w w'):IntsIn S w' A l:=⟨h.1.below hb,h.2⟩
theorem BytesIn.keep{l:List UInt8}(h:BytesIn S w A l)(hk :∀b,S b→w'.heap[b]?=w.heap[b]?):BytesIn S w' A l:=⟨h.1.keep hk,h.2⟩
theorem BytesIn.mono{l:List UInt8}(h:BytesIn S w A l)(hm :∀b,b<w.heap.size→S b→S' b):BytesIn S' w A l:=⟨h.1.mono hm,h.2⟩
theorem BytesIn.below{l:List UInt8}(h:BytesIn S w A l)(hb:Below w.heap.size w w'):BytesIn S w' A l:=⟨h.1.below hb,h.2⟩
theorem gB.keep{x:Hh}{h:Hk}(a:gB S w x h)(hk :∀b,S b→w'.heap[b]?=w.heap[b]?):gB S w' x h:=⟨a.at_,a.old.keep hk,a.new.keep hk,a.oc,a.nc⟩
theorem gB.mono{x:Hh}{h:Hk}(a:gB S w x h)(hm :∀b,b<w.heap.size→S b→S' b):gB S' w x h:=⟨a.at_,a.old.mono hm,a.new.mono hm,a.oc,a.nc⟩
theorem gB.below{x:Hh}{h:Hk}(a:gB S w x h)(hb:Below w.heap.size w w'):gB S w' x h:=⟨a.at_,a.old.below hb,a.new.below hb,a.oc,a.nc⟩
theorem dm.keep{x:Eh}{e:Ed}(a:dm S w x e)(hk :∀b,S b→w'.heap[b]?=w.heap[b]?):dm S w' x e:=⟨a.kind,a.path.keep hk,a.at_,a.far,a.frm,a.to,a.old.keep hk,a.new.keep hk,a.pc,a.oc,a.nc⟩
theorem dm.mono{x:Eh}{e:Ed}(a:dm S w x e)(hm :∀b,b<w.heap.size→S b→S' b):dm S' w x e:=⟨a.kind,a.path.mono hm,a.at_,a.far,a.frm,a.to,a.old.mono hm,a.new.mono hm,a.pc,a.oc,a.nc⟩
theorem dm.below{x:Eh}{e:Ed}(a:dm S w x e)(hb:Below w.heap.size w w'):dm S w' x e:=⟨a.kind,a.path.below hb,a.at_,a.far,a.frm,a.to,a.old.below hb,a.new.below hb,a.pc,a.oc,a.nc⟩
theorem bM.keep{x:Ph}{p:Pt}(a:bM S w x p)(hk :∀b,S b→w'.heap[b]?=w.heap[b]?):bM S w' x p:=⟨a.kind,a.file,a.text,a.hunk.keep hk,a.edit.keep hk⟩
theorem bM.mono{x:Ph}{p:Pt}(a:bM S w x p)(hm :∀b,b<w.heap.size→S b→S' b):bM S' w x p:=⟨a.kind,a.file,a.text,a.hunk.mono hm,a.edit.mono hm⟩
theorem bM.below{x:Ph}{p:Pt}(a:bM S w x p)(hb:Below w.heap.size w w'):bM S w' x p:=⟨a.kind,a.file,a.text,a.hunk.below hb,a.edit.below hb⟩
end
theorem Hk.eq_iff{a b:Hk}:a=b↔a.at_=b.at_∧a.old=b.old∧a.new=b.new:=by cases a;cases b;simp
theorem Ed.eq_iff{a b:Ed}:a=b↔a.kind=b.kind∧a.path=b.path∧a.at_=b.at_∧a.far=b.far∧a.frm=b.frm∧a.to=b.to∧a.old=b.old∧a.new=b.new:=by cases a;cases b;simp
theorem Pt.eq_iff{a b:Pt}:a=b↔a.kind=b.kind∧a.file=b.file∧a.text=b.text∧a.hunk=b.hunk∧a.edit=b.edit:=by cases a;cases b;simp
theorem Pt.eq_all{a b:Pt}:a=b↔a.kind=b.kind∧a.file=b.file∧a.text=b.text∧a.hunk.at_=b.hunk.at_∧a.hunk.old=b.hunk.old∧a.hunk.new=b.hunk.new∧
  a.edit.kind=b.edit.kind∧a.edit.path=b.edit.path∧a.edit.at_=b.edit.at_∧a.edit.far=b.edit.far∧a.edit.frm=b.edit.frm∧a.edit.to=b.edit.to∧a.edit.old=b.edit.old∧a.edit.new=b.edit.new:=by
 rw[Pt.eq_iff,Hk.eq_iff,Ed.eq_iff];grind
end
def aX(n:Int):Prop:=-9223372036854775808≤n∧n≤9223372036854775807
abbrev aP:Nat:=9223372036854775807
def Fo.fit:Fo→Prop
 | .nil=>True
 | .cons k t n ks r=>k<256∧t.size≤aP∧aX n∧ks.len≤aP∧ks.fit∧r.fit
def Fo.high:Fo→Nat
 | .nil=>0
 | .cons _ _ _ ks r=>max (ks.high+1) r.high
theorem jm(n:Int):(au n).length=8:=rfl
theorem MQ(n:Nat):(UInt8.ofNat n).toNat=n % 256:=by simp
theorem vS{a b:Nat}(ha:a<18446744073709551616)(hb:b<18446744073709551616)
  (h0:a / 72057594037927936 % 256=b / 72057594037927936 % 256) (h1:a / 281474976710656 % 256=b / 281474976710656 % 256) (h2:a / 1099511627776 % 256=b / 1099511627776 % 256) (h3:a / 4294967296 % 256=b / 4294967296 % 256)
  (h4:a / 16777216 % 256=b / 16777216 % 256) (h5:a / 65536 % 256=b / 65536 % 256) (h6:a / 256 % 256=b / 256 % 256) (h7:a % 256=b % 256):a=b:=by
 omega
theorem vT{a b:Int}(ha:aX a)(hb:aX b)(h:au a=au b):a=b:=by
 have hp:(a % 18446744073709551616).toNat=(b % 18446744073709551616).toNat:=by
  simp only[au,List.cons.injEq,and_true]at h;obtain⟨h0,h1,h2,h3,h4,h5,h6,h7⟩:=h;have k0:=congrArg UInt8.toNat h0;have k1:=congrArg UInt8.toNat h1;have k2:=congrArg UInt8.toNat h2;have k3:=congrArg UInt8.toNat h3;have k4:=congrArg UInt8.toNat h4;have k5:=congrArg UInt8.toNat h5;have k6:=congrArg UInt8.toNat h6;have k7:=congrArg UInt8.toNat h7;simp only[MQ]at k0 k1 k2 k3 k4 k5 k6 k7;exact vS (by omega) (by omega) k0 k1 k2 k3 k4 k5 k6 k7
 unfold aX at ha hb;omega
theorem kX{a b:Int}{x y:List UInt8}(ha:aX a)(hb:aX b)(h:au a++x=au b++y):a=b∧x=y:=by
 obtain⟨h1,h2⟩:=List.append_inj h rfl;exact⟨vT ha hb h1,h2⟩
theorem nI{n:Nat}(h:n≤aP):aX n:=by unfold aX;simp only[aP]at h;omega
theorem MR{s t:ByteArray}(h:s.data.toList=t.data.toList):s=t:=by
 obtain⟨⟨a⟩⟩:=s;obtain⟨⟨b⟩⟩:=t;simp at h;subst h;rfl
theorem pR{s t:ByteArray}{x y:List UInt8}(hs:s.size≤aP)(ht:t.size≤aP)(h:ax s++x=ax t++y):s=t∧x=y:=by
 unfold ax at h;rw[List.append_assoc,List.append_assoc]at h;obtain⟨h1,h2⟩:=kX (nI hs) (nI ht) h;have hl:s.data.toList.length=t.data.toList.length:=by
  have e1:s.data.toList.length=s.size:=by simp
  have e2:t.data.toList.length=t.size:=by simp
  omega
 obtain⟨h3,h4⟩:=List.append_inj h2 hl;exact⟨MR h3,h4⟩
def rowB{α:Type}(enc:α→List UInt8)(l:List α):List UInt8:=au l.length++(l.map enc).flatten
theorem Ue{α:Type}{enc:α→List UInt8}{fit:α→Prop}(hs :∀a b x y,fit a→fit b→enc a++x=enc b++y→a=b∧x=y):
  ∀{l m:List α} {x y:List UInt8},(∀a∈l,fit a)→(∀a∈m,fit a)→l.length=m.length→(l.map enc).flatten++x=(m.map enc).flatten++y→l=m∧x=y:=by
 intro l
 induction l with
 | nil=>intro m x y _ _ hlen h;cases m with
  | nil=>exact⟨rfl,h⟩
  | cons=>simp at hlen
 | cons a l ih=>intro m x y hl hm hlen h;cases m with
  | nil=>simp at hlen
  | cons b m =>
   simp only[List.map_cons,List.flatten_cons,List.append_assoc]at h;obtain⟨e1,h1⟩:=hs a b _ _ (hl a (by simp)) (hm b (by simp)) h;obtain⟨e2,h2⟩:=ih (fun c hc=>hl c (List.mem_cons_of_mem _ hc)) (fun c hc=>hm c (List.mem_cons_of_mem _ hc)) (by simpa using hlen) h1;exact⟨by rw[e1,e2],h2⟩
theorem Uf{α:Type}{enc:α→List UInt8}{fit:α→Prop}(hs :∀a b x y,fit a→fit b→enc a++x=enc b++y→a=b∧x=y)
  {l m:List α} {x y:List UInt8} (hl:(∀a∈l,fit a)∧l.length≤aP) (hm:(∀a∈m,fit a)∧m.length≤aP) (h:rowB enc l++x=rowB enc m++y):l=m∧x=y:=by
 unfold rowB at h;rw[List.append_assoc,List.append_assoc]at h;obtain⟨h1,h2⟩:=kX (nI hl.2) (nI hm.2) h;exact Ue hs hl.1 hm.1 (by omega) h2
def jh(l:List ByteArray):Prop:=(∀s∈l,s.size≤aP)∧l.length≤aP
def gY(l:List Int):Prop:=(∀n∈l,aX n)∧l.length≤aP
theorem Pj{l m:List ByteArray}{x y:List UInt8}(hl:jh l)(hm:jh m)(h:bH l++x=bH m++y):l=m∧x=y :=
 Uf (enc:=ax) (fit:=fun s=>s.size≤aP) (fun _ _ _ _ ha hb h=>pR ha hb h) hl hm h
theorem EN{l m:List Int}{x y:List UInt8}(hl:gY l)(hm:gY m)(h:cO l++x=cO m++y):l=m∧x=y :=
 Uf (enc:=au) (fit:=aX) (fun _ _ _ _ ha hb h=>kX ha hb h) hl hm h
theorem Pm{j k:Nat}(hj:j<256)(hk:k<256)(h:UInt8.ofNat j=UInt8.ofNat k):j=k:=by
 have:=congrArg UInt8.toNat h;simp only[MQ]at this;omega
def eX(k:Nat)(t:ByteArray)(n:Int)(ks:Fo):List UInt8:=UInt8.ofNat k::(ax t++(au n++aO ks))
theorem EO(k:Nat)(t:ByteArray)(n:Int)(ks r:Fo):iy (.cons k t n ks r)=eX k t n ks++iy r:=rfl
theorem Ug :∀{f g:Fo} {x y:List UInt8},f.fit→g.fit→f.len=g.len→iy f++x=iy g++y→f=g∧x=y:=by
 intro f
 induction f with
 | nil=>intro g x y _ _ hlen h;cases g with
  | nil=>exact⟨rfl,h⟩
  | cons=>simp[Fo.len]at hlen
 | cons k t n ks r ihk ihr=>intro g x y hf hg hlen h;cases g with
  | nil=>simp[Fo.len]at hlen
  | cons k' t' n' ks' r' =>
   obtain⟨f1,f2,f3,f4,f5,f6⟩:=hf;obtain⟨g1,g2,g3,g4,g5,g6⟩:=hg;simp only[iy,List.cons_append,List.append_assoc,List.cons.injEq]at h;obtain⟨h0,h⟩:=h;have e0:=Pm f1 g1 h0;obtain⟨e1,h1⟩:=pR f2 g2 h;obtain⟨e2,h2⟩:=kX f3 g3 h1;obtain⟨hl,h3⟩:=kX (nI f4) (nI g4) h2;obtain⟨e3,h4⟩:=ihk f5 g5 (by omega) h3;obtain⟨e4,h5⟩:=ihr f6 g6 (by simpa[Fo.len]using hlen) h4;exact⟨by rw[e0,e1,e2,e3,e4],h5⟩
def iJ(f:Fo):Prop:=f.fit∧f.len≤aP
theorem Pn{f g:Fo}{x y:List UInt8}(hf:iJ f)(hg:iJ g)(h:aO f++x=aO g++y):f=g∧x=y:=by
 unfold aO at h;rw[List.append_assoc,List.append_assoc]at h;obtain⟨h1,h2⟩:=kX (nI hf.2) (nI hg.2) h;exact Ug hf.1 hg.1 (by omega) h2
def AQ(k:Nat)(t:ByteArray)(n:Int)(ks:Fo):Prop:=k<256∧t.size≤aP∧aX n∧iJ ks
structure mi(e:Ed):Prop where
 kind:e.kind<256
 path:gY e.path
 at_:aX e.at_
 far:aX e.far
 frm:e.frm.size≤aP
 to:e.to.size≤aP
 old:iJ e.old
 new:iJ e.new
theorem rV{d e:Ed}{x y:List UInt8}(hd:mi d)(he:mi e)(h:jg d++x=jg e++y):d=e∧x=y:=by
 unfold jg at h;simp only[List.cons_append,List.append_assoc,List.cons.injEq]at h;obtain⟨h0,h⟩:=h;have a0:=Pm hd.kind he.kind h0;obtain⟨a1,h⟩:=EN hd.path he.path h;obtain⟨a2,h⟩:=kX hd.at_ he.at_ h;obtain⟨a3,h⟩:=kX hd.far he.far h;obtain⟨a4,h⟩:=pR hd.frm he.frm h;obtain⟨a5,h⟩:=pR hd.to he.to h;obtain⟨a6,h⟩:=Pn hd.old he.old h;obtain⟨a7,h9⟩:=Pn hd.new he.new h;clear h;cases d;cases e;simp only at a0 a1 a2 a3 a4 a5 a6 a7;exact⟨by rw[a0,a1,a2,a3,a4,a5,a6,a7],h9⟩
structure DD(h:Hk):Prop where
 at_:aX h.at_
 old:jh h.old
 new:jh h.new
structure eY(p:Pt):Prop where
 kind:p.kind<256
 file:p.file.size≤aP
 text:p.text.size≤aP
 hunk:DD p.hunk
 edit:mi p.edit
def Bare(p:Pt):Prop:=if p.kind=3 then p.text=ae∧p.edit=Ed.zero else if p.kind=4 then p.text=ae∧p.hunk=Hk.zero else p.hunk=Hk.zero∧p.edit=Ed.zero
theorem bI.bare{p:Pt}(h:bI p):Bare p:=by
 unfold Bare;obtain⟨_,⟨h1|h1,h2,h3⟩|⟨h1,h2,h3,_⟩|⟨h1,h2,h3,_⟩⟩:=h<;>simp[*]
theorem Po{p q:Pt}{x y:List UInt8}(hp:eY p)(hq:eY q)(bp:Bare p)(bq:Bare q)(h:gJ p++x=gJ q++y):p=q∧x=y:=by
 unfold gJ at h;simp only[List.cons_append,List.append_assoc,List.cons.injEq]at h;obtain⟨h0,h⟩:=h;have a0:=Pm hp.kind hq.kind h0;obtain⟨a1,g⟩:=pR hp.file hq.file h;clear h;unfold Bare at bp bq;obtain⟨pk,pf,pt,ph,pe⟩:=p;obtain⟨qk,qf,qt,qh,qe⟩:=q;obtain⟨_,_,p3,p4,p5⟩:=hp;obtain⟨_,_,q3,q4,q5⟩:=hq;simp only at *
 subst a0;subst a1;by_cases h3:pk=3
 ·simp only[h3,if_true]at g bp bq;rw[List.append_assoc,List.append_assoc,List.append_assoc,List.append_assoc]at g;obtain⟨b1,g1⟩:=kX p4.at_ q4.at_ g;obtain⟨b2,g2⟩:=Pj p4.old q4.old g1;obtain⟨b3,g3⟩:=Pj p4.new q4.new g2;obtain⟨c1,c2⟩:=bp;obtain⟨c3,c4⟩:=bq;have e:ph=qh:=by
   cases ph;cases qh;simp only at b1 b2 b3;rw[b1,b2,b3]
  exact⟨by rw[c1,c2,c3,c4,e],g3⟩
 ·by_cases h4:pk=4
  ·rw[if_neg h3,if_pos h4]at bp bq;rw[if_neg h3,if_pos h4,if_neg h3,if_pos h4]at g;obtain⟨b1,g1⟩:=rV p5 q5 g;obtain⟨c1,c2⟩:=bp;obtain⟨c3,c4⟩:=bq;exact⟨by rw[c1,c2,c3,c4,b1],g1⟩
  ·rw[if_neg h3,if_neg h4]at bp bq;rw[if_neg h3,if_neg h4,if_neg h3,if_neg h4]at g;obtain⟨b1,g1⟩:=pR p3 q3 g;obtain⟨c1,c2⟩:=bp;obtain⟨c3,c4⟩:=bq;exact⟨by rw[c1,c2,c3,c4,b1],g1⟩
theorem Fo.len_app :∀f g:Fo,(f.app g).len=f.len+g.len:=by
 intro f
 induction f with
 | nil=>intro g;simp[Fo.app,Fo.len]
 | cons k t n ks r _ ih=>intro g;simp[Fo.app,Fo.len,ih g];omega
theorem Il :∀f g:Fo,iy (f.app g)=iy f++iy g:=by
 intro f
 induction f with
 | nil=>intro g;rfl
 | cons k t n ks r _ ih=>intro g;simp[Fo.app,iy,ih g]
theorem Fo.app_nil :∀f:Fo,f.app .nil=f:=by
 intro f
 induction f with
 | nil=>rfl
 | cons k t n ks r _ ih=>simp[Fo.app,ih]
theorem Fo.take_drop :∀(i:Nat) (f:Fo),(f.take i).app (f.drop i)=f:=by
 intro i
 induction i with
 | zero=>intro f;cases f<;>rfl
 | succ i ih=>intro f;cases f with
  | nil=>rfl
  | cons k t n ks r=>simp[Fo.take,Fo.drop,Fo.app,ih r]
theorem Fo.len_take :∀(i:Nat) (f:Fo),i≤f.len→(f.take i).len=i:=by
 intro i
 induction i with
 | zero=>intro f _;cases f<;>rfl
 | succ i ih=>intro f h;cases f with
  | nil=>simp[Fo.len]at h
  | cons k t n ks r=>simp[Fo.take,Fo.len,ih r (by simpa[Fo.len]using h)]
theorem Fo.fit_app :∀{f g:Fo},(f.app g).fit↔f.fit∧g.fit:=by
 intro f g
 induction f with
 | nil=>simp[Fo.app,Fo.fit]
 | cons k t n ks r _ ih=>simp[Fo.app,Fo.fit,ih];grind
theorem Fo.high_app :∀{f g:Fo},(f.app g).high=max f.high g.high:=by
 intro f g
 induction f with
 | nil=>simp[Fo.app,Fo.high]
 | cons k t n ks r _ ih=>simp[Fo.app,Fo.high,ih,Nat.max_assoc]
theorem Fo.fit_take{f:Fo}(i:Nat)(h:f.fit):(f.take i).fit∧(f.drop i).fit:=by
 rw[←Fo.take_drop i f]at h;exact Fo.fit_app.mp h
theorem XW{f g:Fo}{x y:List UInt8}(hf:f.fit)(hg:g.fit)(hle:f.len≤g.len)(h:iy f++x=iy g++y):f=g.take f.len∧x=iy (g.drop f.len)++y:=by
 rw[←Fo.take_drop f.len g,Il,List.append_assoc]at h;have:=Fo.fit_take f.len hg;exact Ug hf this.1 (Fo.len_take _ _ hle).symm h
theorem XX{α:Type}{enc:α→List UInt8}{fit:α→Prop}(hs :∀a b x y,fit a→fit b→enc a++x=enc b++y→a=b∧x=y)
  {l m:List α} {x y:List UInt8} (hl :∀a∈l,fit a) (hm :∀a∈m,fit a) (hle:l.length≤m.length) (h:(l.map enc).flatten++x=(m.map enc).flatten++y):
  l=m.take l.length∧x=((m.drop l.length).map enc).flatten++y:=by
 rw[←List.take_append_drop l.length m,List.map_append,List.flatten_append,List.append_assoc]at h;exact Ue hs hl (fun a ha=>hm a (List.mem_of_mem_take ha)) (by simp;omega) h
theorem Pq(s:ByteArray):(ax s).length=8+s.size:=by
 have e1:s.data.toList.length=s.size:=by simp
 unfold ax;rw[aJ,jm,e1]
theorem rW{α:Type}{enc:α→List UInt8}(h8 :∀a,8≤(enc a).length)(l:List α):8*l.length≤(l.map enc).flatten.length:=by
 induction l with
 | nil=>simp
 | cons a l ih=>simp only[List.map_cons,List.flatten_cons,aJ,List.length_cons];have:=h8 a;omega
def hexD(n:Nat):UInt8:=if n<10 then UInt8.ofNat (48+n)else UInt8.ofNat (87+n)
def signs:ByteArray:=⟨#[48,49,50,51,52,53,54,55,56,57,97,98,99,100,101,102]⟩
theorem vU(n:Nat)(h:n<16):signs.data[n]?=some (hexD n):=by
 have:n=0∨n=1∨n=2∨n=3∨n=4∨n=5∨n=6∨n=7∨n=8∨n=9∨n=10∨n=11∨n=12∨n=13∨n=14∨n=15:=by omega
 rcases this with rfl|rfl|rfl|rfl|rfl|rfl|rfl|rfl|rfl|rfl|rfl|rfl|rfl|rfl|rfl|rfl<;>rfl
def hexT(b:List UInt8):List UInt8:=b.flatMap fun c=>[hexD (c.toNat / 16),hexD (c.toNat % 16)]
def hexL(b:List UInt8):List UInt8:=if b=[]then[45]else hexT b
theorem zZ(b:List UInt8):(hexT b).length=2*b.length:=by
 induction b with
 | nil=>rfl
 | cons c b ih=>simp only[hexT,List.flatMap_cons,aJ,List.length_cons,List.length_nil]at ih⊢;omega
theorem Uh(b:List UInt8)(c:UInt8):hexT (b++[c])=hexT b++[hexD (c.toNat / 16),hexD (c.toNat % 16)]:=by simp[hexT]
theorem Pv(b:List UInt8):(hexL b).length≤2*b.length+1:=by
 unfold hexL;split
 ·simp
 ·rw[zZ];omega
structure An where
 err:Int
 names:List ByteArray
 text:ByteArray
 bytes:List UInt8
def lZ:List UInt8:=[101,114,114,111,114]
def AU:List UInt8:=[111,107]
def nN:List UInt8:=[110,97,109,101,115]
def pU:List UInt8:=[116,101,120,116]
def nO:List UInt8:=[98,121,116,101,115]
def An.partN(a:An):List (List UInt8):=if a.names=[]then[]else nN::a.names.map (·.data.toList)
def An.partT(a:An):List (List UInt8):=if a.text.size=0 then[]else[pU,hexL a.text.data.toList]
def An.partB(a:An):List (List UInt8):=if a.bytes=[]then[]else[nO,hexL a.bytes]
def An.parts(a:An):List (List UInt8):=if a.err=0 then AU::(a.partN++(a.partT++a.partB))else[lZ,Go.Lib.itoa a.err]
def An.line(a:An):List UInt8:=Go.Lib.join a.parts [32]
def An.bulk(a:An):Nat:=(a.names.map fun s=>s.size+1).sum+a.text.size+a.bytes.length
theorem Ui(x:List UInt8)(r:List (List UInt8)):Go.Lib.join (x::r) [32]=x++r.flatMap (fun y=>32::y):=by
 rw[Go.Lib.join_cons,Go.Lib.joinTail,List.flatMap];rfl
theorem An.line_ok(a:An)(h:a.err=0):a.line=AU++(a.partN.flatMap (fun y=>32::y)++(a.partT.flatMap (fun y=>32::y)++a.partB.flatMap (fun y=>32::y))):=by
 rw[An.line,An.parts,if_pos h,Ui,List.flatMap_append,List.flatMap_append]
theorem An.line_err(a:An)(h :¬a.err=0):a.line=lZ++32::Go.Lib.itoa a.err:=by
 rw[An.line,An.parts,if_neg h,Ui];simp
section
open Go.RowKit
theorem EP:Tryz.prog.underlying 115=some (.pointer 117):=by kernel_rfl
theorem Ji:Tryz.prog.underlying 277=some .unsafePointer:=by kernel_rfl
theorem Jj:(Tryz.prog.info? 117).map (·.size)=some 2:=by kernel_rfl
theorem Px:liesAt Tryz.prog Tryz.prog.depth 117 (2 / Tryz.prog.cellsOf 117) 0 117 1=true:=by kernel_rfl
theorem Py:Tryz.prog.underlying 44=some (.slice 5):=by kernel_rfl
theorem Pz:(Tryz.prog.info? 5).map (fun i=>(i.zero,i.size,i.bytes))=some (some (.int .u8 0),1,1):=by kernel_rfl
theorem vV{w:World}{B:Nat}{e:TypeId}{v:Value}{n:Nat}{xs:List Value}(h:w.ownsRow B e 1 v n xs):∀g,v.ownBlock=some g→∃c fz,w.heap[g]?=some (.cells c e fz):=by
 intro g hg;rcases h.2 with⟨rfl,_⟩|⟨g',cap,cur,rfl,_,hgg,_⟩
 ·simp[Value.ownBlock]at hg
 ·simp[Value.ownBlock]at hg;subst hg;exact⟨cur,_,hgg⟩
theorem Jk:(117:TypeId)≠5:=by decide
theorem XY(b:Nat)(w:World)(h0:w.cell? ⟨b,0,none⟩=some (.pointer (some ⟨b,0,none⟩))):
  Calls Tryz.prog 129 #[.pointer (some ⟨b,0,none⟩)] w fun e w'=>e = .returned (.tuple #[])∧w'=w:=by
 obtain⟨j,hj,_⟩:=Option.map_eq_some_iff.1 Jj;go_enter Tryz.func129,Tryz.ntmps129
 go_wp2
 rw[Lib.run_neq_ptr_same w _ EP hj]
 go_wp2
 go_end0
 exact⟨rfl,rfl⟩
theorem XZ(b:Nat)(w:World)(h0:w.cell? ⟨b,0,none⟩=some (.pointer none))(hsh:w.shape? b=some (117,2))(hfz:w.frozen? ⟨b,0,none⟩=false):
  Calls Tryz.prog 129 #[.pointer (some ⟨b,0,none⟩)] w fun e w'=>e = .returned (.tuple #[])∧w'=w.setCell ⟨b,0,none⟩ (.pointer (some ⟨b,0,none⟩)):=by
 obtain⟨j,hj,hjs⟩:=Option.map_eq_some_iff.1 Jj;go_enter Tryz.func129,Tryz.ntmps129
 go_wp2
 rw[Lib.run_to_unsafe w ⟨b,0,none⟩ EP Ji hj (by rw[hjs];decide) hsh (Nat.zero_lt_succ 1)];simp only[Result.andThen];rw[Oper.upon_value]
 go_wp2
 rw[run_callFunc_extern Tryz.func192 (by kernel_rfl) (by kernel_rfl) (by kernel_rfl) (e:=Extern.AbiNoEscape.same) (by kernel_rfl)];rw[Lib.run_noEscape];simp only[Result.andThen];rw[Oper.upon_value]
 go_wp2
 rw[Lib.run_from_unsafe w ⟨b,0,none⟩ Ji EP hj hsh Px];simp only[Result.andThen];rw[Oper.upon_value]
 go_wp2
 go_end0
 exact⟨rfl,rfl⟩
abbrev Jl(B b:Nat)(p:Value)(bs:List Value)(w:World):Prop:=Lib.BuilderAt 117 5 B b p bs w
abbrev pV(B b:Nat)(bs:List Value)(w:World):Prop:=Lib.IsBuilder 117 5 B b bs w
theorem X4(B b:Nat)(bs:List Value)(w:World)(h:pV B b bs w):
  Calls Tryz.prog 129 #[.pointer (some ⟨b,0,none⟩)] w fun e w'=>e = .returned (.tuple #[])∧(Jl B b (.pointer (some ⟨b,0,none⟩)) bs w'∧Below B w w'∧Lib.OthersKept 5 (some b) w w'):=by
 rcases h with h|h
 ·refine(XZ b w h.cell0 h.shape h.frozen0).mono ?_;rintro e w' ⟨rfl,rfl⟩;exact⟨rfl,h.used _,(Below.refl B w).setCell (p:=⟨b,0,none⟩) h.1 _,(Lib.OthersKept.refl _ _ w).setCell ⟨b,0,none⟩ rfl _⟩
 ·refine(XY b w h.cell0).mono ?_;rintro e w' ⟨rfl,rfl⟩;exact⟨rfl,h,Below.refl B _,Lib.OthersKept.refl _ _ _⟩
theorem Uj(B b:Nat)(bs:List Value)(c:Int)(w:World)(h:pV B b bs w)(hlen:bs.length+1≤140737488355328)(hBw:B≤w.heap.size):
  Calls Tryz.prog 69 #[.pointer (some ⟨b,0,none⟩),.int .u8 c] w fun e w'=>e = .returned .nilIface∧(Jl B b (.pointer (some ⟨b,0,none⟩)) (bs++[.int .u8 c]) w'∧Below B w w'∧Lib.OthersKept 5 (some b) w w'):=by
 obtain⟨i0,hi,hz0,hz1,hz2⟩:=info_parts Pz;have H:=hide h;clear h;go_enter Tryz.func69,Tryz.ntmps69
 go_wp2_with(go_at_call 129;refine(X4 B b bs _ H.out).mono ?_)
 rintro e w1 ⟨rfl,h1,hb1,ho1⟩;obtain⟨hB,v,hbk,hown,hne⟩:=h1;have hlt:b<w1.heap.size:=by
  rcases Nat.lt_or_ge b w1.heap.size with h'|h'
  ·exact h'
  ·simp[Array.getElem?_eq_none h']at hbk
 have c0:w1.cell? ⟨b,0,none⟩=some (.pointer (some ⟨b,0,none⟩)):=by rw[Lib.cell_of_heap hbk];rfl
 have c1:w1.cell? ⟨b,1,none⟩=some v:=by rw[Lib.cell_of_heap hbk];rfl
 go_wp2_with(at_builtin;refine wpList_append_own _ rfl _ _ 44 rfl B 5 i0 (.int .u8 0) 1 1 Py hi hz0 hz1 hz2 rfl (by decide) _ _ _ rfl (hown.alloc _) ⟨w1.heap.size,0,none⟩ 1 1 [.int .u8 c] rfl rfl (cell_one_new _ _ _) (by intro u hu;simp at hu;subst hu;rfl) ?c3 ?c4 ?c5 ?_)
 case c3=>unfold maxLen;omega
 case c4=>omega
 case c5=>have:=hb1.size;simp;omega
 intro v' w2 hown' hgrow _;have hb2:w2.heap[b]?=some (.cells #[.pointer (some ⟨b,0,none⟩),v] 117 (0,0)):=by
  rw[hgrow.block b (by simp;omega) (fun e=>hne e.symm),Below.heap_alloc w1 _ b hlt];exact hbk
 have d0:w2.cell? ⟨b,0,none⟩=some (.pointer (some ⟨b,0,none⟩)):=by rw[Lib.cell_of_heap hb2];rfl
 have d1:w2.cell? ⟨b,1,none⟩=some v:=by rw[Lib.cell_of_heap hb2];rfl
 have f1:w2.frozen? ⟨b,1,none⟩=false:=Lib.frozen_of_heap hb2 1;obtain⟨ao,n',cap,rfl⟩:∃ao n' cap,v' = .slice ao n' cap:=by
  rcases hown'.2 with⟨hv,_⟩|⟨g,cap,cur,hv,_⟩
  ·exact⟨_,_,_,hv⟩
  ·exact⟨_,_,_,hv⟩
 go_wp2
 go_ret;refine⟨rfl,?_,?_,?_⟩
 ·exact Lib.BuilderAt.put (T:=117) (e:=5) hB hb2 (bs':=bs++[.int .u8 c]) (by simpa using hown') Jk
 ·exact((hb1.alloc (by have:=hb1.size;omega) _).grown hgrow (by have:=hb1.size;simp;omega) (fun k hk=>(hown.lt k hk).1)).setCell (p:=⟨b,1,none⟩) hB _
 ·exact((ho1.alloc _).grown hgrow (vV (hown.alloc _))).setCell ⟨b,1,none⟩ rfl _
end
section
open Go.RowKit
structure Keep(P:Nat→Prop)(w w':World):Prop where
 os:w'.os=w.os
 tape:w'.tape=w.tape
 output:w'.output=w.output
 size:w.heap.size≤w'.heap.size
 block :∀k,P k→w'.heap[k]?=w.heap[k]?
section
variable {P P' : Nat → Prop} {w w' w'' : World}
theorem Keep.refl(P:Nat→Prop)(w:World):Keep P w w:=⟨rfl,rfl,rfl,aC _,fun _ _=>rfl⟩
theorem Keep.trans(h:Keep P w w')(h':Keep P w' w''):Keep P w w'':=⟨h'.os.trans h.os,h'.tape.trans h.tape,h'.output.trans h.output,aI h.size h'.size,fun k hk=>(h'.block k hk).trans (h.block k hk)⟩
theorem Keep.mono(h:Keep P' w w')(hp :∀k,P k→P' k):Keep P w w':=⟨h.os,h.tape,h.output,h.size,fun k hk=>h.block k (hp k hk)⟩
theorem Keep.drew(h:Keep P w w'):Keep P w w'.drew:=⟨h.os,h.tape,h.output,h.size,h.block⟩
theorem Keep.alloc(h:Keep P w w')(hp :∀k,P k→k<w.heap.size)(o:Obj):Keep P w (w'.alloc o):=
 h.trans ⟨rfl,rfl,rfl,by simp,fun k hk=>Below.heap_alloc w' o k (aH (hp k hk) h.size)⟩
theorem Keep.setCell(h:Keep P w w'){a:Addr}(ha :¬P a.block)(u:Value):Keep P w (w'.setCell a u):=
 h.trans ⟨rfl,rfl,rfl,by simp[World.setCell],fun k hk=>Below.heap_setCell w' a u k (fun e=>ha (e▸hk))⟩
theorem Keep.grown(h:Keep P w w'){row:Option Nat}(hg:w'.grownBy w'' row)(hp :∀k,P k→k<w.heap.size)(hr :∀k,row=some k→¬P k):Keep P w w'' :=
 h.trans ⟨hg.os,hg.tape,hg.output,hg.size,fun k hk=>hg.block k (aH (hp k hk) h.size) (fun e=>hr k e.symm hk)⟩
theorem Keep.cell(h:Keep P w w'){a:Addr}(ha:P a.block):w'.cell? a=w.cell? a:=World.cell?_of_block (h.block _ ha)
theorem Keep.frozen(h:Keep P w w'){a:Addr}(ha:P a.block):w'.frozen? a=w.frozen? a:=World.frozen?_of_block (h.block _ ha)
theorem Keep.box(h:Keep P w w'){N:Nat}(hN:P N):(∀o,w'.cell? ⟨N,o,none⟩=w.cell? ⟨N,o,none⟩)∧(∀o,w'.frozen? ⟨N,o,none⟩=w.frozen? ⟨N,o,none⟩):=⟨fun o=>h.cell (a:=⟨N,o,none⟩) hN,fun o=>h.frozen (a:=⟨N,o,none⟩) hN⟩
theorem Keep.below{B:Nat}(h:Keep (fun k=>k<B) w w'):Below B w w':=⟨h.os,h.tape,h.output,h.size,h.block⟩
theorem Keep.of_below{B:Nat}(h:Below B w w')(hp :∀k,P k→k<B):Keep P w w':=⟨h.os,h.tape,h.output,h.size,fun k hk=>h.block k (hp k hk)⟩
end
section
variable {Q : Program} (w : World)
theorem X5(t ty e:TypeId)(i:TypeInfo)(z:Value)(size bytes:Nat)(ht:Q.underlying t=some (.slice e))(hi:Q.info? e=some i)(hz:i.zero=some z)
  (hsize:i.size=size) (hby:i.bytes=bytes) (v:Value) (n:Nat) (xs:List Value) (hown:w.ownsRow 0 e size v n xs)
  (a:Addr) (m c:Nat) (news:List Value) (hl:news.length=m*size) (hnews :∀j u,news[j]?=some u→w.cell? (a.add j)=some u) (h1 :∀u∈news,u.oneCell'=true)
  (h63:n+m≤maxLen) (hbytes:(n+m)*bytes≤140737488355328) (v':Value) (w':World) (hrun:(Builtin.append_ #[t,t] ty #[v,.slice (some a) m c]).run Q w = .ok v' w'):
  v'.ownBlock=v.ownBlock∨v'.ownBlock=some w.heap.size:=by
 subst hsize;subst hby;have hm:n+m≤9223372036854775807:=by simp only[maxLen]at h63;omega
 rcases hown.2 with⟨rfl,rfl⟩|⟨g,cap,cur,rfl,_,hg,hnc,hcm,hcs,htake⟩
 ·by_cases h0:m=0
  ·subst h0;have hn:news=[]:=List.eq_nil_of_length_eq_zero (by simpa using hl);have hr:(Builtin.append_ #[t,t] ty #[.slice none 0 0,.slice (some a) 0 c]).run Q w = .ok (.slice none 0 0) w:=by
    simp[Builtin.append_,run_underlying ht,sizeOf,typeInfo,hi,Builtin.lenOf,Builtin.firstCells,loadCells,loadCellsFrom]
   rw[hr]at hrun;injection hrun with e1 e2;subst e1;exact .inl rfl
  ·have hr:=run_append_nil (P:=Q) w t ty e i z ht hi hz a m c news hl hnews (by omega) (by omega) (by have:=hbytes;simp only[Nat.zero_add]at this;omega);rw[hr]at hrun;injection hrun with e1 e2;subst e1;exact .inr rfl
 ·by_cases hroom:n+m≤cap
  ·have hfit:n*i.size+news.length≤cur.size:=by rw[hl,hcs,←Nat.add_mul];exact Nat.mul_le_mul_right _ hroom
   have hr:=run_append_room (P:=Q) w t ty e i ht hi g n cap cur hg a m c news hl hnews h1 hroom hfit;rw[hr]at hrun;injection hrun with e1 e2;subst e1;exact .inl rfl
  ·have hr:=run_append_grow (P:=Q) w t ty e i z ht hi hz ⟨g,0,none⟩ n cap xs hown.1 (hown.cells (g:=g) rfl) a m c news hl hnews (by omega) (by omega) (growslice_fits (by omega) hbytes);rw[hr]at hrun;injection hrun with e1 e2;subst e1;exact .inr rfl
theorem MS{ops:Array Oper}{rest:List Oper}{o:Oper}{a:Act}{K0:Exit→Act→World→Prop}(hgd:o.guard=none)(s x:Operand)(t:TypeId)
  (ho:o.op = .call {callee:= .builtin .append,args:=#[s,x],argTypes:=#[t,t]})
  (e:TypeId) (i:TypeInfo) (z:Value) (size bytes:Nat) (ht:Q.underlying t=some (.slice e)) (hi:Q.info? e=some i) (hz:i.zero=some z)
  (hsize:i.size=size) (hby:i.bytes=bytes) (hzs:z.cells.size=size) (hsz:0<size)
  (v:Value) (n:Nat) (xs:List Value) (hs:a.eval s=v) (hown:w.ownsRow 0 e size v n xs)
  (ad:Addr) (m c:Nat) (news:List Value) (hx:a.eval x = .slice (some ad) m c) (hl:news.length=m*size) (hnews :∀j u,news[j]?=some u→w.cell? (ad.add j)=some u) (h1 :∀u∈news,u.oneCell'=true)
  (h63:n+m≤maxLen) (hbytes:(n+m)*bytes≤140737488355328)
  (h :∀v' w',w'.ownsRow 0 e size v' (n+m) (xs++news)→w.grownBy w' v.ownBlock→(v' = .slice none 0 0↔v = .slice none 0 0∧m=0)→(v'.ownBlock=v.ownBlock∨v'.ownBlock=some w.heap.size)→
   wpList Q ops K0 rest (a.put o.dst v') w'):wpList Q ops K0 (o::rest) a w:=by
 refine wpList_plain hgd fun K hK'=>?_;obtain⟨v',w',hr,h2,h3,h4⟩:=run_append_own (P:=Q) w 0 t o.type e i z size bytes ht hi hz hsize hby hzs hsz v n xs hown ad m c news hl hnews h1 h63 hbytes (Nat.zero_le _);have h5:=X5 w t o.type e i z size bytes ht hi hz hsize hby v n xs hown ad m c news hl hnews h1 h63 hbytes v' w' hr;unfold Oper.wp;simp[execOp,ho,resolve,invoke,builtin,hs,hx,hr,Result.andThen];exact hK' _ _ (h v' w' h2 h3 h4 h5)
end
theorem jD{w:World}{B e size n:Nat}{v:Value}{xs:List Value}(h:w.ownsRow B e size v n xs):∃A c,v = .slice A n c:=by
 rcases h.2 with⟨rfl,rfl⟩|⟨g,cap,cur,rfl,_⟩
 ·exact⟨_,_,rfl⟩
 ·exact⟨_,_,rfl⟩
theorem MV{S:Nat→Prop}{e n:Nat}{w:World}{v:Value}{xs:List Value}(h:w.ownsRow 0 e 1 v n xs)(hne :∀g,v.ownBlock=some g→S g):∃A c,v = .slice A n c∧Rd S w A xs∧n≤c∧c≤9223372036854775807:=by
 rcases h.2 with⟨rfl,rfl⟩|⟨g,cap,cur,rfl,hb,hgg,hn,hc,_⟩
 ·have:xs=[]:=List.eq_nil_of_length_eq_zero (by simpa using h.1);subst this;exact⟨_,_,rfl,.inl rfl,aC _,by omega⟩
 ·refine⟨_,_,rfl,.inr ⟨g,0,rfl,hne g rfl,fun j u hu=>?_⟩,hn,by unfold maxLen at hc;omega⟩;have:=h.cells (g:=g) rfl j u hu
  rwa [Addr.add_lit]at this
theorem Uk:(Tryz.prog.info? 3).map (fun i=>(i.zero,i.size,i.bytes))=some (some (.int .i64 0),1,8):=by kernel_rfl
theorem Ul:(Tryz.prog.info? 9).map (fun i=>(i.zero,i.size,i.bytes))=some (some (.string ByteArray.empty),1,16):=by kernel_rfl
def dI(S:Nat→Prop)(w:World):List Value→Fo→Prop
 | vs,.nil=>vs=[]
 | vs,.cons k t n ks r=>∃KA c vs',vs = .int .u8 k :: .string t :: .int .i64 n :: .slice KA ks.len c::vs'∧k<256∧t.size≤9223372036854775807∧ai n∧ks.len≤c∧c≤9223372036854775807∧bG S w KA ks∧dI S w vs' r
theorem dI.keep{S S':Nat→Prop}{w w':World}(hk :∀b,b<w.heap.size→S b→w'.heap[b]?=w.heap[b]?)(hm :∀b,b<w.heap.size→S b→S' b):∀{f:Fo} {vs:List Value},dI S w vs f→dI S' w' vs f:=by
 intro f
 induction f with
 | nil=>intro vs h;exact h
 | cons k t n ks r _ ih =>
  rintro vs ⟨KA,c,vs',rfl,h1,h2,h3,h4,h5,h6,h7⟩;exact⟨KA,c,vs',rfl,h1,h2,h3,h4,h5,((h6.mono (S':=fun b=>b<w.heap.size∧S b) fun b hb hS=>⟨hb,hS⟩).keep fun b hb=>hk b hb.1 hb.2).mono fun b _ hb=>hm b hb.1 hb.2,ih h7⟩
theorem dI.snoc{S:Nat→Prop}{w:World}{k:Nat}{t:ByteArray}{n:Int}{ks:Fo}{KA:Option Addr}{c:Nat}(h1:k<256)(h2:t.size≤9223372036854775807)(h3:ai n)(h4:ks.len≤c)(h5:c≤9223372036854775807)(h6:bG S w KA ks):
  ∀{f:Fo} {vs:List Value},dI S w vs f→dI S w (vs++[.int .u8 k,.string t,.int .i64 n,.slice KA ks.len c]) (f.app (.cons k t n ks .nil)):=by
 intro f
 induction f with
 | nil=>intro vs h;subst h;exact⟨KA,c,[],rfl,h1,h2,h3,h4,h5,h6,rfl⟩
 | cons k' t' n' ks' r _ ih =>
  rintro vs ⟨nD,c',vs',rfl,g1,g2,g3,g4,g5,g6,g7⟩;exact⟨nD,c',_,rfl,g1,g2,g3,g4,g5,g6,ih g7⟩
theorem zig:(Tryz.prog.info? 218).map (fun i=>(i.zero,i.size,i.bytes))=some (some (.agg #[.int .u8 0,.string ByteArray.empty,.int .i64 0,.slice none 0 0]),4,56):=by kernel_rfl
theorem dI.at_{S S':Nat→Prop}{w:World}(hm :∀b,S b→S' b):∀{f:Fo} {vs:List Value} {b o:Nat},dI S w vs f→S' b→(∀j u,vs[j]?=some u→w.cell? ⟨b,o+j,none⟩=some u)→bG S' w (some ⟨b,o,none⟩) f:=by
 intro f
 induction f with
 | nil=>intro vs b o _ _ _;exact trivial
 | cons k t n ks r _ ih =>
  rintro vs b o ⟨KA,c,vs',rfl,g1,g2,g3,g4,g5,g6,g7⟩ hb hc;exact⟨b,o,KA,c,rfl,hb,hc 0 _ rfl,hc 1 _ rfl,hc 2 _ rfl,hc 3 _ rfl,g1,g2,g3,g4,g5,g6.mono fun b _ hS=>hm b hS,ih g7 hb (fun j u hu=>by
   have:=hc (j+4) u hu
   rwa [show o+(j+4)=o+4+j by omega]at this)⟩
end
section
open Go.RowKit
section
variable {P : Program} {T e : TypeId} {z : Value} {size bytes : Nat}
theorem MW{w:World}{base n c0:Nat}{v:Value}{xs:List Value}{i0:TypeInfo}(ht:P.underlying T=some (.slice e))(hi:P.info? e=some i0)(hown:w.ownsRow base e size v n xs)(ty:TypeId):
  (Builtin.append_ #[T,T] ty #[v,.slice none 0 c0]).run P w = .ok v w:=by
 obtain⟨A,c,rfl⟩:=jD hown;have hnc:n≤c:=by
  rcases hown.2 with⟨e1,rfl⟩|⟨g,cap,cur,e1,_,_,hc,_⟩
  ·exact Nat.zero_le _
  ·injection e1 with _ _ e1;omega
 rcases A with _|⟨b,o,p⟩
 ·have hn0:n=0:=by
   rcases hown.2 with⟨_,h⟩|⟨g,cap,cur,e1,_⟩
   ·exact h
   ·cases e1
  subst hn0;simp[Builtin.append_,run_underlying ht,sizeOf,typeInfo,hi,Builtin.lenOf,Builtin.firstCells,loadCells,loadCellsFrom,hnc]
 ·simp[Builtin.append_,run_underlying ht,sizeOf,typeInfo,hi,Builtin.lenOf,Builtin.firstCells,loadCells,storeCells,hnc]
theorem MX{w:World}{base n m cB:Nat}{v:Value}{xs us:List Value}{B:Option Addr}(ht:P.underlying T=some (.slice e))(hI:(P.info? e).map (fun i=>(i.zero,i.size,i.bytes))=some (some z,size,bytes))(hz:z.cells.size=size)(h0:0<size)
  (hown:w.ownsRow base e size v n xs) (hB:B=none→m=0) (hlen:us.length=m*size) (hone :∀u∈us,u.oneCell'=true) (hc :∀a,B=some a→∀j u,us[j]?=some u→w.cell? (a.add j)=some u)
  (hbase:base≤w.heap.size) (hmax:n+m≤maxLen) (hl:(n+m)*bytes≤140737488355328) (ty:TypeId):
  ∃v' w',(Builtin.append_ #[T,T] ty #[v,.slice B m cB]).run P w = .ok v' w'∧w'.ownsRow base e size v' (n+m) (xs++us)∧Below base w w':=by
 obtain⟨i0,hi,hz0,hz1,hz2⟩:=info_parts hI;rcases B with _|a
 ·have hm:=hB rfl;subst hm;have hu:us=[]:=List.length_eq_zero_iff.1 (by simpa using hlen);subst hu;exact⟨v,w,MW ht hi hown ty,by simpa using hown,Below.refl _ _⟩
 ·obtain⟨v',w',hrun,hown',hgr,_⟩:=run_append_own (P:=P) w base T ty e i0 z size bytes ht hi hz0 hz1 hz2 hz h0 v n xs hown a m cB us hlen (hc a rfl) hone hmax hl hbase;exact⟨v',w',hrun,hown',(Below.refl _ _).grown hgr hbase (fun k hk=>(hown.lt k hk).1)⟩
end
end
section
open Go.RowKit
section
variable {P : Program} {w : World} {ops : Array Oper} {rest : List Oper} {o : Oper} {a : Act} {K0 : Exit → Act → World → Prop}
def rX(w w':World)(v v':Value)(n m:Nat):Prop:=(∃A c,v = .slice A n c∧v' = .slice A (n+m) c)∨v'.ownBlock=some w.heap.size∧∀k,k<w.heap.size→w'.heap[k]?=w.heap[k]?
theorem PD(base:Nat)(t ty e:TypeId)(i:TypeInfo)(z:Value)(size bytes:Nat)(ht:P.underlying t=some (.slice e))(hi:P.info? e=some i)(hz:i.zero=some z)
  (hsize:i.size=size) (hby:i.bytes=bytes) (v:Value) (n:Nat) (xs:List Value) (hown:w.ownsRow base e size v n xs)
  (a:Addr) (m c:Nat) (news:List Value) (hl:news.length=m*size) (hnews :∀j u,news[j]?=some u→w.cell? (a.add j)=some u) (h1 :∀u∈news,u.oneCell'=true)
  (h63:n+m≤maxLen) (hbytes:(n+m)*bytes≤140737488355328) (v':Value) (w':World) (hrun:(Builtin.append_ #[t,t] ty #[v,.slice (some a) m c]).run P w = .ok v' w'):
  rX w w' v v' n m:=by
 subst hsize;subst hby;have hm:n+m≤9223372036854775807:=by simp only[maxLen]at h63;omega
 rcases hown.2 with⟨rfl,rfl⟩|⟨g,cap,cur,rfl,_,hg,hnc,hcm,hcs,htake⟩
 ·by_cases h0:m=0
  ·subst h0;have hn:news=[]:=List.eq_nil_of_length_eq_zero (by simpa using hl);have hr:(Builtin.append_ #[t,t] ty #[.slice none 0 0,.slice (some a) 0 c]).run P w = .ok (.slice none 0 0) w:=by
    simp[Builtin.append_,run_underlying ht,sizeOf,typeInfo,hi,Builtin.lenOf,Builtin.firstCells,loadCells,loadCellsFrom]
   rw[hr]at hrun;injection hrun with e1 e2;subst e1;exact .inl ⟨none,0,rfl,rfl⟩
  ·have hr:=run_append_nil (P:=P) w t ty e i z ht hi hz a m c news hl hnews (by omega) (by omega) (by have:=hbytes;simp only[Nat.zero_add]at this;omega);rw[hr]at hrun;injection hrun with e1 e2;subst e1;exact .inr ⟨rfl,fun k hk=>by rw[←e2];exact heap_alloc_old w.drew _ hk⟩
 ·by_cases hroom:n+m≤cap
  ·have hfit:n*i.size+news.length≤cur.size:=by rw[hl,hcs,←Nat.add_mul];exact Nat.mul_le_mul_right _ hroom
   have hr:=run_append_room (P:=P) w t ty e i ht hi g n cap cur hg a m c news hl hnews h1 hroom hfit;rw[hr]at hrun;injection hrun with e1 e2;subst e1;exact .inl ⟨_,_,rfl,rfl⟩
  ·have hr:=run_append_grow (P:=P) w t ty e i z ht hi hz ⟨g,0,none⟩ n cap xs hown.1 (hown.cells (g:=g) rfl) a m c news hl hnews (by omega) (by omega) (growslice_fits (by omega) hbytes);rw[hr]at hrun;injection hrun with e1 e2;subst e1;exact .inr ⟨rfl,fun k hk=>by rw[←e2];exact heap_alloc_old w.drew _ hk⟩
theorem Aa(hgd:o.guard=none)(s x:Operand)(t:TypeId)
  (ho:o.op = .call {callee:= .builtin .append,args:=#[s,x],argTypes:=#[t,t]})
  (base:Nat) (e:TypeId) {z:Value} {size bytes:Nat} (ht:P.underlying t=some (.slice e)) (hI:(P.info? e).map (fun i=>(i.zero,i.size,i.bytes))=some (some z,size,bytes)) (hzs:z.cells.size=size) (hsz:0<size)
  (v:Value) (n:Nat) (xs:List Value) (hs:a.eval s=v) (hown:w.ownsRow base e size v n xs)
  (B:Option Addr) (m c:Nat) (news:List Value) (hx:a.eval x = .slice B m c) (hB:B=none→m=0) (hl:news.length=m*size) (hnews :∀ad,B=some ad→∀j u,news[j]?=some u→w.cell? (ad.add j)=some u) (h1 :∀u∈news,u.oneCell'=true)
  (h63:n+m≤maxLen) (hbytes:(n+m)*bytes≤140737488355328) (hbase:base≤w.heap.size)
  (h :∀v' w',w'.ownsRow base e size v' (n+m) (xs++news)→w.grownBy w' v.ownBlock→rX w w' v v' n m→wpList P ops K0 rest (a.put o.dst v') w'):wpList P ops K0 (o::rest) a w:=by
 obtain⟨i,hi,hz,hsize,hby⟩:=info_parts hI;refine wpList_plain hgd fun K hK'=>?_;have key :∃v' w',(Builtin.append_ #[t,t] o.type #[v,.slice B m c]).run P w = .ok v' w'∧w'.ownsRow base e size v' (n+m) (xs++news)∧w.grownBy w' v.ownBlock∧rX w w' v v' n m:=by
  rcases B with _|ad
  ·have hm:=hB rfl;subst hm;have hu:news=[]:=List.length_eq_zero_iff.1 (by simpa using hl);subst hu;obtain⟨A,c',rfl⟩:=jD hown;exact⟨_,w,MW ht hi hown _,by simpa using hown,World.grownBy.refl _ _,.inl ⟨A,c',rfl,rfl⟩⟩
  ·obtain⟨v',w',hr,h2,h3,h4⟩:=run_append_own (P:=P) w base t o.type e i z size bytes ht hi hz hsize hby hzs hsz v n xs hown ad m c news hl (hnews ad rfl) h1 h63 hbytes hbase;exact⟨v',w',hr,h2,h3,PD base t o.type e i z size bytes ht hi hz hsize hby v n xs hown ad m c news hl (hnews ad rfl) h1 h63 hbytes v' w' hr⟩
 obtain⟨v',w',hr,h2,h3,h5⟩:=key;unfold Oper.wp;simp[execOp,ho,resolve,invoke,builtin,hs,hx,hr,Result.andThen];exact hK' _ _ (h v' w' h2 h3 h5)
end
end
section
open Go.RowKit
def lL(i:Nat):Int:=8000024+i
def markT(i:Nat):ByteArray:=⟨#[35,1,0,0,47,UInt8.ofNat i,0,0]⟩
def iK:List Int:=(List.range 12).map lL
def iL:List ByteArray:=(List.range 12).map markT
theorem Jm:iK.length=12:=by simp[iK]
theorem Jn:iL.length=12:=by simp[iL]
section
variable {S S' : Nat → Prop} {w w' : World} {A : Option Addr} {c : Nat}
def dA(S:Nat→Prop)(w:World)(A:Option Addr)(c n:Nat)(e:TypeId)(vs:List Value):Prop :=
 ∃(g:Nat) (cs:Array Value),A=some ⟨g,0,none⟩∧S g∧w.heap[g]?=some (.cells cs e)∧n+12≤c∧c≤9223372036854775807∧∀(j:Nat) (u:Value),vs[j]?=some u→cs[j]?=some u
theorem dA.keep{n:Nat}{e:TypeId}{vs:List Value}(h:dA S w A c n e vs)(hk :∀b,S b→w'.heap[b]?=w.heap[b]?):dA S w' A c n e vs:=by
 obtain⟨g,cs,h1,h2,h3,h4⟩:=h;exact⟨g,cs,h1,h2,(hk g h2).trans h3,h4⟩
theorem dA.mono{n:Nat}{e:TypeId}{vs:List Value}(h:dA S w A c n e vs)(hm :∀b,b<w.heap.size→S b→S' b):dA S' w A c n e vs:=by
 obtain⟨g,cs,h1,h2,h3,h4⟩:=h;exact⟨g,cs,h1,hm g (Array.getElem?_eq_some_iff.1 h3).1 h2,h3,h4⟩
theorem dA.rd{n:Nat}{e:TypeId}{vs us:List Value}(h:dA S w A c n e (vs++us)):Rd S w A vs:=by
 obtain⟨g,cs,h1,h2,h3,_,_,h6⟩:=h;refine .inr ⟨g,0,h1,h2,fun j u hu=>?_⟩;rw[Nat.zero_add,Lib.cell_of_heap h3];exact h6 j u (by rw[List.getElem?_append_left (List.getElem?_eq_some_iff.1 hu).1];exact hu)
theorem dA.at_{n:Nat}{e:TypeId}{vs:List Value}(h:dA S w A c n e vs){j:Nat}(hj:j<vs.length):∃g,A=some ⟨g,0,none⟩∧w.cell? ⟨g,j,none⟩=some vs[j]:=by
 obtain⟨g,cs,h1,_,h3,_,_,h6⟩:=h;exact⟨g,h1,by rw[Lib.cell_of_heap h3];exact h6 j _ (List.getElem?_eq_getElem hj)⟩
def bT(S:Nat→Prop)(w:World)(A:Option Addr)(c:Nat)(l:List ByteArray):Prop :=
 dA S w A c l.length 9 ((l++iL).map .string)∧(∀s∈l,s.size≤9223372036854775807)∧l.length≤9223372036854775807
def cZ(S:Nat→Prop)(w:World)(A:Option Addr)(c:Nat)(l:List Int):Prop :=
 dA S w A c l.length 3 ((l++iK).map (fun n=>Value.int .i64 n))∧(∀n∈l,ai n)∧l.length≤9223372036854775807
theorem bT.strs{l:List ByteArray}(h:bT S w A c l):bJ S w A l:=by
 obtain⟨h1,h2,h3⟩:=h;rw[List.map_append]at h1;exact⟨h1.rd,h2,h3⟩
theorem cZ.ints{l:List Int}(h:cZ S w A c l):IntsIn S w A l:=by
 obtain⟨h1,h2,h3⟩:=h;rw[List.map_append]at h1;exact⟨h1.rd,h2,h3⟩
def bK(S:Nat→Prop)(w:World):Nat→Nat→Fo→Prop
 | g,o,.nil=>∀i,i<12→w.cell? ⟨g,o+i*4,none⟩=some (.int .u8 0)∧w.cell? ⟨g,o+i*4+1,none⟩=some (.string ⟨#[]⟩)∧w.cell? ⟨g,o+i*4+2,none⟩=some (.int .i64 (lL i))∧w.cell? ⟨g,o+i*4+3,none⟩=some (.slice none 0 0)
 | g,o,.cons k t n ks r=>∃g' kc,w.cell? ⟨g,o,none⟩=some (.int .u8 k)∧w.cell? ⟨g,o+1,none⟩=some (.string t)∧w.cell? ⟨g,o+2,none⟩=some (.int .i64 n)∧w.cell? ⟨g,o+3,none⟩=some (.slice (some ⟨g',0,none⟩) ks.len kc)∧
   k<256∧t.size≤9223372036854775807∧ai n∧ks.len+12≤kc∧kc≤9223372036854775807∧S g'∧bK S w g' 0 ks∧bK S w g (o+4) r
def bQ(S:Nat→Prop)(w:World)(A:Option Addr)(c:Nat)(f:Fo):Prop:=∃g,A=some ⟨g,0,none⟩∧S g∧f.len+12≤c∧c≤9223372036854775807∧bK S w g 0 f
theorem bK.fo :∀{f:Fo} {g o:Nat},S g→bK S w g o f→bG S w (some ⟨g,o,none⟩) f
 | .nil,_,_,_,_=>trivial
 | .cons k t n ks r,g,o,hS,⟨g',kc,c0,c1,c2,c3,h1,h2,h3,h4,h5,h6,h7,h8⟩ =>
  ⟨g,o,some ⟨g',0,none⟩,kc,rfl,hS,c0,c1,c2,c3,h1,h2,h3,by omega,h5,bK.fo h6 h7,bK.fo hS h8⟩
theorem bQ.fo{f:Fo}(h:bQ S w A c f):bG S w A f∧f.len≤c:=by
 obtain⟨g,rfl,h1,h2,h3,h4⟩:=h;exact⟨h4.fo h1,by omega⟩
theorem bK.keep :∀{f:Fo} {g o:Nat},S g→bK S w g o f→(∀b,S b→w'.heap[b]?=w.heap[b]?)→bK S w' g o f
 | .nil,g,o,hS,h,hk=>fun i hi=>by
  obtain⟨h1,h2,h3,h4⟩:=h i hi;have hb:=hk g hS;exact⟨(World.cell?_of_block hb).trans h1,(World.cell?_of_block hb).trans h2,(World.cell?_of_block hb).trans h3,(World.cell?_of_block hb).trans h4⟩
 | .cons k t n ks r,g,o,hS,⟨g',kc,c0,c1,c2,c3,h1,h2,h3,h4,h5,h6,h7,h8⟩,hk =>
  have hb:=hk g hS
  ⟨g',kc,(World.cell?_of_block hb).trans c0,(World.cell?_of_block hb).trans c1,(World.cell?_of_block hb).trans c2,(World.cell?_of_block hb).trans c3,h1,h2,h3,h4,h5,h6,bK.keep h6 h7 hk,bK.keep hS h8 hk⟩
structure eG(S:Nat→Prop)(w:World)(x:Hh)(h:Hk):Prop where
 at_:ai h.at_
 old:bT S w x.oA x.oc h.old
 new:bT S w x.nA x.nc h.new
structure fK(S:Nat→Prop)(w:World)(x:Eh)(e:Ed):Prop where
 kind:e.kind<256
 path:cZ S w x.pA x.pc e.path
 at_:ai e.at_
 far:ai e.far
 frm:e.frm.size≤9223372036854775807
 to:e.to.size≤9223372036854775807
 old:bQ S w x.oA x.oc e.old
 new:bQ S w x.nA x.nc e.new
structure eH(S:Nat→Prop)(w:World)(x:Ph)(p:Pt):Prop where
 kind:p.kind<256
 file:p.file.size≤9223372036854775807
 text:p.text.size≤9223372036854775807
 hunk:eG S w x.h p.hunk
 edit:fK S w x.e p.edit
theorem dA.cap{n:Nat}{e:TypeId}{vs:List Value}(h:dA S w A c n e vs):n≤c∧c≤9223372036854775807:=by
 obtain⟨_,_,_,_,_,h4,h5,_⟩:=h;exact⟨by omega,h5⟩
theorem eG.hk{x:Hh}{h:Hk}(a:eG S w x h):gB S w x h:=⟨a.at_,a.old.strs,a.new.strs,a.old.1.cap,a.new.1.cap⟩
theorem fK.ed{x:Eh}{e:Ed}(a:fK S w x e):dm S w x e:=by
 obtain⟨_,_,_,_,h4,_⟩:=a.old;obtain⟨_,_,_,_,h5,_⟩:=a.new;exact⟨a.kind,a.path.ints,a.at_,a.far,a.frm,a.to,a.old.fo.1,a.new.fo.1,a.path.1.cap,⟨a.old.fo.2,h4⟩,⟨a.new.fo.2,h5⟩⟩
theorem eH.pt{x:Ph}{p:Pt}(a:eH S w x p):bM S w x p:=⟨a.kind,a.file,a.text,a.hunk.hk,a.edit.ed⟩
end
end
section
open Go.RowKit
def jc(P:Prop)(e:Ending):Prop:=∃i:Int,e = .returned (.int .i64 i)∧-1≤i∧(0≤i↔P)
theorem jc.yes{P:Prop}{i:Int}(h:0≤i)(hp:P):jc P (.returned (.int .i64 i)):=⟨i,rfl,by omega,by simp[h,hp]⟩
theorem jc.no{P:Prop}(hp :¬P):jc P (.returned (.int .i64 (-1))):=⟨-1,rfl,by omega,by simp[hp]⟩
theorem Jo{α:Type}{l:List α}{k:Nat}{x s:α}(h :∀j,j<k→l[j]?≠some x)(hk:l[k]?=some s)(hne:s≠x):∀j,j<k+1→l[j]?≠some x:=by
 intro j hj;rcases Nat.lt_or_ge j k with h1|h1
 ·exact h j h1
 ·obtain rfl:j=k:=by omega
  rw[hk];exact fun e=>hne (by injection e)
theorem Jp{α:Type}{l:List α}{k:Nat}{x:α}(h :∀j,j<k→l[j]?≠some x)(hk :¬k<l.length):¬x∈l:=by
 intro hx;obtain⟨j,hj,rfl⟩:=List.getElem_of_mem hx;exact h j (by omega) (by simp)
theorem X6{S:Nat→Prop}{A:Option Addr}{c:Nat}{l:List Int}{x:Int}{w:World}(hl:Rd S w A (l.map (.int .u8)))(hlen:l.length≤9223372036854775807):
  Calls Tryz.prog 309 #[.slice A l.length c,.int .u8 x] w fun e w'=>jc (x∈l) e∧w=w':=by
 have Hl:=hide hl;clear hl;go_enter Tryz.func309,Tryz.ntmps309
 go_wp2_with fail
 go_loop [8,5] (fun i _=>∃k:Nat,k≤l.length∧i = .int .i64 k∧Hid (∀j,j<k→l[j]?≠some x)) (fun i _=>l.length-(intOf i).toNat)
 case atStart=>exact⟨0,Nat.zero_le _,rfl,hide (fun j h=>absurd h (by omega))⟩
 case round =>
  obtain⟨k,hk,rfl,hall⟩:=hrel;by_cases hlt:k<l.length
  ·obtain⟨b,o,rfl,h1⟩:=Hl.out.at_ (j:=k) (by simpa using hlt);simp only[List.getElem_map]at h1;have E:=hide (show l[k]?=some l[k]by simp[hlt]);generalize l[k]=s at h1 E
   go_wp2_with fail
   ·have ht:(x == s)=true:=by assumption
    go_ret;exact⟨jc.yes (by omega) (List.mem_of_getElem? (E.out.trans (congrArg some (by simpa using ht:x=s).symm))),rfl⟩
   ·have ht:(x == s)=false:=by assumption
    go_round
    case rel=>exact⟨k+1,by omega,by go_num,hide (Jo hall.out E.out (fun e=>by subst e;simp at ht))⟩
    case measure=>simp[intOf];omega
  ·go_wp2_with fail
   go_ret;exact⟨jc.no (Jp hall.out hlt),rfl⟩
theorem X7{S:Nat→Prop}{A:Option Addr}{c:Nat}{l:List Int}{x:Int}{w:World}(hl:Rd S w A (l.map (.int .u8)))(hlen:l.length≤9223372036854775807):
  Calls Tryz.prog 304 #[.slice A l.length c,.int .u8 x] w fun e w'=>ah (x∈l) e∧w=w':=by
 have Hl:=hide hl;clear hl;go_enter Tryz.func304,Tryz.ntmps304
 go_wp2_with(go_at_call 309;refine(X6 Hl.out hlen).mono ?_;rintro e w' ⟨⟨i,rfl,hlo,hi⟩,rfl⟩;have Hi:=hide hi;clear hi)
 go_ret;exact⟨ah.mk (by rw[←Hi.out];simp),rfl⟩
theorem X8{S:Nat→Prop}{A:Option Addr}{c:Nat}{l:List ByteArray}{x:ByteArray}{w:World}(hl:Rd S w A (l.map .string))(hlen:l.length≤9223372036854775807):
  Calls Tryz.prog 280 #[.slice A l.length c,.string x] w fun e w'=>jc (x∈l) e∧w=w':=by
 have Hl:=hide hl;clear hl;go_enter Tryz.func280,Tryz.ntmps280
 go_wp2_with fail
 go_loop [8,5] (fun i _=>∃k:Nat,k≤l.length∧i = .int .i64 k∧Hid (∀j,j<k→l[j]?≠some x)) (fun i _=>l.length-(intOf i).toNat)
 case atStart=>exact⟨0,Nat.zero_le _,rfl,hide (fun j h=>absurd h (by omega))⟩
 case round =>
  obtain⟨k,hk,rfl,hall⟩:=hrel;by_cases hlt:k<l.length
  ·obtain⟨b,o,rfl,h1⟩:=Hl.out.at_ (j:=k) (by simpa using hlt);simp only[List.getElem_map]at h1;have E:=hide (show l[k]?=some l[k]by simp[hlt]);generalize l[k]=s at h1 E
   go_wp2_with fail
   ·have ht:(x.toList == s.toList)=true:=by assumption
    go_ret;exact⟨jc.yes (by omega) (List.mem_of_getElem? (E.out.trans (congrArg some (Jd.1 ht).symm))),rfl⟩
   ·have ht:(x.toList == s.toList)=false:=by assumption
    go_round
    case rel=>exact⟨k+1,by omega,by go_num,hide (Jo hall.out E.out (fun e=>by subst e;simp at ht))⟩
    case measure=>simp[intOf];omega
  ·go_wp2_with fail
   go_ret;exact⟨jc.no (Jp hall.out hlt),rfl⟩
theorem Um{S:Nat→Prop}{A:Option Addr}{c:Nat}{l:List ByteArray}{x:ByteArray}{w:World}(hl:Rd S w A (l.map .string))(hlen:l.length≤9223372036854775807):
  Calls Tryz.prog 256 #[.slice A l.length c,.string x] w fun e w'=>ah (x∈l) e∧w=w':=by
 have Hl:=hide hl;clear hl;go_enter Tryz.func256,Tryz.ntmps256
 go_wp2_with(go_at_call 280;refine(X8 Hl.out hlen).mono ?_;rintro e w' ⟨⟨i,rfl,hlo,hi⟩,rfl⟩;have Hi:=hide hi;clear hi)
 go_ret;exact⟨ah.mk (by rw[←Hi.out];simp),rfl⟩
def kF(s:List UInt8)(b1 b2:Bool):Prop:=∀last:Bool,(b1=true∧(b2=true→last=true))↔jV last s
theorem AV{s:ByteArray}{k:Nat}(hk:k+1<s.size)(h:s[k]=10):kF s.data.toList false false:=by
 intro last;have hl:s.data.toList.length=s.size:=by simp
 constructor
 ·rintro⟨h1,_⟩;cases h1
 ·rintro⟨_,h2,_⟩;have hlt:k<s.data.toList.length:=by omega
  exact absurd (show s.data.toList[k]?=some 10 by rw[List.getElem?_eq_getElem hlt];exact congrArg some h) (h2 k (by omega))
theorem vW{s:ByteArray}(h:s.size=0):kF s.data.toList false true:=by
 intro last;have hl:s.data.toList.length=s.size:=by simp
 have hn:s.data.toList=[]:=List.length_eq_zero_iff.1 (by omega);constructor
 ·rintro⟨h1,_⟩;cases h1
 ·rintro⟨h1,_⟩;exact absurd hn h1
theorem vX{s:ByteArray}{b:Bool}{k:Nat}(hk:k+1=s.size)(h :∀j,(h:j+1<s.size)→s[j]≠10)(hb:b=true↔s[k]≠10):kF s.data.toList true b:=by
 intro last;have hl:s.data.toList.length=s.size:=by simp
 have hne:s.data.toList≠[]:=by intro e;rw[e]at hl;simp at hl;omega
 have hlast:s.data.toList.getLast?=some s[k]:=by
  have hlt:k<s.data.toList.length:=by omega
  rw[List.getLast?_eq_getElem?,hl,show s.size-1=k by omega,List.getElem?_eq_getElem hlt];rfl
 unfold jV;rw[hlast];have h2 :∀i,i+1<s.data.toList.length→s.data.toList[i]?≠some 10:=by
  intro i hi e;have hlt:i<s.data.toList.length:=by omega
  rw[List.getElem?_eq_getElem hlt]at e;exact h i (by omega) (Option.some.inj e)
 constructor
 ·rintro⟨_,h3⟩;refine⟨hne,h2,?_⟩;by_cases hb1:b=true
  ·exact .inl (h3 hb1)
  ·refine .inr ?_;by_cases h4:s[k]=10
   ·rw[h4]
   ·exact absurd (hb.2 h4) hb1
 ·rintro⟨_,_,h3⟩;refine⟨rfl,fun hb1=>?_⟩;rcases h3 with h3|h3
  ·exact h3
  ·exact absurd (Option.some.inj h3) (hb.1 hb1)
theorem rY(s:ByteArray)(w:World)(hs:s.size≤9223372036854775807):Calls Tryz.prog 260 #[.string s] w fun e w'=>(∃b1 b2,e = .returned (.tuple #[.bool b1,.bool b2])∧kF s.data.toList b1 b2)∧Below w.heap.size w w':=by
 have hz:=hide (mg s);by_cases h0:s.size=0
 ·have he:s.toList=[]:=by rw[mg];omega
  have He:=hide he;go_enter Tryz.func260,Tryz.ntmps260
  go_wp2
  go_loop [4] (fun i=>i = .int .i64 0) (fun _=>0)
  case atStart=>rfl
  case round =>
   subst hrel
   go_wp2_with fail
   go_quiet (fail)
   go_wp2_with fail
   go_ret2
   exact⟨⟨false,true,rfl,vW h0⟩,di (Below.refl _ _) _⟩
 ·have h1:1≤s.size:=by omega
  have hne :¬s.toList=[]:=by rw[mg];omega
  have hne2:s.toList.isEmpty=false:=by simpa using hne
  go_enter Tryz.func260,Tryz.ntmps260
  go_wp2
  go_loop [4] (fun i=>∃k:Nat,k+1≤s.size∧i = .int .i64 k∧Hid (∀j,j<k→(h:j+1<s.size)→s[j]≠10)) (fun i=>s.size-(intOf i).toNat)
  case atStart=>exact⟨0,by omega,rfl,hide (fun j h=>absurd h (by omega))⟩
  case round =>
   obtain⟨k,hk,rfl,hall⟩:=hrel;by_cases hlt:k+1<s.size
   ·go_wp2_with fail
    ·have ht:((s[k].toNat:Int) == 10)=true:=by assumption
     go_ret2
     exact⟨⟨false,false,rfl,AV hlt (UInt8.toNat_inj.1 (by have:=beq_iff_eq.1 ht;show s[k].toNat=10;omega))⟩,Below.refl _ _⟩
    ·have ht:((s[k].toNat:Int) == 10)=false:=by assumption
     go_round
     case rel=>exact⟨k+1,by omega,by go_num,hide (fun j hj h=>by
      rcases Nat.lt_or_ge j k with h2|h2
      ·exact hall.out j h2 h
      ·obtain rfl:j=k:=by omega
       intro e;rw[e]at ht;exact absurd ht (by decide))⟩
     case measure=>simp[intOf];omega
   ·have hkk:(s.size:Int)-1=(k:Int):=by omega
    have hks:k<s.size:=by omega
    go_wp2_with fail
    go_quiet (fail)
    go_wp2_with fail
    go_ret2
    refine⟨⟨true,_,rfl,vX (k:=k) (by omega) (fun j h=>hall.out j (by omega) h) ?_⟩,di (Below.refl _ _) _⟩;show((s[k].toNat:Int) != 10)=true↔s[k]≠10;rw[bne_iff_ne];constructor
    ·intro h1 h2;rw[h2]at h1;exact h1 rfl
    ·intro h1 h2;exact h1 (UInt8.toNat_inj.1 (by show s[k].toNat=10;omega))
theorem X9{l:List ByteArray}{k:Nat}(hk:k<l.length){s:ByteArray}(hs:l[k]?=some s):LinesOk (l.drop k)↔jV (decide (k+1=l.length)) s.data.toList∧LinesOk (l.drop (k+1)):=by
 have e:l[k]=s:=by
  have:=List.getElem?_eq_getElem hk;rw[this]at hs;injection hs
 rw[List.drop_eq_getElem_cons hk,LinesOk,e];have:(l.drop (k+1)).isEmpty=decide (k+1=l.length):=by
  rw[Bool.eq_iff_iff];simp;omega
 rw[this]
theorem Un{S:Nat→Prop}{A:Option Addr}{c:Nat}{l:List ByteArray}{w:World}(hl:bJ S w A l):
    Calls Tryz.prog 228 #[.slice A l.length c] w fun e w'=>ah (LinesOk l) e∧Below w.heap.size w w':=by
  have hl3:=hl.2.2;have Hl:=hide hl;clear hl;go_enter Tryz.func228,Tryz.ntmps228
  go_wp2_with fail
  go_loopw [3] (fun i wr=>∃k:Nat,k≤l.length∧i = .int .i64 k∧Hid (LinesOk l↔LinesOk (l.drop k))∧Hid (Below w.heap.size w wr)) (fun i _=>l.length-(intOf i).toNat)
  case atStart=>exact⟨0,Nat.zero_le _,rfl,hide Iff.rfl,hide (Below.refl _ _)⟩
  case round =>
    obtain⟨k,hk,rfl,hall,HB⟩:=hrel;by_cases hlt:k<l.length
    · obtain⟨b,o,rfl,h1⟩:=(Hl.out.below HB.out).1.at_ (j:=k) (by simpa using hlt)
      simp only[List.getElem_map]at h1;have hsz:=Hl.out.2.1 _ (List.getElem_mem hlt);have hd:=X9 hlt (s:=l[k]) (by simp[hlt]);generalize l[k]=s at h1 hsz hd;have Hd:=hide hd;clear hd
      go_wp2_with(go_at_call 260;(with_reducible refine(rY s _ hsz).mono ?_);rintro e w1 ⟨⟨b1,b2,rfl,Jq⟩,hB1⟩;have Jr:=hide Jq;have HB1:=hide (aW HB.out hB1);clear Jq hB1)
      all_goals first
        | (go_ret
           exact⟨ah.no (fun h=>by
            have h3:=(Jr.out _).2 (Hd.out.1 (hall.out.1 h)).1;have h4:=h3.1;have h5:=h3.2;simp only[decide_eq_true_eq]at h5
            first
              | contradiction
              | (have h6:=h5 (by assumption);omega)),HB1.out⟩)
        | (go_roundw
           case rel=>exact⟨k+1,by omega,by go_num,hide ⟨fun h=>(Hd.out.1 (hall.out.1 h)).2,fun h=>hall.out.2 (Hd.out.2 ⟨(Jr.out _).1 ⟨by assumption,fun hb=>decide_eq_true (by first|contradiction|omega)⟩,h⟩)⟩,HB1⟩
           case measure=>simp[intOf];omega)
    · go_wp2_with fail
      go_ret;exact⟨ah.yes (by have:=hall.out;rw[List.drop_eq_nil_of_le (by omega)]at this;exact this.2 trivial),HB.out⟩
end
end Go.Proofs.YtjjaojnglnpgaaaGreatDoor
