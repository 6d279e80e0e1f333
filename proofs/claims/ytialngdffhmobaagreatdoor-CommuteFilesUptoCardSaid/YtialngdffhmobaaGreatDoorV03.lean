/- Part 4 of what commuteFiles_cardUpto rests on. -/
import Derived.KernelRfl
import Derived.Deep.RegionHeld
import Derived.Laws.Append
import Derived.Test.YtialngdffhmobaaGreatDoorV02
import Derived.Test.YtialngdffhmobaaGreatDoorV00
set_option linter.unusedVariables false
set_option linter.unusedSimpArgs false
set_option maxHeartbeats 16000000
set_option maxRecDepth 1000000
namespace Go.Proofs.YtialngdffhmobaaGreatDoor
section
open Go.RowKit
structure Hh where
 oA:Option Addr
 oc:Nat
 nA:Option Addr
 nc:Nat
structure Eh where
 pA:Option Addr
 pc:Nat
 oA:Option Addr
 oc:Nat
 nA:Option Addr
 nc:Nat
structure Ph where
 h:Hh
 e:Eh
structure jv(S:Nat→Prop)(w:World)(x:Hh)(h:Hk):Prop where
 at_:aU h.at_
 old:bU S w x.oA h.old
 new:bU S w x.nA h.new
 oc:h.old.length≤x.oc∧x.oc≤9223372036854775807
 nc:h.new.length≤x.nc∧x.nc≤9223372036854775807
structure gq(S:Nat→Prop)(w:World)(x:Eh)(e:Ed):Prop where
 kind:e.kind<256
 path:IntsIn S w x.pA e.path
 at_:aU e.at_
 far:aU e.far
 frm:e.frm.size≤9223372036854775807
 to:e.to.size≤9223372036854775807
 old:bu S w x.oA e.old
 new:bu S w x.nA e.new
 pc:e.path.length≤x.pc∧x.pc≤9223372036854775807
 oc:e.old.len≤x.oc∧x.oc≤9223372036854775807
 nc:e.new.len≤x.nc∧x.nc≤9223372036854775807
structure gu(S:Nat→Prop)(w:World)(x:Ph)(p:Pt):Prop where
 kind:p.kind<256
 file:p.file.size≤9223372036854775807
 text:p.text.size≤9223372036854775807
 hunk:jv S w x.h p.hunk
 edit:gq S w x.e p.edit
section
variable {S S' : Nat → Prop} {w w' : World} {A : Option Addr}
theorem bU.below{l:List ByteArray}(h:bU S w A l)(hb:Below w.heap.size w w'):bU S w' A l:=⟨h.1.below hb,h.2⟩
theorem IntsIn.below{l:List Int}(h:IntsIn S w A l)(hb:Below w.heap.size w w'):IntsIn S w' A l:=⟨h.1.below hb,h.2⟩
theorem jv.below{x:Hh}{h:Hk}(a:jv S w x h)(hb:Below w.heap.size w w'):jv S w' x h:=⟨a.at_,a.old.below hb,a.new.below hb,a.oc,a.nc⟩
theorem gq.below{x:Eh}{e:Ed}(a:gq S w x e)(hb:Below w.heap.size w w'):gq S w' x e:=⟨a.kind,a.path.below hb,a.at_,a.far,a.frm,a.to,a.old.below hb,a.new.below hb,a.pc,a.oc,a.nc⟩
theorem gu.below{x:Ph}{p:Pt}(a:gu S w x p)(hb:Below w.heap.size w w'):gu S w' x p:=⟨a.kind,a.file,a.text,a.hunk.below hb,a.edit.below hb⟩
end
theorem Hk.eq_iff{a b:Hk}:a=b↔a.at_=b.at_∧a.old=b.old∧a.new=b.new:=by cases a;cases b;simp
theorem Ed.eq_iff{a b:Ed}:a=b↔a.kind=b.kind∧a.path=b.path∧a.at_=b.at_∧a.far=b.far∧a.frm=b.frm∧a.to=b.to∧a.old=b.old∧a.new=b.new:=by cases a;cases b;simp
theorem Pt.eq_iff{a b:Pt}:a=b↔a.kind=b.kind∧a.file=b.file∧a.text=b.text∧a.hunk=b.hunk∧a.edit=b.edit:=by cases a;cases b;simp
theorem Pt.eq_all{a b:Pt}:a=b↔a.kind=b.kind∧a.file=b.file∧a.text=b.text∧a.hunk.at_=b.hunk.at_∧a.hunk.old=b.hunk.old∧a.hunk.new=b.hunk.new∧
  a.edit.kind=b.edit.kind∧a.edit.path=b.edit.path∧a.edit.at_=b.edit.at_∧a.edit.far=b.edit.far∧a.edit.frm=b.edit.frm∧a.edit.to=b.edit.to∧a.edit.old=b.edit.old∧a.edit.new=b.edit.new:=by
 rw[Pt.eq_iff,Hk.eq_iff,Ed.eq_iff];grind
end
section
open Go.RowKit
section
variable {P : Program} {ops : Array Oper} {Q : Exit → Act → World → Prop} {o : Oper} {rest : List Oper} {n : Nat} {L L' : List Value} {df : List Deferred} {w : World} {v : Value}
theorem sk(h:wpList P ops Q rest ⟨L'.toArray,df⟩ w)(hd:o.dst=some n:=by rfl)
  (hy:(execOp (Act.mk L.toArray df).eval o).run P w = .ok (.value v) w:=by first|(go_simp;done)|(go_simp;with_reducible rfl))
  (hL:L.set n v=L':=by(try simp only[aA,aB]);rfl)
  (hw:Region.wanted o (yielded ops L.toArray)=true:=by rfl):wpList P ops Q (o::rest) ⟨L.toArray,df⟩ w:=by
 unfold wpList;rw[if_pos hw];refine .inl ?_;unfold Oper.wp;rw[hy];have e:(Act.mk L.toArray df).put o.dst v=⟨L'.toArray,df⟩:=by rw[hd,←hL];simp[Act.put]
 show wpList P ops Q rest ((Act.mk L.toArray df).put o.dst v) w;rw[e];exact h
theorem sg{b:Bool}(h:wpList P ops Q rest ⟨L'.toArray,df⟩ w)(hd:o.dst=some n:=by rfl)
  (hw:Region.wanted o (yielded ops L.toArray)=b)
  (hy:b=true→(execOp (Act.mk L.toArray df).eval o).run P w = .ok (.value v) w:=by intro hb;first|(go_simp;done)|(go_simp;with_reducible rfl))
  (hL:L.set n (if b then v else undef)=L':=by(try simp only[aA,aB]);rfl):wpList P ops Q (o::rest) ⟨L.toArray,df⟩ w:=by
 cases b with
 | true=>exact sk h hd (hy rfl) hL hw
 | false =>
  unfold wpList;rw[hw,if_neg (by simp)];have e:(Act.mk L.toArray df).put o.dst undef=⟨L'.toArray,df⟩:=by rw[hd,←hL];simp[Act.put]
  rw[e];exact h
theorem sp{a b:Nat}{g X:Bool}{ty:TypeId}{ps:String}{af:Array Edge}(h:wpList P ops Q rest ⟨L'.toArray,df⟩ w)
  (hx:L[a]?=some (.bool g):=by rfl) (hy:L[b]?=some (if g then .bool X else undef):=by simp only[List.getElem?_cons_succ,List.getElem?_cons_zero];with_reducible rfl)
  (hL:L.set n (.bool (g && X))=L':=by(try simp only[aA,aB]);rfl):
  wpList P ops Q ({dst:=some n,op:= .pick (.tmp a) (.tmp b) (.const (.bool false)),type:=ty,pos:=ps,after:=af,guard:=none}::rest) ⟨L.toArray,df⟩ w:=by
 refine sk (v:= .bool (g && X)) h rfl ?_ hL rfl;have e1:(Act.mk L.toArray df).eval (.tmp a) = .bool g:=by show L.toArray.getD a undef=_;simp[hx]
 have e2:(Act.mk L.toArray df).eval (.tmp b)=if g then .bool X else undef:=by show L.toArray.getD b undef=_;simp[hy]
 have e3:(Act.mk L.toArray df).eval (.const (.bool false)) = .bool false:=rfl;generalize (Act.mk L.toArray df).eval=ev at e1 e2 e3⊢;cases g<;>simp[execOp,e1,e2,e3,asBool,go_sem]
theorem ss{w':World}(h:wpList P ops Q rest ⟨L.toArray,df⟩ w')(hy:(execOp (Act.mk L.toArray df).eval o).run P w = .ok .skip w':=by first|(go_simp;done)|(go_simp;with_reducible rfl))(hd:o.dst=none:=by rfl)
  (hw:Region.wanted o (yielded ops L.toArray)=true:=by rfl):wpList P ops Q (o::rest) ⟨L.toArray,df⟩ w:=by
 unfold wpList;rw[if_pos hw];refine .inl ?_;unfold Oper.wp;rw[hy];show wpList P ops Q rest ((Act.mk L.toArray df).put o.dst undef) w';rw[hd];exact h
end
end
section
open Go.RowKit
section
variable {P : Program} {ops : Array Oper} {Q : Exit → Act → World → Prop} {md : Region.Mode} {S : World → Prop} {o : Oper} {fuel n : Nat} {listed : Array Bool} {L L' : List Value} {df : List Deferred} {w w' : World} {v : Value} {K : Act → World → Prop} {i j k : Nat} {a : Act}
abbrev Next(P:Program)(md:Region.Mode)(ops:Array Oper)(Q:Exit→Act→World→Prop)(S:World→Prop)(fuel:Nat)(listed:Array Bool)(a:Act)(w:World):Prop:=S w∧wpAnyH P md ops Q S fuel listed a w
theorem aP(i:Nat)(h:wpOp P ops Q i (fun a' w'=>Next P md ops Q S fuel (listed.setIfInBounds i true) a' w') a w)(hr:Region.ready md ops listed=[i]:=by kernel_rfl):wpAnyH P md ops Q S (fuel+1) listed a w :=
 ⟨fun e=>(by rw[hr]at e;cases e),fun x hx=>by rw[hr,List.mem_singleton]at hx;subst hx;exact h⟩
theorem iW(i j:Nat)(h:wpOp P ops Q i (fun a' w'=>Next P md ops Q S fuel (listed.setIfInBounds i true) a' w') a w)(h2:wpOp P ops Q j (fun a' w'=>Next P md ops Q S fuel (listed.setIfInBounds j true) a' w') a w)
  (hr:Region.ready md ops listed=[i,j]:=by kernel_rfl):wpAnyH P md ops Q S (fuel+1) listed a w :=
 ⟨fun e=>(by rw[hr]at e;cases e),fun x hx=>by
  rw[hr]at hx;rcases List.mem_cons.1 hx with rfl|hx
  ·exact h
  ·rw[List.mem_singleton]at hx;subst hx;exact h2⟩
theorem zI(i j k:Nat)(h:wpOp P ops Q i (fun a' w'=>Next P md ops Q S fuel (listed.setIfInBounds i true) a' w') a w)(h2:wpOp P ops Q j (fun a' w'=>Next P md ops Q S fuel (listed.setIfInBounds j true) a' w') a w)
  (h3:wpOp P ops Q k (fun a' w'=>Next P md ops Q S fuel (listed.setIfInBounds k true) a' w') a w) (hr:Region.ready md ops listed=[i,j,k]:=by kernel_rfl):wpAnyH P md ops Q S (fuel+1) listed a w :=
 ⟨fun e=>(by rw[hr]at e;cases e),fun x hx=>by
  rw[hr]at hx;rcases List.mem_cons.1 hx with rfl|hx
  ·exact h
  ·rcases List.mem_cons.1 hx with rfl|hx
   ·exact h2
   ·rw[List.mem_singleton]at hx;subst hx;exact h3⟩
theorem bc{f:FuncId}{args:Array Value}{post:Ending→World→Prop}(hc:Calls P f args w post)(h :∀e w',post e w'→∃u,e = .returned u∧K ⟨(L.set n u).toArray,df⟩ w')
  (hi:ops[i]?=some o:=by rfl) (he:(execOp (Act.mk L.toArray df).eval o).run P w = .ok (.enter f args) w:=by first|(go_simp;done)|(go_simp;with_reducible rfl)) (hd:o.dst=some n:=by rfl)
  (hw:Region.wanted o (yielded ops L.toArray)=true:=by rfl):wpOp P ops Q i K ⟨L.toArray,df⟩ w:=by
 unfold wpOp;simp only[hi];rw[if_pos hw];refine .inl ?_;unfold Oper.wp;rw[he];show Calls P f args w _;refine Calls.mono hc fun e w' hp=>?_;obtain⟨u,rfl,h2⟩:=h e w' hp;have e2:(Act.mk L.toArray df).put o.dst u=⟨(L.set n u).toArray,df⟩:=by rw[hd];simp[Act.put]
 show K ((Act.mk L.toArray df).put o.dst u) w';rw[e2];exact h2
theorem bw(h:K ⟨L'.toArray,df⟩ w')(hi:ops[i]?=some o:=by rfl)(hd:o.dst=some n:=by rfl)
  (hy:(execOp (Act.mk L.toArray df).eval o).run P w = .ok (.value v) w':=by first|(go_simp;done)|(go_simp;with_reducible rfl)|(go_simp;exact⟨rfl,rfl⟩))
  (hL:L.set n v=L':=by(try simp only[aA,aB]);rfl)
  (hw:Region.wanted o (yielded ops L.toArray)=true:=by rfl):wpOp P ops Q i K ⟨L.toArray,df⟩ w:=by
 unfold wpOp;simp only[hi];rw[if_pos hw];refine .inl ?_;unfold Oper.wp;rw[hy];have e:(Act.mk L.toArray df).put o.dst v=⟨L'.toArray,df⟩:=by rw[hd,←hL];simp[Act.put]
 show K ((Act.mk L.toArray df).put o.dst v) w';rw[e];exact h
theorem bs(h:K ⟨L.toArray,df⟩ w')(hi:ops[i]?=some o:=by rfl)
  (hy:(execOp (Act.mk L.toArray df).eval o).run P w = .ok .skip w':=by first|(go_simp;done)|(go_simp;with_reducible rfl)) (hd:o.dst=none:=by rfl)
  (hw:Region.wanted o (yielded ops L.toArray)=true:=by rfl):wpOp P ops Q i K ⟨L.toArray,df⟩ w:=by
 unfold wpOp;simp only[hi];rw[if_pos hw];refine .inl ?_;unfold Oper.wp;rw[hy];show K ((Act.mk L.toArray df).put o.dst undef) w';rw[hd];exact h
end
end
def Hk.more(h:Hk):Int:=(h.new.length:Int)-(h.old.length:Int)
def Hk.moved(h:Hk)(pX:Int):Hk:=⟨h.at_+pX,h.old,h.new⟩
def gV(a b:Hk):Prop:=dN a∧dN b
open Classical in
noncomputable def di(p q:Hk):Option (Hk×Hk):=
 if q.at_<p.at_-(q.old.length:Int)then(if gV (q.moved 0) (p.moved q.more)then some (q.moved 0,p.moved q.more)else none)
 else if p.at_<q.at_-(p.new.length:Int)then(if gV (q.moved (-p.more)) (p.moved 0)then some (q.moved (-p.more),p.moved 0)else none)
 else none
open Classical in
def Fo.names:Fo→List ByteArray
 | .nil=>[]
 | .cons k t _ ks r=>(if Named k then[t]else[])++(ks.names++r.names)
def Fo.binds:Fo→List ByteArray
 | .nil=>[]
 | .cons k t _ ks r=>(if k=2∨k=4∨k=6 then[t]else[])++(ks.binds++r.binds)
def Fo.calls:Fo→Prop
 | .nil=>False
 | .cons k _ _ ks r=>k=25∨ks.calls∨r.calls
def Fo.params:Fo→Prop
 | .nil=>False
 | .cons k _ _ _ r=>(k=3∨k=4)∨r.params
def Ed.parts(e:Ed):Fo:=e.old.app e.new
def Ed.names(e:Ed):List ByteArray:=if e.kind=1 then[e.frm,e.to]else e.parts.names
def Ed.binds(e:Ed):List ByteArray:=if e.kind=1 then[e.frm,e.to]else e.parts.binds
def meets(a b:List ByteArray):Prop:=∃s,s∈a∧s∈b
def iH(p q:Ed):Prop :=
 if p.kind=1∧q.kind=1 then p.path=q.path∨(p.to=q.frm∨p.to=q.to)∨q.to=p.frm
 else meets p.binds q.names∨meets q.binds p.names∨(p.kind≠1∧q.kind≠1∧((p.parts.params∧q.parts.calls)∨(q.parts.params∧p.parts.calls)))
def cO(e:Ed)(x:List Int):Option (List Int):=
 if e.kind=2 then some (iU x e.path e.at_)
 else if e.kind=3 then dh x e.path e.at_
 else if e.kind=4 then(if cZ x e.path then none else some x)
 else if e.kind=5 then(if cZ x (e.path++[e.at_])then none else some (mf x e.path e.at_ e.far))
 else some x
def Ed.up(e:Ed):Int:=if e.kind=2 then 1 else -1
def aT(p q:Ed):Option (Int×Int):=
 if p.kind=5∨q.kind=5 then none
 else if(if q.kind=3 then p.at_-1 else p.at_)≤q.at_∧q.at_≤(if p.kind=2 then p.at_+1 else p.at_)then none
 else if q.at_<p.at_ then some (q.at_,p.at_+q.up)
 else some (q.at_-p.up,p.at_)
def listed(e:Ed):Prop:=e.kind=2∨e.kind=3∨e.kind=5
instance (e:Ed):Decidable (listed e):=by unfold listed;infer_instance
def fE(p q:Ed):Option (Ed×Ed):=
 if listed p∧listed q∧p.path=q.path then(aT p q).map fun(j,i)=>({q with at_:=j},{p with at_:=i})
 else(cO p.inv q.path).bind fun x=>(cO {q with path:=x} p.path).map fun y=>({q with path:=x},{p with path:=y})
open Classical in
noncomputable def bT(p q:Ed):Option (Ed×Ed):=
 if iH p q then none else(fE p q).bind fun(a,b)=>if bQ a∧bQ b then some (a,b)else none
open Classical in
noncomputable def bz(p q:Pt):Option (Pt×Pt):=
 if p.file≠q.file then some (q,p)
 else if p.kind≠q.kind then none
 else if p.kind=3 then(di p.hunk q.hunk).map fun(a,b)=>({q with hunk:=a},{p with hunk:=b})
 else if p.kind=4 then(bT p.edit q.edit).map fun(a,b)=>({q with edit:=a},{p with edit:=b})
 else none
section
open Go.RowKit
section
variable {P : Program} {T e : TypeId} {z : Value} {size bytes : Nat}
end
end
theorem Hk.moved_zero(h:Hk):h.moved 0=h:=by cases h;simp[Hk.moved]
theorem GL{p q a b:Hk}(h:di p q=some (a,b)):dN a∧dN b:=by
 unfold di at h;split at h
 ·split at h
  ·next hb=>cases h;exact hb
  ·cases h
 ·split at h
  ·split at h
   ·next hb=>cases h;exact hb
   ·cases h
  ·cases h
theorem Ku{p q a b:Ed}(h:bT p q=some (a,b)):bQ a∧bQ b:=by
 unfold bT at h;split at h
 ·cases h
 ·obtain⟨⟨x,y⟩,_,h2⟩:=Option.bind_eq_some_iff.1 h;simp only at h2;split at h2
  ·next hb=>cases h2;exact hb
  ·cases h2
theorem Kv{p q a b:Pt}(hp:bF p)(hq:bF q)(h:bz p q=some (a,b)):bF a∧bF b:=by
 unfold bz at h;split at h
 ·cases h;exact⟨hq,hp⟩
 ·next hf =>
  split at h
  ·cases h
  ·next hk =>
   simp only[ne_eq,Decidable.not_not]at hf hk;split at h
   ·next h3 =>
    obtain⟨⟨x,y⟩,h1,h2⟩:=Option.map_eq_some_iff.1 h;cases h2;obtain⟨ha,hb⟩:=GL h1;have OW:q.kind=3:=hk▸h3;refine⟨⟨hq.1,.inr (.inl ?_)⟩,⟨hp.1,.inr (.inl ?_)⟩⟩
    ·obtain⟨_,h|h|h⟩:=hq
     ·omega
     ·exact⟨h.1,h.2.1,h.2.2.1,ha⟩
     ·omega
    ·obtain⟨_,h|h|h⟩:=hp
     ·omega
     ·exact⟨h.1,h.2.1,h.2.2.1,hb⟩
     ·omega
   ·next h3 =>
    split at h
    ·next h4 =>
     obtain⟨⟨x,y⟩,h1,h2⟩:=Option.map_eq_some_iff.1 h;cases h2;obtain⟨ha,hb⟩:=Ku h1;have OX:q.kind=4:=hk▸h4;refine⟨⟨hq.1,.inr (.inr ?_)⟩,⟨hp.1,.inr (.inr ?_)⟩⟩
     ·obtain⟨_,h|h|h⟩:=hq
      ·omega
      ·omega
      ·exact⟨h.1,h.2.1,h.2.2.1,ha⟩
     ·obtain⟨_,h|h|h⟩:=hp
      ·omega
      ·omega
      ·exact⟨h.1,h.2.1,h.2.2.1,hb⟩
    ·cases h
theorem Kw{p q a b:Pt}(h:bz p q=some (a,b)):(p.file≠q.file→a=q∧b=p)∧(p.file=q.file→a.kind=q.kind∧b.kind=p.kind∧p.kind=q.kind)∧a.file=q.file∧b.file=p.file:=by
 unfold bz at h;split at h
 ·next hf=>cases h;exact⟨fun _=>⟨rfl,rfl⟩,fun e=>absurd e hf,rfl,rfl⟩
 ·next hf =>
  split at h
  ·cases h
  ·next hk =>
   simp only[ne_eq,Decidable.not_not]at hf hk;split at h
   ·obtain⟨⟨x,y⟩,h1,h2⟩:=Option.map_eq_some_iff.1 h;cases h2;exact⟨fun e=>absurd hf e,fun _=>⟨rfl,rfl,hk⟩,rfl,rfl⟩
   ·split at h
    ·obtain⟨⟨x,y⟩,h1,h2⟩:=Option.map_eq_some_iff.1 h;cases h2;exact⟨fun e=>absurd hf e,fun _=>⟨rfl,rfl,hk⟩,rfl,rfl⟩
    ·cases h
end Go.Proofs.YtialngdffhmobaaGreatDoor
