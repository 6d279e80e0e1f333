/- Part 5 of what commuteFiles_cardUpto rests on. -/
import Derived.Deep.MidRow
import Derived.Laws.IdiomCopy
import Derived.Lib.AppendStr
import Derived.Test.YtialngdffhmobaaGreatDoorRows
import Derived.ChangeSlices
import Derived.SliceStrings
import Derived.Test.YtialngdffhmobaaGreatDoorV02
import Derived.Test.YtialngdffhmobaaGreatDoorV03
import Derived.Test.YtialngdffhmobaaGreatDoorV00
set_option linter.unusedVariables false
set_option linter.unusedSimpArgs false
set_option maxHeartbeats 16000000
set_option maxRecDepth 1000000
namespace Go.Proofs.YtialngdffhmobaaGreatDoor
section
open Go.RowKit
def ob(v:Value):List Nat:=v.ownBlock.toList
def lH(R:List (Value×Nat)):List Nat:=R.flatMap fun r=>ob r.1
theorem gy{v:Value}{g:Nat}:g∈ob v↔v.ownBlock=some g:=by simp[ob,Option.mem_toList]
theorem oH:lH []=[]:=rfl
theorem Au(r:Value×Nat)(R:List (Value×Nat)):lH (r::R)=ob r.1++lH R:=by simp[lH]
theorem Aw(R R':List (Value×Nat)):lH (R++R')=lH R++lH R':=by simp[lH]
section
variable {w w' : World} {e : TypeId} {size n : Nat} {v : Value} {xs : List Value}
theorem wO(h:w.ownsRow 0 e size v n xs)(hk :∀b∈ob v,w'.heap[b]?=w.heap[b]?):w'.ownsRow 0 e size v n xs:=by
 refine⟨h.1,?_⟩;rcases h.2 with hn|⟨g,cap,cur,rfl,hb,hgg,rest⟩
 ·exact .inl hn
 ·exact .inr ⟨g,cap,cur,rfl,hb,(hk g (gy.2 rfl)).trans hgg,rest⟩
theorem nI(h:w.ownsRow 0 e size v n xs):∀b∈ob v,b<w.heap.size:=fun b hb=>(h.lt b (gy.1 hb)).2
theorem GM{L L':List Nat}{M:Nat}(h:L.Nodup)(h':L'.Nodup)(hl :∀b∈L,b<M)(hl' :∀b∈L',M≤b):(L++L').Nodup :=
 List.nodup_append.2 ⟨h,h',fun a ha b hb e=>by have:=hl a ha;have:=hl' b hb;omega⟩
theorem uH(v:Value):(ob v).Nodup:=by unfold ob;cases v.ownBlock<;>simp
end
def kQ(w:World):List Value→Fo→List (Value×Nat)→Prop
 | vs,.nil,R=>vs=[]∧R=[]
 | vs,.cons k t n ks r,R=>∃KA c vs' ys R1 R2,vs = .int .u8 k :: .string t :: .int .i64 n :: .slice KA ks.len c::vs'∧(k<256∧t.size≤9223372036854775807∧aU n)∧
   w.ownsRow 0 152 4 (.slice KA ks.len c) ks.len ys∧kQ w ys ks R1∧kQ w vs' r R2∧R=(.slice KA ks.len c,ks.len)::(R1++R2)
section
variable {w w' : World}
theorem kQ.keep :∀{f:Fo} {vs:List Value} {R:List (Value×Nat)},kQ w vs f R→(∀b∈lH R,w'.heap[b]?=w.heap[b]?)→kQ w' vs f R:=by
 intro f
 induction f with
 | nil=>intro vs R h _;exact h
 | cons k t n ks r ihk ihr =>
  rintro vs R ⟨KA,c,vs',ys,R1,R2,rfl,h1,h2,h3,h4,rfl⟩ hk;simp only[Au,Aw,List.mem_append]at hk;exact⟨KA,c,vs',ys,R1,R2,rfl,h1,wO h2 fun b hb=>hk b (.inl hb),ihk h3 fun b hb=>hk b (.inr (.inl hb)),ihr h4 fun b hb=>hk b (.inr (.inr hb)),rfl⟩
theorem kQ.lt :∀{f:Fo} {vs:List Value} {R:List (Value×Nat)},kQ w vs f R→∀b∈lH R,b<w.heap.size:=by
 intro f
 induction f with
 | nil=>rintro vs R ⟨_,rfl⟩ b hb;simp[oH]at hb
 | cons k t n ks r ihk ihr =>
  rintro vs R ⟨KA,c,vs',ys,R1,R2,rfl,h1,h2,h3,h4,rfl⟩ b hb;simp only[Au,Aw,List.mem_append]at hb;rcases hb with hb|hb|hb
  ·exact nI h2 b hb
  ·exact ihk h3 b hb
  ·exact ihr h4 b hb
theorem Az{e n:Nat}{v:Value}{xs:List Value}{A:Option Addr}{c size:Nat}(h:w.ownsRow 0 e size v n xs)(hv:v = .slice A n c):n≤c∧c≤9223372036854775807:=by
 subst hv;rcases h.2 with⟨e1,e2⟩|⟨g,cap,cur,e1,_,_,hn,hc,_⟩
 ·injection e1 with _ _ e3;omega
 ·injection e1 with _ _ e3;unfold maxLen at hc;omega
theorem GN{S:Nat→Prop}{e n c:Nat}{A:Option Addr}{xs:List Value}(h:w.ownsRow 0 e 1 (.slice A n c) n xs)(hS :∀g∈ob (.slice A n c),S g):Rd S w A xs:=by
 obtain⟨A',c',e1,h1,_⟩:=nH (S:=S) h fun g hg=>hS g (gy.2 hg);injection e1 with e1;exact e1▸h1
theorem Ei{S:Nat→Prop}{e c:Nat}{A:Option Addr}{vs:List Value}{f:Fo}(h:w.ownsRow 0 e 4 (.slice A f.len c) f.len vs)(hS :∀g∈ob (.slice A f.len c),S g)(hf:bV S w vs f):bu S w A f:=by
 rcases h.2 with⟨e1,h0⟩|⟨g,cap,cur,e1,hb,hgg,hn,hc,_⟩
 ·have:f = .nil:=by cases f with
   | nil=>rfl
   | cons=>simp[Fo.len]at h0
  subst this;exact trivial
 ·injection e1 with e1 _ e3;subst e1;refine hf.at_ (fun b hS=>hS) (hS g (gy.2 rfl)) fun j u hu=>?_;have:=h.cells (g:=g) rfl j u hu
  rwa [Addr.add_lit]at this
theorem kQ.cells{S:Nat→Prop}:∀{f:Fo} {vs:List Value} {R:List (Value×Nat)},kQ w vs f R→(∀b∈lH R,S b)→bV S w vs f:=by
 intro f
 induction f with
 | nil=>rintro vs R ⟨rfl,_⟩ _;rfl
 | cons k t n ks r ihk ihr =>
  rintro vs R ⟨KA,c,vs',ys,R1,R2,rfl,⟨h1,h5,h6⟩,h2,h3,h4,rfl⟩ hS;simp only[Au,Aw,List.mem_append]at hS;obtain⟨hn,hc⟩:=Az h2 rfl;exact⟨KA,c,vs',rfl,h1,h5,h6,hn,hc,Ei h2 (fun g hg=>hS g (.inl hg)) (ihk h3 fun b hb=>hS b (.inr (.inl hb))),ihr h4 fun b hb=>hS b (.inr (.inr hb))⟩
theorem kQ.snoc{k:Nat}{t:ByteArray}{n:Int}{ks:Fo}{KA:Option Addr}{c:Nat}{ys:List Value}{R1:List (Value×Nat)}(h1:k<256∧t.size≤9223372036854775807∧aU n)
  (h2:w.ownsRow 0 152 4 (.slice KA ks.len c) ks.len ys) (h3:kQ w ys ks R1):
  ∀{f:Fo} {vs:List Value} {R:List (Value×Nat)},kQ w vs f R→kQ w (vs++[.int .u8 k,.string t,.int .i64 n,.slice KA ks.len c]) (f.app (.cons k t n ks .nil)) (R++(.slice KA ks.len c,ks.len)::R1):=by
 intro f
 induction f with
 | nil=>rintro vs R ⟨rfl,rfl⟩;exact⟨KA,c,[],ys,R1,[],rfl,h1,h2,h3,⟨rfl,rfl⟩,by simp⟩
 | cons k' t' n' ks' r _ ih =>
  rintro vs R ⟨jW,c',vs',ys',Ky,R2',rfl,g1,g2,g3,g4,rfl⟩;exact⟨jW,c',_,ys',Ky,_,rfl,g1,g2,g3,ih g4,by simp⟩
end
def bP(w:World)(A:Option Addr)(c:Nat)(f:Fo)(L:List Nat):Prop :=
 ∃vs R,w.ownsRow 0 152 4 (.slice A f.len c) f.len vs∧kQ w vs f R∧L=ob (.slice A f.len c)++lH R∧L.Nodup
def eF(e:TypeId)(w:World)(A:Option Addr)(c n:Nat)(xs:List Value)(L:List Nat):Prop:=w.ownsRow 0 e 1 (.slice A n c) n xs∧L=ob (.slice A n c)
section
variable {w w' : World} {A : Option Addr} {c : Nat} {f : Fo} {L : List Nat} {e : TypeId} {n : Nat} {xs : List Value}
theorem bP.keep(h:bP w A c f L)(hk :∀b∈L,w'.heap[b]?=w.heap[b]?):bP w' A c f L:=by
 obtain⟨vs,R,h1,h2,rfl,h3⟩:=h;exact⟨vs,R,wO h1 fun b hb=>hk b (by simp[hb]),h2.keep fun b hb=>hk b (by simp[hb]),rfl,h3⟩
theorem bP.lt(h:bP w A c f L):∀b∈L,b<w.heap.size:=by
 obtain⟨vs,R,h1,h2,rfl,h3⟩:=h;intro b hb;rcases List.mem_append.1 hb with hb|hb
 ·exact nI h1 b hb
 ·exact h2.lt b hb
theorem bP.fo{S:Nat→Prop}(h:bP w A c f L)(hS :∀b∈L,S b):bu S w A f:=by
 obtain⟨vs,R,h1,h2,rfl,h3⟩:=h;exact Ei h1 (fun g hg=>hS g (by simp[hg])) (h2.cells fun b hb=>hS b (by simp[hb]))
theorem bP.zero:bP w none 0 .nil []:=⟨[],[],⟨rfl,.inl ⟨rfl,rfl⟩⟩,⟨rfl,rfl⟩,rfl,List.nodup_nil⟩
theorem eF.keep(h:eF e w A c n xs L)(hk :∀b∈L,w'.heap[b]?=w.heap[b]?):eF e w' A c n xs L:=by
 obtain⟨h1,rfl⟩:=h;exact⟨wO h1 hk,rfl⟩
theorem eF.lt(h:eF e w A c n xs L):∀b∈L,b<w.heap.size:=by
 obtain⟨h1,rfl⟩:=h;exact nI h1
theorem eF.nodup(h:eF e w A c n xs L):L.Nodup:=by obtain⟨_,rfl⟩:=h;exact uH _
theorem eF.zero:eF e w none 0 0 [] []:=⟨⟨rfl,.inl ⟨rfl,rfl⟩⟩,rfl⟩
end
def jM(w:World)(x:Hh)(h:Hk)(L:List Nat):Prop:=∃L1 L2,eF 9 w x.oA x.oc h.old.length (h.old.map .string) L1∧eF 9 w x.nA x.nc h.new.length (h.new.map .string) L2∧L=L1++L2
def uI(w:World)(x:Eh)(e:Ed)(L:List Nat):Prop:=∃L1 L2 L3,eF 3 w x.pA x.pc e.path.length (e.path.map (.int .i64)) L1∧bP w x.oA x.oc e.old L2∧bP w x.nA x.nc e.new L3∧L=L1++(L2++L3)
section
variable {w w' : World} {L : List Nat}
theorem jM.keep{x:Hh}{h:Hk}(a:jM w x h L)(hk :∀b∈L,w'.heap[b]?=w.heap[b]?):jM w' x h L:=by
 obtain⟨L1,L2,h1,h2,rfl⟩:=a;exact⟨L1,L2,h1.keep fun b hb=>hk b (by simp[hb]),h2.keep fun b hb=>hk b (by simp[hb]),rfl⟩
theorem jM.lt{x:Hh}{h:Hk}(a:jM w x h L):∀b∈L,b<w.heap.size:=by
 obtain⟨L1,L2,h1,h2,rfl⟩:=a;intro b hb;rcases List.mem_append.1 hb with hb|hb
 ·exact h1.lt b hb
 ·exact h2.lt b hb
theorem jM.zero:jM w ⟨none,0,none,0⟩ Hk.zero []:=⟨[],[],eF.zero,eF.zero,rfl⟩
theorem uI.zero:uI w ⟨none,0,none,0,none,0⟩ Ed.zero []:=⟨[],[],[],eF.zero,bP.zero,bP.zero,rfl⟩
end
end
section
open Go.RowKit
structure Bx(wx:World)(N:Nat)(us:List Value):Prop where
 c:wx.rangeAt N 0 us
 f :∀o,wx.frozen? ⟨N,o,none⟩=false
 lt:N<wx.heap.size
theorem iI(b:Nat){k:Nat}(hk:k≠b):∀(vs:List Value) (o:Nat) (w:World),(w.setCells b o vs).heap[k]?=w.heap[k]?
 | [],_,_=>rfl
 | v::r,o,w=>by rw[World.setCells,iI b hk r,Below.heap_setCell _ _ _ k hk]
theorem dU(b:Nat):∀(vs:List Value) (o:Nat) (w:World),(w.setCells b o vs).heap.size=w.heap.size
 | [],_,_=>rfl
 | v::r,o,w=>by rw[World.setCells,dU b r];simp[World.setCell]
theorem dK{B b:Nat}(hb:B≤b):∀(vs:List Value) (o:Nat) {w w':World},Below B w w'→Below B w (w'.setCells b o vs)
 | [],_,_,_,h=>h
 | v::r,o,_,_,h=>dK hb r (o+1) (h.setCell (p:=⟨b,o,none⟩) hb v)
section
variable {w wx w1 : World} {N M : Nat} {us vs : List Value}
theorem Bx.new(w:World)(us:List Value)(t:TypeId):Bx (w.alloc (.cells us.toArray t)) w.heap.size us :=
 ⟨fun j v hv=>by rw[Lib.cell_of_heap (heap_alloc_new w _),Nat.zero_add];simpa using hv,fun o=>by unfold World.frozen?;rw[heap_alloc_new];simp,by simp⟩
theorem Bx.keep(h:Bx wx N us)(hb:w1.heap[N]?=wx.heap[N]?)(hs:wx.heap.size≤w1.heap.size):Bx w1 N us :=
 ⟨fun j v hv=>(World.cell?_of_block (a:=⟨N,0+j,none⟩) hb).trans (h.c j v hv),fun o=>by have:=h.f o;unfold World.frozen? at this⊢;rw[hb];exact this,aH h.lt hs⟩
theorem Bx.call(h:Bx wx N us)(hB:Below wx.heap.size wx w1):Bx w1 N us:=h.keep (hB.block N h.lt) hB.size
theorem Bx.alloc(h:Bx wx N us)(o:Obj):Bx (wx.alloc o) N us:=h.call (bg wx o)
theorem Bx.drew(h:Bx wx N us):Bx wx.drew N us:=⟨h.c,h.f,h.lt⟩
theorem Bx.off(h:Bx wx N us)(hN:N≠M)(o:Nat)(vs:List Value):Bx (wx.setCells M o vs) N us:=h.keep (iI M hN vs o wx) (by rw[dU];exact aC _)
theorem Bx.cell(h:Bx wx N us)(j:Nat){v:Value}(hv:us[j]?=some v:=by rfl):wx.cell? ⟨N,j,none⟩=some v:=by have:=h.c j v hv;rwa [Nat.zero_add]at this
theorem Bx.put(h:Bx wx N us)(o:Nat)(vs:List Value)(ho:o+vs.length≤us.length):Bx (wx.setCells N o vs) N (us.take o++vs++us.drop (o+vs.length)):=by
 refine⟨?_,fun q=>by rw[World.frozen?_setCells];exact h.f q,by rw[dU];exact h.lt⟩;intro j u hj;rw[Nat.zero_add];have hl:(us.take o).length=o:=by simp;omega
 by_cases h1:j<o
 ·rw[World.cell?_setCells_out N vs o wx ⟨N,j,none⟩ (fun _ _=> .inl h1)];rw[List.append_assoc,List.getElem?_append_left (by omega),List.getElem?_take,if_pos h1]at hj;exact h.cell j hj
 ·by_cases h2:j<o+vs.length
  ·have h3:=World.cell?_setCells_in N vs o wx (fun i hi=>by
    have:us[o+i]?=some us[o+i]:=List.getElem?_eq_getElem (by omega);rw[h.cell _ this];rfl) (j-o) (by omega)
   rw[show o+(j-o)=j by omega]at h3;rw[h3];rw[List.append_assoc,List.getElem?_append_right (by omega),hl,List.getElem?_append_left (by omega),List.getElem?_eq_getElem (by omega)]at hj;exact hj
  ·rw[World.cell?_setCells_out N vs o wx ⟨N,j,none⟩ (fun _ _=> .inr (by show o+vs.length≤j;omega))];rw[List.append_assoc,List.getElem?_append_right (by omega),hl,List.getElem?_append_right (by omega),List.getElem?_drop]at hj;rw[show o+vs.length+(j-o-vs.length)=j by omega]at hj;exact h.cell j hj
theorem Bx.puts(h:Bx wx N us)(o:Nat)(vs pY:List Value)(ho:o+vs.length≤us.length)(he:us.take o++vs++us.drop (o+vs.length)=pY:=by rfl):Bx (wx.setCells N o vs) N pY:=he▸h.put o vs ho
theorem Bx.th(h:Bx wx N us){o n:Nat}(hn:o+n≤us.length):wx.there N o n:=fun j hj=>by
 have hv:us[o+j]?=some (us[o+j]'(by omega)):=List.getElem?_eq_getElem (by omega);exact⟨by rw[h.cell _ hv];rfl,h.f _⟩
theorem Bx.sub{pre mid post:List Value}(h:Bx wx N (pre++(mid++post))):wx.rangeAt N pre.length mid:=fun j v hv =>
 h.cell (pre.length+j) (by rw[List.getElem?_append_right (by omega),Nat.add_sub_cancel_left,List.getElem?_append_left (by have:=(List.getElem?_eq_some_iff.1 hv).1;omega)];exact hv)
end
theorem wP{P:Program}{a:Act}{op:Oper}{ty:TypeId}{x:Operand}{b o:Nat}{cs:List Value}{d:TypeDesc}{w:World}(ho:op.op = .load ty x)(hx:a.eval x = .pointer (some ⟨b,o,none⟩))(hc:w.rangeAt b o cs)
  (hu:P.underlying ty=some d) (hd:d.isRow=true) (hi:(P.info? ty).map (·.size)=some cs.length):(execOp a.eval op).run P w = .ok (.value (.agg cs.toArray)) w:=by
 unfold execOp;simp only[ho,hx,Instr.loadAt,Instr.sureAddr,Sem.run_bind,Sem.run_pure,Result.andThen_ok,run_loadVar_mid w b o ty cs d hc hu hd hi]
theorem qc{P:Program}{W:World}(f:ResultVar→Sem Value)(r0:ResultVar)(v0:Value)(h0:(f r0).run P W = .ok v0 W):((#[r0].mapM f).run P W) = .ok #[v0] W:=by
 simp[go_sem,h0]
theorem nJ{P:Program}{fn:Func}{n ty:Nat}{T:Array Value}{W:World}{p:Nat}{cs:List Value}{d:TypeDesc}(hf:fn.results=#[.cell n ty])(hr:W.rangeAt p 0 cs)(hu:P.underlying ty=some d)(hi:(P.info? ty).map (·.size)=some cs.length)
  (hd:d.isRow=true:=by rfl) (h:T[n]?=some (.pointer (some ⟨p,0,none⟩)):=by rfl):(results fn T).run P W = .ok (.agg cs.toArray) W:=by
 have hg:T.getD n undef = .pointer (some ⟨p,0,none⟩):=by rw[Array.getD_eq_getD_getElem?,h];rfl
 unfold results;rw[Sem.run_bind,hf,qc _ _ (.agg cs.toArray)]
 ·rfl
 ·show((asAddr (T.getD n undef)) >>= fun a=>loadVar ty a).run P W=_;rw[hg,Sem.run_bind];simp only[asAddr,Sem.run_pure,Result.andThen_ok];exact run_loadVar_mid W p 0 ty cs d hr hu hd hi
section
variable {P : Program} {ops : Array Oper} {Q : Exit → Act → World → Prop} {o : Oper} {rest : List Oper} {n : Nat} {L L' : List Value} {df : List Deferred} {w : World} {v : Value}
theorem gc{f:FuncId}{args:Array Value}{post:Ending→World→Prop}(hc:Calls P f args w post)(h :∀e w',post e w'→∃u,e = .returned u∧wpList P ops Q rest ⟨(L.set n u).toArray,df⟩ w')
  (he:(execOp (Act.mk L.toArray df).eval o).run P w = .ok (.enter f args) w:=by first|(go_simp;done)|(go_simp;with_reducible rfl)) (hd:o.dst=some n:=by rfl)
  (hw:Region.wanted o (yielded ops L.toArray)=true:=by rfl):wpList P ops Q (o::rest) ⟨L.toArray,df⟩ w:=by
 unfold wpList;rw[if_pos hw];refine .inl ?_;unfold Oper.wp;rw[he];show Calls P f args w _;refine Calls.mono hc fun e w' hp=>?_;obtain⟨u,rfl,h2⟩:=h e w' hp;have e2:(Act.mk L.toArray df).put o.dst u=⟨(L.set n u).toArray,df⟩:=by rw[hd];simp[Act.put]
 show wpList P ops Q rest ((Act.mk L.toArray df).put o.dst u) w';rw[e2];exact h2
theorem gl{ty:TypeId}{x:Operand}{b off:Nat}{cs:List Value}{d:TypeDesc}(h:wpList P ops Q rest ⟨L'.toArray,df⟩ w)(hc:w.rangeAt b off cs)
  (hu:P.underlying ty=some d) (hi:(P.info? ty).map (·.size)=some cs.length) (ho:o.op = .load ty x:=by rfl) (hx:(Act.mk L.toArray df).eval x = .pointer (some ⟨b,off,none⟩):=by rfl) (hd2:d.isRow=true:=by rfl) (hd:o.dst=some n:=by rfl)
  (hL:L.set n (.agg cs.toArray)=L':=by(try simp only[aA,aB]);rfl) (hw:Region.wanted o (yielded ops L.toArray)=true:=by rfl):wpList P ops Q (o::rest) ⟨L.toArray,df⟩ w :=
 sk h hd (wP ho hx hc hu hd2 hi) hL hw
theorem gs{ty:TypeId}{x y:Operand}{b off:Nat}{cells:Array Value}(h:wpList P ops Q rest ⟨L.toArray,df⟩ (w.setCells b off cells.toList))(ht:w.there b off cells.size)(hi:(P.info? ty).map (·.size)=some cells.size)(h1:cells.all (·.oneCell')=true)
  (ho:o.op = .store ty x y:=by rfl) (hx:(Act.mk L.toArray df).eval x = .pointer (some ⟨b,off,none⟩):=by rfl) (hy:(Act.mk L.toArray df).eval y = .agg cells:=by rfl) (hd:o.dst=none:=by rfl)
  (hw:Region.wanted o (yielded ops L.toArray)=true:=by rfl):wpList P ops Q (o::rest) ⟨L.toArray,df⟩ w:=by
 unfold wpList;rw[if_pos hw];refine .inl (wp_store_mid ty x y ho b off cells hx hy ht hi h1 ?_);rw[hd];exact h
theorem gw{w':World}(h:wpList P ops Q rest ⟨L'.toArray,df⟩ w')(hd:o.dst=some n:=by rfl)
  (hy:(execOp (Act.mk L.toArray df).eval o).run P w = .ok (.value v) w':=by first|(go_simp;done)|(go_simp;with_reducible rfl)|(go_simp;exact⟨rfl,rfl⟩))
  (hL:L.set n v=L':=by(try simp only[aA,aB]);rfl)
  (hw:Region.wanted o (yielded ops L.toArray)=true:=by rfl):wpList P ops Q (o::rest) ⟨L.toArray,df⟩ w:=by
 unfold wpList;rw[if_pos hw];refine .inl ?_;unfold Oper.wp;rw[hy];have e:(Act.mk L.toArray df).put o.dst v=⟨L'.toArray,df⟩:=by rw[hd,←hL];simp[Act.put]
 show wpList P ops Q rest ((Act.mk L.toArray df).put o.dst v) w';rw[e];exact h
end
end
section
open Go.RowKit
section
variable {P : Program} {ops : Array Oper} {Q : Exit → Act → World → Prop} {md : Region.Mode} {S : World → Prop} {o : Oper} {fuel n : Nat} {listed : Array Bool} {L L' : List Value} {df : List Deferred} {w w' : World} {v : Value} {K : Act → World → Prop} {i j k : Nat} {a : Act}
theorem bm{ty:TypeId}{x y:Operand}{b off:Nat}{cells:Array Value}(h:K ⟨L.toArray,df⟩ (w.setCells b off cells.toList))(ht:w.there b off cells.size)(hz:(P.info? ty).map (·.size)=some cells.size)(h1:cells.all (·.oneCell')=true)
  (hi:ops[i]?=some o:=by rfl) (ho:o.op = .store ty x y:=by rfl) (hx:(Act.mk L.toArray df).eval x = .pointer (some ⟨b,off,none⟩):=by rfl) (hy:(Act.mk L.toArray df).eval y = .agg cells:=by rfl) (hd:o.dst=none:=by rfl)
  (hw:Region.wanted o (yielded ops L.toArray)=true:=by rfl):wpOp P ops Q i K ⟨L.toArray,df⟩ w:=by
 unfold wpOp;simp only[hi];rw[if_pos hw];refine .inl (wp_store_mid ty x y ho b off cells hx hy ht hz h1 ?_);rw[hd];exact h
theorem tl(i:Nat){ty:TypeId}{x:Operand}{b off:Nat}{cs:List Value}{d:TypeDesc}(hS:S w)(h:wpAnyH P md ops Q S fuel (listed.setIfInBounds i true) ⟨L'.toArray,df⟩ w)(hc :∀W,S W→W.rangeAt b off cs)
  (hu:P.underlying ty=some d) (hz:(P.info? ty).map (·.size)=some cs.length) (hi:ops[i]?=some o:=by rfl) (ho:o.op = .load ty x:=by rfl) (hx:(Act.mk L.toArray df).eval x = .pointer (some ⟨b,off,none⟩):=by rfl) (hd2:d.isRow=true:=by rfl) (hd:o.dst=some n:=by rfl)
  (hL:L.set n (.agg cs.toArray)=L':=by(try simp only[aA,aB]);rfl) (hw:Region.wanted o (yielded ops L.toArray)=true:=by rfl)
  (hs:Region.noSelect ops=true:=by kernel_rfl) (hf:Region.free md ops listed i=true:=by kernel_rfl) (hr:(Region.ready md ops listed).contains i=true:=by kernel_rfl)
  (hQ :∀c a w,Q (.panic c) (a.put o.dst (.agg cs.toArray)) w→Q (.panic c) a w:=by exact fun _ _ _ h=>h):wpAnyH P md ops Q S (fuel+1) listed ⟨L.toArray,df⟩ w :=
 tk i hS (fun W hW=>wP ho hx (hc W hW) hu hd2 hz) (by rw[hL];exact h) hi hd hw hs hf hr hQ
theorem GR{W:World}(f:ResultVar→Sem Value)(r0 r1:ResultVar)(v0 v1:Value)(h0:(f r0).run P W = .ok v0 W)(h1:(f r1).run P W = .ok v1 W):((#[r0,r1].mapM f).run P W) = .ok #[v0,v1] W:=by
 simp[go_sem,h0,h1]
theorem AA{n ty:Nat}{T:Array Value}{W:World}{p:Nat}{cs:List Value}{d:TypeDesc}(hr:W.rangeAt p 0 cs)(hu:P.underlying ty=some d)(hi:(P.info? ty).map (·.size)=some cs.length)(hd:d.isRow=true)(h:T[n]?=some (.pointer (some ⟨p,0,none⟩))):
  ((asAddr (T.getD n undef)) >>= fun a=>loadVar ty a).run P W = .ok (.agg cs.toArray) W:=by
 have hg:T.getD n undef = .pointer (some ⟨p,0,none⟩):=by rw[Array.getD_eq_getD_getElem?,h];rfl
 rw[hg,Sem.run_bind];simp only[asAddr,Sem.run_pure,Result.andThen_ok];exact run_loadVar_mid W p 0 ty cs d hr hu hd hi
theorem GU{fn:Func}{n m ty xU:Nat}{T:Array Value}{W:World}{p q:Nat}{cs ds:List Value}{d d2:TypeDesc}(hf:fn.results=#[.cell n ty,.cell m xU])(hr:W.rangeAt p 0 cs)(hr2:W.rangeAt q 0 ds)(hu:P.underlying ty=some d)(hu2:P.underlying xU=some d2)
  (hi:(P.info? ty).map (·.size)=some cs.length) (hi2:(P.info? xU).map (·.size)=some ds.length) (hd:d.isRow=true:=by rfl) (hd2:d2.isRow=true:=by rfl) (h:T[n]?=some (.pointer (some ⟨p,0,none⟩)):=by rfl) (h2:T[m]?=some (.pointer (some ⟨q,0,none⟩)):=by rfl):
  (results fn T).run P W = .ok (.tuple #[.agg cs.toArray,.agg ds.toArray]) W:=by
 unfold results;rw[Sem.run_bind,hf,GR _ _ _ (.agg cs.toArray) (.agg ds.toArray)]
 ·rfl
 ·exact AA hr hu hi hd h
 ·exact AA hr2 hu2 hi2 hd2 h2
theorem Kz{W:World}(f:ResultVar→Sem Value)(r0 r1 r2:ResultVar)(v0 v1 v2:Value)(h0:(f r0).run P W = .ok v0 W)(h1:(f r1).run P W = .ok v1 W)(h2:(f r2).run P W = .ok v2 W):((#[r0,r1,r2].mapM f).run P W) = .ok #[v0,v1,v2] W:=by
 simp[go_sem,h0,h1,h2]
theorem ni{fn:Func}{n m s ty xU:Nat}{T:Array Value}{W:World}{p q:Nat}{cs ds:List Value}{d d2:TypeDesc}{x:Value}(hf:fn.results=#[.cell n ty,.cell m xU,.tmp s])(hr:W.rangeAt p 0 cs)(hr2:W.rangeAt q 0 ds)(hu:P.underlying ty=some d)(hu2:P.underlying xU=some d2)
  (hi:(P.info? ty).map (·.size)=some cs.length) (hi2:(P.info? xU).map (·.size)=some ds.length) (hd:d.isRow=true:=by rfl) (hd2:d2.isRow=true:=by rfl) (h:T[n]?=some (.pointer (some ⟨p,0,none⟩)):=by rfl) (h2:T[m]?=some (.pointer (some ⟨q,0,none⟩)):=by rfl) (h3:T[s]?=some x:=by rfl):
  (results fn T).run P W = .ok (.tuple #[.agg cs.toArray,.agg ds.toArray,x]) W:=by
 unfold results;rw[Sem.run_bind,hf,Kz _ _ _ _ (.agg cs.toArray) (.agg ds.toArray) x]
 ·rfl
 ·exact AA hr hu hi hd h
 ·exact AA hr2 hu2 hi2 hd2 h2
 ·have hg:T.getD s undef=x:=by rw[Array.getD_eq_getD_getElem?,h3];rfl
  show(pure (T.getD s undef):Sem Value).run P W=_;rw[hg];rfl
end
end
section
open Go.RowKit
abbrev uU:World→Value→Value→Prop:=fun _ v x=>v=x
theorem KD(r:Nat):Stable r uU:=fun _ _ _ _ _ h=>h
section
variable {P : Program} {ops : Array Oper} {Q : Exit → Act → World → Prop} {o : Oper} {rest : List Oper} {n r : Nat} {L L' : List Value} {df : List Deferred} {w : World} {v : Value} {T K E : TypeId} {kd : IntKind} {t : List (Int × Value)}
theorem gi{x y z:Operand}{k:Int}(hT:Tab uU kd w r t)(h :∀w',Tab uU kd w' r (t++[(k,v)])→w.grownBy w' (some r)→wpList P ops Q rest ⟨L.toArray,df⟩ w')
  (ht:P.underlying T=some (.map K E)) (hK:P.underlying K=some (.int kd)) (hn:t.find? (fun p=>k == p.1)=none:=by rfl)
  (ho:o.op = .insert T x y z:=by rfl) (hx:(Act.mk L.toArray df).eval x = .map (some r):=by rfl) (hy:(Act.mk L.toArray df).eval y = .int kd k:=by rfl) (hz:(Act.mk L.toArray df).eval z=v:=by rfl) (hd:o.dst=none:=by rfl)
  (hw:Region.wanted o (yielded ops L.toArray)=true:=by rfl):wpList P ops Q (o::rest) ⟨L.toArray,df⟩ w:=by
 obtain⟨w',hrun,h1,h2⟩:=GK (P:=P) hT (KD r) ht hK (k:=k) (v:=v) (x:=v) rfl hn;unfold wpList;rw[if_pos hw];refine .inl ?_;unfold Oper.wp;have e:(execOp (Act.mk L.toArray df).eval o).run P w = .ok .skip w':=by
  unfold execOp;simp only[ho,hx,hy,hz,Sem.run_bind,hrun,Result.andThen_ok,Sem.run_pure]
 rw[e];show wpList P ops Q rest ((Act.mk L.toArray df).put o.dst undef) w';rw[hd];exact h w' h1 h2
theorem GV{a:Act}{x y:Operand}{k k':Int}(hT:Tab uU kd w r t)(ht:P.underlying T=some (.map K E))(hK:P.underlying K=some (.int kd)){z:Value}(hz:(zeroValue E).run P w = .ok z w)(hf:t.find? (fun p=>k == p.1)=some (k',v))
  (ho:o.op = .lookup T x y true) (hx:a.eval x = .map (some r)) (hy:a.eval y = .int kd k):(execOp a.eval o).run P w = .ok (.value (.tuple #[v,.bool true])) w:=by
 rcases Eg (P:=P) hT ht hK hz k with⟨h1,_⟩|⟨k2,x2,v2,h1,h2,h3⟩
 ·rw[h1]at hf;cases hf
 ·rw[h1]at hf;injection hf with hf;injection hf with _ hf;have h2:v2=x2:=h2;subst h2 hf;unfold execOp;simp only[ho,hx,hy,Sem.run_bind,h3,Result.andThen_ok,Sem.run_pure]
theorem GX{a:Act}{x y:Operand}{k:Int}(hT:Tab uU kd w r t)(ht:P.underlying T=some (.map K E))(hK:P.underlying K=some (.int kd)){z:Value}(hz:(zeroValue E).run P w = .ok z w)(hf:t.find? (fun p=>k == p.1)=none)
  (ho:o.op = .lookup T x y true) (hx:a.eval x = .map (some r)) (hy:a.eval y = .int kd k):(execOp a.eval o).run P w = .ok (.value (.tuple #[z,.bool false])) w:=by
 rcases Eg (P:=P) hT ht hK hz k with⟨_,h3⟩|⟨k2,x2,v2,h1,h2,h3⟩
 ·unfold execOp;simp only[ho,hx,hy,Sem.run_bind,h3,Result.andThen_ok,Sem.run_pure]
 ·rw[h1]at hf;cases hf
end
theorem Bx.grown{w w':World}{N r:Nat}{us:List Value}(h:Bx w N us)(hg:w.grownBy w' (some r))(hN:N≠r):Bx w' N us:=h.keep (hg.block N h.lt (by simp;exact fun e=>hN e)) hg.size
end
section
open Go.RowKit
section
variable {P : Program} {w : World} {ops : Array Oper} {rest : List Oper} {o : Oper} {a : Act} {K0 : Exit → Act → World → Prop}
end
end
section
open Go.RowKit
section
variable {P : Program} {ops : Array Oper} {Q : Exit → Act → World → Prop} {o : Oper} {rest : List Oper} {n : Nat} {L L' : List Value} {df : List Deferred} {w : World} {v : Value}
theorem GY(h:wpList P ops Q rest ⟨(L.set n undef).toArray,df⟩ w)(hd:o.dst=some n)(hw:Region.wanted o (yielded ops L.toArray)=false):wpList P ops Q (o::rest) ⟨L.toArray,df⟩ w:=by
 unfold wpList;rw[hw,if_neg (by simp)];have e:(Act.mk L.toArray df).put o.dst undef=⟨(L.set n undef).toArray,df⟩:=by rw[hd];simp[Act.put]
 rw[e];exact h
theorem GZ{b:Bool}{w w' w1:World}(hy:b=true→w'=w1)(hn:b=false→w'=w)(hB:Below w.heap.size w w1):Below w.heap.size w w':=by
 cases b with
 | true=>rw[hy rfl];exact hB
 | false=>rw[hn rfl];exact Below.refl _ _
theorem G5(b:Bool){w1:World}(h :∀w',(b=true→w'=w1)→(b=false→w'=w)→wpList P ops Q rest ⟨L'.toArray,df⟩ w')
  (hw:Region.wanted o (yielded ops L.toArray)=b)
  (hy:b=true→(execOp (Act.mk L.toArray df).eval o).run P w = .ok (.value v) w1:=by intro hb;first|(go_simp;done)|(go_simp;with_reducible rfl)|(go_simp;exact⟨rfl,rfl⟩)) (hd:o.dst=some n:=by rfl)
  (hL:L.set n (if b then v else undef)=L':=by(try simp only[aA,aB]);rfl):wpList P ops Q (o::rest) ⟨L.toArray,df⟩ w:=by
 subst hL;cases b with
 | true=>exact gw (h w1 (fun _=>rfl) (fun h=>by cases h)) hd (hy rfl) (by simp) hw
 | false=>exact GY (by simpa using h w (fun h=>by cases h) (fun _=>rfl)) hd hw
theorem wQ(b:Bool){f:FuncId}{args:Array Value}{X:Prop}(hc:b=true→Calls P f args w fun e w'=>ay X e∧Below w.heap.size w w')
  (h :∀(c:Bool) w',(b=true→(c=true↔X))→Below w.heap.size w w'→wpList P ops Q rest ⟨(L.set n (if b then .bool c else undef)).toArray,df⟩ w')
  (hw:Region.wanted o (yielded ops L.toArray)=b)
  (he:b=true→(execOp (Act.mk L.toArray df).eval o).run P w = .ok (.enter f args) w:=by intro hb;first|(go_simp;done)|(go_simp;with_reducible rfl)) (hd:o.dst=some n:=by rfl):wpList P ops Q (o::rest) ⟨L.toArray,df⟩ w:=by
 cases b with
 | true=>exact gc (hc rfl) (fun e w' ⟨⟨c,h1,h2⟩,hB⟩=>⟨.bool c,h1,h c w' (fun _=>h2) hB⟩) (he rfl) hd hw
 | false=>exact GY (h false w (fun h=>by cases h) (Below.refl _ _)) hd hw
theorem so{a b:Nat}{g g1 X:Bool}{ty:TypeId}{ps:String}{af:Array Edge}(hg:g1 = !g)(h :∀c d:Bool,c=(g || X)→d = !c→wpList P ops Q rest ⟨(L.set n (.bool c)).toArray,df⟩ w)
  (hx:L[a]?=some (.bool g):=by rfl) (hy:L[b]?=some (if g1 then .bool X else undef):=by simp only[List.getElem?_cons_succ,List.getElem?_cons_zero];with_reducible rfl):
  wpList P ops Q ({dst:=some n,op:= .pick (.tmp a) (.const (.bool true)) (.tmp b),type:=ty,pos:=ps,after:=af,guard:=none}::rest) ⟨L.toArray,df⟩ w:=by
 subst hg;refine sk (v:= .bool (g || X)) (h _ _ rfl rfl) rfl ?_ rfl rfl;have e1:(Act.mk L.toArray df).eval (.tmp a) = .bool g:=by show L.toArray.getD a undef=_;simp[hx]
 have e2:(Act.mk L.toArray df).eval (.tmp b)=if(!g)then .bool X else undef:=by show L.toArray.getD b undef=_;simp[hy]
 have e3:(Act.mk L.toArray df).eval (.const (.bool true)) = .bool true:=rfl;generalize (Act.mk L.toArray df).eval=ev at e1 e2 e3⊢;cases g<;>simp[execOp,e1,e2,e3,asBool,go_sem]
theorem sa{a b:Nat}{g X:Bool}{ty:TypeId}{ps:String}{af:Array Edge}(h :∀c:Bool,c=(g && X)→wpList P ops Q rest ⟨(L.set n (.bool c)).toArray,df⟩ w)
  (hx:L[a]?=some (.bool g):=by rfl) (hy:L[b]?=some (if g then .bool X else undef):=by simp only[List.getElem?_cons_succ,List.getElem?_cons_zero];with_reducible rfl):
  wpList P ops Q ({dst:=some n,op:= .pick (.tmp a) (.tmp b) (.const (.bool false)),type:=ty,pos:=ps,after:=af,guard:=none}::rest) ⟨L.toArray,df⟩ w :=
 sp (h _ rfl) hx hy rfl
end
end
section
open Go.RowKit Go.ChangeShapes Go.WideShapes
theorem wR{H:Type}(d:DataW H):1≤Rows.uptoBulk d:=by
 cases d with
 | lit l=>cases l<;>simp[Rows.uptoBulk]
 | nil=>simp[Rows.uptoBulk]
 | ptr d=>simp[Rows.uptoBulk]
 | slice elems spare=>simp[Rows.uptoBulk]
 | agg parts=>simp[Rows.uptoBulk]
 | iface t d=>simp[Rows.uptoBulk]
 | map entries=>simp[Rows.uptoBulk]
 | held h=>simp[Rows.uptoBulk]
theorem ry{H:Type}(s:ByteArray):Rows.uptoBulk (DataW.lit (H:=H) (.string s.data.toList))=s.size+1:=by
 have:s.data.toList.length=s.size:=rfl;simp[Rows.uptoBulk,this]
theorem Ej{H:Type}(es sp:List (DataW H)):Rows.uptoBulkAll es+1≤Rows.uptoBulk (.slice es sp):=by
 simp only[Rows.uptoBulk];omega
theorem G6{H:Type}:∀ss:List ByteArray,8*ss.length+((ss.map jS).flatten).length≤16*Rows.uptoBulkAll (H:=H) (strs ss)
 | []=>Nat.zero_le _
 | s::ss=>by
  have h:=G6 (H:=H) ss;have e:strs (H:=H) (s::ss) = .lit (.string s.data.toList)::strs ss:=rfl;have h8 :∀n:Int,(iq n).length=8:=fun n=>rfl;have hs:s.data.toList.length=s.size:=rfl;rw[e];simp only[Rows.uptoBulkAll,ry,List.length_cons,List.map_cons,List.flatten_cons,aJ,jS,h8,hs];omega
theorem G7{H:Type}{k:IntKind}:∀zs:List Int,zs.length≤Rows.uptoBulkAll (H:=H) (lits k zs)
 | []=>Nat.zero_le _
 | z::zs=>by
  have h:=G7 (H:=H) (k:=k) zs;have e:lits (H:=H) k (z::zs) = .lit (.int k z)::lits k zs:=rfl;have:=wR (H:=H) (.lit (.int k z));rw[e];simp only[Rows.uptoBulkAll,List.length_cons];omega
theorem G8(l:List Int):(lM l).length=8+8*l.length:=by
 have h8 :∀n:Int,(iq n).length=8:=fun n=>rfl;have :∀l:List Int,((l.map iq).flatten).length=8*l.length:=by
  intro l
  induction l with
  | nil=>rfl
  | cons z l ih=>simp only[List.map_cons,List.flatten_cons,aJ,h8,ih,List.length_cons];omega
 simp only[lM,aJ,h8,this]
theorem uV:IntKind.i64.min = -9223372036854775808:=by rfl
theorem uX:IntKind.i64.max=9223372036854775807:=by rfl
theorem xW:IntKind.u8.min=0:=by rfl
theorem xX:IntKind.u8.max=255:=by rfl
theorem wf_u8{n:Int}(h:(Lit.int .u8 n).wf=true):∃k:Nat,n=(k:Int)∧k<256:=by
 simp only[Lit.wf,Bool.and_eq_true,decide_eq_true_eq,IntKind.has,xW,xX]at h;exact⟨n.toNat,by omega,by omega⟩
theorem AB{n:Int}(h:(Lit.int .i64 n).wf=true):aU n:=by
 simp only[Lit.wf,Bool.and_eq_true,decide_eq_true_eq,IntKind.has,uV,uX]at h;exact h
theorem mQ{n:Nat}(h:n≤maxLen):n≤9223372036854775807:=by unfold maxLen at h;omega
theorem rC{w:World}{a:Addr}{vs:List Value}(h :∀(i:Nat) u,vs[i]?=some u→w.cell? (a.add i)=some u):Rd (fun _=>True) w (some a) vs:=by
 rcases vs with _|⟨v,vs⟩
 ·exact .inl rfl
 ·have h0:w.cell? a=some v:=by have:=h 0 v rfl;simpa[Addr.add]using this
  obtain⟨b,o,sp⟩:=a;cases sp with
  | some k=>exfalso;unfold World.cell? at h0;split at h0<;>simp at h0
  | none=>exact .inr ⟨b,o,rfl,trivial,fun j u hu=>by have:=h j u hu;rwa [Addr.add_lit]at this⟩
section
variable {P : Program} {H : Type} {enc : TypeId × Value → H} {w : World} {spare : Nat → Bool} {held : Bool} {t e : TypeId} {fuel : Nat} {cs : List Value} {x : DataW H × List MemPlace}
theorem oI(ht:P.underlying t=some (.slice e))(he:P.underlying e=some .string)(hc:P.cellsOf e=1)(h:DataW.trod enc P w 0 spare held fuel t cs=some x):
  ∃A l c,cs=[.slice A l.length c]∧bU (fun _=>True) w A l∧l.length≤c∧c≤9223372036854775807∧(jr l).length≤16*Rows.uptoBulk x.1:=by
 have h8 :∀n:Int,(iq n).length=8:=fun n=>rfl;rcases open_strings ht he hc h with⟨rfl,rfl⟩|⟨a,len,cap,ss,rfl,_,hl,hm,hss,rfl,hcell,hsz⟩
 ·exact⟨none,[],0,rfl,⟨.inl rfl,by simp,by simp⟩,by simp,by simp,by simp[jr,h8,Rows.uptoBulk]⟩
 ·have hle:len≤ss.length:=by rw[hss];split<;>omega
  have hlen:(ss.take len).length=len:=by simp;omega
  have hm':cap≤9223372036854775807:=by unfold maxLen at hm;omega
  refine⟨some a,ss.take len,cap,by rw[hlen],⟨rC ?_,?_,by omega⟩,by omega,hm',?_⟩
  ·intro i u hu;have hi:i<len:=by have:=(List.getElem?_eq_some_iff.1 hu).1;simp at this;omega
   have h1:=hcell i (by omega);rw[h1];have h2:ss[i]?=some ss[i]:=by simp[show i<ss.length by omega]
   rw[List.getElem?_map,List.getElem?_take,if_pos hi,h2]at hu;injection hu with hu;rw[←hu,List.getD,h2];rfl
  ·intro s hs;have:=hsz s (List.mem_of_mem_take hs);unfold maxLen at this;omega
  ·have h1:=G6 (H:=H) (ss.take len);have h2:=Ej (H:=H) (strs (ss.take len)) (strs (ss.drop len));simp only[jr,aJ,h8];omega
theorem uY(ht:P.underlying t=some (.slice e))(he:P.underlying e=some (.int .i64))(hc:P.cellsOf e=1)(h:DataW.trod enc P w 0 spare held fuel t cs=some x):
  ∃A l c,cs=[.slice A l.length c]∧IntsIn (fun _=>True) w A l∧l.length≤c∧c≤9223372036854775807∧(lM l).length≤16*Rows.uptoBulk x.1:=by
 rcases open_ints ht he hc h with⟨rfl,rfl⟩|⟨a,len,cap,ss,rfl,_,hl,hm,hss,rfl,hcell,hsz⟩
 ·exact⟨none,[],0,rfl,⟨.inl rfl,by simp,by simp⟩,by simp,by simp,by simp[G8,Rows.uptoBulk]⟩
 ·have hle:len≤ss.length:=by rw[hss];split<;>omega
  have hlen:(ss.take len).length=len:=by simp;omega
  have hm':cap≤9223372036854775807:=by unfold maxLen at hm;omega
  refine⟨some a,ss.take len,cap,by rw[hlen],⟨rC ?_,?_,by omega⟩,by omega,hm',?_⟩
  ·intro i u hu;have hi:i<len:=by have:=(List.getElem?_eq_some_iff.1 hu).1;simp at this;omega
   have h1:=hcell i (by omega);rw[h1];have h2:ss[i]?=some ss[i]:=by simp[show i<ss.length by omega]
   rw[List.getElem?_map,List.getElem?_take,if_pos hi,h2]at hu;injection hu with hu;rw[←hu,List.getD,h2];rfl
  ·intro s hs;exact AB (hsz s (List.mem_of_mem_take hs))
  ·have h1:=G7 (H:=H) (k:= .i64) (ss.take len);have h2:=Ej (H:=H) (lits .i64 (ss.take len)) (lits .i64 (ss.drop len));rw[G8];dsimp only;omega
end
end
end Go.Proofs.YtialngdffhmobaaGreatDoor
