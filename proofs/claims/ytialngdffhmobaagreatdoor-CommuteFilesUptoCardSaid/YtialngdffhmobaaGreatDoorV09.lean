/- Part 10 of what commuteFiles_cardUpto rests on. -/
import Derived.Test.YtialngdffhmobaaGreatDoorV07
import Derived.Test.YtialngdffhmobaaGreatDoorV04
import Derived.Test.YtialngdffhmobaaGreatDoorV05
import Derived.Test.YtialngdffhmobaaGreatDoorV00
set_option linter.unusedVariables false
set_option linter.unusedSimpArgs false
set_option maxHeartbeats 16000000
set_option maxRecDepth 1000000
namespace Go.Proofs.YtialngdffhmobaaGreatDoor
section
open Go.RowKit
theorem Io{p:Nat}(h:kindRow p=none)(w:World):
  Calls Tryz.prog 216 #[.int .u8 p] w fun e w'=>e = .returned (.tuple #[.agg #[.slice none 0 0,.bool false],.bool false])∧Below w.heap.size w w':=by
 refine(Ic p w).mono ?_;rintro e w' ⟨hB,⟨_,he⟩|⟨k',ks,all,A,c,hf,_⟩⟩
 ·exact⟨he,hB⟩
 ·rw[h]at hf;cases hf
theorem x9{p:Nat}{k':Int}{ks:List Int}{all:Bool}(h:kindRow p=some (k',ks,all))(w:World):
  Calls Tryz.prog 216 #[.int .u8 p] w fun e w'=>∃A c,e = .returned (.tuple #[.agg #[.slice A ks.length c,.bool all],.bool true])∧Rd (fun _=>True) w' A (ks.map (.int .u8))∧Below w.heap.size w w':=by
 refine(Ic p w).mono ?_;rintro e w' ⟨hB,⟨hf,_⟩|⟨k'',ks',all',A,c,hf,he,hr⟩⟩
 ·rw[h]at hf;cases hf
 ·rw[h]at hf;cases hf;exact⟨A,c,he,hr,hB⟩
theorem Dh :∀r∈dV,(∀x∈r.2.1,0≤x∧x<256)∧(r.2.2=true→r.2.1.length=1)∧r.2.1.length≤3:=by decide
theorem Ip{p:Nat}{k':Int}{ks:List Int}{all:Bool}(h:kindRow p=some (k',ks,all)){j:Nat}(hj:j<ks.length):∃n:Nat,ks[j]=n:=by
 have:=(Dh _ (xZ h).1).1 ks[j] (List.getElem_mem hj);exact⟨ks[j].toNat,by omega⟩
theorem Iq(p k i:Nat)(w:World):Calls Tryz.prog 218 #[.int .u8 p,.int .u8 k,.int .i64 i] w fun e w'=>ay (bH p k i) e∧Below w.heap.size w w':=by
 cases h:kindRow p with
 | none =>
  have H:=hide h;clear h;go_enter Tryz.func218,Tryz.ntmps218
  go_wp2_with(go_at_call 216;refine(Io H.out _).mono ?_;rintro e w1 ⟨rfl,hB⟩;have HB:=hide hB;clear hB)
  go_ret;exact⟨ay.no (qi H.out k i),HB.out.alloc HB.out.size _⟩
 | some x =>
  obtain⟨k',ks,all⟩:=x;have H:=hide h;have hlen:=(Dh _ (xZ h).1).2.2;have hone:=hide (Dh _ (xZ h).1).2.1;simp only at hlen;clear h;by_cases hall:all=true
  ·subst hall;have h0:0<ks.length:=by have:=hone.out rfl;simp only at this;omega
   obtain⟨n,hn⟩:=Ip H.out h0;have Hn:=hide hn;clear hn;go_enter Tryz.func218,Tryz.ntmps218
   go_wp2_with(first
    | (go_at_call 216;refine(x9 H.out _).mono ?_;rintro e w1 ⟨A,c,rfl,hrd,hB⟩;have HB:=hide hB;clear hB;obtain⟨b,o,rfl,hc⟩:=hrd.at_ (j:=0) (by simpa using h0);simp only[List.getElem_map,Hn.out,Nat.add_zero]at hc;have hb:=block_lt_of_cell hc;clear hrd)
    | (go_at_call 249;refine(rO k n _).mono ?_;rintro e w2 ⟨⟨b2,rfl,hb2⟩,rfl⟩;have Hb:=hide hb2;clear hb2))
   go_ret;exact⟨ay.mk (by rw[Hb.out,Eo H.out];simp[List.getElem?_eq_getElem h0,Hn.out,Int.natCast_inj]),HB.out.alloc HB.out.size _⟩
  ·obtain rfl:all=false:=by simpa using hall
   by_cases h0:i<ks.length
   ·obtain⟨n,hn⟩:=Ip H.out h0;have Hn:=hide hn;clear hn hall;go_enter Tryz.func218,Tryz.ntmps218
    go_wp2_with(first
     | (go_at_call 216;refine(x9 H.out _).mono ?_;rintro e w1 ⟨A,c,rfl,hrd,hB⟩;have HB:=hide hB;clear hB;obtain⟨b,o,rfl,hc⟩:=hrd.at_ (j:=i) (by simpa using h0);simp only[List.getElem_map,Hn.out]at hc;have hb:=block_lt_of_cell hc;clear hrd)
     | (go_at_call 249;refine(rO k n _).mono ?_;rintro e w2 ⟨⟨b2,rfl,hb2⟩,rfl⟩;have Hb:=hide hb2;clear hb2))
    go_ret;exact⟨ay.mk (by rw[Hb.out,Eo H.out];simp[List.getElem?_eq_getElem h0,Hn.out,Int.natCast_inj]),HB.out.alloc HB.out.size _⟩
   ·clear hall;go_enter Tryz.func218,Tryz.ntmps218
    go_wp2_with(go_at_call 216;refine(x9 H.out _).mono ?_;rintro e w1 ⟨A,c,rfl,hrd,hB⟩;have HB:=hide hB;clear hB;have Ie:=hide hrd;clear hrd)
    go_ret;refine⟨ay.no ?_,HB.out.alloc HB.out.size _⟩;rw[Eo H.out];simp[List.getElem?_eq_none (by omega:ks.length≤i)]
end
section
open Go.RowKit
abbrev Any:Nat→Prop:=fun _=>True
def iY(e:TypeId)(w:World)(A:Option Addr)(c n:Nat)(xs:List Value)(L:List Nat)(A0:Option Addr)(c0 n0:Nat):Prop:=eF e w A c n xs L∨(n=0∧n0=0∧A=A0∧c=c0∧L=[]∧xs=[])
def dX(w:World)(A:Option Addr)(c:Nat)(f:Fo)(L:List Nat)(A0:Option Addr)(c0 n0:Nat):Prop:=bP w A c f L∨(f = .nil∧n0=0∧A=A0∧c=c0∧L=[])
structure New(w w':World)(L:List Nat):Prop where
 nd:L.Nodup
 ge :∀b∈L,w.heap.size≤b
 lt :∀b∈L,b<w'.heap.size
section
variable {w w' w'' : World} {A A0 A1 : Option Addr} {c c0 c1 n0 : Nat} {f : Fo} {L L1 L2 : List Nat} {e : TypeId} {n : Nat} {xs : List Value}
theorem New.nil:New w w' []:=⟨List.nodup_nil,by simp,by simp⟩
theorem New.up(h:New w w' L)(hs:w'.heap.size≤w''.heap.size):New w w'' L:=⟨h.nd,h.ge,fun b hb=>aH (h.lt b hb) hs⟩
theorem New.app(h:New w w' L1)(h2:New w' w'' L2)(hs:w.heap.size≤w'.heap.size)(hs2:w'.heap.size≤w''.heap.size):New w w'' (L1++L2):=
 ⟨GM h.nd h2.nd h.lt h2.ge,fun b hb=>by
  rcases List.mem_append.1 hb with hb|hb
  ·exact h.ge b hb
  ·exact aI hs (h2.ge b hb),fun b hb=>by
  rcases List.mem_append.1 hb with hb|hb
  ·exact aH (h.lt b hb) hs2
  ·exact h2.lt b hb⟩
theorem New.swap(h:New w w' (L1++L2)):New w w' (L2++L1):=⟨by have h1:=h.nd;rw[List.nodup_append]at h1⊢;exact⟨h1.2.1,h1.1,fun a ha b hb e=>h1.2.2 b hb a ha e.symm⟩,fun b hb=>h.ge b (by simp at hb⊢;exact hb.symm),fun b hb=>h.lt b (by simp at hb⊢;exact hb.symm)⟩
theorem New.from(h:New w' w'' L)(hs:w.heap.size≤w'.heap.size):New w w'' L:=⟨h.nd,fun b hb=>aI hs (h.ge b hb),h.lt⟩
theorem eF.new(h:eF e w' A c n xs L)(hg :∀g,(Value.slice A n c).ownBlock=some g→w.heap.size≤g):New w w' L:=⟨h.nodup,fun b hb=>by obtain⟨_,rfl⟩:=h;exact hg b (gy.1 hb),h.lt⟩
theorem iY.keep(h:iY e w A c n xs L A0 c0 n0)(hk :∀b∈L,w'.heap[b]?=w.heap[b]?):iY e w' A c n xs L A0 c0 n0:=h.imp (fun h=>h.keep hk) id
theorem dX.keep(h:dX w A c f L A0 c0 n0)(hk :∀b∈L,w'.heap[b]?=w.heap[b]?):dX w' A c f L A0 c0 n0:=h.imp (fun h=>h.keep hk) id
theorem iY.lt(h:iY e w A c n xs L A0 c0 n0):∀b∈L,b<w.heap.size:=by
 rcases h with h|⟨_,_,_,_,rfl,_⟩
 ·exact h.lt
 ·simp
theorem dX.lt(h:dX w A c f L A0 c0 n0):∀b∈L,b<w.heap.size:=by
 rcases h with h|⟨_,_,_,_,rfl⟩
 ·exact h.lt
 ·simp
theorem eF.below(h:eF e w A c n xs L)(hB:Below w.heap.size w w'):eF e w' A c n xs L:=h.keep fun b hb=>hB.block b (h.lt b hb)
theorem bP.below(h:bP w A c f L)(hB:Below w.heap.size w w'):bP w' A c f L:=h.keep fun b hb=>hB.block b (h.lt b hb)
theorem eF.none(h:eF e w A c 0 xs L):xs=[]:=List.length_eq_zero_iff.1 (by have:=h.1.1;omega)
theorem bP.none(h:bP w A c f L)(hn:f.len=0):f = .nil:=by cases f with
 | nil=>rfl
 | cons=>simp[Fo.len]at hn
theorem iY.trans{n1:Nat}{ys:List Value}(h:iY e w A c n1 ys L1 A0 c0 n0)(h2:iY e w' A1 c1 n xs L2 A c n1)(hB:Below w.heap.size w w'):∃L,iY e w' A1 c1 n xs L A0 c0 n0∧(L=L2∨L=L1):=by
 rcases h2 with h2|⟨rfl,rfl,rfl,rfl,rfl,rfl⟩
 ·exact⟨L2,.inl h2,.inl rfl⟩
 ·refine⟨L1,?_,.inr rfl⟩;rcases h with h|⟨_,h1,h2,h3,h4,h5⟩
  ·have:=h.none;subst this;exact .inl (h.below hB)
  ·exact .inr ⟨rfl,h1,h2,h3,h4,rfl⟩
theorem dX.trans{g:Fo}(h:dX w A c g L1 A0 c0 n0)(h2:dX w' A1 c1 f L2 A c g.len)(hB:Below w.heap.size w w'):∃L,dX w' A1 c1 f L A0 c0 n0∧(L=L2∨L=L1):=by
 rcases h2 with h2|⟨rfl,hg,rfl,rfl,rfl⟩
 ·exact⟨L2,.inl h2,.inl rfl⟩
 ·refine⟨L1,?_,.inr rfl⟩;rcases h with h|⟨_,h1,h2,h3,h4⟩
  ·have:=h.none hg;subst this;exact .inl (h.below hB)
  ·exact .inr ⟨rfl,h1,h2,h3,h4⟩
theorem iY.rd(h:iY e w A c n xs L A0 c0 n0):Rd Any w A xs:=by
 rcases h with h|⟨_,_,_,_,_,rfl⟩
 ·exact GN h.1 (fun _ _=>trivial)
 ·exact .inl rfl
theorem iY.room(h:iY e w A c n xs L A0 c0 n0)(h0:0≤c0∧c0≤9223372036854775807):n≤c∧c≤9223372036854775807:=by
 rcases h with h|⟨rfl,rfl,rfl,rfl,_,_⟩
 ·exact Az h.1 rfl
 ·exact h0
theorem dX.fo(h:dX w A c f L A0 c0 n0):bu Any w A f:=by
 rcases h with h|⟨rfl,_⟩
 ·exact h.fo (fun _ _=>trivial)
 ·exact trivial
theorem bP.room(h:bP w A c f L):f.len≤c∧c≤9223372036854775807:=by
 obtain⟨vs,R,h1,_⟩:=h;exact Az h1 rfl
theorem dX.room(h:dX w A c f L A0 c0 n0)(h0:0≤c0∧c0≤9223372036854775807):f.len≤c∧c≤9223372036854775807:=by
 rcases h with h|⟨rfl,rfl,rfl,rfl,_⟩
 ·exact h.room
 ·exact h0
end
structure jm(h:Hk):Prop where
 at_:aU h.at_
 old:(∀s∈h.old,s.size≤9223372036854775807)∧h.old.length≤549755813888
 new:(∀s∈h.new,s.size≤9223372036854775807)∧h.new.length≤549755813888
structure ja(e:Ed):Prop where
 kind:e.kind<256
 path:(∀n∈e.path,aU n)∧e.path.length≤549755813888
 at_:aU e.at_
 far:aU e.far
 frm:e.frm.size≤9223372036854775807
 «to»:e.to.size≤9223372036854775807
 sum:e.frm.size+e.to.size≤9223372036854775807
 old:(fC e.old).length≤549755813888
 new:(fC e.new).length≤549755813888
structure qj(p:Pt):Prop where
 kind:p.kind<256
 file:p.file.size≤9223372036854775807
 text:p.text.size≤9223372036854775807
 hunk:jm p.hunk
 edit:ja p.edit
theorem jm.zero:jm Hk.zero:=⟨⟨by decide,by decide⟩,⟨by simp[Hk.zero],by simp[Hk.zero]⟩,⟨by simp[Hk.zero],by simp[Hk.zero]⟩⟩
theorem ja.zero:ja Ed.zero:=⟨by decide,⟨by simp[Ed.zero],by simp[Ed.zero]⟩,⟨by decide,by decide⟩,⟨by decide,by decide⟩,by decide,by decide,by decide,by simp[Ed.zero,fC],by simp[Ed.zero,fC]⟩
theorem qj.zero:qj Pt.zero:=⟨by decide,by decide,by decide,jm.zero,ja.zero⟩
def mV(w:World)(x:Hh)(h:Hk)(L:List Nat)(x0:Hh)(h0:Hk):Prop:=∃L1 L2,iY 9 w x.oA x.oc h.old.length (h.old.map .string) L1 x0.oA x0.oc h0.old.length∧iY 9 w x.nA x.nc h.new.length (h.new.map .string) L2 x0.nA x0.nc h0.new.length∧L=L1++L2
def gK(w:World)(x:Eh)(e:Ed)(L:List Nat)(x0:Eh)(e0:Ed):Prop:=∃L1 L2 L3,iY 3 w x.pA x.pc e.path.length (e.path.map (.int .i64)) L1 x0.pA x0.pc e0.path.length∧dX w x.oA x.oc e.old L2 x0.oA x0.oc e0.old.len∧dX w x.nA x.nc e.new L3 x0.nA x0.nc e0.new.len∧L=L1++(L2++L3)
def jb(w:World)(x:Ph)(p:Pt)(L:List Nat)(x0:Ph)(p0:Pt):Prop:=∃L1 L2,mV w x.h p.hunk L1 x0.h p0.hunk∧gK w x.e p.edit L2 x0.e p0.edit∧L=L1++L2
def Es(x:Hh):Prop:=x.oc≤9223372036854775807∧x.nc≤9223372036854775807
def zL(x:Eh):Prop:=x.pc≤9223372036854775807∧x.oc≤9223372036854775807∧x.nc≤9223372036854775807
def Et(x:Ph):Prop:=Es x.h∧zL x.e
section
variable {S : Nat → Prop} {w w' : World} {L : List Nat}
theorem jv.r{x:Hh}{h:Hk}(a:jv S w x h):Es x:=⟨a.oc.2,a.nc.2⟩
theorem gq.r{x:Eh}{e:Ed}(a:gq S w x e):zL x:=⟨a.pc.2,a.oc.2,a.nc.2⟩
theorem gu.r{x:Ph}{p:Pt}(a:gu S w x p):Et x:=⟨a.hunk.r,a.edit.r⟩
theorem mV.in_{x x0:Hh}{h h0:Hk}(a:mV w x h L x0 h0)(hb:jm h)(hr:Es x0):jv Any w x h:=by
 obtain⟨L1,L2,h1,h2,rfl⟩:=a;exact⟨hb.at_,⟨h1.rd,hb.old.1,by have:=hb.old.2;omega⟩,⟨h2.rd,hb.new.1,by have:=hb.new.2;omega⟩,h1.room ⟨Nat.zero_le _,hr.1⟩,h2.room ⟨Nat.zero_le _,hr.2⟩⟩
theorem gK.in_{x x0:Eh}{e e0:Ed}(a:gK w x e L x0 e0)(hb:ja e)(hr:zL x0):gq Any w x e:=by
 obtain⟨L1,L2,L3,h1,h2,h3,rfl⟩:=a;exact⟨hb.kind,⟨h1.rd,hb.path.1,by have:=hb.path.2;omega⟩,hb.at_,hb.far,hb.frm,hb.to,h2.fo,h3.fo,h1.room ⟨Nat.zero_le _,hr.1⟩,h2.room ⟨Nat.zero_le _,hr.2.1⟩,h3.room ⟨Nat.zero_le _,hr.2.2⟩⟩
theorem jb.in_{x x0:Ph}{p p0:Pt}(a:jb w x p L x0 p0)(hb:qj p)(hr:Et x0):gu Any w x p:=by
 obtain⟨L1,L2,h1,h2,rfl⟩:=a;exact⟨hb.kind,hb.file,hb.text,h1.in_ hb.hunk hr.1,h2.in_ hb.edit hr.2⟩
theorem mV.keep{x x0:Hh}{h h0:Hk}(a:mV w x h L x0 h0)(hk :∀b∈L,w'.heap[b]?=w.heap[b]?):mV w' x h L x0 h0:=by
 obtain⟨L1,L2,h1,h2,rfl⟩:=a;exact⟨L1,L2,h1.keep fun b hb=>hk b (by simp[hb]),h2.keep fun b hb=>hk b (by simp[hb]),rfl⟩
theorem gK.keep{x x0:Eh}{e e0:Ed}(a:gK w x e L x0 e0)(hk :∀b∈L,w'.heap[b]?=w.heap[b]?):gK w' x e L x0 e0:=by
 obtain⟨L1,L2,L3,h1,h2,h3,rfl⟩:=a;exact⟨L1,L2,L3,h1.keep fun b hb=>hk b (by simp[hb]),h2.keep fun b hb=>hk b (by simp[hb]),h3.keep fun b hb=>hk b (by simp[hb]),rfl⟩
theorem jb.keep{x x0:Ph}{p p0:Pt}(a:jb w x p L x0 p0)(hk :∀b∈L,w'.heap[b]?=w.heap[b]?):jb w' x p L x0 p0:=by
 obtain⟨L1,L2,h1,h2,rfl⟩:=a;exact⟨L1,L2,h1.keep fun b hb=>hk b (by simp[hb]),h2.keep fun b hb=>hk b (by simp[hb]),rfl⟩
theorem mV.lt{x x0:Hh}{h h0:Hk}(a:mV w x h L x0 h0):∀b∈L,b<w.heap.size:=by
 obtain⟨L1,L2,h1,h2,rfl⟩:=a;intro b hb;rcases List.mem_append.1 hb with hb|hb
 ·exact h1.lt b hb
 ·exact h2.lt b hb
theorem gK.lt{x x0:Eh}{e e0:Ed}(a:gK w x e L x0 e0):∀b∈L,b<w.heap.size:=by
 obtain⟨L1,L2,L3,h1,h2,h3,rfl⟩:=a;intro b hb;simp only[List.mem_append]at hb;rcases hb with hb|hb|hb
 ·exact h1.lt b hb
 ·exact h2.lt b hb
 ·exact h3.lt b hb
theorem jb.lt{x x0:Ph}{p p0:Pt}(a:jb w x p L x0 p0):∀b∈L,b<w.heap.size:=by
 obtain⟨L1,L2,h1,h2,rfl⟩:=a;intro b hb;rcases List.mem_append.1 hb with hb|hb
 ·exact h1.lt b hb
 ·exact h2.lt b hb
theorem mV.below{x x0:Hh}{h h0:Hk}(a:mV w x h L x0 h0)(hB:Below w.heap.size w w'):mV w' x h L x0 h0:=a.keep fun b hb=>hB.block b (a.lt b hb)
theorem gK.below{x x0:Eh}{e e0:Ed}(a:gK w x e L x0 e0)(hB:Below w.heap.size w w'):gK w' x e L x0 e0:=a.keep fun b hb=>hB.block b (a.lt b hb)
theorem jb.below{x x0:Ph}{p p0:Pt}(a:jb w x p L x0 p0)(hB:Below w.heap.size w w'):jb w' x p L x0 p0:=a.keep fun b hb=>hB.block b (a.lt b hb)
theorem mV.same{x:Hh}:mV w x Hk.zero [] x Hk.zero:=⟨[],[],.inr ⟨rfl,rfl,rfl,rfl,rfl,rfl⟩,.inr ⟨rfl,rfl,rfl,rfl,rfl,rfl⟩,rfl⟩
theorem gK.same{x:Eh}:gK w x Ed.zero [] x Ed.zero:=⟨[],[],[],.inr ⟨rfl,rfl,rfl,rfl,rfl,rfl⟩,.inr ⟨rfl,rfl,rfl,rfl,rfl⟩,.inr ⟨rfl,rfl,rfl,rfl,rfl⟩,rfl⟩
theorem jM.s{x x0:Hh}{h h0:Hk}(a:jM w x h L):mV w x h L x0 h0:=by
 obtain⟨L1,L2,h1,h2,rfl⟩:=a;exact⟨L1,L2,.inl h1,.inl h2,rfl⟩
theorem uI.s{x x0:Eh}{e e0:Ed}(a:uI w x e L):gK w x e L x0 e0:=by
 obtain⟨L1,L2,L3,h1,h2,h3,rfl⟩:=a;exact⟨L1,L2,L3,.inl h1,.inl h2,.inl h3,rfl⟩
theorem wV{M:Nat}{a1 a2 a3 a4 a5 b1 b2 b3 b4 b5 c1 c2 c3 c4 c5:List Nat}(ha:(a1++a2++(a3++(a4++a5))).Nodup)(hb:(b1++b2++(b3++(b4++b5))).Nodup)
  (la :∀b∈a1++a2++(a3++(a4++a5)),b<M) (lb :∀b∈b1++b2++(b3++(b4++b5)),M≤b)
  (h1:c1=b1∨c1=a1) (h2:c2=b2∨c2=a2) (h3:c3=b3∨c3=a3) (h4:c4=b4∨c4=a4) (h5:c5=b5∨c5=a5):(c1++c2++(c3++(c4++c5))).Nodup:=by
 rw[List.nodup_iff_count]at ha hb⊢;intro x;have ha:=ha x;have hb:=hb x;simp only[List.count_append]at ha hb⊢;have z :∀{l:List Nat},x∉l→l.count x=0:=fun h=>List.count_eq_zero.2 h;by_cases hx:x<M
 ·have n:x∉b1++b2++(b3++(b4++b5)):=fun h=>by have:=lb x h;omega
  simp only[List.mem_append,not_or]at n;have e1:=z n.1.1;have e2:=z n.1.2;have e3:=z n.2.1;have e4:=z n.2.2.1;have e5:=z n.2.2.2;rcases h1 with rfl|rfl<;>rcases h2 with rfl|rfl<;>rcases h3 with rfl|rfl<;>rcases h4 with rfl|rfl<;>rcases h5 with rfl|rfl<;>omega
 ·have n:x∉a1++a2++(a3++(a4++a5)):=fun h=>by have:=la x h;omega
  simp only[List.mem_append,not_or]at n;have e1:=z n.1.1;have e2:=z n.1.2;have e3:=z n.2.1;have e4:=z n.2.2.1;have e5:=z n.2.2.2;rcases h1 with rfl|rfl<;>rcases h2 with rfl|rfl<;>rcases h3 with rfl|rfl<;>rcases h4 with rfl|rfl<;>rcases h5 with rfl|rfl<;>omega
theorem jb.trans{w0:World}{x0 x1 x2:Ph}{p0 p1 p2:Pt}{L1 L2:List Nat}(h:jb w x1 p1 L1 x0 p0)(h2:jb w' x2 p2 L2 x1 p1)(n1:New w0 w L1)(n2:New w w' L2)(hB:Below w.heap.size w w')(hs:w0.heap.size≤w.heap.size):∃L,jb w' x2 p2 L x0 p0∧New w0 w' L:=by
 obtain⟨_,_,⟨a1,a2,r1,r2,rfl⟩,⟨a3,a4,a5,r3,r4,r5,rfl⟩,rfl⟩:=h;obtain⟨_,_,⟨b1,b2,q1,q2,rfl⟩,⟨b3,b4,b5,q3,q4,q5,rfl⟩,rfl⟩:=h2;obtain⟨c1,s1,e1⟩:=r1.trans q1 hB;obtain⟨c2,s2,e2⟩:=r2.trans q2 hB;obtain⟨c3,s3,e3⟩:=r3.trans q3 hB;obtain⟨c4,s4,e4⟩:=r4.trans q4 hB;obtain⟨c5,s5,e5⟩:=r5.trans q5 hB;refine⟨_,⟨_,_,⟨c1,c2,s1,s2,rfl⟩,⟨c3,c4,c5,s3,s4,s5,rfl⟩,rfl⟩,wV n1.nd n2.nd n1.lt n2.ge e1 e2 e3 e4 e5,?_,?_⟩
 ·intro b hb;have g1:=n1.ge b;have g2:=n2.ge b;simp only[List.mem_append]at hb g1 g2;rcases e1 with rfl|rfl<;>rcases e2 with rfl|rfl<;>rcases e3 with rfl|rfl<;>rcases e4 with rfl|rfl<;>rcases e5 with rfl|rfl<;>grind
 ·intro b hb;have g1:=n1.lt b;have g2:=n2.lt b;have hs2:=hB.size;simp only[List.mem_append]at hb g1 g2;rcases e1 with rfl|rfl<;>rcases e2 with rfl|rfl<;>rcases e3 with rfl|rfl<;>rcases e4 with rfl|rfl<;>rcases e5 with rfl|rfl<;>grind
end
end
end Go.Proofs.YtialngdffhmobaaGreatDoor
