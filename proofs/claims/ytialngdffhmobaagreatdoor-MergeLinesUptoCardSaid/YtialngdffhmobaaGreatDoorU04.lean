/- Part 5 of what mgTop rests on. -/
import Derived.Test.YtialngdffhmobaaGreatDoorProg
import Derived.Deep.RegionHeld
import Derived.Laws.Append
import Derived.Lib.AppendStr
import Derived.Test.YtialngdffhmobaaGreatDoorU01
import Derived.Test.YtialngdffhmobaaGreatDoorU03
import Derived.Test.YtialngdffhmobaaGreatDoorU00
set_option linter.unusedVariables false
set_option linter.unusedSimpArgs false
set_option maxHeartbeats 16000000
set_option maxRecDepth 1000000
namespace Go.Proofs.YtialngdffhmobaaGreatDoor
section
open Go.RowKit
structure Hh where
 oA:Option Addr
 oc:Nat
 nA:Option Addr
 nc:Nat
structure Eh where
 pA:Option Addr
 pc:Nat
 oA:Option Addr
 oc:Nat
 nA:Option Addr
 nc:Nat
structure Ph where
 h:Hh
 e:Eh
structure HkIn(S:Nat→Prop)(w:World)(x:Hh)(h:Hk):Prop where
 at_:isInt64 h.at_
 old:StrsIn S w x.oA h.old
 new:StrsIn S w x.nA h.new
 oc:h.old.length≤x.oc∧x.oc≤9223372036854775807
 nc:h.new.length≤x.nc∧x.nc≤9223372036854775807
structure EdIn(S:Nat→Prop)(w:World)(x:Eh)(e:Ed):Prop where
 kind:e.kind<256
 path:IntsIn S w x.pA e.path
 at_:isInt64 e.at_
 far:isInt64 e.far
 frm:e.frm.size≤9223372036854775807
 «to»:e.to.size≤9223372036854775807
 old:FoIn S w x.oA e.old
 new:FoIn S w x.nA e.new
 pc:e.path.length≤x.pc∧x.pc≤9223372036854775807
 oc:e.old.len≤x.oc∧x.oc≤9223372036854775807
 nc:e.new.len≤x.nc∧x.nc≤9223372036854775807
structure PtIn(S:Nat→Prop)(w:World)(x:Ph)(p:Pt):Prop where
 kind:p.kind<256
 file:p.file.size≤9223372036854775807
 text:p.text.size≤9223372036854775807
 hunk:HkIn S w x.h p.hunk
 edit:EdIn S w x.e p.edit
section
variable {S S' : Nat → Prop} {w w' : World} {A : Option Addr}
theorem StrsIn.keep{l:List ByteArray}(h:StrsIn S w A l)(hk :∀b,S b→w'.heap[b]?=w.heap[b]?):StrsIn S w' A l:=⟨h.1.keep hk,h.2⟩
theorem StrsIn.mono{l:List ByteArray}(h:StrsIn S w A l)(hm :∀b,b<w.heap.size→S b→S' b):StrsIn S' w A l:=⟨h.1.mono hm,h.2⟩
theorem StrsIn.below{l:List ByteArray}(h:StrsIn S w A l)(hb:Below w.heap.size w w'):StrsIn S w' A l:=⟨h.1.below hb,h.2⟩
theorem IntsIn.keep{l:List Int}(h:IntsIn S w A l)(hk :∀b,S b→w'.heap[b]?=w.heap[b]?):IntsIn S w' A l:=⟨h.1.keep hk,h.2⟩
theorem IntsIn.mono{l:List Int}(h:IntsIn S w A l)(hm :∀b,b<w.heap.size→S b→S' b):IntsIn S' w A l:=⟨h.1.mono hm,h.2⟩
theorem IntsIn.below{l:List Int}(h:IntsIn S w A l)(hb:Below w.heap.size w w'):IntsIn S w' A l:=⟨h.1.below hb,h.2⟩
theorem BytesIn.keep{l:List UInt8}(h:BytesIn S w A l)(hk :∀b,S b→w'.heap[b]?=w.heap[b]?):BytesIn S w' A l:=⟨h.1.keep hk,h.2⟩
theorem BytesIn.mono{l:List UInt8}(h:BytesIn S w A l)(hm :∀b,b<w.heap.size→S b→S' b):BytesIn S' w A l:=⟨h.1.mono hm,h.2⟩
theorem BytesIn.below{l:List UInt8}(h:BytesIn S w A l)(hb:Below w.heap.size w w'):BytesIn S w' A l:=⟨h.1.below hb,h.2⟩
theorem HkIn.keep{x:Hh}{h:Hk}(a:HkIn S w x h)(hk :∀b,S b→w'.heap[b]?=w.heap[b]?):HkIn S w' x h:=⟨a.at_,a.old.keep hk,a.new.keep hk,a.oc,a.nc⟩
theorem HkIn.mono{x:Hh}{h:Hk}(a:HkIn S w x h)(hm :∀b,b<w.heap.size→S b→S' b):HkIn S' w x h:=⟨a.at_,a.old.mono hm,a.new.mono hm,a.oc,a.nc⟩
theorem HkIn.below{x:Hh}{h:Hk}(a:HkIn S w x h)(hb:Below w.heap.size w w'):HkIn S w' x h:=⟨a.at_,a.old.below hb,a.new.below hb,a.oc,a.nc⟩
theorem EdIn.keep{x:Eh}{e:Ed}(a:EdIn S w x e)(hk :∀b,S b→w'.heap[b]?=w.heap[b]?):EdIn S w' x e:=⟨a.kind,a.path.keep hk,a.at_,a.far,a.frm,a.to,a.old.keep hk,a.new.keep hk,a.pc,a.oc,a.nc⟩
theorem EdIn.mono{x:Eh}{e:Ed}(a:EdIn S w x e)(hm :∀b,b<w.heap.size→S b→S' b):EdIn S' w x e:=⟨a.kind,a.path.mono hm,a.at_,a.far,a.frm,a.to,a.old.mono hm,a.new.mono hm,a.pc,a.oc,a.nc⟩
theorem EdIn.below{x:Eh}{e:Ed}(a:EdIn S w x e)(hb:Below w.heap.size w w'):EdIn S w' x e:=⟨a.kind,a.path.below hb,a.at_,a.far,a.frm,a.to,a.old.below hb,a.new.below hb,a.pc,a.oc,a.nc⟩
theorem PtIn.keep{x:Ph}{p:Pt}(a:PtIn S w x p)(hk :∀b,S b→w'.heap[b]?=w.heap[b]?):PtIn S w' x p:=⟨a.kind,a.file,a.text,a.hunk.keep hk,a.edit.keep hk⟩
theorem PtIn.mono{x:Ph}{p:Pt}(a:PtIn S w x p)(hm :∀b,b<w.heap.size→S b→S' b):PtIn S' w x p:=⟨a.kind,a.file,a.text,a.hunk.mono hm,a.edit.mono hm⟩
theorem PtIn.below{x:Ph}{p:Pt}(a:PtIn S w x p)(hb:Below w.heap.size w w'):PtIn S w' x p:=⟨a.kind,a.file,a.text,a.hunk.below hb,a.edit.below hb⟩
end
theorem Hk.eq_iff{a b:Hk}:a=b↔a.at_=b.at_∧a.old=b.old∧a.new=b.new:=by cases a;cases b;simp
theorem Ed.eq_iff{a b:Ed}:a=b↔a.kind=b.kind∧a.path=b.path∧a.at_=b.at_∧a.far=b.far∧a.frm=b.frm∧a.to=b.to∧a.old=b.old∧a.new=b.new:=by cases a;cases b;simp
theorem Pt.eq_iff{a b:Pt}:a=b↔a.kind=b.kind∧a.file=b.file∧a.text=b.text∧a.hunk=b.hunk∧a.edit=b.edit:=by cases a;cases b;simp
theorem Pt.eq_all{a b:Pt}:a=b↔a.kind=b.kind∧a.file=b.file∧a.text=b.text∧a.hunk.at_=b.hunk.at_∧a.hunk.old=b.hunk.old∧a.hunk.new=b.hunk.new∧
  a.edit.kind=b.edit.kind∧a.edit.path=b.edit.path∧a.edit.at_=b.edit.at_∧a.edit.far=b.edit.far∧a.edit.frm=b.edit.frm∧a.edit.to=b.edit.to∧a.edit.old=b.edit.old∧a.edit.new=b.edit.new:=by
 rw[Pt.eq_iff,Hk.eq_iff,Ed.eq_iff];grind
end
section
open Go.RowKit
def RetIx(P:Prop)(e:Ending):Prop:=∃i:Int,e = .returned (.int .i64 i)∧-1≤i∧(0≤i↔P)
theorem RetIx.yes{P:Prop}{i:Int}(h:0≤i)(hp:P):RetIx P (.returned (.int .i64 i)):=⟨i,rfl,by omega,by simp[h,hp]⟩
theorem RetIx.no{P:Prop}(hp :¬P):RetIx P (.returned (.int .i64 (-1))):=⟨-1,rfl,by omega,by simp[hp]⟩
theorem ne_step{α:Type}{l:List α}{k:Nat}{x s:α}(h :∀j,j<k→l[j]?≠some x)(hk:l[k]?=some s)(hne:s≠x):∀j,j<k+1→l[j]?≠some x:=by
 intro j hj;rcases Nat.lt_or_ge j k with h1|h1
 ·exact h j h1
 ·obtain rfl:j=k:=by omega
  rw[hk];exact fun e=>hne (by injection e)
theorem ne_done{α:Type}{l:List α}{k:Nat}{x:α}(h :∀j,j<k→l[j]?≠some x)(hk :¬k<l.length):¬x∈l:=by
 intro hx;obtain⟨j,hj,rfl⟩:=List.getElem_of_mem hx;exact h j (by omega) (by simp)
theorem indexKind_any{S:Nat→Prop}{A:Option Addr}{c:Nat}{l:List Int}{x:Int}{w:World}(hl:Rd S w A (l.map (.int .u8)))(hlen:l.length≤9223372036854775807):
  Calls Tryz.prog 284 #[.slice A l.length c,.int .u8 x] w fun e w'=>RetIx (x∈l) e∧w=w':=by
 have Hl:=hide hl;clear hl;go_enter Tryz.func284,Tryz.ntmps284
 go_wp2_with fail
 go_loop [8,5] (fun i _=>∃k:Nat,k≤l.length∧i = .int .i64 k∧Hid (∀j,j<k→l[j]?≠some x)) (fun i _=>l.length-(intOf i).toNat)
 case atStart=>exact⟨0,Nat.zero_le _,rfl,hide (fun j h=>absurd h (by omega))⟩
 case round =>
  obtain⟨k,hk,rfl,hall⟩:=hrel;by_cases hlt:k<l.length
  ·obtain⟨b,o,rfl,h1⟩:=Hl.out.at_ (j:=k) (by simpa using hlt);simp only[List.getElem_map]at h1;have E:=hide (show l[k]?=some l[k]by simp[hlt]);generalize l[k]=s at h1 E
   go_wp2_with fail
   ·have ht:(x == s)=true:=by assumption
    go_ret;exact⟨RetIx.yes (by omega) (List.mem_of_getElem? (E.out.trans (congrArg some (by simpa using ht:x=s).symm))),rfl⟩
   ·have ht:(x == s)=false:=by assumption
    go_round
    case rel=>exact⟨k+1,by omega,by go_num,hide (ne_step hall.out E.out (fun e=>by subst e;simp at ht))⟩
    case measure=>simp[intOf];omega
  ·go_wp2_with fail
   go_ret;exact⟨RetIx.no (ne_done hall.out hlt),rfl⟩
theorem containsKind_any{S:Nat→Prop}{A:Option Addr}{c:Nat}{l:List Int}{x:Int}{w:World}(hl:Rd S w A (l.map (.int .u8)))(hlen:l.length≤9223372036854775807):
  Calls Tryz.prog 271 #[.slice A l.length c,.int .u8 x] w fun e w'=>RetB (x∈l) e∧w=w':=by
 have Hl:=hide hl;clear hl;go_enter Tryz.func271,Tryz.ntmps271
 go_wp2_with(go_at_call 284;refine(indexKind_any Hl.out hlen).mono ?_;rintro e w' ⟨⟨i,rfl,hlo,hi⟩,rfl⟩;have Hi:=hide hi;clear hi)
 go_ret;exact⟨RetB.mk (by rw[←Hi.out];simp),rfl⟩
theorem indexText_any{S:Nat→Prop}{A:Option Addr}{c:Nat}{l:List ByteArray}{x:ByteArray}{w:World}(hl:Rd S w A (l.map .string))(hlen:l.length≤9223372036854775807):
  Calls Tryz.prog 213 #[.slice A l.length c,.string x] w fun e w'=>RetIx (x∈l) e∧w=w':=by
 have Hl:=hide hl;clear hl;go_enter Tryz.func213,Tryz.ntmps213
 go_wp2_with fail
 go_loop [8,5] (fun i _=>∃k:Nat,k≤l.length∧i = .int .i64 k∧Hid (∀j,j<k→l[j]?≠some x)) (fun i _=>l.length-(intOf i).toNat)
 case atStart=>exact⟨0,Nat.zero_le _,rfl,hide (fun j h=>absurd h (by omega))⟩
 case round =>
  obtain⟨k,hk,rfl,hall⟩:=hrel;by_cases hlt:k<l.length
  ·obtain⟨b,o,rfl,h1⟩:=Hl.out.at_ (j:=k) (by simpa using hlt);simp only[List.getElem_map]at h1;have E:=hide (show l[k]?=some l[k]by simp[hlt]);generalize l[k]=s at h1 E
   go_wp2_with fail
   ·have ht:(x.toList == s.toList)=true:=by assumption
    go_ret;exact⟨RetIx.yes (by omega) (List.mem_of_getElem? (E.out.trans (congrArg some (txt_eq.1 ht).symm))),rfl⟩
   ·have ht:(x.toList == s.toList)=false:=by assumption
    go_round
    case rel=>exact⟨k+1,by omega,by go_num,hide (ne_step hall.out E.out (fun e=>by subst e;simp at ht))⟩
    case measure=>simp[intOf];omega
  ·go_wp2_with fail
   go_ret;exact⟨RetIx.no (ne_done hall.out hlt),rfl⟩
theorem containsText_any{S:Nat→Prop}{A:Option Addr}{c:Nat}{l:List ByteArray}{x:ByteArray}{w:World}(hl:Rd S w A (l.map .string))(hlen:l.length≤9223372036854775807):
  Calls Tryz.prog 177 #[.slice A l.length c,.string x] w fun e w'=>RetB (x∈l) e∧w=w':=by
 have Hl:=hide hl;clear hl;go_enter Tryz.func177,Tryz.ntmps177
 go_wp2_with(go_at_call 213;refine(indexText_any Hl.out hlen).mono ?_;rintro e w' ⟨⟨i,rfl,hlo,hi⟩,rfl⟩;have Hi:=hide hi;clear hi)
 go_ret;exact⟨RetB.mk (by rw[←Hi.out];simp),rfl⟩
end
section
open Go.RowKit
def ob(v:Value):List Nat:=v.ownBlock.toList
def obs(R:List (Value×Nat)):List Nat:=R.flatMap fun r=>ob r.1
theorem mem_ob{v:Value}{g:Nat}:g∈ob v↔v.ownBlock=some g:=by simp[ob,Option.mem_toList]
theorem obs_nil:obs []=[]:=rfl
theorem obs_cons(r:Value×Nat)(R:List (Value×Nat)):obs (r::R)=ob r.1++obs R:=by simp[obs]
theorem obs_app(R R':List (Value×Nat)):obs (R++R')=obs R++obs R':=by simp[obs]
section
variable {w w' : World} {e : TypeId} {size n : Nat} {v : Value} {xs : List Value}
theorem own_kept(h:w.ownsRow 0 e size v n xs)(hk :∀b∈ob v,w'.heap[b]?=w.heap[b]?):w'.ownsRow 0 e size v n xs:=by
 refine⟨h.1,?_⟩;rcases h.2 with hn|⟨g,cap,cur,rfl,hb,hgg,rest⟩
 ·exact .inl hn
 ·exact .inr ⟨g,cap,cur,rfl,hb,(hk g (mem_ob.2 rfl)).trans hgg,rest⟩
theorem own_lt(h:w.ownsRow 0 e size v n xs):∀b∈ob v,b<w.heap.size:=fun b hb=>(h.lt b (mem_ob.1 hb)).2
theorem nodup_ranges{L L':List Nat}{M:Nat}(h:L.Nodup)(h':L'.Nodup)(hl :∀b∈L,b<M)(hl' :∀b∈L',M≤b):(L++L').Nodup :=
 List.nodup_append.2 ⟨h,h',fun a ha b hb e=>by have:=hl a ha;have:=hl' b hb;omega⟩
theorem ob_nodup(v:Value):(ob v).Nodup:=by unfold ob;cases v.ownBlock<;>simp
end
def FoR(w:World):List Value→Fo→List (Value×Nat)→Prop
 | vs,.nil,R=>vs=[]∧R=[]
 | vs,.cons k t n ks r,R=>∃KA c vs' ys R1 R2,vs = .int .u8 k :: .string t :: .int .i64 n :: .slice KA ks.len c::vs'∧(k<256∧t.size≤9223372036854775807∧isInt64 n)∧
   w.ownsRow 0 152 4 (.slice KA ks.len c) ks.len ys∧FoR w ys ks R1∧FoR w vs' r R2∧R=(.slice KA ks.len c,ks.len)::(R1++R2)
section
variable {w w' : World}
theorem FoR.keep :∀{f:Fo} {vs:List Value} {R:List (Value×Nat)},FoR w vs f R→(∀b∈obs R,w'.heap[b]?=w.heap[b]?)→FoR w' vs f R:=by
 intro f
 induction f with
 | nil=>intro vs R h _;exact h
 | cons k t n ks r ihk ihr =>
  rintro vs R ⟨KA,c,vs',ys,R1,R2,rfl,h1,h2,h3,h4,rfl⟩ hk;simp only[obs_cons,obs_app,List.mem_append]at hk;exact⟨KA,c,vs',ys,R1,R2,rfl,h1,own_kept h2 fun b hb=>hk b (.inl hb),ihk h3 fun b hb=>hk b (.inr (.inl hb)),ihr h4 fun b hb=>hk b (.inr (.inr hb)),rfl⟩
theorem FoR.lt :∀{f:Fo} {vs:List Value} {R:List (Value×Nat)},FoR w vs f R→∀b∈obs R,b<w.heap.size:=by
 intro f
 induction f with
 | nil=>rintro vs R ⟨_,rfl⟩ b hb;simp[obs_nil]at hb
 | cons k t n ks r ihk ihr =>
  rintro vs R ⟨KA,c,vs',ys,R1,R2,rfl,h1,h2,h3,h4,rfl⟩ b hb;simp only[obs_cons,obs_app,List.mem_append]at hb;rcases hb with hb|hb|hb
  ·exact own_lt h2 b hb
  ·exact ihk h3 b hb
  ·exact ihr h4 b hb
theorem own_room{e n:Nat}{v:Value}{xs:List Value}{A:Option Addr}{c size:Nat}(h:w.ownsRow 0 e size v n xs)(hv:v = .slice A n c):n≤c∧c≤9223372036854775807:=by
 subst hv;rcases h.2 with⟨e1,e2⟩|⟨g,cap,cur,e1,_,_,hn,hc,_⟩
 ·injection e1 with _ _ e3;omega
 ·injection e1 with _ _ e3;unfold maxLen at hc;omega
theorem own_rows{S:Nat→Prop}{e n c:Nat}{A:Option Addr}{xs:List Value}(h:w.ownsRow 0 e 1 (.slice A n c) n xs)(hS :∀g∈ob (.slice A n c),S g):Rd S w A xs:=by
 obtain⟨A',c',e1,h1,_⟩:=own_rd (S:=S) h fun g hg=>hS g (mem_ob.2 hg);injection e1 with e1;exact e1▸h1
theorem own_fo2{S:Nat→Prop}{e c:Nat}{A:Option Addr}{vs:List Value}{f:Fo}(h:w.ownsRow 0 e 4 (.slice A f.len c) f.len vs)(hS :∀g∈ob (.slice A f.len c),S g)(hf:FoCells S w vs f):FoIn S w A f:=by
 rcases h.2 with⟨e1,h0⟩|⟨g,cap,cur,e1,hb,hgg,hn,hc,_⟩
 ·have:f = .nil:=by cases f with
   | nil=>rfl
   | cons=>simp[Fo.len]at h0
  subst this;exact trivial
 ·injection e1 with e1 _ e3;subst e1;refine hf.at_ (fun b hS=>hS) (hS g (mem_ob.2 rfl)) fun j u hu=>?_;have:=h.cells (g:=g) rfl j u hu
  rwa [Addr.add_lit]at this
theorem FoR.cells{S:Nat→Prop}:∀{f:Fo} {vs:List Value} {R:List (Value×Nat)},FoR w vs f R→(∀b∈obs R,S b)→FoCells S w vs f:=by
 intro f
 induction f with
 | nil=>rintro vs R ⟨rfl,_⟩ _;rfl
 | cons k t n ks r ihk ihr =>
  rintro vs R ⟨KA,c,vs',ys,R1,R2,rfl,⟨h1,h5,h6⟩,h2,h3,h4,rfl⟩ hS;simp only[obs_cons,obs_app,List.mem_append]at hS;obtain⟨hn,hc⟩:=own_room h2 rfl;exact⟨KA,c,vs',rfl,h1,h5,h6,hn,hc,own_fo2 h2 (fun g hg=>hS g (.inl hg)) (ihk h3 fun b hb=>hS b (.inr (.inl hb))),ihr h4 fun b hb=>hS b (.inr (.inr hb))⟩
theorem FoR.snoc{k:Nat}{t:ByteArray}{n:Int}{ks:Fo}{KA:Option Addr}{c:Nat}{ys:List Value}{R1:List (Value×Nat)}(h1:k<256∧t.size≤9223372036854775807∧isInt64 n)
  (h2:w.ownsRow 0 152 4 (.slice KA ks.len c) ks.len ys) (h3:FoR w ys ks R1):
  ∀{f:Fo} {vs:List Value} {R:List (Value×Nat)},FoR w vs f R→FoR w (vs++[.int .u8 k,.string t,.int .i64 n,.slice KA ks.len c]) (f.app (.cons k t n ks .nil)) (R++(.slice KA ks.len c,ks.len)::R1):=by
 intro f
 induction f with
 | nil=>rintro vs R ⟨rfl,rfl⟩;exact⟨KA,c,[],ys,R1,[],rfl,h1,h2,h3,⟨rfl,rfl⟩,by simp⟩
 | cons k' t' n' ks' r _ ih =>
  rintro vs R ⟨KA',c',vs',ys',R1',R2',rfl,g1,g2,g3,g4,rfl⟩;exact⟨KA',c',_,ys',R1',_,rfl,g1,g2,g3,ih g4,by simp⟩
end
def NodesO(w:World)(A:Option Addr)(c:Nat)(f:Fo)(L:List Nat):Prop :=
 ∃vs R,w.ownsRow 0 152 4 (.slice A f.len c) f.len vs∧FoR w vs f R∧L=ob (.slice A f.len c)++obs R∧L.Nodup
def RowO(e:TypeId)(w:World)(A:Option Addr)(c n:Nat)(xs:List Value)(L:List Nat):Prop:=w.ownsRow 0 e 1 (.slice A n c) n xs∧L=ob (.slice A n c)
section
variable {w w' : World} {A : Option Addr} {c : Nat} {f : Fo} {L : List Nat} {e : TypeId} {n : Nat} {xs : List Value}
theorem NodesO.keep(h:NodesO w A c f L)(hk :∀b∈L,w'.heap[b]?=w.heap[b]?):NodesO w' A c f L:=by
 obtain⟨vs,R,h1,h2,rfl,h3⟩:=h;exact⟨vs,R,own_kept h1 fun b hb=>hk b (by simp[hb]),h2.keep fun b hb=>hk b (by simp[hb]),rfl,h3⟩
theorem NodesO.lt(h:NodesO w A c f L):∀b∈L,b<w.heap.size:=by
 obtain⟨vs,R,h1,h2,rfl,h3⟩:=h;intro b hb;rcases List.mem_append.1 hb with hb|hb
 ·exact own_lt h1 b hb
 ·exact h2.lt b hb
theorem NodesO.nodup(h:NodesO w A c f L):L.Nodup:=by obtain⟨_,_,_,_,_,h⟩:=h;exact h
theorem NodesO.fo{S:Nat→Prop}(h:NodesO w A c f L)(hS :∀b∈L,S b):FoIn S w A f:=by
 obtain⟨vs,R,h1,h2,rfl,h3⟩:=h;exact own_fo2 h1 (fun g hg=>hS g (by simp[hg])) (h2.cells fun b hb=>hS b (by simp[hb]))
theorem NodesO.zero:NodesO w none 0 .nil []:=⟨[],[],⟨rfl,.inl ⟨rfl,rfl⟩⟩,⟨rfl,rfl⟩,rfl,List.nodup_nil⟩
theorem RowO.keep(h:RowO e w A c n xs L)(hk :∀b∈L,w'.heap[b]?=w.heap[b]?):RowO e w' A c n xs L:=by
 obtain⟨h1,rfl⟩:=h;exact⟨own_kept h1 hk,rfl⟩
theorem RowO.lt(h:RowO e w A c n xs L):∀b∈L,b<w.heap.size:=by
 obtain⟨h1,rfl⟩:=h;exact own_lt h1
theorem RowO.nodup(h:RowO e w A c n xs L):L.Nodup:=by obtain⟨_,rfl⟩:=h;exact ob_nodup _
theorem RowO.zero:RowO e w none 0 0 [] []:=⟨⟨rfl,.inl ⟨rfl,rfl⟩⟩,rfl⟩
end
def HkO(w:World)(x:Hh)(h:Hk)(L:List Nat):Prop:=∃L1 L2,RowO 9 w x.oA x.oc h.old.length (h.old.map .string) L1∧RowO 9 w x.nA x.nc h.new.length (h.new.map .string) L2∧L=L1++L2
def EdO(w:World)(x:Eh)(e:Ed)(L:List Nat):Prop:=∃L1 L2 L3,RowO 3 w x.pA x.pc e.path.length (e.path.map (.int .i64)) L1∧NodesO w x.oA x.oc e.old L2∧NodesO w x.nA x.nc e.new L3∧L=L1++(L2++L3)
def PtO(w:World)(x:Ph)(p:Pt)(L:List Nat):Prop:=∃L1 L2,HkO w x.h p.hunk L1∧EdO w x.e p.edit L2∧L=L1++L2
section
variable {w w' : World} {L : List Nat}
theorem HkO.keep{x:Hh}{h:Hk}(a:HkO w x h L)(hk :∀b∈L,w'.heap[b]?=w.heap[b]?):HkO w' x h L:=by
 obtain⟨L1,L2,h1,h2,rfl⟩:=a;exact⟨L1,L2,h1.keep fun b hb=>hk b (by simp[hb]),h2.keep fun b hb=>hk b (by simp[hb]),rfl⟩
theorem EdO.keep{x:Eh}{e:Ed}(a:EdO w x e L)(hk :∀b∈L,w'.heap[b]?=w.heap[b]?):EdO w' x e L:=by
 obtain⟨L1,L2,L3,h1,h2,h3,rfl⟩:=a;exact⟨L1,L2,L3,h1.keep fun b hb=>hk b (by simp[hb]),h2.keep fun b hb=>hk b (by simp[hb]),h3.keep fun b hb=>hk b (by simp[hb]),rfl⟩
theorem PtO.keep{x:Ph}{p:Pt}(a:PtO w x p L)(hk :∀b∈L,w'.heap[b]?=w.heap[b]?):PtO w' x p L:=by
 obtain⟨L1,L2,h1,h2,rfl⟩:=a;exact⟨L1,L2,h1.keep fun b hb=>hk b (by simp[hb]),h2.keep fun b hb=>hk b (by simp[hb]),rfl⟩
theorem HkO.lt{x:Hh}{h:Hk}(a:HkO w x h L):∀b∈L,b<w.heap.size:=by
 obtain⟨L1,L2,h1,h2,rfl⟩:=a;intro b hb;rcases List.mem_append.1 hb with hb|hb
 ·exact h1.lt b hb
 ·exact h2.lt b hb
theorem EdO.lt{x:Eh}{e:Ed}(a:EdO w x e L):∀b∈L,b<w.heap.size:=by
 obtain⟨L1,L2,L3,h1,h2,h3,rfl⟩:=a;intro b hb;simp only[List.mem_append]at hb;rcases hb with hb|hb|hb
 ·exact h1.lt b hb
 ·exact h2.lt b hb
 ·exact h3.lt b hb
theorem PtO.lt{x:Ph}{p:Pt}(a:PtO w x p L):∀b∈L,b<w.heap.size:=by
 obtain⟨L1,L2,h1,h2,rfl⟩:=a;intro b hb;rcases List.mem_append.1 hb with hb|hb
 ·exact h1.lt b hb
 ·exact h2.lt b hb
theorem HkO.zero:HkO w ⟨none,0,none,0⟩ Hk.zero []:=⟨[],[],RowO.zero,RowO.zero,rfl⟩
theorem EdO.zero:EdO w ⟨none,0,none,0,none,0⟩ Ed.zero []:=⟨[],[],[],RowO.zero,NodesO.zero,NodesO.zero,rfl⟩
theorem PtO.hunk{x:Hh}{k:Nat}{f t:ByteArray}{h:Hk}(a:HkO w x h L):PtO w ⟨x,⟨none,0,none,0,none,0⟩⟩ ⟨k,f,t,h,Ed.zero⟩ L:=⟨L,[],a,EdO.zero,by simp⟩
theorem PtO.edit{x:Eh}{k:Nat}{f t:ByteArray}{e:Ed}(a:EdO w x e L):PtO w ⟨⟨none,0,none,0⟩,x⟩ ⟨k,f,t,Hk.zero,e⟩ L:=⟨[],L,HkO.zero,a,rfl⟩
theorem PtO.bare{k:Nat}{f t:ByteArray}:PtO w ⟨⟨none,0,none,0⟩,⟨none,0,none,0,none,0⟩⟩ ⟨k,f,t,Hk.zero,Ed.zero⟩ []:=⟨[],[],HkO.zero,EdO.zero,rfl⟩
end
end
section
open Go.RowKit
section
variable {P : Program} {ops : Array Oper} {Q : Exit → Act → World → Prop} {md : Region.Mode} {S : World → Prop} {o : Oper} {fuel n : Nat} {listed : Array Bool} {L L' : List Value} {df : List Deferred} {w w' : World} {v : Value} {K : Act → World → Prop} {i j k : Nat} {a : Act}
abbrev Next(P:Program)(md:Region.Mode)(ops:Array Oper)(Q:Exit→Act→World→Prop)(S:World→Prop)(fuel:Nat)(listed:Array Bool)(a:Act)(w:World):Prop:=S w∧wpAnyH P md ops Q S fuel listed a w
theorem dr1(i:Nat)(h:wpOp P ops Q i (fun a' w'=>Next P md ops Q S fuel (listed.setIfInBounds i true) a' w') a w)(hr:Region.ready md ops listed=[i]:=by kernel_rfl):wpAnyH P md ops Q S (fuel+1) listed a w :=
 ⟨fun e=>(by rw[hr]at e;cases e),fun x hx=>by rw[hr,List.mem_singleton]at hx;subst hx;exact h⟩
theorem dr2(i j:Nat)(h:wpOp P ops Q i (fun a' w'=>Next P md ops Q S fuel (listed.setIfInBounds i true) a' w') a w)(h2:wpOp P ops Q j (fun a' w'=>Next P md ops Q S fuel (listed.setIfInBounds j true) a' w') a w)
  (hr:Region.ready md ops listed=[i,j]:=by kernel_rfl):wpAnyH P md ops Q S (fuel+1) listed a w :=
 ⟨fun e=>(by rw[hr]at e;cases e),fun x hx=>by
  rw[hr]at hx;rcases List.mem_cons.1 hx with rfl|hx
  ·exact h
  ·rw[List.mem_singleton]at hx;subst hx;exact h2⟩
theorem dr3(i j k:Nat)(h:wpOp P ops Q i (fun a' w'=>Next P md ops Q S fuel (listed.setIfInBounds i true) a' w') a w)(h2:wpOp P ops Q j (fun a' w'=>Next P md ops Q S fuel (listed.setIfInBounds j true) a' w') a w)
  (h3:wpOp P ops Q k (fun a' w'=>Next P md ops Q S fuel (listed.setIfInBounds k true) a' w') a w) (hr:Region.ready md ops listed=[i,j,k]:=by kernel_rfl):wpAnyH P md ops Q S (fuel+1) listed a w :=
 ⟨fun e=>(by rw[hr]at e;cases e),fun x hx=>by
  rw[hr]at hx;rcases List.mem_cons.1 hx with rfl|hx
  ·exact h
  ·rcases List.mem_cons.1 hx with rfl|hx
   ·exact h2
   ·rw[List.mem_singleton]at hx;subst hx;exact h3⟩
theorem bc{f:FuncId}{args:Array Value}{post:Ending→World→Prop}(hc:Calls P f args w post)(h :∀e w',post e w'→∃u,e = .returned u∧K ⟨(L.set n u).toArray,df⟩ w')
  (hi:ops[i]?=some o:=by rfl) (he:(execOp (Act.mk L.toArray df).eval o).run P w = .ok (.enter f args) w:=by first|(go_simp;done)|(go_simp;with_reducible rfl)) (hd:o.dst=some n:=by rfl)
  (hw:Region.wanted o (yielded ops L.toArray)=true:=by rfl):wpOp P ops Q i K ⟨L.toArray,df⟩ w:=by
 unfold wpOp;simp only[hi];rw[if_pos hw];refine .inl ?_;unfold Oper.wp;rw[he];show Calls P f args w _;refine Calls.mono hc fun e w' hp=>?_;obtain⟨u,rfl,h2⟩:=h e w' hp;have e2:(Act.mk L.toArray df).put o.dst u=⟨(L.set n u).toArray,df⟩:=by rw[hd];simp[Act.put]
 show K ((Act.mk L.toArray df).put o.dst u) w';rw[e2];exact h2
theorem bw(h:K ⟨L'.toArray,df⟩ w')(hi:ops[i]?=some o:=by rfl)(hd:o.dst=some n:=by rfl)
  (hy:(execOp (Act.mk L.toArray df).eval o).run P w = .ok (.value v) w':=by first|(go_simp;done)|(go_simp;with_reducible rfl)|(go_simp;exact⟨rfl,rfl⟩))
  (hL:L.set n v=L':=by(try simp only[List.set_cons_zero,List.set_cons_succ]);rfl)
  (hw:Region.wanted o (yielded ops L.toArray)=true:=by rfl):wpOp P ops Q i K ⟨L.toArray,df⟩ w:=by
 unfold wpOp;simp only[hi];rw[if_pos hw];refine .inl ?_;unfold Oper.wp;rw[hy];have e:(Act.mk L.toArray df).put o.dst v=⟨L'.toArray,df⟩:=by rw[hd,←hL];simp[Act.put]
 show K ((Act.mk L.toArray df).put o.dst v) w';rw[e];exact h
theorem bs(h:K ⟨L.toArray,df⟩ w')(hi:ops[i]?=some o:=by rfl)
  (hy:(execOp (Act.mk L.toArray df).eval o).run P w = .ok .skip w':=by first|(go_simp;done)|(go_simp;with_reducible rfl)) (hd:o.dst=none:=by rfl)
  (hw:Region.wanted o (yielded ops L.toArray)=true:=by rfl):wpOp P ops Q i K ⟨L.toArray,df⟩ w:=by
 unfold wpOp;simp only[hi];rw[if_pos hw];refine .inl ?_;unfold Oper.wp;rw[hy];show K ((Act.mk L.toArray df).put o.dst undef) w';rw[hd];exact h
theorem wpAnyH_keep{S':World→Prop}(hS :∀w,S' w→S w):∀{fuel:Nat} {listed:Array Bool} {a:Act} {w:World},wpAnyH P md ops Q S' fuel listed a w→wpAnyH P md ops Q S fuel listed a w
 | 0,_,_,_,h=>h
 | fuel+1,_,_,_,h=>⟨h.1,fun i hi=>wpOp_mono (fun a' w' h'=>⟨hS w' h'.1,wpAnyH_keep hS h'.2⟩) (h.2 i hi)⟩
end
end
def Hk.more(h:Hk):Int:=(h.new.length:Int)-(h.old.length:Int)
def Hk.moved(h:Hk)(by_:Int):Hk:=⟨h.at_+by_,h.old,h.new⟩
def hkBoth(a b:Hk):Prop:=HkOk a∧HkOk b
open Classical in
noncomputable def hkCommute(p q:Hk):Option (Hk×Hk):=
 if q.at_<p.at_-(q.old.length:Int)then(if hkBoth (q.moved 0) (p.moved q.more)then some (q.moved 0,p.moved q.more)else none)
 else if p.at_<q.at_-(p.new.length:Int)then(if hkBoth (q.moved (-p.more)) (p.moved 0)then some (q.moved (-p.more),p.moved 0)else none)
 else none
open Classical in
noncomputable def hkMerge(p q:Hk):Option (Hk×Hk):=
 if p.at_<q.at_-(p.old.length:Int)then(if hkBoth (p.moved 0) (q.moved p.more)then some (p.moved 0,q.moved p.more)else none)
 else if q.at_<p.at_-(q.old.length:Int)then(if hkBoth (p.moved q.more) (q.moved 0)then some (p.moved q.more,q.moved 0)else none)
 else none
def Fo.names:Fo→List ByteArray
 | .nil=>[]
 | .cons k t _ ks r=>(if Named k then[t]else[])++(ks.names++r.names)
def Fo.binds:Fo→List ByteArray
 | .nil=>[]
 | .cons k t _ ks r=>(if k=2∨k=4∨k=6 then[t]else[])++(ks.binds++r.binds)
def Fo.calls:Fo→Prop
 | .nil=>False
 | .cons k _ _ ks r=>k=25∨ks.calls∨r.calls
def Fo.params:Fo→Prop
 | .nil=>False
 | .cons k _ _ _ r=>(k=3∨k=4)∨r.params
def Ed.parts(e:Ed):Fo:=e.old.app e.new
def Ed.names(e:Ed):List ByteArray:=if e.kind=1 then[e.frm,e.to]else e.parts.names
def Ed.binds(e:Ed):List ByteArray:=if e.kind=1 then[e.frm,e.to]else e.parts.binds
def meets(a b:List ByteArray):Prop:=∃s,s∈a∧s∈b
def edMix(p q:Ed):Prop :=
 if p.kind=1∧q.kind=1 then p.path=q.path∨(p.to=q.frm∨p.to=q.to)∨q.to=p.frm
 else meets p.binds q.names∨meets q.binds p.names∨(p.kind≠1∧q.kind≠1∧((p.parts.params∧q.parts.calls)∨(q.parts.params∧p.parts.calls)))
def pastOf(e:Ed)(x:List Int):Option (List Int):=
 if e.kind=2 then some (insertedP x e.path e.at_)
 else if e.kind=3 then deletedP x e.path e.at_
 else if e.kind=4 then(if underP x e.path then none else some x)
 else if e.kind=5 then(if underP x (e.path++[e.at_])then none else some (movedP x e.path e.at_ e.far))
 else some x
def Ed.up(e:Ed):Int:=if e.kind=2 then 1 else -1
def besideOf(p q:Ed):Option (Int×Int):=
 if p.kind=5∨q.kind=5 then none
 else if(if q.kind=3 then p.at_-1 else p.at_)≤q.at_∧q.at_≤(if p.kind=2 then p.at_+1 else p.at_)then none
 else if q.at_<p.at_ then some (q.at_,p.at_+q.up)
 else some (q.at_-p.up,p.at_)
def listed(e:Ed):Prop:=e.kind=2∨e.kind=3∨e.kind=5
instance (e:Ed):Decidable (listed e):=by unfold listed;infer_instance
def edTurn(p q:Ed):Option (Ed×Ed):=
 if listed p∧listed q∧p.path=q.path then(besideOf p q).map fun(j,i)=>({q with at_:=j},{p with at_:=i})
 else(pastOf p.inv q.path).bind fun x=>(pastOf {q with path:=x} p.path).map fun y=>({q with path:=x},{p with path:=y})
open Classical in
noncomputable def edCommute(p q:Ed):Option (Ed×Ed):=
 if edMix p q then none else(edTurn p q).bind fun(a,b)=>if EdOk a∧EdOk b then some (a,b)else none
open Classical in
noncomputable def ptCommute(p q:Pt):Option (Pt×Pt):=
 if p.file≠q.file then some (q,p)
 else if p.kind≠q.kind then none
 else if p.kind=3 then(hkCommute p.hunk q.hunk).map fun(a,b)=>({q with hunk:=a},{p with hunk:=b})
 else if p.kind=4 then(edCommute p.edit q.edit).map fun(a,b)=>({q with edit:=a},{p with edit:=b})
 else none
section
open Go.RowKit
section
variable {P : Program} {T e : TypeId} {z : Value} {size bytes : Nat}
theorem run_append_none{w:World}{base n c0:Nat}{v:Value}{xs:List Value}{i0:TypeInfo}(ht:P.underlying T=some (.slice e))(hi:P.info? e=some i0)(hown:w.ownsRow base e size v n xs)(ty:TypeId):
  (Builtin.append_ #[T,T] ty #[v,.slice none 0 c0]).run P w = .ok v w:=by
 obtain⟨A,c,rfl⟩:=own_shape hown;have hnc:n≤c:=by
  rcases hown.2 with⟨e1,rfl⟩|⟨g,cap,cur,e1,_,_,hc,_⟩
  ·exact Nat.zero_le _
  ·injection e1 with _ _ e1;omega
 rcases A with _|⟨b,o,p⟩
 ·have hn0:n=0:=by
   rcases hown.2 with⟨_,h⟩|⟨g,cap,cur,e1,_⟩
   ·exact h
   ·cases e1
  subst hn0;simp[Builtin.append_,run_underlying ht,sizeOf,typeInfo,hi,Builtin.lenOf,Builtin.firstCells,loadCells,loadCellsFrom,hnc]
 ·simp[Builtin.append_,run_underlying ht,sizeOf,typeInfo,hi,Builtin.lenOf,Builtin.firstCells,loadCells,storeCells,hnc]
theorem row_step{w:World}{base n m cB:Nat}{v:Value}{xs us:List Value}{B:Option Addr}(ht:P.underlying T=some (.slice e))(hI:(P.info? e).map (fun i=>(i.zero,i.size,i.bytes))=some (some z,size,bytes))(hz:z.cells.size=size)(h0:0<size)
  (hown:w.ownsRow base e size v n xs) (hB:B=none→m=0) (hlen:us.length=m*size) (hone :∀u∈us,u.oneCell'=true) (hc :∀a,B=some a→∀j u,us[j]?=some u→w.cell? (a.add j)=some u)
  (hbase:base≤w.heap.size) (hmax:n+m≤maxLen) (hl:(n+m)*bytes≤140737488355328) (ty:TypeId):
  ∃v' w',(Builtin.append_ #[T,T] ty #[v,.slice B m cB]).run P w = .ok v' w'∧w'.ownsRow base e size v' (n+m) (xs++us)∧Below base w w':=by
 obtain⟨i0,hi,hz0,hz1,hz2⟩:=info_parts hI;rcases B with _|a
 ·have hm:=hB rfl;subst hm;have hu:us=[]:=List.length_eq_zero_iff.1 (by simpa using hlen);subst hu;exact⟨v,w,run_append_none ht hi hown ty,by simpa using hown,Below.refl _ _⟩
 ·obtain⟨v',w',hrun,hown',hgr,_⟩:=run_append_own (P:=P) w base T ty e i0 z size bytes ht hi hz0 hz1 hz2 hz h0 v n xs hown a m cB us hlen (hc a rfl) hone hmax hl hbase;exact⟨v',w',hrun,hown',(Below.refl _ _).grown hgr hbase (fun k hk=>(hown.lt k hk).1)⟩
end
end
section
open Go.RowKit
section
variable {P : Program} {w : World} {ops : Array Oper} {rest : List Oper} {o : Oper} {a : Act} {K0 : Exit → Act → World → Prop}
def Went(w w':World)(v v':Value)(n m:Nat):Prop:=(∃A c,v = .slice A n c∧v' = .slice A (n+m) c)∨v'.ownBlock=some w.heap.size∧∀k,k<w.heap.size→w'.heap[k]?=w.heap[k]?
theorem went_of(base:Nat)(t ty e:TypeId)(i:TypeInfo)(z:Value)(size bytes:Nat)(ht:P.underlying t=some (.slice e))(hi:P.info? e=some i)(hz:i.zero=some z)
  (hsize:i.size=size) (hby:i.bytes=bytes) (v:Value) (n:Nat) (xs:List Value) (hown:w.ownsRow base e size v n xs)
  (a:Addr) (m c:Nat) (news:List Value) (hl:news.length=m*size) (hnews :∀j u,news[j]?=some u→w.cell? (a.add j)=some u) (h1 :∀u∈news,u.oneCell'=true)
  (h63:n+m≤maxLen) (hbytes:(n+m)*bytes≤140737488355328) (v':Value) (w':World) (hrun:(Builtin.append_ #[t,t] ty #[v,.slice (some a) m c]).run P w = .ok v' w'):
  Went w w' v v' n m:=by
 subst hsize;subst hby;have hm:n+m≤9223372036854775807:=by simp only[maxLen]at h63;omega
 rcases hown.2 with⟨rfl,rfl⟩|⟨g,cap,cur,rfl,_,hg,hnc,hcm,hcs,htake⟩
 ·by_cases h0:m=0
  ·subst h0;have hn:news=[]:=List.eq_nil_of_length_eq_zero (by simpa using hl);have hr:(Builtin.append_ #[t,t] ty #[.slice none 0 0,.slice (some a) 0 c]).run P w = .ok (.slice none 0 0) w:=by
    simp[Builtin.append_,run_underlying ht,sizeOf,typeInfo,hi,Builtin.lenOf,Builtin.firstCells,loadCells,loadCellsFrom]
   rw[hr]at hrun;injection hrun with e1 e2;subst e1;exact .inl ⟨none,0,rfl,rfl⟩
  ·have hr:=run_append_nil (P:=P) w t ty e i z ht hi hz a m c news hl hnews (by omega) (by omega) (by have:=hbytes;simp only[Nat.zero_add]at this;omega);rw[hr]at hrun;injection hrun with e1 e2;subst e1;exact .inr ⟨rfl,fun k hk=>by rw[←e2];exact heap_alloc_old w.drew _ hk⟩
 ·by_cases hroom:n+m≤cap
  ·have hfit:n*i.size+news.length≤cur.size:=by rw[hl,hcs,←Nat.add_mul];exact Nat.mul_le_mul_right _ hroom
   have hr:=run_append_room (P:=P) w t ty e i ht hi g n cap cur hg a m c news hl hnews h1 hroom hfit;rw[hr]at hrun;injection hrun with e1 e2;subst e1;exact .inl ⟨_,_,rfl,rfl⟩
  ·have hr:=run_append_grow (P:=P) w t ty e i z ht hi hz ⟨g,0,none⟩ n cap xs hown.1 (hown.cells (g:=g) rfl) a m c news hl hnews (by omega) (by omega) (growslice_fits (by omega) hbytes);rw[hr]at hrun;injection hrun with e1 e2;subst e1;exact .inr ⟨rfl,fun k hk=>by rw[←e2];exact heap_alloc_old w.drew _ hk⟩
theorem wpList_row(hgd:o.guard=none)(s x:Operand)(t:TypeId)
  (ho:o.op = .call {callee:= .builtin .append,args:=#[s,x],argTypes:=#[t,t]})
  (base:Nat) (e:TypeId) {z:Value} {size bytes:Nat} (ht:P.underlying t=some (.slice e)) (hI:(P.info? e).map (fun i=>(i.zero,i.size,i.bytes))=some (some z,size,bytes)) (hzs:z.cells.size=size) (hsz:0<size)
  (v:Value) (n:Nat) (xs:List Value) (hs:a.eval s=v) (hown:w.ownsRow base e size v n xs)
  (B:Option Addr) (m c:Nat) (news:List Value) (hx:a.eval x = .slice B m c) (hB:B=none→m=0) (hl:news.length=m*size) (hnews :∀ad,B=some ad→∀j u,news[j]?=some u→w.cell? (ad.add j)=some u) (h1 :∀u∈news,u.oneCell'=true)
  (h63:n+m≤maxLen) (hbytes:(n+m)*bytes≤140737488355328) (hbase:base≤w.heap.size)
  (h :∀v' w',w'.ownsRow base e size v' (n+m) (xs++news)→w.grownBy w' v.ownBlock→Went w w' v v' n m→wpList P ops K0 rest (a.put o.dst v') w'):wpList P ops K0 (o::rest) a w:=by
 obtain⟨i,hi,hz,hsize,hby⟩:=info_parts hI;refine wpList_plain hgd fun K hK'=>?_;have key :∃v' w',(Builtin.append_ #[t,t] o.type #[v,.slice B m c]).run P w = .ok v' w'∧w'.ownsRow base e size v' (n+m) (xs++news)∧w.grownBy w' v.ownBlock∧Went w w' v v' n m:=by
  rcases B with _|ad
  ·have hm:=hB rfl;subst hm;have hu:news=[]:=List.length_eq_zero_iff.1 (by simpa using hl);subst hu;obtain⟨A,c',rfl⟩:=own_shape hown;exact⟨_,w,run_append_none ht hi hown _,by simpa using hown,World.grownBy.refl _ _,.inl ⟨A,c',rfl,rfl⟩⟩
  ·obtain⟨v',w',hr,h2,h3,h4⟩:=run_append_own (P:=P) w base t o.type e i z size bytes ht hi hz hsize hby hzs hsz v n xs hown ad m c news hl (hnews ad rfl) h1 h63 hbytes hbase;exact⟨v',w',hr,h2,h3,went_of base t o.type e i z size bytes ht hi hz hsize hby v n xs hown ad m c news hl (hnews ad rfl) h1 h63 hbytes v' w' hr⟩
 obtain⟨v',w',hr,h2,h3,h5⟩:=key;unfold Oper.wp;simp[execOp,ho,resolve,invoke,builtin,hs,hx,hr,Result.andThen];exact hK' _ _ (h v' w' h2 h3 h5)
end
end
theorem HkOk.inv{h:Hk}(a:HkOk h):HkOk ⟨h.at_,h.new,h.old⟩:=⟨a.1,a.2.1,a.2.2.2.1,a.2.2.1,fun e=>a.2.2.2.2 e.symm⟩
theorem Hk.moved_zero(h:Hk):h.moved 0=h:=by cases h;simp[Hk.moved]
theorem hkCommute_ok{p q a b:Hk}(h:hkCommute p q=some (a,b)):HkOk a∧HkOk b:=by
 unfold hkCommute at h;split at h
 ·split at h
  ·next hb=>cases h;exact hb
  ·cases h
 ·split at h
  ·split at h
   ·next hb=>cases h;exact hb
   ·cases h
  ·cases h
theorem edCommute_ok{p q a b:Ed}(h:edCommute p q=some (a,b)):EdOk a∧EdOk b:=by
 unfold edCommute at h;split at h
 ·cases h
 ·obtain⟨⟨x,y⟩,_,h2⟩:=Option.bind_eq_some_iff.1 h;simp only at h2;split at h2
  ·next hb=>cases h2;exact hb
  ·cases h2
theorem ptCommute_ok{p q a b:Pt}(hp:PtOk p)(hq:PtOk q)(h:ptCommute p q=some (a,b)):PtOk a∧PtOk b:=by
 unfold ptCommute at h;split at h
 ·cases h;exact⟨hq,hp⟩
 ·next hf =>
  split at h
  ·cases h
  ·next hk =>
   simp only[ne_eq,Decidable.not_not]at hf hk;split at h
   ·next h3 =>
    obtain⟨⟨x,y⟩,h1,h2⟩:=Option.map_eq_some_iff.1 h;cases h2;obtain⟨ha,hb⟩:=hkCommute_ok h1;have h3q:q.kind=3:=hk▸h3;refine⟨⟨hq.1,.inr (.inl ?_)⟩,⟨hp.1,.inr (.inl ?_)⟩⟩
    ·obtain⟨_,h|h|h⟩:=hq
     ·omega
     ·exact⟨h.1,h.2.1,h.2.2.1,ha⟩
     ·omega
    ·obtain⟨_,h|h|h⟩:=hp
     ·omega
     ·exact⟨h.1,h.2.1,h.2.2.1,hb⟩
     ·omega
   ·next h3 =>
    split at h
    ·next h4 =>
     obtain⟨⟨x,y⟩,h1,h2⟩:=Option.map_eq_some_iff.1 h;cases h2;obtain⟨ha,hb⟩:=edCommute_ok h1;have h4q:q.kind=4:=hk▸h4;refine⟨⟨hq.1,.inr (.inr ?_)⟩,⟨hp.1,.inr (.inr ?_)⟩⟩
     ·obtain⟨_,h|h|h⟩:=hq
      ·omega
      ·omega
      ·exact⟨h.1,h.2.1,h.2.2.1,ha⟩
     ·obtain⟨_,h|h|h⟩:=hp
      ·omega
      ·omega
      ·exact⟨h.1,h.2.1,h.2.2.1,hb⟩
    ·cases h
theorem ptCommute_kinds{p q a b:Pt}(h:ptCommute p q=some (a,b)):(p.file≠q.file→a=q∧b=p)∧(p.file=q.file→a.kind=q.kind∧b.kind=p.kind∧p.kind=q.kind)∧a.file=q.file∧b.file=p.file:=by
 unfold ptCommute at h;split at h
 ·next hf=>cases h;exact⟨fun _=>⟨rfl,rfl⟩,fun e=>absurd e hf,rfl,rfl⟩
 ·next hf =>
  split at h
  ·cases h
  ·next hk =>
   simp only[ne_eq,Decidable.not_not]at hf hk;split at h
   ·obtain⟨⟨x,y⟩,h1,h2⟩:=Option.map_eq_some_iff.1 h;cases h2;exact⟨fun e=>absurd hf e,fun _=>⟨rfl,rfl,hk⟩,rfl,rfl⟩
   ·split at h
    ·obtain⟨⟨x,y⟩,h1,h2⟩:=Option.map_eq_some_iff.1 h;cases h2;exact⟨fun e=>absurd hf e,fun _=>⟨rfl,rfl,hk⟩,rfl,rfl⟩
    ·cases h
def renamesP(p q:Pt):Prop:=p.file=q.file∧(p.kind=4∧p.edit.kind=1)∧(q.kind=4∧q.edit.kind=1)
instance (p q:Pt):Decidable (renamesP p q):=by unfold renamesP;infer_instance
noncomputable def ptSide(p q:Pt):Option (Pt×Pt):=if renamesP p q then some (p,q)else(ptCommute p.inv q).map fun(a,n)=>(n.inv,a)
open Classical in
noncomputable def ptMerge(p q:Pt):Option (Pt×Pt):=
 (ptSide p q).bind fun(p2,q2)=>match ptCommute p q2 with
  | some (a,b)=>if a=q∧b=p2 then some (p2,q2)else none
  | none=>none
theorem ptSide_ok{p q a b:Pt}(hp:PtOk p)(hq:PtOk q)(hi :∀{x:Pt},PtOk x→PtOk x.inv)(h:ptSide p q=some (a,b)):PtOk a∧PtOk b:=by
 unfold ptSide at h;split at h
 ·cases h;exact⟨hp,hq⟩
 ·obtain⟨⟨x,y⟩,h1,h2⟩:=Option.map_eq_some_iff.1 h;cases h2;obtain⟨ha,hb⟩:=ptCommute_ok (hi hp) hq h1;exact⟨hi hb,ha⟩
def linesPt(f:ByteArray)(h:Hk):Pt:=⟨3,f,noTxt,h,Ed.zero⟩
theorem linesPt_inv(f:ByteArray)(h:Hk):(linesPt f h).inv=linesPt f ⟨h.at_,h.new,h.old⟩:=rfl
theorem linesPt_commute(f:ByteArray)(p q:Hk):ptCommute (linesPt f p) (linesPt f q)=(hkCommute p q).map fun(a,b)=>(linesPt f a,linesPt f b):=by
 unfold ptCommute;simp only[linesPt,ne_eq,not_true,if_false,if_true]
theorem linesPt_side(f:ByteArray)(p q:Hk):ptSide (linesPt f p) (linesPt f q)=(hkCommute ⟨p.at_,p.new,p.old⟩ q).map fun(a,n)=>(linesPt f ⟨n.at_,n.new,n.old⟩,linesPt f a):=by
 unfold ptSide;have hr :¬renamesP (linesPt f p) (linesPt f q):=by rintro⟨_,⟨h,_⟩,_⟩;simp[linesPt]at h
 rw[if_neg hr,linesPt_inv,linesPt_commute];cases hkCommute ⟨p.at_,p.new,p.old⟩ q with
 | none=>rfl
 | some x=>rfl
theorem linesPt_inj{f:ByteArray}{p q:Hk}:linesPt f p=linesPt f q↔p=q:=⟨fun h=>by unfold linesPt at h;injection h,fun h=>by rw[h]⟩
open Classical in
theorem linesPt_merge(f:ByteArray){p q:Hk}(hp:HkOk p)(hq:HkOk q):ptMerge (linesPt f p) (linesPt f q)=(hkMerge p q).map fun(a,b)=>(linesPt f a,linesPt f b):=by
 unfold ptMerge;rw[linesPt_side];unfold hkMerge;have hpi:=hp.inv;have hp0:=hp.1;have hq0:=hq.1;by_cases h1:p.at_<q.at_-(p.old.length:Int)
 ·
  rw[if_pos h1];have e1:hkCommute ⟨p.at_,p.new,p.old⟩ q=if HkOk (q.moved p.more)then some (q.moved p.more,⟨p.at_,p.new,p.old⟩)else none:=by
   unfold hkCommute;rw[if_neg (by simp only;omega),if_pos h1];have em:-(Hk.more ⟨p.at_,p.new,p.old⟩)=p.more:=by simp only[Hk.more];omega
   rw[em,Hk.moved_zero];by_cases hq2:HkOk (q.moved p.more)
   ·rw[if_pos ⟨hq2,hpi⟩,if_pos hq2]
   ·rw[if_neg (fun h=>hq2 h.1),if_neg hq2]
  rw[e1,Hk.moved_zero];by_cases hq2:HkOk (q.moved p.more)
  ·rw[if_pos hq2,if_pos ⟨hp,hq2⟩];simp only[Option.map_some,Option.bind_some,linesPt_commute];have e2:hkCommute p (q.moved p.more)=some (q,p):=by
    unfold hkCommute;have em:(q.moved p.more).moved (-p.more)=q:=by cases q;simp only[Hk.moved,Hk.mk.injEq,and_true];omega
    have hm:(q.moved p.more).at_=q.at_+((p.new.length:Int)-(p.old.length:Int)):=rfl;have hm2:(q.moved p.more).old=q.old:=rfl;rw[if_neg (by rw[hm,hm2];omega),if_pos (by rw[hm];omega),em,Hk.moved_zero,if_pos ⟨hq,hp⟩]
   rw[e2];simp
  ·rw[if_neg hq2,if_neg (fun h=>hq2 h.2)];rfl
 ·rw[if_neg h1];by_cases h2:q.at_<p.at_-(q.old.length:Int)
  ·rw[if_pos h2];have e1:hkCommute ⟨p.at_,p.new,p.old⟩ q=if HkOk (p.moved q.more)then some (q,⟨p.at_+q.more,p.new,p.old⟩)else none:=by
    unfold hkCommute;rw[if_pos h2,Hk.moved_zero];by_cases hq2:HkOk (p.moved q.more)
    ·rw[if_pos ⟨hq,hq2.inv⟩,if_pos hq2];rfl
    ·rw[if_neg (fun h=>hq2 h.2.inv),if_neg hq2]
   rw[e1,Hk.moved_zero];by_cases hq2:HkOk (p.moved q.more)
   ·rw[if_pos hq2,if_pos ⟨hq2,hq⟩];simp only[Option.map_some,Option.bind_some,linesPt_commute];have e2:hkCommute p q=some (q,p.moved q.more):=by
     unfold hkCommute;rw[if_pos h2,Hk.moved_zero,if_pos ⟨hq,hq2⟩]
    rw[e2];simp[Hk.moved]
   ·rw[if_neg hq2,if_neg (fun h=>hq2 h.1)];rfl
  ·rw[if_neg h2];have e1:hkCommute ⟨p.at_,p.new,p.old⟩ q=none:=by
    unfold hkCommute;rw[if_neg h2,if_neg (show¬p.at_<q.at_-(p.old.length:Int)from h1)]
   rw[e1];rfl
end Go.Proofs.YtialngdffhmobaaGreatDoor
