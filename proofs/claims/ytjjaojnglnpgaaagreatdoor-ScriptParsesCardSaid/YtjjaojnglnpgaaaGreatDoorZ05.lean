/- Part 6 of what scriptParses_card rests on. -/
import Derived.Deep.RegionWith
import Derived.Deep.CutRange
import Derived.Deep.DeepCutAuto
import Derived.Test.YtjjaojnglnpgaaaGreatDoorShelf
import Derived.Test.YtjjaojnglnpgaaaGreatDoorZ01
import Derived.Test.YtjjaojnglnpgaaaGreatDoorZ02
import Derived.Test.YtjjaojnglnpgaaaGreatDoorZ04
import Derived.Test.YtjjaojnglnpgaaaGreatDoorZ00
set_option linter.unusedVariables false
set_option linter.unusedSimpArgs false
set_option maxHeartbeats 16000000
set_option maxRecDepth 1000000
namespace Go.Proofs.YtjjaojnglnpgaaaGreatDoor
section
open Go.RowKit
theorem Vk{S S':Nat→Prop}{A A':Option Addr}{c c':Nat}{l m:List UInt8}{w:World}(hl:BytesIn S w A l)(hm:BytesIn S' w A' m):
  Calls Tryz.prog 66 #[.slice A l.length c,.slice A' m.length c'] w fun e w'=>RetB (l=m) e∧∃n,w'=w.drewN n:=by
 have hl3:=hl.2;have gq:=hm.2;have Hl:=hide hl.1;have Hm:=hide hm.1;clear hl hm;by_cases hn:l.length=m.length
 ·have hd:((l.length:Int) != (m.length:Int))=false:=by simp[hn]
  have Hn:=hide hn;clear hn;go_enter Tryz.func66,Tryz.ntmps66
  go_wp2
  go_loopw [5] (fun i wr=>∃k q:Nat,k≤l.length∧i = .int .i64 k∧wr=w.drewN q∧Hid (∀j,j<k→l[j]?=m[j]?)) (fun i _=>l.length-(intOf i).toNat)
  case atStart=>exact⟨0,0,Nat.zero_le _,rfl,rfl,hide (fun j h=>absurd h (by omega))⟩
  case round =>
   obtain⟨k,q,hk,rfl,rfl,hall⟩:=hrel;by_cases hlt:k<l.length
   ·obtain⟨b,o,rfl,h1⟩:=Hl.out.at_ (j:=k) (by simpa[bytesV]using hlt);obtain⟨b',o',rfl,h2⟩:=Hm.out.at_ (j:=k) (by have:=Hn.out;simp[bytesV];omega);simp only[bytesV,List.getElem_map]at h1 h2;have hlt2:k<m.length:=by have:=Hn.out;omega
    have e1:l[k]?=some l[k]:=by simp[hlt]
    have e2:m[k]?=some m[k]:=by simp[hlt2]
    have E1:=hide e1;have E2:=hide e2;clear e1 e2;generalize l[k]=s at h1 E1;generalize m[k]=s' at h2 E2
    go_wp2
    go_quiet (fail)
    go_wp2
    ·have ht:((s.toNat:Int) != (s'.toNat:Int))=true:=by assumption
     go_ret;exact⟨RetB.no (Dh E1.out E2.out (by intro e;subst e;simp at ht)),_,World.drewN_drewN _ _ _⟩
    ·have ht:((s.toNat:Int) != (s'.toNat:Int))=false:=by assumption
     go_roundw
     case rel=>exact⟨k+1,_,by omega,by go_num,rfl,hide (C9 hall.out (by rw[E1.out,E2.out,(UInt8.toNat_inj.mp (by simp at ht;omega):s=s')]))⟩
     case measure=>simp[intOf];omega
   ·go_wp2
    go_ret;exact⟨RetB.yes (Dc hall.out Hn.out hlt),_,rfl⟩
 ·have hd:((l.length:Int) != (m.length:Int))=true:=by simp;omega
  have Hn:=hide hn;clear hn;go_enter Tryz.func66,Tryz.ntmps66
  go_wp2
  go_ret;exact⟨RetB.no (Di Hn.out),0,rfl⟩
end
section
open Go.RowKit
def ob(v:Value):List Nat:=v.ownBlock.toList
def obs(R:List (Value×Nat)):List Nat:=R.flatMap fun r=>ob r.1
theorem fA{v:Value}{g:Nat}:g∈ob v↔v.ownBlock=some g:=by simp[ob,Option.mem_toList]
theorem vz:obs []=[]:=rfl
theorem BF(r:Value×Nat)(R:List (Value×Nat)):obs (r::R)=ob r.1++obs R:=by simp[obs]
theorem zo(R R':List (Value×Nat)):obs (R++R')=obs R++obs R':=by simp[obs]
section
variable {w w' : World} {e : TypeId} {size n : Nat} {v : Value} {xs : List Value}
theorem Dv(h:w.ownsRow 0 e size v n xs)(hk :∀b∈ob v,w'.heap[b]?=w.heap[b]?):w'.ownsRow 0 e size v n xs:=by
 refine⟨h.1,?_⟩;rcases h.2 with hn|⟨g,cap,cur,rfl,hb,hgg,rest⟩
 ·exact .inl hn
 ·exact .inr ⟨g,cap,cur,rfl,hb,(hk g (fA.2 rfl)).trans hgg,rest⟩
theorem H6(h:w.ownsRow 0 e size v n xs):∀b∈ob v,b<w.heap.size:=fun b hb=>(h.lt b (fA.1 hb)).2
theorem BG{L L':List Nat}{M:Nat}(h:L.Nodup)(h':L'.Nodup)(hl :∀b∈L,b<M)(hl' :∀b∈L',M≤b):(L++L').Nodup :=
 List.nodup_append.2 ⟨h,h',fun a ha b hb e=>by have:=hl a ha;have:=hl' b hb;omega⟩
theorem H9(v:Value):(ob v).Nodup:=by unfold ob;cases v.ownBlock<;>simp
end
def FoR(w:World):List Value→Fo→List (Value×Nat)→Prop
 | vs,.nil,R=>vs=[]∧R=[]
 | vs,.cons k t n ks r,R=>∃KA c vs' ys R1 R2,vs = .int .u8 k :: .string t :: .int .i64 n :: .slice KA ks.len c::vs'∧(k<256∧t.size≤9223372036854775807∧isInt64 n)∧
   w.ownsRow 0 218 4 (.slice KA ks.len c) ks.len ys∧FoR w ys ks R1∧FoR w vs' r R2∧R=(.slice KA ks.len c,ks.len)::(R1++R2)
section
variable {w w' : World}
theorem FoR.keep :∀{f:Fo} {vs:List Value} {R:List (Value×Nat)},FoR w vs f R→(∀b∈obs R,w'.heap[b]?=w.heap[b]?)→FoR w' vs f R:=by
 intro f
 induction f with
 | nil=>intro vs R h _;exact h
 | cons k t n ks r ihk ihr =>
  rintro vs R ⟨KA,c,vs',ys,R1,R2,rfl,h1,h2,h3,h4,rfl⟩ hk;simp only[BF,zo,List.mem_append]at hk;exact⟨KA,c,vs',ys,R1,R2,rfl,h1,Dv h2 fun b hb=>hk b (.inl hb),ihk h3 fun b hb=>hk b (.inr (.inl hb)),ihr h4 fun b hb=>hk b (.inr (.inr hb)),rfl⟩
theorem FoR.lt :∀{f:Fo} {vs:List Value} {R:List (Value×Nat)},FoR w vs f R→∀b∈obs R,b<w.heap.size:=by
 intro f
 induction f with
 | nil=>rintro vs R ⟨_,rfl⟩ b hb;simp[vz]at hb
 | cons k t n ks r ihk ihr =>
  rintro vs R ⟨KA,c,vs',ys,R1,R2,rfl,h1,h2,h3,h4,rfl⟩ b hb;simp only[BF,zo,List.mem_append]at hb;rcases hb with hb|hb|hb
  ·exact H6 h2 b hb
  ·exact ihk h3 b hb
  ·exact ihr h4 b hb
theorem vC{e n:Nat}{v:Value}{xs:List Value}{A:Option Addr}{c size:Nat}(h:w.ownsRow 0 e size v n xs)(hv:v = .slice A n c):n≤c∧c≤9223372036854775807:=by
 subst hv;rcases h.2 with⟨e1,e2⟩|⟨g,cap,cur,e1,_,_,hn,hc,_⟩
 ·injection e1 with _ _ e3;omega
 ·injection e1 with _ _ e3;unfold maxLen at hc;omega
theorem xY{S:Nat→Prop}{e n c:Nat}{A:Option Addr}{xs:List Value}(h:w.ownsRow 0 e 1 (.slice A n c) n xs)(hS :∀g∈ob (.slice A n c),S g):Rd S w A xs:=by
 obtain⟨A',c',e1,h1,_⟩:=CZ (S:=S) h fun g hg=>hS g (fA.2 hg);injection e1 with e1;exact e1▸h1
theorem kD{S:Nat→Prop}{e c:Nat}{A:Option Addr}{vs:List Value}{f:Fo}(h:w.ownsRow 0 e 4 (.slice A f.len c) f.len vs)(hS :∀g∈ob (.slice A f.len c),S g)(hf:FoCells S w vs f):FoIn S w A f:=by
 rcases h.2 with⟨e1,h0⟩|⟨g,cap,cur,e1,hb,hgg,hn,hc,_⟩
 ·have:f = .nil:=by cases f with
   | nil=>rfl
   | cons=>simp[Fo.len]at h0
  subst this;exact trivial
 ·injection e1 with e1 _ e3;subst e1;refine hf.at_ (fun b hS=>hS) (hS g (fA.2 rfl)) fun j u hu=>?_;have:=h.cells (g:=g) rfl j u hu
  rwa [Addr.add_lit]at this
theorem FoR.cells{S:Nat→Prop}:∀{f:Fo} {vs:List Value} {R:List (Value×Nat)},FoR w vs f R→(∀b∈obs R,S b)→FoCells S w vs f:=by
 intro f
 induction f with
 | nil=>rintro vs R ⟨rfl,_⟩ _;rfl
 | cons k t n ks r ihk ihr =>
  rintro vs R ⟨KA,c,vs',ys,R1,R2,rfl,⟨h1,h5,h6⟩,h2,h3,h4,rfl⟩ hS;simp only[BF,zo,List.mem_append]at hS;obtain⟨hn,hc⟩:=vC h2 rfl;exact⟨KA,c,vs',rfl,h1,h5,h6,hn,hc,kD h2 (fun g hg=>hS g (.inl hg)) (ihk h3 fun b hb=>hS b (.inr (.inl hb))),ihr h4 fun b hb=>hS b (.inr (.inr hb))⟩
theorem FoR.snoc{k:Nat}{t:ByteArray}{n:Int}{ks:Fo}{KA:Option Addr}{c:Nat}{ys:List Value}{R1:List (Value×Nat)}(h1:k<256∧t.size≤9223372036854775807∧isInt64 n)
  (h2:w.ownsRow 0 218 4 (.slice KA ks.len c) ks.len ys) (h3:FoR w ys ks R1):
  ∀{f:Fo} {vs:List Value} {R:List (Value×Nat)},FoR w vs f R→FoR w (vs++[.int .u8 k,.string t,.int .i64 n,.slice KA ks.len c]) (f.app (.cons k t n ks .nil)) (R++(.slice KA ks.len c,ks.len)::R1):=by
 intro f
 induction f with
 | nil=>rintro vs R ⟨rfl,rfl⟩;exact⟨KA,c,[],ys,R1,[],rfl,h1,h2,h3,⟨rfl,rfl⟩,by simp⟩
 | cons k' t' n' ks' r _ ih =>
  rintro vs R ⟨gp,c',vs',ys',Vl,R2',rfl,g1,g2,g3,g4,rfl⟩;exact⟨gp,c',_,ys',Vl,_,rfl,g1,g2,g3,ih g4,by simp⟩
end
def NodesO(w:World)(A:Option Addr)(c:Nat)(f:Fo)(L:List Nat):Prop :=
 ∃vs R,w.ownsRow 0 218 4 (.slice A f.len c) f.len vs∧FoR w vs f R∧L=ob (.slice A f.len c)++obs R∧L.Nodup
def RowO(e:TypeId)(w:World)(A:Option Addr)(c n:Nat)(xs:List Value)(L:List Nat):Prop:=w.ownsRow 0 e 1 (.slice A n c) n xs∧L=ob (.slice A n c)
section
variable {w w' : World} {A : Option Addr} {c : Nat} {f : Fo} {L : List Nat} {e : TypeId} {n : Nat} {xs : List Value}
theorem NodesO.keep(h:NodesO w A c f L)(hk :∀b∈L,w'.heap[b]?=w.heap[b]?):NodesO w' A c f L:=by
 obtain⟨vs,R,h1,h2,rfl,h3⟩:=h;exact⟨vs,R,Dv h1 fun b hb=>hk b (by simp[hb]),h2.keep fun b hb=>hk b (by simp[hb]),rfl,h3⟩
theorem NodesO.lt(h:NodesO w A c f L):∀b∈L,b<w.heap.size:=by
 obtain⟨vs,R,h1,h2,rfl,h3⟩:=h;intro b hb;rcases List.mem_append.1 hb with hb|hb
 ·exact H6 h1 b hb
 ·exact h2.lt b hb
theorem NodesO.nodup(h:NodesO w A c f L):L.Nodup:=by obtain⟨_,_,_,_,_,h⟩:=h;exact h
theorem NodesO.fo{S:Nat→Prop}(h:NodesO w A c f L)(hS :∀b∈L,S b):FoIn S w A f:=by
 obtain⟨vs,R,h1,h2,rfl,h3⟩:=h;exact kD h1 (fun g hg=>hS g (by simp[hg])) (h2.cells fun b hb=>hS b (by simp[hb]))
theorem NodesO.zero:NodesO w none 0 .nil []:=⟨[],[],⟨rfl,.inl ⟨rfl,rfl⟩⟩,⟨rfl,rfl⟩,rfl,List.nodup_nil⟩
theorem RowO.keep(h:RowO e w A c n xs L)(hk :∀b∈L,w'.heap[b]?=w.heap[b]?):RowO e w' A c n xs L:=by
 obtain⟨h1,rfl⟩:=h;exact⟨Dv h1 hk,rfl⟩
theorem RowO.lt(h:RowO e w A c n xs L):∀b∈L,b<w.heap.size:=by
 obtain⟨h1,rfl⟩:=h;exact H6 h1
theorem RowO.nodup(h:RowO e w A c n xs L):L.Nodup:=by obtain⟨_,rfl⟩:=h;exact H9 _
theorem RowO.zero:RowO e w none 0 0 [] []:=⟨⟨rfl,.inl ⟨rfl,rfl⟩⟩,rfl⟩
end
def HkO(w:World)(x:Hh)(h:Hk)(L:List Nat):Prop:=∃L1 L2,RowO 9 w x.oA x.oc h.old.length (h.old.map .string) L1∧RowO 9 w x.nA x.nc h.new.length (h.new.map .string) L2∧L=L1++L2
def EdO(w:World)(x:Eh)(e:Ed)(L:List Nat):Prop:=∃L1 L2 L3,RowO 3 w x.pA x.pc e.path.length (e.path.map (.int .i64)) L1∧NodesO w x.oA x.oc e.old L2∧NodesO w x.nA x.nc e.new L3∧L=L1++(L2++L3)
def PtO(w:World)(x:Ph)(p:Pt)(L:List Nat):Prop:=∃L1 L2,HkO w x.h p.hunk L1∧EdO w x.e p.edit L2∧L=L1++L2
section
variable {w w' : World} {L : List Nat}
theorem HkO.keep{x:Hh}{h:Hk}(a:HkO w x h L)(hk :∀b∈L,w'.heap[b]?=w.heap[b]?):HkO w' x h L:=by
 obtain⟨L1,L2,h1,h2,rfl⟩:=a;exact⟨L1,L2,h1.keep fun b hb=>hk b (by simp[hb]),h2.keep fun b hb=>hk b (by simp[hb]),rfl⟩
theorem EdO.keep{x:Eh}{e:Ed}(a:EdO w x e L)(hk :∀b∈L,w'.heap[b]?=w.heap[b]?):EdO w' x e L:=by
 obtain⟨L1,L2,L3,h1,h2,h3,rfl⟩:=a;exact⟨L1,L2,L3,h1.keep fun b hb=>hk b (by simp[hb]),h2.keep fun b hb=>hk b (by simp[hb]),h3.keep fun b hb=>hk b (by simp[hb]),rfl⟩
theorem PtO.keep{x:Ph}{p:Pt}(a:PtO w x p L)(hk :∀b∈L,w'.heap[b]?=w.heap[b]?):PtO w' x p L:=by
 obtain⟨L1,L2,h1,h2,rfl⟩:=a;exact⟨L1,L2,h1.keep fun b hb=>hk b (by simp[hb]),h2.keep fun b hb=>hk b (by simp[hb]),rfl⟩
theorem HkO.lt{x:Hh}{h:Hk}(a:HkO w x h L):∀b∈L,b<w.heap.size:=by
 obtain⟨L1,L2,h1,h2,rfl⟩:=a;intro b hb;rcases List.mem_append.1 hb with hb|hb
 ·exact h1.lt b hb
 ·exact h2.lt b hb
theorem EdO.lt{x:Eh}{e:Ed}(a:EdO w x e L):∀b∈L,b<w.heap.size:=by
 obtain⟨L1,L2,L3,h1,h2,h3,rfl⟩:=a;intro b hb;simp only[List.mem_append]at hb;rcases hb with hb|hb|hb
 ·exact h1.lt b hb
 ·exact h2.lt b hb
 ·exact h3.lt b hb
theorem PtO.lt{x:Ph}{p:Pt}(a:PtO w x p L):∀b∈L,b<w.heap.size:=by
 obtain⟨L1,L2,h1,h2,rfl⟩:=a;intro b hb;rcases List.mem_append.1 hb with hb|hb
 ·exact h1.lt b hb
 ·exact h2.lt b hb
theorem HkO.zero:HkO w ⟨none,0,none,0⟩ Hk.zero []:=⟨[],[],RowO.zero,RowO.zero,rfl⟩
theorem EdO.zero:EdO w ⟨none,0,none,0,none,0⟩ Ed.zero []:=⟨[],[],[],RowO.zero,NodesO.zero,NodesO.zero,rfl⟩
theorem PtO.hunk{x:Hh}{k:Nat}{f t:ByteArray}{h:Hk}(a:HkO w x h L):PtO w ⟨x,⟨none,0,none,0,none,0⟩⟩ ⟨k,f,t,h,Ed.zero⟩ L:=⟨L,[],a,EdO.zero,by simp⟩
theorem PtO.edit{x:Eh}{k:Nat}{f t:ByteArray}{e:Ed}(a:EdO w x e L):PtO w ⟨⟨none,0,none,0⟩,x⟩ ⟨k,f,t,Hk.zero,e⟩ L:=⟨[],L,HkO.zero,a,rfl⟩
theorem PtO.bare{k:Nat}{f t:ByteArray}:PtO w ⟨⟨none,0,none,0⟩,⟨none,0,none,0,none,0⟩⟩ ⟨k,f,t,Hk.zero,Ed.zero⟩ []:=⟨[],[],HkO.zero,EdO.zero,rfl⟩
end
end
section
open Go.RowKit
theorem Ia{l:List UInt8}(h:8≤l.length):∃n l',l=num8 n++l'∧is63 n:=by
 have ve:(l.take 8).length=8:=by simp;omega
 have hb8:=Dn (l.take 8);rw[ve,show(256:Nat) ^ 8=18446744073709551616 from rfl]at hb8;refine⟨wrap64 (beNat (l.take 8)),l.drop 8,?_,?_⟩
 ·rw[Kr ve (by unfold wrap64;omega),List.take_append_drop]
 ·unfold is63 wrap64;omega
section
variable {D : Nat → Prop} {rb d : Nat} {w : World} {l l' : List UInt8} {n : Int}
theorem xZ(h:Rdr D rb w (num8 n++l') d)(hn:is63 n):
  Calls Tryz.prog 250 #[.pointer (some ⟨rb,0,none⟩)] w fun e w'=>e = .returned (.int .i64 n)∧Rdr D rb w' l' d∧Side rb w w':=by
 refine(zi h).mono ?_;rintro e w' (⟨n',l2,he,hn',rfl,hr,hs⟩|⟨hl,_⟩)
 ·obtain⟨rfl,rfl⟩:=zag hn hn' he;exact⟨rfl,hr,hs⟩
 ·rw[aJ,eY]at hl;omega
theorem Ib(h:Rdr D rb w l d)(hl:l.length<8):Calls Tryz.prog 250 #[.pointer (some ⟨rb,0,none⟩)] w fun e w'=>e=oops∧Side rb w w':=by
 refine(zi h).mono ?_;rintro e w' (⟨n',l2,rfl,_⟩|⟨_,he,hs⟩)
 ·rw[aJ,eY]at hl;omega
 ·exact⟨he,hs⟩
theorem PV(h:Rdr D rb w l d)(hn:is63 n)(h1:0≤n∧n≤l.length):Calls Tryz.prog 248 #[.pointer (some ⟨rb,0,none⟩),.int .i64 n] w fun e w' =>
  ∃A c,e = .returned (.slice A n.toNat c)∧BytesIn (Off rb) w' A (l.take n.toNat)∧Rdr D rb w' (l.drop n.toNat) d∧Side rb w w':=by
 refine(Kq h hn).mono ?_;rintro e w' (⟨A,c,_,_,h2⟩|⟨h2,_⟩)
 ·exact⟨A,c,h2⟩
 ·exact absurd h1 h2
theorem Ic(h:Rdr D rb w l d)(hn:is63 n)(h1 :¬(0≤n∧n≤l.length)):Calls Tryz.prog 248 #[.pointer (some ⟨rb,0,none⟩),.int .i64 n] w fun e w'=>e=oops∧Side rb w w':=by
 refine(Kq h hn).mono ?_;rintro e w' (⟨A,c,h2,h3,_⟩|⟨_,h2⟩)
 ·exact absurd ⟨h2,h3⟩ h1
 ·exact h2
theorem Dw(h:Rdr D rb w l d)(hne:0<l.length):Calls Tryz.prog 248 #[.pointer (some ⟨rb,0,none⟩),.int .i64 1] w fun e w' =>
  ∃A c,e = .returned (.slice A 1 c)∧BytesIn (Off rb) w' A (l.take 1)∧Rdr D rb w' (l.drop 1) d∧Side rb w w':=PV (n:=1) h (by unfold is63;omega) (by omega)
theorem PW(w:World)(A:Option Addr)(c:Nat)(l:List UInt8)(hb:BytesIn (Off rb) w A l):
  (convert 44 9 (.slice A l.length c)).run Tryz.prog w = .ok (.string ⟨l.toArray⟩) w:=by
 rcases hb.1 with h|⟨b,o,rfl,_,hc⟩
 ·have:l=[]:=by simpa[bytesV]using h
  subst this;show(convert 44 9 (.slice A 0 c)).run Tryz.prog w=_;rw[run_convert_bytes_string w 44 9 5 A 0 c Tryz.underlying44 Tryz.underlying5 Tryz.underlying9];cases A<;>simp[Conv.bytesToString,loadCells,loadCellsFrom]
  all_goals rfl
 ·refine run_convert_bytes_back w _ _ _ ⟨b,o,none⟩ c l Tryz.underlying44 Tryz.underlying5 Tryz.underlying9 (fun j hj=>?_);rw[Addr.add_lit];exact hc j _ (by simp[bytesV,hj])
end
theorem pz{D:Nat→Prop}{rb d:Nat}{w:World}{l':List UInt8}{n:Int}(h:Rdr D rb w (num8 n++l') d)(hn:is63 n)(h1:0≤n∧n≤l'.length):
  Calls Tryz.prog 249 #[.pointer (some ⟨rb,0,none⟩)] w fun e w'=>e = .returned (.string ⟨(l'.take n.toNat).toArray⟩)∧Rdr D rb w' (l'.drop n.toNat) d∧Side rb w w':=by
 have H:=hide h;have Hn:=hide hn;have hl:(l'.take n.toNat).length=n.toNat:=by simp;omega
 have Hl:=hide hl;have hcv :∀w' A c,Hid (BytesIn (Off rb) w' A (l'.take n.toNat))→(convert 44 9 (.slice A n.toNat c)).run Tryz.prog w' = .ok (.string ⟨(l'.take n.toNat).toArray⟩) w':=by
  intro w' A c hb;have:=PW w' A c _ hb.out
  rwa [hl]at this
 clear h hn hl;go_enter Tryz.func249,Tryz.ntmps249
 go_upto_region 1 with fail
 go_region_with (first
  | (go_at_call 250;(with_reducible refine(xZ (l':=l') (n:=n) (Rdr.drew H.out) Hn.out).mono ?_);rintro e w1 ⟨rfl,hr,hs⟩;have Hr:=hide hr;have Hs:Hid (Side rb w w1):=hide (Side.trans (Side.drew (Side.refl rb w)) hs);clear hr hs)
  | (go_at_call 248;(with_reducible refine(PV Hr.out Hn.out h1).mono ?_);rintro e w2 ⟨A,c,rfl,hb,hr,hs⟩;have hcv2:=hcv w2 A c (hide hb);have pF:=hide hr;have Vm:=hide (Side.trans Hs.out hs);clear hb hr hs))
 all_goals(go_wp2_with fail;go_ret;exact⟨rfl,pF.out,Vm.out⟩)
theorem pG{D:Nat→Prop}{rb d:Nat}{w:World}{l:List UInt8}(h:Rdr D rb w l d)(hl:l.length<8):
  Calls Tryz.prog 249 #[.pointer (some ⟨rb,0,none⟩)] w fun e w'=>e=oops∧Side rb w w':=by
 have H:=hide h;clear h;go_enter Tryz.func249,Tryz.ntmps249
 go_upto_region 1 with fail
 refine wp_region_any (by kernel_rfl) ?_;change wpAny _ _ _ _ _ _ _ (World.drew _);refine wpAny_take (i:=0) (v:=?_) rfl (by kernel_rfl) (by kernel_rfl) (by kernel_rfl) (fun _ _ _ h=>h) (Or.inl ⟨by rfl,?_⟩) ?_;rotate_left
 ·intro w'
  first|(go_simp;done)|(go_simp;with_reducible rfl)
 refine wpAny_take (i:=1) (v:=?_) rfl (by kernel_rfl) (by kernel_rfl) (by kernel_rfl) (fun _ _ _ h=>h) (Or.inl ⟨by rfl,?_⟩) ?_;rotate_left
 ·intro w'
  first|(go_simp;done)|(go_simp;with_reducible rfl)
 refine wpAny_take (i:=2) (v:=?_) rfl (by kernel_rfl) (by kernel_rfl) (by kernel_rfl) (fun _ _ _ h=>h) (Or.inl ⟨by rfl,?_⟩) ?_;rotate_left
 ·intro w'
  first|(go_simp;done)|(go_simp;with_reducible rfl)
 refine wpAny_take (i:=3) (v:=?_) rfl (by kernel_rfl) (by kernel_rfl) (by kernel_rfl) (fun _ _ _ h=>h) (Or.inl ⟨by rfl,?_⟩) ?_;rotate_left
 ·intro w'
  first|(go_simp;done)|(go_simp;with_reducible rfl)
 refine wpAny_ready (rs:=[4]) (by kernel_rfl) (by simp) ?_;refine AllReady.cons rfl (fun K hK=>?_) AllReady.nil;go_simp
 go_wp2_with(go_at_call 250;(with_reducible refine(Ib (Rdr.drew H.out) hl).mono ?_);rintro e w1 ⟨rfl,hs⟩;have hs1:Side rb w w1:=Side.trans (Side.drew (Side.refl rb w)) hs;clear hs)
 exact⟨rfl,rfl,hs1⟩
theorem pI{D:Nat→Prop}{rb d:Nat}{w:World}{l':List UInt8}{n:Int}(h:Rdr D rb w (num8 n++l') d)(hn:is63 n)(h1 :¬(0≤n∧n≤l'.length)):
  Calls Tryz.prog 249 #[.pointer (some ⟨rb,0,none⟩)] w fun e w'=>e=oops∧Side rb w w':=by
 have H:=hide h;have Hn:=hide hn;clear h hn;go_enter Tryz.func249,Tryz.ntmps249
 go_upto_region 1 with fail
 refine wp_region_any (by kernel_rfl) ?_;change wpAny _ _ _ _ _ _ _ (World.drew _);refine wpAny_take (i:=0) (v:=?_) rfl (by kernel_rfl) (by kernel_rfl) (by kernel_rfl) (fun _ _ _ h=>h) (Or.inl ⟨by rfl,?_⟩) ?_;rotate_left
 ·intro w'
  first|(go_simp;done)|(go_simp;with_reducible rfl)
 refine wpAny_take (i:=1) (v:=?_) rfl (by kernel_rfl) (by kernel_rfl) (by kernel_rfl) (fun _ _ _ h=>h) (Or.inl ⟨by rfl,?_⟩) ?_;rotate_left
 ·intro w'
  first|(go_simp;done)|(go_simp;with_reducible rfl)
 refine wpAny_take (i:=2) (v:=?_) rfl (by kernel_rfl) (by kernel_rfl) (by kernel_rfl) (fun _ _ _ h=>h) (Or.inl ⟨by rfl,?_⟩) ?_;rotate_left
 ·intro w'
  first|(go_simp;done)|(go_simp;with_reducible rfl)
 refine wpAny_take (i:=3) (v:=?_) rfl (by kernel_rfl) (by kernel_rfl) (by kernel_rfl) (fun _ _ _ h=>h) (Or.inl ⟨by rfl,?_⟩) ?_;rotate_left
 ·intro w'
  first|(go_simp;done)|(go_simp;with_reducible rfl)
 refine wpAny_ready (rs:=[4]) (by kernel_rfl) (by simp) ?_;refine AllReady.cons rfl (fun K hK=>?_) AllReady.nil;go_simp
 go_wp2_with(go_at_call 250;(with_reducible refine(xZ (l':=l') (n:=n) (Rdr.drew H.out) Hn.out).mono ?_);rintro e w1 ⟨rfl,hr,hs⟩;have Hr:=hide hr;have Hs:Hid (Side rb w w1):=hide (Side.trans (Side.drew (Side.refl rb w)) hs);clear hr hs)
 first|(refine hK _ _ ?_;clear hK K)|skip
 refine wpAny_ready (rs:=[5]) (by kernel_rfl) (by simp) ?_;refine AllReady.cons rfl (fun K2 hK2=>?_) AllReady.nil;go_simp
 go_wp2_with(go_at_call 248;(with_reducible refine(Ic Hr.out Hn.out h1).mono ?_);rintro e w2 ⟨rfl,hs⟩;have hs2:Side rb w w2:=Side.trans Hs.out hs;clear hs)
 exact⟨rfl,rfl,hs2⟩
def TextAt(l:List UInt8):Prop:=∃(s:ByteArray) (l':List UInt8),s.size≤max63∧l=txtB s++l'
theorem yc{D:Nat→Prop}{rb d:Nat}{w:World}{l:List UInt8}(h:Rdr D rb w l d)(hl63:l.length≤max63):
  Calls Tryz.prog 249 #[.pointer (some ⟨rb,0,none⟩)] w fun e w' =>
   (∃s l',l=txtB s++l'∧s.size≤max63∧e = .returned (.string s)∧Rdr D rb w' l' d∧Side rb w w')∨(¬TextAt l∧e=oops∧Side rb w w'):=by
 by_cases h8:l.length<8
 ·refine(pG h h8).mono ?_;rintro e w' ⟨he,hs⟩;refine .inr ⟨?_,he,hs⟩;rintro⟨s,l',_,rfl⟩;rw[aJ,uw]at h8;omega
 ·obtain⟨n,l',rfl,hn⟩:=Ia (l:=l) (by omega);by_cases h1:0≤n∧n≤l'.length
  ·refine(pz h hn h1).mono ?_;rintro e w' ⟨he,hr,hs⟩;have hsz:(⟨(l'.take n.toNat).toArray⟩:ByteArray).size=n.toNat:=by
    show(l'.take n.toNat).toArray.size=n.toNat;simp;omega
   refine .inl ⟨_,_,?_,?_,he,hr,hs⟩
   ·unfold txtB;rw[hsz];have:((n.toNat:Nat):Int)=n:=by omega
    rw[this,List.append_assoc];simp
   ·rw[hsz];rw[aJ,eY]at hl63;omega
  ·refine(pI h hn h1).mono ?_;rintro e w' ⟨he,hs⟩;refine .inr ⟨?_,he,hs⟩;rintro⟨s,l2,hsz,hl2⟩;unfold txtB at hl2;rw[List.append_assoc]at hl2;obtain⟨e1,e2⟩:=zag hn (iK hsz) hl2;refine h1 ⟨by omega,?_⟩;have e3:s.data.toList.length=s.size:=by simp
   rw[e2,aJ,e3];omega
end
section
open Go.RowKit
theorem BH{rb e size n:Nat}{w w':World}{v:Value}{xs:List Value}(h:w.ownsRow 0 e size v n xs)(hne :∀g,v.ownBlock=some g→g≠rb)(hs:Side rb w w'):w'.ownsRow 0 e size v n xs:=by
 refine⟨h.1,?_⟩;rcases h.2 with hn|⟨g,cap,cur,rfl,hb,hgg,rest⟩
 ·exact .inl hn
 ·refine .inr ⟨g,cap,cur,rfl,hb,?_,rest⟩;rw[hs.block g ⟨(Array.getElem?_eq_some_iff.1 hgg).1,hne g rfl⟩];exact hgg
theorem KJ{D:Nat→Prop}{rb d:Nat}{W w w':World}{l:List UInt8}{row:Option Nat}(h:Rdr (fun b=>D b∧b<W.heap.size) rb w l d)(hg:w.grownBy w' row)(hrb:rb<W.heap.size)(hW:W.heap.size≤w.heap.size)(hr :∀k,row=some k→W.heap.size≤k):
  Rdr (fun b=>D b∧b<W.heap.size) rb w' l d :=
 h.keep fun b hb=>hg.block b (aH (hb.elim (fun h=>h.2) (fun e=>e▸hrb)) hW) (fun e=>by
  have h1:=hr b e.symm;have h2:b<W.heap.size:=hb.elim (fun h=>h.2) (fun e=>e▸hrb);omega)
def RowAt{α:Type}(enc:α→List UInt8)(fit:α→Prop)(l:List UInt8):Prop:=∃(m:List α) (l':List UInt8),(∀a∈m,fit a)∧m.length≤max63∧l=rowB enc m++l'
theorem Ie{α:Type}{enc:α→List UInt8}{fit:α→Prop}{l:List UInt8}(h:l.length<8):¬RowAt enc fit l:=by
 rintro⟨m,l',_,_,rfl⟩;unfold rowB at h;rw[aJ,aJ,eY]at h;omega
theorem Ig{α:Type}{enc:α→List UInt8}{fit:α→Prop}(h8 :∀a,8≤(enc a).length){n:Int}{l1:List UInt8}(hn:is63 n)(h :¬(0≤n∧n≤(l1.length:Int) / 8)):¬RowAt enc fit (num8 n++l1):=by
 rintro⟨m,l',hf,hm,he⟩;unfold rowB at he;rw[List.append_assoc]at he;obtain⟨e1,e2⟩:=zag hn (iK hm) he;have:=J4 h8 m;rw[e2,aJ]at h;refine h ⟨by omega,?_⟩;omega
theorem Ii{α:Type}{enc:α→List UInt8}{fit:α→Prop}(hs :∀a b x y,fit a→fit b→enc a++x=enc b++y→a=b∧x=y){n:Int}{xs:List α}{l1 lq:List UInt8}(hn:is63 n)(hx :∀a∈xs,fit a)
  (he:l1=(xs.map enc).flatten++lq) (hlt:(xs.length:Int)<n) (hno :¬∃a l',fit a∧lq=enc a++l'):¬RowAt enc fit (num8 n++l1):=by
 rintro⟨m,l',hf,hm,h⟩;unfold rowB at h;rw[List.append_assoc]at h;obtain⟨e1,e2⟩:=zag hn (iK hm) h;rw[he]at e2;have hle:xs.length<m.length:=by omega
 obtain⟨_,e4⟩:=UR hs hx hf (by omega) e2;rw[List.drop_eq_getElem_cons hle]at e4;rw[List.map_cons,List.flatten_cons,List.append_assoc]at e4;exact hno ⟨m[xs.length],_,hf _ (List.getElem_mem hle),e4⟩
theorem PX{l:List UInt8}(h:l.length<8):¬∃(n:Int) (l':List UInt8),is63 n∧l=num8 n++l':=by
 rintro⟨n,l',_,rfl⟩;rw[aJ,eY]at h;omega
theorem Vo{D:Nat→Prop}{rb d:Nat}{w:World}{l:List UInt8}(h:Rdr D rb w l d)(hl:l.length≤lid):
  Calls Tryz.prog 277 #[.pointer (some ⟨rb,0,none⟩),.func (.func 250) #[.pointer (some ⟨rb,0,none⟩)] #[]] w fun e w' =>
   (∃xs l' A c,l=pathB xs++l'∧(∀a∈xs,is63 a)∧e = .returned (.slice A xs.length c)∧IntsIn (fun b=>w.heap.size≤b) w' A xs∧xs.length≤c∧c≤9223372036854775807∧Rdr D rb w' l' d∧Side rb w w'∧∃L,RowO 3 w' A c xs.length (xs.map (.int .i64)) L∧∀b∈L,w.heap.size≤b)∨
   (¬RowAt num8 (is63) l∧e=oops∧Side rb w w'):=by
 have hrb:=h.lt;have gI:=hide h.off;have H:=hide h.old;obtain⟨i0,hi,hz0,hz1,hz2⟩:=info_parts Px;clear h;by_cases h8:l.length<8
 ·go_enter Tryz.func277,Tryz.ntmps277
  go_wp2_with(go_at_call 250;(with_reducible refine(Ib H.out h8).mono ?_);rintro e w1 ⟨rfl,hs⟩;exact⟨rfl,.inr ⟨Ie h8,rfl,hs⟩⟩)
 obtain⟨n,l1,rfl,hn⟩:=Ia (l:=l) (by omega);have Hn:=hide hn;unfold is63 at hn;have hl1:8+l1.length≤1099511627776:=by rw[aJ,eY]at hl;exact hl
 have hq8:wrap64 ((l1.length:Int) / 8)=(l1.length:Int) / 8:=by unfold wrap64;omega
 by_cases hok:0≤n∧n≤(l1.length:Int) / 8
 ·obtain⟨ha,hb⟩:=hok;clear hl h8;go_enter Tryz.func277,Tryz.ntmps277
  go_wp2_with(first
   | (go_at_call 250;(with_reducible refine(xZ (n:=n) (l':=l1) H.out Hn.out).mono ?_);rintro e w1 ⟨rfl,hr,hs⟩;obtain⟨A1,c1,q0⟩:=hr.slice;have Hr:=hide hr;have Hs:=hide hs;clear hr hs)
   | (go_at_call 253;refine(uY (by first|rfl|(simp;omega)) _).mono ?_;rintro e w2 ⟨rfl,rfl⟩))
  have hw1:=Hs.out.size
  go_loopw [24,6] (fun i v wr=>∃(xs:List Int) (lq:List UInt8),i = .int .i64 xs.length∧(xs.length:Int)≤n∧Hid (l1=(xs.map num8).flatten++lq)∧Hid (∀a∈xs,is63 a)∧Hid (wr.ownsRow 0 3 1 v xs.length (xs.map (.int .i64)))∧Hid (∀g,v.ownBlock=some g→w.heap.size≤g)∧
    Hid (Rdr (fun b=>D b∧b<w.heap.size) rb wr lq d)∧Hid (Side rb w wr)) (fun i _ _=>(n-intOf i).toNat)
  case atStart=>exact⟨[],l1,rfl,ha,hide rfl,hide (by simp),hide (World.ownsRow_nil _ _ _ _),hide (by simp[Value.ownBlock]),Hr,Hs⟩
  case round =>
   obtain⟨xs,lq,rfl,hle,He,Hf,Ho,Hg,Hq,HS⟩:=hrel;have hfl:=J4 (enc:=num8) (fun a=>Nat.le_of_eq (eY a).symm) xs;have hlq:(xs.map num8).flatten.length+lq.length=l1.length:=by rw[He.out,aJ]
   have hxl:8*xs.length≤l1.length:=by omega
   have hwr:=HS.out.size;by_cases hlt:(xs.length:Int)<n
   ·go_wp2_with(first
     | (go_at_call 250;(refine(zi Hq.out).mono ?_);rintro e w3 (⟨a,l2,he2,ha2,rfl,hr2,hs2⟩|⟨hno,rfl,hs2⟩))
     | (at_builtin;refine BC _ rfl _ _ 38 rfl 3 i0 (.int .i64 0) 1 8 Tryz.underlying38 hi hz0 hz1 hz2 rfl (by decide) _ xs.length (xs.map (.int .i64)) rfl ((BH Ho.out (fun g hg=>by have:=Hg.out g hg;omega) hs2).alloc _) ⟨w3.heap.size,0,none⟩ 1 1 [.int .i64 a] rfl rfl (cell_one_new _ _ _) (by intro u hu;simp at hu;subst hu;rfl) (by unfold maxLen;omega) (by omega) ?_;intro v' w4 hown hgrow hnil aX))
    ·have hS3:Side rb w w3:=Side.trans HS.out hs2;have hsz:=hS3.size;refine⟨⟨xs++[a],l2,by simp,by simp;omega,hide ?_,hide ?_,hide ?_,hide ?_,hide ?_,hide ?_⟩,by simp[intOf];omega⟩
     ·rw[He.out,he2];simp
     ·intro b hb;rcases List.mem_append.mp hb with hb|hb
      ·exact Hf.out b hb
      ·rw[List.mem_singleton]at hb;rw[hb];exact ha2
     ·simpa using hown
     ·intro g hg;rcases aX with e|e
      ·exact Hg.out g (e▸hg)
      ·rw[hg]at e;injection e with e;simp at e;omega
     ·exact KJ (hr2.alloc _) hgrow hrb (by simp;omega) (fun k hk=>Hg.out k hk)
     ·exact Keep.grown (Side.alloc hS3 _) hgrow (fun k hk=>hk.1) (fun k hk hp=>absurd hp.1 (by have:=Hg.out k hk;omega))
    ·exact⟨rfl,.inr ⟨Ii (fun _ _ _ _ ha hb h=>zag ha hb h) Hn.out Hf.out He.out hlt (PX hno),rfl,Side.trans HS.out hs2⟩⟩
   ·go_wp2_with fail
    obtain⟨A2,c2,rfl,hrd,hc2,hc3⟩:=CZ (S:=fun b=>w.heap.size≤b) Ho.out Hg.out;go_ret;have hnn:n=(xs.length:Int):=by omega
    refine .inl ⟨xs,lq,?_,Hf.out,_,_,rfl,⟨hrd,fun a ha=>Hf.out a ha,by omega⟩,hc2,hc3,Hq.out.back gI.out,HS.out,_,⟨Ho.out,rfl⟩,fun b hb=>Hg.out b (fA.1 hb)⟩;rw[He.out,hnn,←List.append_assoc];rfl
 ·go_enter Tryz.func277,Tryz.ntmps277
  go_wp2_with(first
   | (go_at_call 250;(with_reducible refine(xZ (n:=n) (l':=l1) H.out Hn.out).mono ?_);rintro e w1 ⟨rfl,hr,hs⟩;obtain⟨A1,c1,q0⟩:=hr.slice;have Hr:=hide hr;have Hs:=hide hs;clear hr hs)
   | (go_at_call 253;refine(uZ (by first|rfl|(simp;omega)) _).mono ?_;rintro e w2 ⟨rfl,rfl⟩))
  all_goals exact⟨rfl,.inr ⟨Ig (fun a=>Nat.le_of_eq (eY a).symm) Hn.out hok,rfl,Hs.out⟩⟩
theorem PY{D:Nat→Prop}{rb d:Nat}{w:World}{l:List UInt8}(h:Rdr D rb w l d)(hl:l.length≤lid):
  Calls Tryz.prog 251 #[.pointer (some ⟨rb,0,none⟩),.func (.func 249) #[.pointer (some ⟨rb,0,none⟩)] #[]] w fun e w' =>
   (∃xs l' A c,l=txtsB xs++l'∧(∀a∈xs,(fun s=>s.size≤max63) a)∧e = .returned (.slice A xs.length c)∧StrsIn (fun b=>w.heap.size≤b) w' A xs∧xs.length≤c∧c≤9223372036854775807∧Rdr D rb w' l' d∧Side rb w w'∧∃L,RowO 9 w' A c xs.length (xs.map .string) L∧∀b∈L,w.heap.size≤b)∨
   (¬RowAt txtB ((fun s=>s.size≤max63)) l∧e=oops∧Side rb w w'):=by
 have hrb:=h.lt;have gI:=hide h.off;have H:=hide h.old;obtain⟨i0,hi,hz0,hz1,hz2⟩:=info_parts Py;clear h;by_cases h8:l.length<8
 ·go_enter Tryz.func251,Tryz.ntmps251
  go_wp2_with(go_at_call 250;(with_reducible refine(Ib H.out h8).mono ?_);rintro e w1 ⟨rfl,hs⟩;exact⟨rfl,.inr ⟨Ie h8,rfl,hs⟩⟩)
 obtain⟨n,l1,rfl,hn⟩:=Ia (l:=l) (by omega);have Hn:=hide hn;unfold is63 at hn;have hl1:8+l1.length≤1099511627776:=by rw[aJ,eY]at hl;exact hl
 have hq8:wrap64 ((l1.length:Int) / 8)=(l1.length:Int) / 8:=by unfold wrap64;omega
 by_cases hok:0≤n∧n≤(l1.length:Int) / 8
 ·obtain⟨ha,hb⟩:=hok;clear hl h8;go_enter Tryz.func251,Tryz.ntmps251
  go_wp2_with(first
   | (go_at_call 250;(with_reducible refine(xZ (n:=n) (l':=l1) H.out Hn.out).mono ?_);rintro e w1 ⟨rfl,hr,hs⟩;obtain⟨A1,c1,q0⟩:=hr.slice;have Hr:=hide hr;have Hs:=hide hs;clear hr hs)
   | (go_at_call 253;refine(uY (by first|rfl|(simp;omega)) _).mono ?_;rintro e w2 ⟨rfl,rfl⟩))
  have hw1:=Hs.out.size
  go_loopw [24,6] (fun i v wr=>∃(xs:List ByteArray) (lq:List UInt8),i = .int .i64 xs.length∧(xs.length:Int)≤n∧Hid (l1=(xs.map txtB).flatten++lq)∧Hid (∀a∈xs,(fun s=>s.size≤max63) a)∧Hid (wr.ownsRow 0 9 1 v xs.length (xs.map (.string)))∧Hid (∀g,v.ownBlock=some g→w.heap.size≤g)∧
    Hid (Rdr (fun b=>D b∧b<w.heap.size) rb wr lq d)∧Hid (Side rb w wr)) (fun i _ _=>(n-intOf i).toNat)
  case atStart=>exact⟨[],l1,rfl,ha,hide rfl,hide (by simp),hide (World.ownsRow_nil _ _ _ _),hide (by simp[Value.ownBlock]),Hr,Hs⟩
  case round =>
   obtain⟨xs,lq,rfl,hle,He,Hf,Ho,Hg,Hq,HS⟩:=hrel;have hfl:=J4 (enc:=txtB) (fun a=>by rw[uw];omega) xs;have hlq:(xs.map txtB).flatten.length+lq.length=l1.length:=by rw[He.out,aJ]
   have hxl:8*xs.length≤l1.length:=by omega
   have hwr:=HS.out.size;by_cases hlt:(xs.length:Int)<n
   ·go_wp2_with(first
     | (go_at_call 249;(refine(yc Hq.out (show _≤9223372036854775807 by omega)).mono ?_);rintro e w3 (⟨a,l2,he2,ha2,rfl,hr2,hs2⟩|⟨hno,rfl,hs2⟩))
     | (at_builtin;refine BC _ rfl _ _ 34 rfl 9 i0 (.string ByteArray.empty) 1 16 Tryz.underlying34 hi hz0 hz1 hz2 rfl (by decide) _ xs.length (xs.map (.string)) rfl ((BH Ho.out (fun g hg=>by have:=Hg.out g hg;omega) hs2).alloc _) ⟨w3.heap.size,0,none⟩ 1 1 [.string a] rfl rfl (cell_one_new _ _ _) (by intro u hu;simp at hu;subst hu;rfl) (by unfold maxLen;omega) (by omega) ?_;intro v' w4 hown hgrow hnil aX))
    ·have hS3:Side rb w w3:=Side.trans HS.out hs2;have hsz:=hS3.size;refine⟨⟨xs++[a],l2,by simp,by simp;omega,hide ?_,hide ?_,hide ?_,hide ?_,hide ?_,hide ?_⟩,by simp[intOf];omega⟩
     ·rw[He.out,he2];simp
     ·intro b hb;rcases List.mem_append.mp hb with hb|hb
      ·exact Hf.out b hb
      ·rw[List.mem_singleton]at hb;rw[hb];exact ha2
     ·simpa using hown
     ·intro g hg;rcases aX with e|e
      ·exact Hg.out g (e▸hg)
      ·rw[hg]at e;injection e with e;simp at e;omega
     ·exact KJ (hr2.alloc _) hgrow hrb (by simp;omega) (fun k hk=>Hg.out k hk)
     ·exact Keep.grown (Side.alloc hS3 _) hgrow (fun k hk=>hk.1) (fun k hk hp=>absurd hp.1 (by have:=Hg.out k hk;omega))
    ·exact⟨rfl,.inr ⟨Ii (fun _ _ _ _ ha hb h=>jb ha hb h) Hn.out Hf.out He.out hlt hno,rfl,Side.trans HS.out hs2⟩⟩
   ·go_wp2_with fail
    obtain⟨A2,c2,rfl,hrd,hc2,hc3⟩:=CZ (S:=fun b=>w.heap.size≤b) Ho.out Hg.out;go_ret;have hnn:n=(xs.length:Int):=by omega
    refine .inl ⟨xs,lq,?_,Hf.out,_,_,rfl,⟨hrd,fun a ha=>Hf.out a ha,by omega⟩,hc2,hc3,Hq.out.back gI.out,HS.out,_,⟨Ho.out,rfl⟩,fun b hb=>Hg.out b (fA.1 hb)⟩;rw[He.out,hnn,←List.append_assoc];rfl
 ·go_enter Tryz.func251,Tryz.ntmps251
  go_wp2_with(first
   | (go_at_call 250;(with_reducible refine(xZ (n:=n) (l':=l1) H.out Hn.out).mono ?_);rintro e w1 ⟨rfl,hr,hs⟩;obtain⟨A1,c1,q0⟩:=hr.slice;have Hr:=hide hr;have Hs:=hide hs;clear hr hs)
   | (go_at_call 253;refine(uZ (by first|rfl|(simp;omega)) _).mono ?_;rintro e w2 ⟨rfl,rfl⟩))
  all_goals exact⟨rfl,.inr ⟨Ig (fun a=>by rw[uw];omega) Hn.out hok,rfl,Hs.out⟩⟩
def IsK(k o:Nat):Prop:=(o=200∧Expr k)∨(o=201∧Stmt k)∨(o=202∧(k=22∨k=26))∨(o<200∧k=o)∨(202<o∧k=o)
theorem pJ(k o:Nat)(w:World):Calls Tryz.prog 298 #[.int .u8 k,.int .u8 o] w fun e w'=>RetB (IsK k o) e∧w=w':=by
 go_enter Tryz.func298,Tryz.ntmps298
 go_wp2
 all_goals(go_ret;go_tidy;exact⟨RetB.mk (by unfold IsK Expr Stmt;grind),rfl⟩)
theorem zq{S:Nat→Prop}{w:World}{cs:List Value}{t:TypeId}(hS:S w.heap.size):Rd S (w.alloc (.cells cs.toArray t)) (some ⟨w.heap.size,0,none⟩) cs:=zn hS
theorem lJ(k:Nat)(w:World):Calls Tryz.prog 297 #[.int .u8 k] w fun e w'=>RetB (Named k) e∧Below w.heap.size w w':=by
 go_enter Tryz.func297,Tryz.ntmps297
 go_wp2_with(go_at_call 304;refine(U1 (S:=fun _=>True) (l:=[2,4,6,22,25]) (x:=(k:Int)) (zq trivial) (by simp)).mono ?_;rintro e w' ⟨⟨b,rfl,hb⟩,rfl⟩;have Hb:=hide hb;clear hb)
 go_ret;exact⟨RetB.mk (by rw[Hb.out];unfold Named;simp;omega),ag _ _⟩
theorem zt{p:Nat}{k':Int}{ks:List Int}{all:Bool}(h:kindRow p=some (k',ks,all)):(k',ks,all)∈kindRows∧k'=p:=by
 unfold kindRow at h;have h1:=List.mem_of_find?_eq_some h;have h2:=List.find?_some h;simp at h2;exact⟨h1,h2.symm⟩
theorem PZ{p:Nat}(h:kindRow p=none):∀r∈kindRows,r.1≠p:=by
 unfold kindRow at h;rw[List.find?_eq_none]at h;intro r hr e;exact h r hr (by simp[e])
theorem zu(p:Nat):Known p↔(kindRow p).isSome=true:=by
 cases h:kindRow p with
 | none =>
  have:=PZ h;simp[kindRows]at this;unfold Known Expr;simp;omega
 | some x =>
  obtain⟨k',ks,all⟩:=x;obtain⟨h1,rfl⟩:=zt h;simp[kindRows]at h1;unfold Known Expr;simp;omega
theorem lK{p:Nat}(h:kindRow p=none)(k i:Nat):¬FitsIn p k i:=by
 have:=PZ h;simp[kindRows]at this;unfold FitsIn many;intro hf;have:=hf.1 0;rw[if_neg (by omega),if_neg (by omega),if_neg (by omega),if_neg (by omega)]at this;exact absurd (this rfl) (by omega)
theorem KL{p:Nat}{k':Int}{ks:List Int}{all:Bool}(h:kindRow p=some (k',ks,all))(k i:Nat):
  FitsIn p k i↔if all then∃o:Nat,ks[0]?=some (o:Int)∧IsK k o else∃o:Nat,ks[i]?=some (o:Int)∧IsK k o:=by
 obtain⟨h1,rfl⟩:=zt h;clear h;simp[kindRows]at h1;rcases h1 with⟨hp,rfl,rfl⟩|⟨hp,rfl,rfl⟩|⟨hp,rfl,rfl⟩|⟨hp,rfl,rfl⟩|⟨hp,rfl,rfl⟩|⟨hp,rfl,rfl⟩|⟨hp,rfl,rfl⟩|⟨hp,rfl,rfl⟩|⟨hp,rfl,rfl⟩|⟨hp,rfl,rfl⟩|⟨hp,rfl,rfl⟩|⟨hp,rfl,rfl⟩|⟨hp,rfl,rfl⟩|⟨hp,rfl,rfl⟩|⟨hp,rfl,rfl⟩|⟨hp,rfl,rfl⟩|⟨hp,rfl,rfl⟩|⟨hp,rfl,rfl⟩|⟨hp,rfl,rfl⟩|⟨hp,rfl,rfl⟩|⟨hp,rfl,rfl⟩|⟨hp,rfl,rfl⟩
 ·obtain rfl:p=1:=by omega
  rcases i with _|_|_|i<;>simp[FitsIn,many,IsK,Stmt,Expr]<;>grind
 ·obtain rfl:p=2:=by omega
  rcases i with _|_|_|i<;>simp[FitsIn,many,IsK,Stmt,Expr]<;>grind
 ·obtain rfl:p=3:=by omega
  rcases i with _|_|_|i<;>simp[FitsIn,many,IsK,Stmt,Expr]<;>grind
 ·obtain rfl:p=4:=by omega
  rcases i with _|_|_|i<;>simp[FitsIn,many,IsK,Stmt,Expr]<;>grind
 ·obtain rfl:p=5:=by omega
  rcases i with _|_|_|i<;>simp[FitsIn,many,IsK,Stmt,Expr]<;>grind
 ·obtain rfl:p=6:=by omega
  rcases i with _|_|_|i<;>simp[FitsIn,many,IsK,Stmt,Expr]<;>grind
 ·obtain rfl:p=7:=by omega
  rcases i with _|_|_|i<;>simp[FitsIn,many,IsK,Stmt,Expr]<;>grind
 ·obtain rfl:p=8:=by omega
  rcases i with _|_|_|i<;>simp[FitsIn,many,IsK,Stmt,Expr]<;>grind
 ·obtain rfl:p=9:=by omega
  rcases i with _|_|_|i<;>simp[FitsIn,many,IsK,Stmt,Expr]<;>grind
 ·obtain rfl:p=10:=by omega
  rcases i with _|_|_|i<;>simp[FitsIn,many,IsK,Stmt,Expr]<;>grind
 ·obtain rfl:p=11:=by omega
  rcases i with _|_|_|i<;>simp[FitsIn,many,IsK,Stmt,Expr]<;>grind
 ·obtain rfl:p=12:=by omega
  rcases i with _|_|_|i<;>simp[FitsIn,many,IsK,Stmt,Expr]<;>grind
 ·obtain rfl:p=20:=by omega
  rcases i with _|_|_|i<;>simp[FitsIn,many,IsK,Stmt,Expr]<;>grind
 ·obtain rfl:p=21:=by omega
  rcases i with _|_|_|i<;>simp[FitsIn,many,IsK,Stmt,Expr]<;>grind
 ·obtain rfl:p=22:=by omega
  rcases i with _|_|_|i<;>simp[FitsIn,many,IsK,Stmt,Expr]<;>grind
 ·obtain rfl:p=23:=by omega
  rcases i with _|_|_|i<;>simp[FitsIn,many,IsK,Stmt,Expr]<;>grind
 ·obtain rfl:p=24:=by omega
  rcases i with _|_|_|i<;>simp[FitsIn,many,IsK,Stmt,Expr]<;>grind
 ·obtain rfl:p=25:=by omega
  rcases i with _|_|_|i<;>simp[FitsIn,many,IsK,Stmt,Expr]<;>grind
 ·obtain rfl:p=26:=by omega
  rcases i with _|_|_|i<;>simp[FitsIn,many,IsK,Stmt,Expr]<;>grind
 ·obtain rfl:p=27:=by omega
  rcases i with _|_|_|i<;>simp[FitsIn,many,IsK,Stmt,Expr]<;>grind
 ·obtain rfl:p=28:=by omega
  rcases i with _|_|_|i<;>simp[FitsIn,many,IsK,Stmt,Expr]<;>grind
 ·obtain rfl:p=29:=by omega
  rcases i with _|_|_|i<;>simp[FitsIn,many,IsK,Stmt,Expr]<;>grind
end
end Go.Proofs.YtjjaojnglnpgaaaGreatDoor
