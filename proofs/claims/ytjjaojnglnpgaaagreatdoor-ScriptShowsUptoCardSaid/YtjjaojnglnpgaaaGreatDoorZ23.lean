/- Part 24 of what scriptShows_cardUpto rests on. -/
import Derived.Lib.IndexLaws
import Derived.Deep.CutBlock
import Derived.Deep.DeepCutAuto
import Derived.Test.YtjjaojnglnpgaaaGreatDoorZ17
import Derived.Test.YtjjaojnglnpgaaaGreatDoorZ21
import Derived.Test.YtjjaojnglnpgaaaGreatDoorZ22
import Derived.Test.YtjjaojnglnpgaaaGreatDoorZ20
import Derived.Test.YtjjaojnglnpgaaaGreatDoorZ11
import Derived.Test.YtjjaojnglnpgaaaGreatDoorZ09
import Derived.Test.YtjjaojnglnpgaaaGreatDoorZ10
import Derived.Test.YtjjaojnglnpgaaaGreatDoorZ02
import Derived.Test.YtjjaojnglnpgaaaGreatDoorZ00
set_option linter.unusedVariables false
set_option linter.unusedSimpArgs false
set_option maxHeartbeats 16000000
set_option maxRecDepth 1000000
namespace Go.Proofs.YtjjaojnglnpgaaaGreatDoor
noncomputable def rowsOf:Nat→List ByteArray→Except Nat (List aY)
 | _,[]=> .ok []
 | i,t::r=>if t.size=0 then rowsOf (i+1) r else match lineOf (wordsOf 32 t)with
  | none=> .error (i+1)
  | some c=>match rowsOf (i+1) r with
   | .error e=> .error e
   | .ok l=> .ok (c::l)
def before(l:List aY):Except Nat (List aY)→Except Nat (List aY)
 | .error e=> .error e
 | .ok r=> .ok (l++r)
theorem Z8(x:Except Nat (List aY)):before [] x=x:=by cases x<;>rfl
theorem Z9{i:Nat}{t:ByteArray}{r:List ByteArray}(h:t.size=0):rowsOf i (t::r)=rowsOf (i+1) r:=by rw[rowsOf,if_pos h]
theorem Wh{i:Nat}{t:ByteArray}{r:List ByteArray}(h :¬t.size=0)(hl:lineOf (wordsOf 32 t)=none):rowsOf i (t::r) = .error (i+1):=by rw[rowsOf,if_neg h,hl]
theorem QU{i:Nat}{t:ByteArray}{r:List ByteArray}{c:aY}(h :¬t.size=0)(hl:lineOf (wordsOf 32 t)=some c):rowsOf i (t::r)=before [c] (rowsOf (i+1) r):=by
 rw[rowsOf,if_neg h,hl];cases rowsOf (i+1) r<;>rfl
theorem zfJ(l m:List aY)(x:Except Nat (List aY)):before l (before m x)=before (l++m) x:=by cases x<;>simp[before]
section
open Go.RowKit
theorem FZ(w:World)(cs:List Value)(t:TypeId):(w.alloc (.cells cs.toArray t)).rangeAt w.heap.size 0 cs:=fun j v hv=>by
 rw[Lib.cell_of_heap (heap_alloc_new w _),Nat.zero_add]
 simpa using hv
theorem wS.inn{S:Nat→Prop}{w:World}{x:Hh}{h:Hk}{L:List Nat}(a:wS w x h L)(b:gB S w x h):gB (fun g=>g∈L) w x h:=by
 obtain⟨L1,L2,⟨h1,rfl⟩,⟨h2,rfl⟩,rfl⟩:=a;exact⟨b.at_,⟨Fh h1 fun g hg=>List.mem_append_left _ hg,b.old.2⟩,⟨Fh h2 fun g hg=>List.mem_append_right _ hg,b.new.2⟩,b.oc,b.nc⟩
theorem wU.inn{S:Nat→Prop}{w:World}{x:Eh}{e:Ed}{L:List Nat}(a:wU w x e L)(b:dm S w x e):dm (fun g=>g∈L) w x e:=by
 obtain⟨L1,L2,L3,⟨h1,rfl⟩,h2,h3,rfl⟩:=a;exact⟨b.kind,⟨Fh h1 fun g hg=>List.mem_append_left _ hg,b.path.2⟩,b.at_,b.far,b.frm,b.to,h2.fo fun g hg=>by simp[hg],h3.fo fun g hg=>by simp[hg],b.pc,b.oc,b.nc⟩
theorem uY.inn{S:Nat→Prop}{w:World}{x:Ph}{p:Pt}{L:List Nat}(a:uY w x p L)(b:bM S w x p):bM (fun g=>g∈L) w x p:=by
 obtain⟨L1,L2,h1,h2,rfl⟩:=a;have i1:=h1.inn b.hunk;have i2:=h2.inn b.edit;exact⟨b.kind,b.file,b.text,i1.mono fun g _ hg=>List.mem_append_left _ hg,i2.mono fun g _ hg=>List.mem_append_right _ hg⟩
theorem nY.inn{S:Nat→Prop}{w:World}{c:aY}{x:Ph}{A:Option Addr}{n:Nat}{L:List Nat}(a:nY w c x A n L)(b:dF S w c x A n):dF (fun g=>g∈L) w c x A n:=by
 obtain⟨L1,L2,h1,⟨h2,rfl⟩,rfl⟩:=a;exact⟨b.kind,b.repo,b.frm,b.name,b.file,(h1.inn b.patch).mono fun g _ hg=>List.mem_append_left _ hg,⟨Fh h2 fun g hg=>List.mem_append_right _ hg,b.bytes.2⟩,b.cap⟩
structure kD where
 c:aY
 x:Ph
 A:Option Addr
 n:Nat
def kD.cells(it:kD):List Value:=ag it.c it.x it.A it.n
def kD.ok(w:World)(it:kD)(L:List Nat):Prop:=nY w it.c it.x it.A it.n L∧dF (fun g=>g∈L) w it.c it.x it.A it.n
def jv(w:World):List kD→List Nat→Prop
 | [],L=>L=[]
 | it::r,L=>∃L1 L2,it.ok w L1∧jv w r L2∧L=L1++L2
section
variable {w w' : World} {l : List kD} {it : kD} {L L1 : List Nat}
theorem kD.ok.keep(h:it.ok w L)(hk :∀b∈L,w'.heap[b]?=w.heap[b]?):it.ok w' L:=⟨h.1.keep hk,h.2.keep hk⟩
theorem jv.keep :∀{l:List kD} {L:List Nat},jv w l L→(∀b∈L,w'.heap[b]?=w.heap[b]?)→jv w' l L
 | [],_,h,_=>h
 | _::_,_,⟨L1,L2,h1,h2,e⟩,hk=>by
  subst e;exact⟨L1,L2,h1.keep fun b hb=>hk b (by simp[hb]),h2.keep fun b hb=>hk b (by simp[hb]),rfl⟩
theorem jv.lt :∀{l:List kD} {L:List Nat},jv w l L→∀b∈L,b<w.heap.size
 | [],_,h,b,hb=>by rw[show _=[]from h]at hb;cases hb
 | _::_,_,⟨L1,L2,h1,h2,e⟩,b,hb=>by
  subst e;rcases List.mem_append.1 hb with hb|hb
  ·exact h1.1.lt b hb
  ·exact h2.lt b hb
theorem jv.snoc :∀{l:List kD} {L:List Nat},jv w l L→it.ok w L1→jv w (l++[it]) (L++L1)
 | [],_,h,h1=>by
  rw[show _=[]from h];exact⟨L1,[],h1,rfl,by simp⟩
 | _::_,_,⟨M1,M2,h1,h2,e⟩,h3=>by
  subst e;exact⟨M1,M2++L1,h1,h2.snoc h3,by simp⟩
end
def kM(M:Nat)(w:World)(v:Value)(l:List kD):Prop :=
 w.ownsRow M 46 20 v l.length (l.flatMap kD.cells)∧∃L,jv w l L∧(ob v++L).Nodup∧∀b∈L,M≤b
theorem kM.nil(M:Nat)(w:World):kM M w (.slice none 0 0) []:=⟨World.ownsRow_nil _ _ _ _,[],rfl,by simp[ob,Value.ownBlock],fun b hb=>by cases hb⟩
theorem nZ{w w':World}{B e size n:Nat}{v:Value}{xs:List Value}(h:w.ownsRow B e size v n xs)(hk :∀b∈ob v,w'.heap[b]?=w.heap[b]?):w'.ownsRow B e size v n xs :=
 ⟨h.1,by
  rcases h.2 with hn|⟨g,cap,cur,rfl,hb,hgg,rest⟩
  ·exact .inl hn
  ·exact .inr ⟨g,cap,cur,rfl,hb,(hk g (qL.2 rfl)).trans hgg,rest⟩⟩
theorem og{w:World}{B e size n:Nat}{v:Value}{xs:List Value}(h:w.ownsRow B e size v n xs):∀b∈ob v,B≤b∧b<w.heap.size:=fun b hb=>h.lt b (qL.1 hb)
theorem kM.keep{M:Nat}{w w':World}{v:Value}{l:List kD}(h:kM M w v l)(hk :∀b,M≤b→w'.heap[b]?=w.heap[b]?):kM M w' v l:=by
 obtain⟨h1,L,h2,h3,h4⟩:=h;exact⟨nZ h1 fun b hb'=>hk b (og h1 b hb').1,L,h2.keep fun b hb'=>hk b (h4 b hb'),h3,h4⟩
theorem kM.mono{M M':Nat}{w:World}{v:Value}{l:List kD}(h:kM M w v l)(hm:M'≤M):kM M' w v l:=by
 obtain⟨⟨h0,h1⟩,L,h2,h3,h4⟩:=h;exact⟨⟨h0,h1.imp id fun⟨g,cap,cur,e1,hB,rest⟩=>⟨g,cap,cur,e1,aI hm hB,rest⟩⟩,L,h2,h3,fun b hb=>aI hm (h4 b hb)⟩
theorem rq{w:World}{b:Nat}{x y u v:Value}(h0:w.cell? ⟨b,0,none⟩=some x)(h1:w.cell? ⟨b,1,none⟩=some y):
  ((w.setCell ⟨b,0,none⟩ u).setCell ⟨b,1,none⟩ v).cell? ⟨b,0,none⟩=some u∧((w.setCell ⟨b,0,none⟩ u).setCell ⟨b,1,none⟩ v).cell? ⟨b,1,none⟩=some v:=by
 constructor
 ·rw[World.cell?_setCell_other _ _ _ _ (by simp)];exact World.cell?_setCell_same _ _ _ h0
 ·have h2:(w.setCell ⟨b,0,none⟩ u).cell? ⟨b,1,none⟩=some y:=(World.cell?_setCell_other _ _ _ _ (by simp)).trans h1;exact World.cell?_setCell_same _ _ _ h2
theorem QV(A:Option Addr)(n m c:Nat):ob (.slice A n c)=ob (.slice A m c):=by cases A<;>rfl
theorem kM.next{M:Nat}{w w3 w4:World}{v v':Value}{l:List kD}{it:kD}{L1:List Nat}(h:kM M w v l)(hb:Below w.heap.size w w3)(hM:M≤w.heap.size)(hi:it.ok w3 L1)(hn:L1.Nodup)(hl :∀b∈L1,w.heap.size≤b)
  (ho:w4.ownsRow M 46 20 v' (l.length+1) (l.flatMap kD.cells++it.cells)) (hg:w3.grownBy w4 v.ownBlock) (hw:rX w3 w4 v v' l.length 1):kM M w4 v' (l++[it]):=by
 obtain⟨h1,L,h2,h3,h4⟩:=h;have hL:=h2.lt;have hv :∀b∈ob v,b<w.heap.size:=fun b hb'=>(og h1 b hb').2;have h2':jv w3 l L:=h2.keep fun b hb'=>hb.block b (hL b hb');obtain⟨n1,n2,n3⟩:=List.nodup_append.1 h3;have hdis :∀b,b∈L→b∉ob v:=fun b hb1 hb2=>n3 b hb2 b hb1 rfl;have hk :∀b,b<w3.heap.size→b∉ob v→w4.heap[b]?=w3.heap[b]?:=fun b hb1 hb2=>hg.block b hb1 (by intro e;exact hb2 (qL.2 e.symm));have h5:jv w4 (l++[it]) (L++L1):=(h2'.snoc hi).keep fun b hb'=>by
  rcases List.mem_append.1 hb' with hb'|hb'
  ·exact hk b (aH (hL b hb') hb.size) (hdis b hb')
  ·exact hk b (hi.1.lt b hb') (fun h=>by have:=hv b h;have:=hl b hb';omega)
 have n4:(L++L1).Nodup:=YP n2 hn hL hl;have hob:ob v'=ob v∨ob v'=[w3.heap.size]:=by
  rcases hw with⟨A,c,e1,e2⟩|⟨h,_⟩
  ·rw[e1,e2];exact .inl (QV _ _ _ _)
  ·exact .inr (by unfold ob;rw[h];rfl)
 refine⟨by rw[aJ,List.flatMap_append,List.flatMap_singleton];exact ho,L++L1,h5,List.nodup_append.2 ⟨U8 _,n4,fun a ha b hb' e=>?_⟩,fun b hb'=>?_⟩
 ·subst e;have hlt:a<w3.heap.size:=by
   rcases List.mem_append.1 hb' with h|h
   ·exact aH (hL a h) hb.size
   ·exact hi.1.lt a h
  rcases hob with e|e
  ·rw[e]at ha;rcases List.mem_append.1 hb' with h|h
   ·exact hdis a h ha
   ·have:=hv a ha;have:=hl a h;omega
  ·rw[e,List.mem_singleton]at ha;omega
 ·rcases List.mem_append.1 hb' with h|h
  ·exact h4 b h
  ·exact aI hM (hl b h)
theorem yA(c:aY)(x:Ph)(A:Option Addr)(n:Nat):∀v∈ag c x A n,v.oneCell'=true:=by
 intro v hv;simp only[ag,List.mem_cons,List.not_mem_nil,or_false]at hv;rcases hv with rfl|rfl|rfl|rfl|rfl|rfl|rfl|rfl|rfl|rfl|rfl|rfl|rfl|rfl|rfl|rfl|rfl|rfl|rfl|rfl<;>rfl
theorem BX:(Tryz.prog.info? 46).map (fun i=>(i.zero,i.size,i.bytes))=some (some (.agg ak.toArray),20,320):=by kernel_rfl
theorem oI(w:World)(cs:List Value)(t:TypeId):(w.alloc (.cells cs.toArray t)).there w.heap.size 0 cs.length:=fun j hj=>by
 have hv:cs[j]?=some (cs[j]'hj):=List.getElem?_eq_getElem hj;refine⟨?_,by unfold World.frozen?;rw[heap_alloc_new];rfl⟩;rw[FZ w cs t j _ hv];rfl
theorem o5(w:World)(t:TypeId)(zs cs:List Value)(hl:cs.length=zs.length):∃V,V=(w.alloc (.cells zs.toArray t)).setCells w.heap.size 0 cs.toArray.toList∧V.rangeAt w.heap.size 0 cs∧Below w.heap.size w V∧V.heap.size=w.heap.size+1 :=
 ⟨_,rfl,World.rangeAt_setCells_same _ _ 0 cs (by rw[hl];exact oI w zs t),(az w _).trans (Keep.below (FN w.heap.size (P:=fun k=>k<w.heap.size) (Nat.lt_irrefl _) cs 0 _)),by rw[Qq];simp⟩
def qx(w:World)(s:ByteArray)(e:Ending)(w':World):Prop :=
 Below w.heap.size w w'∧(262144<s.size→e = .returned (.tuple #[.slice none 0 0,.agg #[.int .i64 3,.int .i64 0]]))∧
  (s.size≤262144→(∀i,rowsOf 0 (wordsOf 10 s) = .error i→e = .returned (.tuple #[.slice none 0 0,.agg #[.int .i64 210,.int .i64 i]]))∧
   ∀cs,rowsOf 0 (wordsOf 10 s) = .ok cs→∃l v,l.map (·.c)=cs∧e = .returned (.tuple #[v,.agg #[.int .i64 0,.int .i64 0]])∧kM w.heap.size w' v l)
end
section
open Go.RowKit
theorem zeB{S:Nat→Prop}{x:Ph}{p:Pt}{w:World}(hp:bM S w x p)(htab:bF w)(hsum:p.edit.frm.size+p.edit.to.size≤9223372036854775807):
  Calls Tryz.prog 114 #[.agg #[.int .u8 p.kind,.string p.file,.string p.text,.int .i64 p.hunk.at_,.slice x.h.oA p.hunk.old.length x.h.oc,.slice x.h.nA p.hunk.new.length x.h.nc,.int .u8 p.edit.kind,.slice x.e.pA p.edit.path.length x.e.pc,.int .i64 p.edit.at_,.int .i64 p.edit.far,.string p.edit.frm,.string p.edit.to,.slice x.e.oA p.edit.old.len x.e.oc,.slice x.e.nA p.edit.new.len x.e.nc]] w
   fun e w'=>ah (bI p) e∧Below w.heap.size w w':=by
 obtain⟨kd,file,text,hunk,edit⟩:=p;by_cases h1:kd=1
 ·subst h1;exact ZO hp
 by_cases h2:kd=2
 ·subst h2;exact ZP hp
 by_cases h3:kd=3
 ·subst h3;exact Z7 hp
 by_cases h4:kd=4
 ·subst h4;exact ZR hp htab hsum
 exact ZQ hp (by simp only;omega) (by simp only;omega) (by simp only;omega) (by simp only;omega)
def uq(w:World)(s:ByteArray)(e:Ending)(w':World):Prop :=
 Below w.heap.size w w'∧(unhexL s.data.toList=none→e = .returned (.tuple #[.slice none 0 0,.bool false]))∧
  ∀b,unhexL s.data.toList=some b→∃v,e = .returned (.tuple #[v,.bool true])∧w'.ownsRow w.heap.size 5 1 v b.length (Lib.byteCells b)
theorem Wi :∀(t b:List UInt8),unhexT t=some b→t.length % 2=0
 | [],_,_=>rfl
 | [_],_,h=>by cases h
 | x::y::r,b,h=>by
  rw[unhexT]at h;split at h
  ·obtain⟨b',hb,_⟩:=Option.map_eq_some_iff.1 h;have:=Wi r b' hb;simp only[List.length_cons];omega
  ·cases h
theorem uu{t:List UInt8}{k:Nat}(h1:k+1<t.length):unhexT (t.drop k)=if dn (t[k]'(by omega))<16∧dn t[k+1]<16 then(unhexT (t.drop (k+2))).map (UInt8.ofNat (16*dn (t[k]'(by omega))+dn t[k+1])::·)else none:=by
 rw[List.drop_eq_getElem_cons (i:=k) (by omega),List.drop_eq_getElem_cons (i:=k+1) h1,unhexT]
theorem IL(s:ByteArray)(hl:s.size≤1099511627776)(w:World):Calls Tryz.prog 186 #[.string s] w (uq w s):=by
 have hdl:s.data.toList.length=s.size:=by rw[Array.length_toList];rfl
 by_cases h45:s.data.toList=[45]
 ·have hu:unhexL s.data.toList=some []:=by rw[h45];rfl
  have hs:=qP h45;have Hu:=hide hu;clear hu h45 hdl;subst hs;go_enter Tryz.func186,Tryz.ntmps186
  go_wp2_with fail
  go_ret2
  refine⟨Below.refl _ _,fun h=>by(rw[Hu.out]at h;cases h),fun b h=>?_⟩;rw[Hu.out]at h;injection h with h;subst h;exact⟨_,rfl,World.ownsRow_nil _ _ _ _⟩
 have e45:(s.toList == [45])=false:=Qm h45;by_cases h0:s.size=0
 ·have hu:unhexL s.data.toList=none:=by
   have:s.data.toList=[]:=List.length_eq_zero_iff.1 (by rw[hdl];exact h0);rw[this];rfl
  have e0:((s.size:Int) == 0)=true:=by rw[beq_iff_eq];omega
  have Hu:=hide hu;clear hu h45 hdl;go_enter Tryz.func186,Tryz.ntmps186
  go_wp2_with fail
  go_ret2
  exact⟨Below.refl _ _,fun _=>rfl,fun b h=>by rw[Hu.out]at h;cases h⟩
 have e0:((s.size:Int) == 0)=false:=by rw[aK];omega
 have Oc:unhexL s.data.toList=unhexT s.data.toList:=by
  unfold unhexL;rw[if_neg h45,if_neg];intro e;rw[e]at hdl;exact h0 hdl.symm
 by_cases hodd:s.size % 2=1
 ·have hu:unhexL s.data.toList=none:=by
   rw[Oc];rcases hx:unhexT s.data.toList with _|b
   ·rfl
   ·have:=Wi _ _ hx;omega
  have e1:((s.size:Int).tmod 2 == 1)=true:=by rw[beq_iff_eq,Int.tmod_eq_emod_of_nonneg (by omega)];omega
  have Hu:=hide hu;clear hu h45 hdl Oc;go_enter Tryz.func186,Tryz.ntmps186
  go_wp2_with fail
  go_ret2
  exact⟨Below.refl _ _,fun _=>rfl,fun b h=>by rw[Hu.out]at h;cases h⟩
 have e1:((s.size:Int) % 2 == 1)=false:=by rw[aK];omega
 have Ir:Hid (s.size % 2=0):=hide (by omega);have QW:=hide Oc;have Wj:=hide hdl;clear h45 hodd Oc hdl;go_enter Tryz.func186,Tryz.ntmps186
 go_wp2_with fail
 go_loopg [4,5] s.size (fun g v i wr=>∃q k:Nat,k≤s.size∧q≤k∧g=s.size-k∧Hid (k=2*q)∧i = .int .i64 (k:Int)∧Hid (∃l:List UInt8,l.length=q∧wr.ownsRow w.heap.size 5 1 v q (Lib.byteCells l)∧unhexT s.data.toList=(unhexT (s.data.toList.drop k)).map (l++·))∧Hid (Below w.heap.size w wr))
 case atStart=>exact⟨0,0,by omega,by omega,by omega,hide rfl,rfl,hide ⟨[],rfl,World.ownsRow_nil _ _ _ _,by simp⟩,hide (Below.refl _ _)⟩
 case round =>
  obtain⟨q,k,hq,hqk,hg,Hk,rfl,HO,HB⟩:=hrel;by_cases hlt:k<s.size
  ·have hk1:k+1<s.size:=by have:=Hk.out;have:=Ir.out;omega
   obtain⟨m,hm⟩:∃m,m=k+1:=⟨_,rfl⟩;have hki:(k:Int)<(s.size:Int):=by omega
   have hwk:IntKind.i64.wrap ((k:Int)+1)=(m:Int):=by rw[IntKind.wrap_i64];omega
   have JI:(m:Int)<(s.size:Int):=by omega
   have Fq:m<s.size:=by omega
   have hst:unhexT (s.data.toList.drop k)=if dn s[k]<16∧dn s[m]<16 then(unhexT (s.data.toList.drop (k+2))).map (UInt8.ofNat (16*dn s[k]+dn s[m])::·)else none:=by
    subst hm;have h:=uu (t:=s.data.toList) (k:=k) (by rw[Wj.out];exact hk1)
    simpa[ByteArray.getElem_eq_getElem_data]using h
   have BC:=hide hst;clear hm hst hk1
   go_wp2_with fail
   go_quiet ((go_at_call 232;(with_reducible refine(Z4 _ _).mono ?_);rintro e2 w2 ⟨rfl,rfl⟩;exact⟨rfl,_,rfl⟩))
   have HB1:Hid (Below w.heap.size w (wr.drewN nq)):=hide (di HB.out _);have iI:Hid (∃l:List UInt8,l.length=q∧(wr.drewN nq).ownsRow w.heap.size 5 1 u4 q (Lib.byteCells l)∧unhexT s.data.toList=(unhexT (s.data.toList.drop k)).map (l++·)):=HO;generalize wr.drewN nq=wq at iI HB1⊢;obtain⟨l,hll,Ag,hT1⟩:=iI.out;obtain⟨Av,cv,rfl⟩:=jD Ag;have kC:=hide Ag;have HT1:=hide hT1;clear iI Ag hT1 HO;generalize hX:dn s[k]=X at BC⊢;generalize hY:dn s[m]=Y at BC⊢;clear hX hY;by_cases nV:X<16
   ·by_cases nX:Y<16
    ·have hx2 :¬(15:Int)<(X:Int):=by omega
     have hy2 :¬(15:Int)<(Y:Int):=by omega
     obtain⟨z,hz⟩:∃z,z=16*X+Y:=⟨_,rfl⟩;obtain⟨z1,hz1⟩:∃z1,z1=16*X:=⟨_,rfl⟩;have hw1:IntKind.i64.wrap (16*(X:Int))=(z1:Int):=by rw[IntKind.wrap_i64];omega
     have hw2:IntKind.i64.wrap ((z1:Int)+(Y:Int))=(z:Int):=by rw[IntKind.wrap_i64];omega
     have DX:(z:Int) % 256=(z:Int):=by omega
     have hzu:(z:Int)=((UInt8.ofNat z).toNat:Int):=by rw[UInt8.toNat_ofNat'];omega
     have hT2:unhexT s.data.toList=(unhexT (s.data.toList.drop (k+2))).map ((l++[UInt8.ofNat z])++·):=by
      rw[HT1.out,BC.out,if_pos ⟨nV,nX⟩,Option.map_map,hz];congr 1;funext x;simp
     have HT2:=hide hT2;have Qj:=hide hzu;have Hll:=hide hll;clear hz hz1 hzu hT2 hll;have hbl:(Lib.byteCells l).length=q*1:=by simp[Lib.byteCells,Hll.out]
     go_wp2_with(at_builtin;refine Aa rfl _ _ 44 rfl w.heap.size 5 Tryz.underlying44 Qh rfl (by decide) _ q (Lib.byteCells l) rfl (kC.out.alloc _) (some ⟨wq.heap.size,0,none⟩) 1 1 [.int .u8 (z:Int)] rfl (by simp) rfl (fun ad e=>by injection e with e;subst e;intro j u hu;rw[Addr.add_lit,Nat.zero_add,Lib.cell_of_heap (heap_alloc_new wq _)];simpa using hu) (by intro u hu;simp at hu;subst hu;rfl) (by unfold maxLen;omega) (by omega) (by have:=HB1.out.size;simp;omega) ?_)
     intro v1 w4 h4 hg4 hw4;have HB4:Hid (Below w.heap.size w w4):=hide ((HB1.out.alloc HB1.out.size _).grown hg4 (by have:=HB1.out.size;simp;omega) fun j hj=>(kC.out.lt j hj).1);have H4:=hide h4;clear h4 hg4 hw4
     go_wp2_with fail
     go_roundg (s.size-(k+2))
     case measure=>omega
     case rel =>
      refine⟨q+1,k+2,by have:=Hk.out;have:=Ir.out;omega,by omega,rfl,hide (by have:=Hk.out;omega),by go_num,hide ⟨l++[UInt8.ofNat z],by simp[Hll.out],?_,HT2.out⟩,HB4⟩;have h:=H4.out;have e1:Lib.byteCells (l++[UInt8.ofNat z])=Lib.byteCells l++[.int .u8 (z:Int)]:=by rw[Qj.out];unfold Lib.byteCells;rw[List.map_append];rfl
      rw[e1];exact h
    ·have hx2 :¬(15:Int)<(X:Int):=by omega
     have hy2:(15:Int)<(Y:Int):=by omega
     have hun:unhexL s.data.toList=none:=by rw[QW.out,HT1.out,BC.out,if_neg (fun h=>nX h.2)];rfl
     have DY:=hide hun;clear hun hll
     go_wp2_with fail
     go_ret2
     exact⟨HB1.out,fun _=>rfl,fun b h=>by rw[DY.out]at h;cases h⟩
   ·have hx2:(15:Int)<(X:Int):=by omega
    have hun:unhexL s.data.toList=none:=by rw[QW.out,HT1.out,BC.out,if_neg (fun h=>nV h.1)];rfl
    have DY:=hide hun;clear hun hll
    go_wp2_with fail
    go_ret2
    exact⟨HB1.out,fun _=>rfl,fun b h=>by rw[DY.out]at h;cases h⟩
  ·have hks:k=s.size:=by omega
   have hki :¬(k:Int)<(s.size:Int):=by omega
   obtain⟨l,hll,Ag,hT1⟩:=HO.out;have hun:unhexL s.data.toList=some l:=by
    rw[QW.out,hT1,hks,List.drop_eq_nil_of_le (by rw[Wj.out];exact aC _)];simp[unhexT]
   have DY:=hide hun;have iI:=hide Ag;have Hll:=hide hll;clear hun Ag hll hT1
   go_wp2_with fail
   go_ret2
   refine⟨HB.out,fun h=>by(rw[DY.out]at h;cases h),fun b h=>?_⟩;rw[DY.out]at h;injection h with h;subst h;exact⟨_,rfl,by rw[Hll.out];exact iI.out⟩
theorem ru{l:List UInt8}{c:UInt8}:(!decide (0≤Lib.indexByte l c))=true↔c∉l:=by
 rw[Bool.not_eq_true',decide_eq_false_iff_not];have h1:=Lib.indexByte_ge l c;constructor
 ·intro h hm;have h2:Lib.indexByte l c = -1:=by omega
  obtain⟨k,hk,e⟩:=List.getElem_of_mem hm;exact Lib.indexByte_none h2 k (by rw[List.getElem?_eq_getElem hk,e])
 ·intro h h0;obtain⟨o,ho⟩:∃o:Nat,Lib.indexByte l c=o:=⟨(Lib.indexByte l c).toNat,by omega⟩;exact h (List.mem_of_getElem? (Lib.indexByte_some ho).1)
theorem QX{s:ByteArray}:isWord s=true↔1≤s.size∧s.size≤100∧∀c∈s.data.toList,c≠10∧c≠32:=by
 unfold isWord;rw[Bool.and_eq_true,Bool.and_eq_true,Bool.and_eq_true,ru,ru,decide_eq_true_eq];have h0:(!s.toList.isEmpty)=true↔1≤s.size:=by
  rw[Bool.not_eq_true',Bool.eq_false_iff,ne_eq,List.isEmpty_iff,mg];omega
 rw[h0];constructor
 ·rintro⟨h1,h2,h3,h4⟩;exact⟨h1,h2,fun c hc=>⟨fun e=>h4 (e▸hc),fun e=>h3 (e▸hc)⟩⟩
 ·rintro⟨h1,h2,h3⟩;exact⟨h1,h2,fun h=>(h3 32 h).2 rfl,fun h=>(h3 10 h).1 rfl⟩
theorem Wl(s:ByteArray)(hl:s.size≤1099511627776)(w:World):Calls Tryz.prog 188 #[.string s] w fun e w'=>e = .returned (.bool (isWord s))∧w'=w:=by
 go_enter Tryz.func188,Tryz.ntmps188
 go_wp2_with fail
 go_loopg [3] s.size (fun g i wr=>∃q:Nat,q≤s.size∧g=s.size-q∧i = .int .i64 q∧wr=w∧Hid (∀j,j<q→∀h:j<s.size,s[j]≠10∧s[j]≠32))
 case atStart=>exact⟨0,by omega,by omega,rfl,rfl,hide (fun j hj=>by omega)⟩
 case round =>
  obtain⟨q,hq,hg,rfl,rfl,HA⟩:=hrel;by_cases hlt:q<s.size
  ·have hb:=(s[q]).toNat_lt;have hmem:s[q]∈s.data.toList:=Array.getElem_mem_toList (xs:=s.data) hlt;by_cases h10:(s[q]).toNat=10
   ·have e10:(((s[q]).toNat:Int) == 10)=true:=by rw[beq_iff_eq];omega
    have hno:isWord s=false:=by
     rw[Bool.eq_false_iff];intro h;exact((QX.1 h).2.2 _ hmem).1 (by rw[←UInt8.toNat_inj];exact h10)
    have Hno:=hide hno;clear hno h10
    go_wp2_with fail
    go_ret;exact⟨by rw[Hno.out];rfl,rfl⟩
   ·have e10:(((s[q]).toNat:Int) == 10)=false:=by rw[aK];omega
    by_cases h32:(s[q]).toNat=32
    ·have e32:(((s[q]).toNat:Int) == 32)=true:=by rw[beq_iff_eq];omega
     have hno:isWord s=false:=by
      rw[Bool.eq_false_iff];intro h;exact((QX.1 h).2.2 _ hmem).2 (by rw[←UInt8.toNat_inj];exact h32)
     have Hno:=hide hno;clear hno h10 h32
     go_wp2_with fail
     go_ret;exact⟨by rw[Hno.out];rfl,rfl⟩
    ·have e32:(((s[q]).toNat:Int) == 32)=false:=by rw[aK];omega
     have HA2:Hid (∀j,j<q+1→∀h:j<s.size,s[j]≠10∧s[j]≠32):=hide fun j hj h=>by
      by_cases e:j=q
      ·subst e;exact⟨fun e=>h10 (by rw[e];rfl),fun e=>h32 (by rw[e];rfl)⟩
      ·exact HA.out j (by omega) h
     clear h10 h32
     go_wp2_with fail
     go_roundg (s.size-(q+1))
     case measure=>omega
     case rel=>exact⟨q+1,by omega,rfl,by go_num,rfl,HA2⟩
  ·have QY:q=s.size:=by omega
   subst QY;have hw:isWord s=(decide (1≤(s.size:Int)) && decide ((s.size:Int)≤100)):=by
    rw[Bool.eq_iff_iff,QX,Bool.and_eq_true,decide_eq_true_eq,decide_eq_true_eq];constructor
    ·rintro⟨h1,h2,_⟩;omega
    ·rintro⟨h1,h2⟩;refine⟨by omega,by omega,fun c hc=>?_⟩;obtain⟨k,hk,e⟩:=List.getElem_of_mem hc;have hk':k<s.size:=by rw[Array.length_toList]at hk;exact hk
     have:=HA.out k hk' hk';have e2:s[k]=c:=by rw[←e];simp[ByteArray.getElem_eq_getElem_data]
     rwa [e2]at this
   have Hw:=hide hw;clear hw
   go_wp2_with fail
   all_goals
    go_ret;refine⟨?_,rfl⟩;rw[Hw.out]
    first
     | rfl
     | grind
     | (simp_all;done)
     | (simp_all;omega)
theorem ry{S:Nat→Prop}{w:World}{A:Option Addr}{c:Nat}{l:List ByteArray}(h:Rd S w A (l.map .string))(hl:l.length≤1099511627776)(hs :∀s∈l,s.size≤1099511627776):
  Calls Tryz.prog 122 #[.slice A l.length c] w fun e w'=>e = .returned (.bool (l.all isWord))∧w'=w:=by
 have H:=hide h;clear h;go_enter Tryz.func122,Tryz.ntmps122
 go_wp2_with fail
 go_loopg [3] l.length (fun g i wr=>∃q:Nat,q≤l.length∧g=l.length-q∧i = .int .i64 q∧wr=w∧Hid (∀s∈l.take q,isWord s=true))
 case atStart=>exact⟨0,by omega,by omega,rfl,rfl,hide (fun s hs=>by simp at hs)⟩
 case round =>
  obtain⟨q,hq,hg,rfl,rfl,HA⟩:=hrel;by_cases hlt:q<l.length
  ·obtain⟨b,o,rfl,hc⟩:=H.out.at_ (j:=q) (by simpa using hlt);simp only[List.getElem_map]at hc;have hsz:=hs _ (List.getElem_mem hlt);rcases hw:isWord l[q]with _|_
   ·have hno:l.all isWord=false:=by
     rw[List.all_eq_false];exact⟨_,List.getElem_mem hlt,by simp[hw]⟩
    have Hno:=hide hno;clear hno
    go_wp2_with(go_at_call 188;(with_reducible refine(Wl _ hsz _).mono ?_);rintro e1 w1 ⟨rfl,rfl⟩;rw[hw])
    go_ret;exact⟨by rw[Hno.out];rfl,rfl⟩
   ·have HA2:Hid (∀s∈l.take (q+1),isWord s=true):=hide fun s hs'=>by
     rw[List.take_succ_eq_append_getElem hlt]at hs';rcases List.mem_append.1 hs' with h|h
     ·exact HA.out s h
     ·rw[List.mem_singleton]at h;rw[h];exact hw
    go_wp2_with(go_at_call 188;(with_reducible refine(Wl _ hsz _).mono ?_);rintro e1 w1 ⟨rfl,rfl⟩;rw[hw])
    go_roundg (l.length-(q+1))
    case measure=>omega
    case rel=>exact⟨q+1,by omega,rfl,by go_num,rfl,HA2⟩
  ·have Bi:q=l.length:=by omega
   subst Bi;have hall:l.all isWord=true:=by
    rw[List.all_eq_true];have:=HA.out
    rwa [List.take_length]at this
   have aQ:=hide hall;clear hall
   go_wp2_with fail
   go_ret;exact⟨by rw[aQ.out];rfl,rfl⟩
theorem Wn{w:World}{s:ByteArray}(hs63:s.size≤9223372036854775807)(hmx:ja w)(htab:bF w)(hrec :∀t∈wordsOf 10 s,∀r,wordsOf 32 t=ay::r→gU 106 restRecord):Calls Tryz.prog 10 #[.string s] w (qx w s):=by
 by_cases hbig:262144<s.size
 ·have hbi:(262144:Int)<(s.size:Int):=by omega
  go_enter Tryz.func10,Tryz.ntmps10
  go_wp2_with fail
  refine bodyPost_ret (v:= .tuple #[.slice none 0 0,.agg #[.int .i64 3,.int .i64 0]]) ?_ rfl ⟨az _ _,fun _=>rfl,fun h=>absurd h (by omega)⟩;simp[results,Tryz.results10,go_sem]
 have hs:s.size≤262144:=by omega
 have hbi :¬(262144:Int)<(s.size:Int):=by omega
 have hlen:=oZ (c:=10) (s:=s) (by omega);obtain⟨n,hn⟩:∃n,n=(wordsOf 10 s).length:=⟨_,rfl⟩;have hn2:n≤262145:=by
  rw[hn,NV];have:=Lib.countB_le ⟨#[10]⟩ (aC 1) s.size s (aC _);omega
 clear hlen;go_enter Tryz.func10,Tryz.ntmps10
 go_wp2_with(go_at_call 26;(with_reducible refine(V4 10 (by omega) (hmx.below (az _ _))).mono ?_);rintro e1 w1 ⟨rfl,rfl⟩)
 clear hn2 hn;have hws2:(wordsOf 10 s).length≤262145:=by
  rw[NV];have:=Lib.countB_le ⟨#[10]⟩ (aC 1) s.size s (aC _);omega
 have hall :∀x∈wordsOf 10 s,x.size≤262144:=fun x hx=>aI (oV hx).1 hs;obtain⟨o1,ho1⟩:∃o1,o1=Obj.cells #[.int .i64 0,.int .i64 0] 26:=⟨_,rfl⟩;obtain⟨o2,ho2⟩:∃o2,o2=Obj.cells ((wordsOf 10 s).map .string).toArray 9:=⟨_,rfl⟩;rw[←ho1,←ho2];have hb1:=az w o1;have hb2:=az (w.alloc o1) o2;have z1:(w.alloc o1).heap.size=w.heap.size+1:=by simp
 have hz2:((w.alloc o1).alloc o2).heap.size=w.heap.size+1+1:=by simp
 have hB2:Below w.heap.size w ((w.alloc o1).alloc o2):=hb1.trans (hb2.mono (by omega));have hF:((w.alloc o1).alloc o2).heap[w.heap.size]?=some o1:=(hb2.block _ (by omega)).trans (heap_alloc_new w o1);have hR:((w.alloc o1).alloc o2).heap[w.heap.size+1]?=some o2:=by have:=heap_alloc_new (w.alloc o1) o2;rwa [z1]at this
 generalize (w.alloc o1).alloc o2=W2 at hz2 hB2 hF hR⊢;clear hb1 hb2 z1;subst ho1 ho2;have hrd:Rd (fun b=>b=w.heap.size+1) W2 (some ⟨w.heap.size+1,0,none⟩) ((wordsOf 10 s).map .string):= .inr ⟨_,0,rfl,rfl,fun j u hu=>by rw[Nat.zero_add,Lib.cell_of_heap hR];simpa using hu⟩;have HF:=hide hF;have Au:=hide hrd;have HB2:=hide hB2;have Kq:=hmx.below hB2;have Ej:=htab.below hB2;have Oe:=hide Kq;have aN:=hide Ej;clear hF hR hrd hB2 hmx htab Kq Ej;generalize hws:wordsOf 10 s=ws at hws2 hall Au hrec⊢;have QZ:=hide hrec;clear hrec;have Hws:=hide hws;have aQ:=hide hall;clear hws hall
 go_loopg [4,16] ws.length (fun g v i wr=>∃(q m:Nat) (l:List kD),q≤ws.length∧g=ws.length-q∧i = .int .i64 q∧m≤q∧Hid (m=l.length)∧Hid (kM W2.heap.size wr v l)∧Hid (rowsOf 0 ws=before (l.map (·.c)) (rowsOf q (ws.drop q)))∧Hid (Below W2.heap.size W2 wr))
 case atStart=>exact⟨0,0,[],by omega,by omega,rfl,by omega,hide rfl,hide (kM.nil _ _),hide (by rw[List.map_nil,Z8,List.drop_zero]),hide (Below.refl _ _)⟩
 case round =>
  obtain⟨q,m,l,hq,hg,rfl,hm,Hm,HC,HP,HB⟩:=hrel;have hzr:=HB.out.size;have hfr:wr.heap[w.heap.size]?=some (.cells #[.int .i64 0,.int .i64 0] 26):=(HB.out.block _ (by omega)).trans HF.out;have Q3:wr.cell? ⟨w.heap.size,0,none⟩=some (.int .i64 0):=by rw[Lib.cell_of_heap hfr];rfl
  have Q4:wr.cell? ⟨w.heap.size,1,none⟩=some (.int .i64 0):=by rw[Lib.cell_of_heap hfr];rfl
  have Wp:wr.frozen? ⟨w.heap.size,0,none⟩=false:=by unfold World.frozen?;rw[hfr];rfl
  have Wq:wr.frozen? ⟨w.heap.size,1,none⟩=false:=by unfold World.frozen?;rw[hfr];rfl
  have hBw:Hid (Below w.heap.size w wr):=hide (HB2.out.trans (HB.out.mono (by omega)));clear hfr;by_cases hlt:q<ws.length
  ·have hcw:wr.cell? ⟨w.heap.size+1,q,none⟩=some (.string ws[q]):=by
    obtain⟨b,o,e,hc⟩:=Au.out.at_ (j:=q) (by simpa using hlt);injection e with e;injection e with e1 e2;subst e1 e2;rw[Nat.zero_add]at hc;rw[HB.out.cell (p:=⟨w.heap.size+1,q,none⟩) (by show w.heap.size+1<_;omega),hc];simp
   have Q5:ws[q]∈ws:=List.getElem_mem hlt;have hdr:ws.drop q=ws[q]::ws.drop (q+1):=List.drop_eq_getElem_cons hlt;rw[hdr]at HP;generalize ws[q]=t at hcw Q5 HP;have Q7:Hid (rowsOf 0 ws=before (l.map (·.c)) (rowsOf q (t::ws.drop (q+1)))):=HP;have htz:=aQ.out t Q5;by_cases h0:t.size=0
   ·have ht0:t=⟨#[]⟩:=by
     apply ByteArray.ext;exact Array.eq_empty_of_size_eq_zero h0
    have HP2:Hid (rowsOf 0 ws=before (l.map (·.c)) (rowsOf (q+1) (ws.drop (q+1)))):=hide (by rw[Q7.out,Z9 h0]);subst ht0
    go_wp2_with fail
    go_roundg (ws.length-(q+1))
    case measure=>omega
    case rel=>exact⟨q+1,m,l,by omega,rfl,by go_num,by omega,Hm,HC,HP2,HB⟩
   ·have hne:t.toList.isEmpty=false:=by rw[Bool.eq_false_iff,ne_eq,List.isEmpty_iff,mg];omega
    have Ws:Hid (Calls Tryz.prog 34 #[.string t] wr (fU wr t)):=hide (parse_any (by omega) (Oe.out.below HB.out) (aN.out.below HB.out) (QZ.out t Q5));rcases hl:lineOf (wordsOf 32 t)with _|c
    ·have HX:Hid (rowsOf 0 ws = .error (q+1)):=hide (by rw[Q7.out,Wh h0 hl];rfl);have Hl:=hide hl;clear hl
     go_wp2_with(first
      | (go_at_call 34;(with_reducible refine Ws.out.mono ?_);rintro e1 w1 ⟨hB1,hn1,_⟩;have he1:=hn1 Hl.out;subst he1;have BZ:w.heap.size<w1.heap.size:=aH (by omega) hB1.size;have HB1:=hide hB1;clear hB1 hn1)
      | (refine wpList_store_mid rfl _ _ _ rfl w1.heap.size 0 ak.toArray rfl rfl (oI w1 ak _) zag Ai ?_;obtain⟨V,hV,hV1,hV2,gW⟩:=o5 w1 46 ak (ak) rfl;rw[←hV];have Wu:=(hV2.cell (p:=⟨w.heap.size,0,none⟩) BZ).trans ((HB1.out.cell (p:=⟨w.heap.size,0,none⟩) (by show w.heap.size<_;omega)).trans Q3);have Wv:=(hV2.cell (p:=⟨w.heap.size,1,none⟩) BZ).trans ((HB1.out.cell (p:=⟨w.heap.size,1,none⟩) (by show w.heap.size<_;omega)).trans Q4);have gf0:=(hV2.frozen (p:=⟨w.heap.size,0,none⟩) BZ).trans ((HB1.out.frozen (p:=⟨w.heap.size,0,none⟩) (by show w.heap.size<_;omega)).trans Wp);have gf1:=(hV2.frozen (p:=⟨w.heap.size,1,none⟩) BZ).trans ((HB1.out.frozen (p:=⟨w.heap.size,1,none⟩) (by show w.heap.size<_;omega)).trans Wq);have kW:=hide hV1;have kE:=hide hV2;have mW:=hide gW;clear hV hV1 hV2 gW))
     refine bodyPost_ret (v:= .tuple #[.slice none 0 0,.agg #[.int .i64 210,.int .i64 ((q:Int)+1)]]) ?_ rfl ?_
     ·obtain⟨r0,r1⟩:=rq (u:= .int .i64 210) (v:= .int .i64 ((q:Int)+1)) Wu Wv;simp[results,Tryz.results10,go_sem,r0,r1]
     have hb4:Below w.heap.size w V:=(hBw.out.trans (HB1.out.mono (by omega))).trans (kE.out.mono (by omega));refine⟨(hb4.setCell (p:=⟨w.heap.size,0,none⟩) (aC _) _).setCell (p:=⟨w.heap.size,1,none⟩) (aC _) _,fun h=>absurd h (by omega),fun _=>⟨fun i hi=>?_,fun cs hcs=>?_⟩⟩
     ·rw[Hws.out,HX.out]at hi;injection hi with hi;subst hi;rfl
     ·rw[Hws.out,HX.out]at hcs;cases hcs
    ·have HX:Hid (rowsOf 0 ws=before ((l.map (·.c))++[c]) (rowsOf (q+1) (ws.drop (q+1)))):=hide (by rw[Q7.out,QU h0 hl,zfJ]);have Hl:=hide hl;have Wx:Hid (wr.ownsRow W2.heap.size 46 20 _ m (l.flatMap kD.cells)):=hide (by rw[Hm.out];exact HC.out.1);clear hl
     go_wp2_with(first
      | (go_at_call 34;(with_reducible refine Ws.out.mono ?_);rintro e1 w1 ⟨hB1,_,hy1⟩;obtain⟨x,A,k,he1,JA⟩:=hy1 c Hl.out;subst he1;have BZ:w.heap.size<w1.heap.size:=aH (by omega) hB1.size;have HB1:=hide hB1;have iO:=hide JA;clear hB1 hy1 JA)
      | (refine wpList_store_mid rfl _ _ _ rfl w1.heap.size 0 (ag c x A k).toArray rfl rfl (oI w1 ak _) zag (jQ c x A k) ?_;obtain⟨V,hV,hV1,hV2,gW⟩:=o5 w1 46 ak (ag c x A k) rfl;rw[←hV];have Wu:=(hV2.cell (p:=⟨w.heap.size,0,none⟩) BZ).trans ((HB1.out.cell (p:=⟨w.heap.size,0,none⟩) (by show w.heap.size<_;omega)).trans Q3);have Wv:=(hV2.cell (p:=⟨w.heap.size,1,none⟩) BZ).trans ((HB1.out.cell (p:=⟨w.heap.size,1,none⟩) (by show w.heap.size<_;omega)).trans Q4);have gf0:=(hV2.frozen (p:=⟨w.heap.size,0,none⟩) BZ).trans ((HB1.out.frozen (p:=⟨w.heap.size,0,none⟩) (by show w.heap.size<_;omega)).trans Wp);have gf1:=(hV2.frozen (p:=⟨w.heap.size,1,none⟩) BZ).trans ((HB1.out.frozen (p:=⟨w.heap.size,1,none⟩) (by show w.heap.size<_;omega)).trans Wq);have kW:=hide hV1;have kE:=hide hV2;have mW:=hide gW;clear hV hV1 hV2 gW)
      | (refine wpList_load_mid rfl _ _ rfl w1.heap.size 0 rfl (ag c x A k) _ kW.out Tryz.underlying46 rfl zag ?_)
      | (at_builtin;refine Aa rfl _ _ 23 rfl W2.heap.size 46 Tryz.underlying23 BX rfl (by decide) _ m (l.flatMap kD.cells) rfl (nZ Wx.out (fun b hb=>((HB1.out.trans (kE.out.mono HB1.out.size)).trans ((az V _).mono (by have:=mW.out;have:=HB1.out.size;omega))).block b (og Wx.out b hb).2)) (some ⟨V.heap.size,0,none⟩) 1 1 (ag c x A k) rfl (by simp) rfl (fun ad e=>by injection e with e;subst e;intro j u hu;rw[Addr.add_lit,Nat.zero_add,Lib.cell_of_heap (heap_alloc_new V _)];simpa using hu) (yA c x A k) (by unfold maxLen;omega) (by omega) (by have:=mW.out;have:=HB1.out.size;have:=HB.out.size;simp;omega) ?_;intro v1 w4 h4 hg4 hw4;have H4:=hide h4;have Og:=hide hg4;have Be:=hide hw4;clear h4 hg4 hw4))
     have hz1:=HB1.out.size;have hz3:=mW.out;obtain⟨hin,L1,hO,hnd,hge⟩:=iO.out;have Q8:Below w1.heap.size w1 (V.alloc (.cells (ag c x A k).toArray 46)):=kE.out.trans ((az V _).mono (by omega));have hok:kD.ok (V.alloc (.cells (ag c x A k).toArray 46)) ⟨c,x,A,k⟩ L1:=kD.ok.keep (w:=w1) ⟨hO,hO.inn hin⟩ fun b hb=>Q8.block b (hO.lt b hb);have Oh:Below wr.heap.size wr (V.alloc (.cells (ag c x A k).toArray 46)):=HB1.out.trans (Q8.mono hz1);have hown:w4.ownsRow W2.heap.size 46 20 v1 (l.length+1) (l.flatMap kD.cells++kD.cells ⟨c,x,A,k⟩):=by rw[←Hm.out];exact H4.out
     have hW:rX (V.alloc (.cells (ag c x A k).toArray 46)) w4 u4 v1 l.length 1:=by rw[←Hm.out];exact Be.out
     have HCN:=hide (HC.out.next Oh HB.out.size hok hnd hge hown Og.out hW);have HBN:Hid (Below W2.heap.size W2 w4):=hide ((HB.out.trans (Oh.mono HB.out.size)).grown Og.out (by have:=Oh.size;omega) fun j hj=>(og HC.out.1 j (qL.2 hj)).1);clear hin hO hnd hge hok Oh hown hW Q8
     go_roundg (ws.length-(q+1))
     case measure=>omega
     case rel=>exact⟨q+1,m+1,l++[⟨c,x,A,k⟩],by omega,rfl,by go_num,by omega,hide (by simp[Hm.out]),HCN,hide (by rw[HX.out,List.map_append];rfl),HBN⟩
  ·have hq2:q=ws.length:=by omega
   have hX:rowsOf 0 ws = .ok (l.map (·.c)):=by
    rw[HP.out,hq2,List.drop_length];simp[rowsOf,before]
   have HX:=hide hX;clear hX;obtain⟨r0,r1⟩:=rq (u:= .int .i64 0) (v:= .int .i64 0) Q3 Q4
   go_wp2_with fail
   refine bodyPost_ret (v:= .tuple #[u4,.agg #[.int .i64 0,.int .i64 0]]) ?_ rfl ?_
   ·simp[results,Tryz.results10,go_sem,r0,r1]
   refine⟨(hBw.out.setCell (p:=⟨w.heap.size,0,none⟩) (aC _) _).setCell (p:=⟨w.heap.size,1,none⟩) (aC _) _,fun h=>absurd h (by omega),fun _=>⟨fun i hi=>?_,fun cs hcs=>?_⟩⟩
   ·rw[Hws.out,HX.out]at hi;cases hi
   ·rw[Hws.out,HX.out]at hcs;injection hcs with hcs;refine⟨l,u4,hcs,rfl,((HC.out.keep fun b hb=>?_).mono (by omega))⟩;rw[Below.heap_setCell _ _ _ _ (by show b≠w.heap.size;omega),Below.heap_setCell _ _ _ _ (by show b≠w.heap.size;omega)]
theorem Wy :∀f:Fo,25*f.len≤(iy f).length
 | .nil=>by simp[Fo.len]
 | .cons k t n ks r=>by
  have ih:=Wy r;rw[EO,aJ];have:25≤(eX k t n ks).length:=by
   simp only[eX,aO,List.length_cons,aJ,jm,Pq];omega
  simp only[Fo.len];omega
theorem zfK{d:Nat}{n:Int}{l1:List UInt8}(hn:aX n)(h :¬(0≤n∧n≤(l1.length:Int) / ((25:Nat):Int))):¬iF d (au n++l1):=by
 rintro⟨f,l',hf,_,he⟩;unfold aO at he;rw[List.append_assoc]at he;obtain⟨e1,e2⟩:=kX hn (nI hf.2) he;have:=Wy f;rw[e2,aJ]at h;refine h ⟨by omega,?_⟩;omega
theorem fZ.setNew{B rb:Nat}{w:World}{l:List UInt8}{bd:Bool}(h:fZ B rb w l bd){a:Addr}(ha:rb<a.block)(u:Value):fZ B rb (w.setCell a u) l bd:=h.keep fun b hb=>Below.heap_setCell w a u b (by omega)
def jk(B rb D:Nat)(w:World)(l:List UInt8)(bd:Bool)(e:Ending)(w':World):Prop:=∃(f:Fo) (l':List UInt8) (jq:Bool) (A:Option Addr) (c:Nat),e = .returned (.slice A f.len c)∧bG (fun b=>w.heap.size≤b) w' A f∧f.fit∧f.len≤c∧c≤9223372036854775807∧fZ B rb w' l' jq∧Side rb w w'∧l'.length≤l.length∧
   ((jq=false∧bd=false∧l=aO f++l'∧f.high≤D)∨(jq=true∧(bd=true∨¬iF (41-D) l)))
def je(n D:Nat)(l1:List UInt8)(b1:Bool)(f:Fo)(lq:List UInt8)(bq:Bool):Prop :=
 (bq=false∧b1=false∧l1=iy f++lq∧f.high≤D)∨(bq=true∧(b1=true∨∃(g:Fo) (lr:List UInt8),g.fit∧l1=iy g++lr∧g.len<n∧¬kz (41-D) lr))
theorem Oi{n D:Nat}{l l1 lq:List UInt8}{bd b1 bq:Bool}{f:Fo}(hn:n≤aP)(hm:je n D l1 b1 f lq bq)(hfit:f.fit)(hlen:bq=false→f.len=n)
  (hX:(l=au (n:Nat)++l1∧b1=bd)∨(n=0∧b1=true∧(l.length<8∨∃(m:Int) (l1:List UInt8),aX m∧l=au m++l1∧¬(0≤m∧m≤(l1.length:Int) / ((25:Nat):Int))))):
  (bq=false∧bd=false∧l=aO f++lq∧f.high≤D)∨(bq=true∧(bd=true∨¬iF (41-D) l)):=by
 rcases hm with⟨e1,e2,e3,e4⟩|⟨e1,h⟩
 ·rcases hX with⟨g1,g2⟩|⟨_,g2,_⟩
  ·refine .inl ⟨e1,by rw[←g2,e2],?_,e4⟩;rw[g1,e3,←List.append_assoc];unfold aO;rw[hlen e1]
  ·rw[e2]at g2;cases g2
 ·refine .inr ⟨e1,?_⟩;rcases hX with⟨g1,g2⟩|⟨_,g2,hno⟩
  ·rcases h with h|⟨g,lr,q1,q2,q3,q4⟩
   ·exact .inl (by rw[←g2,h])
   ·right;rw[g1];exact Y7 (nI hn) q1 q2 (by omega) q4
  ·right;rcases hno with h8|⟨m,l2,hm,rfl,hg⟩
   ·exact Y6 h8
   ·exact zfK hm hg
theorem mid_step{n D:Nat}{l1 lq la lb lc ld:List UInt8}{b1 ba bb bc be:Bool}{f ks:Fo}{x:UInt8}{s:ByteArray}{m:Int}(hD:0<D)(hm:je n D l1 b1 f lq false)(hf:f.fit)(hlt:f.len<n)(hs:s.size≤aP)(hn:aX m)
  (h1:(lq=x::la∧ba=false)∨(lq=[]∧la=[]∧ba=true)) (h2:(la=ax s++lb∧bb=ba)∨(bb=true∧¬jE la)) (h3:(lb=au m++lc∧bc=bb)∨(lb.length<8∧bc=true∧lc=[]))
  (h4:(be=false∧bc=false∧lc=aO ks++ld∧ks.high≤D-1)∨(be=true∧(bc=true∨¬iF (41-(D-1)) lc))) (hD2:D≤41):je n D l1 b1 (f.app (.cons x.toNat s m ks .nil)) ld be:=by
 rcases hm with⟨_,e2,e3,e4⟩|⟨e1,_⟩
 case inr=>cases e1
 have bad:be=true→(¬kz (41-D) lq)→je n D l1 b1 (f.app (.cons x.toNat s m ks .nil)) ld be:=fun hb hno=> .inr ⟨hb,.inr ⟨f,lq,hf,e3,hlt,hno⟩⟩;rcases h4 with⟨q1,q2,q3,q4⟩|⟨q1,hq⟩
 ·
  rcases h3 with⟨r1,r2⟩|⟨_,r2,_⟩
  ·rcases h2 with⟨s1,s2⟩|⟨s1,_⟩
   ·rcases h1 with⟨t1,t2⟩|⟨_,_,t2⟩
    ·refine .inl ⟨q1,e2,?_,?_⟩
     ·rw[e3,t1,s1,r1,q3,Il,EO];simp[iy,eX]
     ·rw[Fo.high_app];simp only[Fo.high];omega
    ·rw[←s2,←r2,q2]at t2;cases t2
   ·rw[←r2,q2]at s1;cases s1
  ·rw[q2]at r2;cases r2
 ·refine bad q1 ?_;rcases h1 with⟨t1,t2⟩|⟨t1,_,_⟩
  ·rw[t1];rcases h2 with⟨s1,s2⟩|⟨_,s1⟩
   ·rw[s1];rcases h3 with⟨r1,r2⟩|⟨r1,_,_⟩
    ·rw[r1];rcases hq with hq|hq
     ·rw[r2,s2,t2]at hq;cases hq
     ·refine xq hs hn ?_
      rwa [show 41-D+1=41-(D-1)by omega]
    ·exact xn hs r1
   ·exact xm s1
  ·exact Y9 (.inl t1)
theorem Q9(n D:Nat)(l1:List UInt8)(b1:Bool):je n D l1 b1 .nil l1 b1:=by
 cases b1
 ·exact .inl ⟨rfl,rfl,rfl,by simp[Fo.high]⟩
 ·exact .inr ⟨rfl,.inl rfl⟩
theorem WA{D B rb:Nat}{w:World}{l:List UInt8}{bd:Bool}(hD:D≤41)(hkids:0<D→∀(w:World) (l:List UInt8) (bd:Bool),fZ B rb w l bd→l.length≤lid→Calls Tryz.prog 289 #[.pointer (some ⟨rb,0,none⟩),.int .i64 ((D:Int)-1)] w (jk B rb (D-1) w l bd))
  (h:fZ B rb w l bd) (hl:l.length≤lid):Calls Tryz.prog 289 #[.pointer (some ⟨rb,0,none⟩),.int .i64 D] w (jk B rb D w l bd):=by
 have hrb:=h.lt;have Kr:=hide hkids;have HM:Hid (Calls Tryz.prog 287 #[.pointer (some ⟨rb,0,none⟩),.int .i64 25] w (jF B rb 25 w l bd)):=hide (NH (least:=25) h (by decide) (by decide));obtain⟨i0,hi,hz0,hz1,hz2⟩:=info_parts zig;have hll:l.length≤1099511627776:=hl;clear h hkids hl;by_cases hD0:D=0
 ·subst hD0;go_enter Tryz.func289,Tryz.ntmps289
  go_wp2_with(go_at_call 287;(with_reducible refine HM.out.mono ?_);rintro e w1 ⟨n,l1,b1,rfl,hn,hr,hs,hle,hx⟩;obtain⟨A1,c1,k0,k1,k2,k3,_,_,_⟩:=hr.cells;have HR:=hide hr;have HS:=hide hs;have HX:=hide hx;clear hr hs hx;rcases n with _|n)
  ·go_loopw [5,7] (fun v i wr=>v = .slice none 0 0∧i = .int .i64 0∧wr=w1) (fun _ _ _=>0)
   case atStart=>exact⟨rfl,rfl,rfl⟩
   case round =>
    obtain⟨rfl,rfl,rfl⟩:=hrel
    go_wp2_with fail
    go_ret;exact⟨.nil,l1,b1,none,0,rfl,trivial,trivial,aC _,by omega,HR.out,HS.out,hle,Oi (by decide) (Q9 0 0 l1 b1) trivial (fun _=>rfl) (HX.out.imp id fun h=>⟨rfl,h.2⟩)⟩
  ·go_ret;exact⟨.nil,l1,true,none,0,rfl,trivial,trivial,aC _,by omega,HR.out.setBad,HS.out.set 1 _,hle,.inr ⟨rfl,.inr (by rintro⟨f,_,_,h,_⟩;omega)⟩⟩
 ·have hD1:((D:Int) == 0)=false:=by rw[aK];omega
  go_enter Tryz.func289,Tryz.ntmps289
  go_wp2_with(go_at_call 287;(with_reducible refine HM.out.mono ?_);rintro e w1 ⟨n,l1,b1,rfl,hn,hr,hs,hle,hx⟩;have HR:=hide hr;have HS:=hide hs;have HX:=hide hx;clear hr hs hx;by_cases hn0:n=0)
  ·subst hn0
   go_loopw [5,7] (fun v i wr=>v = .slice none 0 0∧i = .int .i64 0∧wr=w1) (fun _ _ _=>0)
   case atStart=>exact⟨rfl,rfl,rfl⟩
   case round =>
    obtain⟨rfl,rfl,rfl⟩:=hrel
    go_wp2_with fail
    go_ret;exact⟨.nil,l1,b1,none,0,rfl,trivial,trivial,aC _,by omega,HR.out,HS.out,hle,Oi (by decide) (Q9 0 D l1 b1) trivial (fun _=>rfl) (HX.out.imp id fun h=>⟨rfl,h.2⟩)⟩
  ·go_loopw [5,7] (fun v i wr=>∃(f:Fo) (vs:List Value) (lq:List UInt8) (bq:Bool),i = .int .i64 f.len∧f.len≤n∧Hid (je n D l1 b1 f lq bq)∧Hid f.fit∧Hid (wr.ownsRow 0 218 4 v f.len vs)∧Hid (∀g,v.ownBlock=some g→w.heap.size≤g)∧
     Hid (dI (fun b=>w.heap.size≤b∧v.ownBlock≠some b) wr vs f)∧Hid (fZ B rb wr lq bq)∧Hid (Side rb w wr)∧lq.length≤l1.length) (fun _ i _=>(n-intOf i).toNat)
   case atStart=>exact⟨.nil,[],l1,b1,rfl,Nat.zero_le _,hide (Q9 n D l1 b1),hide trivial,hide (World.ownsRow_nil _ _ _ _),hide (by simp[Value.ownBlock]),hide rfl,HR,HS,aC _⟩
   case round =>
    obtain⟨f,vs,lq,bq,rfl,hle2,Hm,Hf,Ho,Hg,Hc,Hq,HS2,hlq⟩:=hrel;have hwr:=HS2.out.size;obtain⟨A1,c1,k0,k1,k2,k3,_,_,_⟩:=Hq.out.cells;clear k0 k2 k3;by_cases hlt:f.len<n
    ·cases bq
     ·go_wp2_with(first
       | (go_at_call 266;(with_reducible refine(NG Hq.out).mono ?_);rintro e w3 ⟨x,la,ba,rfl,hr3,hs3,hx3⟩;have HR3:=hide (hr3.alloc (.cells #[.int .u8 x.toNat,.string ⟨#[]⟩,.int .i64 0,.slice none 0 0] 218));have tJ:=hide hs3;have fD:=hide hx3;have hz3:=hs3.size;have hle3:la.length≤lq.length:=(by rcases hx3 with⟨e,_⟩|⟨_,e,_⟩<;>rw[e]<;>simp);clear hr3 hs3 hx3)
       | (go_at_call 267;(with_reducible refine(Iw HR3.out (by simp only[aP];omega)).mono ?_);rintro e w4 ⟨s,lb,bb,rfl,hsz,hr4,hs4,Cb,hx4⟩;obtain⟨ia4,ib4,ic4⟩:=hs4.box (N:=w3.heap.size) (by simp) (by omega);have HR4:=hide (hr4.setNew (a:=⟨w3.heap.size,1,none⟩) (by show rb<w3.heap.size;omega) (.string s));have QO:Hid (Side rb wr (w4.setCell ⟨w3.heap.size,1,none⟩ (.string s))):=hide (Side.setNew (Side.trans (Side.alloc tJ.out _) hs4) (a:=⟨w3.heap.size,1,none⟩) hz3 _);have qy:=hide hx4;clear hr4 hs4 hx4)
       | (go_at_call 268;(with_reducible refine(Iu HR4.out).mono ?_);rintro e w5 ⟨m,lc,bc,rfl,hm,WB,hs5,Kt,hx5⟩;obtain⟨ia5,ib5,ic5⟩:=hs5.box (N:=w3.heap.size) (by simp;omega) (by omega);have HR5:=hide (WB.setNew (a:=⟨w3.heap.size,2,none⟩) (by show rb<w3.heap.size;omega) (.int .i64 m));have HS5:Hid (Side rb wr (w5.setCell ⟨w3.heap.size,2,none⟩ (.int .i64 m))):=hide (Side.setNew (Side.trans QO.out hs5) (a:=⟨w3.heap.size,2,none⟩) hz3 _);have Ku:=hide hx5;have Rf:=hide hm;clear WB hs5 hx5 hm)
       | (go_at_call 289;(with_reducible refine(Kr.out (by omega) _ _ _ HR5.out (by simp only[lid];omega)).mono ?_);rintro e w6 ⟨ks,ld,be,KA,kc,rfl,hin,WC,hk1,hk2,Oj,hs6,Kv,hx6⟩;obtain⟨ia6,ib6,ic6⟩:=hs6.box (N:=w3.heap.size) (by simp;omega) (by omega);have HR6:=hide (Oj.setNew (a:=⟨w3.heap.size,3,none⟩) (by show rb<w3.heap.size;omega) (.slice KA ks.len kc));have Rh:Hid (Side rb wr (w6.setCell ⟨w3.heap.size,3,none⟩ (.slice KA ks.len kc))):=hide (Side.setNew (Side.trans HS5.out hs6) (a:=⟨w3.heap.size,3,none⟩) hz3 _);have DN:w5.heap.size≤w6.heap.size:=(by have:=hs6.size;simpa using this);have Em:=hide hx6;have Ol:=hide hin;have Hkf:=hide WC;clear Oj hs6 hx6 hin WC)
       | (at_builtin;refine MS _ rfl _ _ 39 rfl 218 i0 (.agg #[.int .u8 0,.string ByteArray.empty,.int .i64 0,.slice none 0 0]) 4 56 Tryz.underlying39 hi hz0 hz1 hz2 rfl (by decide) _ f.len vs rfl ((Qk Ho.out (fun g hg=>by have:=Hg.out g hg;omega) Rh.out).alloc _) ⟨w6.heap.size,0,none⟩ 1 1 [.int .u8 x.toNat,.string s,.int .i64 m,.slice KA ks.len kc] rfl rfl (by have:=Y8 (w6.setCell ⟨w3.heap.size,3,none⟩ (.slice KA ks.len kc)) (.int .u8 x.toNat) (.string s) (.int .i64 m) (.slice KA ks.len kc) 218;simpa using this) (by intro u hu;simp at hu;rcases hu with rfl|rfl|rfl|rfl<;>rfl) (by unfold maxLen;omega) (by omega) ?_))
      intro v' w8 hown hgrow hnil iZ;have hx256:=x.toNat_lt;have hS7:=Rh.out;have hsz7:=hS7.size;have P6:(w6.setCell ⟨w3.heap.size,3,none⟩ (.slice KA ks.len kc)).heap.size=w6.heap.size:=by simp[World.setCell]
      have hlen1:(f.app (.cons x.toNat s m ks .nil)).len=f.len+1:=by rw[Fo.len_app];rfl
      have hc3:dI (fun b=>w.heap.size≤b∧v'.ownBlock≠some b) w8 (vs++[.int .u8 x.toNat,.string s,.int .i64 m,.slice KA ks.len kc]) (f.app (.cons x.toNat s m ks .nil)):=by
       refine dI.snoc (by omega) hsz Rf.out hk1 hk2 ?_ ?_
       ·have hi2:bG (fun b=>w5.heap.size≤b∧b<w6.heap.size) w6 KA ks:=Ol.out.mono fun b hb hS=>⟨by simpa using hS,hb⟩;refine(hi2.keep (w':=w8) fun b hb=>?_).mono fun b _ hb=>⟨by omega,fun e=>?_⟩
        ·rw[hgrow.block b (by simp;omega) (fun e=>by have:=(Ho.out.lt b e.symm).2;omega),Below.heap_alloc _ _ b (by omega)];exact Below.heap_setCell _ _ _ b (by show b≠w3.heap.size;omega)
        ·rcases iZ with e2|e2
         ·have:=(Ho.out.lt b (e2▸e)).2;omega
         ·rw[e]at e2;injection e2 with e2;(try simp at e2);omega
       ·refine dI.keep (fun b hb hS=>?_) (fun b hb hS=>⟨hS.1,fun e=>?_⟩) Hc.out
        ·rw[hgrow.block b (by simp;omega) (fun e=>hS.2 e.symm),Below.heap_alloc _ _ b (by omega)];exact hS7.block b ⟨hb,by have:=hS.1;omega⟩
        ·rcases iZ with e2|e2
         ·exact hS.2 (e2▸e)
         ·rw[e]at e2;injection e2 with e2;(try simp at e2);omega
      have HC3:=hide hc3;have pW:=hide hown;have jS:=hide hgrow;have Hw:=hide iZ;clear hc3 hown hgrow hnil iZ hS7
      go_wp2
      refine⟨⟨f.app (.cons x.toNat s m ks .nil),_,ld,be,by rw[hlen1];simp,by rw[hlen1];omega,hide ?_,hide ?_,hide ?_,hide ?_,hide HC3.out,hide ?_,hide ?_,by omega⟩,by simp[intOf];omega⟩
      ·exact mid_step (by omega) Hm.out Hf.out hlt hsz Rf.out fD.out qy.out Ku.out Em.out hD
      ·exact Fo.fit_app.mpr ⟨Hf.out,by omega,hsz,Rf.out,aI hk1 hk2,Hkf.out,trivial⟩
      ·rw[hlen1];exact pW.out
      ·intro g hg;rcases Hw.out with e|e
       ·exact Hg.out g (e▸hg)
       ·rw[hg]at e;injection e with e;(try simp at e);omega
      ·exact(HR6.out.alloc _).grown jS.out (fun k hk=>by have:=Hg.out k hk;omega)
      ·exact Keep.grown (Side.alloc (Side.trans HS2.out Rh.out) _) jS.out (fun k hk=>hk.1) (fun k hk hp=>absurd hp.1 (by have:=Hg.out k hk;omega))
     ·go_wp2_with fail
      obtain⟨A2,c2,rfl,hrd,hc2,hc3⟩:=xk Ho.out Hg.out Hc.out rfl;go_ret;exact⟨f,lq,_,_,_,rfl,hrd,Hf.out,hc2,hc3,Hq.out,HS2.out,by omega,Oi (by simp only[aP];omega) Hm.out Hf.out (by first|(intro _;omega)|(intro h;cases h)) HX.out⟩
    ·go_wp2_with fail
     obtain⟨A2,c2,rfl,hrd,hc2,hc3⟩:=xk Ho.out Hg.out Hc.out rfl;go_ret;exact⟨f,lq,_,_,_,rfl,hrd,Hf.out,hc2,hc3,Hq.out,HS2.out,by omega,Oi (by simp only[aP];omega) Hm.out Hf.out (by first|(intro _;omega)|(intro h;cases h)) HX.out⟩
theorem zfM(D:Nat):D≤41→∀(B rb:Nat) (w:World) (l:List UInt8) (bd:Bool),fZ B rb w l bd→l.length≤lid→Calls Tryz.prog 289 #[.pointer (some ⟨rb,0,none⟩),.int .i64 D] w (jk B rb D w l bd):=by
 induction D with
 | zero=>exact fun hD B rb w l bd h hl=>WA hD (fun h=>absurd h (Nat.lt_irrefl _)) h hl
 | succ D ih =>
  intro hD B rb w l bd h hl;refine WA hD (fun _ w l bd h hl=>?_) h hl;have:=ih (by omega) B rb w l bd h hl;have e:(((D+1:Nat):Int)-1)=(D:Int):=by omega
  rw[e];exact this
theorem zgT{S:Nat→Prop}{x:Hh}{h:Hk}{w:World}(a:gB S w x h)(h1:h.old.length≤1099511627776)(h2:h.new.length≤1099511627776):
  Calls Tryz.prog 102 #[.agg #[.int .i64 h.at_,.slice x.oA h.old.length x.oc,.slice x.nA h.new.length x.nc]] w fun e w'=>∃y:Hh,e = .returned (.agg #[.int .i64 h.at_,.slice y.oA h.old.length y.oc,.slice y.nA h.new.length y.nc])∧eG (fun b=>w.heap.size≤b) w' y h∧Below w.heap.size w w':=by
 have H:=hide a;have hat:=hide a.at_;clear a;obtain⟨W0,hW0⟩:∃W0,W0=(w.alloc (.cells #[.int .i64 h.at_,.slice x.oA h.old.length x.oc,.slice x.nA h.new.length x.nc] 36)).alloc (.cells #[.int .i64 0,.slice none 0 0,.slice none 0 0] 36):=⟨_,rfl⟩;have hB0:dw w W0 [.int .i64 h.at_,.slice x.oA h.old.length x.oc,.slice x.nA h.new.length x.nc] [.int .i64 0,.slice none 0 0,.slice none 0 0]:=by rw[hW0];exact dw.start w #[.int .i64 h.at_,.slice x.oA h.old.length x.oc,.slice x.nA h.new.length x.nc] #[.int .i64 0,.slice none 0 0,.slice none 0 0] _ _
 have HW0:=hide hW0;clear hW0;go_enter Tryz.func102,Tryz.ntmps102
 go_upto_region 1 with fail
 change Code.wp _ _ _ _ ((w.alloc (.cells #[.int .i64 h.at_,.slice x.oA h.old.length x.oc,.slice x.nA h.new.length x.nc] 36)).alloc (.cells #[.int .i64 0,.slice none 0 0,.slice none 0 0] 36));rw[←HW0.out];clear HW0;have b0:=hB0.c 0 _ rfl;have b1:=hB0.c 1 _ rfl;have b2:=hB0.c 2 _ rfl;have HB0:=hide hB0;clear hB0
 go_cut [] (fun wx=>∃A1 c1,dw w wx [.int .i64 h.at_,.slice A1 h.old.length c1,.slice x.nA h.new.length x.nc] [.int .i64 0,.slice none 0 0,.slice none 0 0]∧bT (fun b=>w.heap.size+2≤b) wx A1 c1 h.old)
 case first =>
  go_wp2_with(go_at_call 54;(with_reducible refine(U3 (H.out.old.below HB0.out.b) h1).mono ?_);rintro e1 w1 ⟨A1,c1,rfl,hL,hB⟩;have hC:=HB0.out.call hB;have hz:=hC.z;have d0:=hC.c 0 _ rfl;have d1:=hC.c 1 _ rfl;have d2:=hC.c 2 _ rfl;have hf:=hC.fc;have HC:=hide hC;have HL:=hide hL;have vz:=hide hB;clear hC hL hB)
  go_meet
  exact⟨_,_,HC.out.put 1 [.slice A1 h.old.length c1] (by simp),((HL.out.mono (S':=fun b=>w.heap.size+2≤b) (fun b hb=>aI HB0.out.z hb)).keep fun b hb=>jG w.heap.size (by omega) [.slice A1 h.old.length c1] 1 w1)⟩
 case rest =>
 obtain⟨A1,c1,hB1,hl⟩:=hcut;clear HB0 b0 b1 b2;have jJ:=hide hl;clear hl
 go_upto_region 2 with fail
 have hl:=jJ.out;clear jJ;have b0:=hB1.c 0 _ rfl;have b1:=hB1.c 1 _ rfl;have b2:=hB1.c 2 _ rfl;have HB1:=hide hB1;clear hB1
 go_cut [] (fun wx=>∃A2 c2,dw w wx [.int .i64 h.at_,.slice A1 h.old.length c1,.slice A2 h.new.length c2] [.int .i64 0,.slice none 0 0,.slice none 0 0]∧bT (fun b=>w.heap.size+2≤b) wx A1 c1 h.old∧bT (fun b=>w.heap.size+2≤b) wx A2 c2 h.new)
 case first =>
  go_wp2_with(go_at_call 54;(with_reducible refine(U3 (H.out.new.below HB1.out.b) h2).mono ?_);rintro e1 w1 ⟨A2,c2,rfl,hL,hB⟩;have hC:=HB1.out.call hB;have hz:=hC.z;have d0:=hC.c 0 _ rfl;have d1:=hC.c 1 _ rfl;have d2:=hC.c 2 _ rfl;have hf:=hC.fc;have HC:=hide hC;have HL:=hide hL;have vz:=hide hB;clear hC hL hB)
  go_meet
  exact⟨_,_,HC.out.put 2 [.slice A2 h.new.length c2] (by simp),((hl.below vz.out).keep fun b hb=>jG w.heap.size (by omega) [.slice A2 h.new.length c2] 2 w1),((HL.out.mono (S':=fun b=>w.heap.size+2≤b) (fun b hb=>aI HB1.out.z hb)).keep fun b hb=>jG w.heap.size (by omega) [.slice A2 h.new.length c2] 2 w1)⟩
 case rest =>
 obtain⟨A2,c2,hB2,hl,hm⟩:=hcut;clear HB1 b0 b1 b2;have jJ:=hide hl;clear hl;have nK:=hide hm;clear hm
 go_upto_region 3 with fail
 have hl:=jJ.out;clear jJ;have hm:=nK.out;clear nK;have b0:=hB2.c 0 _ rfl;have b1:=hB2.c 1 _ rfl;have b2:=hB2.c 2 _ rfl;have r0:=hB2.r 0 _ rfl;have r1:=hB2.r 1 _ rfl;have r2:=hB2.r 2 _ rfl;have hfr:=hB2.fr;obtain⟨hR,uh⟩:=hB2.res [.int .i64 h.at_,.slice A1 h.old.length c1,.slice A2 h.new.length c2] rfl;have hz:=hB2.z;have hlr:=(hl.keep (w':=World.setCells wc (w.heap.size+1) 0 [.int .i64 h.at_,.slice A1 h.old.length c1,.slice A2 h.new.length c2]) fun b hb=>jG (w.heap.size+1) (by omega) _ _ _);have jJ:=hide hlr;clear hl hlr;have hmr:=(hm.keep (w':=World.setCells wc (w.heap.size+1) 0 [.int .i64 h.at_,.slice A1 h.old.length c1,.slice A2 h.new.length c2]) fun b hb=>jG (w.heap.size+1) (by omega) _ _ _);have nK:=hide hmr;clear hm hmr;have mZ:=hide uh;clear hB2 uh;obtain⟨wF,hF⟩:∃wF,wF=World.setCells wc (w.heap.size+1) 0 [.int .i64 h.at_,.slice A1 h.old.length c1,.slice A2 h.new.length c2]:=⟨_,rfl⟩;rw[←hF]at hR;rw[←hF]at jJ;rw[←hF]at nK;rw[←hF]at mZ;simp only[World.setCells,Nat.reduceAdd]at hF;have HR:=hide hR;have HF:=hide hF;clear hR hF
 go_wp2_with fail
 rw[←HF.out];clear HF;have q0:=HR.out 0 _ rfl;have q1:=HR.out 1 _ rfl;have q2:=HR.out 2 _ rfl;refine bodyPost_ret (v:= .agg #[.int .i64 h.at_,.slice A1 h.old.length c1,.slice A2 h.new.length c2]) ?_ rfl ⟨⟨A1,c1,A2,c2⟩,rfl,⟨hat.out,jJ.mono fun b hb=>by omega,nK.mono fun b hb=>by omega⟩,mZ⟩;simp only[results,Tryz.results102];go_simp
theorem zgU{S:Nat→Prop}{x:Eh}{p:Ed}{w:World}(a:dm S w x p)(h1:p.path.length≤1099511627776)(h2:p.old.cnt≤1099511627776)(h3:p.new.cnt≤1099511627776):
  Calls Tryz.prog 103 #[.agg #[.int .u8 p.kind,.slice x.pA p.path.length x.pc,.int .i64 p.at_,.int .i64 p.far,.string p.frm,.string p.to,.slice x.oA p.old.len x.oc,.slice x.nA p.new.len x.nc]] w fun e w'=>∃y:Eh,e = .returned (.agg #[.int .u8 p.kind,.slice y.pA p.path.length y.pc,.int .i64 p.at_,.int .i64 p.far,.string p.frm,.string p.to,.slice y.oA p.old.len y.oc,.slice y.nA p.new.len y.nc])∧fK (fun b=>w.heap.size≤b) w' y p∧Below w.heap.size w w':=by
 have H:=hide a;clear a;obtain⟨W0,hW0⟩:∃W0,W0=(w.alloc (.cells #[.int .u8 p.kind,.slice x.pA p.path.length x.pc,.int .i64 p.at_,.int .i64 p.far,.string p.frm,.string p.to,.slice x.oA p.old.len x.oc,.slice x.nA p.new.len x.nc] 41)).alloc (.cells #[.int .u8 0,.slice none 0 0,.int .i64 0,.int .i64 0,.string ⟨#[]⟩,.string ⟨#[]⟩,.slice none 0 0,.slice none 0 0] 41):=⟨_,rfl⟩;have hB0:dw w W0 [.int .u8 p.kind,.slice x.pA p.path.length x.pc,.int .i64 p.at_,.int .i64 p.far,.string p.frm,.string p.to,.slice x.oA p.old.len x.oc,.slice x.nA p.new.len x.nc] [.int .u8 0,.slice none 0 0,.int .i64 0,.int .i64 0,.string ⟨#[]⟩,.string ⟨#[]⟩,.slice none 0 0,.slice none 0 0]:=by rw[hW0];exact dw.start w #[.int .u8 p.kind,.slice x.pA p.path.length x.pc,.int .i64 p.at_,.int .i64 p.far,.string p.frm,.string p.to,.slice x.oA p.old.len x.oc,.slice x.nA p.new.len x.nc] #[.int .u8 0,.slice none 0 0,.int .i64 0,.int .i64 0,.string ⟨#[]⟩,.string ⟨#[]⟩,.slice none 0 0,.slice none 0 0] _ _
 have HW0:=hide hW0;clear hW0;go_enter Tryz.func103,Tryz.ntmps103
 go_upto_region 1 with fail
 change Code.wp _ _ _ _ ((w.alloc (.cells #[.int .u8 p.kind,.slice x.pA p.path.length x.pc,.int .i64 p.at_,.int .i64 p.far,.string p.frm,.string p.to,.slice x.oA p.old.len x.oc,.slice x.nA p.new.len x.nc] 41)).alloc (.cells #[.int .u8 0,.slice none 0 0,.int .i64 0,.int .i64 0,.string ⟨#[]⟩,.string ⟨#[]⟩,.slice none 0 0,.slice none 0 0] 41));rw[←HW0.out];clear HW0;have b0:=hB0.c 0 _ rfl;have b1:=hB0.c 1 _ rfl;have b2:=hB0.c 2 _ rfl;have b3:=hB0.c 3 _ rfl;have b4:=hB0.c 4 _ rfl;have b5:=hB0.c 5 _ rfl;have b6:=hB0.c 6 _ rfl;have b7:=hB0.c 7 _ rfl;have HB0:=hide hB0;clear hB0
 go_cut [] (fun wx=>∃A1 c1,dw w wx [.int .u8 p.kind,.slice A1 p.path.length c1,.int .i64 p.at_,.int .i64 p.far,.string p.frm,.string p.to,.slice x.oA p.old.len x.oc,.slice x.nA p.new.len x.nc] [.int .u8 0,.slice none 0 0,.int .i64 0,.int .i64 0,.string ⟨#[]⟩,.string ⟨#[]⟩,.slice none 0 0,.slice none 0 0]∧cZ (fun b=>w.heap.size+2≤b) wx A1 c1 p.path)
 case first =>
  go_wp2_with(go_at_call 167;(with_reducible refine(YJ (H.out.path.below HB0.out.b) h1).mono ?_);rintro e1 w1 ⟨A1,c1,rfl,hL,hB⟩;have hC:=HB0.out.call hB;have hz:=hC.z;have d0:=hC.c 0 _ rfl;have d1:=hC.c 1 _ rfl;have d2:=hC.c 2 _ rfl;have d3:=hC.c 3 _ rfl;have d4:=hC.c 4 _ rfl;have d5:=hC.c 5 _ rfl;have d6:=hC.c 6 _ rfl;have d7:=hC.c 7 _ rfl;have hf:=hC.fc;have HC:=hide hC;have HL:=hide hL;have vz:=hide hB;clear hC hL hB)
  go_meet
  exact⟨_,_,HC.out.put 1 [.slice A1 p.path.length c1] (by simp),((HL.out.mono (S':=fun b=>w.heap.size+2≤b) (fun b hb=>aI HB0.out.z hb)).keep fun b hb=>jG w.heap.size (by omega) [.slice A1 p.path.length c1] 1 w1)⟩
 case rest =>
 obtain⟨A1,c1,hB1,hl⟩:=hcut;clear HB0 b0 b1 b2 b3 b4 b5 b6 b7;have jJ:=hide hl;clear hl
 go_upto_region 2 with fail
 have hl:=jJ.out;clear jJ;have b0:=hB1.c 0 _ rfl;have b1:=hB1.c 1 _ rfl;have b2:=hB1.c 2 _ rfl;have b3:=hB1.c 3 _ rfl;have b4:=hB1.c 4 _ rfl;have b5:=hB1.c 5 _ rfl;have b6:=hB1.c 6 _ rfl;have b7:=hB1.c 7 _ rfl;have HB1:=hide hB1;clear hB1
 go_cut [] (fun wx=>∃A2 c2,dw w wx [.int .u8 p.kind,.slice A1 p.path.length c1,.int .i64 p.at_,.int .i64 p.far,.string p.frm,.string p.to,.slice A2 p.old.len c2,.slice x.nA p.new.len x.nc] [.int .u8 0,.slice none 0 0,.int .i64 0,.int .i64 0,.string ⟨#[]⟩,.string ⟨#[]⟩,.slice none 0 0,.slice none 0 0]∧cZ (fun b=>w.heap.size+2≤b) wx A1 c1 p.path∧bQ (fun b=>w.heap.size+2≤b) wx A2 c2 p.old)
 case first =>
  go_wp2_with(go_at_call 168;(with_reducible refine(We (H.out.old.below HB1.out.b) h2).mono ?_);rintro e1 w1 ⟨A2,c2,rfl,hL,hB⟩;have hC:=HB1.out.call hB;have hz:=hC.z;have d0:=hC.c 0 _ rfl;have d1:=hC.c 1 _ rfl;have d2:=hC.c 2 _ rfl;have d3:=hC.c 3 _ rfl;have d4:=hC.c 4 _ rfl;have d5:=hC.c 5 _ rfl;have d6:=hC.c 6 _ rfl;have d7:=hC.c 7 _ rfl;have hf:=hC.fc;have HC:=hide hC;have HL:=hide hL;have vz:=hide hB;clear hC hL hB)
  go_meet
  exact⟨_,_,HC.out.put 6 [.slice A2 p.old.len c2] (by simp),((hl.below vz.out).keep fun b hb=>jG w.heap.size (by omega) [.slice A2 p.old.len c2] 6 w1),((HL.out.mono (S':=fun b=>w.heap.size+2≤b) (fun b hb=>aI HB1.out.z hb)).keep fun b hb=>jG w.heap.size (by omega) [.slice A2 p.old.len c2] 6 w1)⟩
 case rest =>
 obtain⟨A2,c2,hB2,hl,hm⟩:=hcut;clear HB1 b0 b1 b2 b3 b4 b5 b6 b7;have jJ:=hide hl;clear hl;have nK:=hide hm;clear hm
 go_upto_region 3 with fail
 have hl:=jJ.out;clear jJ;have hm:=nK.out;clear nK;have b0:=hB2.c 0 _ rfl;have b1:=hB2.c 1 _ rfl;have b2:=hB2.c 2 _ rfl;have b3:=hB2.c 3 _ rfl;have b4:=hB2.c 4 _ rfl;have b5:=hB2.c 5 _ rfl;have b6:=hB2.c 6 _ rfl;have b7:=hB2.c 7 _ rfl;have HB2:=hide hB2;clear hB2
 go_cut [] (fun wx=>∃A3 c3,dw w wx [.int .u8 p.kind,.slice A1 p.path.length c1,.int .i64 p.at_,.int .i64 p.far,.string p.frm,.string p.to,.slice A2 p.old.len c2,.slice A3 p.new.len c3] [.int .u8 0,.slice none 0 0,.int .i64 0,.int .i64 0,.string ⟨#[]⟩,.string ⟨#[]⟩,.slice none 0 0,.slice none 0 0]∧cZ (fun b=>w.heap.size+2≤b) wx A1 c1 p.path∧bQ (fun b=>w.heap.size+2≤b) wx A2 c2 p.old∧bQ (fun b=>w.heap.size+2≤b) wx A3 c3 p.new)
 case first =>
  go_wp2_with(go_at_call 168;(with_reducible refine(We (H.out.new.below HB2.out.b) h3).mono ?_);rintro e1 w1 ⟨A3,c3,rfl,hL,hB⟩;have hC:=HB2.out.call hB;have hz:=hC.z;have d0:=hC.c 0 _ rfl;have d1:=hC.c 1 _ rfl;have d2:=hC.c 2 _ rfl;have d3:=hC.c 3 _ rfl;have d4:=hC.c 4 _ rfl;have d5:=hC.c 5 _ rfl;have d6:=hC.c 6 _ rfl;have d7:=hC.c 7 _ rfl;have hf:=hC.fc;have HC:=hide hC;have HL:=hide hL;have vz:=hide hB;clear hC hL hB)
  go_meet
  exact⟨_,_,HC.out.put 7 [.slice A3 p.new.len c3] (by simp),((hl.below vz.out).keep fun b hb=>jG w.heap.size (by omega) [.slice A3 p.new.len c3] 7 w1),((hm.below vz.out).keep fun b hb=>jG w.heap.size (by omega) [.slice A3 p.new.len c3] 7 w1),((HL.out.mono (S':=fun b=>w.heap.size+2≤b) (fun b hb=>aI HB2.out.z hb)).keep fun b hb=>jG w.heap.size (by omega) [.slice A3 p.new.len c3] 7 w1)⟩
 case rest =>
 obtain⟨A3,c3,hB3,hl,hm,hn⟩:=hcut;clear HB2 b0 b1 b2 b3 b4 b5 b6 b7;have jJ:=hide hl;clear hl;have nK:=hide hm;clear hm;have Kw:=hide hn;clear hn
 go_upto_region 4 with fail
 have hl:=jJ.out;clear jJ;have hm:=nK.out;clear nK;have hn:=Kw.out;clear Kw;have b0:=hB3.c 0 _ rfl;have b1:=hB3.c 1 _ rfl;have b2:=hB3.c 2 _ rfl;have b3:=hB3.c 3 _ rfl;have b4:=hB3.c 4 _ rfl;have b5:=hB3.c 5 _ rfl;have b6:=hB3.c 6 _ rfl;have b7:=hB3.c 7 _ rfl;have r0:=hB3.r 0 _ rfl;have r1:=hB3.r 1 _ rfl;have r2:=hB3.r 2 _ rfl;have r3:=hB3.r 3 _ rfl;have r4:=hB3.r 4 _ rfl;have r5:=hB3.r 5 _ rfl;have r6:=hB3.r 6 _ rfl;have r7:=hB3.r 7 _ rfl;have hfr:=hB3.fr;obtain⟨hR,uh⟩:=hB3.res [.int .u8 p.kind,.slice A1 p.path.length c1,.int .i64 p.at_,.int .i64 p.far,.string p.frm,.string p.to,.slice A2 p.old.len c2,.slice A3 p.new.len c3] rfl;have hz:=hB3.z;have hlr:=(hl.keep (w':=World.setCells wc (w.heap.size+1) 0 [.int .u8 p.kind,.slice A1 p.path.length c1,.int .i64 p.at_,.int .i64 p.far,.string p.frm,.string p.to,.slice A2 p.old.len c2,.slice A3 p.new.len c3]) fun b hb=>jG (w.heap.size+1) (by omega) _ _ _);have jJ:=hide hlr;clear hl hlr;have hmr:=(hm.keep (w':=World.setCells wc (w.heap.size+1) 0 [.int .u8 p.kind,.slice A1 p.path.length c1,.int .i64 p.at_,.int .i64 p.far,.string p.frm,.string p.to,.slice A2 p.old.len c2,.slice A3 p.new.len c3]) fun b hb=>jG (w.heap.size+1) (by omega) _ _ _);have nK:=hide hmr;clear hm hmr;have hnr:=(hn.keep (w':=World.setCells wc (w.heap.size+1) 0 [.int .u8 p.kind,.slice A1 p.path.length c1,.int .i64 p.at_,.int .i64 p.far,.string p.frm,.string p.to,.slice A2 p.old.len c2,.slice A3 p.new.len c3]) fun b hb=>jG (w.heap.size+1) (by omega) _ _ _);have Kw:=hide hnr;clear hn hnr;have mZ:=hide uh;clear hB3 uh;obtain⟨wF,hF⟩:∃wF,wF=World.setCells wc (w.heap.size+1) 0 [.int .u8 p.kind,.slice A1 p.path.length c1,.int .i64 p.at_,.int .i64 p.far,.string p.frm,.string p.to,.slice A2 p.old.len c2,.slice A3 p.new.len c3]:=⟨_,rfl⟩;rw[←hF]at hR;rw[←hF]at jJ;rw[←hF]at nK;rw[←hF]at Kw;rw[←hF]at mZ;simp only[World.setCells,Nat.reduceAdd]at hF;have HR:=hide hR;have HF:=hide hF;clear hR hF
 go_wp2_with fail
 rw[←HF.out];clear HF;have q0:=HR.out 0 _ rfl;have q1:=HR.out 1 _ rfl;have q2:=HR.out 2 _ rfl;have q3:=HR.out 3 _ rfl;have q4:=HR.out 4 _ rfl;have q5:=HR.out 5 _ rfl;have q6:=HR.out 6 _ rfl;have q7:=HR.out 7 _ rfl;refine bodyPost_ret (v:= .agg #[.int .u8 p.kind,.slice A1 p.path.length c1,.int .i64 p.at_,.int .i64 p.far,.string p.frm,.string p.to,.slice A2 p.old.len c2,.slice A3 p.new.len c3]) ?_ rfl ⟨⟨A1,c1,A2,c2,A3,c3⟩,rfl,⟨H.out.kind,jJ.mono fun b hb=>by omega,H.out.at_,H.out.far,H.out.frm,H.out.to,nK.mono fun b hb=>by omega,Kw.mono fun b hb=>by omega⟩,mZ⟩;simp only[results,Tryz.results103];go_simp
end
end Go.Proofs.YtjjaojnglnpgaaaGreatDoor
