/- Part 15 of what scriptBack_cardUpto rests on. -/
import Derived.Laws.EntriesVeiled
import Derived.Test.YtjjaojnglnpgaaaGreatDoorY13
import Derived.Test.YtjjaojnglnpgaaaGreatDoorY04
import Derived.Test.YtjjaojnglnpgaaaGreatDoorY02
import Derived.Test.YtjjaojnglnpgaaaGreatDoorY03
import Derived.Test.YtjjaojnglnpgaaaGreatDoorY07
import Derived.Test.YtjjaojnglnpgaaaGreatDoorY12
import Derived.Test.YtjjaojnglnpgaaaGreatDoorY01
import Derived.Test.YtjjaojnglnpgaaaGreatDoorY08
import Derived.Test.YtjjaojnglnpgaaaGreatDoorY00
set_option linter.unusedVariables false
set_option linter.unusedSimpArgs false
set_option maxHeartbeats 16000000
set_option maxRecDepth 1000000
namespace Go.Proofs.YtjjaojnglnpgaaaGreatDoor
section
open Go.RowKit
theorem Bl(w:World)(cs:List Value)(t:TypeId):(w.alloc (.cells cs.toArray t)).rangeAt w.heap.size 0 cs:=fun j v hv=>by
 rw[Lib.cell_of_heap (heap_alloc_new w _),Nat.zero_add]
 simpa using hv
theorem qc.inn{S:Nat→Prop}{w:World}{x:Hh}{h:Hk}{L:List Nat}(a:qc w x h L)(b:gW S w x h):gW (fun g=>g∈L) w x h:=by
 obtain⟨L1,L2,⟨h1,rfl⟩,⟨h2,rfl⟩,rfl⟩:=a;exact⟨b.at_,⟨Ez h1 fun g hg=>List.mem_append_left _ hg,b.old.2⟩,⟨Ez h2 fun g hg=>List.mem_append_right _ hg,b.new.2⟩,b.oc,b.nc⟩
theorem mf.inn{S:Nat→Prop}{w:World}{x:Eh}{e:Ed}{L:List Nat}(a:mf w x e L)(b:dD S w x e):dD (fun g=>g∈L) w x e:=by
 obtain⟨L1,L2,L3,⟨h1,rfl⟩,h2,h3,rfl⟩:=a;exact⟨b.kind,⟨Ez h1 fun g hg=>List.mem_append_left _ hg,b.path.2⟩,b.at_,b.far,b.frm,b.to,h2.fo fun g hg=>by simp[hg],h3.fo fun g hg=>by simp[hg],b.pc,b.oc,b.nc⟩
theorem fQ.inn{S:Nat→Prop}{w:World}{x:Ph}{p:Pt}{L:List Nat}(a:fQ w x p L)(b:aV S w x p):aV (fun g=>g∈L) w x p:=by
 obtain⟨L1,L2,h1,h2,rfl⟩:=a;have i1:=h1.inn b.hunk;have i2:=h2.inn b.edit;exact⟨b.kind,b.file,b.text,i1.mono fun g _ hg=>List.mem_append_left _ hg,i2.mono fun g _ hg=>List.mem_append_right _ hg⟩
theorem kV.inn{S:Nat→Prop}{w:World}{c:bJ}{x:Ph}{A:Option Addr}{n:Nat}{L:List Nat}(a:kV w c x A n L)(b:dw S w c x A n):dw (fun g=>g∈L) w c x A n:=by
 obtain⟨L1,L2,h1,⟨h2,rfl⟩,rfl⟩:=a;exact⟨b.kind,b.repo,b.frm,b.name,b.file,(h1.inn b.patch).mono fun g _ hg=>List.mem_append_left _ hg,⟨Ez h2 fun g hg=>List.mem_append_right _ hg,b.bytes.2⟩,b.cap⟩
structure dh where
 c:bJ
 x:Ph
 A:Option Addr
 n:Nat
def dh.cells(it:dh):List Value:=ak it.c it.x it.A it.n
def dh.ok(w:World)(it:dh)(L:List Nat):Prop:=kV w it.c it.x it.A it.n L∧dw (fun g=>g∈L) w it.c it.x it.A it.n
def fJ(w:World):List dh→List Nat→Prop
 | [],L=>L=[]
 | it::r,L=>∃L1 L2,it.ok w L1∧fJ w r L2∧L=L1++L2
section
variable {w w' : World} {l : List dh} {it : dh} {L L1 : List Nat}
theorem dh.ok.keep(h:it.ok w L)(hk :∀b∈L,w'.heap[b]?=w.heap[b]?):it.ok w' L:=⟨h.1.keep hk,h.2.keep hk⟩
theorem fJ.keep :∀{l:List dh} {L:List Nat},fJ w l L→(∀b∈L,w'.heap[b]?=w.heap[b]?)→fJ w' l L
 | [],_,h,_=>h
 | _::_,_,⟨L1,L2,h1,h2,e⟩,hk=>by
  subst e;exact⟨L1,L2,h1.keep fun b hb=>hk b (by simp[hb]),h2.keep fun b hb=>hk b (by simp[hb]),rfl⟩
theorem fJ.lt :∀{l:List dh} {L:List Nat},fJ w l L→∀b∈L,b<w.heap.size
 | [],_,h,b,hb=>by rw[show _=[]from h]at hb;cases hb
 | _::_,_,⟨L1,L2,h1,h2,e⟩,b,hb=>by
  subst e;rcases List.mem_append.1 hb with hb|hb
  ·exact h1.1.lt b hb
  ·exact h2.lt b hb
theorem fJ.snoc :∀{l:List dh} {L:List Nat},fJ w l L→it.ok w L1→fJ w (l++[it]) (L++L1)
 | [],_,h,h1=>by
  rw[show _=[]from h];exact⟨L1,[],h1,rfl,by simp⟩
 | _::_,_,⟨M1,M2,h1,h2,e⟩,h3=>by
  subst e;exact⟨M1,M2++L1,h1,h2.snoc h3,by simp⟩
end
def fB(M:Nat)(w:World)(v:Value)(l:List dh):Prop :=
 w.ownsRow M 46 20 v l.length (l.flatMap dh.cells)∧∃L,fJ w l L∧(ob v++L).Nodup∧∀b∈L,M≤b
theorem fB.nil(M:Nat)(w:World):fB M w (.slice none 0 0) []:=⟨World.ownsRow_nil _ _ _ _,[],rfl,by simp[ob,Value.ownBlock],fun b hb=>by cases hb⟩
theorem zap{w w':World}{B e size n:Nat}{v:Value}{xs:List Value}(h:w.ownsRow B e size v n xs)(hk :∀b∈ob v,w'.heap[b]?=w.heap[b]?):w'.ownsRow B e size v n xs :=
 ⟨h.1,by
  rcases h.2 with hn|⟨g,cap,cur,rfl,hb,hgg,rest⟩
  ·exact .inl hn
  ·exact .inr ⟨g,cap,cur,rfl,hb,(hk g (iV.2 rfl)).trans hgg,rest⟩⟩
theorem zag{w:World}{B e size n:Nat}{v:Value}{xs:List Value}(h:w.ownsRow B e size v n xs):∀b∈ob v,B≤b∧b<w.heap.size:=fun b hb=>h.lt b (iV.1 hb)
theorem fB.below{M:Nat}{w w':World}{v:Value}{l:List dh}(h:fB M w v l)(hb:Below w.heap.size w w'):fB M w' v l:=by
 obtain⟨h1,L,h2,h3,h4⟩:=h;exact⟨zap h1 fun b hb'=>hb.block b (zag h1 b hb').2,L,h2.keep fun b hb'=>hb.block b (h2.lt b hb'),h3,h4⟩
theorem fB.keep{M:Nat}{w w':World}{v:Value}{l:List dh}(h:fB M w v l)(hk :∀b,M≤b→w'.heap[b]?=w.heap[b]?):fB M w' v l:=by
 obtain⟨h1,L,h2,h3,h4⟩:=h;exact⟨zap h1 fun b hb'=>hk b (zag h1 b hb').1,L,h2.keep fun b hb'=>hk b (h4 b hb'),h3,h4⟩
theorem fB.mono{M M':Nat}{w:World}{v:Value}{l:List dh}(h:fB M w v l)(hm:M'≤M):fB M' w v l:=by
 obtain⟨⟨h0,h1⟩,L,h2,h3,h4⟩:=h;exact⟨⟨h0,h1.imp id fun⟨g,cap,cur,e1,hB,rest⟩=>⟨g,cap,cur,e1,aI hm hB,rest⟩⟩,L,h2,h3,fun b hb=>aI hm (h4 b hb)⟩
theorem pz{w:World}{b:Nat}{x y u v:Value}(h0:w.cell? ⟨b,0,none⟩=some x)(h1:w.cell? ⟨b,1,none⟩=some y):
  ((w.setCell ⟨b,0,none⟩ u).setCell ⟨b,1,none⟩ v).cell? ⟨b,0,none⟩=some u∧((w.setCell ⟨b,0,none⟩ u).setCell ⟨b,1,none⟩ v).cell? ⟨b,1,none⟩=some v:=by
 constructor
 ·rw[World.cell?_setCell_other _ _ _ _ (by simp)];exact World.cell?_setCell_same _ _ _ h0
 ·have h2:(w.setCell ⟨b,0,none⟩ u).cell? ⟨b,1,none⟩=some y:=(World.cell?_setCell_other _ _ _ _ (by simp)).trans h1;exact World.cell?_setCell_same _ _ _ h2
theorem J3(A:Option Addr)(n m c:Nat):ob (.slice A n c)=ob (.slice A m c):=by cases A<;>rfl
theorem fB.next{M:Nat}{w w3 w4:World}{v v':Value}{l:List dh}{it:dh}{L1:List Nat}(h:fB M w v l)(hb:Below w.heap.size w w3)(hM:M≤w.heap.size)(hi:it.ok w3 L1)(hn:L1.Nodup)(hl :∀b∈L1,w.heap.size≤b)
  (ho:w4.ownsRow M 46 20 v' (l.length+1) (l.flatMap dh.cells++it.cells)) (hg:w3.grownBy w4 v.ownBlock) (hw:jL w3 w4 v v' l.length 1):fB M w4 v' (l++[it]):=by
 obtain⟨h1,L,h2,h3,h4⟩:=h;have hL:=h2.lt;have hv :∀b∈ob v,b<w.heap.size:=fun b hb'=>(zag h1 b hb').2;have h2':fJ w3 l L:=h2.keep fun b hb'=>hb.block b (hL b hb');obtain⟨n1,n2,n3⟩:=List.nodup_append.1 h3;have hdis :∀b,b∈L→b∉ob v:=fun b hb1 hb2=>n3 b hb2 b hb1 rfl;have hk :∀b,b<w3.heap.size→b∉ob v→w4.heap[b]?=w3.heap[b]?:=fun b hb1 hb2=>hg.block b hb1 (by intro e;exact hb2 (iV.2 e.symm));have h5:fJ w4 (l++[it]) (L++L1):=(h2'.snoc hi).keep fun b hb'=>by
  rcases List.mem_append.1 hb' with hb'|hb'
  ·exact hk b (aH (hL b hb') hb.size) (hdis b hb')
  ·exact hk b (hi.1.lt b hb') (fun h=>by have:=hv b h;have:=hl b hb';omega)
 have n4:(L++L1).Nodup:=FV n2 hn hL hl;have hob:ob v'=ob v∨ob v'=[w3.heap.size]:=by
  rcases hw with⟨A,c,e1,e2⟩|⟨h,_⟩
  ·rw[e1,e2];exact .inl (J3 _ _ _ _)
  ·exact .inr (by unfold ob;rw[h];rfl)
 refine⟨by rw[aJ,List.flatMap_append,List.flatMap_singleton];exact ho,L++L1,h5,List.nodup_append.2 ⟨JD _,n4,fun a ha b hb' e=>?_⟩,fun b hb'=>?_⟩
 ·subst e;have hlt:a<w3.heap.size:=by
   rcases List.mem_append.1 hb' with h|h
   ·exact aH (hL a h) hb.size
   ·exact hi.1.lt a h
  rcases hob with e|e
  ·rw[e]at ha;rcases List.mem_append.1 hb' with h|h
   ·exact hdis a h ha
   ·have:=hv a ha;have:=hl a h;omega
  ·rw[e,List.mem_singleton]at ha;omega
 ·rcases List.mem_append.1 hb' with h|h
  ·exact h4 b h
  ·exact aI hM (hl b h)
theorem NV(c:bJ)(x:Ph)(A:Option Addr)(n:Nat):∀v∈ak c x A n,v.oneCell'=true:=by
 intro v hv;simp only[ak,List.mem_cons,List.not_mem_nil,or_false]at hv;rcases hv with rfl|rfl|rfl|rfl|rfl|rfl|rfl|rfl|rfl|rfl|rfl|rfl|rfl|rfl|rfl|rfl|rfl|rfl|rfl|rfl<;>rfl
theorem J4:(Tryz.prog.info? 46).map (fun i=>(i.zero,i.size,i.bytes))=some (some (.agg aY.toArray),20,320):=by kernel_rfl
theorem NW(w:World)(cs:List Value)(t:TypeId):(w.alloc (.cells cs.toArray t)).there w.heap.size 0 cs.length:=fun j hj=>by
 have hv:cs[j]?=some (cs[j]' hj):=List.getElem?_eq_getElem hj;refine⟨?_,by unfold World.frozen?;rw[heap_alloc_new];rfl⟩;rw[Bl w cs t j _ hv];rfl
theorem Tc(w:World)(t:TypeId)(zs cs:List Value)(hl:cs.length=zs.length):∃V,V=(w.alloc (.cells zs.toArray t)).setCells w.heap.size 0 cs.toArray.toList∧V.rangeAt w.heap.size 0 cs∧Below w.heap.size w V∧V.heap.size=w.heap.size+1 :=
 ⟨_,rfl,World.rangeAt_setCells_same _ _ 0 cs (by rw[hl];exact NW w zs t),(az w _).trans (Keep.below (xZ w.heap.size (P:=fun k=>k<w.heap.size) (Nat.lt_irrefl _) cs 0 _)),by rw[NC];simp⟩
def bQ(w:World)(s:ByteArray)(e:Ending)(w':World):Prop :=
 Below w.heap.size w w'∧(262144<s.size→e = .returned (.tuple #[.slice none 0 0,.agg #[.int .i64 3,.int .i64 0]]))∧
  (s.size≤262144→(∀i,rowsOf 0 (wordsOf 10 s) = .error i→e = .returned (.tuple #[.slice none 0 0,.agg #[.int .i64 210,.int .i64 i]]))∧
   ∀cs,rowsOf 0 (wordsOf 10 s) = .ok cs→∃l v,l.map (·.c)=cs∧e = .returned (.tuple #[v,.agg #[.int .i64 0,.int .i64 0]])∧fB w.heap.size w' v l)
end
section
open Go.RowKit
section
variable {S S' : Nat → Prop} {w w' : World} {A : Option Addr} {c : Nat}
end
end
section
open Go.RowKit
theorem XG{S:Nat→Prop}{A:Option Addr}{c:Nat}{l:List Int}{x:Int}{w:World}(hl:Rd S w A (l.map (.int .u8)))(hlen:l.length≤9223372036854775807):
  Calls Tryz.prog 171 #[.slice A l.length c,.int .u8 x] w fun e w'=>gm (x∈l) e∧w=w':=by
 have Hl:=hide hl;clear hl;go_enter Tryz.func171,Tryz.ntmps171
 go_wp2_with fail
 go_loop [8,5] (fun i _=>∃k:Nat,k≤l.length∧i = .int .i64 k∧Hid (∀j,j<k→l[j]?≠some x)) (fun i _=>l.length-(intOf i).toNat)
 case atStart=>exact⟨0,Nat.zero_le _,rfl,hide (fun j h=>absurd h (by omega))⟩
 case round =>
  obtain⟨k,hk,rfl,hall⟩:=hrel;by_cases hlt:k<l.length
  ·obtain⟨b,o,rfl,h1⟩:=Hl.out.at_ (j:=k) (by simpa using hlt);simp only[List.getElem_map]at h1;have E:=hide (show l[k]?=some l[k]by simp[hlt]);generalize l[k]=s at h1 E
   go_wp2_with fail
   ·have ht:(x == s)=true:=by assumption
    go_ret;exact⟨gm.yes (by omega) (List.mem_of_getElem? (E.out.trans (congrArg some (by simpa using ht:x=s).symm))),rfl⟩
   ·have ht:(x == s)=false:=by assumption
    go_round
    case rel=>exact⟨k+1,by omega,by go_num,hide (LW hall.out E.out (fun e=>by subst e;simp at ht))⟩
    case measure=>simp[intOf];omega
  ·go_wp2_with fail
   go_ret;exact⟨gm.no (LX hall.out hlt),rfl⟩
theorem NY{S:Nat→Prop}{A:Option Addr}{c:Nat}{l:List Int}{x:Int}{w:World}(hl:Rd S w A (l.map (.int .u8)))(hlen:l.length≤9223372036854775807):
  Calls Tryz.prog 113 #[.slice A l.length c,.int .u8 x] w fun e w'=>ag (x∈l) e∧w=w':=by
 have Hl:=hide hl;clear hl;go_enter Tryz.func113,Tryz.ntmps113
 go_wp2_with(go_at_call 171;refine(XG Hl.out hlen).mono ?_;rintro e w' ⟨⟨i,rfl,hlo,hi⟩,rfl⟩;have Hi:=hide hi;clear hi)
 go_ret;exact⟨ag.mk (by rw[←Hi.out];simp),rfl⟩
theorem in_1{w:World}{b p:Nat}{t:TypeId}{k a0:Int}(hb:w.heap[b]?=some (.cells #[.int .u8 a0] t))(hk:w.cell? ⟨p,0,none⟩=some (.int .u8 k)):
  Calls Tryz.prog 112 #[.slice (some ⟨b,0,none⟩) 1 1,.pointer (some ⟨p,0,none⟩)] w fun e w'=>e = .returned (.bool (decide (k∈[a0])))∧w'=w:=by
 have hr:Rd (fun _=>True) w (some ⟨b,0,none⟩) (([a0]:List Int).map (.int .u8)):= .inr ⟨_,0,rfl,trivial,fun j u hu=>by rw[Nat.zero_add,Lib.cell_of_heap hb];simpa using hu⟩;have HC:Hid (Calls Tryz.prog 113 #[.slice (some ⟨b,0,none⟩) 1 1,.int .u8 k] w fun e w'=>ag (k∈[a0]) e∧w=w'):=hide (NY (c:=1) hr (by simp));clear hr;go_enter Tryz.func112,Tryz.ntmps112
 go_wp2_with(go_at_call 113;(with_reducible refine HC.out.mono ?_);rintro e1 w1 ⟨⟨x,rfl,hx⟩,rfl⟩;have HX:=hide hx;clear hx)
 have hxd:=Bool.eq_iff_iff.2 (HX.out.trans decide_eq_true_iff.symm);subst hxd;go_ret;exact⟨rfl,rfl⟩
theorem NZ{w:World}{b p:Nat}{t:TypeId}{k a0 a1:Int}(hb:w.heap[b]?=some (.cells #[.int .u8 a0,.int .u8 a1] t))(hk:w.cell? ⟨p,0,none⟩=some (.int .u8 k)):
  Calls Tryz.prog 112 #[.slice (some ⟨b,0,none⟩) 2 2,.pointer (some ⟨p,0,none⟩)] w fun e w'=>e = .returned (.bool (decide (k∈[a0,a1])))∧w'=w:=by
 have hr:Rd (fun _=>True) w (some ⟨b,0,none⟩) (([a0,a1]:List Int).map (.int .u8)):= .inr ⟨_,0,rfl,trivial,fun j u hu=>by rw[Nat.zero_add,Lib.cell_of_heap hb];simpa using hu⟩;have HC:Hid (Calls Tryz.prog 113 #[.slice (some ⟨b,0,none⟩) 2 2,.int .u8 k] w fun e w'=>ag (k∈[a0,a1]) e∧w=w'):=hide (NY (c:=2) hr (by simp));clear hr;go_enter Tryz.func112,Tryz.ntmps112
 go_wp2_with(go_at_call 113;(with_reducible refine HC.out.mono ?_);rintro e1 w1 ⟨⟨x,rfl,hx⟩,rfl⟩;have HX:=hide hx;clear hx)
 have hxd:=Bool.eq_iff_iff.2 (HX.out.trans decide_eq_true_iff.symm);subst hxd;go_ret;exact⟨rfl,rfl⟩
theorem N7{w:World}{b p:Nat}{t:TypeId}{k a0 a1 a2:Int}(hb:w.heap[b]?=some (.cells #[.int .u8 a0,.int .u8 a1,.int .u8 a2] t))(hk:w.cell? ⟨p,0,none⟩=some (.int .u8 k)):
  Calls Tryz.prog 112 #[.slice (some ⟨b,0,none⟩) 3 3,.pointer (some ⟨p,0,none⟩)] w fun e w'=>e = .returned (.bool (decide (k∈[a0,a1,a2])))∧w'=w:=by
 have hr:Rd (fun _=>True) w (some ⟨b,0,none⟩) (([a0,a1,a2]:List Int).map (.int .u8)):= .inr ⟨_,0,rfl,trivial,fun j u hu=>by rw[Nat.zero_add,Lib.cell_of_heap hb];simpa using hu⟩;have HC:Hid (Calls Tryz.prog 113 #[.slice (some ⟨b,0,none⟩) 3 3,.int .u8 k] w fun e w'=>ag (k∈[a0,a1,a2]) e∧w=w'):=hide (NY (c:=3) hr (by simp));clear hr;go_enter Tryz.func112,Tryz.ntmps112
 go_wp2_with(go_at_call 113;(with_reducible refine HC.out.mono ?_);rintro e1 w1 ⟨⟨x,rfl,hx⟩,rfl⟩;have HX:=hide hx;clear hx)
 have hxd:=Bool.eq_iff_iff.2 (HX.out.trans decide_eq_true_iff.symm);subst hxd;go_ret;exact⟨rfl,rfl⟩
theorem lT{w:World}{a:Addr}{v:Value}{o:Obj}(h:w.cell? a=some v):(w.alloc o).cell? a=some v:=by
 rw[World.cell?_alloc_lt _ _ _ (block_lt_of_cell h)];exact h
theorem vW{w:World}{o:Obj}{b:Nat}(hb:b=w.heap.size):(w.alloc o).heap[b]?=some o:=by
 subst hb;exact heap_alloc_new w o
theorem pF(k:Nat)(w:World):Calls Tryz.prog 41 #[.int .u8 k] w fun e w'=>e = .returned (.tuple #[.bool (decide ((k:Int)∈[3,5])),.bool (decide ((k:Int)∈[2,3,4])),.bool (decide ((k:Int)∈[6])),.bool (decide ((k:Int)∈[2])),.bool (decide ((k:Int)∈[9]))])∧Below w.heap.size w w':=by
 have hk0:(w.alloc (.cells #[.int .u8 (k:Int)] 32)).cell? ⟨w.heap.size,0,none⟩=some (.int .u8 (k:Int)):=by rw[Lib.cell_of_heap (heap_alloc_new w _)];rfl
 have hmf :∀(fn:Fn) (first cap:Array Value) (w:World),(Instr.makeFunc fn first cap).run Tryz.prog w = .ok (.func fn first cap) w:=fun _ _ _ _=>rfl;go_enter Tryz.func41,Tryz.ntmps41
 go_wp2_with(first
  | (go_at_call 112;(with_reducible refine(NZ (a0:=3) (a1:=5) (vW (by simp)) (by(repeat (first|exact hk0|refine lT ?_)))).mono ?_);rintro e1 w1 ⟨rfl,rfl⟩)
  | (go_at_call 112;(with_reducible refine(N7 (a0:=2) (a1:=3) (a2:=4) (vW (by simp)) (by(repeat (first|exact hk0|refine lT ?_)))).mono ?_);rintro e1 w1 ⟨rfl,rfl⟩)
  | (go_at_call 112;(with_reducible refine(in_1 (a0:=6) (vW (by simp)) (by(repeat (first|exact hk0|refine lT ?_)))).mono ?_);rintro e1 w1 ⟨rfl,rfl⟩)
  | (go_at_call 112;(with_reducible refine(in_1 (a0:=2) (vW (by simp)) (by(repeat (first|exact hk0|refine lT ?_)))).mono ?_);rintro e1 w1 ⟨rfl,rfl⟩)
  | (go_at_call 112;(with_reducible refine(in_1 (a0:=9) (vW (by simp)) (by(repeat (first|exact hk0|refine lT ?_)))).mono ?_);rintro e1 w1 ⟨rfl,rfl⟩))
 refine bodyPost_ret (v:= .tuple #[.bool (decide ((k:Int)∈[3,5])),.bool (decide ((k:Int)∈[2,3,4])),.bool (decide ((k:Int)∈[6])),.bool (decide ((k:Int)∈[2])),.bool (decide ((k:Int)∈[9]))]) ?_ rfl ⟨rfl,?_⟩
 ·simp[results,Tryz.results41,go_sem]
 ·repeat (first|exact az _ _|refine Below.alloc ?_ (by simp<;>omega) _)
theorem Td{p:Nat}{k':Int}{ks:List Int}{all:Bool}(h:kindRow p=some (k',ks,all))(c:Nat):
  (∀m,many p=some m→c=m)↔(all=true∨c=ks.length):=by
 obtain⟨h1,rfl⟩:=CJ h;clear h;simp[dE]at h1;rcases h1 with⟨hp,rfl,rfl⟩|⟨hp,rfl,rfl⟩|⟨hp,rfl,rfl⟩|⟨hp,rfl,rfl⟩|⟨hp,rfl,rfl⟩|⟨hp,rfl,rfl⟩|⟨hp,rfl,rfl⟩|⟨hp,rfl,rfl⟩|⟨hp,rfl,rfl⟩|⟨hp,rfl,rfl⟩|⟨hp,rfl,rfl⟩|⟨hp,rfl,rfl⟩|⟨hp,rfl,rfl⟩|⟨hp,rfl,rfl⟩|⟨hp,rfl,rfl⟩|⟨hp,rfl,rfl⟩|⟨hp,rfl,rfl⟩|⟨hp,rfl,rfl⟩|⟨hp,rfl,rfl⟩|⟨hp,rfl,rfl⟩|⟨hp,rfl,rfl⟩|⟨hp,rfl,rfl⟩
 all_goals
  norm_cast at hp;subst hp;simp[many]
theorem N8{m p i k:Nat}{t:ByteArray}{n:Int}{ks r:Fo}:gy m p i (.cons k t n ks r)↔aX p k i∧fE m k t n ks∧gy m p (i+1) r:=by
 rw[gy,fE];grind
theorem nD{f:Fo}(h:0<f.len):∃k t n ks r,f = .cons k t n ks r:=by
 cases f with
 | nil=>simp[Fo.len]at h
 | cons k t n ks r=>exact⟨k,t,n,ks,r,rfl⟩
theorem pG{m:Nat}{ks:Fo}(h:gy m 7 0 ks)(hl:ks.len=2):∃k0 t0 n0 pI r,ks = .cons k0 t0 n0 pI r∧(k0=22∨(k0=26∧∃k1 t1 n1 zk r1,pI = .cons k1 t1 n1 zk r1)):=by
 obtain⟨k0,t0,n0,pI,r,rfl⟩:=nD (f:=ks) (by omega);refine⟨k0,t0,n0,pI,r,rfl,?_⟩;rw[N8]at h;obtain⟨⟨_,hf⟩,⟨_,hh,_⟩,_⟩:=h;simp at hf;rcases hf with rfl|rfl
 ·exact .inl rfl
 ·refine .inr ⟨rfl,nD ?_⟩;have:=hh.2.2.2 2 (by simp[many]);omega
theorem J5{m p i k:Nat}{t:ByteArray}{n:Int}{ks r f:Fo}(hd:f.drop i = .cons k t n ks r)(h:gy m p i (f.drop i)):aX p k i∧fE m k t n ks:=by
 rw[hd,N8]at h;exact⟨h.1,h.2.1⟩
theorem Tf{m p i k:Nat}{t:ByteArray}{n:Int}{ks r f:Fo}{P:Prop}(hd:f.drop i = .cons k t n ks r)(h:P↔gy m p i (f.drop i))(h1:aX p k i)(h2:fE m k t n ks):P↔gy m p (i+1) (f.drop (i+1)):=by
 rw[h,hd,N8,Fo.drop_succ hd];exact⟨fun h=>h.2.2,fun h=>⟨h1,h2,h⟩⟩
theorem J6{w w':World}{fb:Nat}{v:Value}(h:w.cell? ⟨fb,0,none⟩=some v)(hB:Below w.heap.size w w'):w'.cell? ⟨fb,0,none⟩=some v :=
 (hB.cell (p:=⟨fb,0,none⟩) (block_lt_of_cell h)).trans h
theorem XH(N:Nat):∀(S:Nat→Prop) (k:Nat) (t:ByteArray) (n:Int) (ks:Fo) (KA:Option Addr) (c fb deep:Nat) (d:Int) (w:World),ks.cnt<N→d=deep→k<256→t.size≤9223372036854775807→ay n→ks.len≤c→c≤9223372036854775807→
  bz S w KA ks→ax w→w.cell? ⟨fb,0,none⟩=some (.func (.func 282) #[] #[.pointer (some ⟨fb,0,none⟩)])→1≤deep→deep≤41→
  Calls Tryz.prog 282 #[.agg #[.int .u8 k,.string t,.int .i64 n,.slice KA ks.len c],.int .i64 d,.pointer (some ⟨fb,0,none⟩)] w fun e w'=>ag (fE (41-deep) k t n ks) e∧Below w.heap.size w w':=by
 induction N with
 | zero=>intro _ _ _ _ _ _ _ _ _ _ _ h;omega
 | succ N ih =>
  rintro S k t n ks KA c fb deep _ w hN rfl hk ht hn hl hc hks htab hfn hd1 hd2;have xU:=hide ih;have HN:=hide hN;have kS:=hide hks;have ai:Hid (ax w):=htab;have Ti:=hide hfn;have hfb:=block_lt_of_cell hfn;have Hn:=hide hn;clear ih hN hks htab hfn hn;cases hr:kindRow k with
  | none =>
   have H:=hide hr;clear hr;go_enter Tryz.func282,Tryz.ntmps282
   go_wp2_with(go_at_call 283;refine(SI H.out _).mono ?_;rintro e w1 ⟨rfl,hB⟩;have HB:=hide (aZ (az _ _) hB);obtain⟨hc1,hf1⟩:=fM hB;have hz:w.heap.size<w1.heap.size:=(by have:=hB.size;simp at this;omega);clear hB)
   go_ret;exact⟨ag.no (fun h=>by have:=(CO k).mp h.2.1.1;rw[H.out]at this;cases this),HB.out.alloc HB.out.size _⟩
  | some x =>
   obtain⟨k',kinds,all⟩:=x;have H:=hide hr;have hlen:kinds.length≤3:=(JU _ (CJ hr).1).2.2;clear hr;rcases Nat.lt_or_ge 40 deep with XI|XI
   ·have hd:decide (40<(deep:Int))=true:=by simp;omega
    go_enter Tryz.func282,Tryz.ntmps282
    go_wp2_with(go_at_call 283;refine(Dn H.out _).mono ?_;rintro e w1 ⟨A,rc,rfl,hrd,hB⟩;have HB:=hide (aZ (az _ _) hB);obtain⟨hc1,hf1⟩:=fM hB;have hz:w.heap.size<w1.heap.size:=(by have:=hB.size;simp at this;omega);clear hB hrd)
    go_ret;exact⟨ag.no (fun h=>by have:=h.1;omega),HB.out.alloc HB.out.size _⟩
   ·have hd:decide (40<(deep:Int))=false:=by simp;omega
    by_cases hm:all=true∨ks.len=kinds.length
    ·have HM:=hide ((Td H.out ks.len).mpr hm);rcases Bool.eq_false_or_eq_true all with hall|hall
     ·subst hall;clear hm;go_enter Tryz.func282,Tryz.ntmps282
      go_wp2_with(first
       | (go_at_call 283;refine(Dn H.out _).mono ?_;rintro e w1 ⟨A,rc,rfl,hrd,hB⟩;have HB:=hide (aZ (az _ _) hB);obtain⟨hc1,hf1⟩:=fM hB;have hz:w.heap.size<w1.heap.size:=(by have:=hB.size;simp at this;omega);clear hB hrd)
       | (go_at_call 284;refine(Na k t n KA ks.len c _ ((ai.out.below HB.out).below (az _ _)) hk ht Hn.out).mono ?_;rintro e w2 ⟨⟨_|_,rfl,hb⟩,hB⟩<;>(have Hb:=hide hb;have HB2:=hide (aZ HB.out (aZ (az _ _) hB));obtain⟨hc2,hf2⟩:=fM hB;have hz2:w1.heap.size<w2.heap.size:=(by have:=hB.size;simp at this;omega);clear hb hB)))
      ·go_ret;go_tidy;exact⟨ag.no (fun h=>absurd (Hb.out.mpr ⟨h.2.1.2.1,h.2.1.2.2.1⟩) (by decide)),HB2.out⟩
      ·have Hd:=hide (Hb.out.mp (by first|rfl|trivial));have hcw0:=hc2 w.heap.size 0 (by simp;omega);have hcw3:=hc2 w.heap.size 3 (by simp;omega);rw[World.cell?_alloc_past _ _ _ hz,hc1 _ _ (by simp),World.cell?_alloc_new]at hcw0 hcw3
       go_loopw [44,8,9] (fun i _ _ wr=>∃q:Nat,q≤ks.len∧i = .int .i64 q∧Below w2.heap.size w2 wr∧Hid (gy (41-deep-1) k 0 ks↔gy (41-deep-1) k q (ks.drop q))) (fun i _ _ _=>ks.len-(intOf i).toNat)
       case atStart=>exact⟨0,Nat.zero_le _,rfl,Below.refl _ _,hide Iff.rfl⟩
       case round =>
        obtain⟨i,hi,rfl,hB,hall⟩:=hrel;have hz3:w2.heap.size≤wr.heap.size:=hB.size;have HB3:=hide (aZ HB2.out hB);have hB0:=hide hB;have hw0:=(hB.cell (p:=⟨w.heap.size,0,none⟩) (by simp;omega)).trans hcw0;have hw3:=(hB.cell (p:=⟨w.heap.size,3,none⟩) (by simp;omega)).trans hcw3;have hwf:=J6 Ti.out HB3.out;simp only[List.getElem?_toArray,List.getElem?_cons_zero,List.getElem?_cons_succ]at hw0 hw3;by_cases hlt:i<ks.len
        ·obtain⟨b,o,nU,kc,k0,t0,n0,pI,r,rfl,hdf,c0,c1,c2,c3,e1,e2,e3,e4,e5,dR,hcnt⟩:=(kS.out.below HB3.out).at_ hlt;have iO:=hide dR;have qI:=hide hdf;have Hc:=hide hcnt;have jv:=hide e3;have hbw:b<wr.heap.size:=block_lt_of_cell c0;have hwr:w.heap.size<wr.heap.size:=by omega
         have hfr:fb<wr.heap.size:=by omega
         clear hB dR hdf hcnt e3
         go_wp2_with(first
          | (go_at_call 285;refine(SL k k0 i _).mono ?_;rintro e w4 ⟨⟨_|_,rfl,hb⟩,hB⟩<;>(have Hf:=hide hb;have HB4:=hide (aZ (az _ _) hB);obtain⟨hc4,hf4⟩:=fM hB;have jH:wr.heap.size<w4.heap.size:=(by have:=hB.size;simp at this;omega);clear hb hB))
          | (go_at_call 282;refine(xU.out S k0 t0 n0 pI nU kc fb (deep+1) _ _ (by have:=Hc.out;have:=HN.out;omega) (by omega) e1 e2 jv.out e4 e5 (iO.out.below HB4.out) (ai.out.below (aZ HB3.out HB4.out)) (J6 hwf HB4.out) (by omega) (by omega)).mono ?_;rintro e w5 ⟨⟨_|_,rfl,hb⟩,hB⟩<;>(have Hr:=hide hb;have dV:=hide (aZ HB4.out hB);clear hb hB)))
         ·go_ret;exact⟨ag.no (fun h=>absurd (Hf.out.mpr (J5 qI.out (hall.out.mp h.2.2.1)).1) (by decide)),aZ HB3.out HB4.out⟩
         ·go_ret;exact⟨ag.no (fun h=>absurd (Hr.out.mpr (J5 qI.out (hall.out.mp h.2.2.1)).2) (by decide)),aZ HB3.out dV.out⟩
         ·go_roundw
          case rel=>exact⟨i+1,by omega,by go_num,(by have h3:=HB3.out;exact aZ hB0.out dV.out),hide (Tf qI.out hall.out (Hf.out.mp (by first|rfl|trivial)) (Hr.out.mp (by first|rfl|trivial)))⟩
          case measure=>simp[intOf];omega
        ·have hfo:gy (41-deep-1) k 0 ks:=hall.out.mpr (by rw[Fo.drop_len _ _ (by omega)];exact trivial);have jO:=hide hfo;by_cases h7:k=7
         ·subst h7;obtain⟨k0,t0,n0,pI,r,rfl,hset⟩:=pG hfo (HM.out 2 (by simp[many]));clear hfo hB;obtain⟨b,o,XJ,c',rfl,hS,c0,c1,c2,c3,e1,e2,e3,e4,e5,Dt,hr⟩:=(kS.out.below HB3.out);have hl0:0<(Fo.cons k0 t0 n0 pI r).len:=by simp[Fo.len]
          rcases hset with rfl|⟨rfl,k1,t1,n1,zk,r1,rfl⟩
          ·go_wp2_with fail
           all_goals
            go_ret;go_tidy;exact⟨ag.mk (iff_of_true (by first|rfl|simp) ⟨by omega,⟨(CO _).mpr (by rw[H.out];rfl),Hd.out.1,Hd.out.2,HM.out⟩,jO.out,fun h=>by first|(exact absurd h (by assumption))|trivial|rfl⟩),HB3.out⟩
          ·obtain⟨b1,o1,XK,c1',rfl,hS1,d0,d1,d2,d3,f1,f2,f3,f4,f5,N9,hr1⟩:=Dt;have hl1:0<(Fo.cons k1 t1 n1 zk r1).len:=by simp[Fo.len]
           go_wp2_with fail
           all_goals
            go_ret;go_tidy;have hcore:1≤41-deep∧kP 7 t n (Fo.cons 26 t0 n0 (Fo.cons k1 t1 n1 zk r1) r).len∧gy (41-deep-1) 7 0 (Fo.cons 26 t0 n0 (Fo.cons k1 t1 n1 zk r1) r):=⟨by omega,⟨(CO _).mpr (by rw[H.out];rfl),Hd.out.1,Hd.out.2,HM.out⟩,jO.out⟩;refine⟨ag.mk ⟨fun hb=>⟨hcore.1,hcore.2.1,hcore.2.2,fun _=>?_⟩,fun h=>?_⟩,HB3.out⟩
            ·have hb':(k1:Int)=22:=by simpa using hb
             show k1=22;omega
            ·have h':k1=22:=h.2.2.2 rfl;subst h';rfl
         ·have XL:((k:Int) != 7)=true:=by simp;omega
          clear hfo hB
          go_wp2_with fail
          all_goals
           go_ret;go_tidy;exact⟨ag.mk (iff_of_true (by first|rfl|simp) ⟨by omega,⟨(CO _).mpr (by rw[H.out];rfl),Hd.out.1,Hd.out.2,HM.out⟩,jO.out,fun h=>by first|(exact absurd h (by assumption))|trivial|rfl⟩),HB3.out⟩
     ·subst hall;have hq:((ks.len:Int) != (kinds.length:Int))=false:=by simp at hm;simp;omega
      clear hm;go_enter Tryz.func282,Tryz.ntmps282
      go_wp2_with(first
       | (go_at_call 283;refine(Dn H.out _).mono ?_;rintro e w1 ⟨A,rc,rfl,hrd,hB⟩;have HB:=hide (aZ (az _ _) hB);obtain⟨hc1,hf1⟩:=fM hB;have hz:w.heap.size<w1.heap.size:=(by have:=hB.size;simp at this;omega);clear hB hrd)
       | (go_at_call 284;refine(Na k t n KA ks.len c _ ((ai.out.below HB.out).below (az _ _)) hk ht Hn.out).mono ?_;rintro e w2 ⟨⟨_|_,rfl,hb⟩,hB⟩<;>(have Hb:=hide hb;have HB2:=hide (aZ HB.out (aZ (az _ _) hB));obtain⟨hc2,hf2⟩:=fM hB;have hz2:w1.heap.size<w2.heap.size:=(by have:=hB.size;simp at this;omega);clear hb hB)))
      ·go_ret;go_tidy;exact⟨ag.no (fun h=>absurd (Hb.out.mpr ⟨h.2.1.2.1,h.2.1.2.2.1⟩) (by decide)),HB2.out⟩
      ·have Hd:=hide (Hb.out.mp (by first|rfl|trivial));have hcw0:=hc2 w.heap.size 0 (by simp;omega);have hcw3:=hc2 w.heap.size 3 (by simp;omega);rw[World.cell?_alloc_past _ _ _ hz,hc1 _ _ (by simp),World.cell?_alloc_new]at hcw0 hcw3
       go_loopw [44,8,9] (fun i _ _ wr=>∃q:Nat,q≤ks.len∧i = .int .i64 q∧Below w2.heap.size w2 wr∧Hid (gy (41-deep-1) k 0 ks↔gy (41-deep-1) k q (ks.drop q))) (fun i _ _ _=>ks.len-(intOf i).toNat)
       case atStart=>exact⟨0,Nat.zero_le _,rfl,Below.refl _ _,hide Iff.rfl⟩
       case round =>
        obtain⟨i,hi,rfl,hB,hall⟩:=hrel;have hz3:w2.heap.size≤wr.heap.size:=hB.size;have HB3:=hide (aZ HB2.out hB);have hB0:=hide hB;have hw0:=(hB.cell (p:=⟨w.heap.size,0,none⟩) (by simp;omega)).trans hcw0;have hw3:=(hB.cell (p:=⟨w.heap.size,3,none⟩) (by simp;omega)).trans hcw3;have hwf:=J6 Ti.out HB3.out;simp only[List.getElem?_toArray,List.getElem?_cons_zero,List.getElem?_cons_succ]at hw0 hw3;by_cases hlt:i<ks.len
        ·obtain⟨b,o,nU,kc,k0,t0,n0,pI,r,rfl,hdf,c0,c1,c2,c3,e1,e2,e3,e4,e5,dR,hcnt⟩:=(kS.out.below HB3.out).at_ hlt;have iO:=hide dR;have qI:=hide hdf;have Hc:=hide hcnt;have jv:=hide e3;have hbw:b<wr.heap.size:=block_lt_of_cell c0;have hwr:w.heap.size<wr.heap.size:=by omega
         have hfr:fb<wr.heap.size:=by omega
         clear hB dR hdf hcnt e3
         go_wp2_with(first
          | (go_at_call 285;refine(SL k k0 i _).mono ?_;rintro e w4 ⟨⟨_|_,rfl,hb⟩,hB⟩<;>(have Hf:=hide hb;have HB4:=hide (aZ (az _ _) hB);obtain⟨hc4,hf4⟩:=fM hB;have jH:wr.heap.size<w4.heap.size:=(by have:=hB.size;simp at this;omega);clear hb hB))
          | (go_at_call 282;refine(xU.out S k0 t0 n0 pI nU kc fb (deep+1) _ _ (by have:=Hc.out;have:=HN.out;omega) (by omega) e1 e2 jv.out e4 e5 (iO.out.below HB4.out) (ai.out.below (aZ HB3.out HB4.out)) (J6 hwf HB4.out) (by omega) (by omega)).mono ?_;rintro e w5 ⟨⟨_|_,rfl,hb⟩,hB⟩<;>(have Hr:=hide hb;have dV:=hide (aZ HB4.out hB);clear hb hB)))
         ·go_ret;exact⟨ag.no (fun h=>absurd (Hf.out.mpr (J5 qI.out (hall.out.mp h.2.2.1)).1) (by decide)),aZ HB3.out HB4.out⟩
         ·go_ret;exact⟨ag.no (fun h=>absurd (Hr.out.mpr (J5 qI.out (hall.out.mp h.2.2.1)).2) (by decide)),aZ HB3.out dV.out⟩
         ·go_roundw
          case rel=>exact⟨i+1,by omega,by go_num,(by have h3:=HB3.out;exact aZ hB0.out dV.out),hide (Tf qI.out hall.out (Hf.out.mp (by first|rfl|trivial)) (Hr.out.mp (by first|rfl|trivial)))⟩
          case measure=>simp[intOf];omega
        ·have hfo:gy (41-deep-1) k 0 ks:=hall.out.mpr (by rw[Fo.drop_len _ _ (by omega)];exact trivial);have jO:=hide hfo;by_cases h7:k=7
         ·subst h7;obtain⟨k0,t0,n0,pI,r,rfl,hset⟩:=pG hfo (HM.out 2 (by simp[many]));clear hfo hB;obtain⟨b,o,XJ,c',rfl,hS,c0,c1,c2,c3,e1,e2,e3,e4,e5,Dt,hr⟩:=(kS.out.below HB3.out);have hl0:0<(Fo.cons k0 t0 n0 pI r).len:=by simp[Fo.len]
          rcases hset with rfl|⟨rfl,k1,t1,n1,zk,r1,rfl⟩
          ·go_wp2_with fail
           all_goals
            go_ret;go_tidy;exact⟨ag.mk (iff_of_true (by first|rfl|simp) ⟨by omega,⟨(CO _).mpr (by rw[H.out];rfl),Hd.out.1,Hd.out.2,HM.out⟩,jO.out,fun h=>by first|(exact absurd h (by assumption))|trivial|rfl⟩),HB3.out⟩
          ·obtain⟨b1,o1,XK,c1',rfl,hS1,d0,d1,d2,d3,f1,f2,f3,f4,f5,N9,hr1⟩:=Dt;have hl1:0<(Fo.cons k1 t1 n1 zk r1).len:=by simp[Fo.len]
           go_wp2_with fail
           all_goals
            go_ret;go_tidy;have hcore:1≤41-deep∧kP 7 t n (Fo.cons 26 t0 n0 (Fo.cons k1 t1 n1 zk r1) r).len∧gy (41-deep-1) 7 0 (Fo.cons 26 t0 n0 (Fo.cons k1 t1 n1 zk r1) r):=⟨by omega,⟨(CO _).mpr (by rw[H.out];rfl),Hd.out.1,Hd.out.2,HM.out⟩,jO.out⟩;refine⟨ag.mk ⟨fun hb=>⟨hcore.1,hcore.2.1,hcore.2.2,fun _=>?_⟩,fun h=>?_⟩,HB3.out⟩
            ·have hb':(k1:Int)=22:=by simpa using hb
             show k1=22;omega
            ·have h':k1=22:=h.2.2.2 rfl;subst h';rfl
         ·have XL:((k:Int) != 7)=true:=by simp;omega
          clear hfo hB
          go_wp2_with fail
          all_goals
           go_ret;go_tidy;exact⟨ag.mk (iff_of_true (by first|rfl|simp) ⟨by omega,⟨(CO _).mpr (by rw[H.out];rfl),Hd.out.1,Hd.out.2,HM.out⟩,jO.out,fun h=>by first|(exact absurd h (by assumption))|trivial|rfl⟩),HB3.out⟩
    ·have HM:=hide (fun h=>hm ((Td H.out ks.len).mp h));obtain⟨rfl,hq0⟩:all=false∧ks.len≠kinds.length:=by simpa using hm
     have hq:((ks.len:Int) != (kinds.length:Int))=true:=by simp;omega
     clear hm hq0;go_enter Tryz.func282,Tryz.ntmps282
     go_wp2_with(first
      | (go_at_call 283;refine(Dn H.out _).mono ?_;rintro e w1 ⟨A,rc,rfl,hrd,hB⟩;have HB:=hide (aZ (az _ _) hB);obtain⟨hc1,hf1⟩:=fM hB;have hz:w.heap.size<w1.heap.size:=(by have:=hB.size;simp at this;omega);clear hB hrd)
      | (go_at_call 284;refine(Na k t n KA ks.len c _ ((ai.out.below HB.out).below (az _ _)) hk ht Hn.out).mono ?_;rintro e w2 ⟨⟨_|_,rfl,hb⟩,hB⟩<;>(have Hb:=hide hb;have HB2:=hide (aZ HB.out (aZ (az _ _) hB));obtain⟨hc2,hf2⟩:=fM hB;have hz2:w1.heap.size<w2.heap.size:=(by have:=hB.size;simp at this;omega);clear hb hB)))
     all_goals
      go_ret;go_tidy;exact⟨ag.no (fun h=>HM.out h.2.1.2.2.2),HB2.out⟩
theorem qW{S:Nat→Prop}{k:Nat}{t:ByteArray}{n:Int}{ks:Fo}{KA:Option Addr}{c:Nat}{w:World}(hk:k<256)(ht:t.size≤9223372036854775807)(hn:ay n)(hl:ks.len≤c)(hc:c≤9223372036854775807)
  (hks:bz S w KA ks) (htab:ax w):
  Calls Tryz.prog 259 #[.agg #[.int .u8 k,.string t,.int .i64 n,.slice KA ks.len c]] w fun e w'=>ag (fE 40 k t n ks) e∧Below w.heap.size w w':=by
 have kS:=hide hks;have ai:Hid (ax w):=htab;have Hn:=hide hn;clear hks htab hn;have hmf :∀(fn:Fn) (first cap:Array Value) (w:World),(Instr.makeFunc fn first cap).run Tryz.prog w = .ok (.func fn first cap) w:=fun _ _ _ _=>rfl;go_enter Tryz.func259,Tryz.ntmps259
 go_wp2_with(go_at_call 282;refine(XH (ks.cnt+1) S k t n ks KA c _ 1 _ _ (by omega) (by omega) hk ht Hn.out hl hc (kS.out.below (fO _ _)) (ai.out.below (fO _ _)) (by simp) (by omega) (by omega)).mono ?_;rintro e w1 ⟨⟨b,rfl,hb⟩,hB⟩;have Hb:=hide hb;have HB:=hide (Am hB);clear hb hB)
 go_ret;exact⟨ag.mk Hb.out,HB.out⟩
theorem jc(n:Int)(w:World)(hn:ay n):Calls Tryz.prog 218 #[.int .i64 n] w fun e w'=>ag (Number n) e∧w'=w:=by
 unfold ay at hn;go_enter Tryz.func218,Tryz.ntmps218
 go_wp2_with fail
 all_goals(go_ret;go_tidy;exact⟨ag.mk (by unfold Number;grind),rfl⟩)
theorem XM(n:Int)(w:World)(hn:ay n):Calls Tryz.prog 217 #[.int .i64 n] w fun e w'=>ag (¬Number n) e∧w'=w:=by
 have Hn:=hide hn;clear hn;go_enter Tryz.func217,Tryz.ntmps217
 go_wp2_with(go_at_call 218;refine(jc n _ Hn.out).mono ?_;rintro e w1 ⟨⟨b,rfl,hb⟩,rfl⟩;have Hb:=hide hb;clear hb)
 go_ret;exact⟨ag.mk (by rw[←Hb.out];simp),rfl⟩
theorem XN{S:Nat→Prop}{A:Option Addr}{c:Nat}{l:List Int}{w:World}(hl:IntsIn S w A l):
  Calls Tryz.prog 254 #[.slice A l.length c,.func (.func 217) #[] #[]] w fun e w'=>(∃r:Int,e = .returned (.int .i64 r)∧ay r∧(0≤r↔∃n∈l,¬Number n))∧w'=w:=by
 have Hl:=hide hl;have hlen:l.length≤9223372036854775807:=hl.2.2;clear hl;go_enter Tryz.func254,Tryz.ntmps254
 go_wp2_with fail
 go_loopw [8,5] (fun i _ wr=>∃q:Nat,q≤l.length∧i = .int .i64 q∧wr=w∧Hid (∀j,(h:j<l.length)→j<q→Number l[j])) (fun i _ _=>l.length-(intOf i).toNat)
 case atStart=>exact⟨0,Nat.zero_le _,rfl,rfl,hide (by omega)⟩
 case round =>
  obtain⟨i,hi,rfl,rfl,hall⟩:=hrel;by_cases hlt:i<l.length
  ·obtain⟨b,o,rfl,hc⟩:=Hl.out.1.at_ (j:=i) (by simpa using hlt);simp only[List.getElem_map]at hc;have hi64:=hide (Hl.out.2.1 l[i] (List.getElem_mem hlt))
   go_wp2_with(go_at_call 217;refine(XM l[i] _ hi64.out).mono ?_;rintro e w1 ⟨⟨_|_,rfl,hb⟩,rfl⟩<;>(have Hb:=hide hb;clear hb))
   ·go_roundw
    case rel=>exact⟨i+1,by omega,by go_num,(by first|rfl|trivial),hide fun j hj hji=>if h:j=i then by subst h;exact Classical.byContradiction fun hn=>absurd (Hb.out.mpr hn) (by decide)else hall.out j hj (by omega)⟩
    case measure=>simp[intOf];omega
   ·go_ret;exact⟨⟨i,rfl,by unfold ay;omega,iff_of_true (by omega) ⟨l[i],List.getElem_mem hlt,Hb.out.mp (by first|rfl|trivial)⟩⟩,rfl⟩
  ·go_wp2_with fail
   go_ret;refine⟨⟨-1,rfl,by unfold ay;omega,iff_of_false (by omega) ?_⟩,rfl⟩;rintro⟨n,hn,hnn⟩;obtain⟨j,hj,rfl⟩:=List.getElem_of_mem hn;exact hnn (hall.out j hj (by omega))
theorem pJ{S:Nat→Prop}{A:Option Addr}{c:Nat}{l:List Int}{w:World}(hl:IntsIn S w A l):
  Calls Tryz.prog 216 #[.slice A l.length c,.func (.func 217) #[] #[]] w fun e w'=>ag (∃n∈l,¬Number n) e∧w'=w:=by
 have Hl:=hide hl;clear hl;go_enter Tryz.func216,Tryz.ntmps216
 go_wp2_with(go_at_call 254;refine(XN Hl.out).mono ?_;rintro e w1 ⟨⟨r,rfl,hr,hb⟩,rfl⟩;have Hb:=hide hb;clear hb)
 go_ret;exact⟨ag.mk (by rw[←Hb.out];simp),rfl⟩
theorem gY{S:Nat→Prop}{A:Option Addr}{c:Nat}{f:Fo}{w:World}(hf:bz S w A f)(hl:f.len≤c)(hc:c≤9223372036854775807)(htab:ax w):
  Calls Tryz.prog 220 #[.slice A f.len c] w fun e w'=>ag (bU f) e∧Below w.heap.size w w':=by
 have ai:Hid (ax w):=htab;by_cases h1:f.len=1
 ·obtain⟨k,t,n,ks,r,rfl⟩:=nD (f:=f) (by omega);have hr:r = .nil:=by cases r with
   | nil=>rfl
   | cons=>simp[Fo.len]at h1
  subst hr;obtain⟨b,o,KA,c',rfl,hS,c0,c1,c2,c3,e1,e2,e3,e4,e5,hks,_⟩:=hf;have kS:=hide hks;have He:=hide e3;have hq:(((Fo.cons k t n ks .nil).len:Int) == 1)=true:=by simp[Fo.len]
  have hl0:0<(Fo.cons k t n ks .nil).len:=by simp[Fo.len]
  clear hks htab h1 e3;go_enter Tryz.func220,Tryz.ntmps220
  go_wp2_with(go_at_call 259;refine(qW e1 e2 He.out e4 e5 kS.out ai.out).mono ?_;rintro e w1 ⟨⟨b,rfl,hb⟩,hB⟩;have Hb:=hide hb;have HB:=hide hB;clear hb hB)
  go_ret;exact⟨ag.mk Hb.out,HB.out⟩
 ·have hq:((f.len:Int) == 1)=false:=by simp;omega
  have H1:=hide h1;clear htab h1 hf;go_enter Tryz.func220,Tryz.ntmps220
  go_wp2_with fail
  go_ret;refine⟨ag.no (fun h=>?_),Below.refl _ _⟩;have h1:=H1.out;cases f with
  | nil=>exact h
  | cons k t n ks r=>cases r with
   | nil=>simp[Fo.len]at h1
   | cons=>exact h
theorem sQ{f:Fo}(h:bU f):(0:Int)<f.len:=by cases f with
 | nil=>exact h.elim
 | cons=>simp only[Fo.len];omega
theorem Du:Number 0:=by unfold Number;omega
theorem EN{f:Fo}:f = .nil↔f.len=0:=by cases f<;>simp[Fo.len]
theorem zl{s t:ByteArray}:s=t↔(s.toList == t.toList)=true:=by
 rw[beq_iff_eq,ByteArray.toList_eq,ByteArray.toList_eq];exact⟨fun h=>by rw[h],Jo⟩
theorem XO{e:Ed}:eY {e with kind:=1}↔¬(∃n,n∈e.path∧¬Number n)∧e.at_=0∧e.far=0∧e.old.len=0∧e.new.len=0∧¬((e.path.length:Int) == 0)=true∧dK e.frm∧dK e.to∧¬(e.frm.toList == e.to.toList)=true:=by
 rw[←zl,←EN,←EN];unfold eY;simp
theorem Tj{e:Ed}:eY {e with kind:=2}↔¬(∃n,n∈e.path∧¬Number n)∧e.far=0∧e.frm=ae∧e.to=ae∧e.old.len=0∧Number e.at_∧bU e.new:=by
 rw[←EN];unfold eY;simp
theorem Tm{e:Ed}:eY {e with kind:=3}↔¬(∃n,n∈e.path∧¬Number n)∧e.far=0∧e.frm=ae∧e.to=ae∧e.new.len=0∧Number e.at_∧bU e.old:=by
 rw[←EN];unfold eY;simp
theorem Oa{e:Ed}:eY {e with kind:=4}↔¬(∃n,n∈e.path∧¬Number n)∧e.at_=0∧e.far=0∧e.frm=ae∧e.to=ae∧¬((e.path.length:Int) == 0)=true∧bU e.old∧bU e.new∧e.old≠e.new:=by
 unfold eY;simp
theorem Tn{e:Ed}:eY {e with kind:=5}↔¬(∃n,n∈e.path∧¬Number n)∧e.frm=ae∧e.to=ae∧e.new.len=0∧Number e.at_∧Number e.far∧e.at_≠e.far∧bU e.old:=by
 rw[←EN];unfold eY;simp
theorem Tq{e:Ed}:eY e↔((e.kind:Int)=1∨(e.kind:Int)=2∨(e.kind:Int)=3∨(e.kind:Int)=4∨(e.kind:Int)=5)∧eY e:=by
 constructor
 ·intro h;refine⟨?_,h⟩;unfold eY at h;omega
 ·exact fun h=>h.2
theorem Tt{s t:ByteArray}:(!(s++t).toList.isEmpty)=false↔s=ae∧t=ae:=by
 rw[ByteArray.toList_eq];have hd:(s++t).data.toList=s.data.toList++t.data.toList:=by simp
 rw[hd];constructor
 ·intro h;simp only[Bool.not_eq_false',List.isEmpty_iff,List.append_eq_nil_iff]at h;exact⟨Jo (by rw[h.1];rfl),Jo (by rw[h.2];rfl)⟩
 ·rintro⟨rfl,rfl⟩;rfl
theorem Bo{s t:ByteArray}(h :¬(s=ae∧t=ae)):(!(s++t).toList.isEmpty)=true:=by
 rcases hb:(!(s++t).toList.isEmpty)with _|_
 ·exact absurd (Tt.mp hb) h
 ·rfl
theorem yg:(!(({data:=#[]}:ByteArray)++({data:=#[]}:ByteArray)).toList.isEmpty)=false:=Tt.mpr ⟨rfl,rfl⟩
theorem mD :¬dK ae:=by
 rintro⟨_,⟨c,l,h,_⟩,_⟩;cases h
theorem aO{W w1:World}{N:Nat}(hB:Below W.heap.size W w1)(hN:N<W.heap.size):(∀o,w1.cell? ⟨N,o,none⟩=W.cell? ⟨N,o,none⟩)∧(∀o,w1.frozen? ⟨N,o,none⟩=W.frozen? ⟨N,o,none⟩)∧N<w1.heap.size :=
 ⟨fun o=>hB.cell (p:=⟨N,o,none⟩) hN,fun o=>hB.frozen (p:=⟨N,o,none⟩) hN,aH hN hB.size⟩
end
end Go.Proofs.YtjjaojnglnpgaaaGreatDoor
