/- Part 4 of what scriptParses_card rests on. -/
import Derived.Test.YtjjaojnglnpgaaaGreatDoorShelf
import Derived.Deep.CutBlock
import Derived.Deep.DeepCutAuto
import Derived.BigQuiet
import Derived.Test.YtjjaojnglnpgaaaGreatDoorProg
import Derived.Lib.SliceRun
import Derived.Deep.RegionHeld
import Derived.KernelRfl
import Derived.Shelf.Strings.Search1
import Derived.Laws.IdiomCopy
import Derived.Test.YtjjaojnglnpgaaaGreatDoorZ02
import Derived.Test.YtjjaojnglnpgaaaGreatDoorZ01
import Derived.Test.YtjjaojnglnpgaaaGreatDoorZ00
set_option linter.unusedVariables false
set_option linter.unusedSimpArgs false
set_option maxHeartbeats 16000000
set_option maxRecDepth 1000000
namespace Go.Proofs.YtjjaojnglnpgaaaGreatDoor
section
open Go.RowKit Go.ChangeShapes Go.WideShapes
theorem KD:Tryz.prog.cellsOf 5=1:=by kernel_rfl
theorem xW:Tryz.prog.underlying 9=some .string:=by kernel_rfl
theorem KE:Tryz.prog.underlying 5=some (.int .u8):=by kernel_rfl
section
variable {H : Type} {enc : TypeId × Value → H} {w : World} {spare : Nat → Bool} {held : Bool}
theorem PM(f:Fo):(nodesB f).length=8+(foB f).length:=by
 have h8 :∀n:Int,(num8 n).length=8:=fun n=>rfl;simp only[nodesB,aJ,h8]
theorem oQ(k:Nat)(t:ByteArray)(n:Int)(ks r:Fo):(foB (.cons k t n ks r)).length=25+t.size+(foB ks).length+(foB r).length:=by
 have h8 :∀n:Int,(num8 n).length=8:=fun n=>rfl;have hs:t.data.toList.length=t.size:=rfl;simp only[foB,txtB,List.length_cons,aJ,h8,hs];omega
end
end
section
open Go.RowKit
theorem oU(n:Nat)(h:n<signs.size):signs[n]'h=hexD n:=by
 have h1:=oH n h;have h2:signs.data[n]?=some (signs[n]'h):=by
  rw[Array.getElem?_eq_getElem (by exact h)];rfl
 rw[h2]at h1;injection h1
theorem KF{S:Nat→Prop}{w:World}{A:Option Addr}{c:Nat}{l:List UInt8}(hb:BytesIn S w A l)(hl:l.length≤1099511627776):
  Calls Tryz.prog 46 #[.slice A l.length c] w fun e w'=>e = .returned (.string ⟨(hexL l).toArray⟩)∧Below w.heap.size w w':=by
 have Hb:=hide hb;clear hb;by_cases h0:l.length=0
 ·have hnil:l=[]:=List.length_eq_zero_iff.1 h0;subst hnil;go_enter Tryz.func46,Tryz.ntmps46
  go_wp2_with fail
  go_ret;exact⟨rfl,Below.refl _ _⟩
 ·have H0:Hid (IsSb w.heap.size w.heap.size (Lib.byteCells (hexT (l.take 0))) (w.alloc (.cells #[.pointer none,.slice none 0 0] 117))):=hide (Lib.fresh_isBuilder _ _ _);have h0b:((l.length:Int) == 0)=false:=by rw[aK];omega
  go_enter Tryz.func46,Tryz.ntmps46
  go_wp2_with fail
  go_loopg [11] l.length (fun g i wr=>∃q:Nat,q≤l.length∧g=l.length-q∧i = .int .i64 q∧Hid (IsSb w.heap.size w.heap.size (Lib.byteCells (hexT (l.take q))) wr)∧Hid (Below w.heap.size w wr))
  case atStart=>exact⟨0,by omega,by omega,rfl,H0,hide (ag _ _)⟩
  case round =>
   clear H0;obtain⟨q,hq,hg,rfl,HS,HB⟩:=hrel;by_cases hlt:q<l.length
   ·obtain⟨b,o,rfl,hc⟩:=(Hb.out.below HB.out).1.at_ (j:=q) (by simp[bytesV];omega);simp only[bytesV,List.getElem_map]at hc;have hx:=(l[q]).toNat_lt;have hs1:=HB.out.size;have hlen:(Lib.byteCells (hexT (l.take q))).length+2≤140737488355328:=by simp[Lib.byteCells,uX];omega
    go_wp2_with(first
     | (go_at_call 69;(with_reducible refine(Pv w.heap.size w.heap.size _ _ _ HS.out (by omega) hs1).mono ?_);rintro e1 w1 ⟨rfl,h1,hb1,_⟩;have KG:Hid (IsSb _ _ _ w1):=hide (.inr h1);have HB1:=hide (HB.out.trans hb1);have hs2:=hb1.size;clear h1 hb1)
     | (go_at_call 69;(with_reducible refine(Pv w.heap.size w.heap.size _ _ _ KG.out (by rw[aJ];simp only[List.length_cons,List.length_nil];omega) (aI hs1 hs2)).mono ?_);rintro e2 w2 ⟨rfl,h1,hb1,_⟩;have HS2:Hid (IsSb _ _ _ w2):=hide (.inr h1);have HB2:=hide (HB1.out.trans hb1);clear h1 hb1))
    go_roundg (l.length-(q+1))
    case rel =>
     refine⟨q+1,by omega,rfl,by go_num,hide ?_,HB2⟩;have h:=HS2.out;rw[List.take_succ_eq_append_getElem hlt,lG];have e1:(Lib.byteCells (hexT (l.take q)++[hexD (l[q].toNat / 16),hexD (l[q].toNat % 16)]))=Lib.byteCells (hexT (l.take q))++[.int .u8 ((signs[l[q].toNat / 16]'(by show _<16;omega)).toNat:Nat)]++[.int .u8 ((signs[l[q].toNat % 16]'(by show _<16;omega)).toNat:Nat)]:=by
      rw[oU,oU];simp[Lib.byteCells]
     rw[e1];exact h
    case measure=>omega
   ·have zk:q=l.length:=by omega
    have HS2:Hid (IsSb w.heap.size w.heap.size (Lib.byteCells (hexT l)) wr):=hide (by have:=HS.out;rwa [List.take_of_length_le (by omega)]at this)
    go_wp2_with(go_at_call 59;(with_reducible refine(Tryz.Builder_String_any w.heap.size w.heap.size (hexT l) _ HS2.out HB.out.size).mono ?_);rintro e1 w1 ⟨rfl,hb1⟩;have HB1:=hide (HB.out.trans hb1);clear hb1)
    go_ret;refine⟨?_,HB1.out⟩;rw[hexL,if_neg (fun e=>h0 (by rw[e];rfl))];rfl
theorem Vb{S:Nat→Prop}(w:World)(A:Option Addr)(c:Nat)(l:List UInt8)(hb:BytesIn S w A l):
  (convert 44 9 (.slice A l.length c)).run Tryz.prog w = .ok (.string ⟨l.toArray⟩) w:=by
 rcases hb.1 with h|⟨b,o,rfl,_,hc⟩
 ·have:l=[]:=by simpa[bytesV]using h
  subst this;show(convert 44 9 (.slice A 0 c)).run Tryz.prog w=_;rw[run_convert_bytes_string w 44 9 5 A 0 c Tryz.underlying44 Tryz.underlying5 Tryz.underlying9];cases A<;>simp[Conv.bytesToString,loadCells,loadCellsFrom]
  all_goals rfl
 ·refine run_convert_bytes_back w _ _ _ ⟨b,o,none⟩ c l Tryz.underlying44 Tryz.underlying5 Tryz.underlying9 (fun j hj=>?_);rw[Addr.add_lit];exact hc j _ (by simp[bytesV,hj])
end
section
open Go.RowKit
section
variable {P : Program} {ops : Array Oper} {Q : Exit → Act → World → Prop} {md : Region.Mode} {S : World → Prop} {oi : Oper} {fuel n : Nat} {listed : Array Bool} {L : List Value} {df : List Deferred} {w : World}
theorem tk(i:Nat){v:Value}(hS:S w)(hy :∀w,S w→(execOp (Act.mk L.toArray df).eval oi).run P w = .ok (.value v) w)
  (h:wpAnyH P md ops Q S fuel (listed.setIfInBounds i true) ⟨(L.set n v).toArray,df⟩ w)
  (hi:ops[i]?=some oi:=by rfl) (hd:oi.dst=some n:=by rfl) (hw:Region.wanted oi (yielded ops L.toArray)=true:=by rfl)
  (hs:Region.noSelect ops=true:=by kernel_rfl) (hf:Region.free md ops listed i=true:=by kernel_rfl) (hr:(Region.ready md ops listed).contains i=true:=by kernel_rfl)
  (hQ :∀c a w,Q (.panic c) (a.put oi.dst v) w→Q (.panic c) a w:=by exact fun _ _ _ h=>h):wpAnyH P md ops Q S (fuel+1) listed ⟨L.toArray,df⟩ w :=
 wpAnyH_take hi hs hf hr hQ (.inl ⟨hw,hy⟩) hS (by
  have e:(Act.mk L.toArray df).put oi.dst v=⟨(L.set n v).toArray,df⟩:=by rw[hd];simp[Act.put]
  rw[e];exact h)
theorem tn(i:Nat)(hS:S w)
  (h:wpAnyH P md ops Q S fuel (listed.setIfInBounds i true) ⟨(L.set n undef).toArray,df⟩ w)
  (hi:ops[i]?=some oi:=by rfl) (hd:oi.dst=some n:=by rfl) (hw:Region.wanted oi (yielded ops L.toArray)=false:=by rfl)
  (hs:Region.noSelect ops=true:=by kernel_rfl) (hf:Region.free md ops listed i=true:=by kernel_rfl) (hr:(Region.ready md ops listed).contains i=true:=by kernel_rfl)
  (hQ :∀c a w,Q (.panic c) (a.put oi.dst undef) w→Q (.panic c) a w:=by exact fun _ _ _ h=>h):wpAnyH P md ops Q S (fuel+1) listed ⟨L.toArray,df⟩ w :=
 wpAnyH_take hi hs hf hr hQ (.inr ⟨hw,rfl⟩) hS (by
  have e:(Act.mk L.toArray df).put oi.dst undef=⟨(L.set n undef).toArray,df⟩:=by rw[hd];simp[Act.put]
  rw[e];exact h)
theorem ae(i:Nat){v:Value}{L':List Value}(hS:S w)
  (h:wpAnyH P md ops Q S fuel (listed.setIfInBounds i true) ⟨L'.toArray,df⟩ w)
  (hi:ops[i]?=some oi:=by rfl) (hd:oi.dst=some n:=by rfl)
  (hy :∀w,S w→(execOp (Act.mk L.toArray df).eval oi).run P w = .ok (.value v) w:=by intro w' hSw;first|(go_simp;done)|(go_simp;with_reducible rfl))
  (hL:L.set n v=L':=by(try simp only[aA,aB]);rfl)
  (hw:Region.wanted oi (yielded ops L.toArray)=true:=by rfl)
  (hs:Region.noSelect ops=true:=by kernel_rfl) (hf:Region.free md ops listed i=true:=by kernel_rfl) (hr:(Region.ready md ops listed).contains i=true:=by kernel_rfl)
  (hQ :∀c a w,Q (.panic c) (a.put oi.dst v) w→Q (.panic c) a w:=by exact fun _ _ _ h=>h):wpAnyH P md ops Q S (fuel+1) listed ⟨L.toArray,df⟩ w :=
 tk i hS hy (by rw[hL];exact h) hi hd hw hs hf hr hQ
end
end
section
open Go.RowKit
theorem Dt{P:Program}{ops:Array Oper}{o:Oper}{a:Act}{w w':World}{K:Act→World→Prop}{Q:Exit→Act→World→Prop}{E:Prop}
  (hg:o.guard=none) (s x:Operand) (t:TypeId) (hop:o.op=Op.call {callee:=Callee.builtin Builtin.append,args:=#[s,x],argTypes:=#[t,t]}) {v1 v2 r:Value} (h1:a.eval s=v1) (h2:a.eval x=v2)
  (hrun:(Builtin.append_ #[t,t] o.type #[v1,v2]).run P w = .ok r w') (hK:K (a.put o.dst r) w'):
  if Region.wanted o (yielded ops a.tmps)=true then Oper.wp P o a w K Q else E:=by
 have hw:Region.wanted o (yielded ops a.tmps)=true:=by simp[Region.wanted,hg]
 rw[if_pos hw];unfold Oper.wp;simp[execOp,hop,resolve,invoke,builtin,h1,h2,hrun,Result.andThen];exact hK
end
section
open Go.RowKit
section
variable {S : Nat → Prop} {w : World} {A : Option Addr} {xs : List Value}
theorem vg{α:Type}{l:List α}{f:α→Value}(h:Rd S w A (l.map f)):A=none→l.length=0:=by
 intro e;rcases h with h|⟨b,o,e2,_⟩
 ·simpa using h
 ·rw[e]at e2;cases e2
theorem zl(h:Rd S w A xs):∀ad,A=some ad→∀j u,xs[j]?=some u→w.cell? (ad.add j)=some u:=by
 intro ad e j u hu;rcases h with h|⟨b,o,e2,_,hc⟩
 ·subst h;simp at hu
 ·rw[e]at e2;injection e2 with e2;subst e2;rw[Addr.add_lit];exact hc j u hu
theorem lI{α:Type}{f:α→Value}(l:List α)(h :∀x,(f x).oneCell'=true):∀u∈l.map f,u.oneCell'=true:=by
 intro u hu;obtain⟨x,_,rfl⟩:=List.mem_map.1 hu;exact h x
end
end
def digV(c:UInt8):Nat:=if 48≤c.toNat∧c.toNat≤57 then c.toNat-48 else if 97≤c.toNat∧c.toNat≤102 then c.toNat-87 else 16
theorem PN :∀n,n<16→digV (hexD n)=n:=by decide
theorem PO(c:UInt8)(h:digV c<16):hexD (digV c)=c:=by
 have key :∀k:Fin 256,digV (UInt8.ofNat k.val)<16→hexD (digV (UInt8.ofNat k.val))=UInt8.ofNat k.val:=by decide +kernel
 have e:UInt8.ofNat c.toNat=c:=by simp
 have:=key ⟨c.toNat,c.toNat_lt⟩;simp only[e]at this;exact this h
theorem PQ(c:UInt8):Go.Lib.indexByte signs.data.toList c=if digV c<16 then(digV c:Int)else -1:=by
 have key :∀k:Fin 256,Go.Lib.indexByte signs.data.toList (UInt8.ofNat k.val)=if digV (UInt8.ofNat k.val)<16 then(digV (UInt8.ofNat k.val):Int)else -1:=by decide +kernel
 have e:UInt8.ofNat c.toNat=c:=by simp
 have:=key ⟨c.toNat,c.toNat_lt⟩;simp only[e]at this;exact this
def unhexT:List UInt8→Option (List UInt8)
 | []=>some []
 | [_]=>none
 | x::y::r=>if digV x<16∧digV y<16 then(unhexT r).map (UInt8.ofNat (16*digV x+digV y)::·)else none
theorem PR :∀(t b:List UInt8),unhexT t=some b→hexT b=t
 | [],b,h=>by
  simp only[unhexT,Option.some.injEq]at h;subst h;rfl
 | [_],_,h=>by cases h
 | x::y::r,b,h=>by
  rw[unhexT]at h;split at h
  ·rename_i hd;obtain⟨b',hb,rfl⟩:=Option.map_eq_some_iff.1 h;have ih:=PR r b' hb;have e:(UInt8.ofNat (16*digV x+digV y)).toNat=16*digV x+digV y:=by rw[UInt8.toNat_ofNat'];omega
   simp only[hexT,List.flatMap_cons,List.cons_append,List.nil_append]at ih⊢;rw[e,ih,show(16*digV x+digV y) / 16=digV x by omega,show(16*digV x+digV y) % 16=digV y by omega,PO x hd.1,PO y hd.2]
  ·cases h
def unhexL(t:List UInt8):Option (List UInt8):=if t=[45]then some []else if t=[]then none else unhexT t
theorem xX(t b:List UInt8)(h:unhexL t=some b):hexL b=t:=by
 unfold unhexL at h;split at h
 ·rename_i e;injection h with h;subst h e;rfl
 ·split at h
  ·cases h
  ·rename_i h1 h2;have e:=PR t b h;have hb:b≠[]:=fun hb=>by subst hb;exact h2 e.symm
   rw[hexL,if_neg hb,e]
section
open Go.RowKit
def CellsL(w:World)(N:Nat)(vs:List Value):Prop:=∀j u,vs[j]?=some u→w.cell? ⟨N,j,none⟩=some u
theorem uz(b:Nat){k:Nat}(hk:k≠b):∀(vs:List Value) (o:Nat) (w:World),(w.setCells b o vs).heap[k]?=w.heap[k]?
 | [],_,_=>rfl
 | v::r,o,w=>by rw[World.setCells,uz b hk r,Below.heap_setCell _ _ _ k hk]
theorem KH(b:Nat):∀(vs:List Value) (o:Nat) (w:World),(w.setCells b o vs).heap.size=w.heap.size
 | [],_,_=>rfl
 | v::r,o,w=>by rw[World.setCells,KH b r];simp[World.setCell]
theorem BD{B b:Nat}(hb:B≤b):∀(vs:List Value) (o:Nat) {w w':World},Below B w w'→Below B w (w'.setCells b o vs)
 | [],_,_,_,h=>h
 | v::r,o,_,_,h=>BD hb r (o+1) (h.setCell (p:=⟨b,o,none⟩) hb v)
theorem uA{w:World}{N:Nat}{us:List Value}(hu:CellsL w N us)(o:Nat)(vs:List Value)(ho:o+vs.length≤us.length):CellsL (w.setCells N o vs) N (us.take o++vs++us.drop (o+vs.length)):=by
 intro j u hj;have hl:(us.take o).length=o:=by simp;omega
 by_cases h1:j<o
 ·rw[World.cell?_setCells_out N vs o w ⟨N,j,none⟩ (fun _ _=> .inl h1)];rw[List.append_assoc,List.getElem?_append_left (by omega),List.getElem?_take,if_pos h1]at hj;exact hu j u hj
 ·by_cases h2:j<o+vs.length
  ·have h3:=World.cell?_setCells_in N vs o w (fun i hi=>by
    have:us[o+i]?=some us[o+i]:=List.getElem?_eq_getElem (by omega);rw[hu _ _ this];rfl) (j-o) (by omega)
   rw[show o+(j-o)=j by omega]at h3;rw[h3];rw[List.append_assoc,List.getElem?_append_right (by omega),hl,List.getElem?_append_left (by omega),List.getElem?_eq_getElem (by omega)]at hj;exact hj
  ·rw[World.cell?_setCells_out N vs o w ⟨N,j,none⟩ (fun _ _=> .inr (by show o+vs.length≤j;omega))];rw[List.append_assoc,List.getElem?_append_right (by omega),hl,List.getElem?_append_right (by omega),List.getElem?_drop]at hj;rw[show o+vs.length+(j-o-vs.length)=j by omega]at hj;exact hu j u hj
theorem PS{w:World}{N M:Nat}{us:List Value}(hu:CellsL w M us)(hM:M≠N)(o:Nat)(vs:List Value):CellsL (w.setCells N o vs) M us :=
 fun j u hj=>(World.cell?_setCells_out N vs o w ⟨M,j,none⟩ (fun e _=>absurd e hM)).trans (hu j u hj)
structure BxL(w wx:World)(us zs:List Value):Prop where
 c:CellsL wx w.heap.size us
 r:CellsL wx (w.heap.size+1) zs
 fc :∀o,wx.frozen? ⟨w.heap.size,o,none⟩=false
 fr :∀o,wx.frozen? ⟨w.heap.size+1,o,none⟩=false
 b:Below w.heap.size w wx
 z:w.heap.size+2≤wx.heap.size
section
variable {w wx w1 : World} {us zs : List Value}
theorem BxL.start(w:World)(cs ds:Array Value)(t u:TypeId):BxL w ((w.alloc (.cells cs t)).alloc (.cells ds u)) cs.toList ds.toList :=
 ⟨fun j v hv=>by rw[World.cell?_alloc2_first];simpa using hv,fun j v hv=>by rw[World.cell?_alloc2_new];simpa using hv,fun o=>World.frozen?_alloc2_first _ _ _ _,fun o=>World.frozen?_alloc2_new _ _ _ _,bT _ _,by simp⟩
theorem BxL.call(h:BxL w wx us zs)(hB:Below wx.heap.size wx w1):BxL w w1 us zs:=by
 have hz:=h.z;exact⟨fun j v hv=>(hB.cell (p:=⟨w.heap.size,j,none⟩) (by simp only;omega)).trans (h.c j v hv),fun j v hv=>(hB.cell (p:=⟨w.heap.size+1,j,none⟩) (by simp only;omega)).trans (h.r j v hv),
  fun o=>(hB.frozen (p:=⟨w.heap.size,o,none⟩) (by simp only;omega)).trans (h.fc o),fun o=>(hB.frozen (p:=⟨w.heap.size+1,o,none⟩) (by simp only;omega)).trans (h.fr o),ak h.b hB,aI hz hB.size⟩
end
section
variable {S S' : Nat → Prop} {w w' : World} {A : Option Addr} {c : Nat}
end
end
section
open Go.RowKit
theorem vk(e:Ed):(edB e).length=1+(pathB e.path).length+8+8+(txtB e.frm).length+(txtB e.to).length+(nodesB e.old).length+(nodesB e.new).length:=by
 simp only[edB,List.length_cons,aJ,eY];omega
theorem KI(a b:Int)(w:World)(ha:0≤a∧a≤1099511627776)(hb:0≤b∧b≤2199023255552):Calls Tryz.prog 144 #[.int .i64 a,.int .i64 b] w fun e w'=>e = .returned (.int .i64 (1000003*(a+7)+b))∧w=w':=by
 obtain⟨ha0,ha1⟩:=ha;obtain⟨hb0,hb1⟩:=hb;go_enter Tryz.func144,Tryz.ntmps144
 go_wp2_with fail
 go_ret;exact⟨rfl,rfl⟩
def mbI(a b:Int):Int:=IntKind.u64.wrap ((1000003*(a+7)+b)*11400714819323198485) / 72057594037927936 % 256
theorem Vd(a b:Int)(w:World)(ha:0≤a∧a≤1099511627776)(hb:0≤b∧b≤2199023255552):Calls Tryz.prog 104 #[.int .i64 a,.int .i64 b] w fun e w'=>e = .returned (.int .u8 (mbI a b))∧w=w':=by
 go_enter Tryz.func104,Tryz.ntmps104
 go_wp2_with(go_at_call 144;refine(KI a b w ha hb).mono ?_;rintro e w1 ⟨rfl,rfl⟩)
 go_ret;exact⟨rfl,rfl⟩
end
end Go.Proofs.YtjjaojnglnpgaaaGreatDoor
