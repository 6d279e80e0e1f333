/- Part 3 of what scriptBack_cardUpto rests on. -/
import Derived.Lib.Join
import Derived.Lib.ItoaNum
import Derived.Test.YtjjaojnglnpgaaaGreatDoorShelf
import Derived.Deep.CutBlock
import Derived.Deep.DeepCutAuto
import Derived.BigQuiet
import Derived.Lib.Builder
import Derived.Test.YtjjaojnglnpgaaaGreatDoorProg
import Derived.Lib.SliceRun
import Derived.Deep.RegionHeld
import Derived.KernelRfl
import Derived.OwnWalk
import Derived.Shelf.Strings.Search1
import Derived.Lib.SplitLaws
import Derived.Test.YtjjaojnglnpgaaaGreatDoorY01
import Derived.Test.YtjjaojnglnpgaaaGreatDoorY00
set_option linter.unusedVariables false
set_option linter.unusedSimpArgs false
set_option maxHeartbeats 16000000
set_option maxRecDepth 1000000
namespace Go.Proofs.YtjjaojnglnpgaaaGreatDoor
def hexD(n:Nat):UInt8:=if n<10 then UInt8.ofNat (48+n)else UInt8.ofNat (87+n)
def signs:ByteArray:=⟨#[48,49,50,51,52,53,54,55,56,57,97,98,99,100,101,102]⟩
theorem tH(n:Nat)(h:n<16):signs.data[n]?=some (hexD n):=by
 have:n=0∨n=1∨n=2∨n=3∨n=4∨n=5∨n=6∨n=7∨n=8∨n=9∨n=10∨n=11∨n=12∨n=13∨n=14∨n=15:=by omega
 rcases this with rfl|rfl|rfl|rfl|rfl|rfl|rfl|rfl|rfl|rfl|rfl|rfl|rfl|rfl|rfl|rfl<;>rfl
def hexT(b:List UInt8):List UInt8:=b.flatMap fun c=>[hexD (c.toNat / 16),hexD (c.toNat % 16)]
def hexL(b:List UInt8):List UInt8:=if b=[]then[45]else hexT b
theorem Ar(b:List UInt8):(hexT b).length=2*b.length:=by
 induction b with
 | nil=>rfl
 | cons c b ih=>simp only[hexT,List.flatMap_cons,aJ,List.length_cons,List.length_nil]at ih⊢;omega
theorem pV(b:List UInt8)(c:UInt8):hexT (b++[c])=hexT b++[hexD (c.toNat / 16),hexD (c.toNat % 16)]:=by simp[hexT]
theorem LH(b:List UInt8):(hexL b).length≤2*b.length+1:=by
 unfold hexL;split
 ·simp
 ·rw[Ar];omega
structure An where
 err:Int
 names:List ByteArray
 text:ByteArray
 bytes:List UInt8
def jQ:List UInt8:=[101,114,114,111,114]
def yw:List UInt8:=[111,107]
def kQ:List UInt8:=[110,97,109,101,115]
def mV:List UInt8:=[116,101,120,116]
def kR:List UInt8:=[98,121,116,101,115]
def An.partN(a:An):List (List UInt8):=if a.names=[]then[]else kQ::a.names.map (·.data.toList)
def An.partT(a:An):List (List UInt8):=if a.text.size=0 then[]else[mV,hexL a.text.data.toList]
def An.partB(a:An):List (List UInt8):=if a.bytes=[]then[]else[kR,hexL a.bytes]
def An.parts(a:An):List (List UInt8):=if a.err=0 then yw::(a.partN++(a.partT++a.partB))else[jQ,Go.Lib.itoa a.err]
def An.line(a:An):List UInt8:=Go.Lib.join a.parts [32]
def An.bulk(a:An):Nat:=(a.names.map fun s=>s.size+1).sum+a.text.size+a.bytes.length
theorem Qr(x:List UInt8)(r:List (List UInt8)):Go.Lib.join (x::r) [32]=x++r.flatMap (fun y=>32::y):=by
 rw[Go.Lib.join_cons,Go.Lib.joinTail,List.flatMap];rfl
theorem An.line_ok(a:An)(h:a.err=0):a.line=yw++(a.partN.flatMap (fun y=>32::y)++(a.partT.flatMap (fun y=>32::y)++a.partB.flatMap (fun y=>32::y))):=by
 rw[An.line,An.parts,if_pos h,Qr,List.flatMap_append,List.flatMap_append]
theorem An.line_err(a:An)(h :¬a.err=0):a.line=jQ++32::Go.Lib.itoa a.err:=by
 rw[An.line,An.parts,if_neg h,Qr];simp
section
open Go.RowKit
theorem tJ(n:Nat)(h:n<signs.size):signs[n]' h=hexD n:=by
 have h1:=tH n h;have h2:signs.data[n]?=some (signs[n]' h):=by
  rw[Array.getElem?_eq_getElem (by exact h)];rfl
 rw[h2]at h1;injection h1
theorem Ff{S:Nat→Prop}{w:World}{A:Option Addr}{c:Nat}{l:List UInt8}(hb:BytesIn S w A l)(hl:l.length≤1099511627776):
  Calls Tryz.prog 46 #[.slice A l.length c] w fun e w'=>e = .returned (.string ⟨(hexL l).toArray⟩)∧Below w.heap.size w w':=by
 have Hb:=hide hb;clear hb;by_cases h0:l.length=0
 ·have hnil:l=[]:=List.length_eq_zero_iff.1 h0;subst hnil;go_enter Tryz.func46,Tryz.ntmps46
  go_wp2_with fail
  go_ret;exact⟨rfl,Below.refl _ _⟩
 ·have H0:Hid (mP w.heap.size w.heap.size (Lib.byteCells (hexT (l.take 0))) (w.alloc (.cells #[.pointer none,.slice none 0 0] 117))):=hide (Lib.fresh_isBuilder _ _ _);have ZP:((l.length:Int) == 0)=false:=by rw[aK];omega
  go_enter Tryz.func46,Tryz.ntmps46
  go_wp2_with fail
  go_loopg [11] l.length (fun g i wr=>∃q:Nat,q≤l.length∧g=l.length-q∧i = .int .i64 q∧Hid (mP w.heap.size w.heap.size (Lib.byteCells (hexT (l.take q))) wr)∧Hid (Below w.heap.size w wr))
  case atStart=>exact⟨0,by omega,by omega,rfl,H0,hide (az _ _)⟩
  case round =>
   clear H0;obtain⟨q,hq,hg,rfl,HS,HB⟩:=hrel;by_cases hlt:q<l.length
   ·obtain⟨b,o,rfl,hc⟩:=(Hb.out.below HB.out).1.at_ (j:=q) (by simp[bytesV];omega);simp only[bytesV,List.getElem_map]at hc;have hx:=(l[q]).toNat_lt;have hs1:=HB.out.size;have hlen:(Lib.byteCells (hexT (l.take q))).length+2≤140737488355328:=by simp[Lib.byteCells,Ar];omega
    go_wp2_with(first
     | (go_at_call 69;(with_reducible refine(Qp w.heap.size w.heap.size _ _ _ HS.out (by omega) hs1).mono ?_);rintro e1 w1 ⟨rfl,h1,hb1,_⟩;have Jt:Hid (mP _ _ _ w1):=hide (.inr h1);have HB1:=hide (HB.out.trans hb1);have hs2:=hb1.size;clear h1 hb1)
     | (go_at_call 69;(with_reducible refine(Qp w.heap.size w.heap.size _ _ _ Jt.out (by rw[aJ];simp only[List.length_cons,List.length_nil];omega) (aI hs1 hs2)).mono ?_);rintro e2 w2 ⟨rfl,h1,hb1,_⟩;have HS2:Hid (mP _ _ _ w2):=hide (.inr h1);have HB2:=hide (HB1.out.trans hb1);clear h1 hb1))
    go_roundg (l.length-(q+1))
    case rel =>
     refine⟨q+1,by omega,rfl,by go_num,hide ?_,HB2⟩;have h:=HS2.out;rw[List.take_succ_eq_append_getElem hlt,pV];have e1:(Lib.byteCells (hexT (l.take q)++[hexD (l[q].toNat / 16),hexD (l[q].toNat % 16)]))=Lib.byteCells (hexT (l.take q))++[.int .u8 ((signs[l[q].toNat / 16]'(by show _<16;omega)).toNat:Nat)]++[.int .u8 ((signs[l[q].toNat % 16]'(by show _<16;omega)).toNat:Nat)]:=by
      rw[tJ,tJ];simp[Lib.byteCells]
     rw[e1];exact h
    case measure=>omega
   ·have Qs:q=l.length:=by omega
    have HS2:Hid (mP w.heap.size w.heap.size (Lib.byteCells (hexT l)) wr):=hide (by have:=HS.out;rwa [List.take_of_length_le (by omega)]at this)
    go_wp2_with(go_at_call 59;(with_reducible refine(Tryz.Builder_String_any w.heap.size w.heap.size (hexT l) _ HS2.out HB.out.size).mono ?_);rintro e1 w1 ⟨rfl,hb1⟩;have HB1:=hide (HB.out.trans hb1);clear hb1)
    go_ret;refine⟨?_,HB1.out⟩;rw[hexL,if_neg (fun e=>h0 (by rw[e];rfl))];rfl
end
section
open Go.RowKit
section
variable {S S' : Nat → Prop} {w w' : World} {A : Option Addr} {c : Nat}
end
end
section
open Go.RowKit
section
variable {P : Program} {ops : Array Oper} {Q : Exit → Act → World → Prop} {md : Region.Mode} {S : World → Prop} {oi : Oper} {fuel n : Nat} {listed : Array Bool} {L : List Value} {df : List Deferred} {w : World}
theorem tk(i:Nat){v:Value}(hS:S w)(hy :∀w,S w→(execOp (Act.mk L.toArray df).eval oi).run P w = .ok (.value v) w)
  (h:wpAnyH P md ops Q S fuel (listed.setIfInBounds i true) ⟨(L.set n v).toArray,df⟩ w)
  (hi:ops[i]?=some oi:=by rfl) (hd:oi.dst=some n:=by rfl) (hw:Region.wanted oi (yielded ops L.toArray)=true:=by rfl)
  (hs:Region.noSelect ops=true:=by kernel_rfl) (hf:Region.free md ops listed i=true:=by kernel_rfl) (hr:(Region.ready md ops listed).contains i=true:=by kernel_rfl)
  (hQ :∀c a w,Q (.panic c) (a.put oi.dst v) w→Q (.panic c) a w:=by exact fun _ _ _ h=>h):wpAnyH P md ops Q S (fuel+1) listed ⟨L.toArray,df⟩ w :=
 wpAnyH_take hi hs hf hr hQ (.inl ⟨hw,hy⟩) hS (by
  have e:(Act.mk L.toArray df).put oi.dst v=⟨(L.set n v).toArray,df⟩:=by rw[hd];simp[Act.put]
  rw[e];exact h)
theorem dC(i:Nat){v:Value}{L':List Value}(hS:S w)
  (h:wpAnyH P md ops Q S fuel (listed.setIfInBounds i true) ⟨L'.toArray,df⟩ w)
  (hi:ops[i]?=some oi:=by rfl) (hd:oi.dst=some n:=by rfl)
  (hy :∀w,S w→(execOp (Act.mk L.toArray df).eval oi).run P w = .ok (.value v) w:=by intro w' hSw;first|(go_simp;done)|(go_simp;with_reducible rfl))
  (hL:L.set n v=L':=by(try simp only[aA,aB]);rfl)
  (hw:Region.wanted oi (yielded ops L.toArray)=true:=by rfl)
  (hs:Region.noSelect ops=true:=by kernel_rfl) (hf:Region.free md ops listed i=true:=by kernel_rfl) (hr:(Region.ready md ops listed).contains i=true:=by kernel_rfl)
  (hQ :∀c a w,Q (.panic c) (a.put oi.dst v) w→Q (.panic c) a w:=by exact fun _ _ _ h=>h):wpAnyH P md ops Q S (fuel+1) listed ⟨L.toArray,df⟩ w :=
 tk i hS hy (by rw[hL];exact h) hi hd hw hs hf hr hQ
end
end
section
open Go.RowKit
section
variable {S S' : Nat → Prop} {w w' : World} {base g cap n : Nat} {e : TypeId} {size : Nat} {xs : List Value}
end
end
section
open Go.RowKit
section
variable {S S' : Nat → Prop} {w w' : World}
end
end
def cO(c:UInt8):Nat:=if 48≤c.toNat∧c.toNat≤57 then c.toNat-48 else if 97≤c.toNat∧c.toNat≤102 then c.toNat-87 else 16
theorem Ju :∀n,n<16→cO (hexD n)=n:=by decide
theorem Qu(c:UInt8)(h:cO c<16):hexD (cO c)=c:=by
 have key :∀k:Fin 256,cO (UInt8.ofNat k.val)<16→hexD (cO (UInt8.ofNat k.val))=UInt8.ofNat k.val:=by decide +kernel
 have e:UInt8.ofNat c.toNat=c:=by simp
 have:=key ⟨c.toNat,c.toNat_lt⟩;simp only[e]at this;exact this h
theorem Qv(c:UInt8):Go.Lib.indexByte signs.data.toList c=if cO c<16 then(cO c:Int)else -1:=by
 have key :∀k:Fin 256,Go.Lib.indexByte signs.data.toList (UInt8.ofNat k.val)=if cO (UInt8.ofNat k.val)<16 then(cO (UInt8.ofNat k.val):Int)else -1:=by decide +kernel
 have e:UInt8.ofNat c.toNat=c:=by simp
 have:=key ⟨c.toNat,c.toNat_lt⟩;simp only[e]at this;exact this
def unhexT:List UInt8→Option (List UInt8)
 | []=>some []
 | [_]=>none
 | x::y::r=>if cO x<16∧cO y<16 then(unhexT r).map (UInt8.ofNat (16*cO x+cO y)::·)else none
theorem Qw :∀b:List UInt8,unhexT (hexT b)=some b
 | []=>rfl
 | c::b=>by
  have hc:=c.toNat_lt;have h1:cO (hexD (c.toNat / 16))=c.toNat / 16:=Ju _ (by omega);have h2:cO (hexD (c.toNat % 16))=c.toNat % 16:=Ju _ (by omega);have ih:=Qw b;simp only[hexT,List.flatMap_cons,List.cons_append,List.nil_append]at ih⊢;rw[unhexT,h1,h2,if_pos ⟨by omega,by omega⟩,ih];simp only[Option.map_some,Option.some.injEq,List.cons.injEq,and_true];rw[show 16*(c.toNat / 16)+c.toNat % 16=c.toNat by omega];simp
theorem Qx :∀(t b:List UInt8),unhexT t=some b→hexT b=t
 | [],b,h=>by
  simp only[unhexT,Option.some.injEq]at h;subst h;rfl
 | [_],_,h=>by cases h
 | x::y::r,b,h=>by
  rw[unhexT]at h;split at h
  ·rename_i hd;obtain⟨b',hb,rfl⟩:=Option.map_eq_some_iff.1 h;have ih:=Qx r b' hb;have e:(UInt8.ofNat (16*cO x+cO y)).toNat=16*cO x+cO y:=by rw[UInt8.toNat_ofNat'];omega
   simp only[hexT,List.flatMap_cons,List.cons_append,List.nil_append]at ih⊢;rw[e,ih,show(16*cO x+cO y) / 16=cO x by omega,show(16*cO x+cO y) % 16=cO y by omega,Qu x hd.1,Qu y hd.2]
  ·cases h
def unhexL(t:List UInt8):Option (List UInt8):=if t=[45]then some []else if t=[]then none else unhexT t
theorem Qy(b:List UInt8):unhexL (hexL b)=some b:=by
 unfold hexL;split
 ·rename_i h;subst h;rfl
 ·rename_i h;have h1:hexT b≠[45]:=fun e=>by have:=Ar b;rw[e]at this;simp at this;omega
  have h2:hexT b≠[]:=fun e=>by
   have:=Ar b;rw[e]at this;have:b.length=0:=by simp at this;omega
   exact h (List.length_eq_zero_iff.1 this)
  rw[unhexL,if_neg h1,if_neg h2,Qw]
theorem Fg(t b:List UInt8)(h:unhexL t=some b):hexL b=t:=by
 unfold unhexL at h;split at h
 ·rename_i e;injection h with h;subst h e;rfl
 ·split at h
  ·cases h
  ·rename_i h1 h2;have e:=Qx t b h;have hb:b≠[]:=fun hb=>by subst hb;exact h2 e.symm
   rw[hexL,if_neg hb,e]
structure bJ where
 kind:Nat
 repo:ByteArray
 frm:ByteArray
 name:ByteArray
 file:ByteArray
 patch:Pt
 bytes:List UInt8
def bJ.zero:bJ:=⟨0,ae,ae,ae,ae,Pt.zero,[]⟩
def isWord(s:ByteArray):Bool:=!s.toList.isEmpty && (decide (s.size≤100) && (!decide (0≤Lib.indexByte s.data.toList 32) && !decide (0≤Lib.indexByte s.data.toList 10)))
open Classical in
noncomputable def jD(l:List UInt8):Option Pt:=if h :∃q:Pt,dn q∧bV q∧l=dX q then some h.choose else none
theorem LJ{l:List UInt8}{p:Pt}(h:jD l=some p):dn p∧bV p∧l=dX p:=by
 unfold jD at h;split at h
 ·rename_i hx;injection h with h;subst h;exact hx.choose_spec
 ·cases h
theorem Qz{l:List UInt8}(h:jD l=none):¬∃q:Pt,dn q∧bV q∧l=dX q:=by
 unfold jD at h;split at h
 ·cases h
 ·assumption
theorem tK{p:Pt}(hf:dn p)(ho:bV p):jD (dX p)=some p:=by
 rcases h:jD (dX p)with _|q
 ·exact absurd ⟨p,hf,ho,rfl⟩ (Qz h)
 ·obtain⟨h1,h2,h3⟩:=LJ h;rw[(Jq h1 hf h2.bare ho.bare (x:=[]) (y:=[]) (by rw[List.append_nil,List.append_nil,h3])).1]
abbrev iR:=bJ→List ByteArray→Option (bJ×List ByteArray)
def dA:iR:=fun c l=>some (c,l)
noncomputable def restRecord:iR
 | c,n::t::r=>if isWord n then(unhexL t.data.toList).bind fun b=>(jD b).map fun p=>({c with name:=n,patch:=p},r)else none
 | _,_=>none
def bZ:iR
 | c,f::n::r=>if isWord f && isWord n then some ({c with frm:=f,name:=n},r)else none
 | _,_=>none
def restUnpull:iR
 | c,n::r=>if isWord n then some ({c with name:=n},r)else none
 | _,_=>none
def dY:iR
 | c,f::r=>if isWord f then some ({c with frm:=f},r)else none
 | _,_=>none
def bY:iR
 | c,f::r=>if isWord f then some ({c with file:=f},r)else none
 | _,_=>none
def fF:iR
 | c,t::r=>(unhexL t.data.toList).map fun b=>({c with bytes:=b},r)
 | _,_=>none
noncomputable def restOf:Nat→iR
 | 2=>restRecord
 | 3=>bZ
 | 4=>restUnpull
 | 5=>dY
 | 6=>bY
 | 9=>fF
 | _=>dA
def kJ:ByteArray:=⟨#[110,101,119]⟩
def dM:ByteArray:=⟨#[114,101,99,111,114,100]⟩
def iy:ByteArray:=⟨#[112,117,108,108]⟩
def iT:ByteArray:=⟨#[117,110,112,117,108,108]⟩
def jR:ByteArray:=⟨#[109,101,114,103,101]⟩
def gB:ByteArray:=⟨#[99,104,101,99,107,111,117,116]⟩
def nY:ByteArray:=⟨#[108,111,103]⟩
def iU:ByteArray:=⟨#[101,120,112,111,114,116]⟩
def iC:ByteArray:=⟨#[105,109,112,111,114,116]⟩
def dS:List (Nat×ByteArray):=[(1,kJ),(2,dM),(3,iy),(4,iT),(5,jR),(6,gB),(7,nY),(8,iU),(9,iC)]
def kindOf(s:ByteArray):Option Nat:=(dS.find? fun p=>decide (p.2=s)).map (·.1)
theorem QA{s:ByteArray}{k:Nat}(h:kindOf s=some k):(k,s)∈dS:=by
 unfold kindOf at h;obtain⟨p,hp,rfl⟩:=Option.map_eq_some_iff.1 h;have h1:=List.mem_of_find?_eq_some hp;have h2:=List.find?_some hp;simp only[decide_eq_true_eq]at h2;subst h2;exact h1
theorem mW{s:ByteArray}{k:Nat}(h:(k,s)∈dS):kindOf s=some k:=by
 simp only[dS,List.mem_cons,List.not_mem_nil,or_false,Prod.mk.injEq]at h;rcases h with⟨rfl,rfl⟩|⟨rfl,rfl⟩|⟨rfl,rfl⟩|⟨rfl,rfl⟩|⟨rfl,rfl⟩|⟨rfl,rfl⟩|⟨rfl,rfl⟩|⟨rfl,rfl⟩|⟨rfl,rfl⟩<;>decide
noncomputable def lineOf:List ByteArray→Option bJ
 | first::repo::r=>(kindOf first).bind fun k=>if isWord repo then(match restOf k {bJ.zero with kind:=k,repo:=repo} r with|some (c,[])=>some c|_=>none)else none
 | _=>none
theorem Au(b repo:ByteArray)(r:List ByteArray):lineOf (b::repo::r)=(kindOf b).bind fun k=>if isWord repo then(match restOf k ⟨k,repo,ae,ae,ae,Pt.zero,[]⟩ r with|some (c,[])=>some c|_=>none)else none:=rfl
def partsL(c:UInt8):List UInt8→List (List UInt8)
 | []=>[[]]
 | b::r=>if b=c then[]::partsL c r else match partsL c r with
  | h::t=>(b::h)::t
  | []=>[[b]]
theorem Fh(c:UInt8):∀l,partsL c l≠[]
 | []=>by simp[partsL]
 | b::r=>by
  unfold partsL;split
  ·simp
  ·split<;>simp
theorem QB{c:UInt8}:∀{l:List UInt8},c∉l→partsL c l=[l]
 | [],_=>rfl
 | b::r,h=>by
  have h1 :¬b=c:=fun e=>h (by simp[e]);have h2:c∉r:=fun e=>h (List.mem_cons_of_mem _ e);rw[partsL,if_neg h1,QB h2]
theorem Jv{c:UInt8}:∀{l x:List UInt8},x∈partsL c l→x.length≤l.length∧c∉x
 | [],x,h=>by
  simp only[partsL,List.mem_singleton]at h;subst h;simp
 | b::r,x,h=>by
  unfold partsL at h;split at h
  ·rcases List.mem_cons.1 h with rfl|h
   ·simp
   ·have:=Jv h;exact⟨by simp;omega,this.2⟩
  ·rename_i hb;rcases hp:partsL c r with _|⟨y,t⟩
   ·exact absurd hp (Fh c r)
   ·rw[hp]at h;simp only[List.mem_cons]at h;rcases h with rfl|h
    ·have:=Jv (c:=c) (l:=r) (x:=y) (by rw[hp];simp);exact⟨by simp;omega,by simp only[List.mem_cons,not_or];exact⟨fun e=>hb e.symm,this.2⟩⟩
    ·have:=Jv (c:=c) (l:=r) (x:=x) (by rw[hp];simp[h]);exact⟨by simp;omega,this.2⟩
theorem QC(c:UInt8):∀l,Lib.splitK [c] 0 (Lib.count l [c]) l=partsL c l
 | []=>by rw[Lib.count_one];rfl
 | b::r=>by
  have ih:=QC c r;by_cases h:b=c
  ·subst h;have hi:Lib.index (b::r) [b]=0:=by simp[Lib.index]
   rw[Lib.count_cons_eq,Nat.add_comm,Lib.splitK,hi];simp[partsL,ih]
  ·have hi:Lib.index (b::r) [c]=if Lib.index r [c] == -1 then -1 else Lib.index r [c]+1:=by simp[Lib.index,Ne.symm h]
   rw[Lib.count_cons_ne _ _ _ h,partsL,if_neg h];rcases hk:Lib.count r [c]with _|k
   ·rw[hk]at ih;rw[Lib.splitK]at ih⊢;rw[←ih]
   ·rw[hk]at ih;rw[Lib.splitK]at ih⊢;rw[hi];rcases Lib.index_spec r [c]with⟨h1,_⟩|⟨i,h1,_⟩
    ·rw[h1]at ih⊢;rw[if_pos (by decide)]at ih;rw[if_pos (by decide),←ih]
    ·rw[h1]at ih⊢;have hn:((i:Int) == -1)=false:=by rw[aK];omega
     have hn1:((i:Int)+1 == -1)=false:=by rw[aK];omega
     rw[hn]at ih⊢;simp only[Bool.false_eq_true,if_false]at ih⊢;rw[hn1];simp only[Bool.false_eq_true,if_false];rw[←ih];have e1:((i:Int)+1).toNat=i+1:=by omega
     have e2:(i:Int).toNat=i:=by omega
     rw[e1,e2];simp
theorem tN(b:ByteArray):b.data.toList.length=b.size:=by rw[Array.length_toList];rfl
def wordsOf(c:UInt8)(s:ByteArray):List ByteArray:=Lib.splitB ⟨#[c]⟩ 0 (Lib.countB s ⟨#[c]⟩) s
theorem yx(c:UInt8)(s:ByteArray):(wordsOf c s).map (·.data.toList)=partsL c s.data.toList:=by
 unfold wordsOf;rw[Lib.splitB_data];exact QC c _
theorem Vq(c:UInt8)(s:ByteArray):wordsOf c s≠[]:=fun h=>Fh c s.data.toList (by rw[←yx,h];rfl)
theorem LK{c:UInt8}{s x:ByteArray}(h:x∈wordsOf c s):x.size≤s.size∧c∉x.data.toList:=by
 have h1:x.data.toList∈partsL c s.data.toList:=by
  rw[←yx];exact List.mem_map_of_mem h
 have:=Jv h1;exact⟨by have h2:=this.1;rw[Array.length_toList,Array.length_toList]at h2;exact h2,this.2⟩
theorem Jw(c:UInt8)(s:ByteArray):(wordsOf c s).length=Lib.countB s ⟨#[c]⟩+1:=Lib.splitB_all ⟨#[c]⟩ (aC 1) 0 _ s rfl
end Go.Proofs.YtjjaojnglnpgaaaGreatDoor
