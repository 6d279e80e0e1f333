/- Part 2 of what scriptBack_cardUpto rests on. -/
import Derived.WalkKit
import Derived.WalkLawsBesides
import Derived.WalkSpells
import Derived.BigQuiet
import Derived.Deep.QuietTactic
import Derived.Test.YtjjaojnglnpgaaaGreatDoorProg
import Derived.Lib.Builder
import Derived.Lib.AppendStr
import Derived.OwnWalk
import Derived.Lib.OthersKept
import Derived.Laws.AppendOwn
import Derived.Laws.OwnMore
import Derived.Laws.IdiomStrings
import Derived.Laws.Append
import Derived.Test.YtjjaojnglnpgaaaGreatDoorY00
set_option linter.unusedVariables false
set_option linter.unusedSimpArgs false
set_option maxHeartbeats 16000000
set_option maxRecDepth 1000000
namespace Go.Proofs.YtjjaojnglnpgaaaGreatDoor
inductive Fo where
 | nil
 | cons (kind:Nat) (text:ByteArray) (num:Int) (kids rest:Fo)
namespace Fo
def len:Fo→Nat
 | nil=>0
 | cons _ _ _ _ r=>r.len+1
def drop:Nat→Fo→Fo
 | 0,f=>f
 | _+1,nil=>nil
 | i+1,cons _ _ _ _ r=>drop i r
def take:Nat→Fo→Fo
 | 0,_=>nil
 | _+1,nil=>nil
 | i+1,cons k t n ks r=>cons k t n ks (take i r)
def app:Fo→Fo→Fo
 | nil,g=>g
 | cons k t n ks r,g=>cons k t n ks (app r g)
def size:Fo→Nat
 | nil=>0
 | cons _ t _ ks r=>1+t.size / 8+ks.size+r.size
end Fo
structure Hk where
 at_:Int
 old:List ByteArray
 new:List ByteArray
structure Ed where
 kind:Nat
 path:List Int
 at_:Int
 far:Int
 frm:ByteArray
 to:ByteArray
 old:Fo
 new:Fo
structure Pt where
 kind:Nat
 file:ByteArray
 text:ByteArray
 hunk:Hk
 edit:Ed
def ae:ByteArray:=⟨#[]⟩
def Hk.zero:Hk:=⟨0,[],[]⟩
def Ed.zero:Ed:=⟨0,[],0,0,ae,ae,.nil,.nil⟩
def Pt.zero:Pt:=⟨0,ae,ae,Hk.zero,Ed.zero⟩
def Letter(c:UInt8):Prop:=(97≤c.toNat∧c.toNat≤122)∨(65≤c.toNat∧c.toNat≤90)∨c.toNat=95
def Digit(c:UInt8):Prop:=48≤c.toNat∧c.toNat≤57
def fZ(c:UInt8):Prop:=(97≤c.toNat∧c.toNat≤122)∨(65≤c.toNat∧c.toNat≤90)∨Digit c∨c.toNat=46∨c.toNat=95
def words:List (List UInt8):=
  [[102,117,110,99],[118,97,114],[105,102],[101,108,115,101],[119,104,105,108,101],[114,101,116,117,114,110],[112,114,105,110,116],
   [116,114,117,101],[102,97,108,115,101],[108,101,110],[114,101,97,100]]
def eu(s:ByteArray):Prop:=1≤s.size∧s.size≤24∧∀c∈s.data.toList,fZ c
def dK(s:ByteArray):Prop :=
 s.size≤24∧(∃c l,s.data.toList=c::l∧Letter c)∧s.data.toList∉words∧∀c∈s.data.toList,Letter c∨Digit c
def kN(last:Bool)(s:List UInt8):Prop:=s≠[]∧(∀i,i+1<s.length→s[i]?≠some 10)∧(last=true∨s.getLast?=some 10)
def LinesOk:List ByteArray→Prop
 | []=>True
 | s::l=>kN l.isEmpty s.data.toList∧LinesOk l
def yl(h:Hk):Prop:=0≤h.at_∧h.at_≤1099511627776∧LinesOk h.old∧LinesOk h.new∧h.old≠h.new
def Expr(k:Nat):Prop:=20≤k∧k≤29
def Stmt(k:Nat):Prop:=(6≤k∧k≤12)∨k=5
def many(k:Nat):Option Nat :=
 if k=1∨k=3∨k=5∨k=25 then none
 else if k=2∨k=7∨k=9∨k=24∨k=26∨k=27 then some 2
 else if k=8 then some 3
 else if k=6∨k=10∨k=11∨k=23∨k=28∨k=12 then some 1
 else some 0
def aX(p k i:Nat):Prop :=
  (∀n,many p=some n→i<n)∧
  (if p=1 then k=2
   else if p=2 then(i=0∧k=3)∨(i=1∧k=5)
   else if p=3 then k=4
   else if p=5 then Stmt k
   else if p=7 then(i=0∧(k=22∨k=26))∨(i=1∧Expr k)
   else if p=8∨p=9 then(i=0∧Expr k)∨(0<i∧k=5)
   else if p=12 then k=25
   else Expr k)
def Named(k:Nat):Prop:=k=2∨k=4∨k=6∨k=22∨k=25
instance (k:Nat):Decidable (Named k):=by unfold Named;infer_instance
def binaries:List (List UInt8):=[[124,124],[38,38],[61,61],[33,61],[60],[60,61],[62],[62,61],[43],[45],[42],[47],[37]]
def fV(k:Nat)(t:ByteArray):Prop :=
 if Named k then dK t
 else if k=23 then t.data.toList=[45]∨t.data.toList=[33]
 else if k=24 then t.data.toList∈binaries
 else t.data.toList=[]
def nS(k:Nat):Prop:=(1≤k∧k≤12)∨Expr k
def sW(k:Nat)(n:Int):Prop:=n=0∨(k=20∧0<n)∨(k=21∧n=1)
def kP(k:Nat)(t:ByteArray)(n:Int)(cnt:Nat):Prop:=nS k∧sW k n∧fV k t∧∀m,many k=some m→cnt=m
def Aj(k:Nat)(kids:Fo):Prop:=k=7→match kids with
 | .cons 26 _ _ (.cons j _ _ _ _) _=>j=22
 | _=>True
def gy(m p i:Nat):Fo→Prop
 | .nil=>True
 | .cons k t n ks r=>aX p k i∧1≤m∧kP k t n ks.len∧gy (m-1) k 0 ks∧Aj k ks∧gy m p (i+1) r
def fE(m k:Nat)(t:ByteArray)(n:Int)(ks:Fo):Prop:=1≤m∧kP k t n ks.len∧gy (m-1) k 0 ks∧Aj k ks
def bU:Fo→Prop
 | .cons k t n ks .nil=>fE 40 k t n ks
 | _=>False
def Number(n:Int):Prop:=0≤n∧n≤1073741824
def eY(e:Ed):Prop :=
  (∀n∈e.path,Number n)∧
  ((e.kind=1∧e.at_=0∧e.far=0∧e.old = .nil∧e.new = .nil∧e.path≠[]∧dK e.frm∧dK e.to∧e.frm≠e.to)∨
   (e.kind=2∧e.far=0∧e.frm=ae∧e.to=ae∧e.old = .nil∧Number e.at_∧bU e.new)∨
   (e.kind=3∧e.far=0∧e.frm=ae∧e.to=ae∧e.new = .nil∧Number e.at_∧bU e.old)∨
   (e.kind=4∧e.at_=0∧e.far=0∧e.frm=ae∧e.to=ae∧e.path≠[]∧bU e.old∧bU e.new∧e.old≠e.new)∨
   (e.kind=5∧e.frm=ae∧e.to=ae∧e.new = .nil∧Number e.at_∧Number e.far∧e.at_≠e.far∧bU e.old))
def bV(p:Pt):Prop :=
  eu p.file∧
  (((p.kind=1∨p.kind=2)∧p.hunk=Hk.zero∧p.edit=Ed.zero)∨
   (p.kind=3∧p.text=ae∧p.edit=Ed.zero∧yl p.hunk)∨
   (p.kind=4∧p.text=ae∧p.hunk=Hk.zero∧eY p.edit))
def au(n:Int):List UInt8 :=
  let u:=(n % 18446744073709551616).toNat
  [UInt8.ofNat (u / 72057594037927936),UInt8.ofNat (u / 281474976710656),UInt8.ofNat (u / 1099511627776),UInt8.ofNat (u / 4294967296),
   UInt8.ofNat (u / 16777216),UInt8.ofNat (u / 65536),UInt8.ofNat (u / 256),UInt8.ofNat u]
def aP(s:ByteArray):List UInt8:=au s.size++s.data.toList
def bC(l:List ByteArray):List UInt8:=au l.length++(l.map aP).flatten
def di(l:List Int):List UInt8:=au l.length++(l.map au).flatten
def fC:Fo→List UInt8
 | .nil=>[]
 | .cons k t n ks r=>UInt8.ofNat k::(aP t++(au n++(au ks.len++fC ks)))++fC r
def aS(f:Fo):List UInt8:=au f.len++fC f
def gV(e:Ed):List UInt8 :=
 UInt8.ofNat e.kind::(di e.path++(au e.at_++(au e.far++(aP e.frm++(aP e.to++(aS e.old++aS e.new))))))
def dX(p:Pt):List UInt8 :=
 UInt8.ofNat p.kind::(aP p.file ++
  (if p.kind=3 then au p.hunk.at_++(bC p.hunk.old++bC p.hunk.new)else if p.kind=4 then gV p.edit else aP p.text))
section
open Go.RowKit
theorem hide{p:Prop}(h:p):Hid p:=h
def ag(P:Prop)(e:Ending):Prop:=∃b:Bool,e = .returned (.bool b)∧(b=true↔P)
theorem ag.mk{P:Prop}{b:Bool}(h:b=true↔P):ag P (.returned (.bool b)):=⟨b,rfl,h⟩
theorem ag.yes{P:Prop}(h:P):ag P (.returned (.bool true)):=⟨true,rfl,by simp[h]⟩
theorem ag.no{P:Prop}(h :¬P):ag P (.returned (.bool false)):=⟨false,rfl,by simp[h]⟩
theorem nT(s:ByteArray)(k:Nat)(h:k<s.size):s[k]∈s.data.toList:=by
 have:s[k]=s.data[k]'(by simpa using h):=rfl;rw[this];simp
theorem yt{s:ByteArray}{P:UInt8→Prop}(h :∀j,(h':j<s.size)→P (s[j])):∀c∈s.data.toList,P c:=by
 intro c hc;obtain⟨j,hj,rfl⟩:=List.getElem_of_mem hc;exact h j (by simpa using hj)
theorem lH(s:ByteArray):s.toList=[]↔¬1≤s.size:=by
 rw[ByteArray.toList_eq s];obtain⟨⟨l⟩⟩:=s;show l=[]↔¬1≤l.length;cases l<;>simp
def Rd(S:Nat→Prop)(w:World)(A:Option Addr)(xs:List Value):Prop :=
 xs=[]∨∃b o,A=some ⟨b,o,none⟩∧S b∧∀j u,xs[j]?=some u→w.cell? ⟨b,o+j,none⟩=some u
section
variable {S S' : Nat → Prop} {w w' : World} {A : Option Addr} {xs : List Value} {B : Nat}
theorem Rd.keep(h:Rd S w A xs)(hk :∀b,S b→w'.heap[b]?=w.heap[b]?):Rd S w' A xs:=by
 rcases h with h|⟨b,o,rfl,hS,hc⟩
 ·exact .inl h
 ·exact .inr ⟨b,o,rfl,hS,fun j u hu=>(World.cell?_of_block (hk b hS)).trans (hc j u hu)⟩
theorem Rd.mono(h:Rd S w A xs)(hm :∀b,b<w.heap.size→S b→S' b):Rd S' w A xs:=by
 rcases h with h|⟨b,o,rfl,hS,hc⟩
 ·exact .inl h
 ·rcases xs with _|⟨x,xs⟩
  ·exact .inl rfl
  ·exact .inr ⟨b,o,rfl,hm b (block_lt_of_cell (hc 0 x rfl)) hS,hc⟩
theorem Rd.below(h:Rd S w A xs)(hb:Below w.heap.size w w'):Rd S w' A xs:=by
 rcases h with h|⟨b,o,rfl,hS,hc⟩
 ·exact .inl h
 ·exact .inr ⟨b,o,rfl,hS,fun j u hu=>(hb.cell (p:=⟨b,o+j,none⟩) (block_lt_of_cell (hc j u hu))).trans (hc j u hu)⟩
theorem Rd.at_(h:Rd S w A xs){j:Nat}(hj:j<xs.length):∃b o,A=some ⟨b,o,none⟩∧w.cell? ⟨b,o+j,none⟩=some xs[j]:=by
 rcases h with h|⟨b,o,rfl,hS,hc⟩
 ·subst h;simp at hj
 ·exact⟨b,o,rfl,hc j _ (by simp[hj])⟩
theorem Rd.nil:Rd S w A []:= .inl rfl
theorem az(w:World)(o:Obj):Below w.heap.size w (w.alloc o):=(Below.refl _ _).alloc (aC _) _
theorem fM{W w1:World}(hb:Below W.heap.size W w1):(∀b o,b<W.heap.size→w1.cell? ⟨b,o,none⟩=W.cell? ⟨b,o,none⟩)∧(∀b o,b<W.heap.size→w1.frozen? ⟨b,o,none⟩=W.frozen? ⟨b,o,none⟩):=
 ⟨fun b o h=>hb.cell (p:=⟨b,o,none⟩) h,fun b o h=>hb.frozen (p:=⟨b,o,none⟩) h⟩
end
theorem Ak{B:Nat}{a w:World}(h:Below B a w)(n:Nat):Below B a (w.drewN n):=⟨h.os,h.tape,h.output,h.size,h.block⟩
theorem fO{w:World}(o o':Obj):Below w.heap.size w ((w.alloc o).alloc o'):=((Below.refl _ _).alloc (aC _) _).alloc (by simp) _
theorem aZ{w w1 w2:World}(h:Below w.heap.size w w1)(h2:Below w1.heap.size w1 w2):Below w.heap.size w w2:=h.trans (h2.mono h.size)
theorem Am{w w2:World}{o o':Obj}(h:Below ((w.alloc o).alloc o').heap.size ((w.alloc o).alloc o') w2):Below w.heap.size w w2:=aZ (fO o o') h
theorem Jm{w W:World}(h:Below w.drew.heap.size w.drew W):Below w.heap.size w W:=⟨h.os,h.tape,h.output,h.size,h.block⟩
theorem Ap{w:World}(a b c d:Obj):Below w.heap.size w ((((w.alloc a).alloc b).alloc c).alloc d):=
 ((((Below.refl _ _).alloc (aC _) _).alloc (by simp) _).alloc (by simp;omega) _).alloc (by simp;omega) _
theorem Lm{w:World}(a b c d:Obj):Below w.heap.size w (((((w.alloc a).alloc b).alloc c).alloc d).drew):=
 (((((Below.refl _ _).alloc (aC _) _).alloc (by simp) _).alloc (by simp;omega) _).alloc (by simp;omega) _).drew
theorem bW{w W:World}(h:Below w.heap.size w W)(q:Nat):Below w.heap.size w (W.drewN q):=Ak h q
section
variable {S S' : Nat → Prop} {w w' : World} {A : Option Addr} {xs : List Value} {B : Nat}
theorem Rd.alloc(h:Rd S w A xs)(o:Obj):Rd S (w.alloc o) A xs:=h.below (az w o)
end
def ay(n:Int):Prop:=-9223372036854775808≤n∧n≤9223372036854775807
def bH(S:Nat→Prop)(w:World)(A:Option Addr)(l:List ByteArray):Prop :=
 Rd S w A (l.map .string)∧(∀s∈l,s.size≤9223372036854775807)∧l.length≤9223372036854775807
def IntsIn(S:Nat→Prop)(w:World)(A:Option Addr)(l:List Int):Prop :=
 Rd S w A (l.map (.int .i64))∧(∀n∈l,ay n)∧l.length≤9223372036854775807
def bytesV(l:List UInt8):List Value:=l.map fun c=> .int .u8 c.toNat
def BytesIn(S:Nat→Prop)(w:World)(A:Option Addr)(l:List UInt8):Prop :=
 Rd S w A (bytesV l)∧l.length≤9223372036854775807
def bz(S:Nat→Prop)(w:World):Option Addr→Fo→Prop
 | _,.nil=>True
 | A,.cons k t n ks r=>∃b o KA c,A=some ⟨b,o,none⟩∧S b∧w.cell? ⟨b,o,none⟩=some (.int .u8 k)∧w.cell? ⟨b,o+1,none⟩=some (.string t)∧
   w.cell? ⟨b,o+2,none⟩=some (.int .i64 n)∧w.cell? ⟨b,o+3,none⟩=some (.slice KA ks.len c)∧
   k<256∧t.size≤9223372036854775807∧ay n∧ks.len≤c∧c≤9223372036854775807∧bz S w KA ks∧bz S w (some ⟨b,o+4,none⟩) r
def Fo.cnt:Fo→Nat
 | .nil=>0
 | .cons _ _ _ ks r=>1+ks.cnt+r.cnt
theorem Fo.drop_succ{f:Fo}{i k:Nat}{t:ByteArray}{n:Int}{ks r:Fo}(h:f.drop i = .cons k t n ks r):f.drop (i+1)=r:=by
 induction i generalizing f with
 | zero=>cases f with
  | nil=>cases h
  | cons=>cases h;rfl
 | succ i ih=>cases f with
  | nil=>cases h
  | cons=>exact ih h
theorem Fo.drop_len :∀(f:Fo) (i:Nat),f.len≤i→f.drop i = .nil:=by
 intro f
 induction f with
 | nil=>intro i _;cases i<;>rfl
 | cons k t n ks r _ ih=>intro i hi;cases i with
  | zero=>simp[Fo.len]at hi
  | succ i=>exact ih i (by simp[Fo.len]at hi;omega)
theorem Fo.len_drop :∀(f:Fo) (i:Nat),(f.drop i).len=f.len-i:=by
 intro f
 induction f with
 | nil=>intro i;cases i<;>simp[Fo.drop,Fo.len]
 | cons k t n ks r _ ih=>intro i;cases i with
  | zero=>simp[Fo.drop]
  | succ i=>simp[Fo.drop,Fo.len,ih i]
section
variable {S S' : Nat → Prop} {w w' : World} {B : Nat}
theorem bz.keep :∀{f:Fo} {A:Option Addr},bz S w A f→(∀b,S b→w'.heap[b]?=w.heap[b]?)→bz S w' A f:=by
 intro f
 induction f with
 | nil=>intro A _ _;exact trivial
 | cons k t n ks r ihk ihr =>
  rintro A ⟨b,o,KA,c,rfl,hS,c0,c1,c2,c3,e1,e2,e3,e4,e5,hks,hr⟩ hk;have hb:=hk b hS;exact⟨b,o,KA,c,rfl,hS,(World.cell?_of_block hb).trans c0,(World.cell?_of_block hb).trans c1,(World.cell?_of_block hb).trans c2,(World.cell?_of_block hb).trans c3,e1,e2,e3,e4,e5,ihk hks hk,ihr hr hk⟩
theorem bz.mono :∀{f:Fo} {A:Option Addr},bz S w A f→(∀b,b<w.heap.size→S b→S' b)→bz S' w A f:=by
 intro f
 induction f with
 | nil=>intro A _ _;exact trivial
 | cons k t n ks r ihk ihr =>
  rintro A ⟨b,o,KA,c,rfl,hS,c0,c1,c2,c3,e1,e2,e3,e4,e5,hks,hr⟩ hm;exact⟨b,o,KA,c,rfl,hm b (block_lt_of_cell c0) hS,c0,c1,c2,c3,e1,e2,e3,e4,e5,ihk hks hm,ihr hr hm⟩
theorem bz.below :∀{f:Fo} {A:Option Addr},bz S w A f→Below w.heap.size w w'→bz S w' A f:=by
 intro f A h hb;have h2:bz (fun b=>S b∧b<w.heap.size) w A f:=h.mono fun b hlt hS=>⟨hS,hlt⟩;exact(h2.keep (w':=w') fun b hS=>hb.block b hS.2).mono fun b _ hS=>hS.1
theorem bz.at_ :∀{f:Fo} {A:Option Addr} {i:Nat},bz S w A f→i<f.len→∃b o KA c k t n ks r,A=some ⟨b,o,none⟩∧f.drop i = .cons k t n ks r∧
  w.cell? ⟨b,o+i*4,none⟩=some (.int .u8 k)∧w.cell? ⟨b,o+i*4+1,none⟩=some (.string t)∧
  w.cell? ⟨b,o+i*4+2,none⟩=some (.int .i64 n)∧w.cell? ⟨b,o+i*4+3,none⟩=some (.slice KA ks.len c)∧
  k<256∧t.size≤9223372036854775807∧ay n∧ks.len≤c∧c≤9223372036854775807∧bz S w KA ks∧ks.cnt<f.cnt:=by
 intro f
 induction f with
 | nil=>intro A i _ h;simp[Fo.len]at h
 | cons k t n ks r ihk ihr =>
  rintro A i ⟨b,o,KA,c,rfl,hS,c0,c1,c2,c3,e1,e2,e3,e4,e5,hks,hr⟩ hi;cases i with
  | zero=>exact⟨b,o,KA,c,k,t,n,ks,r,rfl,rfl,by simpa using c0,by simpa using c1,by simpa using c2,by simpa using c3,e1,e2,e3,e4,e5,hks,by simp[Fo.cnt];omega⟩
  | succ i =>
   obtain⟨b',o',nU,c',k',t',n',ks',r',hA,hd,d0,d1,d2,d3,f1,f2,f3,f4,f5,dR,hcnt⟩:=ihr hr (by simpa[Fo.len]using hi);injection hA with hA;injection hA with h1 h2;subst h1;subst h2;have ho:o+4+i*4=o+(i+1)*4:=by omega
   rw[ho]at d0 d1 d2 d3;exact⟨b,o,nU,c',k',t',n',ks',r',rfl,hd,d0,d1,d2,d3,f1,f2,f3,f4,f5,dR,by simp[Fo.cnt];omega⟩
end
end
section
open Go.RowKit
structure Hh where
 oA:Option Addr
 oc:Nat
 nA:Option Addr
 nc:Nat
structure Eh where
 pA:Option Addr
 pc:Nat
 oA:Option Addr
 oc:Nat
 nA:Option Addr
 nc:Nat
structure Ph where
 h:Hh
 e:Eh
structure gW(S:Nat→Prop)(w:World)(x:Hh)(h:Hk):Prop where
 at_:ay h.at_
 old:bH S w x.oA h.old
 new:bH S w x.nA h.new
 oc:h.old.length≤x.oc∧x.oc≤9223372036854775807
 nc:h.new.length≤x.nc∧x.nc≤9223372036854775807
structure dD(S:Nat→Prop)(w:World)(x:Eh)(e:Ed):Prop where
 kind:e.kind<256
 path:IntsIn S w x.pA e.path
 at_:ay e.at_
 far:ay e.far
 frm:e.frm.size≤9223372036854775807
 to:e.to.size≤9223372036854775807
 old:bz S w x.oA e.old
 new:bz S w x.nA e.new
 pc:e.path.length≤x.pc∧x.pc≤9223372036854775807
 oc:e.old.len≤x.oc∧x.oc≤9223372036854775807
 nc:e.new.len≤x.nc∧x.nc≤9223372036854775807
structure aV(S:Nat→Prop)(w:World)(x:Ph)(p:Pt):Prop where
 kind:p.kind<256
 file:p.file.size≤9223372036854775807
 text:p.text.size≤9223372036854775807
 hunk:gW S w x.h p.hunk
 edit:dD S w x.e p.edit
section
variable {S S' : Nat → Prop} {w w' : World} {A : Option Addr}
theorem bH.keep{l:List ByteArray}(h:bH S w A l)(hk :∀b,S b→w'.heap[b]?=w.heap[b]?):bH S w' A l:=⟨h.1.keep hk,h.2⟩
theorem bH.mono{l:List ByteArray}(h:bH S w A l)(hm :∀b,b<w.heap.size→S b→S' b):bH S' w A l:=⟨h.1.mono hm,h.2⟩
theorem bH.below{l:List ByteArray}(h:bH S w A l)(hb:Below w.heap.size w w'):bH S w' A l:=⟨h.1.below hb,h.2⟩
theorem IntsIn.keep{l:List Int}(h:IntsIn S w A l)(hk :∀b,S b→w'.heap[b]?=w.heap[b]?):IntsIn S w' A l:=⟨h.1.keep hk,h.2⟩
theorem IntsIn.mono{l:List Int}(h:IntsIn S w A l)(hm :∀b,b<w.heap.size→S b→S' b):IntsIn S' w A l:=⟨h.1.mono hm,h.2⟩
theorem IntsIn.below{l:List Int}(h:IntsIn S w A l)(hb:Below w.heap.size w w'):IntsIn S w' A l:=⟨h.1.below hb,h.2⟩
theorem BytesIn.keep{l:List UInt8}(h:BytesIn S w A l)(hk :∀b,S b→w'.heap[b]?=w.heap[b]?):BytesIn S w' A l:=⟨h.1.keep hk,h.2⟩
theorem BytesIn.mono{l:List UInt8}(h:BytesIn S w A l)(hm :∀b,b<w.heap.size→S b→S' b):BytesIn S' w A l:=⟨h.1.mono hm,h.2⟩
theorem BytesIn.below{l:List UInt8}(h:BytesIn S w A l)(hb:Below w.heap.size w w'):BytesIn S w' A l:=⟨h.1.below hb,h.2⟩
theorem gW.keep{x:Hh}{h:Hk}(a:gW S w x h)(hk :∀b,S b→w'.heap[b]?=w.heap[b]?):gW S w' x h:=⟨a.at_,a.old.keep hk,a.new.keep hk,a.oc,a.nc⟩
theorem gW.mono{x:Hh}{h:Hk}(a:gW S w x h)(hm :∀b,b<w.heap.size→S b→S' b):gW S' w x h:=⟨a.at_,a.old.mono hm,a.new.mono hm,a.oc,a.nc⟩
theorem gW.below{x:Hh}{h:Hk}(a:gW S w x h)(hb:Below w.heap.size w w'):gW S w' x h:=⟨a.at_,a.old.below hb,a.new.below hb,a.oc,a.nc⟩
theorem dD.keep{x:Eh}{e:Ed}(a:dD S w x e)(hk :∀b,S b→w'.heap[b]?=w.heap[b]?):dD S w' x e:=⟨a.kind,a.path.keep hk,a.at_,a.far,a.frm,a.to,a.old.keep hk,a.new.keep hk,a.pc,a.oc,a.nc⟩
theorem dD.mono{x:Eh}{e:Ed}(a:dD S w x e)(hm :∀b,b<w.heap.size→S b→S' b):dD S' w x e:=⟨a.kind,a.path.mono hm,a.at_,a.far,a.frm,a.to,a.old.mono hm,a.new.mono hm,a.pc,a.oc,a.nc⟩
theorem dD.below{x:Eh}{e:Ed}(a:dD S w x e)(hb:Below w.heap.size w w'):dD S w' x e:=⟨a.kind,a.path.below hb,a.at_,a.far,a.frm,a.to,a.old.below hb,a.new.below hb,a.pc,a.oc,a.nc⟩
theorem aV.keep{x:Ph}{p:Pt}(a:aV S w x p)(hk :∀b,S b→w'.heap[b]?=w.heap[b]?):aV S w' x p:=⟨a.kind,a.file,a.text,a.hunk.keep hk,a.edit.keep hk⟩
theorem aV.mono{x:Ph}{p:Pt}(a:aV S w x p)(hm :∀b,b<w.heap.size→S b→S' b):aV S' w x p:=⟨a.kind,a.file,a.text,a.hunk.mono hm,a.edit.mono hm⟩
theorem aV.below{x:Ph}{p:Pt}(a:aV S w x p)(hb:Below w.heap.size w w'):aV S w' x p:=⟨a.kind,a.file,a.text,a.hunk.below hb,a.edit.below hb⟩
end
theorem Hk.eq_iff{a b:Hk}:a=b↔a.at_=b.at_∧a.old=b.old∧a.new=b.new:=by cases a;cases b;simp
theorem Ed.eq_iff{a b:Ed}:a=b↔a.kind=b.kind∧a.path=b.path∧a.at_=b.at_∧a.far=b.far∧a.frm=b.frm∧a.to=b.to∧a.old=b.old∧a.new=b.new:=by cases a;cases b;simp
theorem Pt.eq_iff{a b:Pt}:a=b↔a.kind=b.kind∧a.file=b.file∧a.text=b.text∧a.hunk=b.hunk∧a.edit=b.edit:=by cases a;cases b;simp
theorem Pt.eq_all{a b:Pt}:a=b↔a.kind=b.kind∧a.file=b.file∧a.text=b.text∧a.hunk.at_=b.hunk.at_∧a.hunk.old=b.hunk.old∧a.hunk.new=b.hunk.new∧
  a.edit.kind=b.edit.kind∧a.edit.path=b.edit.path∧a.edit.at_=b.edit.at_∧a.edit.far=b.edit.far∧a.edit.frm=b.edit.frm∧a.edit.to=b.edit.to∧a.edit.old=b.edit.old∧a.edit.new=b.edit.new:=by
 rw[Pt.eq_iff,Hk.eq_iff,Ed.eq_iff];grind
end
def aT(n:Int):Prop:=-9223372036854775808≤n∧n≤9223372036854775807
abbrev aU:Nat:=9223372036854775807
def Fo.fit:Fo→Prop
 | .nil=>True
 | .cons k t n ks r=>k<256∧t.size≤aU∧aT n∧ks.len≤aU∧ks.fit∧r.fit
def Fo.high:Fo→Nat
 | .nil=>0
 | .cons _ _ _ ks r=>max (ks.high+1) r.high
theorem fD(n:Int):(au n).length=8:=rfl
theorem Jn(n:Nat):(UInt8.ofNat n).toNat=n % 256:=by simp
theorem sZ{a b:Nat}(ha:a<18446744073709551616)(hb:b<18446744073709551616)
  (h0:a / 72057594037927936 % 256=b / 72057594037927936 % 256) (h1:a / 281474976710656 % 256=b / 281474976710656 % 256) (h2:a / 1099511627776 % 256=b / 1099511627776 % 256) (h3:a / 4294967296 % 256=b / 4294967296 % 256)
  (h4:a / 16777216 % 256=b / 16777216 % 256) (h5:a / 65536 % 256=b / 65536 % 256) (h6:a / 256 % 256=b / 256 % 256) (h7:a % 256=b % 256):a=b:=by
 omega
theorem tq{a b:Int}(ha:aT a)(hb:aT b)(h:au a=au b):a=b:=by
 have hp:(a % 18446744073709551616).toNat=(b % 18446744073709551616).toNat:=by
  simp only[au,List.cons.injEq,and_true]at h;obtain⟨h0,h1,h2,h3,h4,h5,h6,h7⟩:=h;have k0:=congrArg UInt8.toNat h0;have k1:=congrArg UInt8.toNat h1;have k2:=congrArg UInt8.toNat h2;have k3:=congrArg UInt8.toNat h3;have k4:=congrArg UInt8.toNat h4;have k5:=congrArg UInt8.toNat h5;have k6:=congrArg UInt8.toNat h6;have k7:=congrArg UInt8.toNat h7;simp only[Jn]at k0 k1 k2 k3 k4 k5 k6 k7;exact sZ (by omega) (by omega) k0 k1 k2 k3 k4 k5 k6 k7
 unfold aT at ha hb;omega
theorem jg{a b:Int}{x y:List UInt8}(ha:aT a)(hb:aT b)(h:au a++x=au b++y):a=b∧x=y:=by
 obtain⟨h1,h2⟩:=List.append_inj h rfl;exact⟨tq ha hb h1,h2⟩
theorem lI{n:Nat}(h:n≤aU):aT n:=by unfold aT;simp only[aU]at h;omega
theorem Jo{s t:ByteArray}(h:s.data.toList=t.data.toList):s=t:=by
 obtain⟨⟨a⟩⟩:=s;obtain⟨⟨b⟩⟩:=t;simp at h;subst h;rfl
theorem mO{s t:ByteArray}{x y:List UInt8}(hs:s.size≤aU)(ht:t.size≤aU)(h:aP s++x=aP t++y):s=t∧x=y:=by
 unfold aP at h;rw[List.append_assoc,List.append_assoc]at h;obtain⟨h1,h2⟩:=jg (lI hs) (lI ht) h;have hl:s.data.toList.length=t.data.toList.length:=by
  have e1:s.data.toList.length=s.size:=by simp
  have e2:t.data.toList.length=t.size:=by simp
  omega
 obtain⟨h3,h4⟩:=List.append_inj h2 hl;exact⟨Jo h3,h4⟩
def rowB{α:Type}(enc:α→List UInt8)(l:List α):List UInt8:=au l.length++(l.map enc).flatten
theorem Qm{α:Type}{enc:α→List UInt8}{fit:α→Prop}(hs :∀a b x y,fit a→fit b→enc a++x=enc b++y→a=b∧x=y):
  ∀{l m:List α} {x y:List UInt8},(∀a∈l,fit a)→(∀a∈m,fit a)→l.length=m.length→(l.map enc).flatten++x=(m.map enc).flatten++y→l=m∧x=y:=by
 intro l
 induction l with
 | nil=>intro m x y _ _ hlen h;cases m with
  | nil=>exact⟨rfl,h⟩
  | cons=>simp at hlen
 | cons a l ih=>intro m x y hl hm hlen h;cases m with
  | nil=>simp at hlen
  | cons b m =>
   simp only[List.map_cons,List.flatten_cons,List.append_assoc]at h;obtain⟨e1,h1⟩:=hs a b _ _ (hl a (by simp)) (hm b (by simp)) h;obtain⟨e2,h2⟩:=ih (fun c hc=>hl c (List.mem_cons_of_mem _ hc)) (fun c hc=>hm c (List.mem_cons_of_mem _ hc)) (by simpa using hlen) h1;exact⟨by rw[e1,e2],h2⟩
theorem Qn{α:Type}{enc:α→List UInt8}{fit:α→Prop}(hs :∀a b x y,fit a→fit b→enc a++x=enc b++y→a=b∧x=y)
  {l m:List α} {x y:List UInt8} (hl:(∀a∈l,fit a)∧l.length≤aU) (hm:(∀a∈m,fit a)∧m.length≤aU) (h:rowB enc l++x=rowB enc m++y):l=m∧x=y:=by
 unfold rowB at h;rw[List.append_assoc,List.append_assoc]at h;obtain⟨h1,h2⟩:=jg (lI hl.2) (lI hm.2) h;exact Qm hs hl.1 hm.1 (by omega) h2
def gz(l:List ByteArray):Prop:=(∀s∈l,s.size≤aU)∧l.length≤aU
def dZ(l:List Int):Prop:=(∀n∈l,aT n)∧l.length≤aU
theorem Lp{l m:List ByteArray}{x y:List UInt8}(hl:gz l)(hm:gz m)(h:bC l++x=bC m++y):l=m∧x=y :=
 Qn (enc:=aP) (fit:=fun s=>s.size≤aU) (fun _ _ _ _ ha hb h=>mO ha hb h) hl hm h
theorem BO{l m:List Int}{x y:List UInt8}(hl:dZ l)(hm:dZ m)(h:di l++x=di m++y):l=m∧x=y :=
 Qn (enc:=au) (fit:=aT) (fun _ _ _ _ ha hb h=>jg ha hb h) hl hm h
theorem Lr{j k:Nat}(hj:j<256)(hk:k<256)(h:UInt8.ofNat j=UInt8.ofNat k):j=k:=by
 have:=congrArg UInt8.toNat h;simp only[Jn]at this;omega
def eU(k:Nat)(t:ByteArray)(n:Int)(ks:Fo):List UInt8:=UInt8.ofNat k::(aP t++(au n++aS ks))
theorem Jp(k:Nat)(t:ByteArray)(n:Int)(ks r:Fo):fC (.cons k t n ks r)=eU k t n ks++fC r:=rfl
theorem Qo :∀{f g:Fo} {x y:List UInt8},f.fit→g.fit→f.len=g.len→fC f++x=fC g++y→f=g∧x=y:=by
 intro f
 induction f with
 | nil=>intro g x y _ _ hlen h;cases g with
  | nil=>exact⟨rfl,h⟩
  | cons=>simp[Fo.len]at hlen
 | cons k t n ks r ihk ihr=>intro g x y hf hg hlen h;cases g with
  | nil=>simp[Fo.len]at hlen
  | cons k' t' n' ks' r' =>
   obtain⟨f1,f2,f3,f4,f5,f6⟩:=hf;obtain⟨g1,g2,g3,g4,g5,g6⟩:=hg;simp only[fC,List.cons_append,List.append_assoc,List.cons.injEq]at h;obtain⟨h0,h⟩:=h;have e0:=Lr f1 g1 h0;obtain⟨e1,h1⟩:=mO f2 g2 h;obtain⟨e2,h2⟩:=jg f3 g3 h1;obtain⟨hl,h3⟩:=jg (lI f4) (lI g4) h2;obtain⟨e3,h4⟩:=ihk f5 g5 (by omega) h3;obtain⟨e4,h5⟩:=ihr f6 g6 (by simpa[Fo.len]using hlen) h4;exact⟨by rw[e0,e1,e2,e3,e4],h5⟩
def dL(f:Fo):Prop:=f.fit∧f.len≤aU
theorem Ls{f g:Fo}{x y:List UInt8}(hf:dL f)(hg:dL g)(h:aS f++x=aS g++y):f=g∧x=y:=by
 unfold aS at h;rw[List.append_assoc,List.append_assoc]at h;obtain⟨h1,h2⟩:=jg (lI hf.2) (lI hg.2) h;exact Qo hf.1 hg.1 (by omega) h2
def nV(k:Nat)(t:ByteArray)(n:Int)(ks:Fo):Prop:=k<256∧t.size≤aU∧aT n∧dL ks
structure jS(e:Ed):Prop where
 kind:e.kind<256
 path:dZ e.path
 at_:aT e.at_
 far:aT e.far
 frm:e.frm.size≤aU
 to:e.to.size≤aU
 old:dL e.old
 new:dL e.new
theorem pU{d e:Ed}{x y:List UInt8}(hd:jS d)(he:jS e)(h:gV d++x=gV e++y):d=e∧x=y:=by
 unfold gV at h;simp only[List.cons_append,List.append_assoc,List.cons.injEq]at h;obtain⟨h0,h⟩:=h;have a0:=Lr hd.kind he.kind h0;obtain⟨a1,h⟩:=BO hd.path he.path h;obtain⟨a2,h⟩:=jg hd.at_ he.at_ h;obtain⟨a3,h⟩:=jg hd.far he.far h;obtain⟨a4,h⟩:=mO hd.frm he.frm h;obtain⟨a5,h⟩:=mO hd.to he.to h;obtain⟨a6,h⟩:=Ls hd.old he.old h;obtain⟨a7,h9⟩:=Ls hd.new he.new h;clear h;cases d;cases e;simp only at a0 a1 a2 a3 a4 a5 a6 a7;exact⟨by rw[a0,a1,a2,a3,a4,a5,a6,a7],h9⟩
structure Aq(h:Hk):Prop where
 at_:aT h.at_
 old:gz h.old
 new:gz h.new
structure dn(p:Pt):Prop where
 kind:p.kind<256
 file:p.file.size≤aU
 text:p.text.size≤aU
 hunk:Aq p.hunk
 edit:jS p.edit
def Bare(p:Pt):Prop:=if p.kind=3 then p.text=ae∧p.edit=Ed.zero else if p.kind=4 then p.text=ae∧p.hunk=Hk.zero else p.hunk=Hk.zero∧p.edit=Ed.zero
theorem bV.bare{p:Pt}(h:bV p):Bare p:=by
 unfold Bare;obtain⟨_,⟨h1|h1,h2,h3⟩|⟨h1,h2,h3,_⟩|⟨h1,h2,h3,_⟩⟩:=h<;>simp[*]
theorem Jq{p q:Pt}{x y:List UInt8}(hp:dn p)(hq:dn q)(bp:Bare p)(bq:Bare q)(h:dX p++x=dX q++y):p=q∧x=y:=by
 unfold dX at h;simp only[List.cons_append,List.append_assoc,List.cons.injEq]at h;obtain⟨h0,h⟩:=h;have a0:=Lr hp.kind hq.kind h0;obtain⟨a1,g⟩:=mO hp.file hq.file h;clear h;unfold Bare at bp bq;obtain⟨pk,pf,pt,ph,pe⟩:=p;obtain⟨qk,qf,qt,qh,qe⟩:=q;obtain⟨_,_,p3,p4,p5⟩:=hp;obtain⟨_,_,q3,q4,q5⟩:=hq;simp only at *
 subst a0;subst a1;by_cases h3:pk=3
 ·simp only[h3,if_true]at g bp bq;rw[List.append_assoc,List.append_assoc,List.append_assoc,List.append_assoc]at g;obtain⟨b1,g1⟩:=jg p4.at_ q4.at_ g;obtain⟨b2,g2⟩:=Lp p4.old q4.old g1;obtain⟨b3,g3⟩:=Lp p4.new q4.new g2;obtain⟨c1,c2⟩:=bp;obtain⟨c3,c4⟩:=bq;have e:ph=qh:=by
   cases ph;cases qh;simp only at b1 b2 b3;rw[b1,b2,b3]
  exact⟨by rw[c1,c2,c3,c4,e],g3⟩
 ·by_cases h4:pk=4
  ·rw[if_neg h3,if_pos h4]at bp bq;rw[if_neg h3,if_pos h4,if_neg h3,if_pos h4]at g;obtain⟨b1,g1⟩:=pU p5 q5 g;obtain⟨c1,c2⟩:=bp;obtain⟨c3,c4⟩:=bq;exact⟨by rw[c1,c2,c3,c4,b1],g1⟩
  ·rw[if_neg h3,if_neg h4]at bp bq;rw[if_neg h3,if_neg h4,if_neg h3,if_neg h4]at g;obtain⟨b1,g1⟩:=mO p3 q3 g;obtain⟨c1,c2⟩:=bp;obtain⟨c3,c4⟩:=bq;exact⟨by rw[c1,c2,c3,c4,b1],g1⟩
theorem Fo.len_app :∀f g:Fo,(f.app g).len=f.len+g.len:=by
 intro f
 induction f with
 | nil=>intro g;simp[Fo.app,Fo.len]
 | cons k t n ks r _ ih=>intro g;simp[Fo.app,Fo.len,ih g];omega
theorem Jr :∀f g:Fo,fC (f.app g)=fC f++fC g:=by
 intro f
 induction f with
 | nil=>intro g;rfl
 | cons k t n ks r _ ih=>intro g;simp[Fo.app,fC,ih g]
theorem Fo.app_nil :∀f:Fo,f.app .nil=f:=by
 intro f
 induction f with
 | nil=>rfl
 | cons k t n ks r _ ih=>simp[Fo.app,ih]
theorem Fo.take_drop :∀(i:Nat) (f:Fo),(f.take i).app (f.drop i)=f:=by
 intro i
 induction i with
 | zero=>intro f;cases f<;>rfl
 | succ i ih=>intro f;cases f with
  | nil=>rfl
  | cons k t n ks r=>simp[Fo.take,Fo.drop,Fo.app,ih r]
theorem Fo.len_take :∀(i:Nat) (f:Fo),i≤f.len→(f.take i).len=i:=by
 intro i
 induction i with
 | zero=>intro f _;cases f<;>rfl
 | succ i ih=>intro f h;cases f with
  | nil=>simp[Fo.len]at h
  | cons k t n ks r=>simp[Fo.take,Fo.len,ih r (by simpa[Fo.len]using h)]
theorem Fo.fit_app :∀{f g:Fo},(f.app g).fit↔f.fit∧g.fit:=by
 intro f g
 induction f with
 | nil=>simp[Fo.app,Fo.fit]
 | cons k t n ks r _ ih=>simp[Fo.app,Fo.fit,ih];grind
theorem Fo.high_app :∀{f g:Fo},(f.app g).high=max f.high g.high:=by
 intro f g
 induction f with
 | nil=>simp[Fo.app,Fo.high]
 | cons k t n ks r _ ih=>simp[Fo.app,Fo.high,ih,Nat.max_assoc]
theorem Fo.fit_take{f:Fo}(i:Nat)(h:f.fit):(f.take i).fit∧(f.drop i).fit:=by
 rw[←Fo.take_drop i f]at h;exact Fo.fit_app.mp h
theorem Vg{f g:Fo}{x y:List UInt8}(hf:f.fit)(hg:g.fit)(hle:f.len≤g.len)(h:fC f++x=fC g++y):f=g.take f.len∧x=fC (g.drop f.len)++y:=by
 rw[←Fo.take_drop f.len g,Jr,List.append_assoc]at h;have:=Fo.fit_take f.len hg;exact Qo hf this.1 (Fo.len_take _ _ hle).symm h
theorem Vh{α:Type}{enc:α→List UInt8}{fit:α→Prop}(hs :∀a b x y,fit a→fit b→enc a++x=enc b++y→a=b∧x=y)
  {l m:List α} {x y:List UInt8} (hl :∀a∈l,fit a) (hm :∀a∈m,fit a) (hle:l.length≤m.length) (h:(l.map enc).flatten++x=(m.map enc).flatten++y):
  l=m.take l.length∧x=((m.drop l.length).map enc).flatten++y:=by
 rw[←List.take_append_drop l.length m,List.map_append,List.flatten_append,List.append_assoc]at h;exact Qm hs hl (fun a ha=>hm a (List.mem_of_mem_take ha)) (by simp;omega) h
theorem yu(s:ByteArray):(aP s).length=8+s.size:=by
 have e1:s.data.toList.length=s.size:=by simp
 unfold aP;rw[aJ,fD,e1]
theorem Lt{α:Type}{enc:α→List UInt8}(h8 :∀a,8≤(enc a).length)(l:List α):8*l.length≤(l.map enc).flatten.length:=by
 induction l with
 | nil=>simp
 | cons a l ih=>simp only[List.map_cons,List.flatten_cons,aJ,List.length_cons];have:=h8 a;omega
theorem nX :∀f:Fo,8*f.len≤(fC f).length:=by
 intro f
 induction f with
 | nil=>simp[Fo.len]
 | cons k t n ks r _ ih=>simp[Fo.len,fC,yu,fD];omega
section
open Go.RowKit
theorem BP:Tryz.prog.underlying 115=some (.pointer 117):=by kernel_rfl
theorem E8:Tryz.prog.underlying 277=some .unsafePointer:=by kernel_rfl
theorem Fa:(Tryz.prog.info? 117).map (·.size)=some 2:=by kernel_rfl
theorem Lu:liesAt Tryz.prog Tryz.prog.depth 117 (2 / Tryz.prog.cellsOf 117) 0 117 1=true:=by kernel_rfl
theorem LC:Tryz.prog.underlying 44=some (.slice 5):=by kernel_rfl
theorem LD:(Tryz.prog.info? 5).map (fun i=>(i.zero,i.size,i.bytes))=some (some (.int .u8 0),1,1):=by kernel_rfl
theorem tu{w:World}{B:Nat}{e:TypeId}{v:Value}{n:Nat}{xs:List Value}(h:w.ownsRow B e 1 v n xs):∀g,v.ownBlock=some g→∃c fz,w.heap[g]?=some (.cells c e fz):=by
 intro g hg;rcases h.2 with⟨rfl,_⟩|⟨g',cap,cur,rfl,_,hgg,_⟩
 ·simp[Value.ownBlock]at hg
 ·simp[Value.ownBlock]at hg;subst hg;exact⟨cur,_,hgg⟩
theorem Fb:(117:TypeId)≠5:=by decide
theorem Vj(b:Nat)(w:World)(h0:w.cell? ⟨b,0,none⟩=some (.pointer (some ⟨b,0,none⟩))):
  Calls Tryz.prog 129 #[.pointer (some ⟨b,0,none⟩)] w fun e w'=>e = .returned (.tuple #[])∧w'=w:=by
 obtain⟨j,hj,_⟩:=Option.map_eq_some_iff.1 Fa;go_enter Tryz.func129,Tryz.ntmps129
 go_wp2
 rw[Lib.run_neq_ptr_same w _ BP hj]
 go_wp2
 go_end0
 exact⟨rfl,rfl⟩
theorem Vk(b:Nat)(w:World)(h0:w.cell? ⟨b,0,none⟩=some (.pointer none))(hsh:w.shape? b=some (117,2))(hfz:w.frozen? ⟨b,0,none⟩=false):
  Calls Tryz.prog 129 #[.pointer (some ⟨b,0,none⟩)] w fun e w'=>e = .returned (.tuple #[])∧w'=w.setCell ⟨b,0,none⟩ (.pointer (some ⟨b,0,none⟩)):=by
 obtain⟨j,hj,hjs⟩:=Option.map_eq_some_iff.1 Fa;go_enter Tryz.func129,Tryz.ntmps129
 go_wp2
 rw[Lib.run_to_unsafe w ⟨b,0,none⟩ BP E8 hj (by rw[hjs];decide) hsh (Nat.zero_lt_succ 1)];simp only[Result.andThen];rw[Oper.upon_value]
 go_wp2
 rw[run_callFunc_extern Tryz.func192 (by kernel_rfl) (by kernel_rfl) (by kernel_rfl) (e:=Extern.AbiNoEscape.same) (by kernel_rfl)];rw[Lib.run_noEscape];simp only[Result.andThen];rw[Oper.upon_value]
 go_wp2
 rw[Lib.run_from_unsafe w ⟨b,0,none⟩ E8 BP hj hsh Lu];simp only[Result.andThen];rw[Oper.upon_value]
 go_wp2
 go_end0
 exact⟨rfl,rfl⟩
abbrev Fe(B b:Nat)(p:Value)(bs:List Value)(w:World):Prop:=Lib.BuilderAt 117 5 B b p bs w
abbrev mP(B b:Nat)(bs:List Value)(w:World):Prop:=Lib.IsBuilder 117 5 B b bs w
theorem Vl(B b:Nat)(bs:List Value)(w:World)(h:mP B b bs w):
  Calls Tryz.prog 129 #[.pointer (some ⟨b,0,none⟩)] w fun e w'=>e = .returned (.tuple #[])∧(Fe B b (.pointer (some ⟨b,0,none⟩)) bs w'∧Below B w w'∧Lib.OthersKept 5 (some b) w w'):=by
 rcases h with h|h
 ·refine(Vk b w h.cell0 h.shape h.frozen0).mono ?_;rintro e w' ⟨rfl,rfl⟩;exact⟨rfl,h.used _,(Below.refl B w).setCell (p:=⟨b,0,none⟩) h.1 _,(Lib.OthersKept.refl _ _ w).setCell ⟨b,0,none⟩ rfl _⟩
 ·refine(Vj b w h.cell0).mono ?_;rintro e w' ⟨rfl,rfl⟩;exact⟨rfl,h,Below.refl B _,Lib.OthersKept.refl _ _ _⟩
theorem Qp(B b:Nat)(bs:List Value)(c:Int)(w:World)(h:mP B b bs w)(hlen:bs.length+1≤140737488355328)(hBw:B≤w.heap.size):
  Calls Tryz.prog 69 #[.pointer (some ⟨b,0,none⟩),.int .u8 c] w fun e w'=>e = .returned .nilIface∧(Fe B b (.pointer (some ⟨b,0,none⟩)) (bs++[.int .u8 c]) w'∧Below B w w'∧Lib.OthersKept 5 (some b) w w'):=by
 obtain⟨i0,hi,hz0,hz1,hz2⟩:=info_parts LD;have H:=hide h;clear h;go_enter Tryz.func69,Tryz.ntmps69
 go_wp2_with(go_at_call 129;refine(Vl B b bs _ H.out).mono ?_)
 rintro e w1 ⟨rfl,h1,hb1,ho1⟩;obtain⟨hB,v,hbk,hown,hne⟩:=h1;have hlt:b<w1.heap.size:=by
  rcases Nat.lt_or_ge b w1.heap.size with h'|h'
  ·exact h'
  ·simp[Array.getElem?_eq_none h']at hbk
 have c0:w1.cell? ⟨b,0,none⟩=some (.pointer (some ⟨b,0,none⟩)):=by rw[Lib.cell_of_heap hbk];rfl
 have c1:w1.cell? ⟨b,1,none⟩=some v:=by rw[Lib.cell_of_heap hbk];rfl
 go_wp2_with(at_builtin;refine wpList_append_own _ rfl _ _ 44 rfl B 5 i0 (.int .u8 0) 1 1 LC hi hz0 hz1 hz2 rfl (by decide) _ _ _ rfl (hown.alloc _) ⟨w1.heap.size,0,none⟩ 1 1 [.int .u8 c] rfl rfl (cell_one_new _ _ _) (by intro u hu;simp at hu;subst hu;rfl) ?c3 ?c4 ?c5 ?_)
 case c3=>unfold maxLen;omega
 case c4=>omega
 case c5=>have:=hb1.size;simp;omega
 intro v' w2 hown' hgrow _;have hb2:w2.heap[b]?=some (.cells #[.pointer (some ⟨b,0,none⟩),v] 117 (0,0)):=by
  rw[hgrow.block b (by simp;omega) (fun e=>hne e.symm),Below.heap_alloc w1 _ b hlt];exact hbk
 have d0:w2.cell? ⟨b,0,none⟩=some (.pointer (some ⟨b,0,none⟩)):=by rw[Lib.cell_of_heap hb2];rfl
 have d1:w2.cell? ⟨b,1,none⟩=some v:=by rw[Lib.cell_of_heap hb2];rfl
 have f1:w2.frozen? ⟨b,1,none⟩=false:=Lib.frozen_of_heap hb2 1;obtain⟨ao,n',cap,rfl⟩:∃ao n' cap,v' = .slice ao n' cap:=by
  rcases hown'.2 with⟨hv,_⟩|⟨g,cap,cur,hv,_⟩
  ·exact⟨_,_,_,hv⟩
  ·exact⟨_,_,_,hv⟩
 go_wp2
 go_ret;refine⟨rfl,?_,?_,?_⟩
 ·exact Lib.BuilderAt.put (T:=117) (e:=5) hB hb2 (bs':=bs++[.int .u8 c]) (by simpa using hown') Fb
 ·exact((hb1.alloc (by have:=hb1.size;omega) _).grown hgrow (by have:=hb1.size;simp;omega) (fun k hk=>(hown.lt k hk).1)).setCell (p:=⟨b,1,none⟩) hB _
 ·exact((ho1.alloc _).grown hgrow (tu (hown.alloc _))).setCell ⟨b,1,none⟩ rfl _
end
section
open Go.RowKit
structure Keep(P:Nat→Prop)(w w':World):Prop where
 os:w'.os=w.os
 tape:w'.tape=w.tape
 output:w'.output=w.output
 size:w.heap.size≤w'.heap.size
 block :∀k,P k→w'.heap[k]?=w.heap[k]?
section
variable {P P' : Nat → Prop} {w w' w'' : World}
theorem Keep.refl(P:Nat→Prop)(w:World):Keep P w w:=⟨rfl,rfl,rfl,aC _,fun _ _=>rfl⟩
theorem Keep.trans(h:Keep P w w')(h':Keep P w' w''):Keep P w w'':=⟨h'.os.trans h.os,h'.tape.trans h.tape,h'.output.trans h.output,aI h.size h'.size,fun k hk=>(h'.block k hk).trans (h.block k hk)⟩
theorem Keep.mono(h:Keep P' w w')(hp :∀k,P k→P' k):Keep P w w':=⟨h.os,h.tape,h.output,h.size,fun k hk=>h.block k (hp k hk)⟩
theorem Keep.drew(h:Keep P w w'):Keep P w w'.drew:=⟨h.os,h.tape,h.output,h.size,h.block⟩
theorem Keep.alloc(h:Keep P w w')(hp :∀k,P k→k<w.heap.size)(o:Obj):Keep P w (w'.alloc o):=
 h.trans ⟨rfl,rfl,rfl,by simp,fun k hk=>Below.heap_alloc w' o k (aH (hp k hk) h.size)⟩
theorem Keep.setCell(h:Keep P w w'){a:Addr}(ha :¬P a.block)(u:Value):Keep P w (w'.setCell a u):=
 h.trans ⟨rfl,rfl,rfl,by simp[World.setCell],fun k hk=>Below.heap_setCell w' a u k (fun e=>ha (e▸hk))⟩
theorem Keep.grown(h:Keep P w w'){row:Option Nat}(hg:w'.grownBy w'' row)(hp :∀k,P k→k<w.heap.size)(hr :∀k,row=some k→¬P k):Keep P w w'' :=
 h.trans ⟨hg.os,hg.tape,hg.output,hg.size,fun k hk=>hg.block k (aH (hp k hk) h.size) (fun e=>hr k e.symm hk)⟩
theorem Keep.cell(h:Keep P w w'){a:Addr}(ha:P a.block):w'.cell? a=w.cell? a:=World.cell?_of_block (h.block _ ha)
theorem Keep.frozen(h:Keep P w w'){a:Addr}(ha:P a.block):w'.frozen? a=w.frozen? a:=World.frozen?_of_block (h.block _ ha)
theorem Keep.box(h:Keep P w w'){N:Nat}(hN:P N):(∀o,w'.cell? ⟨N,o,none⟩=w.cell? ⟨N,o,none⟩)∧(∀o,w'.frozen? ⟨N,o,none⟩=w.frozen? ⟨N,o,none⟩):=⟨fun o=>h.cell (a:=⟨N,o,none⟩) hN,fun o=>h.frozen (a:=⟨N,o,none⟩) hN⟩
theorem Keep.below{B:Nat}(h:Keep (fun k=>k<B) w w'):Below B w w':=⟨h.os,h.tape,h.output,h.size,h.block⟩
theorem Keep.of_below{B:Nat}(h:Below B w w')(hp :∀k,P k→k<B):Keep P w w':=⟨h.os,h.tape,h.output,h.size,fun k hk=>h.block k (hp k hk)⟩
end
section
variable {Q : Program} (w : World)
theorem Vm(t ty e:TypeId)(i:TypeInfo)(z:Value)(size bytes:Nat)(ht:Q.underlying t=some (.slice e))(hi:Q.info? e=some i)(hz:i.zero=some z)
  (hsize:i.size=size) (hby:i.bytes=bytes) (v:Value) (n:Nat) (xs:List Value) (hown:w.ownsRow 0 e size v n xs)
  (a:Addr) (m c:Nat) (news:List Value) (hl:news.length=m*size) (hnews :∀j u,news[j]?=some u→w.cell? (a.add j)=some u) (h1 :∀u∈news,u.oneCell'=true)
  (h63:n+m≤maxLen) (hbytes:(n+m)*bytes≤140737488355328) (v':Value) (w':World) (hrun:(Builtin.append_ #[t,t] ty #[v,.slice (some a) m c]).run Q w = .ok v' w'):
  v'.ownBlock=v.ownBlock∨v'.ownBlock=some w.heap.size:=by
 subst hsize;subst hby;have hm:n+m≤9223372036854775807:=by simp only[maxLen]at h63;omega
 rcases hown.2 with⟨rfl,rfl⟩|⟨g,cap,cur,rfl,_,hg,hnc,hcm,hcs,htake⟩
 ·by_cases h0:m=0
  ·subst h0;have hn:news=[]:=List.eq_nil_of_length_eq_zero (by simpa using hl);have hr:(Builtin.append_ #[t,t] ty #[.slice none 0 0,.slice (some a) 0 c]).run Q w = .ok (.slice none 0 0) w:=by
    simp[Builtin.append_,run_underlying ht,sizeOf,typeInfo,hi,Builtin.lenOf,Builtin.firstCells,loadCells,loadCellsFrom]
   rw[hr]at hrun;injection hrun with e1 e2;subst e1;exact .inl rfl
  ·have hr:=run_append_nil (P:=Q) w t ty e i z ht hi hz a m c news hl hnews (by omega) (by omega) (by have:=hbytes;simp only[Nat.zero_add]at this;omega);rw[hr]at hrun;injection hrun with e1 e2;subst e1;exact .inr rfl
 ·by_cases hroom:n+m≤cap
  ·have hfit:n*i.size+news.length≤cur.size:=by rw[hl,hcs,←Nat.add_mul];exact Nat.mul_le_mul_right _ hroom
   have hr:=run_append_room (P:=Q) w t ty e i ht hi g n cap cur hg a m c news hl hnews h1 hroom hfit;rw[hr]at hrun;injection hrun with e1 e2;subst e1;exact .inl rfl
  ·have hr:=run_append_grow (P:=Q) w t ty e i z ht hi hz ⟨g,0,none⟩ n cap xs hown.1 (hown.cells (g:=g) rfl) a m c news hl hnews (by omega) (by omega) (growslice_fits (by omega) hbytes);rw[hr]at hrun;injection hrun with e1 e2;subst e1;exact .inr rfl
theorem Js{ops:Array Oper}{rest:List Oper}{o:Oper}{a:Act}{K0:Exit→Act→World→Prop}(hgd:o.guard=none)(s x:Operand)(t:TypeId)
  (ho:o.op = .call {callee:= .builtin .append,args:=#[s,x],argTypes:=#[t,t]})
  (e:TypeId) (i:TypeInfo) (z:Value) (size bytes:Nat) (ht:Q.underlying t=some (.slice e)) (hi:Q.info? e=some i) (hz:i.zero=some z)
  (hsize:i.size=size) (hby:i.bytes=bytes) (hzs:z.cells.size=size) (hsz:0<size)
  (v:Value) (n:Nat) (xs:List Value) (hs:a.eval s=v) (hown:w.ownsRow 0 e size v n xs)
  (ad:Addr) (m c:Nat) (news:List Value) (hx:a.eval x = .slice (some ad) m c) (hl:news.length=m*size) (hnews :∀j u,news[j]?=some u→w.cell? (ad.add j)=some u) (h1 :∀u∈news,u.oneCell'=true)
  (h63:n+m≤maxLen) (hbytes:(n+m)*bytes≤140737488355328)
  (h :∀v' w',w'.ownsRow 0 e size v' (n+m) (xs++news)→w.grownBy w' v.ownBlock→(v' = .slice none 0 0↔v = .slice none 0 0∧m=0)→(v'.ownBlock=v.ownBlock∨v'.ownBlock=some w.heap.size)→
   wpList Q ops K0 rest (a.put o.dst v') w'):wpList Q ops K0 (o::rest) a w:=by
 refine wpList_plain hgd fun K hK'=>?_;obtain⟨v',w',hr,h2,h3,h4⟩:=run_append_own (P:=Q) w 0 t o.type e i z size bytes ht hi hz hsize hby hzs hsz v n xs hown ad m c news hl hnews h1 h63 hbytes (Nat.zero_le _);have h5:=Vm w t o.type e i z size bytes ht hi hz hsize hby v n xs hown ad m c news hl hnews h1 h63 hbytes v' w' hr;unfold Oper.wp;simp[execOp,ho,resolve,invoke,builtin,hs,hx,hr,Result.andThen];exact hK' _ _ (h v' w' h2 h3 h4 h5)
end
theorem iw{w:World}{B e size n:Nat}{v:Value}{xs:List Value}(h:w.ownsRow B e size v n xs):∃A c,v = .slice A n c:=by
 rcases h.2 with⟨rfl,rfl⟩|⟨g,cap,cur,rfl,_⟩
 ·exact⟨_,_,rfl⟩
 ·exact⟨_,_,rfl⟩
theorem mQ{S:Nat→Prop}{e n:Nat}{w:World}{v:Value}{xs:List Value}(h:w.ownsRow 0 e 1 v n xs)(hne :∀g,v.ownBlock=some g→S g):∃A c,v = .slice A n c∧Rd S w A xs∧n≤c∧c≤9223372036854775807:=by
 rcases h.2 with⟨rfl,rfl⟩|⟨g,cap,cur,rfl,hb,hgg,hn,hc,_⟩
 ·have:xs=[]:=List.eq_nil_of_length_eq_zero (by simpa using h.1);subst this;exact⟨_,_,rfl,.inl rfl,aC _,by omega⟩
 ·refine⟨_,_,rfl,.inr ⟨g,0,rfl,hne g rfl,fun j u hu=>?_⟩,hn,by unfold maxLen at hc;omega⟩;have:=h.cells (g:=g) rfl j u hu
  rwa [Addr.add_lit]at this
theorem Vo:(Tryz.prog.info? 3).map (fun i=>(i.zero,i.size,i.bytes))=some (some (.int .i64 0),1,8):=by kernel_rfl
theorem Vp:(Tryz.prog.info? 9).map (fun i=>(i.zero,i.size,i.bytes))=some (some (.string ByteArray.empty),1,16):=by kernel_rfl
def iG(S:Nat→Prop)(w:World):List Value→Fo→Prop
 | vs,.nil=>vs=[]
 | vs,.cons k t n ks r=>∃KA c vs',vs = .int .u8 k :: .string t :: .int .i64 n :: .slice KA ks.len c::vs'∧k<256∧t.size≤9223372036854775807∧ay n∧ks.len≤c∧c≤9223372036854775807∧bz S w KA ks∧iG S w vs' r
theorem tC:(Tryz.prog.info? 218).map (fun i=>(i.zero,i.size,i.bytes))=some (some (.agg #[.int .u8 0,.string ByteArray.empty,.int .i64 0,.slice none 0 0]),4,56):=by kernel_rfl
theorem iG.at_{S S':Nat→Prop}{w:World}(hm :∀b,S b→S' b):∀{f:Fo} {vs:List Value} {b o:Nat},iG S w vs f→S' b→(∀j u,vs[j]?=some u→w.cell? ⟨b,o+j,none⟩=some u)→bz S' w (some ⟨b,o,none⟩) f:=by
 intro f
 induction f with
 | nil=>intro vs b o _ _ _;exact trivial
 | cons k t n ks r _ ih =>
  rintro vs b o ⟨KA,c,vs',rfl,g1,g2,g3,g4,g5,g6,g7⟩ hb hc;exact⟨b,o,KA,c,rfl,hb,hc 0 _ rfl,hc 1 _ rfl,hc 2 _ rfl,hc 3 _ rfl,g1,g2,g3,g4,g5,g6.mono fun b _ hS=>hm b hS,ih g7 hb (fun j u hu=>by
   have:=hc (j+4) u hu
   rwa [show o+(j+4)=o+4+j by omega]at this)⟩
end
section
open Go.RowKit
section
variable {P : Program} {T e : TypeId} {z : Value} {size bytes : Nat}
theorem LG{w:World}{base n c0:Nat}{v:Value}{xs:List Value}{i0:TypeInfo}(ht:P.underlying T=some (.slice e))(hi:P.info? e=some i0)(hown:w.ownsRow base e size v n xs)(ty:TypeId):
  (Builtin.append_ #[T,T] ty #[v,.slice none 0 c0]).run P w = .ok v w:=by
 obtain⟨A,c,rfl⟩:=iw hown;have hnc:n≤c:=by
  rcases hown.2 with⟨e1,rfl⟩|⟨g,cap,cur,e1,_,_,hc,_⟩
  ·exact Nat.zero_le _
  ·injection e1 with _ _ e1;omega
 rcases A with _|⟨b,o,p⟩
 ·have hn0:n=0:=by
   rcases hown.2 with⟨_,h⟩|⟨g,cap,cur,e1,_⟩
   ·exact h
   ·cases e1
  subst hn0;simp[Builtin.append_,run_underlying ht,sizeOf,typeInfo,hi,Builtin.lenOf,Builtin.firstCells,loadCells,loadCellsFrom,hnc]
 ·simp[Builtin.append_,run_underlying ht,sizeOf,typeInfo,hi,Builtin.lenOf,Builtin.firstCells,loadCells,storeCells,hnc]
theorem Qq{w:World}{base n m cB:Nat}{v:Value}{xs us:List Value}{B:Option Addr}(ht:P.underlying T=some (.slice e))(hI:(P.info? e).map (fun i=>(i.zero,i.size,i.bytes))=some (some z,size,bytes))(hz:z.cells.size=size)(h0:0<size)
  (hown:w.ownsRow base e size v n xs) (hB:B=none→m=0) (hlen:us.length=m*size) (hone :∀u∈us,u.oneCell'=true) (hc :∀a,B=some a→∀j u,us[j]?=some u→w.cell? (a.add j)=some u)
  (hbase:base≤w.heap.size) (hmax:n+m≤maxLen) (hl:(n+m)*bytes≤140737488355328) (ty:TypeId):
  ∃v' w',(Builtin.append_ #[T,T] ty #[v,.slice B m cB]).run P w = .ok v' w'∧w'.ownsRow base e size v' (n+m) (xs++us)∧Below base w w':=by
 obtain⟨i0,hi,hz0,hz1,hz2⟩:=info_parts hI;rcases B with _|a
 ·have hm:=hB rfl;subst hm;have hu:us=[]:=List.length_eq_zero_iff.1 (by simpa using hlen);subst hu;exact⟨v,w,LG ht hi hown ty,by simpa using hown,Below.refl _ _⟩
 ·obtain⟨v',w',hrun,hown',hgr,_⟩:=run_append_own (P:=P) w base T ty e i0 z size bytes ht hi hz0 hz1 hz2 hz h0 v n xs hown a m cB us hlen (hc a rfl) hone hmax hl hbase;exact⟨v',w',hrun,hown',(Below.refl _ _).grown hgr hbase (fun k hk=>(hown.lt k hk).1)⟩
end
end
end Go.Proofs.YtjjaojnglnpgaaaGreatDoor
