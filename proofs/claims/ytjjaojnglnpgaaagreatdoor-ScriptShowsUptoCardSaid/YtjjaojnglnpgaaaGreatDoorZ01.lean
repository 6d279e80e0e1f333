/- Part 2 of what scriptShows_cardUpto rests on. -/
import Derived.WalkKit
import Derived.WalkLawsBesides
import Derived.WalkSpells
import Derived.BigQuiet
import Derived.Deep.QuietTactic
import Derived.Test.YtjjaojnglnpgaaaGreatDoorProg
import Derived.ChangeMaps5
import Derived.StillTailTactics
import Derived.Test.YtjjaojnglnpgaaaGreatDoorZ00
set_option linter.unusedVariables false
set_option linter.unusedSimpArgs false
set_option maxHeartbeats 16000000
set_option maxRecDepth 1000000
namespace Go.Proofs.YtjjaojnglnpgaaaGreatDoor
inductive Fo where
 | nil
 | cons (kind:Nat) (text:ByteArray) (num:Int) (kids rest:Fo)
namespace Fo
def len:Fo→Nat
 | nil=>0
 | cons _ _ _ _ r=>r.len+1
def drop:Nat→Fo→Fo
 | 0,f=>f
 | _+1,nil=>nil
 | i+1,cons _ _ _ _ r=>drop i r
def take:Nat→Fo→Fo
 | 0,_=>nil
 | _+1,nil=>nil
 | i+1,cons k t n ks r=>cons k t n ks (take i r)
def app:Fo→Fo→Fo
 | nil,g=>g
 | cons k t n ks r,g=>cons k t n ks (app r g)
def size:Fo→Nat
 | nil=>0
 | cons _ t _ ks r=>1+t.size / 8+ks.size+r.size
end Fo
structure Hk where
 at_:Int
 old:List ByteArray
 new:List ByteArray
structure Ed where
 kind:Nat
 path:List Int
 at_:Int
 far:Int
 frm:ByteArray
 to:ByteArray
 old:Fo
 new:Fo
structure Pt where
 kind:Nat
 file:ByteArray
 text:ByteArray
 hunk:Hk
 edit:Ed
def ae:ByteArray:=⟨#[]⟩
def Hk.zero:Hk:=⟨0,[],[]⟩
def Ed.zero:Ed:=⟨0,[],0,0,ae,ae,.nil,.nil⟩
def Pt.zero:Pt:=⟨0,ae,ae,Hk.zero,Ed.zero⟩
def Letter(c:UInt8):Prop:=(97≤c.toNat∧c.toNat≤122)∨(65≤c.toNat∧c.toNat≤90)∨c.toNat=95
def Digit(c:UInt8):Prop:=48≤c.toNat∧c.toNat≤57
def eU(c:UInt8):Prop:=(97≤c.toNat∧c.toNat≤122)∨(65≤c.toNat∧c.toNat≤90)∨Digit c∨c.toNat=46∨c.toNat=95
def words:List (List UInt8):=
  [[102,117,110,99],[118,97,114],[105,102],[101,108,115,101],[119,104,105,108,101],[114,101,116,117,114,110],[112,114,105,110,116],
   [116,114,117,101],[102,97,108,115,101],[108,101,110],[114,101,97,100]]
def dJ(s:ByteArray):Prop:=1≤s.size∧s.size≤24∧∀c∈s.data.toList,eU c
def dM(s:ByteArray):Prop :=
 s.size≤24∧(∃c l,s.data.toList=c::l∧Letter c)∧s.data.toList∉words∧∀c∈s.data.toList,Letter c∨Digit c
def jV(last:Bool)(s:List UInt8):Prop:=s≠[]∧(∀i,i+1<s.length→s[i]?≠some 10)∧(last=true∨s.getLast?=some 10)
def LinesOk:List ByteArray→Prop
 | []=>True
 | s::l=>jV l.isEmpty s.data.toList∧LinesOk l
def pO(h:Hk):Prop:=0≤h.at_∧h.at_≤1099511627776∧LinesOk h.old∧LinesOk h.new∧h.old≠h.new
def Expr(k:Nat):Prop:=20≤k∧k≤29
def Stmt(k:Nat):Prop:=(6≤k∧k≤12)∨k=5
def many(k:Nat):Option Nat :=
 if k=1∨k=3∨k=5∨k=25 then none
 else if k=2∨k=7∨k=9∨k=24∨k=26∨k=27 then some 2
 else if k=8 then some 3
 else if k=6∨k=10∨k=11∨k=23∨k=28∨k=12 then some 1
 else some 0
def aZ(p k i:Nat):Prop :=
  (∀n,many p=some n→i<n)∧
  (if p=1 then k=2
   else if p=2 then(i=0∧k=3)∨(i=1∧k=5)
   else if p=3 then k=4
   else if p=5 then Stmt k
   else if p=7 then(i=0∧(k=22∨k=26))∨(i=1∧Expr k)
   else if p=8∨p=9 then(i=0∧Expr k)∨(0<i∧k=5)
   else if p=12 then k=25
   else Expr k)
def Named(k:Nat):Prop:=k=2∨k=4∨k=6∨k=22∨k=25
instance (k:Nat):Decidable (Named k):=by unfold Named;infer_instance
def binaries:List (List UInt8):=[[124,124],[38,38],[61,61],[33,61],[60],[60,61],[62],[62,61],[43],[45],[42],[47],[37]]
def dN(k:Nat)(t:ByteArray):Prop :=
 if Named k then dM t
 else if k=23 then t.data.toList=[45]∨t.data.toList=[33]
 else if k=24 then t.data.toList∈binaries
 else t.data.toList=[]
def nC(k:Nat):Prop:=(1≤k∧k≤12)∨Expr k
def oK(k:Nat)(n:Int):Prop:=n=0∨(k=20∧0<n)∨(k=21∧n=1)
def jW(k:Nat)(t:ByteArray)(n:Int)(cnt:Nat):Prop:=nC k∧oK k n∧dN k t∧∀m,many k=some m→cnt=m
def Dw(k:Nat)(kids:Fo):Prop:=k=7→match kids with
 | .cons 26 _ _ (.cons j _ _ _ _) _=>j=22
 | _=>True
def gm(m p i:Nat):Fo→Prop
 | .nil=>True
 | .cons k t n ks r=>aZ p k i∧1≤m∧jW k t n ks.len∧gm (m-1) k 0 ks∧Dw k ks∧gm m p (i+1) r
def dR(m k:Nat)(t:ByteArray)(n:Int)(ks:Fo):Prop:=1≤m∧jW k t n ks.len∧gm (m-1) k 0 ks∧Dw k ks
def bD:Fo→Prop
 | .cons k t n ks .nil=>dR 40 k t n ks
 | _=>False
def Number(n:Int):Prop:=0≤n∧n≤1073741824
def dC(e:Ed):Prop :=
  (∀n∈e.path,Number n)∧
  ((e.kind=1∧e.at_=0∧e.far=0∧e.old = .nil∧e.new = .nil∧e.path≠[]∧dM e.frm∧dM e.to∧e.frm≠e.to)∨
   (e.kind=2∧e.far=0∧e.frm=ae∧e.to=ae∧e.old = .nil∧Number e.at_∧bD e.new)∨
   (e.kind=3∧e.far=0∧e.frm=ae∧e.to=ae∧e.new = .nil∧Number e.at_∧bD e.old)∨
   (e.kind=4∧e.at_=0∧e.far=0∧e.frm=ae∧e.to=ae∧e.path≠[]∧bD e.old∧bD e.new∧e.old≠e.new)∨
   (e.kind=5∧e.frm=ae∧e.to=ae∧e.new = .nil∧Number e.at_∧Number e.far∧e.at_≠e.far∧bD e.old))
def bI(p:Pt):Prop :=
  dJ p.file∧
  (((p.kind=1∨p.kind=2)∧p.hunk=Hk.zero∧p.edit=Ed.zero)∨
   (p.kind=3∧p.text=ae∧p.edit=Ed.zero∧pO p.hunk)∨
   (p.kind=4∧p.text=ae∧p.hunk=Hk.zero∧dC p.edit))
def au(n:Int):List UInt8 :=
  let u:=(n % 18446744073709551616).toNat
  [UInt8.ofNat (u / 72057594037927936),UInt8.ofNat (u / 281474976710656),UInt8.ofNat (u / 1099511627776),UInt8.ofNat (u / 4294967296),
   UInt8.ofNat (u / 16777216),UInt8.ofNat (u / 65536),UInt8.ofNat (u / 256),UInt8.ofNat u]
def ax(s:ByteArray):List UInt8:=au s.size++s.data.toList
def bH(l:List ByteArray):List UInt8:=au l.length++(l.map ax).flatten
def cO(l:List Int):List UInt8:=au l.length++(l.map au).flatten
def iy:Fo→List UInt8
 | .nil=>[]
 | .cons k t n ks r=>UInt8.ofNat k::(ax t++(au n++(au ks.len++iy ks)))++iy r
def aO(f:Fo):List UInt8:=au f.len++iy f
def jg(e:Ed):List UInt8 :=
 UInt8.ofNat e.kind::(cO e.path++(au e.at_++(au e.far++(ax e.frm++(ax e.to++(aO e.old++aO e.new))))))
def gJ(p:Pt):List UInt8 :=
 UInt8.ofNat p.kind::(ax p.file ++
  (if p.kind=3 then au p.hunk.at_++(bH p.hunk.old++bH p.hunk.new)else if p.kind=4 then jg p.edit else ax p.text))
section
open Go.RowKit
theorem hide{p:Prop}(h:p):Hid p:=h
def ah(P:Prop)(e:Ending):Prop:=∃b:Bool,e = .returned (.bool b)∧(b=true↔P)
theorem ah.mk{P:Prop}{b:Bool}(h:b=true↔P):ah P (.returned (.bool b)):=⟨b,rfl,h⟩
theorem ah.yes{P:Prop}(h:P):ah P (.returned (.bool true)):=⟨true,rfl,by simp[h]⟩
theorem ah.no{P:Prop}(h :¬P):ah P (.returned (.bool false)):=⟨false,rfl,by simp[h]⟩
theorem ML(s:ByteArray)(k:Nat)(h:k<s.size):s[k]∈s.data.toList:=by
 have:s[k]=s.data[k]'(by simpa using h):=rfl;rw[this];simp
theorem AO{s:ByteArray}{P:UInt8→Prop}(h :∀j,(h':j<s.size)→P (s[j])):∀c∈s.data.toList,P c:=by
 intro c hc;obtain⟨j,hj,rfl⟩:=List.getElem_of_mem hc;exact h j (by simpa using hj)
theorem mg(s:ByteArray):s.toList=[]↔¬1≤s.size:=by
 rw[ByteArray.toList_eq s];obtain⟨⟨l⟩⟩:=s;show l=[]↔¬1≤l.length;cases l<;>simp
def Rd(S:Nat→Prop)(w:World)(A:Option Addr)(xs:List Value):Prop :=
 xs=[]∨∃b o,A=some ⟨b,o,none⟩∧S b∧∀j u,xs[j]?=some u→w.cell? ⟨b,o+j,none⟩=some u
section
variable {S S' : Nat → Prop} {w w' : World} {A : Option Addr} {xs : List Value} {B : Nat}
theorem Rd.keep(h:Rd S w A xs)(hk :∀b,S b→w'.heap[b]?=w.heap[b]?):Rd S w' A xs:=by
 rcases h with h|⟨b,o,rfl,hS,hc⟩
 ·exact .inl h
 ·exact .inr ⟨b,o,rfl,hS,fun j u hu=>(World.cell?_of_block (hk b hS)).trans (hc j u hu)⟩
theorem Rd.mono(h:Rd S w A xs)(hm :∀b,b<w.heap.size→S b→S' b):Rd S' w A xs:=by
 rcases h with h|⟨b,o,rfl,hS,hc⟩
 ·exact .inl h
 ·rcases xs with _|⟨x,xs⟩
  ·exact .inl rfl
  ·exact .inr ⟨b,o,rfl,hm b (block_lt_of_cell (hc 0 x rfl)) hS,hc⟩
theorem Rd.below(h:Rd S w A xs)(hb:Below w.heap.size w w'):Rd S w' A xs:=by
 rcases h with h|⟨b,o,rfl,hS,hc⟩
 ·exact .inl h
 ·exact .inr ⟨b,o,rfl,hS,fun j u hu=>(hb.cell (p:=⟨b,o+j,none⟩) (block_lt_of_cell (hc j u hu))).trans (hc j u hu)⟩
theorem Rd.at_(h:Rd S w A xs){j:Nat}(hj:j<xs.length):∃b o,A=some ⟨b,o,none⟩∧w.cell? ⟨b,o+j,none⟩=some xs[j]:=by
 rcases h with h|⟨b,o,rfl,hS,hc⟩
 ·subst h;simp at hj
 ·exact⟨b,o,rfl,hc j _ (by simp[hj])⟩
theorem Rd.nil:Rd S w A []:= .inl rfl
theorem az(w:World)(o:Obj):Below w.heap.size w (w.alloc o):=(Below.refl _ _).alloc (aC _) _
theorem iP{W w1:World}(hb:Below W.heap.size W w1):(∀b o,b<W.heap.size→w1.cell? ⟨b,o,none⟩=W.cell? ⟨b,o,none⟩)∧(∀b o,b<W.heap.size→w1.frozen? ⟨b,o,none⟩=W.frozen? ⟨b,o,none⟩):=
 ⟨fun b o h=>hb.cell (p:=⟨b,o,none⟩) h,fun b o h=>hb.frozen (p:=⟨b,o,none⟩) h⟩
end
theorem Dx{B:Nat}{a w:World}(h:Below B a w)(n:Nat):Below B a (w.drewN n):=⟨h.os,h.tape,h.output,h.size,h.block⟩
theorem iD{w:World}(o o':Obj):Below w.heap.size w ((w.alloc o).alloc o'):=((Below.refl _ _).alloc (aC _) _).alloc (by simp) _
theorem aW{w w1 w2:World}(h:Below w.heap.size w w1)(h2:Below w1.heap.size w1 w2):Below w.heap.size w w2:=h.trans (h2.mono h.size)
theorem Dy{w w2:World}{o o':Obj}(h:Below ((w.alloc o).alloc o').heap.size ((w.alloc o).alloc o') w2):Below w.heap.size w w2:=aW (iD o o') h
theorem Ik{w W:World}(h:Below w.drew.heap.size w.drew W):Below w.heap.size w W:=⟨h.os,h.tape,h.output,h.size,h.block⟩
theorem Dz{w:World}(a b c d:Obj):Below w.heap.size w ((((w.alloc a).alloc b).alloc c).alloc d):=
 ((((Below.refl _ _).alloc (aC _) _).alloc (by simp) _).alloc (by simp;omega) _).alloc (by simp;omega) _
theorem O7{w:World}(a b c d:Obj):Below w.heap.size w (((((w.alloc a).alloc b).alloc c).alloc d).drew):=
 (((((Below.refl _ _).alloc (aC _) _).alloc (by simp) _).alloc (by simp;omega) _).alloc (by simp;omega) _).drew
theorem di{w W:World}(h:Below w.heap.size w W)(q:Nat):Below w.heap.size w (W.drewN q):=Dx h q
section
variable {S S' : Nat → Prop} {w w' : World} {A : Option Addr} {xs : List Value} {B : Nat}
theorem Rd.alloc(h:Rd S w A xs)(o:Obj):Rd S (w.alloc o) A xs:=h.below (az w o)
end
def ai(n:Int):Prop:=-9223372036854775808≤n∧n≤9223372036854775807
def bJ(S:Nat→Prop)(w:World)(A:Option Addr)(l:List ByteArray):Prop :=
 Rd S w A (l.map .string)∧(∀s∈l,s.size≤9223372036854775807)∧l.length≤9223372036854775807
def IntsIn(S:Nat→Prop)(w:World)(A:Option Addr)(l:List Int):Prop :=
 Rd S w A (l.map (.int .i64))∧(∀n∈l,ai n)∧l.length≤9223372036854775807
def bytesV(l:List UInt8):List Value:=l.map fun c=> .int .u8 c.toNat
def BytesIn(S:Nat→Prop)(w:World)(A:Option Addr)(l:List UInt8):Prop :=
 Rd S w A (bytesV l)∧l.length≤9223372036854775807
def bG(S:Nat→Prop)(w:World):Option Addr→Fo→Prop
 | _,.nil=>True
 | A,.cons k t n ks r=>∃b o KA c,A=some ⟨b,o,none⟩∧S b∧w.cell? ⟨b,o,none⟩=some (.int .u8 k)∧w.cell? ⟨b,o+1,none⟩=some (.string t)∧
   w.cell? ⟨b,o+2,none⟩=some (.int .i64 n)∧w.cell? ⟨b,o+3,none⟩=some (.slice KA ks.len c)∧
   k<256∧t.size≤9223372036854775807∧ai n∧ks.len≤c∧c≤9223372036854775807∧bG S w KA ks∧bG S w (some ⟨b,o+4,none⟩) r
def Fo.cnt:Fo→Nat
 | .nil=>0
 | .cons _ _ _ ks r=>1+ks.cnt+r.cnt
theorem Fo.drop_succ{f:Fo}{i k:Nat}{t:ByteArray}{n:Int}{ks r:Fo}(h:f.drop i = .cons k t n ks r):f.drop (i+1)=r:=by
 induction i generalizing f with
 | zero=>cases f with
  | nil=>cases h
  | cons=>cases h;rfl
 | succ i ih=>cases f with
  | nil=>cases h
  | cons=>exact ih h
theorem Fo.drop_len :∀(f:Fo) (i:Nat),f.len≤i→f.drop i = .nil:=by
 intro f
 induction f with
 | nil=>intro i _;cases i<;>rfl
 | cons k t n ks r _ ih=>intro i hi;cases i with
  | zero=>simp[Fo.len]at hi
  | succ i=>exact ih i (by simp[Fo.len]at hi;omega)
theorem Fo.len_drop :∀(f:Fo) (i:Nat),(f.drop i).len=f.len-i:=by
 intro f
 induction f with
 | nil=>intro i;cases i<;>simp[Fo.drop,Fo.len]
 | cons k t n ks r _ ih=>intro i;cases i with
  | zero=>simp[Fo.drop]
  | succ i=>simp[Fo.drop,Fo.len,ih i]
theorem Fo.len_le_cnt :∀f:Fo,f.len≤f.cnt:=by
 intro f
 induction f with
 | nil=>simp[Fo.len,Fo.cnt]
 | cons k t n ks r _ ih=>simp[Fo.len,Fo.cnt];omega
section
variable {S S' : Nat → Prop} {w w' : World} {B : Nat}
theorem bG.keep :∀{f:Fo} {A:Option Addr},bG S w A f→(∀b,S b→w'.heap[b]?=w.heap[b]?)→bG S w' A f:=by
 intro f
 induction f with
 | nil=>intro A _ _;exact trivial
 | cons k t n ks r ihk ihr =>
  rintro A ⟨b,o,KA,c,rfl,hS,c0,c1,c2,c3,e1,e2,e3,e4,e5,hks,hr⟩ hk;have hb:=hk b hS;exact⟨b,o,KA,c,rfl,hS,(World.cell?_of_block hb).trans c0,(World.cell?_of_block hb).trans c1,(World.cell?_of_block hb).trans c2,(World.cell?_of_block hb).trans c3,e1,e2,e3,e4,e5,ihk hks hk,ihr hr hk⟩
theorem bG.mono :∀{f:Fo} {A:Option Addr},bG S w A f→(∀b,b<w.heap.size→S b→S' b)→bG S' w A f:=by
 intro f
 induction f with
 | nil=>intro A _ _;exact trivial
 | cons k t n ks r ihk ihr =>
  rintro A ⟨b,o,KA,c,rfl,hS,c0,c1,c2,c3,e1,e2,e3,e4,e5,hks,hr⟩ hm;exact⟨b,o,KA,c,rfl,hm b (block_lt_of_cell c0) hS,c0,c1,c2,c3,e1,e2,e3,e4,e5,ihk hks hm,ihr hr hm⟩
theorem bG.below :∀{f:Fo} {A:Option Addr},bG S w A f→Below w.heap.size w w'→bG S w' A f:=by
 intro f A h hb;have h2:bG (fun b=>S b∧b<w.heap.size) w A f:=h.mono fun b hlt hS=>⟨hS,hlt⟩;exact(h2.keep (w':=w') fun b hS=>hb.block b hS.2).mono fun b _ hS=>hS.1
theorem bG.at_ :∀{f:Fo} {A:Option Addr} {i:Nat},bG S w A f→i<f.len→∃b o KA c k t n ks r,A=some ⟨b,o,none⟩∧f.drop i = .cons k t n ks r∧
  w.cell? ⟨b,o+i*4,none⟩=some (.int .u8 k)∧w.cell? ⟨b,o+i*4+1,none⟩=some (.string t)∧
  w.cell? ⟨b,o+i*4+2,none⟩=some (.int .i64 n)∧w.cell? ⟨b,o+i*4+3,none⟩=some (.slice KA ks.len c)∧
  k<256∧t.size≤9223372036854775807∧ai n∧ks.len≤c∧c≤9223372036854775807∧bG S w KA ks∧ks.cnt<f.cnt:=by
 intro f
 induction f with
 | nil=>intro A i _ h;simp[Fo.len]at h
 | cons k t n ks r ihk ihr =>
  rintro A i ⟨b,o,KA,c,rfl,hS,c0,c1,c2,c3,e1,e2,e3,e4,e5,hks,hr⟩ hi;cases i with
  | zero=>exact⟨b,o,KA,c,k,t,n,ks,r,rfl,rfl,by simpa using c0,by simpa using c1,by simpa using c2,by simpa using c3,e1,e2,e3,e4,e5,hks,by simp[Fo.cnt];omega⟩
  | succ i =>
   obtain⟨b',o',nD,c',k',t',n',ks',r',hA,hd,d0,d1,d2,d3,f1,f2,f3,f4,f5,fJ,hcnt⟩:=ihr hr (by simpa[Fo.len]using hi);injection hA with hA;injection hA with h1 h2;subst h1;subst h2;have ho:o+4+i*4=o+(i+1)*4:=by omega
   rw[ho]at d0 d1 d2 d3;exact⟨b,o,nD,c',k',t',n',ks',r',rfl,hd,d0,d1,d2,d3,f1,f2,f3,f4,f5,fJ,by simp[Fo.cnt];omega⟩
end
end
section
open Go.RowKit
theorem Jb{α:Type}{l m:List α}{k:Nat}(h :∀j,j<k→l[j]?=m[j]?)(hk:l[k]?=m[k]?):∀j,j<k+1→l[j]?=m[j]?:=by
 intro j hj;rcases Nat.lt_or_ge j k with h1|h1
 ·exact h j h1
 ·obtain rfl:j=k:=by omega
  exact hk
theorem Jc{α:Type}{l m:List α}{k:Nat}(h :∀j,j<k→l[j]?=m[j]?)(hl:l.length=m.length)(hk :¬k<l.length):l=m:=by
 apply List.ext_getElem?;intro j;by_cases hj:j<k
 ·exact h j hj
 ·rw[List.getElem?_eq_none (by omega),List.getElem?_eq_none (by omega)]
theorem Jd{s t:ByteArray}:(s.toList == t.toList)=true↔s=t:=by
 rw[beq_iff_eq,ByteArray.toList_eq,ByteArray.toList_eq];obtain⟨⟨a⟩⟩:=s;obtain⟨⟨b⟩⟩:=t;simp
theorem dZ{s t:ByteArray}:s.toList=t.toList↔s=t:=by rw[←beq_iff_eq,Jd]
theorem Je{α:Type}{l m:List α}{k:Nat}{x y:α}(h1:l[k]?=some x)(h2:m[k]?=some y)(h:x≠y):l≠m:=by
 rintro rfl;rw[h1]at h2;exact h (by injection h2)
theorem vM{s t:ByteArray}(h:(!s.toList == t.toList)=true):s≠t:=by
 rintro rfl;simp at h
theorem qF{s t:ByteArray}(h:(!s.toList == t.toList)=false):s=t:=Jd.1 (by simpa using h)
theorem Jf{α:Type}{l m:List α}(h :¬l.length=m.length):l≠m:=by rintro rfl;exact h rfl
theorem O8{S S':Nat→Prop}{A A':Option Addr}{c c':Nat}{l m:List ByteArray}{w:World}(hl:bJ S w A l)(hm:bJ S' w A' m):
  Calls Tryz.prog 65 #[.slice A l.length c,.slice A' m.length c'] w fun e w'=>ah (l=m) e∧∃n,w'=w.drewN n:=by
 have hl3:=hl.2.2;have nG:=hm.2.2;have Hl:=hide hl.1;have Hm:=hide hm.1;clear hl hm;by_cases hn:l.length=m.length
 ·have hd:((l.length:Int) != (m.length:Int))=false:=by simp[hn]
  have Hn:=hide hn;clear hn;go_enter Tryz.func65,Tryz.ntmps65
  go_wp2
  go_loopw [5] (fun i wr=>∃k q:Nat,k≤l.length∧i = .int .i64 k∧wr=w.drewN q∧Hid (∀j,j<k→l[j]?=m[j]?)) (fun i _=>l.length-(intOf i).toNat)
  case atStart=>exact⟨0,0,Nat.zero_le _,rfl,rfl,hide (fun j h=>absurd h (by omega))⟩
  case round =>
   obtain⟨k,q,hk,rfl,rfl,hall⟩:=hrel;by_cases hlt:k<l.length
   ·obtain⟨b,o,rfl,h1⟩:=Hl.out.at_ (j:=k) (by simpa using hlt);obtain⟨b',o',rfl,h2⟩:=Hm.out.at_ (j:=k) (by have:=Hn.out;simp;omega);simp only[List.getElem_map]at h1 h2;have hlt2:k<m.length:=by have:=Hn.out;omega
    have e1:l[k]?=some l[k]:=by simp[hlt]
    have e2:m[k]?=some m[k]:=by simp[hlt2]
    have E1:=hide e1;have E2:=hide e2;clear e1 e2;generalize l[k]=s at h1 E1;generalize m[k]=s' at h2 E2
    go_wp2
    go_quiet (fail)
    go_wp2
    ·have ht:(!s.toList == s'.toList)=true:=by assumption
     go_ret;exact⟨ah.no (Je E1.out E2.out (vM ht)),_,World.drewN_drewN _ _ _⟩
    ·have ht:(!s.toList == s'.toList)=false:=by assumption
     go_roundw
     case rel=>exact⟨k+1,_,by omega,by go_num,rfl,hide (Jb hall.out (by rw[E1.out,E2.out,qF ht]))⟩
     case measure=>simp[intOf];omega
   ·go_wp2
    go_ret;exact⟨ah.yes (Jc hall.out Hn.out hlt),_,rfl⟩
 ·have hd:((l.length:Int) != (m.length:Int))=true:=by simp;omega
  have Hn:=hide hn;clear hn;go_enter Tryz.func65,Tryz.ntmps65
  go_wp2
  go_ret;exact⟨ah.no (Jf Hn.out),0,rfl⟩
theorem XN{S S':Nat→Prop}{A A':Option Addr}{c c':Nat}{l m:List Int}{w:World}(hl:IntsIn S w A l)(hm:IntsIn S' w A' m):
  Calls Tryz.prog 207 #[.slice A l.length c,.slice A' m.length c'] w fun e w'=>ah (l=m) e∧∃n,w'=w.drewN n:=by
 have hl3:=hl.2.2;have nG:=hm.2.2;have Hl:=hide hl.1;have Hm:=hide hm.1;clear hl hm;by_cases hn:l.length=m.length
 ·have hd:((l.length:Int) != (m.length:Int))=false:=by simp[hn]
  have Hn:=hide hn;clear hn;go_enter Tryz.func207,Tryz.ntmps207
  go_wp2
  go_loopw [5] (fun i wr=>∃k q:Nat,k≤l.length∧i = .int .i64 k∧wr=w.drewN q∧Hid (∀j,j<k→l[j]?=m[j]?)) (fun i _=>l.length-(intOf i).toNat)
  case atStart=>exact⟨0,0,Nat.zero_le _,rfl,rfl,hide (fun j h=>absurd h (by omega))⟩
  case round =>
   obtain⟨k,q,hk,rfl,rfl,hall⟩:=hrel;by_cases hlt:k<l.length
   ·obtain⟨b,o,rfl,h1⟩:=Hl.out.at_ (j:=k) (by simpa using hlt);obtain⟨b',o',rfl,h2⟩:=Hm.out.at_ (j:=k) (by have:=Hn.out;simp;omega);simp only[List.getElem_map]at h1 h2;have hlt2:k<m.length:=by have:=Hn.out;omega
    have e1:l[k]?=some l[k]:=by simp[hlt]
    have e2:m[k]?=some m[k]:=by simp[hlt2]
    have E1:=hide e1;have E2:=hide e2;clear e1 e2;generalize l[k]=s at h1 E1;generalize m[k]=s' at h2 E2
    go_wp2
    go_quiet (fail)
    go_wp2
    ·have ht:(s != s')=true:=by assumption
     go_ret;exact⟨ah.no (Je E1.out E2.out (by simpa using ht)),_,World.drewN_drewN _ _ _⟩
    ·have ht:(s != s')=false:=by assumption
     go_roundw
     case rel=>exact⟨k+1,_,by omega,by go_num,rfl,hide (Jb hall.out (by rw[E1.out,E2.out,(by simpa using ht:s=s')]))⟩
     case measure=>simp[intOf];omega
   ·go_wp2
    go_ret;exact⟨ah.yes (Jc hall.out Hn.out hlt),_,rfl⟩
 ·have hd:((l.length:Int) != (m.length:Int))=true:=by simp;omega
  have Hn:=hide hn;clear hn;go_enter Tryz.func207,Tryz.ntmps207
  go_wp2
  go_ret;exact⟨ah.no (Jf Hn.out),0,rfl⟩
theorem O9{S S':Nat→Prop}{A A':Option Addr}{c c':Nat}{l m:List ByteArray}{w:World}(hl:bJ S w A l)(hm:bJ S' w A' m):
  Calls Tryz.prog 215 #[.slice A l.length c,.slice A' m.length c'] w fun e w'=>ah (l=m) e∧∃n,w'=w.drewN n:=by
 have hl3:=hl.2.2;have nG:=hm.2.2;have Hl:=hide hl.1;have Hm:=hide hm.1;clear hl hm;by_cases hn:l.length=m.length
 ·have hd:((l.length:Int) != (m.length:Int))=false:=by simp[hn]
  have Hn:=hide hn;clear hn;go_enter Tryz.func215,Tryz.ntmps215
  go_wp2
  go_loopw [13,5] (fun i _ wr=>∃k q:Nat,k≤l.length∧i = .int .i64 k∧wr=w.drewN q∧Hid (∀j,j<k→l[j]?=m[j]?)) (fun i _ _=>l.length-(intOf i).toNat)
  case atStart=>exact⟨0,0,Nat.zero_le _,rfl,rfl,hide (fun j h=>absurd h (by omega))⟩
  case round =>
   obtain⟨k,q,hk,rfl,rfl,hall⟩:=hrel;by_cases hlt:k<l.length
   ·obtain⟨b,o,rfl,h1⟩:=Hl.out.at_ (j:=k) (by simpa using hlt);obtain⟨b',o',rfl,h2⟩:=Hm.out.at_ (j:=k) (by have:=Hn.out;simp;omega);simp only[List.getElem_map]at h1 h2;have hlt2:k<m.length:=by have:=Hn.out;omega
    have e1:l[k]?=some l[k]:=by simp[hlt]
    have e2:m[k]?=some m[k]:=by simp[hlt2]
    have E1:=hide e1;have E2:=hide e2;clear e1 e2;generalize l[k]=s at h1 E1;generalize m[k]=s' at h2 E2
    go_wp2
    go_quiet (fail)
    go_wp2
    ·have ht:(!s.toList == s'.toList)=true:=by assumption
     go_ret;exact⟨ah.no (Je E1.out E2.out (vM ht)),_,World.drewN_drewN _ _ _⟩
    ·have ht:(!s.toList == s'.toList)=false:=by assumption
     go_roundw
     case rel=>exact⟨k+1,_,by omega,by go_num,rfl,hide (Jb hall.out (by rw[E1.out,E2.out,qF ht]))⟩
     case measure=>simp[intOf];omega
   ·go_wp2
    go_ret;exact⟨ah.yes (Jc hall.out Hn.out hlt),_,rfl⟩
 ·have hd:((l.length:Int) != (m.length:Int))=true:=by simp;omega
  have Hn:=hide hn;clear hn;go_enter Tryz.func215,Tryz.ntmps215
  go_wp2
  go_ret;exact⟨ah.no (Jf Hn.out),0,rfl⟩
theorem XO{S S':Nat→Prop}{A A':Option Addr}{c c':Nat}{l m:List Int}{w:World}(hl:IntsIn S w A l)(hm:IntsIn S' w A' m):
  Calls Tryz.prog 223 #[.slice A l.length c,.slice A' m.length c'] w fun e w'=>ah (l=m) e∧∃n,w'=w.drewN n:=by
 have hl3:=hl.2.2;have nG:=hm.2.2;have Hl:=hide hl.1;have Hm:=hide hm.1;clear hl hm;by_cases hn:l.length=m.length
 ·have hd:((l.length:Int) != (m.length:Int))=false:=by simp[hn]
  have Hn:=hide hn;clear hn;go_enter Tryz.func223,Tryz.ntmps223
  go_wp2
  go_loopw [13,5] (fun i _ wr=>∃k q:Nat,k≤l.length∧i = .int .i64 k∧wr=w.drewN q∧Hid (∀j,j<k→l[j]?=m[j]?)) (fun i _ _=>l.length-(intOf i).toNat)
  case atStart=>exact⟨0,0,Nat.zero_le _,rfl,rfl,hide (fun j h=>absurd h (by omega))⟩
  case round =>
   obtain⟨k,q,hk,rfl,rfl,hall⟩:=hrel;by_cases hlt:k<l.length
   ·obtain⟨b,o,rfl,h1⟩:=Hl.out.at_ (j:=k) (by simpa using hlt);obtain⟨b',o',rfl,h2⟩:=Hm.out.at_ (j:=k) (by have:=Hn.out;simp;omega);simp only[List.getElem_map]at h1 h2;have hlt2:k<m.length:=by have:=Hn.out;omega
    have e1:l[k]?=some l[k]:=by simp[hlt]
    have e2:m[k]?=some m[k]:=by simp[hlt2]
    have E1:=hide e1;have E2:=hide e2;clear e1 e2;generalize l[k]=s at h1 E1;generalize m[k]=s' at h2 E2
    go_wp2
    go_quiet (fail)
    go_wp2
    ·have ht:(s != s')=true:=by assumption
     go_ret;exact⟨ah.no (Je E1.out E2.out (by simpa using ht)),_,World.drewN_drewN _ _ _⟩
    ·have ht:(s != s')=false:=by assumption
     go_roundw
     case rel=>exact⟨k+1,_,by omega,by go_num,rfl,hide (Jb hall.out (by rw[E1.out,E2.out,(by simpa using ht:s=s')]))⟩
     case measure=>simp[intOf];omega
   ·go_wp2
    go_ret;exact⟨ah.yes (Jc hall.out Hn.out hlt),_,rfl⟩
 ·have hd:((l.length:Int) != (m.length:Int))=true:=by simp;omega
  have Hn:=hide hn;clear hn;go_enter Tryz.func223,Tryz.ntmps223
  go_wp2
  go_ret;exact⟨ah.no (Jf Hn.out),0,rfl⟩
theorem vN :∀c:Fin 256,(97≤(c.val ||| 32)∧(c.val ||| 32)≤122)↔((97≤c.val∧c.val≤122)∨(65≤c.val∧c.val≤90)):=by decide +kernel
theorem qG(c:UInt8):bits .or .u8 (c.toNat:Int) 32=((c.toNat ||| 32:Nat):Int):=by
 have h :∀c:Fin 256,bits .or .u8 (c.val:Int) 32=((c.val ||| 32:Nat):Int):=by decide +kernel
 exact h ⟨c.toNat,c.toNat_lt⟩
theorem TW(c:UInt8):(97≤(c.toNat ||| 32)∧(c.toNat ||| 32)≤122)↔((97≤c.toNat∧c.toNat≤122)∨(65≤c.toNat∧c.toNat≤90)):=vN ⟨c.toNat,c.toNat_lt⟩
theorem TY(c:UInt8)(w:World):Calls Tryz.prog 255 #[.int .u8 c.toNat] w fun e w'=>ah (Letter c) e∧w=w':=by
 have h1:=qG c;have h2:=hide (TW c);generalize c.toNat ||| 32=m at h1 h2;go_enter Tryz.func255,Tryz.ntmps255
 go_wp2
 all_goals go_ret
 all_goals exact⟨ah.mk (by have:=h2.out;unfold Letter;simp;try omega),rfl⟩
theorem rQ(c:UInt8)(w:World):Calls Tryz.prog 258 #[.int .u8 c.toNat] w fun e w'=>ah (Letter c∨Digit c) e∧w=w':=by
 go_enter Tryz.func258,Tryz.ntmps258
 go_wp2_with(go_at_call 255;refine(TY c _).mono ?_;rintro e w' ⟨⟨b,rfl,hb⟩,rfl⟩;have Hb:=hide hb;clear hb)
 all_goals(go_ret;go_tidy;exact⟨ah.mk (by rw[←Hb.out];unfold Digit;simp[*];try omega),rfl⟩)
theorem XP(c:UInt8)(w:World):Calls Tryz.prog 222 #[.int .u8 c.toNat] w fun e w'=>ah (eU c) e∧w=w':=by
 have h1:=qG c;have h2:=hide (TW c);generalize c.toNat ||| 32=m at h1 h2;go_enter Tryz.func222,Tryz.ntmps222
 go_wp2
 all_goals go_ret
 all_goals exact⟨ah.mk (by have:=h2.out;unfold eU Digit;simp;try omega),rfl⟩
theorem MM{s:ByteArray}{P:UInt8→Prop}{k:Nat}(h :∀j,j<k→(h':j<s.size)→P (s[j]))(hk:k<s.size)(hp:P s[k]):∀j,j<k+1→(h':j<s.size)→P (s[j]):=by
 intro j hj h';rcases Nat.lt_or_ge j k with h1|h1
 ·exact h j h1 h'
 ·obtain rfl:j=k:=by omega
  exact hp
theorem MN{s:ByteArray}{P:UInt8→Prop}{k:Nat}(h :∀j,j<k→(h':j<s.size)→P (s[j]))(hk :¬k<s.size):∀c∈s.data.toList,P c :=
 AO fun j h'=>h j (by omega) h'
theorem TZ{s:ByteArray}(h :∀c∈s.data.toList,eU c):dJ s↔1≤s.size∧s.size≤24:=by unfold dJ;exact⟨fun h=>⟨h.1,h.2.1⟩,fun h'=>⟨h'.1,h'.2,h⟩⟩
theorem MO(s:ByteArray)(w:World)(hs:s.size≤9223372036854775807):Calls Tryz.prog 174 #[.string s] w fun e w'=>ah (dJ s) e∧w=w':=by
 go_enter Tryz.func174,Tryz.ntmps174
 go_wp2_with fail
 go_loop [7,4] (fun i _=>∃k:Nat,k≤s.size∧i = .int .i64 k∧Hid (∀j,(h:j<k)→(h':j<s.size)→eU (s[j]))) (fun i _=>s.size-(intOf i).toNat)
 case atStart=>exact⟨0,Nat.zero_le _,rfl,hide (fun j h=>absurd h (by omega))⟩
 case round =>
  obtain⟨k,hk,rfl,hall⟩:=hrel;by_cases hlt:k<s.size
  ·go_wp2_with(go_at_call 222;refine(XP s[k] _).mono ?_;rintro e w' ⟨⟨_|_,rfl,hb⟩,rfl⟩<;>(have Hb:=hide hb;clear hb))
   ·go_ret;exact⟨ah.no fun h=>(by simpa using Hb.out :¬eU s[k]) (h.2.2 _ (ML s k hlt)),rfl⟩
   ·go_round
    case rel=>exact⟨k+1,by omega,by go_num,hide (MM hall.out hlt (by simpa using Hb.out))⟩
    case measure=>simp[intOf];omega
  ·have H:=hide (MN hall.out hlt);clear hall
   go_wp2_with fail
   all_goals(go_ret;go_tidy;exact⟨ah.mk (by rw[TZ H.out];have hz:=mg s;clear H;grind),rfl⟩)
end
section
open Go.RowKit
section
variable {α : Type} {V : World → Value → α → Prop} {r : Nat} {w w' : World}
def Stable(r:Nat)(V:World→Value→α→Prop):Prop :=
 ∀(w w':World) v x,(∀i,i<w.heap.size→i≠r→w'.heap[i]?=w.heap[i]?)→V w v x→V w' v x
def Match(V:World→Value→α→Prop)(kd:IntKind)(w:World):List MapEntry→List (Int×α)→Prop
 | [],[]=>True
 | e::es,(k,x)::t=>e.key = .int kd k∧V w e.val x∧Match V kd w es t
 | _,_=>False
def Tab(V:World→Value→α→Prop)(kd:IntKind)(w:World)(r:Nat)(t:List (Int×α)):Prop :=
 ∃(es:Array MapEntry) (c:Nat),w.heap[r]?=some (.map es c)∧Match V kd w es.toList t
variable {kd : IntKind}
theorem Match.keep(hV:Stable r V)(hk :∀i,i<w.heap.size→i≠r→w'.heap[i]?=w.heap[i]?):∀{es:List MapEntry} {t:List (Int×α)},Match V kd w es t→Match V kd w' es t
 | [],[],_=>trivial
 | _::_,(_,_)::_,⟨h1,h2,h3⟩=>⟨h1,hV w w' _ _ hk h2,Match.keep hV hk h3⟩
 | [],_::_,h=>h.elim
 | _::_,[],h=>h.elim
theorem Match.snoc :∀{es:List MapEntry} {t:List (Int×α)} {e:MapEntry} {k:Int} {x:α},Match V kd w es t→e.key = .int kd k→V w e.val x→Match V kd w (es++[e]) (t++[(k,x)])
 | [],[],_,_,_,_,h1,h2=>⟨h1,h2,trivial⟩
 | _::_,(_,_)::_,_,_,_,⟨a,b,c⟩,h1,h2=>⟨a,b,Match.snoc c h1 h2⟩
 | [],_::_,_,_,_,h,_,_=>h.elim
 | _::_,[],_,_,_,h,_,_=>h.elim
theorem Match.find :∀{es:List MapEntry} {t:List (Int×α)} (k:Int) (i:Nat),Match V kd w es t→
  (t.find? (fun p=>k == p.1)=none∧Instr.findNow (.int kd) (.int kd k) es i=some none)∨
  ∃k' x j v,t.find? (fun p=>k == p.1)=some (k',x)∧V w v x∧Instr.findNow (.int kd) (.int kd k) es i=some (some (j,v))
 | [],[],_,_,_=> .inl ⟨rfl,rfl⟩
 | e::es,(k',x)::t,k,i,⟨h1,h2,h3⟩=>by
  by_cases hk:k=k'
  ·subst hk;exact .inr ⟨k,x,i,e.val,by simp,h2,by simp[Instr.findNow,h1,Instr.sameNow]⟩
  ·have hk':(k == k')=false:=by simp[hk]
   rcases Match.find k (i+1) h3 with⟨ha,hb⟩|⟨k'',x',j,v,ha,hv,hb⟩
   ·exact .inl ⟨by simp[hk,ha],by simp[Instr.findNow,h1,Instr.sameNow,hb,hk']⟩
   ·exact .inr ⟨k'',x',j,v,by simp[hk,ha],hv,by simp[Instr.findNow,h1,Instr.sameNow,hb,hk']⟩
 | [],_::_,_,_,h=>h.elim
 | _::_,[],_,_,h=>h.elim
theorem Tab.keep{t:List (Int×α)}(h:Tab V kd w r t)(hV:Stable r V)(hb:Below w.heap.size w w'):Tab V kd w' r t:=by
 obtain⟨es,c,h1,h2⟩:=h;exact⟨es,c,(hb.block r (Array.getElem?_eq_some_iff.1 h1).1).trans h1,h2.keep hV fun i hi _=>hb.block i hi⟩
theorem Tab.new(w:World):Tab V kd (w.alloc (.map #[] 0)) w.heap.size []:=⟨#[],0,heap_alloc_new w _,trivial⟩
theorem Tab.lt{t:List (Int×α)}(h:Tab V kd w r t):r<w.heap.size:=by obtain⟨es,c,h1,_⟩:=h;exact(Array.getElem?_eq_some_iff.1 h1).1
variable {P : Program} {T K E : TypeId}
theorem XQ{t:List (Int×α)}(hT:Tab V kd w r t)(hV:Stable r V)(ht:P.underlying T=some (.map K E))(hK:P.underlying K=some (.int kd)){k:Int}{v:Value}{x:α}(hv:V w v x)
  (hn:t.find? (fun p=>k == p.1)=none):
  ∃w',(Instr.mapUpdate T (.map (some r)) (.int kd k) v).run P w = .ok () w'∧Tab V kd w' r (t++[(k,x)])∧w.grownBy w' (some r):=by
 obtain⟨es,c,h1,h2⟩:=hT;rcases h2.find k 0 with⟨_,hf⟩|⟨k',x',j,v',ha,_,_⟩
 ·refine⟨{w with heap:=w.heap.setIfInBounds r (.map (es.push {key:= .int kd k,val:=v,born:=c}) (c+1)) },?_,?_,?_⟩
  ·unfold Instr.mapUpdate;simp only[Sem.run_bind,run_underlying ht,Result.andThen,MapKept.run_getObj_map h1,MapKept.run_checkKey hK (k:= .int kd k) (by simp[MapKept.IsKey]) false 9999,MapKept.run_findKey hK hf,MapKept.run_setObj_map _ h1]
  ·obtain⟨ha,hb⟩:=MapKept.heap_set (o':= .map (es.push {key:= .int kd k,val:=v,born:=c}) (c+1)) h1;refine⟨_,_,ha,?_⟩;simp only[Array.toList_push];have hk :∀i,i<w.heap.size→i≠r→(w.heap.setIfInBounds r (.map (es.push {key:= .int kd k,val:=v,born:=c}) (c+1)))[i]?=w.heap[i]?:=fun i _ hne=>hb i hne;exact Match.snoc (h2.keep hV hk) rfl (hV _ _ _ _ hk hv)
  ·exact⟨rfl,rfl,rfl,by simp,fun i _ hne=>(MapKept.heap_set h1).2 i (by simpa using hne)⟩
 ·rw[hn]at ha;cases ha
theorem Jg{o:Oper}{a:Act}{K':Act→World→Prop}{Q:Exit→Act→World→Prop}{wb:World}{t:List (Int×α)}{k:Int}{v:Value}{x:α}
  (hd:o.dst=none) (ht:P.underlying T=some (.map K E)) (hK:P.underlying K=some (.int kd)) (hT:Tab V kd wb r t) (hV:Stable r V)
  (hB:Below wb.heap.size wb w) (hv:V w v x) (hn:t.find? (fun p=>k == p.1)=none)
  (h :∀w',Tab V kd w' r (t++[(k,x)])→w.grownBy w' (some r)→K' a w'):
  Oper.upon P o a K' Q (((Instr.mapUpdate T (.map (some r)) (.int kd k) v).run P w).andThen fun _ w'=> .ok .skip w'):=by
 obtain⟨w',hrun,h1,h2⟩:=XQ (hT.keep hV hB) hV ht hK hv hn;rw[hrun];show K' (a.put o.dst undef) w';rw[hd];exact h w' h1 h2
theorem XR{t:List (Int×α)}(hT:Tab V kd w r t)(ht:P.underlying T=some (.map K E))(hK:P.underlying K=some (.int kd)){z:Value}(hz:(zeroValue E).run P w = .ok z w)(k:Int):
  (t.find? (fun p=>k == p.1)=none∧(Instr.lookup T (.map (some r)) (.int kd k) true).run P w = .ok (.tuple #[z,.bool false]) w)∨
  ∃k' x v,t.find? (fun p=>k == p.1)=some (k',x)∧V w v x∧(Instr.lookup T (.map (some r)) (.int kd k) true).run P w = .ok (.tuple #[v,.bool true]) w:=by
 obtain⟨es,c,e1,e2⟩:=hT;rcases e2.find k 0 with⟨hf,hn⟩|⟨k',x,j,v,hf,hv,hn⟩
 ·refine .inl ⟨hf,?_⟩;unfold Instr.lookup;simp[Sem.run_bind,run_underlying ht,Result.andThen,MapKept.run_getObj_map e1,MapKept.run_checkKey hK (k:= .int kd k) (by simp[MapKept.IsKey]) _ 9999,MapKept.run_findKey hK hn,hz]
 ·refine .inr ⟨k',x,v,hf,hv,?_⟩;unfold Instr.lookup;simp[Sem.run_bind,run_underlying ht,Result.andThen,MapKept.run_getObj_map e1,MapKept.run_checkKey hK (k:= .int kd k) (by simp[MapKept.IsKey]) _ 9999,MapKept.run_findKey hK hn]
end
end
section
open Go.RowKit
theorem Ua{k k':Nat}{t t':ByteArray}{n n':Int}{A A':Option Addr}{c c':Nat}{ks ks':Fo}{w:World}
  (hk :∀W,Below w.heap.size w W→Calls Tryz.prog 206 #[.slice A ks.len c,.slice A' ks'.len c'] W fun e w'=>ah (ks=ks') e∧Below W.heap.size W w'):
  Calls Tryz.prog 148 #[.agg #[.int .u8 k,.string t,.int .i64 n,.slice A ks.len c],.agg #[.int .u8 k',.string t',.int .i64 n',.slice A' ks'.len c']] w
   fun e w'=>ah (k=k'∧t=t'∧n=n'∧ks=ks') e∧Below w.heap.size w w':=by
 have Hk:=hide hk;clear hk;have htt:=hide (dZ (s:=t) (t:=t'));go_enter Tryz.func148,Tryz.ntmps148
 go_wp2_with(go_at_call 206;refine(Hk.out _ (iD _ _)).mono ?_;rintro e w' ⟨⟨b,rfl,hb⟩,hw⟩;have Hb:=hide hb;have Hw:=hide hw;clear hb hw)
 all_goals
  go_ret;go_tidy;have htt:=htt.out;refine⟨ah.mk (by first|(rw[Hb.out];grind)|grind),?_⟩
  first
   | exact Dy Hw.out
   | exact iD _ _
theorem Ub{k k':Nat}{t t':ByteArray}{n n':Int}{A A':Option Addr}{c c':Nat}{ks ks':Fo}{w:World}
  (hk :∀W,Below w.heap.size w W→Calls Tryz.prog 224 #[.slice A ks.len c,.slice A' ks'.len c',.func (.func 221) #[] #[]] W fun e w'=>ah (ks=ks') e∧Below W.heap.size W w'):
  Calls Tryz.prog 221 #[.agg #[.int .u8 k,.string t,.int .i64 n,.slice A ks.len c],.agg #[.int .u8 k',.string t',.int .i64 n',.slice A' ks'.len c']] w
   fun e w'=>ah (k=k'∧t=t'∧n=n'∧ks=ks') e∧Below w.heap.size w w':=by
 have Hk:=hide hk;clear hk;have htt:=hide (dZ (s:=t) (t:=t'));go_enter Tryz.func221,Tryz.ntmps221
 go_wp2_with(go_at_call 224;refine(Hk.out _ (iD _ _)).mono ?_;rintro e w' ⟨⟨b,rfl,hb⟩,hw⟩;have Hb:=hide hb;have Hw:=hide hw;clear hb hw)
 all_goals
  go_ret;go_tidy;have htt:=htt.out;refine⟨ah.mk (by first|(rw[Hb.out];grind)|grind),?_⟩
  first
   | exact Dy Hw.out
   | exact iD _ _
theorem qH{f g:Fo}{i k k':Nat}{t t':ByteArray}{n n':Int}{ks ks' r r':Fo}(h:f=g↔f.drop i=g.drop i)(hf:f.drop i = .cons k t n ks r)(hg:g.drop i = .cons k' t' n' ks' r')
  (he:k=k'∧t=t'∧n=n'∧ks=ks'):f=g↔f.drop (i+1)=g.drop (i+1):=by
 obtain⟨rfl,rfl,rfl,rfl⟩:=he;rw[h,hf,hg,Fo.drop_succ hf,Fo.drop_succ hg];simp
theorem DC{f g:Fo}{i k k':Nat}{t t':ByteArray}{n n':Int}{ks ks' r r':Fo}(hf:f.drop i = .cons k t n ks r)(hg:g.drop i = .cons k' t' n' ks' r')
  (he :¬(k=k'∧t=t'∧n=n'∧ks=ks')):¬f=g:=by
 rintro rfl;rw[hf]at hg;injection hg with h1 h2 h3 h4;exact he ⟨h1,h2,h3,h4⟩
theorem vO{f g:Fo}{i:Nat}(h:f=g↔f.drop i=g.drop i)(hl:f.len=g.len)(hi :¬i<f.len):f=g:=by
 rw[h,Fo.drop_len f i (by omega),Fo.drop_len g i (by omega)]
theorem XT(N:Nat):∀(S S':Nat→Prop) (A A':Option Addr) (c c':Nat) (f g:Fo) (w:World),f.cnt<N→bG S w A f→bG S' w A' g→f.len≤9223372036854775807→g.len≤9223372036854775807→
  Calls Tryz.prog 206 #[.slice A f.len c,.slice A' g.len c'] w fun e w'=>ah (f=g) e∧Below w.heap.size w w':=by
 induction N with
 | zero=>intro _ _ _ _ _ _ _ _ _ h;omega
 | succ N ih =>
  intro S S' A A' c c' f g w hN hf hg hlf AP;have nH:=hide ih;have HN:=hide hN;have Hf:=hide hf;have Hg:=hide hg;clear ih hN hf hg;by_cases hn:f.len=g.len
  ·have hd:((f.len:Int) != (g.len:Int))=false:=by simp[hn]
   have Hn:=hide hn;clear hn;go_enter Tryz.func206,Tryz.ntmps206
   go_wp2_with fail
   go_loopw [5] (fun i wr=>∃k:Nat,k≤f.len∧i = .int .i64 k∧Below w.heap.size w wr∧Hid (f=g↔f.drop k=g.drop k)) (fun i _=>f.len-(intOf i).toNat)
   case atStart=>exact⟨0,Nat.zero_le _,rfl,Below.refl _ _,hide Iff.rfl⟩
   case round =>
    obtain⟨i,hi,rfl,hB,hall⟩:=hrel;by_cases hlt:i<f.len
    ·obtain⟨b,o,KA,kc,k,t,n,ks,r,rfl,hdf,c0,c1,c2,c3,e1,e2,e3,e4,e5,hks,hcnt⟩:=(Hf.out.below hB).at_ hlt;have hlt2:i<g.len:=by have:=Hn.out;omega
     obtain⟨b',o',nD,EL,k',t',n',ks',r',rfl,hdg,d0,d1,d2,d3,f1,f2,f3,f4,f5,fJ,vP⟩:=(Hg.out.below hB).at_ hlt2;have HB:=hide hB;have kT:=hide hks;have jX:=hide fJ;have oL:=hide hdf;have Jh:=hide hdg;have Hc:=hide hcnt;clear hB hks fJ hdf hdg hcnt vP;have EM:Hid (∀W,Below wr.heap.size wr W→Calls Tryz.prog 206 #[.slice KA ks.len kc,.slice nD ks'.len EL] W fun e w'=>ah (ks=ks') e∧Below W.heap.size W w'):=
      hide fun W hW=>nH.out S S' KA nD kc EL ks ks' W (by have:=Hc.out;have:=HN.out;omega) (kT.out.below hW) (jX.out.below hW) (by omega) (by omega)
     go_wp2_with fail
     go_still_tail 8,(by kernel_rfl)
     change wpList _ _ _ _ _ wr.drew
     go_wp2_with fail
     refine(Ua (w:=wr.drew) fun W hW=>EM.out W (Ik hW)).mono ?_;rintro e w1 ⟨⟨_|_,rfl,hb⟩,hw⟩
     all_goals
      have Hb:=hide hb;have Hw:=hide hw;clear hb hw
      go_wp2_with fail
     ·go_ret;exact⟨ah.no (DC oL.out Jh.out (by simpa using Hb.out)),aW HB.out (Ik Hw.out)⟩
     ·go_roundw
      case rel=>exact⟨i+1,by omega,by go_num,aW HB.out (Ik Hw.out),hide (qH hall.out oL.out Jh.out (by simpa using Hb.out))⟩
      case measure=>simp[intOf];omega
    ·have HB:=hide hB;clear hB
     go_wp2_with fail
     go_ret;exact⟨ah.yes (vO hall.out Hn.out hlt),HB.out⟩
  ·have hd:((f.len:Int) != (g.len:Int))=true:=by simp;omega
   have Hn:=hide hn;clear hn;go_enter Tryz.func206,Tryz.ntmps206
   go_wp2_with fail
   go_ret;exact⟨ah.no (fun h=>Hn.out (by rw[h])),Below.refl _ _⟩
theorem XU(N:Nat):∀(S S':Nat→Prop) (A A':Option Addr) (c c':Nat) (f g:Fo) (w:World),f.cnt<N→bG S w A f→bG S' w A' g→f.len≤9223372036854775807→g.len≤9223372036854775807→
  Calls Tryz.prog 224 #[.slice A f.len c,.slice A' g.len c',.func (.func 221) #[] #[]] w fun e w'=>ah (f=g) e∧Below w.heap.size w w':=by
 induction N with
 | zero=>intro _ _ _ _ _ _ _ _ _ h;omega
 | succ N ih =>
  intro S S' A A' c c' f g w hN hf hg hlf AP;have nH:=hide ih;have HN:=hide hN;have Hf:=hide hf;have Hg:=hide hg;clear ih hN hf hg;by_cases hn:f.len=g.len
  ·have hd:((f.len:Int) != (g.len:Int))=false:=by simp[hn]
   have Hn:=hide hn;clear hn;go_enter Tryz.func224,Tryz.ntmps224
   go_wp2_with fail
   go_loopw [17,7,8,9] (fun i _ _ _ wr=>∃k:Nat,k≤f.len∧i = .int .i64 k∧Below w.heap.size w wr∧Hid (f=g↔f.drop k=g.drop k)) (fun i _ _ _ _=>f.len-(intOf i).toNat)
   case atStart=>exact⟨0,Nat.zero_le _,rfl,Below.refl _ _,hide Iff.rfl⟩
   case round =>
    obtain⟨i,hi,rfl,hB,hall⟩:=hrel;by_cases hlt:i<f.len
    ·obtain⟨b,o,KA,kc,k,t,n,ks,r,rfl,hdf,c0,c1,c2,c3,e1,e2,e3,e4,e5,hks,hcnt⟩:=(Hf.out.below hB).at_ hlt;have hlt2:i<g.len:=by have:=Hn.out;omega
     obtain⟨b',o',nD,EL,k',t',n',ks',r',rfl,hdg,d0,d1,d2,d3,f1,f2,f3,f4,f5,fJ,vP⟩:=(Hg.out.below hB).at_ hlt2;have HB:=hide hB;have kT:=hide hks;have jX:=hide fJ;have oL:=hide hdf;have Jh:=hide hdg;have Hc:=hide hcnt;clear hB hks fJ hdf hdg hcnt vP;have EM:Hid (∀W,Below wr.heap.size wr W→Calls Tryz.prog 224 #[.slice KA ks.len kc,.slice nD ks'.len EL,.func (.func 221) #[] #[]] W fun e w'=>ah (ks=ks') e∧Below W.heap.size W w'):=
      hide fun W hW=>nH.out S S' KA nD kc EL ks ks' W (by have:=Hc.out;have:=HN.out;omega) (kT.out.below hW) (jX.out.below hW) (by omega) (by omega)
     have hb2:b'<wr.heap.size:=block_lt_of_cell d0
     go_wp2_with fail
     refine(Ub fun W hW=>EM.out W (Dy hW)).mono ?_;rintro e w1 ⟨⟨_|_,rfl,hb⟩,hw⟩
     all_goals
      have Hb:=hide hb;have Hw:=hide hw;clear hb hw
      go_wp2_with fail
     ·go_ret;exact⟨ah.no (DC oL.out Jh.out (by simpa using Hb.out)),aW HB.out (Dy Hw.out)⟩
     ·go_roundw
      case rel=>exact⟨i+1,by omega,by go_num,aW HB.out (Dy Hw.out),hide (qH hall.out oL.out Jh.out (by simpa using Hb.out))⟩
      case measure=>simp[intOf];omega
    ·have HB:=hide hB;clear hB
     go_wp2_with fail
     go_ret;exact⟨ah.yes (vO hall.out Hn.out hlt),HB.out⟩
  ·have hd:((f.len:Int) != (g.len:Int))=true:=by simp;omega
   have Hn:=hide hn;clear hn;go_enter Tryz.func224,Tryz.ntmps224
   go_wp2_with fail
   go_ret;exact⟨ah.no (fun h=>Hn.out (by rw[h])),Below.refl _ _⟩
theorem Pe{S S':Nat→Prop}{A A':Option Addr}{c c':Nat}{f g:Fo}{w:World}(hf:bG S w A f)(hg:bG S' w A' g)(hlf:f.len≤9223372036854775807)(AP:g.len≤9223372036854775807):
  Calls Tryz.prog 206 #[.slice A f.len c,.slice A' g.len c'] w fun e w'=>ah (f=g) e∧Below w.heap.size w w' :=
 XT (f.cnt+1) S S' A A' c c' f g w (by omega) hf hg hlf AP
theorem Uc{S S':Nat→Prop}{k k':Nat}{t t':ByteArray}{n n':Int}{A A':Option Addr}{c c':Nat}{f g:Fo}{w:World}(hf:bG S w A f)(hg:bG S' w A' g)(hlf:f.len≤9223372036854775807)(AP:g.len≤9223372036854775807):
  Calls Tryz.prog 148 #[.agg #[.int .u8 k,.string t,.int .i64 n,.slice A f.len c],.agg #[.int .u8 k',.string t',.int .i64 n',.slice A' g.len c']] w
   fun e w'=>ah (k=k'∧t=t'∧n=n'∧f=g) e∧Below w.heap.size w w' :=
 Ua fun _ hW=>Pe (hf.below hW) (hg.below hW) hlf AP
theorem Pg{S S':Nat→Prop}{A A':Option Addr}{c c':Nat}{f g:Fo}{w:World}(hf:bG S w A f)(hg:bG S' w A' g)(hlf:f.len≤9223372036854775807)(AP:g.len≤9223372036854775807):
  Calls Tryz.prog 224 #[.slice A f.len c,.slice A' g.len c',.func (.func 221) #[] #[]] w fun e w'=>ah (f=g) e∧Below w.heap.size w w' :=
 XU (f.cnt+1) S S' A A' c c' f g w (by omega) hf hg hlf AP
theorem XV{S S':Nat→Prop}{k k':Nat}{t t':ByteArray}{n n':Int}{A A':Option Addr}{c c':Nat}{f g:Fo}{w:World}(hf:bG S w A f)(hg:bG S' w A' g)(hlf:f.len≤9223372036854775807)(AP:g.len≤9223372036854775807):
  Calls Tryz.prog 221 #[.agg #[.int .u8 k,.string t,.int .i64 n,.slice A f.len c],.agg #[.int .u8 k',.string t',.int .i64 n',.slice A' g.len c']] w
   fun e w'=>ah (k=k'∧t=t'∧n=n'∧f=g) e∧Below w.heap.size w w' :=
 Ub fun _ hW=>Pg (hf.below hW) (hg.below hW) hlf AP
theorem rU(c:UInt8)(w:World):Calls Tryz.prog 264 #[.int .u8 c.toNat] w fun e w'=>ah (Digit c) e∧w=w':=by
 go_enter Tryz.func264,Tryz.ntmps264
 go_wp2
 all_goals go_ret
 all_goals exact⟨ah.mk (by unfold Digit;simp;try omega),rfl⟩
theorem Ud(c:UInt8)(w:World):Calls Tryz.prog 261 #[.int .u8 c.toNat] w fun e w'=>ah (Letter c) e∧w=w':=by
 go_enter Tryz.func261,Tryz.ntmps261
 go_wp2
 all_goals go_ret
 all_goals exact⟨ah.mk (by unfold Letter;simp;try omega),rfl⟩
theorem MP(s:ByteArray)(w:World)(hs:s.size≤9223372036854775807):Calls Tryz.prog 183 #[.string s] w fun e w'=>ah (dJ s) e∧w=w':=by
  go_enter Tryz.func183,Tryz.ntmps183
  go_wp2
  go_loop [3] (fun i=>∃k:Nat,k≤s.size∧i = .int .i64 k∧Hid (∀j,(h:j<k)→(h':j<s.size)→eU (s[j]))) (fun i=>s.size-(intOf i).toNat)
  case atStart=>exact⟨0,Nat.zero_le _,rfl,hide (fun j h=>absurd h (by omega))⟩
  case round =>
    obtain⟨k,hk,rfl,hall⟩:=hrel;by_cases hlt:k<s.size
    · go_wp2
      all_goals first
        | (go_round
           case rel=>exact⟨k+1,by omega,by go_num,hide (MM hall.out hlt (by go_tidy;clear hall;unfold eU Digit;simp at *;omega))⟩
           case measure=>simp[intOf];omega)
        | (go_ret
           exact⟨ah.no fun h=>(by go_tidy;clear hall h;unfold eU Digit;simp at *;omega :¬eU s[k]) (h.2.2 _ (ML s k hlt)),rfl⟩)
    · have H:=hide (MN hall.out hlt)
      clear hall
      go_wp2
      all_goals(go_ret;go_tidy;exact⟨ah.mk (by rw[TZ H.out];clear H;simp;try omega),rfl⟩)
end
end Go.Proofs.YtjjaojnglnpgaaaGreatDoor
