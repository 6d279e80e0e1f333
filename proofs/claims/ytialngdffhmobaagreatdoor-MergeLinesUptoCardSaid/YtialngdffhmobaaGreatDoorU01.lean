/- Part 2 of what mgTop rests on. -/
import Derived.WalkKit
import Derived.WalkLawsBesides
import Derived.WalkSpells
import Derived.BigQuiet
import Derived.Deep.QuietTactic
import Derived.Test.YtialngdffhmobaaGreatDoorProg
import Derived.OwnWalk
import Derived.Laws.AppendOwn
import Derived.Laws.OwnMore
import Derived.Laws.IdiomStrings
import Derived.ChangeMaps5
import Derived.KernelRfl
import Derived.Deep.RegionHeld
import Derived.Test.YtialngdffhmobaaGreatDoorU00
set_option linter.unusedVariables false
set_option linter.unusedSimpArgs false
set_option maxHeartbeats 16000000
set_option maxRecDepth 1000000
namespace Go.Proofs.YtialngdffhmobaaGreatDoor
inductive Fo where
 | nil
 | cons (kind:Nat) (text:ByteArray) (num:Int) (kids rest:Fo)
namespace Fo
def len:Fo→Nat
 | nil=>0
 | cons _ _ _ _ r=>r.len+1
def drop:Nat→Fo→Fo
 | 0,f=>f
 | _+1,nil=>nil
 | i+1,cons _ _ _ _ r=>drop i r
def take:Nat→Fo→Fo
 | 0,_=>nil
 | _+1,nil=>nil
 | i+1,cons k t n ks r=>cons k t n ks (take i r)
def app:Fo→Fo→Fo
 | nil,g=>g
 | cons k t n ks r,g=>cons k t n ks (app r g)
def size:Fo→Nat
 | nil=>0
 | cons _ t _ ks r=>1+t.size / 8+ks.size+r.size
def wf:Fo→Prop
 | nil=>True
 | cons k _ n ks r=>k<256∧-9223372036854775808≤n∧n≤9223372036854775807∧ks.wf∧r.wf
end Fo
structure Hk where
 at_:Int
 old:List ByteArray
 new:List ByteArray
structure Ed where
 kind:Nat
 path:List Int
 at_:Int
 far:Int
 frm:ByteArray
 «to»:ByteArray
 old:Fo
 new:Fo
structure Pt where
 kind:Nat
 file:ByteArray
 text:ByteArray
 hunk:Hk
 edit:Ed
def noTxt:ByteArray:=⟨#[]⟩
def Hk.zero:Hk:=⟨0,[],[]⟩
def Ed.zero:Ed:=⟨0,[],0,0,noTxt,noTxt,.nil,.nil⟩
def Pt.zero:Pt:=⟨0,noTxt,noTxt,Hk.zero,Ed.zero⟩
def Letter(c:UInt8):Prop:=(97≤c.toNat∧c.toNat≤122)∨(65≤c.toNat∧c.toNat≤90)∨c.toNat=95
def Digit(c:UInt8):Prop:=48≤c.toNat∧c.toNat≤57
def FileChar(c:UInt8):Prop:=(97≤c.toNat∧c.toNat≤122)∨(65≤c.toNat∧c.toNat≤90)∨Digit c∨c.toNat=46∨c.toNat=95
def words:List (List UInt8):=
  [[102,117,110,99],[118,97,114],[105,102],[101,108,115,101],[119,104,105,108,101],[114,101,116,117,114,110],[112,114,105,110,116],
   [116,114,117,101],[102,97,108,115,101],[108,101,110],[114,101,97,100]]
def FileName(s:ByteArray):Prop:=1≤s.size∧s.size≤24∧∀c∈s.data.toList,FileChar c
def LexName(s:ByteArray):Prop :=
 s.size≤24∧(∃c l,s.data.toList=c::l∧Letter c)∧s.data.toList∉words∧∀c∈s.data.toList,Letter c∨Digit c
def LineIn(last:Bool)(s:List UInt8):Prop:=s≠[]∧(∀i,i+1<s.length→s[i]?≠some 10)∧(last=true∨s.getLast?=some 10)
def LinesOk:List ByteArray→Prop
 | []=>True
 | s::l=>LineIn l.isEmpty s.data.toList∧LinesOk l
def HkOk(h:Hk):Prop:=0≤h.at_∧h.at_≤1099511627776∧LinesOk h.old∧LinesOk h.new∧h.old≠h.new
def Expr(k:Nat):Prop:=20≤k∧k≤29
def Stmt(k:Nat):Prop:=(6≤k∧k≤12)∨k=5
def many(k:Nat):Option Nat :=
 if k=1∨k=3∨k=5∨k=25 then none
 else if k=2∨k=7∨k=9∨k=24∨k=26∨k=27 then some 2
 else if k=8 then some 3
 else if k=6∨k=10∨k=11∨k=23∨k=28∨k=12 then some 1
 else some 0
def FitsIn(p k i:Nat):Prop :=
  (∀n,many p=some n→i<n)∧
  (if p=1 then k=2
   else if p=2 then(i=0∧k=3)∨(i=1∧k=5)
   else if p=3 then k=4
   else if p=5 then Stmt k
   else if p=7 then(i=0∧(k=22∨k=26))∨(i=1∧Expr k)
   else if p=8∨p=9 then(i=0∧Expr k)∨(0<i∧k=5)
   else if p=12 then k=25
   else Expr k)
def Named(k:Nat):Prop:=k=2∨k=4∨k=6∨k=22∨k=25
instance (k:Nat):Decidable (Named k):=by unfold Named;infer_instance
def binaries:List (List UInt8):=[[124,124],[38,38],[61,61],[33,61],[60],[60,61],[62],[62,61],[43],[45],[42],[47],[37]]
def TextOk(k:Nat)(t:ByteArray):Prop :=
 if Named k then LexName t
 else if k=23 then t.data.toList=[45]∨t.data.toList=[33]
 else if k=24 then t.data.toList∈binaries
 else t.data.toList=[]
def Known(k:Nat):Prop:=(1≤k∧k≤12)∨Expr k
def NumOk(k:Nat)(n:Int):Prop:=n=0∨(k=20∧0<n)∨(k=21∧n=1)
def HeadOk(k:Nat)(t:ByteArray)(n:Int)(cnt:Nat):Prop:=Known k∧NumOk k n∧TextOk k t∧∀m,many k=some m→cnt=m
def SetOk(k:Nat)(kids:Fo):Prop:=k=7→match kids with
 | .cons 26 _ _ (.cons j _ _ _ _) _=>j=22
 | _=>True
def FoOk(m p i:Nat):Fo→Prop
 | .nil=>True
 | .cons k t n ks r=>FitsIn p k i∧1≤m∧HeadOk k t n ks.len∧FoOk (m-1) k 0 ks∧SetOk k ks∧FoOk m p (i+1) r
def NodeOk(m k:Nat)(t:ByteArray)(n:Int)(ks:Fo):Prop:=1≤m∧HeadOk k t n ks.len∧FoOk (m-1) k 0 ks∧SetOk k ks
def PartOk:Fo→Prop
 | .cons k t n ks .nil=>NodeOk 40 k t n ks
 | _=>False
def Number(n:Int):Prop:=0≤n∧n≤1073741824
def EdOk(e:Ed):Prop :=
  (∀n∈e.path,Number n)∧
  ((e.kind=1∧e.at_=0∧e.far=0∧e.old = .nil∧e.new = .nil∧e.path≠[]∧LexName e.frm∧LexName e.to∧e.frm≠e.to)∨
   (e.kind=2∧e.far=0∧e.frm=noTxt∧e.to=noTxt∧e.old = .nil∧Number e.at_∧PartOk e.new)∨
   (e.kind=3∧e.far=0∧e.frm=noTxt∧e.to=noTxt∧e.new = .nil∧Number e.at_∧PartOk e.old)∨
   (e.kind=4∧e.at_=0∧e.far=0∧e.frm=noTxt∧e.to=noTxt∧e.path≠[]∧PartOk e.old∧PartOk e.new∧e.old≠e.new)∨
   (e.kind=5∧e.frm=noTxt∧e.to=noTxt∧e.new = .nil∧Number e.at_∧Number e.far∧e.at_≠e.far∧PartOk e.old))
def PtOk(p:Pt):Prop :=
  FileName p.file∧
  (((p.kind=1∨p.kind=2)∧p.hunk=Hk.zero∧p.edit=Ed.zero)∨
   (p.kind=3∧p.text=noTxt∧p.edit=Ed.zero∧HkOk p.hunk)∨
   (p.kind=4∧p.text=noTxt∧p.hunk=Hk.zero∧EdOk p.edit))
def num8(n:Int):List UInt8 :=
  let u:=(n % 18446744073709551616).toNat
  [UInt8.ofNat (u / 72057594037927936),UInt8.ofNat (u / 281474976710656),UInt8.ofNat (u / 1099511627776),UInt8.ofNat (u / 4294967296),
   UInt8.ofNat (u / 16777216),UInt8.ofNat (u / 65536),UInt8.ofNat (u / 256),UInt8.ofNat u]
def txtB(s:ByteArray):List UInt8:=num8 s.size++s.data.toList
def txtsB(l:List ByteArray):List UInt8:=num8 l.length++(l.map txtB).flatten
def pathB(l:List Int):List UInt8:=num8 l.length++(l.map num8).flatten
def foB:Fo→List UInt8
 | .nil=>[]
 | .cons k t n ks r=>UInt8.ofNat k::(txtB t++(num8 n++(num8 ks.len++foB ks)))++foB r
def nodesB(f:Fo):List UInt8:=num8 f.len++foB f
def edB(e:Ed):List UInt8 :=
 UInt8.ofNat e.kind::(pathB e.path++(num8 e.at_++(num8 e.far++(txtB e.frm++(txtB e.to++(nodesB e.old++nodesB e.new))))))
def ptB(p:Pt):List UInt8 :=
 UInt8.ofNat p.kind::(txtB p.file ++
  (if p.kind=3 then num8 p.hunk.at_++(txtsB p.hunk.old++txtsB p.hunk.new)else if p.kind=4 then edB p.edit else txtB p.text))
section
open Go.RowKit
theorem hide{p:Prop}(h:p):Hid p:=h
def RetB(P:Prop)(e:Ending):Prop:=∃b:Bool,e = .returned (.bool b)∧(b=true↔P)
theorem RetB.mk{P:Prop}{b:Bool}(h:b=true↔P):RetB P (.returned (.bool b)):=⟨b,rfl,h⟩
theorem RetB.yes{P:Prop}(h:P):RetB P (.returned (.bool true)):=⟨true,rfl,by simp[h]⟩
theorem RetB.no{P:Prop}(h :¬P):RetB P (.returned (.bool false)):=⟨false,rfl,by simp[h]⟩
theorem RetB.iff{P Q:Prop}{e:Ending}(h:RetB P e)(hpq:P↔Q):RetB Q e:=let ⟨b,he,hb⟩:=h;⟨b,he,hb.trans hpq⟩
theorem mem_idx(s:ByteArray)(k:Nat)(h:k<s.size):s[k]∈s.data.toList:=by
 have:s[k]=s.data[k]'(by simpa using h):=rfl;rw[this];simp
theorem all_idx{s:ByteArray}{P:UInt8→Prop}(h :∀j,(h':j<s.size)→P (s[j])):∀c∈s.data.toList,P c:=by
 intro c hc;obtain⟨j,hj,rfl⟩:=List.getElem_of_mem hc;exact h j (by simpa using hj)
theorem size_nil(s:ByteArray):s.toList=[]↔¬1≤s.size:=by
 rw[ByteArray.toList_eq s];obtain⟨⟨l⟩⟩:=s;show l=[]↔¬1≤l.length;cases l<;>simp
def Rd(S:Nat→Prop)(w:World)(A:Option Addr)(xs:List Value):Prop :=
 xs=[]∨∃b o,A=some ⟨b,o,none⟩∧S b∧∀j u,xs[j]?=some u→w.cell? ⟨b,o+j,none⟩=some u
section
variable {S S' : Nat → Prop} {w w' : World} {A : Option Addr} {xs : List Value} {B : Nat}
theorem Rd.keep(h:Rd S w A xs)(hk :∀b,S b→w'.heap[b]?=w.heap[b]?):Rd S w' A xs:=by
 rcases h with h|⟨b,o,rfl,hS,hc⟩
 ·exact .inl h
 ·exact .inr ⟨b,o,rfl,hS,fun j u hu=>(World.cell?_of_block (hk b hS)).trans (hc j u hu)⟩
theorem Rd.mono(h:Rd S w A xs)(hm :∀b,b<w.heap.size→S b→S' b):Rd S' w A xs:=by
 rcases h with h|⟨b,o,rfl,hS,hc⟩
 ·exact .inl h
 ·rcases xs with _|⟨x,xs⟩
  ·exact .inl rfl
  ·exact .inr ⟨b,o,rfl,hm b (block_lt_of_cell (hc 0 x rfl)) hS,hc⟩
theorem Rd.below(h:Rd S w A xs)(hb:Below w.heap.size w w'):Rd S w' A xs:=by
 rcases h with h|⟨b,o,rfl,hS,hc⟩
 ·exact .inl h
 ·exact .inr ⟨b,o,rfl,hS,fun j u hu=>(hb.cell (p:=⟨b,o+j,none⟩) (block_lt_of_cell (hc j u hu))).trans (hc j u hu)⟩
theorem Rd.at_(h:Rd S w A xs){j:Nat}(hj:j<xs.length):∃b o,A=some ⟨b,o,none⟩∧w.cell? ⟨b,o+j,none⟩=some xs[j]:=by
 rcases h with h|⟨b,o,rfl,hS,hc⟩
 ·subst h;simp at hj
 ·exact⟨b,o,rfl,hc j _ (by simp[hj])⟩
theorem Rd.nil:Rd S w A []:= .inl rfl
theorem below_alloc(w:World)(o:Obj):Below w.heap.size w (w.alloc o):=(Below.refl _ _).alloc (Nat.le_refl _) _
theorem bcell{W w1:World}(hb:Below W.heap.size W w1):(∀b o,b<W.heap.size→w1.cell? ⟨b,o,none⟩=W.cell? ⟨b,o,none⟩)∧(∀b o,b<W.heap.size→w1.frozen? ⟨b,o,none⟩=W.frozen? ⟨b,o,none⟩):=
 ⟨fun b o h=>hb.cell (p:=⟨b,o,none⟩) h,fun b o h=>hb.frozen (p:=⟨b,o,none⟩) h⟩
end
theorem below_drewN{B:Nat}{a w:World}(h:Below B a w)(n:Nat):Below B a (w.drewN n):=⟨h.os,h.tape,h.output,h.size,h.block⟩
theorem below2{w:World}(o o':Obj):Below w.heap.size w ((w.alloc o).alloc o'):=((Below.refl _ _).alloc (Nat.le_refl _) _).alloc (by simp) _
theorem blw_up{w w1 w2:World}(h:Below w.heap.size w w1)(h2:Below w1.heap.size w1 w2):Below w.heap.size w w2:=h.trans (h2.mono h.size)
theorem blw_up2{w w2:World}{o o':Obj}(h:Below ((w.alloc o).alloc o').heap.size ((w.alloc o).alloc o') w2):Below w.heap.size w w2:=blw_up (below2 o o') h
theorem blw_undrew{w W:World}(h:Below w.drew.heap.size w.drew W):Below w.heap.size w W:=⟨h.os,h.tape,h.output,h.size,h.block⟩
theorem below4{w:World}(a b c d:Obj):Below w.heap.size w ((((w.alloc a).alloc b).alloc c).alloc d):=
 ((((Below.refl _ _).alloc (Nat.le_refl _) _).alloc (by simp) _).alloc (by simp;omega) _).alloc (by simp;omega) _
theorem below4d{w:World}(a b c d:Obj):Below w.heap.size w (((((w.alloc a).alloc b).alloc c).alloc d).drew):=
 (((((Below.refl _ _).alloc (Nat.le_refl _) _).alloc (by simp) _).alloc (by simp;omega) _).alloc (by simp;omega) _).drew
theorem blw_drewN{w W:World}(h:Below w.heap.size w W)(q:Nat):Below w.heap.size w (W.drewN q):=below_drewN h q
section
variable {S S' : Nat → Prop} {w w' : World} {A : Option Addr} {xs : List Value} {B : Nat}
theorem Rd.alloc(h:Rd S w A xs)(o:Obj):Rd S (w.alloc o) A xs:=h.below (below_alloc w o)
theorem Rd.drew(h:Rd S w A xs):Rd S w.drew A xs:=h
theorem Rd.drewN(h:Rd S w A xs)(n:Nat):Rd S (w.drewN n) A xs:=h
end
def isInt64(n:Int):Prop:=-9223372036854775808≤n∧n≤9223372036854775807
def StrsIn(S:Nat→Prop)(w:World)(A:Option Addr)(l:List ByteArray):Prop :=
 Rd S w A (l.map .string)∧(∀s∈l,s.size≤9223372036854775807)∧l.length≤9223372036854775807
def IntsIn(S:Nat→Prop)(w:World)(A:Option Addr)(l:List Int):Prop :=
 Rd S w A (l.map (.int .i64))∧(∀n∈l,isInt64 n)∧l.length≤9223372036854775807
def bytesV(l:List UInt8):List Value:=l.map fun c=> .int .u8 c.toNat
def BytesIn(S:Nat→Prop)(w:World)(A:Option Addr)(l:List UInt8):Prop :=
 Rd S w A (bytesV l)∧l.length≤9223372036854775807
def FoIn(S:Nat→Prop)(w:World):Option Addr→Fo→Prop
 | _,.nil=>True
 | A,.cons k t n ks r=>∃b o KA c,A=some ⟨b,o,none⟩∧S b∧w.cell? ⟨b,o,none⟩=some (.int .u8 k)∧w.cell? ⟨b,o+1,none⟩=some (.string t)∧
   w.cell? ⟨b,o+2,none⟩=some (.int .i64 n)∧w.cell? ⟨b,o+3,none⟩=some (.slice KA ks.len c)∧
   k<256∧t.size≤9223372036854775807∧isInt64 n∧ks.len≤c∧c≤9223372036854775807∧FoIn S w KA ks∧FoIn S w (some ⟨b,o+4,none⟩) r
def Fo.cnt:Fo→Nat
 | .nil=>0
 | .cons _ _ _ ks r=>1+ks.cnt+r.cnt
theorem Fo.drop_succ{f:Fo}{i k:Nat}{t:ByteArray}{n:Int}{ks r:Fo}(h:f.drop i = .cons k t n ks r):f.drop (i+1)=r:=by
 induction i generalizing f with
 | zero=>cases f with
  | nil=>cases h
  | cons=>cases h;rfl
 | succ i ih=>cases f with
  | nil=>cases h
  | cons=>exact ih h
theorem Fo.drop_len :∀(f:Fo) (i:Nat),f.len≤i→f.drop i = .nil:=by
 intro f
 induction f with
 | nil=>intro i _;cases i<;>rfl
 | cons k t n ks r _ ih=>intro i hi;cases i with
  | zero=>simp[Fo.len]at hi
  | succ i=>exact ih i (by simp[Fo.len]at hi;omega)
theorem Fo.len_drop :∀(f:Fo) (i:Nat),(f.drop i).len=f.len-i:=by
 intro f
 induction f with
 | nil=>intro i;cases i<;>simp[Fo.drop,Fo.len]
 | cons k t n ks r _ ih=>intro i;cases i with
  | zero=>simp[Fo.drop]
  | succ i=>simp[Fo.drop,Fo.len,ih i]
theorem Fo.len_le_cnt :∀f:Fo,f.len≤f.cnt:=by
 intro f
 induction f with
 | nil=>simp[Fo.len,Fo.cnt]
 | cons k t n ks r _ ih=>simp[Fo.len,Fo.cnt];omega
section
variable {S S' : Nat → Prop} {w w' : World} {B : Nat}
theorem FoIn.keep :∀{f:Fo} {A:Option Addr},FoIn S w A f→(∀b,S b→w'.heap[b]?=w.heap[b]?)→FoIn S w' A f:=by
 intro f
 induction f with
 | nil=>intro A _ _;exact trivial
 | cons k t n ks r ihk ihr =>
  rintro A ⟨b,o,KA,c,rfl,hS,c0,c1,c2,c3,e1,e2,e3,e4,e5,hks,hr⟩ hk;have hb:=hk b hS;exact⟨b,o,KA,c,rfl,hS,(World.cell?_of_block hb).trans c0,(World.cell?_of_block hb).trans c1,(World.cell?_of_block hb).trans c2,(World.cell?_of_block hb).trans c3,e1,e2,e3,e4,e5,ihk hks hk,ihr hr hk⟩
theorem FoIn.mono :∀{f:Fo} {A:Option Addr},FoIn S w A f→(∀b,b<w.heap.size→S b→S' b)→FoIn S' w A f:=by
 intro f
 induction f with
 | nil=>intro A _ _;exact trivial
 | cons k t n ks r ihk ihr =>
  rintro A ⟨b,o,KA,c,rfl,hS,c0,c1,c2,c3,e1,e2,e3,e4,e5,hks,hr⟩ hm;exact⟨b,o,KA,c,rfl,hm b (block_lt_of_cell c0) hS,c0,c1,c2,c3,e1,e2,e3,e4,e5,ihk hks hm,ihr hr hm⟩
theorem FoIn.below :∀{f:Fo} {A:Option Addr},FoIn S w A f→Below w.heap.size w w'→FoIn S w' A f:=by
 intro f A h hb;have h2:FoIn (fun b=>S b∧b<w.heap.size) w A f:=h.mono fun b hlt hS=>⟨hS,hlt⟩;exact(h2.keep (w':=w') fun b hS=>hb.block b hS.2).mono fun b _ hS=>hS.1
theorem FoIn.alloc{f:Fo}{A:Option Addr}(h:FoIn S w A f)(o:Obj):FoIn S (w.alloc o) A f:=h.below (below_alloc w o)
theorem FoIn.drewN{f:Fo}{A:Option Addr}(h:FoIn S w A f)(q:Nat):FoIn S (w.drewN q) A f:=h.below (below_drewN (Below.refl _ _) q)
theorem FoIn.at_ :∀{f:Fo} {A:Option Addr} {i:Nat},FoIn S w A f→i<f.len→∃b o KA c k t n ks r,A=some ⟨b,o,none⟩∧f.drop i = .cons k t n ks r∧
  w.cell? ⟨b,o+i*4,none⟩=some (.int .u8 k)∧w.cell? ⟨b,o+i*4+1,none⟩=some (.string t)∧
  w.cell? ⟨b,o+i*4+2,none⟩=some (.int .i64 n)∧w.cell? ⟨b,o+i*4+3,none⟩=some (.slice KA ks.len c)∧
  k<256∧t.size≤9223372036854775807∧isInt64 n∧ks.len≤c∧c≤9223372036854775807∧FoIn S w KA ks∧ks.cnt<f.cnt:=by
 intro f
 induction f with
 | nil=>intro A i _ h;simp[Fo.len]at h
 | cons k t n ks r ihk ihr =>
  rintro A i ⟨b,o,KA,c,rfl,hS,c0,c1,c2,c3,e1,e2,e3,e4,e5,hks,hr⟩ hi;cases i with
  | zero=>exact⟨b,o,KA,c,k,t,n,ks,r,rfl,rfl,by simpa using c0,by simpa using c1,by simpa using c2,by simpa using c3,e1,e2,e3,e4,e5,hks,by simp[Fo.cnt];omega⟩
  | succ i =>
   obtain⟨b',o',KA',c',k',t',n',ks',r',hA,hd,d0,d1,d2,d3,f1,f2,f3,f4,f5,hks',hcnt⟩:=ihr hr (by simpa[Fo.len]using hi);injection hA with hA;injection hA with h1 h2;subst h1;subst h2;have ho:o+4+i*4=o+(i+1)*4:=by omega
   rw[ho]at d0 d1 d2 d3;exact⟨b,o,KA',c',k',t',n',ks',r',rfl,hd,d0,d1,d2,d3,f1,f2,f3,f4,f5,hks',by simp[Fo.cnt];omega⟩
end
end
section
open Go.RowKit
theorem eq_step{α:Type}{l m:List α}{k:Nat}(h :∀j,j<k→l[j]?=m[j]?)(hk:l[k]?=m[k]?):∀j,j<k+1→l[j]?=m[j]?:=by
 intro j hj;rcases Nat.lt_or_ge j k with h1|h1
 ·exact h j h1
 ·obtain rfl:j=k:=by omega
  exact hk
theorem eq_done{α:Type}{l m:List α}{k:Nat}(h :∀j,j<k→l[j]?=m[j]?)(hl:l.length=m.length)(hk :¬k<l.length):l=m:=by
 apply List.ext_getElem?;intro j;by_cases hj:j<k
 ·exact h j hj
 ·rw[List.getElem?_eq_none (by omega),List.getElem?_eq_none (by omega)]
theorem txt_eq{s t:ByteArray}:(s.toList == t.toList)=true↔s=t:=by
 rw[beq_iff_eq,ByteArray.toList_eq,ByteArray.toList_eq];obtain⟨⟨a⟩⟩:=s;obtain⟨⟨b⟩⟩:=t;simp
theorem tl_eq{s t:ByteArray}:s.toList=t.toList↔s=t:=by rw[←beq_iff_eq,txt_eq]
theorem no_of_idx{α:Type}{l m:List α}{k:Nat}{x y:α}(h1:l[k]?=some x)(h2:m[k]?=some y)(h:x≠y):l≠m:=by
 rintro rfl;rw[h1]at h2;exact h (by injection h2)
theorem txt_ne{s t:ByteArray}(h:(!s.toList == t.toList)=true):s≠t:=by
 rintro rfl;simp at h
theorem txt_eq'{s t:ByteArray}(h:(!s.toList == t.toList)=false):s=t:=txt_eq.1 (by simpa using h)
theorem len_ne{α:Type}{l m:List α}(h :¬l.length=m.length):l≠m:=by rintro rfl;exact h rfl
theorem sameTexts_any{S S':Nat→Prop}{A A':Option Addr}{c c':Nat}{l m:List ByteArray}{w:World}(hl:StrsIn S w A l)(hm:StrsIn S' w A' m):
  Calls Tryz.prog 50 #[.slice A l.length c,.slice A' m.length c'] w fun e w'=>RetB (l=m) e∧∃n,w'=w.drewN n:=by
 have hl3:=hl.2.2;have hm3:=hm.2.2;have Hl:=hide hl.1;have Hm:=hide hm.1;clear hl hm;by_cases hn:l.length=m.length
 ·have hd:((l.length:Int) != (m.length:Int))=false:=by simp[hn]
  have Hn:=hide hn;clear hn;go_enter Tryz.func50,Tryz.ntmps50
  go_wp2
  go_loopw [5] (fun i wr=>∃k q:Nat,k≤l.length∧i = .int .i64 k∧wr=w.drewN q∧Hid (∀j,j<k→l[j]?=m[j]?)) (fun i _=>l.length-(intOf i).toNat)
  case atStart=>exact⟨0,0,Nat.zero_le _,rfl,rfl,hide (fun j h=>absurd h (by omega))⟩
  case round =>
   obtain⟨k,q,hk,rfl,rfl,hall⟩:=hrel;by_cases hlt:k<l.length
   ·obtain⟨b,o,rfl,h1⟩:=Hl.out.at_ (j:=k) (by simpa using hlt);obtain⟨b',o',rfl,h2⟩:=Hm.out.at_ (j:=k) (by have:=Hn.out;simp;omega);simp only[List.getElem_map]at h1 h2;have hlt2:k<m.length:=by have:=Hn.out;omega
    have e1:l[k]?=some l[k]:=by simp[hlt]
    have e2:m[k]?=some m[k]:=by simp[hlt2]
    have E1:=hide e1;have E2:=hide e2;clear e1 e2;generalize l[k]=s at h1 E1;generalize m[k]=s' at h2 E2
    go_wp2
    go_quiet (fail)
    go_wp2
    ·have ht:(!s.toList == s'.toList)=true:=by assumption
     go_ret;exact⟨RetB.no (no_of_idx E1.out E2.out (txt_ne ht)),_,World.drewN_drewN _ _ _⟩
    ·have ht:(!s.toList == s'.toList)=false:=by assumption
     go_roundw
     case rel=>exact⟨k+1,_,by omega,by go_num,rfl,hide (eq_step hall.out (by rw[E1.out,E2.out,txt_eq' ht]))⟩
     case measure=>simp[intOf];omega
   ·go_wp2
    go_ret;exact⟨RetB.yes (eq_done hall.out Hn.out hlt),_,rfl⟩
 ·have hd:((l.length:Int) != (m.length:Int))=true:=by simp;omega
  have Hn:=hide hn;clear hn;go_enter Tryz.func50,Tryz.ntmps50
  go_wp2
  go_ret;exact⟨RetB.no (len_ne Hn.out),0,rfl⟩
theorem sameInts_any{S S':Nat→Prop}{A A':Option Addr}{c c':Nat}{l m:List Int}{w:World}(hl:IntsIn S w A l)(hm:IntsIn S' w A' m):
  Calls Tryz.prog 74 #[.slice A l.length c,.slice A' m.length c'] w fun e w'=>RetB (l=m) e∧∃n,w'=w.drewN n:=by
 have hl3:=hl.2.2;have hm3:=hm.2.2;have Hl:=hide hl.1;have Hm:=hide hm.1;clear hl hm;by_cases hn:l.length=m.length
 ·have hd:((l.length:Int) != (m.length:Int))=false:=by simp[hn]
  have Hn:=hide hn;clear hn;go_enter Tryz.func74,Tryz.ntmps74
  go_wp2
  go_loopw [5] (fun i wr=>∃k q:Nat,k≤l.length∧i = .int .i64 k∧wr=w.drewN q∧Hid (∀j,j<k→l[j]?=m[j]?)) (fun i _=>l.length-(intOf i).toNat)
  case atStart=>exact⟨0,0,Nat.zero_le _,rfl,rfl,hide (fun j h=>absurd h (by omega))⟩
  case round =>
   obtain⟨k,q,hk,rfl,rfl,hall⟩:=hrel;by_cases hlt:k<l.length
   ·obtain⟨b,o,rfl,h1⟩:=Hl.out.at_ (j:=k) (by simpa using hlt);obtain⟨b',o',rfl,h2⟩:=Hm.out.at_ (j:=k) (by have:=Hn.out;simp;omega);simp only[List.getElem_map]at h1 h2;have hlt2:k<m.length:=by have:=Hn.out;omega
    have e1:l[k]?=some l[k]:=by simp[hlt]
    have e2:m[k]?=some m[k]:=by simp[hlt2]
    have E1:=hide e1;have E2:=hide e2;clear e1 e2;generalize l[k]=s at h1 E1;generalize m[k]=s' at h2 E2
    go_wp2
    go_quiet (fail)
    go_wp2
    ·have ht:(s != s')=true:=by assumption
     go_ret;exact⟨RetB.no (no_of_idx E1.out E2.out (by simpa using ht)),_,World.drewN_drewN _ _ _⟩
    ·have ht:(s != s')=false:=by assumption
     go_roundw
     case rel=>exact⟨k+1,_,by omega,by go_num,rfl,hide (eq_step hall.out (by rw[E1.out,E2.out,(by simpa using ht:s=s')]))⟩
     case measure=>simp[intOf];omega
   ·go_wp2
    go_ret;exact⟨RetB.yes (eq_done hall.out Hn.out hlt),_,rfl⟩
 ·have hd:((l.length:Int) != (m.length:Int))=true:=by simp;omega
  have Hn:=hide hn;clear hn;go_enter Tryz.func74,Tryz.ntmps74
  go_wp2
  go_ret;exact⟨RetB.no (len_ne Hn.out),0,rfl⟩
theorem equalTexts_any{S S':Nat→Prop}{A A':Option Addr}{c c':Nat}{l m:List ByteArray}{w:World}(hl:StrsIn S w A l)(hm:StrsIn S' w A' m):
  Calls Tryz.prog 104 #[.slice A l.length c,.slice A' m.length c'] w fun e w'=>RetB (l=m) e∧∃n,w'=w.drewN n:=by
 have hl3:=hl.2.2;have hm3:=hm.2.2;have Hl:=hide hl.1;have Hm:=hide hm.1;clear hl hm;by_cases hn:l.length=m.length
 ·have hd:((l.length:Int) != (m.length:Int))=false:=by simp[hn]
  have Hn:=hide hn;clear hn;go_enter Tryz.func104,Tryz.ntmps104
  go_wp2
  go_loopw [13,5] (fun i _ wr=>∃k q:Nat,k≤l.length∧i = .int .i64 k∧wr=w.drewN q∧Hid (∀j,j<k→l[j]?=m[j]?)) (fun i _ _=>l.length-(intOf i).toNat)
  case atStart=>exact⟨0,0,Nat.zero_le _,rfl,rfl,hide (fun j h=>absurd h (by omega))⟩
  case round =>
   obtain⟨k,q,hk,rfl,rfl,hall⟩:=hrel;by_cases hlt:k<l.length
   ·obtain⟨b,o,rfl,h1⟩:=Hl.out.at_ (j:=k) (by simpa using hlt);obtain⟨b',o',rfl,h2⟩:=Hm.out.at_ (j:=k) (by have:=Hn.out;simp;omega);simp only[List.getElem_map]at h1 h2;have hlt2:k<m.length:=by have:=Hn.out;omega
    have e1:l[k]?=some l[k]:=by simp[hlt]
    have e2:m[k]?=some m[k]:=by simp[hlt2]
    have E1:=hide e1;have E2:=hide e2;clear e1 e2;generalize l[k]=s at h1 E1;generalize m[k]=s' at h2 E2
    go_wp2
    go_quiet (fail)
    go_wp2
    ·have ht:(!s.toList == s'.toList)=true:=by assumption
     go_ret;exact⟨RetB.no (no_of_idx E1.out E2.out (txt_ne ht)),_,World.drewN_drewN _ _ _⟩
    ·have ht:(!s.toList == s'.toList)=false:=by assumption
     go_roundw
     case rel=>exact⟨k+1,_,by omega,by go_num,rfl,hide (eq_step hall.out (by rw[E1.out,E2.out,txt_eq' ht]))⟩
     case measure=>simp[intOf];omega
   ·go_wp2
    go_ret;exact⟨RetB.yes (eq_done hall.out Hn.out hlt),_,rfl⟩
 ·have hd:((l.length:Int) != (m.length:Int))=true:=by simp;omega
  have Hn:=hide hn;clear hn;go_enter Tryz.func104,Tryz.ntmps104
  go_wp2
  go_ret;exact⟨RetB.no (len_ne Hn.out),0,rfl⟩
theorem equalInts_any{S S':Nat→Prop}{A A':Option Addr}{c c':Nat}{l m:List Int}{w:World}(hl:IntsIn S w A l)(hm:IntsIn S' w A' m):
  Calls Tryz.prog 112 #[.slice A l.length c,.slice A' m.length c'] w fun e w'=>RetB (l=m) e∧∃n,w'=w.drewN n:=by
 have hl3:=hl.2.2;have hm3:=hm.2.2;have Hl:=hide hl.1;have Hm:=hide hm.1;clear hl hm;by_cases hn:l.length=m.length
 ·have hd:((l.length:Int) != (m.length:Int))=false:=by simp[hn]
  have Hn:=hide hn;clear hn;go_enter Tryz.func112,Tryz.ntmps112
  go_wp2
  go_loopw [13,5] (fun i _ wr=>∃k q:Nat,k≤l.length∧i = .int .i64 k∧wr=w.drewN q∧Hid (∀j,j<k→l[j]?=m[j]?)) (fun i _ _=>l.length-(intOf i).toNat)
  case atStart=>exact⟨0,0,Nat.zero_le _,rfl,rfl,hide (fun j h=>absurd h (by omega))⟩
  case round =>
   obtain⟨k,q,hk,rfl,rfl,hall⟩:=hrel;by_cases hlt:k<l.length
   ·obtain⟨b,o,rfl,h1⟩:=Hl.out.at_ (j:=k) (by simpa using hlt);obtain⟨b',o',rfl,h2⟩:=Hm.out.at_ (j:=k) (by have:=Hn.out;simp;omega);simp only[List.getElem_map]at h1 h2;have hlt2:k<m.length:=by have:=Hn.out;omega
    have e1:l[k]?=some l[k]:=by simp[hlt]
    have e2:m[k]?=some m[k]:=by simp[hlt2]
    have E1:=hide e1;have E2:=hide e2;clear e1 e2;generalize l[k]=s at h1 E1;generalize m[k]=s' at h2 E2
    go_wp2
    go_quiet (fail)
    go_wp2
    ·have ht:(s != s')=true:=by assumption
     go_ret;exact⟨RetB.no (no_of_idx E1.out E2.out (by simpa using ht)),_,World.drewN_drewN _ _ _⟩
    ·have ht:(s != s')=false:=by assumption
     go_roundw
     case rel=>exact⟨k+1,_,by omega,by go_num,rfl,hide (eq_step hall.out (by rw[E1.out,E2.out,(by simpa using ht:s=s')]))⟩
     case measure=>simp[intOf];omega
   ·go_wp2
    go_ret;exact⟨RetB.yes (eq_done hall.out Hn.out hlt),_,rfl⟩
 ·have hd:((l.length:Int) != (m.length:Int))=true:=by simp;omega
  have Hn:=hide hn;clear hn;go_enter Tryz.func112,Tryz.ntmps112
  go_wp2
  go_ret;exact⟨RetB.no (len_ne Hn.out),0,rfl⟩
end
def is63(n:Int):Prop:=-9223372036854775808≤n∧n≤9223372036854775807
abbrev max63:Nat:=9223372036854775807
def Fo.fit:Fo→Prop
 | .nil=>True
 | .cons k t n ks r=>k<256∧t.size≤max63∧is63 n∧ks.len≤max63∧ks.fit∧r.fit
def Fo.high:Fo→Nat
 | .nil=>0
 | .cons _ _ _ ks r=>max (ks.high+1) r.high
theorem num8_len(n:Int):(num8 n).length=8:=rfl
theorem u8_ofNat_toNat(n:Nat):(UInt8.ofNat n).toNat=n % 256:=by simp
theorem num8_nat{a b:Nat}(ha:a<18446744073709551616)(hb:b<18446744073709551616)
  (h0:a / 72057594037927936 % 256=b / 72057594037927936 % 256) (h1:a / 281474976710656 % 256=b / 281474976710656 % 256) (h2:a / 1099511627776 % 256=b / 1099511627776 % 256) (h3:a / 4294967296 % 256=b / 4294967296 % 256)
  (h4:a / 16777216 % 256=b / 16777216 % 256) (h5:a / 65536 % 256=b / 65536 % 256) (h6:a / 256 % 256=b / 256 % 256) (h7:a % 256=b % 256):a=b:=by
 omega
theorem num8_inj{a b:Int}(ha:is63 a)(hb:is63 b)(h:num8 a=num8 b):a=b:=by
 have hp:(a % 18446744073709551616).toNat=(b % 18446744073709551616).toNat:=by
  simp only[num8,List.cons.injEq,and_true]at h;obtain⟨h0,h1,h2,h3,h4,h5,h6,h7⟩:=h;have k0:=congrArg UInt8.toNat h0;have k1:=congrArg UInt8.toNat h1;have k2:=congrArg UInt8.toNat h2;have k3:=congrArg UInt8.toNat h3;have k4:=congrArg UInt8.toNat h4;have k5:=congrArg UInt8.toNat h5;have k6:=congrArg UInt8.toNat h6;have k7:=congrArg UInt8.toNat h7;simp only[u8_ofNat_toNat]at k0 k1 k2 k3 k4 k5 k6 k7;exact num8_nat (by omega) (by omega) k0 k1 k2 k3 k4 k5 k6 k7
 unfold is63 at ha hb;omega
theorem num8_split{a b:Int}{x y:List UInt8}(ha:is63 a)(hb:is63 b)(h:num8 a++x=num8 b++y):a=b∧x=y:=by
 obtain⟨h1,h2⟩:=List.append_inj h rfl;exact⟨num8_inj ha hb h1,h2⟩
theorem is63_nat{n:Nat}(h:n≤max63):is63 n:=by unfold is63;simp only[max63]at h;omega
theorem ba_ext{s t:ByteArray}(h:s.data.toList=t.data.toList):s=t:=by
 obtain⟨⟨a⟩⟩:=s;obtain⟨⟨b⟩⟩:=t;simp at h;subst h;rfl
theorem txtB_split{s t:ByteArray}{x y:List UInt8}(hs:s.size≤max63)(ht:t.size≤max63)(h:txtB s++x=txtB t++y):s=t∧x=y:=by
 unfold txtB at h;rw[List.append_assoc,List.append_assoc]at h;obtain⟨h1,h2⟩:=num8_split (is63_nat hs) (is63_nat ht) h;have hl:s.data.toList.length=t.data.toList.length:=by
  have e1:s.data.toList.length=s.size:=by simp
  have e2:t.data.toList.length=t.size:=by simp
  omega
 obtain⟨h3,h4⟩:=List.append_inj h2 hl;exact⟨ba_ext h3,h4⟩
def rowB{α:Type}(enc:α→List UInt8)(l:List α):List UInt8:=num8 l.length++(l.map enc).flatten
theorem flat_split{α:Type}{enc:α→List UInt8}{fit:α→Prop}(hs :∀a b x y,fit a→fit b→enc a++x=enc b++y→a=b∧x=y):
  ∀{l m:List α} {x y:List UInt8},(∀a∈l,fit a)→(∀a∈m,fit a)→l.length=m.length→(l.map enc).flatten++x=(m.map enc).flatten++y→l=m∧x=y:=by
 intro l
 induction l with
 | nil=>intro m x y _ _ hlen h;cases m with
  | nil=>exact⟨rfl,h⟩
  | cons=>simp at hlen
 | cons a l ih=>intro m x y hl hm hlen h;cases m with
  | nil=>simp at hlen
  | cons b m =>
   simp only[List.map_cons,List.flatten_cons,List.append_assoc]at h;obtain⟨e1,h1⟩:=hs a b _ _ (hl a (by simp)) (hm b (by simp)) h;obtain⟨e2,h2⟩:=ih (fun c hc=>hl c (List.mem_cons_of_mem _ hc)) (fun c hc=>hm c (List.mem_cons_of_mem _ hc)) (by simpa using hlen) h1;exact⟨by rw[e1,e2],h2⟩
theorem rowB_split{α:Type}{enc:α→List UInt8}{fit:α→Prop}(hs :∀a b x y,fit a→fit b→enc a++x=enc b++y→a=b∧x=y)
  {l m:List α} {x y:List UInt8} (hl:(∀a∈l,fit a)∧l.length≤max63) (hm:(∀a∈m,fit a)∧m.length≤max63) (h:rowB enc l++x=rowB enc m++y):l=m∧x=y:=by
 unfold rowB at h;rw[List.append_assoc,List.append_assoc]at h;obtain⟨h1,h2⟩:=num8_split (is63_nat hl.2) (is63_nat hm.2) h;exact flat_split hs hl.1 hm.1 (by omega) h2
theorem txtsB_row(l:List ByteArray):txtsB l=rowB txtB l:=rfl
theorem pathB_row(l:List Int):pathB l=rowB num8 l:=rfl
def StrsFit(l:List ByteArray):Prop:=(∀s∈l,s.size≤max63)∧l.length≤max63
def IntsFit(l:List Int):Prop:=(∀n∈l,is63 n)∧l.length≤max63
theorem txtsB_split{l m:List ByteArray}{x y:List UInt8}(hl:StrsFit l)(hm:StrsFit m)(h:txtsB l++x=txtsB m++y):l=m∧x=y :=
 rowB_split (enc:=txtB) (fit:=fun s=>s.size≤max63) (fun _ _ _ _ ha hb h=>txtB_split ha hb h) hl hm h
theorem pathB_split{l m:List Int}{x y:List UInt8}(hl:IntsFit l)(hm:IntsFit m)(h:pathB l++x=pathB m++y):l=m∧x=y :=
 rowB_split (enc:=num8) (fit:=is63) (fun _ _ _ _ ha hb h=>num8_split ha hb h) hl hm h
theorem kind_inj{j k:Nat}(hj:j<256)(hk:k<256)(h:UInt8.ofNat j=UInt8.ofNat k):j=k:=by
 have:=congrArg UInt8.toNat h;simp only[u8_ofNat_toNat]at this;omega
def nodeB(k:Nat)(t:ByteArray)(n:Int)(ks:Fo):List UInt8:=UInt8.ofNat k::(txtB t++(num8 n++nodesB ks))
theorem foB_cons(k:Nat)(t:ByteArray)(n:Int)(ks r:Fo):foB (.cons k t n ks r)=nodeB k t n ks++foB r:=rfl
theorem foB_split :∀{f g:Fo} {x y:List UInt8},f.fit→g.fit→f.len=g.len→foB f++x=foB g++y→f=g∧x=y:=by
 intro f
 induction f with
 | nil=>intro g x y _ _ hlen h;cases g with
  | nil=>exact⟨rfl,h⟩
  | cons=>simp[Fo.len]at hlen
 | cons k t n ks r ihk ihr=>intro g x y hf hg hlen h;cases g with
  | nil=>simp[Fo.len]at hlen
  | cons k' t' n' ks' r' =>
   obtain⟨f1,f2,f3,f4,f5,f6⟩:=hf;obtain⟨g1,g2,g3,g4,g5,g6⟩:=hg;simp only[foB,List.cons_append,List.append_assoc,List.cons.injEq]at h;obtain⟨h0,h⟩:=h;have e0:=kind_inj f1 g1 h0;obtain⟨e1,h1⟩:=txtB_split f2 g2 h;obtain⟨e2,h2⟩:=num8_split f3 g3 h1;obtain⟨hl,h3⟩:=num8_split (is63_nat f4) (is63_nat g4) h2;obtain⟨e3,h4⟩:=ihk f5 g5 (by omega) h3;obtain⟨e4,h5⟩:=ihr f6 g6 (by simpa[Fo.len]using hlen) h4;exact⟨by rw[e0,e1,e2,e3,e4],h5⟩
def NodesFit(f:Fo):Prop:=f.fit∧f.len≤max63
theorem nodesB_split{f g:Fo}{x y:List UInt8}(hf:NodesFit f)(hg:NodesFit g)(h:nodesB f++x=nodesB g++y):f=g∧x=y:=by
 unfold nodesB at h;rw[List.append_assoc,List.append_assoc]at h;obtain⟨h1,h2⟩:=num8_split (is63_nat hf.2) (is63_nat hg.2) h;exact foB_split hf.1 hg.1 (by omega) h2
def NodeFit(k:Nat)(t:ByteArray)(n:Int)(ks:Fo):Prop:=k<256∧t.size≤max63∧is63 n∧NodesFit ks
structure EdFit(e:Ed):Prop where
 kind:e.kind<256
 path:IntsFit e.path
 at_:is63 e.at_
 far:is63 e.far
 frm:e.frm.size≤max63
 to:e.to.size≤max63
 old:NodesFit e.old
 new:NodesFit e.new
theorem edB_split{d e:Ed}{x y:List UInt8}(hd:EdFit d)(he:EdFit e)(h:edB d++x=edB e++y):d=e∧x=y:=by
 unfold edB at h;simp only[List.cons_append,List.append_assoc,List.cons.injEq]at h;obtain⟨h0,h⟩:=h;have a0:=kind_inj hd.kind he.kind h0;obtain⟨a1,h⟩:=pathB_split hd.path he.path h;obtain⟨a2,h⟩:=num8_split hd.at_ he.at_ h;obtain⟨a3,h⟩:=num8_split hd.far he.far h;obtain⟨a4,h⟩:=txtB_split hd.frm he.frm h;obtain⟨a5,h⟩:=txtB_split hd.to he.to h;obtain⟨a6,h⟩:=nodesB_split hd.old he.old h;obtain⟨a7,h9⟩:=nodesB_split hd.new he.new h;clear h;cases d;cases e;simp only at a0 a1 a2 a3 a4 a5 a6 a7;exact⟨by rw[a0,a1,a2,a3,a4,a5,a6,a7],h9⟩
structure HkFit(h:Hk):Prop where
 at_:is63 h.at_
 old:StrsFit h.old
 new:StrsFit h.new
structure PtFit(p:Pt):Prop where
 kind:p.kind<256
 file:p.file.size≤max63
 text:p.text.size≤max63
 hunk:HkFit p.hunk
 edit:EdFit p.edit
def Bare(p:Pt):Prop:=if p.kind=3 then p.text=noTxt∧p.edit=Ed.zero else if p.kind=4 then p.text=noTxt∧p.hunk=Hk.zero else p.hunk=Hk.zero∧p.edit=Ed.zero
theorem PtOk.bare{p:Pt}(h:PtOk p):Bare p:=by
 unfold Bare;obtain⟨_,⟨h1|h1,h2,h3⟩|⟨h1,h2,h3,_⟩|⟨h1,h2,h3,_⟩⟩:=h<;>simp[*]
theorem ptB_split{p q:Pt}{x y:List UInt8}(hp:PtFit p)(hq:PtFit q)(bp:Bare p)(bq:Bare q)(h:ptB p++x=ptB q++y):p=q∧x=y:=by
 unfold ptB at h;simp only[List.cons_append,List.append_assoc,List.cons.injEq]at h;obtain⟨h0,h⟩:=h;have a0:=kind_inj hp.kind hq.kind h0;obtain⟨a1,g⟩:=txtB_split hp.file hq.file h;clear h;unfold Bare at bp bq;obtain⟨pk,pf,pt,ph,pe⟩:=p;obtain⟨qk,qf,qt,qh,qe⟩:=q;obtain⟨_,_,p3,p4,p5⟩:=hp;obtain⟨_,_,q3,q4,q5⟩:=hq;simp only at *
 subst a0;subst a1;by_cases h3:pk=3
 ·simp only[h3,if_true]at g bp bq;rw[List.append_assoc,List.append_assoc,List.append_assoc,List.append_assoc]at g;obtain⟨b1,g1⟩:=num8_split p4.at_ q4.at_ g;obtain⟨b2,g2⟩:=txtsB_split p4.old q4.old g1;obtain⟨b3,g3⟩:=txtsB_split p4.new q4.new g2;obtain⟨c1,c2⟩:=bp;obtain⟨c3,c4⟩:=bq;have e:ph=qh:=by
   cases ph;cases qh;simp only at b1 b2 b3;rw[b1,b2,b3]
  exact⟨by rw[c1,c2,c3,c4,e],g3⟩
 ·by_cases h4:pk=4
  ·rw[if_neg h3,if_pos h4]at bp bq;rw[if_neg h3,if_pos h4,if_neg h3,if_pos h4]at g;obtain⟨b1,g1⟩:=edB_split p5 q5 g;obtain⟨c1,c2⟩:=bp;obtain⟨c3,c4⟩:=bq;exact⟨by rw[c1,c2,c3,c4,b1],g1⟩
  ·rw[if_neg h3,if_neg h4]at bp bq;rw[if_neg h3,if_neg h4,if_neg h3,if_neg h4]at g;obtain⟨b1,g1⟩:=txtB_split p3 q3 g;obtain⟨c1,c2⟩:=bp;obtain⟨c3,c4⟩:=bq;exact⟨by rw[c1,c2,c3,c4,b1],g1⟩
theorem Fo.len_app :∀f g:Fo,(f.app g).len=f.len+g.len:=by
 intro f
 induction f with
 | nil=>intro g;simp[Fo.app,Fo.len]
 | cons k t n ks r _ ih=>intro g;simp[Fo.app,Fo.len,ih g];omega
theorem foB_app :∀f g:Fo,foB (f.app g)=foB f++foB g:=by
 intro f
 induction f with
 | nil=>intro g;rfl
 | cons k t n ks r _ ih=>intro g;simp[Fo.app,foB,ih g]
theorem Fo.app_nil :∀f:Fo,f.app .nil=f:=by
 intro f
 induction f with
 | nil=>rfl
 | cons k t n ks r _ ih=>simp[Fo.app,ih]
theorem Fo.app_assoc :∀f g h:Fo,(f.app g).app h=f.app (g.app h):=by
 intro f g h
 induction f with
 | nil=>rfl
 | cons k t n ks r _ ih=>simp[Fo.app,ih]
theorem Fo.take_drop :∀(i:Nat) (f:Fo),(f.take i).app (f.drop i)=f:=by
 intro i
 induction i with
 | zero=>intro f;cases f<;>rfl
 | succ i ih=>intro f;cases f with
  | nil=>rfl
  | cons k t n ks r=>simp[Fo.take,Fo.drop,Fo.app,ih r]
theorem Fo.len_take :∀(i:Nat) (f:Fo),i≤f.len→(f.take i).len=i:=by
 intro i
 induction i with
 | zero=>intro f _;cases f<;>rfl
 | succ i ih=>intro f h;cases f with
  | nil=>simp[Fo.len]at h
  | cons k t n ks r=>simp[Fo.take,Fo.len,ih r (by simpa[Fo.len]using h)]
theorem Fo.fit_app :∀{f g:Fo},(f.app g).fit↔f.fit∧g.fit:=by
 intro f g
 induction f with
 | nil=>simp[Fo.app,Fo.fit]
 | cons k t n ks r _ ih=>simp[Fo.app,Fo.fit,ih];grind
theorem Fo.high_app :∀{f g:Fo},(f.app g).high=max f.high g.high:=by
 intro f g
 induction f with
 | nil=>simp[Fo.app,Fo.high]
 | cons k t n ks r _ ih=>simp[Fo.app,Fo.high,ih,Nat.max_assoc]
theorem Fo.fit_take{f:Fo}(i:Nat)(h:f.fit):(f.take i).fit∧(f.drop i).fit:=by
 rw[←Fo.take_drop i f]at h;exact Fo.fit_app.mp h
theorem foB_behind{f g:Fo}{x y:List UInt8}(hf:f.fit)(hg:g.fit)(hle:f.len≤g.len)(h:foB f++x=foB g++y):f=g.take f.len∧x=foB (g.drop f.len)++y:=by
 rw[←Fo.take_drop f.len g,foB_app,List.append_assoc]at h;have:=Fo.fit_take f.len hg;exact foB_split hf this.1 (Fo.len_take _ _ hle).symm h
theorem flat_behind{α:Type}{enc:α→List UInt8}{fit:α→Prop}(hs :∀a b x y,fit a→fit b→enc a++x=enc b++y→a=b∧x=y)
  {l m:List α} {x y:List UInt8} (hl :∀a∈l,fit a) (hm :∀a∈m,fit a) (hle:l.length≤m.length) (h:(l.map enc).flatten++x=(m.map enc).flatten++y):
  l=m.take l.length∧x=((m.drop l.length).map enc).flatten++y:=by
 rw[←List.take_append_drop l.length m,List.map_append,List.flatten_append,List.append_assoc]at h;exact flat_split hs hl (fun a ha=>hm a (List.mem_of_mem_take ha)) (by simp;omega) h
theorem txtB_len(s:ByteArray):(txtB s).length=8+s.size:=by
 have e1:s.data.toList.length=s.size:=by simp
 unfold txtB;rw[List.length_append,num8_len,e1]
theorem flat_len8{α:Type}{enc:α→List UInt8}(h8 :∀a,8≤(enc a).length)(l:List α):8*l.length≤(l.map enc).flatten.length:=by
 induction l with
 | nil=>simp
 | cons a l ih=>simp only[List.map_cons,List.flatten_cons,List.length_append,List.length_cons];have:=h8 a;omega
theorem foB_len :∀f:Fo,8*f.len≤(foB f).length:=by
 intro f
 induction f with
 | nil=>simp[Fo.len]
 | cons k t n ks r _ ih=>simp[Fo.len,foB,txtB_len,num8_len];omega
section
open Go.RowKit
structure Keep(P:Nat→Prop)(w w':World):Prop where
 os:w'.os=w.os
 tape:w'.tape=w.tape
 output:w'.output=w.output
 size:w.heap.size≤w'.heap.size
 block :∀k,P k→w'.heap[k]?=w.heap[k]?
section
variable {P P' : Nat → Prop} {w w' w'' : World}
theorem Keep.refl(P:Nat→Prop)(w:World):Keep P w w:=⟨rfl,rfl,rfl,Nat.le_refl _,fun _ _=>rfl⟩
theorem Keep.trans(h:Keep P w w')(h':Keep P w' w''):Keep P w w'':=⟨h'.os.trans h.os,h'.tape.trans h.tape,h'.output.trans h.output,Nat.le_trans h.size h'.size,fun k hk=>(h'.block k hk).trans (h.block k hk)⟩
theorem Keep.mono(h:Keep P' w w')(hp :∀k,P k→P' k):Keep P w w':=⟨h.os,h.tape,h.output,h.size,fun k hk=>h.block k (hp k hk)⟩
theorem Keep.drew(h:Keep P w w'):Keep P w w'.drew:=⟨h.os,h.tape,h.output,h.size,h.block⟩
theorem Keep.drewN(h:Keep P w w')(n:Nat):Keep P w (w'.drewN n):=⟨h.os,h.tape,h.output,h.size,h.block⟩
theorem Keep.alloc(h:Keep P w w')(hp :∀k,P k→k<w.heap.size)(o:Obj):Keep P w (w'.alloc o):=
 h.trans ⟨rfl,rfl,rfl,by simp,fun k hk=>Below.heap_alloc w' o k (Nat.lt_of_lt_of_le (hp k hk) h.size)⟩
theorem Keep.setCell(h:Keep P w w'){a:Addr}(ha :¬P a.block)(u:Value):Keep P w (w'.setCell a u):=
 h.trans ⟨rfl,rfl,rfl,by simp[World.setCell],fun k hk=>Below.heap_setCell w' a u k (fun e=>ha (e▸hk))⟩
theorem Keep.grown(h:Keep P w w'){row:Option Nat}(hg:w'.grownBy w'' row)(hp :∀k,P k→k<w.heap.size)(hr :∀k,row=some k→¬P k):Keep P w w'' :=
 h.trans ⟨hg.os,hg.tape,hg.output,hg.size,fun k hk=>hg.block k (Nat.lt_of_lt_of_le (hp k hk) h.size) (fun e=>hr k e.symm hk)⟩
theorem Keep.cell(h:Keep P w w'){a:Addr}(ha:P a.block):w'.cell? a=w.cell? a:=World.cell?_of_block (h.block _ ha)
theorem Keep.frozen(h:Keep P w w'){a:Addr}(ha:P a.block):w'.frozen? a=w.frozen? a:=World.frozen?_of_block (h.block _ ha)
theorem Keep.box(h:Keep P w w'){N:Nat}(hN:P N):(∀o,w'.cell? ⟨N,o,none⟩=w.cell? ⟨N,o,none⟩)∧(∀o,w'.frozen? ⟨N,o,none⟩=w.frozen? ⟨N,o,none⟩):=⟨fun o=>h.cell (a:=⟨N,o,none⟩) hN,fun o=>h.frozen (a:=⟨N,o,none⟩) hN⟩
theorem Keep.below{B:Nat}(h:Keep (fun k=>k<B) w w'):Below B w w':=⟨h.os,h.tape,h.output,h.size,h.block⟩
theorem Keep.of_below{B:Nat}(h:Below B w w')(hp :∀k,P k→k<B):Keep P w w':=⟨h.os,h.tape,h.output,h.size,fun k hk=>h.block k (hp k hk)⟩
end
section
variable {Q : Program} (w : World)
theorem append_where(t ty e:TypeId)(i:TypeInfo)(z:Value)(size bytes:Nat)(ht:Q.underlying t=some (.slice e))(hi:Q.info? e=some i)(hz:i.zero=some z)
  (hsize:i.size=size) (hby:i.bytes=bytes) (v:Value) (n:Nat) (xs:List Value) (hown:w.ownsRow 0 e size v n xs)
  (a:Addr) (m c:Nat) (news:List Value) (hl:news.length=m*size) (hnews :∀j u,news[j]?=some u→w.cell? (a.add j)=some u) (h1 :∀u∈news,u.oneCell'=true)
  (h63:n+m≤maxLen) (hbytes:(n+m)*bytes≤140737488355328) (v':Value) (w':World) (hrun:(Builtin.append_ #[t,t] ty #[v,.slice (some a) m c]).run Q w = .ok v' w'):
  v'.ownBlock=v.ownBlock∨v'.ownBlock=some w.heap.size:=by
 subst hsize;subst hby;have hm:n+m≤9223372036854775807:=by simp only[maxLen]at h63;omega
 rcases hown.2 with⟨rfl,rfl⟩|⟨g,cap,cur,rfl,_,hg,hnc,hcm,hcs,htake⟩
 ·by_cases h0:m=0
  ·subst h0;have hn:news=[]:=List.eq_nil_of_length_eq_zero (by simpa using hl);have hr:(Builtin.append_ #[t,t] ty #[.slice none 0 0,.slice (some a) 0 c]).run Q w = .ok (.slice none 0 0) w:=by
    simp[Builtin.append_,run_underlying ht,sizeOf,typeInfo,hi,Builtin.lenOf,Builtin.firstCells,loadCells,loadCellsFrom]
   rw[hr]at hrun;injection hrun with e1 e2;subst e1;exact .inl rfl
  ·have hr:=run_append_nil (P:=Q) w t ty e i z ht hi hz a m c news hl hnews (by omega) (by omega) (by have:=hbytes;simp only[Nat.zero_add]at this;omega);rw[hr]at hrun;injection hrun with e1 e2;subst e1;exact .inr rfl
 ·by_cases hroom:n+m≤cap
  ·have hfit:n*i.size+news.length≤cur.size:=by rw[hl,hcs,←Nat.add_mul];exact Nat.mul_le_mul_right _ hroom
   have hr:=run_append_room (P:=Q) w t ty e i ht hi g n cap cur hg a m c news hl hnews h1 hroom hfit;rw[hr]at hrun;injection hrun with e1 e2;subst e1;exact .inl rfl
  ·have hr:=run_append_grow (P:=Q) w t ty e i z ht hi hz ⟨g,0,none⟩ n cap xs hown.1 (hown.cells (g:=g) rfl) a m c news hl hnews (by omega) (by omega) (growslice_fits (by omega) hbytes);rw[hr]at hrun;injection hrun with e1 e2;subst e1;exact .inr rfl
theorem wpList_append_own2{ops:Array Oper}{rest:List Oper}{o:Oper}{a:Act}{K0:Exit→Act→World→Prop}(hgd:o.guard=none)(s x:Operand)(t:TypeId)
  (ho:o.op = .call {callee:= .builtin .append,args:=#[s,x],argTypes:=#[t,t]})
  (e:TypeId) (i:TypeInfo) (z:Value) (size bytes:Nat) (ht:Q.underlying t=some (.slice e)) (hi:Q.info? e=some i) (hz:i.zero=some z)
  (hsize:i.size=size) (hby:i.bytes=bytes) (hzs:z.cells.size=size) (hsz:0<size)
  (v:Value) (n:Nat) (xs:List Value) (hs:a.eval s=v) (hown:w.ownsRow 0 e size v n xs)
  (ad:Addr) (m c:Nat) (news:List Value) (hx:a.eval x = .slice (some ad) m c) (hl:news.length=m*size) (hnews :∀j u,news[j]?=some u→w.cell? (ad.add j)=some u) (h1 :∀u∈news,u.oneCell'=true)
  (h63:n+m≤maxLen) (hbytes:(n+m)*bytes≤140737488355328)
  (h :∀v' w',w'.ownsRow 0 e size v' (n+m) (xs++news)→w.grownBy w' v.ownBlock→(v' = .slice none 0 0↔v = .slice none 0 0∧m=0)→(v'.ownBlock=v.ownBlock∨v'.ownBlock=some w.heap.size)→
   wpList Q ops K0 rest (a.put o.dst v') w'):wpList Q ops K0 (o::rest) a w:=by
 refine wpList_plain hgd fun K hK'=>?_;obtain⟨v',w',hr,h2,h3,h4⟩:=run_append_own (P:=Q) w 0 t o.type e i z size bytes ht hi hz hsize hby hzs hsz v n xs hown ad m c news hl hnews h1 h63 hbytes (Nat.zero_le _);have h5:=append_where w t o.type e i z size bytes ht hi hz hsize hby v n xs hown ad m c news hl hnews h1 h63 hbytes v' w' hr;unfold Oper.wp;simp[execOp,ho,resolve,invoke,builtin,hs,hx,hr,Result.andThen];exact hK' _ _ (h v' w' h2 h3 h4 h5)
end
theorem own_shape{w:World}{B e size n:Nat}{v:Value}{xs:List Value}(h:w.ownsRow B e size v n xs):∃A c,v = .slice A n c:=by
 rcases h.2 with⟨rfl,rfl⟩|⟨g,cap,cur,rfl,_⟩
 ·exact⟨_,_,rfl⟩
 ·exact⟨_,_,rfl⟩
theorem own_rd{S:Nat→Prop}{e n:Nat}{w:World}{v:Value}{xs:List Value}(h:w.ownsRow 0 e 1 v n xs)(hne :∀g,v.ownBlock=some g→S g):∃A c,v = .slice A n c∧Rd S w A xs∧n≤c∧c≤9223372036854775807:=by
 rcases h.2 with⟨rfl,rfl⟩|⟨g,cap,cur,rfl,hb,hgg,hn,hc,_⟩
 ·have:xs=[]:=List.eq_nil_of_length_eq_zero (by simpa using h.1);subst this;exact⟨_,_,rfl,.inl rfl,Nat.le_refl _,by omega⟩
 ·refine⟨_,_,rfl,.inr ⟨g,0,rfl,hne g rfl,fun j u hu=>?_⟩,hn,by unfold maxLen at hc;omega⟩;have:=h.cells (g:=g) rfl j u hu
  rwa [Addr.add_lit]at this
theorem InfosomeInt:(Tryz.prog.info? 3).map (fun i=>(i.zero,i.size,i.bytes))=some (some (.int .i64 0),1,8):=by kernel_rfl
theorem InfosomeStr:(Tryz.prog.info? 9).map (fun i=>(i.zero,i.size,i.bytes))=some (some (.string ByteArray.empty),1,16):=by kernel_rfl
def FoCells(S:Nat→Prop)(w:World):List Value→Fo→Prop
 | vs,.nil=>vs=[]
 | vs,.cons k t n ks r=>∃KA c vs',vs = .int .u8 k :: .string t :: .int .i64 n :: .slice KA ks.len c::vs'∧k<256∧t.size≤9223372036854775807∧isInt64 n∧ks.len≤c∧c≤9223372036854775807∧FoIn S w KA ks∧FoCells S w vs' r
theorem FoCells.keep{S S':Nat→Prop}{w w':World}(hk :∀b,b<w.heap.size→S b→w'.heap[b]?=w.heap[b]?)(hm :∀b,b<w.heap.size→S b→S' b):∀{f:Fo} {vs:List Value},FoCells S w vs f→FoCells S' w' vs f:=by
 intro f
 induction f with
 | nil=>intro vs h;exact h
 | cons k t n ks r _ ih =>
  rintro vs ⟨KA,c,vs',rfl,h1,h2,h3,h4,h5,h6,h7⟩;exact⟨KA,c,vs',rfl,h1,h2,h3,h4,h5,((h6.mono (S':=fun b=>b<w.heap.size∧S b) fun b hb hS=>⟨hb,hS⟩).keep fun b hb=>hk b hb.1 hb.2).mono fun b _ hb=>hm b hb.1 hb.2,ih h7⟩
theorem FoCells.snoc{S:Nat→Prop}{w:World}{k:Nat}{t:ByteArray}{n:Int}{ks:Fo}{KA:Option Addr}{c:Nat}(h1:k<256)(h2:t.size≤9223372036854775807)(h3:isInt64 n)(h4:ks.len≤c)(h5:c≤9223372036854775807)(h6:FoIn S w KA ks):
  ∀{f:Fo} {vs:List Value},FoCells S w vs f→FoCells S w (vs++[.int .u8 k,.string t,.int .i64 n,.slice KA ks.len c]) (f.app (.cons k t n ks .nil)):=by
 intro f
 induction f with
 | nil=>intro vs h;subst h;exact⟨KA,c,[],rfl,h1,h2,h3,h4,h5,h6,rfl⟩
 | cons k' t' n' ks' r _ ih =>
  rintro vs ⟨KA',c',vs',rfl,g1,g2,g3,g4,g5,g6,g7⟩;exact⟨KA',c',_,rfl,g1,g2,g3,g4,g5,g6,ih g7⟩
theorem InfoNode:(Tryz.prog.info? 152).map (fun i=>(i.zero,i.size,i.bytes))=some (some (.agg #[.int .u8 0,.string ByteArray.empty,.int .i64 0,.slice none 0 0]),4,56):=by kernel_rfl
theorem FoCells.at_{S S':Nat→Prop}{w:World}(hm :∀b,S b→S' b):∀{f:Fo} {vs:List Value} {b o:Nat},FoCells S w vs f→S' b→(∀j u,vs[j]?=some u→w.cell? ⟨b,o+j,none⟩=some u)→FoIn S' w (some ⟨b,o,none⟩) f:=by
 intro f
 induction f with
 | nil=>intro vs b o _ _ _;exact trivial
 | cons k t n ks r _ ih =>
  rintro vs b o ⟨KA,c,vs',rfl,g1,g2,g3,g4,g5,g6,g7⟩ hb hc;exact⟨b,o,KA,c,rfl,hb,hc 0 _ rfl,hc 1 _ rfl,hc 2 _ rfl,hc 3 _ rfl,g1,g2,g3,g4,g5,g6.mono fun b _ hS=>hm b hS,ih g7 hb (fun j u hu=>by
   have:=hc (j+4) u hu
   rwa [show o+(j+4)=o+4+j by omega]at this)⟩
end
section
open Go.RowKit
section
variable {α : Type} {V : World → Value → α → Prop} {r : Nat} {w w' : World}
def Stable(r:Nat)(V:World→Value→α→Prop):Prop :=
 ∀(w w':World) v x,(∀i,i<w.heap.size→i≠r→w'.heap[i]?=w.heap[i]?)→V w v x→V w' v x
def Match(V:World→Value→α→Prop)(kd:IntKind)(w:World):List MapEntry→List (Int×α)→Prop
 | [],[]=>True
 | e::es,(k,x)::t=>e.key = .int kd k∧V w e.val x∧Match V kd w es t
 | _,_=>False
def Tab(V:World→Value→α→Prop)(kd:IntKind)(w:World)(r:Nat)(t:List (Int×α)):Prop :=
 ∃(es:Array MapEntry) (c:Nat),w.heap[r]?=some (.map es c)∧Match V kd w es.toList t
variable {kd : IntKind}
theorem Match.keep(hV:Stable r V)(hk :∀i,i<w.heap.size→i≠r→w'.heap[i]?=w.heap[i]?):∀{es:List MapEntry} {t:List (Int×α)},Match V kd w es t→Match V kd w' es t
 | [],[],_=>trivial
 | _::_,(_,_)::_,⟨h1,h2,h3⟩=>⟨h1,hV w w' _ _ hk h2,Match.keep hV hk h3⟩
 | [],_::_,h=>h.elim
 | _::_,[],h=>h.elim
theorem Match.snoc :∀{es:List MapEntry} {t:List (Int×α)} {e:MapEntry} {k:Int} {x:α},Match V kd w es t→e.key = .int kd k→V w e.val x→Match V kd w (es++[e]) (t++[(k,x)])
 | [],[],_,_,_,_,h1,h2=>⟨h1,h2,trivial⟩
 | _::_,(_,_)::_,_,_,_,⟨a,b,c⟩,h1,h2=>⟨a,b,Match.snoc c h1 h2⟩
 | [],_::_,_,_,_,h,_,_=>h.elim
 | _::_,[],_,_,_,h,_,_=>h.elim
theorem Match.find :∀{es:List MapEntry} {t:List (Int×α)} (k:Int) (i:Nat),Match V kd w es t→
  (t.find? (fun p=>k == p.1)=none∧Instr.findNow (.int kd) (.int kd k) es i=some none)∨
  ∃k' x j v,t.find? (fun p=>k == p.1)=some (k',x)∧V w v x∧Instr.findNow (.int kd) (.int kd k) es i=some (some (j,v))
 | [],[],_,_,_=> .inl ⟨rfl,rfl⟩
 | e::es,(k',x)::t,k,i,⟨h1,h2,h3⟩=>by
  by_cases hk:k=k'
  ·subst hk;exact .inr ⟨k,x,i,e.val,by simp,h2,by simp[Instr.findNow,h1,Instr.sameNow]⟩
  ·have hk':(k == k')=false:=by simp[hk]
   rcases Match.find k (i+1) h3 with⟨ha,hb⟩|⟨k'',x',j,v,ha,hv,hb⟩
   ·exact .inl ⟨by simp[hk,ha],by simp[Instr.findNow,h1,Instr.sameNow,hb,hk']⟩
   ·exact .inr ⟨k'',x',j,v,by simp[hk,ha],hv,by simp[Instr.findNow,h1,Instr.sameNow,hb,hk']⟩
 | [],_::_,_,_,h=>h.elim
 | _::_,[],_,_,h=>h.elim
theorem Tab.keep{t:List (Int×α)}(h:Tab V kd w r t)(hV:Stable r V)(hb:Below w.heap.size w w'):Tab V kd w' r t:=by
 obtain⟨es,c,h1,h2⟩:=h;exact⟨es,c,(hb.block r (Array.getElem?_eq_some_iff.1 h1).1).trans h1,h2.keep hV fun i hi _=>hb.block i hi⟩
theorem Tab.new(w:World):Tab V kd (w.alloc (.map #[] 0)) w.heap.size []:=⟨#[],0,heap_alloc_new w _,trivial⟩
theorem Tab.lt{t:List (Int×α)}(h:Tab V kd w r t):r<w.heap.size:=by obtain⟨es,c,h1,_⟩:=h;exact(Array.getElem?_eq_some_iff.1 h1).1
variable {P : Program} {T K E : TypeId}
theorem run_insert_tab{t:List (Int×α)}(hT:Tab V kd w r t)(hV:Stable r V)(ht:P.underlying T=some (.map K E))(hK:P.underlying K=some (.int kd)){k:Int}{v:Value}{x:α}(hv:V w v x)
  (hn:t.find? (fun p=>k == p.1)=none):
  ∃w',(Instr.mapUpdate T (.map (some r)) (.int kd k) v).run P w = .ok () w'∧Tab V kd w' r (t++[(k,x)])∧w.grownBy w' (some r):=by
 obtain⟨es,c,h1,h2⟩:=hT;rcases h2.find k 0 with⟨_,hf⟩|⟨k',x',j,v',ha,_,_⟩
 ·refine⟨{w with heap:=w.heap.setIfInBounds r (.map (es.push {key:= .int kd k,val:=v,born:=c}) (c+1)) },?_,?_,?_⟩
  ·unfold Instr.mapUpdate;simp only[Sem.run_bind,run_underlying ht,Result.andThen,MapKept.run_getObj_map h1,MapKept.run_checkKey hK (k:= .int kd k) (by simp[MapKept.IsKey]) false 9999,MapKept.run_findKey hK hf,MapKept.run_setObj_map _ h1]
  ·obtain⟨ha,hb⟩:=MapKept.heap_set (o':= .map (es.push {key:= .int kd k,val:=v,born:=c}) (c+1)) h1;refine⟨_,_,ha,?_⟩;simp only[Array.toList_push];have hk :∀i,i<w.heap.size→i≠r→(w.heap.setIfInBounds r (.map (es.push {key:= .int kd k,val:=v,born:=c}) (c+1)))[i]?=w.heap[i]?:=fun i _ hne=>hb i hne;exact Match.snoc (h2.keep hV hk) rfl (hV _ _ _ _ hk hv)
  ·exact⟨rfl,rfl,rfl,by simp,fun i _ hne=>(MapKept.heap_set h1).2 i (by simpa using hne)⟩
 ·rw[hn]at ha;cases ha
theorem upon_insert_tab{o:Oper}{a:Act}{K':Act→World→Prop}{Q:Exit→Act→World→Prop}{wb:World}{t:List (Int×α)}{k:Int}{v:Value}{x:α}
  (hd:o.dst=none) (ht:P.underlying T=some (.map K E)) (hK:P.underlying K=some (.int kd)) (hT:Tab V kd wb r t) (hV:Stable r V)
  (hB:Below wb.heap.size wb w) (hv:V w v x) (hn:t.find? (fun p=>k == p.1)=none)
  (h :∀w',Tab V kd w' r (t++[(k,x)])→w.grownBy w' (some r)→K' a w'):
  Oper.upon P o a K' Q (((Instr.mapUpdate T (.map (some r)) (.int kd k) v).run P w).andThen fun _ w'=> .ok .skip w'):=by
 obtain⟨w',hrun,h1,h2⟩:=run_insert_tab (hT.keep hV hB) hV ht hK hv hn;rw[hrun];show K' (a.put o.dst undef) w';rw[hd];exact h w' h1 h2
theorem run_lookup_tab{t:List (Int×α)}(hT:Tab V kd w r t)(ht:P.underlying T=some (.map K E))(hK:P.underlying K=some (.int kd)){z:Value}(hz:(zeroValue E).run P w = .ok z w)(k:Int):
  (t.find? (fun p=>k == p.1)=none∧(Instr.lookup T (.map (some r)) (.int kd k) true).run P w = .ok (.tuple #[z,.bool false]) w)∨
  ∃k' x v,t.find? (fun p=>k == p.1)=some (k',x)∧V w v x∧(Instr.lookup T (.map (some r)) (.int kd k) true).run P w = .ok (.tuple #[v,.bool true]) w:=by
 obtain⟨es,c,e1,e2⟩:=hT;rcases e2.find k 0 with⟨hf,hn⟩|⟨k',x,j,v,hf,hv,hn⟩
 ·refine .inl ⟨hf,?_⟩;unfold Instr.lookup;simp[Sem.run_bind,run_underlying ht,Result.andThen,MapKept.run_getObj_map e1,MapKept.run_checkKey hK (k:= .int kd k) (by simp[MapKept.IsKey]) _ 9999,MapKept.run_findKey hK hn,hz]
 ·refine .inr ⟨k',x,v,hf,hv,?_⟩;unfold Instr.lookup;simp[Sem.run_bind,run_underlying ht,Result.andThen,MapKept.run_getObj_map e1,MapKept.run_checkKey hK (k:= .int kd k) (by simp[MapKept.IsKey]) _ 9999,MapKept.run_findKey hK hn]
end
end
section
open Go.RowKit
section
variable {P : Program} {ops : Array Oper} {Q : Exit → Act → World → Prop} {o : Oper} {rest : List Oper} {n : Nat} {L L' : List Value} {df : List Deferred} {w : World} {v : Value}
theorem sk(h:wpList P ops Q rest ⟨L'.toArray,df⟩ w)(hd:o.dst=some n:=by rfl)
  (hy:(execOp (Act.mk L.toArray df).eval o).run P w = .ok (.value v) w:=by first|(go_simp;done)|(go_simp;with_reducible rfl))
  (hL:L.set n v=L':=by(try simp only[List.set_cons_zero,List.set_cons_succ]);rfl)
  (hw:Region.wanted o (yielded ops L.toArray)=true:=by rfl):wpList P ops Q (o::rest) ⟨L.toArray,df⟩ w:=by
 unfold wpList;rw[if_pos hw];refine .inl ?_;unfold Oper.wp;rw[hy];have e:(Act.mk L.toArray df).put o.dst v=⟨L'.toArray,df⟩:=by rw[hd,←hL];simp[Act.put]
 show wpList P ops Q rest ((Act.mk L.toArray df).put o.dst v) w;rw[e];exact h
theorem sg{b:Bool}(h:wpList P ops Q rest ⟨L'.toArray,df⟩ w)(hd:o.dst=some n:=by rfl)
  (hw:Region.wanted o (yielded ops L.toArray)=b)
  (hy:b=true→(execOp (Act.mk L.toArray df).eval o).run P w = .ok (.value v) w:=by intro hb;first|(go_simp;done)|(go_simp;with_reducible rfl))
  (hL:L.set n (if b then v else undef)=L':=by(try simp only[List.set_cons_zero,List.set_cons_succ]);rfl):wpList P ops Q (o::rest) ⟨L.toArray,df⟩ w:=by
 cases b with
 | true=>exact sk h hd (hy rfl) hL hw
 | false =>
  unfold wpList;rw[hw,if_neg (by simp)];have e:(Act.mk L.toArray df).put o.dst undef=⟨L'.toArray,df⟩:=by rw[hd,←hL];simp[Act.put]
  rw[e];exact h
theorem sp{a b:Nat}{g X:Bool}{ty:TypeId}{ps:String}{af:Array Edge}(h:wpList P ops Q rest ⟨L'.toArray,df⟩ w)
  (hx:L[a]?=some (.bool g):=by rfl) (hy:L[b]?=some (if g then .bool X else undef):=by simp only[List.getElem?_cons_succ,List.getElem?_cons_zero];with_reducible rfl)
  (hL:L.set n (.bool (g && X))=L':=by(try simp only[List.set_cons_zero,List.set_cons_succ]);rfl):
  wpList P ops Q ({dst:=some n,op:= .pick (.tmp a) (.tmp b) (.const (.bool false)),type:=ty,pos:=ps,after:=af,guard:=none}::rest) ⟨L.toArray,df⟩ w:=by
 refine sk (v:= .bool (g && X)) h rfl ?_ hL rfl;have e1:(Act.mk L.toArray df).eval (.tmp a) = .bool g:=by show L.toArray.getD a undef=_;simp[hx]
 have e2:(Act.mk L.toArray df).eval (.tmp b)=if g then .bool X else undef:=by show L.toArray.getD b undef=_;simp[hy]
 have e3:(Act.mk L.toArray df).eval (.const (.bool false)) = .bool false:=rfl;generalize (Act.mk L.toArray df).eval=ev at e1 e2 e3⊢;cases g<;>simp[execOp,e1,e2,e3,asBool,go_sem]
theorem ss{w':World}(h:wpList P ops Q rest ⟨L.toArray,df⟩ w')(hy:(execOp (Act.mk L.toArray df).eval o).run P w = .ok .skip w':=by first|(go_simp;done)|(go_simp;with_reducible rfl))(hd:o.dst=none:=by rfl)
  (hw:Region.wanted o (yielded ops L.toArray)=true:=by rfl):wpList P ops Q (o::rest) ⟨L.toArray,df⟩ w:=by
 unfold wpList;rw[if_pos hw];refine .inl ?_;unfold Oper.wp;rw[hy];show wpList P ops Q rest ((Act.mk L.toArray df).put o.dst undef) w';rw[hd];exact h
end
end
section
open Go.RowKit
section
variable {P : Program} {ops : Array Oper} {Q : Exit → Act → World → Prop} {md : Region.Mode} {S : World → Prop} {oi : Oper} {fuel n : Nat} {listed : Array Bool} {L : List Value} {df : List Deferred} {w : World}
theorem tk(i:Nat){v:Value}(hS:S w)(hy :∀w,S w→(execOp (Act.mk L.toArray df).eval oi).run P w = .ok (.value v) w)
  (h:wpAnyH P md ops Q S fuel (listed.setIfInBounds i true) ⟨(L.set n v).toArray,df⟩ w)
  (hi:ops[i]?=some oi:=by rfl) (hd:oi.dst=some n:=by rfl) (hw:Region.wanted oi (yielded ops L.toArray)=true:=by rfl)
  (hs:Region.noSelect ops=true:=by kernel_rfl) (hf:Region.free md ops listed i=true:=by kernel_rfl) (hr:(Region.ready md ops listed).contains i=true:=by kernel_rfl)
  (hQ :∀c a w,Q (.panic c) (a.put oi.dst v) w→Q (.panic c) a w:=by exact fun _ _ _ h=>h):wpAnyH P md ops Q S (fuel+1) listed ⟨L.toArray,df⟩ w :=
 wpAnyH_take hi hs hf hr hQ (.inl ⟨hw,hy⟩) hS (by
  have e:(Act.mk L.toArray df).put oi.dst v=⟨(L.set n v).toArray,df⟩:=by rw[hd];simp[Act.put]
  rw[e];exact h)
theorem tn(i:Nat)(hS:S w)
  (h:wpAnyH P md ops Q S fuel (listed.setIfInBounds i true) ⟨(L.set n undef).toArray,df⟩ w)
  (hi:ops[i]?=some oi:=by rfl) (hd:oi.dst=some n:=by rfl) (hw:Region.wanted oi (yielded ops L.toArray)=false:=by rfl)
  (hs:Region.noSelect ops=true:=by kernel_rfl) (hf:Region.free md ops listed i=true:=by kernel_rfl) (hr:(Region.ready md ops listed).contains i=true:=by kernel_rfl)
  (hQ :∀c a w,Q (.panic c) (a.put oi.dst undef) w→Q (.panic c) a w:=by exact fun _ _ _ h=>h):wpAnyH P md ops Q S (fuel+1) listed ⟨L.toArray,df⟩ w :=
 wpAnyH_take hi hs hf hr hQ (.inr ⟨hw,rfl⟩) hS (by
  have e:(Act.mk L.toArray df).put oi.dst undef=⟨(L.set n undef).toArray,df⟩:=by rw[hd];simp[Act.put]
  rw[e];exact h)
theorem tka(i:Nat){v:Value}{L':List Value}(hS:S w)
  (h:wpAnyH P md ops Q S fuel (listed.setIfInBounds i true) ⟨L'.toArray,df⟩ w)
  (hi:ops[i]?=some oi:=by rfl) (hd:oi.dst=some n:=by rfl)
  (hy :∀w,S w→(execOp (Act.mk L.toArray df).eval oi).run P w = .ok (.value v) w:=by intro w' hSw;first|(go_simp;done)|(go_simp;with_reducible rfl))
  (hL:L.set n v=L':=by(try simp only[List.set_cons_zero,List.set_cons_succ]);rfl)
  (hw:Region.wanted oi (yielded ops L.toArray)=true:=by rfl)
  (hs:Region.noSelect ops=true:=by kernel_rfl) (hf:Region.free md ops listed i=true:=by kernel_rfl) (hr:(Region.ready md ops listed).contains i=true:=by kernel_rfl)
  (hQ :∀c a w,Q (.panic c) (a.put oi.dst v) w→Q (.panic c) a w:=by exact fun _ _ _ h=>h):wpAnyH P md ops Q S (fuel+1) listed ⟨L.toArray,df⟩ w :=
 tk i hS hy (by rw[hL];exact h) hi hd hw hs hf hr hQ
end
end
end Go.Proofs.YtialngdffhmobaaGreatDoor
