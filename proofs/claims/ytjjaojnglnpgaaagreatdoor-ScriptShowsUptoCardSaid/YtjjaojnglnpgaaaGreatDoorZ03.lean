/- Part 4 of what scriptShows_cardUpto rests on. -/
import Derived.Test.YtjjaojnglnpgaaaGreatDoorProg
import Derived.Lib.SliceRun
import Derived.Deep.RegionHeld
import Derived.KernelRfl
import Derived.OwnWalk
import Derived.Shelf.Strings.Search1
import Derived.Laws.AppendOwn
import Derived.Laws.OwnMore
import Derived.Laws.IdiomStrings
import Derived.Lib.AppendStr
import Derived.Test.YtjjaojnglnpgaaaGreatDoorZ02
import Derived.Test.YtjjaojnglnpgaaaGreatDoorZ01
import Derived.Test.YtjjaojnglnpgaaaGreatDoorZ00
set_option linter.unusedVariables false
set_option linter.unusedSimpArgs false
set_option maxHeartbeats 16000000
set_option maxRecDepth 1000000
namespace Go.Proofs.YtjjaojnglnpgaaaGreatDoor
section
open Go.RowKit
theorem Uo{S:Nat→Prop}(w:World)(A:Option Addr)(c:Nat)(l:List UInt8)(hb:BytesIn S w A l):
  (convert 44 9 (.slice A l.length c)).run Tryz.prog w = .ok (.string ⟨l.toArray⟩) w:=by
 rcases hb.1 with h|⟨b,o,rfl,_,hc⟩
 ·have:l=[]:=by simpa[bytesV]using h
  subst this;show(convert 44 9 (.slice A 0 c)).run Tryz.prog w=_;rw[run_convert_bytes_string w 44 9 5 A 0 c Tryz.underlying44 Tryz.underlying5 Tryz.underlying9];cases A<;>simp[Conv.bytesToString,loadCells,loadCellsFrom]
  all_goals rfl
 ·refine run_convert_bytes_back w _ _ _ ⟨b,o,none⟩ c l Tryz.underlying44 Tryz.underlying5 Tryz.underlying9 (fun j hj=>?_);rw[Addr.add_lit];exact hc j _ (by simp[bytesV,hj])
theorem rZ(n:Int)(h:0≤n∧n<12)(w:World):(convert 44 9 (.slice (some ⟨w.heap.size,0,none⟩) 8 8)).run Tryz.prog (w.alloc (.cells #[.int .u8 35,.int .u8 1,.int .u8 0,.int .u8 0,.int .u8 47,.int .u8 n,.int .u8 0,.int .u8 0] 5)) =
  .ok (.string (markT n.toNat)) (w.alloc (.cells #[.int .u8 35,.int .u8 1,.int .u8 0,.int .u8 0,.int .u8 47,.int .u8 n,.int .u8 0,.int .u8 0] 5)):=by
 have hb:BytesIn (fun _=>True) (w.alloc (.cells #[.int .u8 35,.int .u8 1,.int .u8 0,.int .u8 0,.int .u8 47,.int .u8 n,.int .u8 0,.int .u8 0] 5)) (some ⟨w.heap.size,0,none⟩) [35,1,0,0,47,UInt8.ofNat n.toNat,0,0]:=by
  have e:((UInt8.ofNat n.toNat).toNat:Int)=n:=by rw[UInt8.toNat_ofNat'];omega
  refine⟨.inr ⟨w.heap.size,0,rfl,trivial,fun j u hu=>?_⟩,by simp only[List.length_cons,List.length_nil];omega⟩;rw[Nat.zero_add,Lib.cell_of_heap (heap_alloc_new w _)]
  match j,hu with
  | 0,hu=>exact hu
  | 1,hu=>exact hu
  | 2,hu=>exact hu
  | 3,hu=>exact hu
  | 4,hu=>exact hu
  | 5,hu=>have hu':some (Value.int .u8 ((UInt8.ofNat n.toNat).toNat:Int))=some u:=hu;rw[e]at hu';exact hu'
  | 6,hu=>exact hu
  | 7,hu=>exact hu
  | j+8,hu=>simp[bytesV]at hu
 exact Uo _ (some ⟨w.heap.size,0,none⟩) 8 [35,1,0,0,47,UInt8.ofNat n.toNat,0,0] hb
theorem Ur(n:Int)(h:0≤n∧n<12)(w:World):Calls Tryz.prog 127 #[.int .i64 1,.int .i64 n] w fun e w'=>e = .returned (.string (markT n.toNat))∧Below w.heap.size w w':=by
 have hcv:=rZ n h w;have h':n=0∨n=1∨n=2∨n=3∨n=4∨n=5∨n=6∨n=7∨n=8∨n=9∨n=10∨n=11:=by omega
 clear h;rcases h' with rfl|rfl|rfl|rfl|rfl|rfl|rfl|rfl|rfl|rfl|rfl|rfl
 all_goals
  go_enter Tryz.func127,Tryz.ntmps127
  go_wp2_with fail
  go_ret;exact⟨rfl,az _ _⟩
end
section
open Go.RowKit
section
variable {P : Program} {ops : Array Oper} {Q : Exit → Act → World → Prop} {md : Region.Mode} {S : World → Prop} {oi : Oper} {fuel n : Nat} {listed : Array Bool} {L : List Value} {df : List Deferred} {w : World}
theorem tk(i:Nat){v:Value}(hS:S w)(hy :∀w,S w→(execOp (Act.mk L.toArray df).eval oi).run P w = .ok (.value v) w)
  (h:wpAnyH P md ops Q S fuel (listed.setIfInBounds i true) ⟨(L.set n v).toArray,df⟩ w)
  (hi:ops[i]?=some oi:=by rfl) (hd:oi.dst=some n:=by rfl) (hw:Region.wanted oi (yielded ops L.toArray)=true:=by rfl)
  (hs:Region.noSelect ops=true:=by kernel_rfl) (hf:Region.free md ops listed i=true:=by kernel_rfl) (hr:(Region.ready md ops listed).contains i=true:=by kernel_rfl)
  (hQ :∀c a w,Q (.panic c) (a.put oi.dst v) w→Q (.panic c) a w:=by exact fun _ _ _ h=>h):wpAnyH P md ops Q S (fuel+1) listed ⟨L.toArray,df⟩ w :=
 wpAnyH_take hi hs hf hr hQ (.inl ⟨hw,hy⟩) hS (by
  have e:(Act.mk L.toArray df).put oi.dst v=⟨(L.set n v).toArray,df⟩:=by rw[hd];simp[Act.put]
  rw[e];exact h)
theorem tn(i:Nat)(hS:S w)
  (h:wpAnyH P md ops Q S fuel (listed.setIfInBounds i true) ⟨(L.set n undef).toArray,df⟩ w)
  (hi:ops[i]?=some oi:=by rfl) (hd:oi.dst=some n:=by rfl) (hw:Region.wanted oi (yielded ops L.toArray)=false:=by rfl)
  (hs:Region.noSelect ops=true:=by kernel_rfl) (hf:Region.free md ops listed i=true:=by kernel_rfl) (hr:(Region.ready md ops listed).contains i=true:=by kernel_rfl)
  (hQ :∀c a w,Q (.panic c) (a.put oi.dst undef) w→Q (.panic c) a w:=by exact fun _ _ _ h=>h):wpAnyH P md ops Q S (fuel+1) listed ⟨L.toArray,df⟩ w :=
 wpAnyH_take hi hs hf hr hQ (.inr ⟨hw,rfl⟩) hS (by
  have e:(Act.mk L.toArray df).put oi.dst undef=⟨(L.set n undef).toArray,df⟩:=by rw[hd];simp[Act.put]
  rw[e];exact h)
theorem aj(i:Nat){v:Value}{L':List Value}(hS:S w)
  (h:wpAnyH P md ops Q S fuel (listed.setIfInBounds i true) ⟨L'.toArray,df⟩ w)
  (hi:ops[i]?=some oi:=by rfl) (hd:oi.dst=some n:=by rfl)
  (hy :∀w,S w→(execOp (Act.mk L.toArray df).eval oi).run P w = .ok (.value v) w:=by intro w' hSw;first|(go_simp;done)|(go_simp;with_reducible rfl))
  (hL:L.set n v=L':=by(try simp only[aA,aB]);rfl)
  (hw:Region.wanted oi (yielded ops L.toArray)=true:=by rfl)
  (hs:Region.noSelect ops=true:=by kernel_rfl) (hf:Region.free md ops listed i=true:=by kernel_rfl) (hr:(Region.ready md ops listed).contains i=true:=by kernel_rfl)
  (hQ :∀c a w,Q (.panic c) (a.put oi.dst v) w→Q (.panic c) a w:=by exact fun _ _ _ h=>h):wpAnyH P md ops Q S (fuel+1) listed ⟨L.toArray,df⟩ w :=
 tk i hS hy (by rw[hL];exact h) hi hd hw hs hf hr hQ
end
end
section
open Go.RowKit
theorem DF{P:Program}(w:World){ops:Array Oper}{rest:List Oper}{o:Oper}{a:Act}{Q:Exit→Act→World→Prop}
  (hg:o.guard=none) (s x:Operand) (t:TypeId) (hop:o.op=Op.call {callee:=Callee.builtin Builtin.append,args:=#[s,x],argTypes:=#[t,t]})
  (base:Nat) (e:TypeId) (i:TypeInfo) (size:Nat) (h1:P.underlying t=some (.slice e)) (h2:P.info? e=some i) (h4:i.size=size)
  (g k cap:Nat) (xs:List Value) (hs:a.eval s = .slice (some ⟨g,0,none⟩) k cap) (hown:w.ownsRow base e size (.slice (some ⟨g,0,none⟩) k cap) k xs) (ao:Option Addr) (m c:Nat) (news:List Value) (hx:a.eval x = .slice ao m c) (hn:news.length=m*size)
  (hnone:ao=none→m=0) (hc :∀ad,ao=some ad→∀j u,news[j]?=some u→w.cell? (ad.add j)=some u) (h1c :∀u∈news,u.oneCell'=true) (b1:k+m≤cap)
  (hK :∀w',w'.ownsRow base e size (.slice (some ⟨g,0,none⟩) (k+m) cap) (k+m) (xs++news)→w.grownBy w' (some g)→wpList P ops Q rest (a.put o.dst (.slice (some ⟨g,0,none⟩) (k+m) cap)) w'):
  wpList P ops Q (o::rest) a w:=by
 cases ao with
 | some ad=>exact wpList_append_fits w hg s x t hop base e i size h1 h2 h4 g k cap xs hs hown ad m c news hx hn (hc ad rfl) h1c b1 hK
 | none =>
  obtain rfl:=hnone rfl;have hnews:news=[]:=List.eq_nil_of_length_eq_zero (by simpa using hn);subst hnews;refine wpList_plain hg fun K hK'=>?_;have hrun:=MW (P:=P) (c0:=c) h1 h2 hown o.type;unfold Oper.wp;simp[execOp,hop,resolve,invoke,builtin,hs,hx,hrun,Result.andThen];exact hK' _ _ (by simpa using hK w (by simpa using hown) (World.grownBy.refl _ _))
section
variable {S S' : Nat → Prop} {w w' : World} {base g cap n : Nat} {e : TypeId} {size : Nat} {xs : List Value}
theorem DI(hB:Below w.heap.size w w')(hg:w.heap.size≤g){w2:World}(h:w'.grownBy w2 (some g)):Below w.heap.size w w2:=hB.grown h hB.size (fun k hk=>by injection hk with hk;omega)
theorem Js(h:w.ownsRow base e size (.slice (some ⟨g,0,none⟩) n cap) n xs)(hB:Below w.heap.size w w'):w'.ownsRow base e size (.slice (some ⟨g,0,none⟩) n cap) n xs:=by
 refine⟨h.1,?_⟩;rcases h.2 with⟨e1,h0⟩|⟨g',cap',cur,e1,hbg,hg,hr⟩
 ·exact .inl ⟨e1,h0⟩
 ·exact .inr ⟨g',cap',cur,e1,hbg,(hB.block g' (Array.getElem?_eq_some_iff.1 hg).1).trans hg,hr⟩
theorem PE{vs:List Value}(h:w.ownsRow base e 1 (.slice (some ⟨g,0,none⟩) (n+12) cap) (n+12) vs)(hS:S g):dA S w (some ⟨g,0,none⟩) cap n e vs:=by
 rcases h.2 with⟨e1,_⟩|⟨g',cap',cur,e1,_,hg,h1,h2,h3,h4⟩
 ·cases e1
 ·injection e1 with e1 _ e2;injection e1 with e1;injection e1 with e1;subst e1 e2;refine⟨g,cur,rfl,hS,hg,h1,by unfold maxLen at h2;omega,fun j u hu=>?_⟩;rw[←h4,List.getElem?_take]at hu;split at hu
  ·simpa using hu
  ·cases hu
theorem Ya(h:w.ownsRow base e size (.slice (some ⟨g,0,none⟩) n cap) n xs):∀j u,xs[j]?=some u→w.cell? ⟨g,0+j,none⟩=some u:=by
 intro j u hu;have:=h.cells (g:=g) rfl j u hu
 rwa [Addr.add_lit]at this
theorem Jt(h:w.ownsRow base e size (.slice (some ⟨g,0,none⟩) n cap) n xs):n≤cap∧cap≤9223372036854775807∧base≤g∧g<w.heap.size:=by
 rcases h.2 with⟨e1,_⟩|⟨g',cap',cur,e1,hb,hg,h1,h2,_⟩
 ·cases e1
 ·injection e1 with e1 _ e2;injection e1 with e1;injection e1 with e1;subst e1 e2;exact⟨h1,by unfold maxLen at h2;omega,hb,(Array.getElem?_eq_some_iff.1 hg).1⟩
def jY(i:Nat):List Value:=[.int .u8 0,.string ⟨#[]⟩,.int .i64 (lL i),.slice none 0 0]
def iQ(j:Nat):List Value:=(List.range j).flatMap jY
theorem PG(j:Nat):iQ (j+1)=iQ j++jY j:=by simp[iQ,List.range_succ]
theorem PH(j:Nat):(iQ j).length=j*4:=by
 induction j with
 | zero=>rfl
 | succ j ih=>rw[PG,aJ,ih];simp[jY];omega
theorem Yb{i r:Nat}{u:Value}(hr:r<4):∀{j:Nat},i<j→(jY i)[r]?=some u→(iQ j)[i*4+r]?=some u:=by
 intro j
 induction j with
 | zero=>intro h;omega
 | succ j ih =>
  intro h hu;rw[PG];rcases Nat.lt_or_ge i j with h2|h2
  ·rw[List.getElem?_append_left (by rw[PH];omega)];exact ih h2 hu
  ·obtain rfl:i=j:=by omega
   rw[List.getElem?_append_right (by rw[PH];omega),PH,show i*4+r-i*4=r by omega];exact hu
def bu(S:Nat→Prop)(w:World):List Value→Fo→Prop
 | vs,.nil=>vs=[]
 | vs,.cons k t n ks r=>∃KA kc vs',vs = .int .u8 k :: .string t :: .int .i64 n :: .slice KA ks.len kc::vs'∧k<256∧t.size≤9223372036854775807∧ai n∧bQ S w KA kc ks∧bu S w vs' r
theorem bK.mono :∀{f:Fo} {g o:Nat},bK S w g o f→(∀b,S b→S' b)→bK S' w g o f
 | .nil,_,_,h,_=>h
 | .cons k t n ks r,g,o,⟨g',kc,c0,c1,c2,c3,h1,h2,h3,h4,h5,h6,h7,h8⟩,hm=>⟨g',kc,c0,c1,c2,c3,h1,h2,h3,h4,h5,hm _ h6,bK.mono h7 hm,bK.mono h8 hm⟩
theorem bQ.mono{A:Option Addr}{c:Nat}{f:Fo}(h:bQ S w A c f)(hm :∀b,S b→S' b):bQ S' w A c f:=by
 obtain⟨g,e,h1,h2,h3,h4⟩:=h;exact⟨g,e,hm _ h1,h2,h3,h4.mono hm⟩
theorem bu.snoc{k:Nat}{t:ByteArray}{m:Int}{ks:Fo}{KA:Option Addr}{c:Nat}(h1:k<256)(h2:t.size≤9223372036854775807)(h3:ai m)(h4:bQ S w KA c ks):
  ∀{f:Fo} {vs:List Value},bu S w vs f→bu S w (vs++[.int .u8 k,.string t,.int .i64 m,.slice KA ks.len c]) (f.app (.cons k t m ks .nil))
 | .nil,_,h=>by have h':_=[]:=h;subst h';exact⟨KA,c,[],rfl,h1,h2,h3,h4,rfl⟩
 | .cons _ _ _ _ _,_,⟨nD,EL,vs',g1,g2,g3,g4,g5,g6⟩=>by subst g1;exact⟨nD,EL,_,rfl,g2,g3,g4,g5,bu.snoc h1 h2 h3 h4 g6⟩
theorem bu.at_ :∀{f:Fo} {vs:List Value} {o:Nat},bu S w vs f→(∀j u,(vs++iQ 12)[j]?=some u→w.cell? ⟨g,o+j,none⟩=some u)→bK S w g o f
 | .nil,_,o,h,hc=>by
  have h':_=[]:=h;subst h';intro i hi;have key :∀(r:Nat) u,r<4→(jY i)[r]?=some u→w.cell? ⟨g,o+i*4+r,none⟩=some u:=fun r u hr hu=>by
   have:=hc (i*4+r) u (by rw[List.nil_append];exact Yb hr hi hu)
   rwa [←Nat.add_assoc]at this
  exact⟨key 0 _ (by omega) rfl,key 1 _ (by omega) rfl,key 2 _ (by omega) rfl,key 3 _ (by omega) rfl⟩
 | .cons k t n ks r,_,o,⟨KA,kc,vs',h1,h2,h3,h4,h5,h6⟩,hc=>by
  subst h1;obtain⟨g',rfl,a1,a2,a3,a4⟩:=h5;refine⟨g',kc,hc 0 _ rfl,hc 1 _ rfl,hc 2 _ rfl,hc 3 _ rfl,h2,h3,h4,a2,a3,a1,a4,bu.at_ h6 fun j u hu=>?_⟩;have:=hc (j+4) u (by simpa using hu)
  rwa [show o+(j+4)=o+4+j by omega]at this
theorem Yc :∀{f:Fo} {i k:Nat} {t:ByteArray} {n:Int} {ks r:Fo},f.drop i = .cons k t n ks r→f.take (i+1)=(f.take i).app (.cons k t n ks .nil):=by
 intro f
 induction f with
 | nil=>intro i k t n ks r h;cases i<;>cases h
 | cons k' t' n' ks' r' _ ih =>
  intro i k t n ks r h;cases i with
  | zero=>cases h;cases r'<;>rfl
  | succ i=>simp only[Fo.take,Fo.app];rw[←ih (i:=i) h]
theorem Yd :∀f:Fo,f.take f.len=f:=by
 intro f
 induction f with
 | nil=>rfl
 | cons k t n ks r _ ih=>simp only[Fo.len,Fo.take,ih]
theorem Ye(f:Fo):f.take 0 = .nil:=by cases f<;>rfl
end
end
def dn(c:UInt8):Nat:=if 48≤c.toNat∧c.toNat≤57 then c.toNat-48 else if 97≤c.toNat∧c.toNat≤102 then c.toNat-87 else 16
theorem MZ :∀n,n<16→dn (hexD n)=n:=by decide
theorem Us(c:UInt8)(h:dn c<16):hexD (dn c)=c:=by
 have key :∀k:Fin 256,dn (UInt8.ofNat k.val)<16→hexD (dn (UInt8.ofNat k.val))=UInt8.ofNat k.val:=by decide +kernel
 have e:UInt8.ofNat c.toNat=c:=by simp
 have:=key ⟨c.toNat,c.toNat_lt⟩;simp only[e]at this;exact this h
theorem Ut(c:UInt8):Go.Lib.indexByte signs.data.toList c=if dn c<16 then(dn c:Int)else -1:=by
 have key :∀k:Fin 256,Go.Lib.indexByte signs.data.toList (UInt8.ofNat k.val)=if dn (UInt8.ofNat k.val)<16 then(dn (UInt8.ofNat k.val):Int)else -1:=by decide +kernel
 have e:UInt8.ofNat c.toNat=c:=by simp
 have:=key ⟨c.toNat,c.toNat_lt⟩;simp only[e]at this;exact this
def unhexT:List UInt8→Option (List UInt8)
 | []=>some []
 | [_]=>none
 | x::y::r=>if dn x<16∧dn y<16 then(unhexT r).map (UInt8.ofNat (16*dn x+dn y)::·)else none
theorem Uu :∀b:List UInt8,unhexT (hexT b)=some b
 | []=>rfl
 | c::b=>by
  have hc:=c.toNat_lt;have h1:dn (hexD (c.toNat / 16))=c.toNat / 16:=MZ _ (by omega);have h2:dn (hexD (c.toNat % 16))=c.toNat % 16:=MZ _ (by omega);have ih:=Uu b;simp only[hexT,List.flatMap_cons,List.cons_append,List.nil_append]at ih⊢;rw[unhexT,h1,h2,if_pos ⟨by omega,by omega⟩,ih];simp only[Option.map_some,Option.some.injEq,List.cons.injEq,and_true];rw[show 16*(c.toNat / 16)+c.toNat % 16=c.toNat by omega];simp
theorem Uw :∀(t b:List UInt8),unhexT t=some b→hexT b=t
 | [],b,h=>by
  simp only[unhexT,Option.some.injEq]at h;subst h;rfl
 | [_],_,h=>by cases h
 | x::y::r,b,h=>by
  rw[unhexT]at h;split at h
  ·rename_i hd;obtain⟨b',hb,rfl⟩:=Option.map_eq_some_iff.1 h;have ih:=Uw r b' hb;have e:(UInt8.ofNat (16*dn x+dn y)).toNat=16*dn x+dn y:=by rw[UInt8.toNat_ofNat'];omega
   simp only[hexT,List.flatMap_cons,List.cons_append,List.nil_append]at ih⊢;rw[e,ih,show(16*dn x+dn y) / 16=dn x by omega,show(16*dn x+dn y) % 16=dn y by omega,Us x hd.1,Us y hd.2]
  ·cases h
def unhexL(t:List UInt8):Option (List UInt8):=if t=[45]then some []else if t=[]then none else unhexT t
theorem Ux(b:List UInt8):unhexL (hexL b)=some b:=by
 unfold hexL;split
 ·rename_i h;subst h;rfl
 ·rename_i h;have h1:hexT b≠[45]:=fun e=>by have:=zZ b;rw[e]at this;simp at this;omega
  have h2:hexT b≠[]:=fun e=>by
   have:=zZ b;rw[e]at this;have:b.length=0:=by simp at this;omega
   exact h (List.length_eq_zero_iff.1 this)
  rw[unhexL,if_neg h1,if_neg h2,Uu]
theorem ER(t b:List UInt8)(h:unhexL t=some b):hexL b=t:=by
 unfold unhexL at h;split at h
 ·rename_i e;injection h with h;subst h e;rfl
 ·split at h
  ·cases h
  ·rename_i h1 h2;have e:=Uw t b h;have hb:b≠[]:=fun hb=>by subst hb;exact h2 e.symm
   rw[hexL,if_neg hb,e]
structure aY where
 kind:Nat
 repo:ByteArray
 frm:ByteArray
 name:ByteArray
 file:ByteArray
 patch:Pt
 bytes:List UInt8
def aY.zero:aY:=⟨0,ae,ae,ae,ae,Pt.zero,[]⟩
def isWord(s:ByteArray):Bool:=!s.toList.isEmpty && (decide (s.size≤100) && (!decide (0≤Lib.indexByte s.data.toList 32) && !decide (0≤Lib.indexByte s.data.toList 10)))
open Classical in
noncomputable def iM(l:List UInt8):Option Pt:=if h :∃q:Pt,eY q∧bI q∧l=gJ q then some h.choose else none
theorem PI{l:List UInt8}{p:Pt}(h:iM l=some p):eY p∧bI p∧l=gJ p:=by
 unfold iM at h;split at h
 ·rename_i hx;injection h with h;subst h;exact hx.choose_spec
 ·cases h
theorem Uy{l:List UInt8}(h:iM l=none):¬∃q:Pt,eY q∧bI q∧l=gJ q:=by
 unfold iM at h;split at h
 ·cases h
 ·assumption
theorem Uz{p:Pt}(hf:eY p)(ho:bI p):iM (gJ p)=some p:=by
 rcases h:iM (gJ p)with _|q
 ·exact absurd ⟨p,hf,ho,rfl⟩ (Uy h)
 ·obtain⟨h1,h2,h3⟩:=PI h;rw[(Po h1 hf h2.bare ho.bare (x:=[]) (y:=[]) (by rw[List.append_nil,List.append_nil,h3])).1]
abbrev kG:=aY→List ByteArray→Option (aY×List ByteArray)
def dW:kG:=fun c l=>some (c,l)
noncomputable def restRecord:kG
 | c,n::t::r=>if isWord n then(unhexL t.data.toList).bind fun b=>(iM b).map fun p=>({c with name:=n,patch:=p},r)else none
 | _,_=>none
def dE:kG
 | c,f::n::r=>if isWord f && isWord n then some ({c with frm:=f,name:=n},r)else none
 | _,_=>none
def restUnpull:kG
 | c,n::r=>if isWord n then some ({c with name:=n},r)else none
 | _,_=>none
def dX:kG
 | c,f::r=>if isWord f then some ({c with frm:=f},r)else none
 | _,_=>none
def dB:kG
 | c,f::r=>if isWord f then some ({c with file:=f},r)else none
 | _,_=>none
def gp:kG
 | c,t::r=>(unhexL t.data.toList).map fun b=>({c with bytes:=b},r)
 | _,_=>none
noncomputable def restOf:Nat→kG
 | 2=>restRecord
 | 3=>dE
 | 4=>restUnpull
 | 5=>dX
 | 6=>dB
 | 9=>gp
 | _=>dW
def jo:ByteArray:=⟨#[110,101,119]⟩
def ay:ByteArray:=⟨#[114,101,99,111,114,100]⟩
def eP:ByteArray:=⟨#[112,117,108,108]⟩
def dK:ByteArray:=⟨#[117,110,112,117,108,108]⟩
def dY:ByteArray:=⟨#[109,101,114,103,101]⟩
def bV:ByteArray:=⟨#[99,104,101,99,107,111,117,116]⟩
def jR:ByteArray:=⟨#[108,111,103]⟩
def fA:ByteArray:=⟨#[101,120,112,111,114,116]⟩
def aV:ByteArray:=⟨#[105,109,112,111,114,116]⟩
def dP:List (Nat×ByteArray):=[(1,jo),(2,ay),(3,eP),(4,dK),(5,dY),(6,bV),(7,jR),(8,fA),(9,aV)]
def kindOf(s:ByteArray):Option Nat:=(dP.find? fun p=>decide (p.2=s)).map (·.1)
theorem PK{s:ByteArray}{k:Nat}(h:kindOf s=some k):(k,s)∈dP:=by
 unfold kindOf at h;obtain⟨p,hp,rfl⟩:=Option.map_eq_some_iff.1 h;have h1:=List.mem_of_find?_eq_some hp;have h2:=List.find?_some hp;simp only[decide_eq_true_eq]at h2;subst h2;exact h1
theorem jP{s:ByteArray}{k:Nat}(h:(k,s)∈dP):kindOf s=some k:=by
 simp only[dP,List.mem_cons,List.not_mem_nil,or_false,Prod.mk.injEq]at h;rcases h with⟨rfl,rfl⟩|⟨rfl,rfl⟩|⟨rfl,rfl⟩|⟨rfl,rfl⟩|⟨rfl,rfl⟩|⟨rfl,rfl⟩|⟨rfl,rfl⟩|⟨rfl,rfl⟩|⟨rfl,rfl⟩<;>decide
noncomputable def lineOf:List ByteArray→Option aY
 | first::repo::r=>(kindOf first).bind fun k=>if isWord repo then(match restOf k {aY.zero with kind:=k,repo:=repo} r with|some (c,[])=>some c|_=>none)else none
 | _=>none
theorem kY(b repo:ByteArray)(r:List ByteArray):lineOf (b::repo::r)=(kindOf b).bind fun k=>if isWord repo then(match restOf k ⟨k,repo,ae,ae,ae,Pt.zero,[]⟩ r with|some (c,[])=>some c|_=>none)else none:=rfl
section
open Go.RowKit
def Buf(P:Nat→Prop)(wb:Nat)(w:World)(l:List UInt8):Prop :=
 ∃v,w.cell? ⟨wb,0,none⟩=some v∧w.frozen? ⟨wb,0,none⟩=false∧¬P wb∧(∀k,P k→k<w.heap.size)∧w.ownsRow 0 5 1 v l.length (bytesV l)∧
  (∀g,v.ownBlock=some g→g≠wb∧¬P g)∧(v = .slice none 0 0∨l≠[])
abbrev lid:Nat:=1099511627776
theorem Yf(w:World)(a:Addr)(u:Value):w.grownBy (w.setCell a u) (some a.block):=
 ⟨rfl,rfl,rfl,by simp[World.setCell],fun k _ hne=>Below.heap_setCell w a u k (fun e=>hne (by rw[e]))⟩
theorem UA(l m:List UInt8):bytesV (l++m)=bytesV l++bytesV m:=by simp[bytesV]
section
variable {P P' : Nat → Prop} {wb : Nat} {w : World} {l : List UInt8}
theorem Buf.lt(h:Buf P wb w l):wb<w.heap.size:=by
 obtain⟨v,h0,_⟩:=h;exact World.block_lt_of_cell? _ _ h0
theorem Buf.lts(h:Buf P wb w l):∀k,P k→k<w.heap.size:=by
 obtain⟨v,_,_,_,h3,_⟩:=h;exact h3
theorem Buf.mono(h:Buf P' wb w l)(hp :∀k,P k→P' k):Buf P wb w l:=by
 obtain⟨v,h0,h1,h2,h3,h4,h5,h6⟩:=h;exact⟨v,h0,h1,fun a=>h2 (hp _ a),fun k hk=>h3 k (hp k hk),h4,fun g hg=>⟨(h5 g hg).1,fun a=>(h5 g hg).2 (hp g a)⟩,h6⟩
theorem Buf.alloc(h:Buf P wb w l)(o:Obj):Buf P wb (w.alloc o) l:=by
 have hlt:=h.lt;obtain⟨v,h0,h1,h2,h3,h4,h5,h6⟩:=h;have hb:=az w o;exact⟨v,(hb.cell (p:=⟨wb,0,none⟩) hlt).trans h0,(hb.frozen (p:=⟨wb,0,none⟩) hlt).trans h1,h2,fun k hk=>aH (h3 k hk) hb.size,h4.alloc o,h5,h6⟩
theorem Buf.box(h:Buf P wb w l)(o:Obj):Buf (fun k=>P k∨k=w.heap.size) wb (w.alloc o) l:=by
 have hlt:=h.lt;have ha:=h.alloc o;obtain⟨v,h0,h1,h2,h3,h4,h5,h6⟩:=h;obtain⟨v',a0,a1,a2,a3,a4,a5,a6⟩:=ha;have hv:v'=v:=by
  have hb:=(az w o).cell (p:=⟨wb,0,none⟩) hlt;rw[a0,h0]at hb;injection hb
 subst hv;refine⟨v',a0,a1,fun e=>e.elim a2 (fun e=>by omega),fun k hk=>hk.elim (a3 k) (fun e=>by subst e;simp),a4,fun g hg=>⟨(a5 g hg).1,fun e=>e.elim (a5 g hg).2 (fun e=>?_)⟩,a6⟩;have:=(h4.lt g hg).2;omega
theorem Buf.drew(h:Buf P wb w l):Buf P wb w.drew l:=h
end
theorem Ju:(Tryz.prog.info? 5).map (fun i=>(i.zero,i.size,i.bytes))=some (some (.int .u8 0),1,1):=by kernel_rfl
theorem PL{P:Nat→Prop}{wb:Nat}{w:World}{l news:List UInt8}{b o c:Nat}(h:Buf P wb w l)(hn :∀j u,(bytesV news)[j]?=some u→w.cell? ((⟨b,o,none⟩:Addr).add j)=some u)(hlen:l.length+news.length≤lid):
  Calls Tryz.prog 176 #[.pointer (some ⟨wb,0,none⟩),.slice (some ⟨b,o,none⟩) news.length c] w fun e w'=>e = .returned (.tuple #[])∧Buf P wb w' (l++news)∧Keep P w w':=by
 have hlt:=h.lt;obtain⟨v,h0,hf,hB,hP,hown,hne,hnil0⟩:=h;obtain⟨i0,hi,hz0,hz1,hz2⟩:=info_parts Ju;have pW:=hide hown;have Hn:=hide hn;obtain⟨A,c0,rfl⟩:=jD hown;have Na:=hide hne;have Jv:=hide hnil0;have HP:=hide hP;have PM:=hide hB;have iW:=hide hown.lt;clear hown hn hne hnil0 hP hB;go_enter Tryz.func176,Tryz.ntmps176
 go_wp2_with(at_builtin;refine MS _ rfl _ _ 44 rfl 5 i0 (.int .u8 0) 1 1 Tryz.underlying44 hi hz0 hz1 hz2 rfl (by decide) _ l.length (bytesV l) rfl pW.out ⟨b,o,none⟩ news.length c (bytesV news) rfl (by simp[bytesV]) Hn.out (by intro u hu;simp[bytesV]at hu;obtain⟨x,_,rfl⟩:=hu;rfl) (by unfold maxLen;simp only[lid]at hlen;omega) (by simp only[lid]at hlen;omega) ?_)
 intro v' w1 hown' hgrow hnil hown2;have k0:=hgrow.cell h0 (fun e=>(Na.out _ e.symm).1 rfl);have k1:=(World.frozen?_of_block (a:=⟨wb,0,none⟩) (hgrow.block wb hlt (fun e=>(Na.out _ e.symm).1 rfl))).trans hf;obtain⟨A',c',rfl⟩:=jD hown';have jS:=hide hgrow;have DJ:=hide hown';have DK:=hide hnil;have Jw:=hide hown2;clear hown' hgrow hnil hown2
 go_wp2
 go_end0
 have hne':(Value.slice A' (l.length+news.length) c').ownBlock≠some wb:=by
  intro e;by_cases h0':l.length+news.length=0
  ·have hl:l=[]:=List.eq_nil_of_length_eq_zero (by omega);have hn':news=[]:=List.eq_nil_of_length_eq_zero (by omega);have hv:=Jv.out.resolve_right (fun hn=>hn hl);have h1:=DK.out;subst hl;subst hn';simp only[Value.slice.injEq]at hv;rw[h1.mpr ⟨⟨hv.1,rfl,hv.2.2⟩,rfl⟩]at e;cases e
  ·have hc:=DJ.out.cells e 0;obtain⟨x,hx⟩:∃x,(bytesV l++bytesV news)[0]?=some (.int .u8 x):=by
    rw[←UA];cases hq:l++news with
    | nil=>rw[←aJ,hq]at h0';exact absurd rfl h0'
    | cons c r=>exact⟨_,rfl⟩
   have:=hc _ hx;rw[show((⟨wb,0,none⟩:Addr).add 0)=⟨wb,0,none⟩from rfl,k0]at this;cases this
 have hown2 :∀g,(Value.slice A' (l.length+news.length) c').ownBlock=some g→g≠wb∧¬P g:=by
  intro g hg;refine⟨fun e=>hne' (by rw[hg,e]),fun hp=>?_⟩;rcases Jw.out with e|e
  ·rw[hg]at e;exact(Na.out g e.symm).2 hp
  ·rw[hg]at e;injection e with e;have:=HP.out g hp;omega
 have hB1:Keep P w w1:=(Keep.refl P w).grown jS.out HP.out (fun k hk=>(Na.out k hk).2);refine⟨rfl,⟨_,World.cell?_setCell_same _ _ _ k0,?_,PM.out,fun k hk=>aH (HP.out k hk) (hB1.setCell (a:=⟨wb,0,none⟩) PM.out _).size,?_,hown2,?_⟩,hB1.setCell PM.out _⟩
 ·rw[World.frozen?_setCell];exact k1
 ·rw[UA,aJ];exact DJ.out.kept (Yf _ _ _) (.inr hne')
 ·by_cases h0':l++news=[]
  ·have hl:l=[]:=(List.append_eq_nil_iff.mp h0').1;have hn':news=[]:=(List.append_eq_nil_iff.mp h0').2;have hv:=Jv.out.resolve_right (fun hn=>hn hl);have h1:=DK.out;subst hl;subst hn';simp only[Value.slice.injEq]at hv;exact .inl (h1.mpr ⟨⟨hv.1,rfl,hv.2.2⟩,rfl⟩)
  ·exact .inr h0'
theorem UB(w:World)(e:TypeId)(x:UInt8)(c:Int)(hx:c=(x.toNat:Int)):
  ∀j u,(bytesV [x])[j]?=some u→(w.alloc (.cells #[.int .u8 c] e)).cell? ((⟨w.heap.size,0,none⟩:Addr).add j)=some u:=by
 subst hx;exact cell_one_new w (.int .u8 x.toNat) e
theorem AX(n:Int)(j:Nat)(hj:j<8):IntKind.u64.wrap n / 2 ^ (56-8*j) % 256=(((au n)[j]'hj).toNat:Int):=by
 have hw:IntKind.u64.wrap n=n % 18446744073709551616:=by simp[IntKind.wrap,IntKind.bits,IntKind.signed]
 rw[hw]
 match j,hj with
 | 0,_=>simp[au];omega
 | 1,_=>simp[au];omega
 | 2,_=>simp[au];omega
 | 3,_=>simp[au];omega
 | 4,_=>simp[au];omega
 | 5,_=>simp[au];omega
 | 6,_=>simp[au];omega
 | 7,_=>simp[au];omega
theorem su(n:Int)(j:Nat)(hj:j<8):(au n).take (j+1)=(au n).take j++[(au n)[j]'hj]:=by
 rw[List.take_succ_eq_append_getElem];rfl
theorem AY{P:Nat→Prop}{wb:Nat}{w:World}{l:List UInt8}{n:Int}(h:Buf P wb w l)(hn:aX n)(hlen:l.length+8≤lid):
  Calls Tryz.prog 178 #[.pointer (some ⟨wb,0,none⟩),.int .i64 n] w fun e w'=>e = .returned (.tuple #[])∧Buf P wb w' (l++au n)∧Keep P w w':=by
 have H:=hide h;unfold aX at hn;clear h;go_enter Tryz.func178,Tryz.ntmps178
 go_wp2_with fail
 go_loopw [4] (fun s wr=>∃j:Nat,j≤8∧s = .int .i64 (56-8*(j:Int))∧Hid (Buf P wb wr (l++(au n).take j))∧Hid (Keep P w wr)) (fun s _=>(intOf s+8).toNat)
 case atStart=>exact⟨0,by omega,rfl,hide (by simpa using H.out),hide (Keep.refl _ _)⟩
 case round =>
  obtain⟨j,hj,rfl,HB,HW⟩:=hrel;by_cases hlt:j<8
  ·go_wp2_with(go_at_call 176;refine(PL (news:=[(au n)[j]'hlt]) (HB.out.alloc _) (UB _ _ _ _ (AX n j hlt)) (by simp[jm];omega)).mono ?_;rintro e w1 ⟨rfl,hb,hB⟩;have HB1:=hide hb;have HW1:=hide (HW.out.trans (((Keep.refl _ _).alloc HB.out.lts _).trans hB));clear hb hB)
   go_roundw
   case rel=>exact⟨j+1,by omega,by go_num,hide (by rw[su n j hlt,←List.append_assoc];exact HB1.out),HW1⟩
   case measure=>simp[intOf];omega
  ·go_wp2_with fail
   go_end0
   have PN:j=8:=by omega
   subst PN;exact⟨rfl,by have:=HB.out;rwa [List.take_of_length_le (by rw[jm];omega)]at this,HW.out⟩
end
section
open Go.RowKit
theorem pX:(Tryz.prog.info? 5).map (fun i=>(i.zero,i.size,i.bytes))=some (some (.int .u8 0),1,1):=by kernel_rfl
abbrev gG:Nat:=1099511627776
def bW(B:Nat)(w:World)(v:Value)(l:List UInt8):Prop:=w.ownsRow B 5 1 v l.length (bytesV l)
section
variable {B : Nat} {w w' : World} {v : Value} {l : List UInt8}
theorem PO(l m:List UInt8):bytesV (l++m)=bytesV l++bytesV m:=by simp[bytesV]
theorem sD{base size n:Nat}{e:TypeId}{xs:List Value}(h:w.ownsRow base e size v n xs)(hb :∀g,v.ownBlock=some g→w'.heap[g]?=w.heap[g]?):w'.ownsRow base e size v n xs:=by
 refine⟨h.1,?_⟩;rcases h.2 with hn|⟨g,cap,cur,rfl,hbg,hg,hr⟩
 ·exact .inl hn
 ·exact .inr ⟨g,cap,cur,rfl,hbg,(hb g rfl).trans hg,hr⟩
theorem bW.below(h:bW B w v l)(hB:Below w.heap.size w w'):bW B w' v l:=sD h fun g hg=>hB.block g (World.ownsRow.lt h g hg).2
theorem bW.lit{x:UInt8}{c:Int}(w:World)(hc:c=(x.toNat:Int)):bW w.heap.size (w.alloc (.cells #[.int .u8 c] 5)) (.slice (some ⟨w.heap.size,0,none⟩) 1 1) [x]:=by
 subst hc;exact World.ownsRow_lit w #[.int .u8 x.toNat] 1 (aC _) (by decide) rfl
theorem bW.nil(B:Nat)(w:World):bW B w (.slice none 0 0) []:=World.ownsRow_nil _ _ _ _
theorem bW.cells(h:bW B w v l):∃A c,v = .slice A l.length c∧(A=none→l.length=0)∧∀ad,A=some ad→∀j u,(bytesV l)[j]?=some u→w.cell? (ad.add j)=some u:=by
 have h0:=h;rcases h.2 with⟨rfl,hn⟩|⟨g,cap,cur,rfl,hbg,hg,hr⟩
 ·exact⟨none,0,by rw[hn],fun _=>hn,fun ad e=>by cases e⟩
 ·refine⟨some ⟨g,0,none⟩,cap,rfl,fun e=>by(cases e),fun ad e=>?_⟩;injection e with e;subst e;exact World.ownsRow.cells h0 rfl
theorem bW.bytes{S:Nat→Prop}(h:bW B w v l)(hS :∀b,B≤b→S b):∃A c,v = .slice A l.length c∧BytesIn S w A l∧l.length≤c∧c≤9223372036854775807:=by
 have h0:=h;rcases h.2 with⟨rfl,hn⟩|⟨g,cap,cur,rfl,hbg,hg,hnc,hcm,hr⟩
 ·have:l=[]:=List.eq_nil_of_length_eq_zero hn;subst this;exact⟨none,0,rfl,⟨.inl rfl,by simp⟩,aC _,by omega⟩
 ·refine⟨_,cap,rfl,⟨.inr ⟨g,0,rfl,hS g hbg,fun j u hu=>?_⟩,by unfold maxLen at hcm;omega⟩,hnc,by unfold maxLen at hcm;omega⟩;have:=World.ownsRow.cells h0 (g:=g) rfl j u hu
  rwa [Addr.add_lit]at this
theorem oH{ops:Array Oper}{rest:List Oper}{o:Oper}{a:Act}{K0:Exit→Act→World→Prop}(hgd:o.guard=none)(s x:Operand)
  (ho:o.op = .call {callee:= .builtin .append,args:=#[s,x],argTypes:=#[44,44]})
  (B B2:Nat) (v v2:Value) (l l2:List UInt8) (hs:a.eval s=v) (hown:bW B w v l) (hx:a.eval x=v2) (h2:bW B2 w v2 l2) (hlen:l.length+l2.length≤gG) (hB:B≤w.heap.size)
  (h :∀v' w',bW B w' v' (l++l2)→Below B w w'→wpList Tryz.prog ops K0 rest (a.put o.dst v') w'):wpList Tryz.prog ops K0 (o::rest) a w:=by
 obtain⟨A,c,rfl,hA,hc⟩:=h2.cells;refine Aa hgd s x 44 ho B 5 Tryz.underlying44 pX rfl (by decide) v l.length (bytesV l) hs hown A l2.length c (bytesV l2) hx hA (by simp[bytesV]) hc (by intro u hu;simp[bytesV]at hu;obtain⟨y,_,rfl⟩:=hu;rfl) (by unfold maxLen;simp only[gG]at hlen;omega) (by simp only[gG]at hlen;omega) hB fun v' w' h3 hg _=>h v' w' ?_ ((Below.refl _ _).grown hg hB fun k hk=>(World.ownsRow.lt hown k hk).1);unfold bW;rw[PO,aJ];exact h3
theorem Yg{ops:Array Oper}{rest:List Oper}{o:Oper}{a:Act}{K0:Exit→Act→World→Prop}(hgd:o.guard=none)(s x:Operand)
  (ho:o.op = .call {callee:= .builtin .append,args:=#[s,x],argTypes:=#[44,9]})
  (B:Nat) (v:Value) (l:List UInt8) (t:ByteArray) (hs:a.eval s=v) (hown:bW B w v l) (hx:a.eval x = .string t) (hlen:l.length+t.size≤gG) (hB:B≤w.heap.size)
  (h :∀v' w',bW B w' v' (l++t.data.toList)→Below B w w'→wpList Tryz.prog ops K0 rest (a.put o.dst v') w'):wpList Tryz.prog ops K0 (o::rest) a w:=by
 obtain⟨i0,hi,hz0,hz1,hz2⟩:=info_parts pX;refine Lib.wpList_append_own_string w hgd s x 44 9 ho B 5 i0 Tryz.underlying44 Tryz.underlying9 hi hz0 hz1 hz2 v l.length (bytesV l) hs hown t hx (by unfold maxLen;simp only[gG]at hlen;omega) (by simp only[gG]at hlen;omega) hB fun v' w' h3 hg _=>h v' w' ?_ ((Below.refl _ _).grown hg hB fun k hk=>(World.ownsRow.lt hown k hk).1);unfold bW;have e:t.data.toList.length=t.size:=by simp
 rw[PO,aJ,e];exact h3
end
theorem sF(n:Int)(j:Nat)(hj:j<8):IntKind.u64.wrap n / 2 ^ (8*(7-j)) % 256=(((au n)[j]'hj).toNat:Int):=by
 have hw:IntKind.u64.wrap n=n % 18446744073709551616:=by simp[IntKind.wrap,IntKind.bits,IntKind.signed]
 rw[hw]
 match j,hj with
 | 0,_=>simp[au];omega
 | 1,_=>simp[au];omega
 | 2,_=>simp[au];omega
 | 3,_=>simp[au];omega
 | 4,_=>simp[au];omega
 | 5,_=>simp[au];omega
 | 6,_=>simp[au];omega
 | 7,_=>simp[au];omega
theorem iC(n:Int):(au n).length=8:=rfl
theorem sG(n:Int)(j:Nat)(hj:j<8):(au n).take (j+1)=(au n).take j++[(au n)[j]'hj]:=by
 rw[List.take_succ_eq_append_getElem];rfl
theorem AZ{w:World}{n:Int}(hn:ai n):Calls Tryz.prog 118 #[.int .i64 n] w fun e w'=>∃v,e = .returned v∧bW w.heap.size w' v (au n)∧Below w.heap.size w w':=by
 unfold ai at hn;go_enter Tryz.func118,Tryz.ntmps118
 go_wp2_with fail
 go_loopw [3,4] (fun v s wr=>∃j:Nat,j≤8∧s = .int .i64 (7-(j:Int))∧Hid (bW w.heap.size wr v ((au n).take j))∧Hid (Below w.heap.size w wr)) (fun _ s _=>(intOf s+1).toNat)
 case atStart=>exact⟨0,by omega,rfl,hide (by simpa using bW.nil _ _),hide (Below.refl _ _)⟩
 case round =>
  obtain⟨j,hj,rfl,HO,HW⟩:=hrel;by_cases hlt:j<8
  ·have hz:=HW.out.size
   go_wp2_with(at_builtin;refine oH rfl _ _ rfl w.heap.size wr.heap.size _ _ _ [(au n)[j]'hlt] rfl (HO.out.below (az _ _)) rfl (bW.lit wr (sF n j hlt)) (by simp[iC,gG];omega) (by simp;omega) ?_)
   intro v1 w1 h1 hB1;have H1:=hide h1;have HB1:=hide ((HW.out.trans ((az _ _).mono hz)).trans hB1);clear h1 hB1
   go_wp2
   go_roundw
   case rel=>exact⟨j+1,by omega,by go_num,hide (by rw[sG n j hlt];exact H1.out),HB1⟩
   case measure=>simp[intOf];omega
  ·go_wp2_with fail
   go_ret;have PN:j=8:=by omega
   subst PN;exact⟨_,rfl,by have:=HO.out;rwa [List.take_of_length_le (by simp[au])]at this,HW.out⟩
theorem vY{w:World}{s:ByteArray}(hs:s.size≤9223372036854775807)(hlen:(ax s).length≤gG):Calls Tryz.prog 117 #[.string s] w fun e w'=>∃v,e = .returned v∧bW w.heap.size w' v (ax s)∧Below w.heap.size w w':=by
 have hl:8+s.size≤gG:=by
  have e:s.data.toList.length=s.size:=by simp
  simp only[ax,aJ,iC,e]at hlen;exact hlen
 go_enter Tryz.func117,Tryz.ntmps117
 go_wp2_with(first
  | (go_at_call 118;refine(AZ (n:=s.size) (by unfold ai;omega)).mono ?_;rintro e w1 ⟨v1,rfl,h1,hB1⟩;have H1:=hide h1;have HB1:=hide hB1;clear h1 hB1)
  | (at_builtin;refine Yg rfl _ _ rfl w.heap.size _ _ s rfl H1.out rfl (by rw[iC];exact hl) HB1.out.size ?_))
 intro v2 w2 h2 hB2;have H2:=hide h2;have HB2:=hide (HB1.out.trans hB2);clear h2 hB2
 go_wp2
 go_ret;exact⟨_,rfl,H2.out,HB2.out⟩
theorem PQ{α:Type}(enc:α→List UInt8)(l:List α)(q:Nat)(hq:q<l.length):((l.take (q+1)).map enc).flatten=((l.take q).map enc).flatten++enc l[q]:=by
 rw[List.take_succ_eq_append_getElem hq];simp only[List.map_append,List.flatten_append,List.map_cons,List.map_nil,List.flatten_cons,List.flatten_nil,List.append_nil]
theorem UC{α:Type}(enc:α→List UInt8)(l:List α)(q:Nat)(hq:q<l.length):(((l.take q).map enc).flatten).length+(enc l[q]).length≤((l.map enc).flatten).length:=by
 have h:((l.take (q+1)).map enc).flatten.length≤((l.map enc).flatten).length:=by
  conv=>rhs;rw[←List.take_append_drop (q+1) l]
  rw[List.map_append,List.flatten_append,aJ];omega
 rw[PQ enc l q hq,aJ]at h;exact h
theorem UD{S:Nat→Prop}{w:World}{A:Option Addr}{c:Nat}{xs:List ByteArray}(hx:bJ S w A xs)(hlen:(bH xs).length≤gG):
  Calls Tryz.prog 119 #[.slice A xs.length c] w fun e w'=>∃v,e = .returned v∧bW w.heap.size w' v (bH xs)∧Below w.heap.size w w':=by
 have Hx:=hide hx;have hxl:xs.length≤9223372036854775807:=hx.2.2;have Hlen:=hide hlen;clear hx hlen;go_enter Tryz.func119,Tryz.ntmps119
 go_wp2_with(go_at_call 118;refine(AZ (n:=xs.length) (by unfold ai;omega)).mono ?_;rintro e w1 ⟨v1,rfl,h1,hB1⟩;have H1:=hide h1;have HB1:=hide hB1;clear h1 hB1)
 go_loopw [3,4] (fun v i wr=>∃q:Nat,q≤xs.length∧i = .int .i64 q∧Hid (bW w.heap.size wr v (au xs.length++((xs.take q).map ax).flatten))∧Hid (Below w.heap.size w wr)) (fun _ i _=>xs.length-(intOf i).toNat)
 case atStart=>exact⟨0,Nat.zero_le _,rfl,hide (by simpa using H1.out),HB1⟩
 case round =>
  obtain⟨q,hq,rfl,HO,HW⟩:=hrel;by_cases hlt:q<xs.length
  ·have hz:=HW.out.size;obtain⟨b,o,rfl,hc⟩:=(Hx.out.below HW.out).1.at_ (j:=q) (by simpa using hlt);simp only[List.getElem_map]at hc;have pY:=hide (Hx.out.2.1 xs[q] (List.getElem_mem hlt));have Ac:Hid ((au xs.length++((xs.take q).map ax).flatten).length+(ax xs[q]).length≤gG):=by
    have h1:=Hlen.out;have h2:=UC ax xs q hlt;simp only[bH,aJ]at h1;refine hide ?_;simp only[aJ];omega
   go_wp2_with(first
    | (go_at_call 117;refine(vY pY.out (by have:=Ac.out;omega)).mono ?_;rintro e w2 ⟨v2,rfl,h2,hB2⟩;have H2:=hide h2;have HB2:=hide hB2;clear h2 hB2)
    | (at_builtin;refine oH rfl _ _ rfl w.heap.size wr.heap.size _ _ _ (ax xs[q]) rfl (HO.out.below HB2.out) rfl H2.out Ac.out (aI hz HB2.out.size) ?_))
   intro v3 w3 h3 hB3;have H3:=hide h3;have HB3:=hide ((HW.out.trans (HB2.out.mono hz)).trans hB3);clear h3 hB3
   go_wp2
   go_roundw
   case rel=>exact⟨q+1,by omega,by go_num,hide (by rw[PQ ax xs q hlt];have:=H3.out;simpa[List.append_assoc]using this),HB3⟩
   case measure=>simp[intOf];omega
  ·go_wp2_with fail
   go_ret;have hq8:q=xs.length:=by omega
   subst hq8;exact⟨_,rfl,by have:=HO.out;rwa [List.take_length]at this,HW.out⟩
theorem UE{S:Nat→Prop}{w:World}{A:Option Addr}{c:Nat}{xs:List Int}(hx:IntsIn S w A xs)(hlen:(cO xs).length≤gG):
  Calls Tryz.prog 184 #[.slice A xs.length c] w fun e w'=>∃v,e = .returned v∧bW w.heap.size w' v (cO xs)∧Below w.heap.size w w':=by
 have Hx:=hide hx;have hxl:xs.length≤9223372036854775807:=hx.2.2;have Hlen:=hide hlen;clear hx hlen;go_enter Tryz.func184,Tryz.ntmps184
 go_wp2_with(go_at_call 118;refine(AZ (n:=xs.length) (by unfold ai;omega)).mono ?_;rintro e w1 ⟨v1,rfl,h1,hB1⟩;have H1:=hide h1;have HB1:=hide hB1;clear h1 hB1)
 go_loopw [3,4] (fun v i wr=>∃q:Nat,q≤xs.length∧i = .int .i64 q∧Hid (bW w.heap.size wr v (au xs.length++((xs.take q).map au).flatten))∧Hid (Below w.heap.size w wr)) (fun _ i _=>xs.length-(intOf i).toNat)
 case atStart=>exact⟨0,Nat.zero_le _,rfl,hide (by simpa using H1.out),HB1⟩
 case round =>
  obtain⟨q,hq,rfl,HO,HW⟩:=hrel;by_cases hlt:q<xs.length
  ·have hz:=HW.out.size;obtain⟨b,o,rfl,hc⟩:=(Hx.out.below HW.out).1.at_ (j:=q) (by simpa using hlt);simp only[List.getElem_map]at hc;have pY:=hide (Hx.out.2.1 xs[q] (List.getElem_mem hlt));have Ac:Hid ((au xs.length++((xs.take q).map au).flatten).length+(au xs[q]).length≤gG):=by
    have h1:=Hlen.out;have h2:=UC au xs q hlt;simp only[cO,aJ]at h1;refine hide ?_;simp only[aJ];omega
   go_wp2_with(first
    | (go_at_call 118;refine(AZ pY.out).mono ?_;rintro e w2 ⟨v2,rfl,h2,hB2⟩;have H2:=hide h2;have HB2:=hide hB2;clear h2 hB2)
    | (at_builtin;refine oH rfl _ _ rfl w.heap.size wr.heap.size _ _ _ (au xs[q]) rfl (HO.out.below HB2.out) rfl H2.out Ac.out (aI hz HB2.out.size) ?_))
   intro v3 w3 h3 hB3;have H3:=hide h3;have HB3:=hide ((HW.out.trans (HB2.out.mono hz)).trans hB3);clear h3 hB3
   go_wp2
   go_roundw
   case rel=>exact⟨q+1,by omega,by go_num,hide (by rw[PQ au xs q hlt];have:=H3.out;simpa[List.append_assoc]using this),HB3⟩
   case measure=>simp[intOf];omega
  ·go_wp2_with fail
   go_ret;have hq8:q=xs.length:=by omega
   subst hq8;exact⟨_,rfl,by have:=HO.out;rwa [List.take_length]at this,HW.out⟩
end
end Go.Proofs.YtjjaojnglnpgaaaGreatDoor
