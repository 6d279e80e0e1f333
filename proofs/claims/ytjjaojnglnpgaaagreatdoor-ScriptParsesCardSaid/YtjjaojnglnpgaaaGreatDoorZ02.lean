/- Part 3 of what scriptParses_card rests on. -/
import Derived.Test.YtjjaojnglnpgaaaGreatDoorRows
import Derived.ChangeSlices
import Derived.SliceStrings
import Derived.Lib.AppendStr
import Derived.Lib.Builder
import Derived.OwnWalk
import Derived.Test.YtjjaojnglnpgaaaGreatDoorProg
import Derived.Laws.AppendOwn
import Derived.Laws.OwnMore
import Derived.Laws.IdiomStrings
import Derived.Laws.IdiomCopy
import Derived.Test.YtjjaojnglnpgaaaGreatDoorZ01
import Derived.Test.YtjjaojnglnpgaaaGreatDoorZ00
set_option linter.unusedVariables false
set_option linter.unusedSimpArgs false
set_option maxHeartbeats 16000000
set_option maxRecDepth 1000000
namespace Go.Proofs.YtjjaojnglnpgaaaGreatDoor
section
open Go.RowKit
structure Hh where
 oA:Option Addr
 oc:Nat
 nA:Option Addr
 nc:Nat
structure Eh where
 pA:Option Addr
 pc:Nat
 oA:Option Addr
 oc:Nat
 nA:Option Addr
 nc:Nat
structure Ph where
 h:Hh
 e:Eh
structure HkIn(S:Nat→Prop)(w:World)(x:Hh)(h:Hk):Prop where
 at_:isInt64 h.at_
 old:StrsIn S w x.oA h.old
 new:StrsIn S w x.nA h.new
 oc:h.old.length≤x.oc∧x.oc≤9223372036854775807
 nc:h.new.length≤x.nc∧x.nc≤9223372036854775807
structure EdIn(S:Nat→Prop)(w:World)(x:Eh)(e:Ed):Prop where
 kind:e.kind<256
 path:IntsIn S w x.pA e.path
 at_:isInt64 e.at_
 far:isInt64 e.far
 frm:e.frm.size≤9223372036854775807
 to:e.to.size≤9223372036854775807
 old:FoIn S w x.oA e.old
 new:FoIn S w x.nA e.new
 pc:e.path.length≤x.pc∧x.pc≤9223372036854775807
 oc:e.old.len≤x.oc∧x.oc≤9223372036854775807
 nc:e.new.len≤x.nc∧x.nc≤9223372036854775807
structure PtIn(S:Nat→Prop)(w:World)(x:Ph)(p:Pt):Prop where
 kind:p.kind<256
 file:p.file.size≤9223372036854775807
 text:p.text.size≤9223372036854775807
 hunk:HkIn S w x.h p.hunk
 edit:EdIn S w x.e p.edit
section
variable {S S' : Nat → Prop} {w w' : World} {A : Option Addr}
theorem StrsIn.keep{l:List ByteArray}(h:StrsIn S w A l)(hk :∀b,S b→w'.heap[b]?=w.heap[b]?):StrsIn S w' A l:=⟨h.1.keep hk,h.2⟩
theorem StrsIn.mono{l:List ByteArray}(h:StrsIn S w A l)(hm :∀b,b<w.heap.size→S b→S' b):StrsIn S' w A l:=⟨h.1.mono hm,h.2⟩
theorem StrsIn.below{l:List ByteArray}(h:StrsIn S w A l)(hb:Below w.heap.size w w'):StrsIn S w' A l:=⟨h.1.below hb,h.2⟩
theorem IntsIn.keep{l:List Int}(h:IntsIn S w A l)(hk :∀b,S b→w'.heap[b]?=w.heap[b]?):IntsIn S w' A l:=⟨h.1.keep hk,h.2⟩
theorem IntsIn.mono{l:List Int}(h:IntsIn S w A l)(hm :∀b,b<w.heap.size→S b→S' b):IntsIn S' w A l:=⟨h.1.mono hm,h.2⟩
theorem IntsIn.below{l:List Int}(h:IntsIn S w A l)(hb:Below w.heap.size w w'):IntsIn S w' A l:=⟨h.1.below hb,h.2⟩
theorem BytesIn.keep{l:List UInt8}(h:BytesIn S w A l)(hk :∀b,S b→w'.heap[b]?=w.heap[b]?):BytesIn S w' A l:=⟨h.1.keep hk,h.2⟩
theorem BytesIn.mono{l:List UInt8}(h:BytesIn S w A l)(hm :∀b,b<w.heap.size→S b→S' b):BytesIn S' w A l:=⟨h.1.mono hm,h.2⟩
theorem BytesIn.below{l:List UInt8}(h:BytesIn S w A l)(hb:Below w.heap.size w w'):BytesIn S w' A l:=⟨h.1.below hb,h.2⟩
theorem HkIn.keep{x:Hh}{h:Hk}(a:HkIn S w x h)(hk :∀b,S b→w'.heap[b]?=w.heap[b]?):HkIn S w' x h:=⟨a.at_,a.old.keep hk,a.new.keep hk,a.oc,a.nc⟩
theorem HkIn.mono{x:Hh}{h:Hk}(a:HkIn S w x h)(hm :∀b,b<w.heap.size→S b→S' b):HkIn S' w x h:=⟨a.at_,a.old.mono hm,a.new.mono hm,a.oc,a.nc⟩
theorem HkIn.below{x:Hh}{h:Hk}(a:HkIn S w x h)(hb:Below w.heap.size w w'):HkIn S w' x h:=⟨a.at_,a.old.below hb,a.new.below hb,a.oc,a.nc⟩
theorem EdIn.keep{x:Eh}{e:Ed}(a:EdIn S w x e)(hk :∀b,S b→w'.heap[b]?=w.heap[b]?):EdIn S w' x e:=⟨a.kind,a.path.keep hk,a.at_,a.far,a.frm,a.to,a.old.keep hk,a.new.keep hk,a.pc,a.oc,a.nc⟩
theorem EdIn.mono{x:Eh}{e:Ed}(a:EdIn S w x e)(hm :∀b,b<w.heap.size→S b→S' b):EdIn S' w x e:=⟨a.kind,a.path.mono hm,a.at_,a.far,a.frm,a.to,a.old.mono hm,a.new.mono hm,a.pc,a.oc,a.nc⟩
theorem EdIn.below{x:Eh}{e:Ed}(a:EdIn S w x e)(hb:Below w.heap.size w w'):EdIn S w' x e:=⟨a.kind,a.path.below hb,a.at_,a.far,a.frm,a.to,a.old.below hb,a.new.below hb,a.pc,a.oc,a.nc⟩
theorem PtIn.keep{x:Ph}{p:Pt}(a:PtIn S w x p)(hk :∀b,S b→w'.heap[b]?=w.heap[b]?):PtIn S w' x p:=⟨a.kind,a.file,a.text,a.hunk.keep hk,a.edit.keep hk⟩
theorem PtIn.mono{x:Ph}{p:Pt}(a:PtIn S w x p)(hm :∀b,b<w.heap.size→S b→S' b):PtIn S' w x p:=⟨a.kind,a.file,a.text,a.hunk.mono hm,a.edit.mono hm⟩
theorem PtIn.below{x:Ph}{p:Pt}(a:PtIn S w x p)(hb:Below w.heap.size w w'):PtIn S w' x p:=⟨a.kind,a.file,a.text,a.hunk.below hb,a.edit.below hb⟩
end
theorem Hk.eq_iff{a b:Hk}:a=b↔a.at_=b.at_∧a.old=b.old∧a.new=b.new:=by cases a;cases b;simp
theorem Ed.eq_iff{a b:Ed}:a=b↔a.kind=b.kind∧a.path=b.path∧a.at_=b.at_∧a.far=b.far∧a.frm=b.frm∧a.to=b.to∧a.old=b.old∧a.new=b.new:=by cases a;cases b;simp
theorem Pt.eq_iff{a b:Pt}:a=b↔a.kind=b.kind∧a.file=b.file∧a.text=b.text∧a.hunk=b.hunk∧a.edit=b.edit:=by cases a;cases b;simp
theorem Pt.eq_all{a b:Pt}:a=b↔a.kind=b.kind∧a.file=b.file∧a.text=b.text∧a.hunk.at_=b.hunk.at_∧a.hunk.old=b.hunk.old∧a.hunk.new=b.hunk.new∧
  a.edit.kind=b.edit.kind∧a.edit.path=b.edit.path∧a.edit.at_=b.edit.at_∧a.edit.far=b.edit.far∧a.edit.frm=b.edit.frm∧a.edit.to=b.edit.to∧a.edit.old=b.edit.old∧a.edit.new=b.edit.new:=by
 rw[Pt.eq_iff,Hk.eq_iff,Ed.eq_iff];grind
end
section
open Go.RowKit Go.ChangeShapes Go.WideShapes
section
variable {P : Program} {H : Type} {enc : TypeId × Value → H} {w : World} {spare : Nat → Bool} {held : Bool} {t e : TypeId} {fuel : Nat} {cs : List Value} {x : DataW H × List MemPlace}
end
end
section
open Go.RowKit
section
variable {P : Program} {w : World} {ops : Array Oper} {rest : List Oper} {o : Oper} {a : Act} {K0 : Exit → Act → World → Prop}
def Went(w w':World)(v v':Value)(n m:Nat):Prop:=(∃A c,v = .slice A n c∧v' = .slice A (n+m) c)∨v'.ownBlock=some w.heap.size∧∀k,k<w.heap.size→w'.heap[k]?=w.heap[k]?
theorem jY(base:Nat)(t ty e:TypeId)(i:TypeInfo)(z:Value)(size bytes:Nat)(ht:P.underlying t=some (.slice e))(hi:P.info? e=some i)(hz:i.zero=some z)
  (hsize:i.size=size) (hby:i.bytes=bytes) (v:Value) (n:Nat) (xs:List Value) (hown:w.ownsRow base e size v n xs)
  (a:Addr) (m c:Nat) (news:List Value) (hl:news.length=m*size) (hnews :∀j u,news[j]?=some u→w.cell? (a.add j)=some u) (h1 :∀u∈news,u.oneCell'=true)
  (h63:n+m≤maxLen) (hbytes:(n+m)*bytes≤140737488355328) (v':Value) (w':World) (hrun:(Builtin.append_ #[t,t] ty #[v,.slice (some a) m c]).run P w = .ok v' w'):
  Went w w' v v' n m:=by
 subst hsize;subst hby;have hm:n+m≤9223372036854775807:=by simp only[maxLen]at h63;omega
 rcases hown.2 with⟨rfl,rfl⟩|⟨g,cap,cur,rfl,_,hg,hnc,hcm,hcs,htake⟩
 ·by_cases h0:m=0
  ·subst h0;have hn:news=[]:=List.eq_nil_of_length_eq_zero (by simpa using hl);have hr:(Builtin.append_ #[t,t] ty #[.slice none 0 0,.slice (some a) 0 c]).run P w = .ok (.slice none 0 0) w:=by
    simp[Builtin.append_,run_underlying ht,sizeOf,typeInfo,hi,Builtin.lenOf,Builtin.firstCells,loadCells,loadCellsFrom]
   rw[hr]at hrun;injection hrun with e1 e2;subst e1;exact .inl ⟨none,0,rfl,rfl⟩
  ·have hr:=run_append_nil (P:=P) w t ty e i z ht hi hz a m c news hl hnews (by omega) (by omega) (by have:=hbytes;simp only[Nat.zero_add]at this;omega);rw[hr]at hrun;injection hrun with e1 e2;subst e1;exact .inr ⟨rfl,fun k hk=>by rw[←e2];exact heap_alloc_old w.drew _ hk⟩
 ·by_cases hroom:n+m≤cap
  ·have hfit:n*i.size+news.length≤cur.size:=by rw[hl,hcs,←Nat.add_mul];exact Nat.mul_le_mul_right _ hroom
   have hr:=run_append_room (P:=P) w t ty e i ht hi g n cap cur hg a m c news hl hnews h1 hroom hfit;rw[hr]at hrun;injection hrun with e1 e2;subst e1;exact .inl ⟨_,_,rfl,rfl⟩
  ·have hr:=run_append_grow (P:=P) w t ty e i z ht hi hz ⟨g,0,none⟩ n cap xs hown.1 (hown.cells (g:=g) rfl) a m c news hl hnews (by omega) (by omega) (growslice_fits (by omega) hbytes);rw[hr]at hrun;injection hrun with e1 e2;subst e1;exact .inr ⟨rfl,fun k hk=>by rw[←e2];exact heap_alloc_old w.drew _ hk⟩
theorem fE(hgd:o.guard=none)(s x:Operand)(t:TypeId)
  (ho:o.op = .call {callee:= .builtin .append,args:=#[s,x],argTypes:=#[t,t]})
  (base:Nat) (e:TypeId) {z:Value} {size bytes:Nat} (ht:P.underlying t=some (.slice e)) (hI:(P.info? e).map (fun i=>(i.zero,i.size,i.bytes))=some (some z,size,bytes)) (hzs:z.cells.size=size) (hsz:0<size)
  (v:Value) (n:Nat) (xs:List Value) (hs:a.eval s=v) (hown:w.ownsRow base e size v n xs)
  (B:Option Addr) (m c:Nat) (news:List Value) (hx:a.eval x = .slice B m c) (hB:B=none→m=0) (hl:news.length=m*size) (hnews :∀ad,B=some ad→∀j u,news[j]?=some u→w.cell? (ad.add j)=some u) (h1 :∀u∈news,u.oneCell'=true)
  (h63:n+m≤maxLen) (hbytes:(n+m)*bytes≤140737488355328) (hbase:base≤w.heap.size)
  (h :∀v' w',w'.ownsRow base e size v' (n+m) (xs++news)→w.grownBy w' v.ownBlock→Went w w' v v' n m→wpList P ops K0 rest (a.put o.dst v') w'):wpList P ops K0 (o::rest) a w:=by
 obtain⟨i,hi,hz,hsize,hby⟩:=info_parts hI;refine wpList_plain hgd fun K hK'=>?_;have key :∃v' w',(Builtin.append_ #[t,t] o.type #[v,.slice B m c]).run P w = .ok v' w'∧w'.ownsRow base e size v' (n+m) (xs++news)∧w.grownBy w' v.ownBlock∧Went w w' v v' n m:=by
  rcases B with _|ad
  ·have hm:=hB rfl;subst hm;have hu:news=[]:=List.length_eq_zero_iff.1 (by simpa using hl);subst hu;obtain⟨A,c',rfl⟩:=bM hown;exact⟨_,w,J8 ht hi hown _,by simpa using hown,World.grownBy.refl _ _,.inl ⟨A,c',rfl,rfl⟩⟩
  ·obtain⟨v',w',hr,h2,h3,h4⟩:=run_append_own (P:=P) w base t o.type e i z size bytes ht hi hz hsize hby hzs hsz v n xs hown ad m c news hl (hnews ad rfl) h1 h63 hbytes hbase;exact⟨v',w',hr,h2,h3,jY base t o.type e i z size bytes ht hi hz hsize hby v n xs hown ad m c news hl (hnews ad rfl) h1 h63 hbytes v' w' hr⟩
 obtain⟨v',w',hr,h2,h3,h5⟩:=key;unfold Oper.wp;simp[execOp,ho,resolve,invoke,builtin,hs,hx,hr,Result.andThen];exact hK' _ _ (h v' w' h2 h3 h5)
end
end
section
open Go.RowKit
section
variable {S S' : Nat → Prop} {w w' : World} {A : Option Addr} {c : Nat}
end
end
section
open Go.RowKit
section
variable {S S' : Nat → Prop} {w w' : World} {base g cap n : Nat} {e : TypeId} {size : Nat} {xs : List Value}
end
end
section
open Go.RowKit
abbrev lid:Nat:=1099511627776
section
variable {P P' : Nat → Prop} {wb : Nat} {w : World} {l : List UInt8}
end
end
section
open Go.RowKit
theorem oK :∀c:Fin 256,(97≤(c.val ||| 32)∧(c.val ||| 32)≤122)↔((97≤c.val∧c.val≤122)∨(65≤c.val∧c.val≤90)):=by decide +kernel
theorem jZ(c:UInt8):bits .or .u8 (c.toNat:Int) 32=((c.toNat ||| 32:Nat):Int):=by
 have h :∀c:Fin 256,bits .or .u8 (c.val:Int) 32=((c.val ||| 32:Nat):Int):=by decide +kernel
 exact h ⟨c.toNat,c.toNat_lt⟩
theorem PG(c:UInt8):(97≤(c.toNat ||| 32)∧(c.toNat ||| 32)≤122)↔((97≤c.toNat∧c.toNat≤122)∨(65≤c.toNat∧c.toNat≤90)):=oK ⟨c.toNat,c.toNat_lt⟩
theorem PH(c:UInt8)(w:World):Calls Tryz.prog 255 #[.int .u8 c.toNat] w fun e w'=>RetB (Letter c) e∧w=w':=by
 have h1:=jZ c;have h2:=hide (PG c);generalize c.toNat ||| 32=m at h1 h2;go_enter Tryz.func255,Tryz.ntmps255
 go_wp2
 all_goals go_ret
 all_goals exact⟨RetB.mk (by have:=h2.out;unfold Letter;simp;try omega),rfl⟩
theorem lH(c:UInt8)(w:World):Calls Tryz.prog 258 #[.int .u8 c.toNat] w fun e w'=>RetB (Letter c∨Digit c) e∧w=w':=by
 go_enter Tryz.func258,Tryz.ntmps258
 go_wp2_with(go_at_call 255;refine(PH c _).mono ?_;rintro e w' ⟨⟨b,rfl,hb⟩,rfl⟩;have Hb:=hide hb;clear hb)
 all_goals(go_ret;go_tidy;exact⟨RetB.mk (by rw[←Hb.out];unfold Digit;simp[*];try omega),rfl⟩)
theorem U5(c:UInt8)(w:World):Calls Tryz.prog 222 #[.int .u8 c.toNat] w fun e w'=>RetB (FileChar c) e∧w=w':=by
 have h1:=jZ c;have h2:=hide (PG c);generalize c.toNat ||| 32=m at h1 h2;go_enter Tryz.func222,Tryz.ntmps222
 go_wp2
 all_goals go_ret
 all_goals exact⟨RetB.mk (by have:=h2.out;unfold FileChar Digit;simp;try omega),rfl⟩
theorem G7{s:ByteArray}{P:UInt8→Prop}{k:Nat}(h :∀j,j<k→(h':j<s.size)→P (s[j]))(hk:k<s.size)(hp:P s[k]):∀j,j<k+1→(h':j<s.size)→P (s[j]):=by
 intro j hj h';rcases Nat.lt_or_ge j k with h1|h1
 ·exact h j h1 h'
 ·obtain rfl:j=k:=by omega
  exact hp
theorem G8{s:ByteArray}{P:UInt8→Prop}{k:Nat}(h :∀j,j<k→(h':j<s.size)→P (s[j]))(hk :¬k<s.size):∀c∈s.data.toList,P c :=
 uV fun j h'=>h j (by omega) h'
theorem PI{s:ByteArray}(h :∀c∈s.data.toList,FileChar c):FileName s↔1≤s.size∧s.size≤24:=by unfold FileName;exact⟨fun h=>⟨h.1,h.2.1⟩,fun h'=>⟨h'.1,h'.2,h⟩⟩
theorem G9(s:ByteArray)(w:World)(hs:s.size≤9223372036854775807):Calls Tryz.prog 174 #[.string s] w fun e w'=>RetB (FileName s) e∧w=w':=by
 go_enter Tryz.func174,Tryz.ntmps174
 go_wp2_with fail
 go_loop [7,4] (fun i _=>∃k:Nat,k≤s.size∧i = .int .i64 k∧Hid (∀j,(h:j<k)→(h':j<s.size)→FileChar (s[j]))) (fun i _=>s.size-(intOf i).toNat)
 case atStart=>exact⟨0,Nat.zero_le _,rfl,hide (fun j h=>absurd h (by omega))⟩
 case round =>
  obtain⟨k,hk,rfl,hall⟩:=hrel;by_cases hlt:k<s.size
  ·go_wp2_with(go_at_call 222;refine(U5 s[k] _).mono ?_;rintro e w' ⟨⟨_|_,rfl,hb⟩,rfl⟩<;>(have Hb:=hide hb;clear hb))
   ·go_ret;exact⟨RetB.no fun h=>(by simpa using Hb.out :¬FileChar s[k]) (h.2.2 _ (GX s k hlt)),rfl⟩
   ·go_round
    case rel=>exact⟨k+1,by omega,by go_num,hide (G7 hall.out hlt (by simpa using Hb.out))⟩
    case measure=>simp[intOf];omega
  ·have H:=hide (G8 hall.out hlt);clear hall
   go_wp2_with fail
   all_goals(go_ret;go_tidy;exact⟨RetB.mk (by rw[PI H.out];have hz:=fH s;clear H;grind),rfl⟩)
end
section
open Go.RowKit
abbrev Side(rb:Nat)(w w':World):Prop:=Keep (fun k=>k<w.heap.size∧k≠rb) w w'
section
variable {rb : Nat} {w w' w'' : World}
theorem Side.refl(rb:Nat)(w:World):Side rb w w:=Keep.refl _ _
theorem Side.trans(h:Side rb w w')(h':Side rb w' w''):Side rb w w'':=Keep.trans h (Keep.mono h' fun k hk=>⟨aH hk.1 h.size,hk.2⟩)
theorem Side.alloc(h:Side rb w w')(o:Obj):Side rb w (w'.alloc o):=Keep.alloc h (fun k hk=>hk.1) o
theorem Side.drew(h:Side rb w w'):Side rb w w'.drew:=Keep.drew h
theorem Side.set(h:Side rb w w')(o:Nat)(u:Value):Side rb w (w'.setCell ⟨rb,o,none⟩ u):=Keep.setCell h (fun hk=>hk.2 rfl) u
theorem Side.setNew(h:Side rb w w'){a:Addr}(ha:w.heap.size≤a.block)(u:Value):Side rb w (w'.setCell a u):=Keep.setCell h (fun hk=>absurd hk.1 (by omega)) u
theorem Side.of_below(h:Below w.heap.size w w'):Side rb w w':=Keep.of_below h fun _ hk=>hk.1
theorem Side.box(h:Side rb w w'){N:Nat}(hN:N<w.heap.size)(hne:N≠rb):(∀o,w'.cell? ⟨N,o,none⟩=w.cell? ⟨N,o,none⟩)∧(∀o,w'.frozen? ⟨N,o,none⟩=w.frozen? ⟨N,o,none⟩)∧N<w'.heap.size :=
 ⟨(Keep.box h (N:=N) ⟨hN,hne⟩).1,(Keep.box h (N:=N) ⟨hN,hne⟩).2,aH hN h.size⟩
abbrev Off(rb:Nat):Nat→Prop:=fun b=>b≠rb
variable {A : Option Addr}
theorem Rd.side{xs:List Value}(h:Rd (Off rb) w A xs)(hs:Side rb w w'):Rd (Off rb) w' A xs :=
 ((h.mono (S':=fun k=>k<w.heap.size∧k≠rb) fun _ hlt hS=>⟨hlt,hS⟩).keep hs.block).mono fun _ _ hS=>hS.2
theorem BytesIn.side{l:List UInt8}(h:BytesIn (Off rb) w A l)(hs:Side rb w w'):BytesIn (Off rb) w' A l:=⟨h.1.side hs,h.2⟩
end
def Rdr(D:Nat→Prop)(rb:Nat)(w:World)(l:List UInt8)(d:Nat):Prop :=
 ∃A c,w.cell? ⟨rb,0,none⟩=some (.slice A l.length c)∧w.cell? ⟨rb,1,none⟩=some (.int .i64 d)∧w.frozen? ⟨rb,0,none⟩=false∧w.frozen? ⟨rb,1,none⟩=false∧
  BytesIn D w A l∧l.length≤c∧c≤9223372036854775807∧∀b,D b→b≠rb
abbrev oops:Ending:= .panicked [{v:= .iface 24 (.int .i64 4),recovered:=false}]
section
variable {D D' : Nat → Prop} {rb d : Nat} {w w' : World} {l : List UInt8}
theorem Rdr.lt(h:Rdr D rb w l d):rb<w.heap.size:=by
 obtain⟨A,c,h0,_⟩:=h;exact World.block_lt_of_cell? _ _ h0
theorem Rdr.keep(h:Rdr D rb w l d)(hk :∀b,D b∨b=rb→w'.heap[b]?=w.heap[b]?):Rdr D rb w' l d:=by
 obtain⟨A,c,h0,h1,h2,h3,h4,h5,h6,h7⟩:=h;have hb:=hk rb (.inr rfl);exact⟨A,c,(World.cell?_of_block hb).trans h0,(World.cell?_of_block hb).trans h1,(World.frozen?_of_block hb).trans h2,(World.frozen?_of_block hb).trans h3,h4.keep fun b hb=>hk b (.inl hb),h5,h6,h7⟩
theorem Rdr.mono(h:Rdr D rb w l d)(hm :∀b,b<w.heap.size→D b→D' b)(h' :∀b,D' b→b≠rb):Rdr D' rb w l d:=by
 obtain⟨A,c,h0,h1,h2,h3,h4,h5,h6,h7⟩:=h;exact⟨A,c,h0,h1,h2,h3,h4.mono hm,h5,h6,h'⟩
theorem Rdr.off(h:Rdr D rb w l d):∀b,D b→b≠rb:=by
 obtain⟨A,c,h0,h1,h2,h3,h4,h5,h6,h7⟩:=h;exact h7
theorem Rdr.slice(h:Rdr D rb w l d):∃A c,w.cell? ⟨rb,0,none⟩=some (.slice A l.length c):=by
 obtain⟨A,c,h0,_⟩:=h;exact⟨A,c,h0⟩
theorem Rdr.deep(h:Rdr D rb w l d):w.cell? ⟨rb,1,none⟩=some (.int .i64 d)∧w.frozen? ⟨rb,1,none⟩=false:=by
 obtain⟨A,c,h0,h1,h2,h3,_⟩:=h;exact⟨h1,h3⟩
theorem Rdr.old(h:Rdr D rb w l d):Rdr (fun b=>D b∧b<w.heap.size) rb w l d:=h.mono (fun _ h1 h2=>⟨h2,h1⟩) (fun b hb=>h.off b hb.1)
theorem Rdr.back{P:Nat→Prop}(h:Rdr (fun b=>D b∧P b) rb w l d)(hD :∀b,D b→b≠rb):Rdr D rb w l d:=h.mono (fun _ _ h2=>h2.1) hD
theorem Rdr.alloc(h:Rdr D rb w l d)(o:Obj):Rdr D rb (w.alloc o) l d:=by
 have h':=h.old;have hlt:=h.lt;have hoff:=h.off;exact(h'.keep (w':=w.alloc o) fun b hb=>Below.heap_alloc w o b (hb.elim (fun h=>h.2) (fun e=>e▸hlt))).back hoff
theorem Rdr.drew(h:Rdr D rb w l d):Rdr D rb w.drew l d:=h
end
theorem Rd.take{S:Nat→Prop}{w:World}{A:Option Addr}{xs:List Value}(h:Rd S w A xs)(m:Nat):Rd S w A (xs.take m):=by
 rcases h with rfl|⟨b,o,rfl,hS,hc⟩
 ·exact .inl (by simp)
 ·refine .inr ⟨b,o,rfl,hS,fun j u hu=>hc j u ?_⟩;rw[List.getElem?_take]at hu;split at hu
  ·exact hu
  ·cases hu
theorem Rd.drop{S:Nat→Prop}{w:World}{A:Option Addr}{xs:List Value}(h:Rd S w A xs)(m:Nat):Rd S w (A.map fun x=>x.add m) (xs.drop m):=by
 rcases h with rfl|⟨b,o,rfl,hS,hc⟩
 ·exact .inl (by simp)
 ·refine .inr ⟨b,o+m,by simp[Addr.add_lit],hS,fun j u hu=>?_⟩;rw[List.getElem?_drop]at hu;have:=hc _ u hu
  rwa [←Nat.add_assoc]at this
theorem BytesIn.take{S:Nat→Prop}{w:World}{A:Option Addr}{l:List UInt8}(h:BytesIn S w A l)(m:Nat):BytesIn S w A (l.take m):=
 ⟨by have:=h.1.take m;rwa [show(bytesV l).take m=bytesV (l.take m)by simp[bytesV]]at this,by have:=h.2;simp;omega⟩
theorem BytesIn.drop{S:Nat→Prop}{w:World}{A:Option Addr}{l:List UInt8}(h:BytesIn S w A l)(m:Nat):BytesIn S w (A.map fun x=>x.add m) (l.drop m):=
 ⟨by have:=h.1.drop m;rwa [show(bytesV l).drop m=bytesV (l.drop m)by simp[bytesV]]at this,by have:=h.2;simp;omega⟩
theorem ku{D:Nat→Prop}{rb d n c:Nat}{w:World}{v:Value}{A:Option Addr}{l:List UInt8}(h0:w.cell? ⟨rb,0,none⟩=some v)(h1:w.cell? ⟨rb,1,none⟩=some (.int .i64 d))(h2:w.frozen? ⟨rb,0,none⟩=false)(h3:w.frozen? ⟨rb,1,none⟩=false)
  (hb:BytesIn D w A l) (hn:l.length=n) (h5:n≤c) (h6:c≤9223372036854775807) (h7 :∀b,D b→b≠rb):Rdr D rb (w.setCell ⟨rb,0,none⟩ (.slice A n c)) l d:=by
 subst hn;refine⟨A,c,World.cell?_setCell_same _ _ _ h0,?_,by rw[World.frozen?_setCell];exact h2,by rw[World.frozen?_setCell];exact h3,hb.keep (fun b hb=>Below.heap_setCell w _ _ b (h7 b hb)),h5,h6,h7⟩;rw[World.cell?_setCell_other]
 ·exact h1
 ·simp
theorem uY{b:Bool}(hb:b=true)(w:World):Calls Tryz.prog 253 #[.bool b] w fun e w'=>e = .returned (.tuple #[])∧w=w':=by
 subst hb;go_enter Tryz.func253,Tryz.ntmps253
 go_wp2_with fail
 all_goals go_end0
 all_goals exact⟨rfl,rfl⟩
theorem uZ{b:Bool}(hb:b=false)(w:World):Calls Tryz.prog 253 #[.bool b] w fun e w'=>e=oops∧w=w':=by
 subst hb;go_enter Tryz.func253,Tryz.ntmps253
 go_wp2_with fail
 exact⟨rfl,rfl,rfl⟩
theorem Kq{D:Nat→Prop}{rb d:Nat}{w:World}{l:List UInt8}{n:Int}(h:Rdr D rb w l d)(hn:is63 n):
  Calls Tryz.prog 248 #[.pointer (some ⟨rb,0,none⟩),.int .i64 n] w fun e w' =>
   (∃A c,0≤n∧n≤l.length∧e = .returned (.slice A n.toNat c)∧BytesIn (Off rb) w' A (l.take n.toNat)∧Rdr D rb w' (l.drop n.toNat) d∧Side rb w w')∨
   (¬(0≤n∧n≤l.length)∧e=oops∧Side rb w w'):=by
 obtain⟨A,c,h0,h1,h2,h3,h4,h5,h6,h7⟩:=h;have Hb:=hide h4;have H7:=hide h7;have H1:=hide h1;have H3:=hide h3;clear h4 h1 h3 h7;unfold is63 at hn;by_cases hok:0≤n∧n≤l.length
 ·obtain⟨ha,hb⟩:=hok;obtain⟨m,rfl⟩:=Int.eq_ofNat_of_zero_le ha;clear ha hn;have hm:m≤l.length:=by omega
  clear hb;go_enter Tryz.func248,Tryz.ntmps248
  go_wp2_with(go_at_call 253;refine(uY (by first|rfl|(simp;omega)) _).mono ?_;rintro e w1 ⟨rfl,rfl⟩)
  all_goals go_ret
  ·subst h;exact⟨_,⟨_,rfl⟩,((Hb.out.take _).mono fun b _ hb=>H7.out b hb).side ((Side.refl rb w).set 0 _),ku h0 H1.out h2 H3.out (by rw[List.drop_eq_nil_of_le (by omega)];exact⟨.inl rfl,by simp⟩) (by simp) (by omega) (by omega) H7.out,(Side.refl rb w).set 0 _⟩
  ·exact⟨_,⟨_,rfl⟩,((Hb.out.take _).mono fun b _ hb=>H7.out b hb).side ((Side.refl rb w).set 0 _),ku h0 H1.out h2 H3.out (Hb.out.drop m) (by simp) (by omega) (by omega) H7.out,(Side.refl rb w).set 0 _⟩
 ·go_enter Tryz.func248,Tryz.ntmps248
  go_wp2_with(go_at_call 253;refine(uZ (by first|rfl|(simp;omega)) _).mono ?_;rintro e w1 ⟨rfl,rfl⟩)
  all_goals exact⟨rfl,.inr ⟨hok,rfl,Side.refl _ _⟩⟩
def beNat(l:List UInt8):Nat:=l.foldl (fun a c=>a*256+c.toNat) 0
theorem U6(l:List UInt8)(c:UInt8):beNat (l++[c])=beNat l*256+c.toNat:=by simp[beNat,List.foldl_append]
theorem PK(l:List UInt8)(q:Nat)(hq:q<l.length):beNat (l.take (q+1))=beNat (l.take q)*256+l[q].toNat:=by
 rw[List.take_succ_eq_append_getElem hq,U6]
theorem oM :∀(l:List UInt8) (a n:Nat),a<256 ^ n→l.foldl (fun a c=>a*256+c.toNat) a<256 ^ (n+l.length):=by
 intro l
 induction l with
 | nil=>intro a n h;exact h
 | cons c l ih =>
  intro a n h;have hc:=c.toNat_lt;have:=ih (a*256+c.toNat) (n+1) (by rw[Nat.pow_succ];omega);simp only[List.foldl_cons,List.length_cons]
  rwa [show n+(l.length+1)=n+1+l.length by omega]
theorem Dn(l:List UInt8):beNat l<256 ^ l.length:=by
 have:=oM l 0 0 (by simp)
 simpa[beNat]using this
theorem eH{n:Nat}{c:UInt8}(h:n % 256=c.toNat):UInt8.ofNat n=c:=by
 apply UInt8.toNat_inj.mp;rw[GY,h]
theorem Kr{l:List UInt8}(h:l.length=8){x:Int}(hx:x % 18446744073709551616=(beNat l:Int)):num8 x=l:=by
 match l,h with
 | [a,b,c,d,e,f,g,i],_ =>
  have hn:(x % 18446744073709551616).toNat=beNat [a,b,c,d,e,f,g,i]:=by omega
  have h0:=a.toNat_lt;have h1:=b.toNat_lt;have h2:=c.toNat_lt;have h3:=d.toNat_lt;have h4:=e.toNat_lt;have h5:=f.toNat_lt;have h6:=g.toNat_lt;have h7:=i.toNat_lt;simp only[num8,hn];simp only[beNat,List.foldl_cons,List.foldl_nil];rw[eH (c:=a) (by omega),eH (c:=b) (by omega),eH (c:=c) (by omega),eH (c:=d) (by omega),eH (c:=e) (by omega),eH (c:=f) (by omega),eH (c:=g) (by omega),eH (c:=i) (by omega)]
theorem kz(X c:Nat)(hX:X<72057594037927936)(hc:c<256):bits .or .u64 (IntKind.u64.wrap ((X:Int)*256)) (IntKind.u64.wrap (c:Int))=((X*256+c:Nat):Int):=by
 have h1:IntKind.u64.wrap ((X:Int)*256)=((X*256:Nat):Int):=by simp[IntKind.wrap,IntKind.bits,IntKind.signed];omega
 have h2:IntKind.u64.wrap (c:Int)=((c:Nat):Int):=by simp[IntKind.wrap,IntKind.bits,IntKind.signed];omega
 have h3:X*256 ||| c=X*256+c:=by
  have:=Nat.shiftLeft_add_eq_or_of_lt (i:=8) (b:=c) (by omega) X;rw[Nat.shiftLeft_eq,show(2:Nat) ^ 8=256 from rfl]at this;exact this.symm
 rw[h1,h2];unfold bits;rw[←h3];have hlt:X*256 ||| c<18446744073709551616:=by omega
 simp only[IntKind.wrap,IntKind.bits,IntKind.signed];simp[BitVec.toNat_or,BitVec.ofInt_natCast,-Int.natCast_mul];have hb:(BitVec.ofNat 64 (X*256)||| BitVec.ofNat 64 c:BitVec 64).toNat=(X*256 ||| c):=by
  rw[BitVec.toNat_or,BitVec.toNat_ofNat,BitVec.toNat_ofNat,Nat.mod_eq_of_lt (by omega),Nat.mod_eq_of_lt (by omega)]
 change(((BitVec.ofNat 64 (X*256)||| BitVec.ofNat 64 c:BitVec 64).toNat:Int)) % 18446744073709551616=_;rw[hb];omega
theorem zi{D:Nat→Prop}{rb d:Nat}{w:World}{l:List UInt8}(h:Rdr D rb w l d):
  Calls Tryz.prog 250 #[.pointer (some ⟨rb,0,none⟩)] w fun e w' =>
   (∃n l',l=num8 n++l'∧is63 n∧e = .returned (.int .i64 n)∧Rdr D rb w' l' d∧Side rb w w')∨(l.length<8∧e=oops∧Side rb w w'):=by
 have H:=hide h;clear h;go_enter Tryz.func250,Tryz.ntmps250
 go_wp2_with(go_at_call 248;refine(Kq H.out (by unfold is63;omega)).mono ?_;rintro e w1 (⟨A,c,h0,h8,rfl,hb,hr,hs⟩|⟨hno,rfl,hs⟩))
 ·have Hb:=hide hb;have Hr:=hide hr;have Hs:=hide hs;clear hb hr hs;have h8':8≤l.length:=by omega
  have ve:(l.take 8).length=8:=by simp;omega
  go_loopw [11,3,5] (fun i u _ wr=>∃q:Nat,q≤8∧i = .int .i64 q∧u = .int .u64 (beNat ((l.take 8).take q))∧wr=w1) (fun i _ _ _=>8-(intOf i).toNat)
  case atStart=>exact⟨0,by omega,rfl,rfl,rfl⟩
  case round =>
   obtain⟨q,hq,rfl,rfl,rfl⟩:=hrel;by_cases hlt:q<8
   ·obtain⟨b,o,hA,hc⟩:=Hb.out.1.at_ (j:=q) (by simp[bytesV];omega);subst hA;simp only[bytesV,List.getElem_map]at hc;have Hx:=hide (PK (l.take 8) q (by omega));have U7:Hid (beNat ((l.take 8).take q)<72057594037927936):=hide (by
     have h1:=Dn ((l.take 8).take q);have h2:((l.take 8).take q).length=q:=by simp;omega
     rw[h2]at h1;exact aH h1 (Nat.pow_le_pow_right (by omega) (show q≤7 by omega)))
    go_wp2_with fail
    refine⟨⟨q+1,by omega,by go_num,?_,trivial⟩,by simp[intOf];omega⟩;rw[kz _ _ U7.out (UInt8.toNat_lt _),Hx.out,List.getElem_take]
   ·go_wp2_with fail
    go_ret;have hq8:q=8:=by omega
    subst hq8;rw[List.take_of_length_le (Nat.le_of_eq ve)];refine .inl ⟨_,l.drop 8,?_,?_,rfl,Hr.out,Hs.out⟩
    ·have hb8:=Dn (l.take 8);rw[ve,show(256:Nat) ^ 8=18446744073709551616 from rfl]at hb8;rw[Kr ve (by unfold wrap64;omega),List.take_append_drop]
    ·unfold is63 wrap64;omega
 ·exact⟨rfl,.inr ⟨by omega,rfl,hs⟩⟩
end
section
open Go.RowKit
section
variable {S S' : Nat → Prop} {w w' : World}
end
end
section
open Go.RowKit
section
variable {S S' : Nat → Prop} {w w' : World} {A : Option Addr} {c : Nat}
end
end
section
open Go.RowKit
section
variable {E : TypeId} {mk : Nat → Nat → Value} {B K : Nat} {vs : Nat → Value} {ns m m' : Nat → Nat} {T : Nat → Option Nat} {w w' : World}
def Only(T:Nat→Option Nat)(k:Nat)(w w':World):Prop:=w.heap.size≤w'.heap.size∧∀b,b<w.heap.size→T b≠some k→w'.heap[b]?=w.heap[b]?
theorem Only.grown{k:Nat}{row:Option Nat}(h:w.grownBy w' row)(hr :∀g,row=some g→T g=some k):Only T k w w':=⟨h.size,fun b hb ht=>h.block b hb (fun e=>ht (hr b e.symm))⟩
theorem oN{base size n:Nat}{e:TypeId}{v:Value}{xs:List Value}(h:w.ownsRow base e size v n xs)(hb :∀g,v.ownBlock=some g→w'.heap[g]?=w.heap[g]?):w'.ownsRow base e size v n xs:=by
 refine⟨h.1,?_⟩;rcases h.2 with hn|⟨g,cap,cur,rfl,hbg,hg,hr⟩
 ·exact .inl hn
 ·exact .inr ⟨g,cap,cur,rfl,hbg,(hb g rfl).trans hg,hr⟩
def retag(T:Nat→Option Nat)(w:World)(v':Value)(k:Nat):Nat→Option Nat:=fun g=>if v'.ownBlock=some g∧g=w.heap.size then some k else T g
theorem H5{k g:Nat}{v':Value}(hg:g<w.heap.size):retag T w v' k g=T g:=by
 unfold retag;rw[if_neg (fun h=>by omega)]
theorem PL{j k g:Nat}{v':Value}(hlt :∀g,T g≠none→B≤g∧g<w.heap.size)(h:T g=some j):retag T w v' k g=some j:=by
 rw[H5 (hlt g (by rw[h];exact fun e=>by cases e)).2,h]
end
end
section
open Go.RowKit
section
variable {s : Nat} {E : TypeId} {mk : Nat → Nat → List Value} {B K : Nat} {vs : Nat → Value} {ns m m' : Nat → Nat} {T : Nat → Option Nat} {w w' : World}
theorem Dp{i n t:Nat}(hi:i<n)(ht:t<s):i*s+t<n*s:=by
 have h1:(i+1)*s≤n*s:=Nat.mul_le_mul_right _ hi;rw[Nat.succ_mul]at h1;omega
def marksG(mk:Nat→Nat→List Value)(j m:Nat):List Value:=(List.range m).flatMap (mk j)
theorem uy(mk:Nat→Nat→List Value)(j m:Nat):marksG mk j (m+1)=marksG mk j m++mk j m:=by simp[marksG,List.range_succ]
theorem xU(mk:Nat→Nat→List Value)(j:Nat):marksG mk j 0=[]:=rfl
theorem oO(hs :∀j i,(mk j i).length=s)(j m:Nat):(marksG mk j m).length=m*s:=by
 induction m with
 | zero=>simp[xU]
 | succ m ih=>rw[uy,aJ,ih,hs,Nat.succ_mul]
theorem Kt(hs :∀j i,(mk j i).length=s){j i t:Nat}:∀{m:Nat},i<m→t<s→(marksG mk j m)[i*s+t]?=(mk j i)[t]?
 | m+1,h,ht=>by
  rw[uy];by_cases hi:i<m
  ·rw[List.getElem?_append_left (by rw[oO hs];exact Dp hi ht),Kt hs hi ht]
  ·have:i=m:=by omega
   subst this;rw[List.getElem?_append_right (by rw[oO hs];omega),oO hs,Nat.add_sub_cancel_left]
theorem oP(hs :∀j i,(mk j i).length=s){j m:Nat}:∀{n:Nat},m≤n→(marksG mk j n).take (m*s)=marksG mk j m
  | 0,h=>by have:m=0:=(by omega);subst this;simp[xU]
  | n+1,h=>by
    by_cases hm:m=n+1
    · subst hm;rw[List.take_of_length_le (by rw[oO hs];exact aC _)]
    · rw[uy,List.take_append_of_le_length (by rw[oO hs];exact Nat.mul_le_mul_right _ (by omega)),oP hs (by omega)]
theorem Dq{P:Value→Prop}(h :∀j i,∀u∈mk j i,P u){j m:Nat}:∀u∈marksG mk j m,P u:=by
 intro u hu;simp only[marksG,List.mem_flatMap]at hu;obtain⟨i,_,hu⟩:=hu;exact h j i u hu
structure RowsG(s:Nat)(mk:Nat→Nat→List Value)(E:TypeId)(B K:Nat)(vs:Nat→Value)(ns m:Nat→Nat)(T:Nat→Option Nat)(w:World):Prop where
 len :∀j i,(mk j i).length=s
 row :∀j,j<K→∃xs,w.ownsRow B E s (vs j) (ns j) (marksG mk j (m j)++xs)
 tag :∀j,j<K→∀g,(vs j).ownBlock=some g→T g=some j
 lt :∀g,T g≠none→B≤g∧g<w.heap.size
theorem RowsG.turn(h:RowsG s mk E B K vs ns m T w){k:Nat}(ho:Only T k w w')(hrow:k<K→∃xs,w'.ownsRow B E s (vs k) (ns k) (marksG mk k (m' k)++xs))(hm :∀j,j≠k→m' j=m j):RowsG s mk E B K vs ns m' T w':=by
 refine⟨h.len,fun j hj=>?_,h.tag,fun g hg=>⟨(h.lt g hg).1,aH (h.lt g hg).2 ho.1⟩⟩;by_cases e:j=k
 ·subst e;exact hrow hj
 ·obtain⟨xs,hx⟩:=h.row j hj;rw[hm j e];refine⟨xs,oN hx fun g hg=>ho.2 g (hx.lt g hg).2 ?_⟩;rw[h.tag j hj g hg];intro e2;injection e2 with e2;exact e e2
theorem RowsG.still(h:RowsG s mk E B K vs ns m T w)(hb:w.heap.size≤w'.heap.size∧∀b,b<w.heap.size→T b≠none→w'.heap[b]?=w.heap[b]?):RowsG s mk E B K vs ns m T w':=by
 refine⟨h.len,fun j hj=>?_,h.tag,fun g hg=>⟨(h.lt g hg).1,aH (h.lt g hg).2 hb.1⟩⟩;obtain⟨xs,hx⟩:=h.row j hj;exact⟨xs,oN hx fun g hg=>hb.2 g (hx.lt g hg).2 (by rw[h.tag j hj g hg];exact fun e=>by cases e)⟩
theorem RowsG.below(h:RowsG s mk E B K vs ns m T w)(hB:Below w.heap.size w w'):RowsG s mk E B K vs ns m T w':=h.still ⟨hB.size,fun b hb _=>hB.block b hb⟩
theorem RowsG.mono(h:RowsG s mk E B K vs ns m T w)(hm :∀j,j<K→m' j=m j):RowsG s mk E B K vs ns m' T w:=⟨h.len,fun j hj=>by rw[hm j hj];exact h.row j hj,h.tag,h.lt⟩
theorem RowsG.shape(h:RowsG s mk E B K vs ns m T w){j:Nat}(hj:j<K):∃A c,vs j = .slice A (ns j) c:=by
 obtain⟨xs,hx⟩:=h.row j hj;exact bM hx
theorem RowsG.at_(h:RowsG s mk E B K vs ns m T w){j i:Nat}(hj:j<K)(hi:i<ns j)(h0:0<s):∃g c,vs j = .slice (some ⟨g,0,none⟩) (ns j) c∧T g=some j∧B≤g∧g<w.heap.size∧(∀t,t<s→∃u,w.cell? ⟨g,i*s+t,none⟩=some u)∧(∀o,w.frozen? ⟨g,o,none⟩=false)∧(i<m j→∀t u,(mk j i)[t]?=some u→w.cell? ⟨g,i*s+t,none⟩=some u):=by
 obtain⟨xs,hx⟩:=h.row j hj;rcases hx.2 with⟨_,h0⟩|⟨g,cap,cur,e,hb,hg,_⟩
 ·omega
 ·have ht:=h.tag j hj g (by rw[e];rfl);rw[e]at hx;have hl:=hx.1;have hin :∀t,t<s→i*s+t<ns j*s:=fun t ht=>Dp hi ht;refine⟨g,cap,e,ht,hb,(Array.getElem?_eq_some_iff.1 hg).1,fun t ht=>⟨_,by rw[hx.cellAt _ (hin t ht)];exact List.getElem?_eq_getElem (by have:=hin t ht;omega)⟩,hx.frozenAt,fun hm t u hu=>?_⟩;have ht:t<s:=by have:=(List.getElem?_eq_some_iff.1 hu).1;rwa [h.len]at this
  rw[hx.cellAt _ (hin t ht),List.getElem?_append_left (by rw[oO h.len];exact Dp hm ht),Kt h.len hm ht];exact hu
theorem RowsG.full(h:RowsG s mk E B K vs ns m T w){j:Nat}(hj:j<K)(hm:m j=ns j):w.ownsRow B E s (vs j) (ns j) (marksG mk j (ns j)):=by
 obtain⟨xs,hx⟩:=h.row j hj;have hl:=hx.1;rw[hm,aJ,oO h.len]at hl;have:xs=[]:=List.length_eq_zero_iff.1 (by omega);subst this;rw[hm,List.append_nil]at hx;exact hx
theorem Ku{e n c g:Nat}:∀(us:List Value) (o:Nat) (w:World) (xs:List Value),w.ownsRow B e s (.slice (some ⟨g,0,none⟩) n c) n xs→o+us.length≤xs.length→
  (w.setCells g o us).ownsRow B e s (.slice (some ⟨g,0,none⟩) n c) n (xs.take o++(us++xs.drop (o+us.length)))∧w.grownBy (w.setCells g o us) (some g)
 | [],o,w,xs,h,_=>⟨by show w.ownsRow _ _ _ _ _ _;simpa using h,World.grownBy.refl _ _⟩
 | u::us,o,w,xs,h,hl=>by
  obtain⟨h1,h2⟩:=h.stored o u;simp only[List.length_cons]at hl;obtain⟨h3,h4⟩:=Ku us (o+1) _ _ h1 (by simp;omega);refine⟨?_,⟨h4.os.trans h2.os,h4.tape.trans h2.tape,h4.output.trans h2.output,aI h2.size h4.size,fun k hk hr=>(h4.block k (aH hk h2.size) hr).trans (h2.block k hk hr)⟩⟩;have ho:o<xs.length:=by omega
  have e1:(xs.set o u).take (o+1)=xs.take o++[u]:=by
   rw[List.set_eq_take_append_cons_drop,if_pos ho,show o+1=(xs.take o).length+1 by simp;omega,List.take_length_add_append];rfl
  have e2:(xs.set o u).drop (o+1+us.length)=xs.drop (o+(us.length+1)):=by
   rw[List.drop_set_of_lt (by omega),show o+1+us.length=o+(us.length+1)by omega]
  rw[e1,e2]at h3;simp only[List.append_assoc,List.cons_append,List.nil_append]at h3;exact h3
theorem RowsG.mark(h:RowsG s mk E B K vs ns m T w){k i g c o:Nat}(hk:k<K)(hi:i<ns k)(hm:m k=i)(hv:vs k = .slice (some ⟨g,0,none⟩) (ns k) c)(hT:T g=some k)(ho:o=i*s){wF:World}(hw:wF=w.setCells g o (mk k i)):
  RowsG s mk E B K vs ns (fun j=>if j=k then i+1 else m j) T wF:=by
 subst ho hw;obtain⟨xs,hx⟩:=h.row k hk;rw[hv]at hx;have hl:=hx.1;rw[hm]at hx hl;have hll:(marksG mk k i).length=i*s:=oO h.len k i;have hup:i*s+s≤ns k*s:=by rw[←Nat.succ_mul];exact Nat.mul_le_mul_right _ hi
 obtain⟨h1,h2⟩:=Ku (mk k i) (i*s) w _ hx (by rw[h.len,hl];exact hup);refine h.turn (k:=k) (Only.grown h2 (fun g' hg'=>by injection hg' with hg';rw[←hg'];exact hT)) (fun _=>⟨xs.drop s,?_⟩) (fun j hj=>if_neg hj);rw[hv,if_pos rfl,uy,List.append_assoc];have e1:(marksG mk k i++xs).take (i*s)=marksG mk k i:=by rw[←hll,List.take_left'];rfl
 have e2:(marksG mk k i++xs).drop (i*s+(mk k i).length)=xs.drop s:=by rw[h.len,←hll,List.drop_append,List.drop_of_length_le (by omega),List.nil_append];congr 1;omega
 rw[e1,e2]at h1;exact h1
def GsG(s:Nat)(mk:Nat→Nat→List Value)(T:Nat→Option Nat)(w:World)(v:Value)(n p j:Nat):Prop :=
 ∃g c,v = .slice (some ⟨g,0,none⟩) n c∧n≤c∧c≤9223372036854775807∧T g=some j∧g<w.heap.size∧∀i,i<p→∀t u,(mk j i)[t]?=some u→w.cell? ⟨g,i*s+t,none⟩=some u
theorem GsG.keep{v:Value}{n p j:Nat}(h:GsG s mk T w v n p j)(hs:w.heap.size≤w'.heap.size)(hb :∀g,g<w.heap.size→T g=some j→w'.heap[g]?=w.heap[g]?):GsG s mk T w' v n p j:=by
 obtain⟨g,c,h1,h2,h3,h4,h5,h6⟩:=h;exact⟨g,c,h1,h2,h3,h4,aH h5 hs,fun i hi t u hu=>(World.cell?_of_block (a:=⟨g,i*s+t,none⟩) (hb g h5 h4)).trans (h6 i hi t u hu)⟩
theorem GsG.less{v:Value}{n p q j:Nat}(h:GsG s mk T w v n p j)(hq:q≤p):GsG s mk T w v n q j:=by
 obtain⟨g,c,h1,h2,h3,h4,h5,h6⟩:=h;exact⟨g,c,h1,h2,h3,h4,h5,fun i hi=>h6 i (aH hi hq)⟩
theorem GsG.retag{T':Nat→Option Nat}{v:Value}{n p j:Nat}(h:GsG s mk T w v n p j)(hT :∀g,T g=some j→T' g=some j):GsG s mk T' w v n p j:=by
 obtain⟨g,c,h1,h2,h3,h4,h5,h6⟩:=h;exact⟨g,c,h1,h2,h3,hT g h4,h5,h6⟩
theorem GsG.of_own{v:Value}{n p j:Nat}{xs:List Value}(hs :∀j i,(mk j i).length=s)(h:w.ownsRow B E s v n (marksG mk j p++xs))(hn:0<n)(hp:p≤n)(hT :∀g,v.ownBlock=some g→T g=some j):GsG s mk T w v n p j:=by
 rcases h.2 with⟨_,h0⟩|⟨g,cap,cur,rfl,hb,hg,hnc,hcm,_⟩
 ·omega
 ·refine⟨g,cap,rfl,hnc,by unfold maxLen at hcm;omega,hT g rfl,(Array.getElem?_eq_some_iff.1 hg).1,fun i hi t u hu=>?_⟩;have ht:t<s:=by have:=(List.getElem?_eq_some_iff.1 hu).1;rwa [hs]at this
  rw[h.cellAt _ (Dp (aH hi hp) ht),List.getElem?_append_left (by rw[oO hs];exact Dp hi ht),Kt hs hi ht];exact hu
theorem RowsG.append(h0:0<s)(h:RowsG s mk E B K vs ns m T w){k n a:Nat}{v v':Value}{xs news:List Value}(hB:B≤w.heap.size)(hown:w.ownsRow B E s v n xs)(hv :∀g,v.ownBlock=some g→T g=some k)
  (hown':w'.ownsRow B E s v' (n+a) (xs++news)) (hgr:w.grownBy w' v.ownBlock) (hw:Went w w' v v' n a)
  (hmk:k<K→m k≤ns k∧∃ys,marksG mk k (m k)++ys=xs.take (ns k*s)∨∀g,(vs k).ownBlock=some g→v.ownBlock≠some g) (hn:k<K→ns k≤n) (ha:xs.length=n*s):
  RowsG s mk E B K vs ns m (retag T w v' k) w'∧(∀g,v'.ownBlock=some g→retag T w v' k g=some k)∧Only T k w w'∧Below B w w':=by
 have hO:Only T k w w':=Only.grown hgr hv;have hBl:Below B w w':=(Below.refl _ _).grown hgr hB (fun g hg=>(hown.lt g hg).1);have htag :∀g,v'.ownBlock=some g→retag T w v' k g=some k:=by
  intro g hg;rcases hw with⟨A,c,rfl,rfl⟩|⟨hf,_⟩
  ·have e:(Value.slice A n c).ownBlock=some g:=by cases A<;>exact hg
   have:=hv g e;rw[H5 (hown.lt g e).2];exact this
  ·rw[hf]at hg;injection hg with hg;unfold retag;rw[if_pos ⟨by rw[hf,hg],hg.symm⟩]
 refine⟨⟨h.len,fun j hj=>?_,fun j hj g hg=>?_,fun g hg=>?_⟩,htag,hO,hBl⟩
 ·obtain⟨zs,hz⟩:=h.row j hj;by_cases hjk:j=k
  ·subst hjk;rcases hw with⟨A,c,rfl,rfl⟩|⟨hf,hold⟩
   ·rcases hz.2 with⟨e0,h0⟩|⟨g,cap,cur,e,hb,hg,hnc,hcm,hcs,htk⟩
    ·refine⟨zs,hz.1,.inl ⟨e0,h0⟩⟩
    ·by_cases hgb:(Value.slice A n c).ownBlock=some g
     ·obtain⟨hmn,ys,hys⟩:=hmk hj;rcases hys with hys|hys
      ·
       rcases A with _|⟨g',o',p'⟩
       ·cases hgb
       ·have e1:g'=g:=by injection hgb
        subst e1;rcases hown.2 with⟨e2,_⟩|⟨g2,cap2,Kv,e2,_,hg2,jh,hcm2,hcs2,U8⟩
        ·cases e2
        ·injection e2 with e2 _ e3;injection e2 with e2;injection e2 with e2 e4 e5;subst e2 e3 e4 e5;rw[hg]at hg2;injection hg2 with hg2;injection hg2 with hg2;subst hg2;rcases hown'.2 with⟨e6,_⟩|⟨g3,cap3,Kw,e6,hb3,hg3,U9,Ky,hcs3,Kz⟩
         ·cases e6
         ·injection e6 with e6 _ e7;injection e6 with e6;injection e6 with e6;subst e6 e7;have hcc:cap=c:=Nat.eq_of_mul_eq_mul_right h0 (hcs.symm.trans hcs2);subst hcc;refine⟨ys,?_,.inr ⟨g',cap,Kw,e,hb3,hg3,hnc,Ky,hcs3,?_⟩⟩
          ·rw[hys,List.length_take,ha];have:=Nat.mul_le_mul_right s (hn hj);omega
          ·have h1:=congrArg (List.take (ns j*s)) Kz;have hnn:=Nat.mul_le_mul_right s (hn hj);have KC:ns j*s≤(n+a)*s:=by rw[Nat.add_mul];omega
           rw[List.take_take,Nat.min_eq_left KC,List.take_append_of_le_length (by omega)]at h1;rw[hys,←h1]
           try simp
      ·exact absurd hgb (hys g (by rw[e];rfl))
     ·refine⟨zs,oN hz fun g1 hg1=>?_⟩;have:g1=g:=by
       rw[e]at hg1;injection hg1 with hg1;exact hg1.symm
      subst this;exact hgr.block g1 (hz.lt g1 hg1).2 (fun e2=>hgb e2.symm)
   ·exact⟨zs,oN hz fun g hg=>hold g (hz.lt g hg).2⟩
  ·exact⟨zs,oN hz fun g hg=>hO.2 g (hz.lt g hg).2 (by rw[h.tag j hj g hg];exact fun e=>hjk (by injection e))⟩
 ·exact PL h.lt (h.tag j hj g hg)
 ·by_cases e:v'.ownBlock=some g∧g=w.heap.size
  ·exact⟨by omega,(hown'.lt g e.1).2⟩
  ·unfold retag at hg;rw[if_neg e]at hg;exact⟨(h.lt g hg).1,aH (h.lt g hg).2 hO.1⟩
end
section
variable {s : Nat} {mk : Nat → Nat → List Value} {E E2 : TypeId} {w wr w' : World} {LB GB K B : Nat} {vs : Nat → Value} {ns p : Nat → Nat} {T0 T : Nat → Option Nat} {xs : List Value} {J : Nat → Prop}
structure FgG(s:Nat)(mk:Nat→Nat→List Value)(E E2:TypeId)(w:World)(LB GB K B:Nat)(vs:Nat→Value)(ns:Nat→Nat)(T0 T:Nat→Option Nat)(xs:List Value)(J:Nat→Prop)(p:Nat→Nat)(wr:World):Prop where
 rows:RowsG s mk E B K vs ns ns T wr
 tt :∀b,b<w.heap.size→T b=T0 b
 tg:T GB=none
 own:wr.ownsRow 0 E2 1 (.slice (some ⟨GB,0,none⟩) K K) K xs
 gs :∀j,J j→∃v,xs[j]?=some v∧GsG s mk T wr v (ns j+64) (p j) j
 ls :∀b,b<w.heap.size→T0 b=none→wr.heap[b]?=w.heap[b]?
 b:Below B w wr
 hB:B≤GB
 bw:B≤w.heap.size
 gl:w.heap.size≤GB
 lw:LB<w.heap.size
 t0:T0 LB=none
theorem FgG.gb(h:FgG s mk E E2 w LB GB K B vs ns T0 T xs J p wr):GB<wr.heap.size:=by
 have:=h.own.lt GB rfl;exact this.2
theorem FgG.still(h:FgG s mk E E2 w LB GB K B vs ns T0 T xs J p wr)(hs:wr.heap.size≤w'.heap.size)(hb :∀b,b<wr.heap.size→(T b≠none∨b<w.heap.size∨b=GB)→w'.heap[b]?=wr.heap[b]?)(hB:Below B wr w'):FgG s mk E E2 w LB GB K B vs ns T0 T xs J p w':=by
 refine⟨h.rows.still ⟨hs,fun b hb1 hb2=>hb b hb1 (.inl hb2)⟩,h.tt,h.tg,oN h.own fun g hg=>?_,fun j hj=>?_,fun b hb1 h0=>(hb b (aH hb1 h.b.size) (.inr (.inl hb1))).trans (h.ls b hb1 h0),h.b.trans hB,h.hB,h.bw,h.gl,h.lw,h.t0⟩
 ·injection hg with hg;subst hg;exact hb GB h.gb (.inr (.inr rfl))
 ·obtain⟨v,h1,h2⟩:=h.gs j hj;exact⟨v,h1,h2.keep hs fun g hg ht=>hb g hg (.inl (by rw[ht];exact fun e=>by cases e))⟩
theorem FgG.alloc(h:FgG s mk E E2 w LB GB K B vs ns T0 T xs J p wr)(o:Obj):FgG s mk E E2 w LB GB K B vs ns T0 T xs J p (wr.alloc o):=
 h.still (by simp) (fun b hb _=>heap_alloc_old wr o hb) ((ag wr o).mono (aI h.bw h.b.size))
theorem FgG.mono{J':Nat→Prop}{p':Nat→Nat}(h:FgG s mk E E2 w LB GB K B vs ns T0 T xs J p wr)(hJ :∀j,J' j→J j∧p' j≤p j):FgG s mk E E2 w LB GB K B vs ns T0 T xs J' p' wr:=by
 refine⟨h.rows,h.tt,h.tg,h.own,fun j hj=>?_,h.ls,h.b,h.hB,h.bw,h.gl,h.lw,h.t0⟩;obtain⟨v,h1,h2⟩:=h.gs j (hJ j hj).1;exact⟨v,h1,h2.less (hJ j hj).2⟩
theorem FgG.append(h0:0<s){k n a:Nat}{v v':Value}{ys news:List Value}(h:FgG s mk E E2 w LB GB K B vs ns T0 T xs J p wr)(hk:k<K)(hJ :∀j,J j→j≠k)(hown:wr.ownsRow B E s v n ys)(hv :∀g,v.ownBlock=some g→T g=some k)
  (hown':w'.ownsRow B E s v' (n+a) (ys++news)) (hgr:wr.grownBy w' v.ownBlock) (hw:Went wr w' v v' n a) (hmk:ys.take (ns k*s)=marksG mk k (ns k)) (hn:ns k≤n):
  FgG s mk E E2 w LB GB K B vs ns T0 (retag T wr v' k) xs J p w'∧∀g,v'.ownBlock=some g→retag T wr v' k g=some k:=by
 have hBs:=aI h.bw h.b.size;have hl:ys.length=n*s:=hown.1;obtain⟨hr,ht,hO,hBl⟩:=h.rows.append h0 hBs hown hv hown' hgr hw (fun _=>⟨aC _,[],.inl (by rw[List.append_nil,hmk])⟩) (fun _=>hn) hl;refine⟨⟨hr,?_,?_,oN h.own fun g hg=>?_,fun j hj=>?_,fun b hb h0=>?_,h.b.trans hBl,h.hB,h.bw,h.gl,h.lw,h.t0⟩,ht⟩
 ·intro b hb;rw[H5 (aH hb h.b.size)];exact h.tt b hb
 ·rw[H5 h.gb];exact h.tg
 ·injection hg with hg;subst hg;exact hO.2 _ h.gb (by show T GB≠_;rw[h.tg];exact fun e=>by cases e)
 ·obtain⟨v1,h1,h2⟩:=h.gs j hj;refine⟨v1,h1,(h2.keep hO.1 fun g hg hT=>hO.2 g hg ?_).retag fun g hg=>PL h.rows.lt hg⟩;rw[hT];intro e;injection e with e;exact hJ j hj e
 ·exact(hO.2 b (aH hb h.b.size) (by show T b≠_;rw[h.tt b hb,h0];exact fun e=>by cases e)).trans (h.ls b hb h0)
theorem FgG.put{q:Nat}{v:Value}{J':Nat→Prop}{p':Nat→Nat}(h:FgG s mk E E2 w LB GB K B vs ns T0 T xs J p wr)(hq:q<K)(hg:GsG s mk T wr v (ns q+64) (p' q) q)(hJ :∀j,J' j→j=q∨(j≠q∧J j∧p' j≤p j)):
  FgG s mk E E2 w LB GB K B vs ns T0 T (xs.set q v) J' p' (wr.setCell ⟨GB,q,none⟩ v):=by
 obtain⟨hs,hgr⟩:=h.own.stored q v;have hone :∀b,b≠GB→b<wr.heap.size→(wr.setCell ⟨GB,q,none⟩ v).heap[b]?=wr.heap[b]?:=fun b hb hlt=>hgr.block b hlt (fun e=>hb (by injection e));have dU :∀g,T g≠none→g≠GB:=fun g hT e=>hT (by rw[e];exact h.tg);have hl:xs.length=K:=by have:=h.own.1;omega
 refine⟨h.rows.still ⟨hgr.size,fun b hb hT=>hone b (dU b hT) hb⟩,h.tt,h.tg,hs,fun j hj=>?_,fun b hb h0=>(hone b (by have:=h.gl;omega) (aH hb h.b.size)).trans (h.ls b hb h0),h.b.trans ((Below.refl _ _).setCell (p:=⟨GB,q,none⟩) h.hB v),h.hB,h.bw,h.gl,h.lw,h.t0⟩;rcases hJ j hj with e|⟨hne,Va,hp⟩
 ·subst e;exact⟨v,by simp[hl,hq],hg.keep hgr.size fun g hlt hT=>hone g (dU g (by rw[hT];exact fun e=>by cases e)) hlt⟩
 ·obtain⟨v1,h1,h2⟩:=h.gs j Va;exact⟨v1,by rw[List.getElem?_set_ne (Ne.symm hne)];exact h1,(h2.less hp).keep hgr.size fun g hlt hT=>hone g (dU g (by rw[hT];exact fun e=>by cases e)) hlt⟩
theorem FgG.head{j:Nat}{v:Value}(h:FgG s mk E E2 w LB GB K B vs ns T0 T xs J p wr)(hc:w.cell? ⟨LB,j,none⟩=some v):wr.cell? ⟨LB,j,none⟩=some v:=(World.cell?_of_block (a:=⟨LB,j,none⟩) (h.ls LB h.lw h.t0)).trans hc
theorem FgG.grown{j:Nat}(h:FgG s mk E E2 w LB GB K B vs ns T0 T xs J p wr)(hj:j<K)(hJ:J j):∃g c,wr.cell? ⟨GB,j,none⟩=some (.slice (some ⟨g,0,none⟩) (ns j+64) c)∧ns j+64≤c∧c≤9223372036854775807∧∀i,i<p j→∀t u,(mk j i)[t]?=some u→wr.cell? ⟨g,i*s+t,none⟩=some u:=by
 obtain⟨v,h1,g,c,rfl,h2,h3,h4,h5,h6⟩:=h.gs j hJ;exact⟨g,c,by rw[h.own.cellAt j (by omega),h1],h2,h3,h6⟩
theorem FgG.place{j:Nat}(h:FgG s mk E E2 w LB GB K B vs ns T0 T xs J p wr)(hj:j<K):(∃u,wr.cell? ⟨GB,j,none⟩=some u)∧wr.frozen? ⟨GB,j,none⟩=false:=by
 have hl:=h.own.1;exact⟨⟨_,by rw[h.own.cellAt j (by omega)];exact List.getElem?_eq_getElem (by omega)⟩,h.own.frozenAt j⟩
end
end
section
open Go.RowKit
section
variable {mk : Nat → Nat → Value} {E E2 : TypeId} {w wr w' : World} {LB GB K B : Nat} {vs : Nat → Value} {ns p : Nat → Nat} {T0 T : Nat → Option Nat} {xs : List Value} {J : Nat → Prop}
end
end
end Go.Proofs.YtjjaojnglnpgaaaGreatDoor
