/- Part 12 of what scriptShows_cardUpto rests on. -/
import Derived.Test.YtjjaojnglnpgaaaGreatDoorRows
import Derived.ChangeSlices
import Derived.SliceStrings
import Derived.Test.YtjjaojnglnpgaaaGreatDoorProg
import Derived.Deep.Cut
import Derived.Deep.MidRow
import Derived.Defers
import Derived.Recover
import Derived.Laws.EntriesVeiled
import Derived.Laws.IdiomCopy
import Derived.BigQuiet
import Derived.Deep.RegionWith
import Derived.Test.YtjjaojnglnpgaaaGreatDoorZ02
import Derived.Test.YtjjaojnglnpgaaaGreatDoorZ10
import Derived.Test.YtjjaojnglnpgaaaGreatDoorZ01
import Derived.Test.YtjjaojnglnpgaaaGreatDoorZ09
import Derived.Test.YtjjaojnglnpgaaaGreatDoorZ00
set_option linter.unusedVariables false
set_option linter.unusedSimpArgs false
set_option maxHeartbeats 16000000
set_option maxRecDepth 1000000
namespace Go.Proofs.YtjjaojnglnpgaaaGreatDoor
section
open Go.RowKit
theorem bG.fit{S:Nat→Prop}{w:World}:∀{f:Fo} {A:Option Addr},bG S w A f→f.fit:=by
 intro f
 induction f with
 | nil=>intro A _;exact trivial
 | cons k t n ks r ihk ihr =>
  rintro A ⟨b,o,KA,c,rfl,hS,c0,c1,c2,c3,e1,e2,e3,e4,e5,hks,hr⟩;exact⟨e1,e2,e3,aI e4 e5,ihk hks,ihr hr⟩
theorem dm.fit{S:Nat→Prop}{w:World}{x:Eh}{e:Ed}(h:dm S w x e):mi e :=
 ⟨h.kind,⟨h.path.2.1,h.path.2.2⟩,h.at_,h.far,h.frm,h.to,⟨h.old.fit,aI h.oc.1 h.oc.2⟩,⟨h.new.fit,aI h.nc.1 h.nc.2⟩⟩
theorem bM.fit{S:Nat→Prop}{w:World}{x:Ph}{p:Pt}(h:bM S w x p):eY p :=
 ⟨h.kind,h.file,h.text,⟨h.hunk.at_,⟨h.hunk.old.2.1,h.hunk.old.2.2⟩,⟨h.hunk.new.2.1,h.hunk.new.2.2⟩⟩,h.edit.fit⟩
end
section
open Go.RowKit Go.ChangeShapes Go.WideShapes
theorem DZ{H:Type}(d:DataW H):1≤Rows.uptoBulk d:=by
 cases d with
 | lit l=>cases l<;>simp[Rows.uptoBulk]
 | nil=>simp[Rows.uptoBulk]
 | ptr d=>simp[Rows.uptoBulk]
 | slice elems spare=>simp[Rows.uptoBulk]
 | agg parts=>simp[Rows.uptoBulk]
 | iface t d=>simp[Rows.uptoBulk]
 | map entries=>simp[Rows.uptoBulk]
 | held h=>simp[Rows.uptoBulk]
theorem xu{H:Type}(s:ByteArray):Rows.uptoBulk (DataW.lit (H:=H) (.string s.data.toList))=s.size+1:=by
 have:s.data.toList.length=s.size:=rfl;simp[Rows.uptoBulk,this]
theorem ND{H:Type}(es sp:List (DataW H)):Rows.uptoBulkAll es+1≤Rows.uptoBulk (.slice es sp):=by
 simp only[Rows.uptoBulk];omega
theorem Vj{H:Type}:∀ss:List ByteArray,8*ss.length+((ss.map ax).flatten).length≤16*Rows.uptoBulkAll (H:=H) (strs ss)
 | []=>Nat.zero_le _
 | s::ss=>by
  have h:=Vj (H:=H) ss;have e:strs (H:=H) (s::ss) = .lit (.string s.data.toList)::strs ss:=rfl;have h8 :∀n:Int,(au n).length=8:=fun n=>rfl;have hs:s.data.toList.length=s.size:=rfl;rw[e];simp only[Rows.uptoBulkAll,xu,List.length_cons,List.map_cons,List.flatten_cons,aJ,ax,h8,hs];omega
theorem Ql{H:Type}{k:IntKind}:∀zs:List Int,zs.length≤Rows.uptoBulkAll (H:=H) (lits k zs)
 | []=>Nat.zero_le _
 | z::zs=>by
  have h:=Ql (H:=H) (k:=k) zs;have e:lits (H:=H) k (z::zs) = .lit (.int k z)::lits k zs:=rfl;have:=DZ (H:=H) (.lit (.int k z));rw[e];simp only[Rows.uptoBulkAll,List.length_cons];omega
theorem Vk(l:List Int):(cO l).length=8+8*l.length:=by
 have h8 :∀n:Int,(au n).length=8:=fun n=>rfl;have :∀l:List Int,((l.map au).flatten).length=8*l.length:=by
  intro l
  induction l with
  | nil=>rfl
  | cons z l ih=>simp only[List.map_cons,List.flatten_cons,aJ,h8,ih,List.length_cons];omega
 simp only[cO,aJ,h8,this]
theorem BD:IntKind.i64.min = -9223372036854775808:=by rfl
theorem BF:IntKind.i64.max=9223372036854775807:=by rfl
theorem Fv:IntKind.u8.min=0:=by rfl
theorem Fz:IntKind.u8.max=255:=by rfl
theorem wf_u8{n:Int}(h:(Lit.int .u8 n).wf=true):∃k:Nat,n=(k:Int)∧k<256:=by
 simp only[Lit.wf,Bool.and_eq_true,decide_eq_true_eq,IntKind.has,Fv,Fz]at h;exact⟨n.toNat,by omega,by omega⟩
theorem JJ{n:Int}(h:(Lit.int .i64 n).wf=true):ai n:=by
 simp only[Lit.wf,Bool.and_eq_true,decide_eq_true_eq,IntKind.has,BD,BF]at h;exact h
theorem mY{n:Nat}(h:n≤maxLen):n≤9223372036854775807:=by unfold maxLen at h;omega
theorem qj{w:World}{a:Addr}{vs:List Value}(h :∀(i:Nat) u,vs[i]?=some u→w.cell? (a.add i)=some u):Rd (fun _=>True) w (some a) vs:=by
 rcases vs with _|⟨v,vs⟩
 ·exact .inl rfl
 ·have h0:w.cell? a=some v:=by have:=h 0 v rfl;simpa[Addr.add]using this
  obtain⟨b,o,sp⟩:=a;cases sp with
  | some k=>exfalso;unfold World.cell? at h0;split at h0<;>simp at h0
  | none=>exact .inr ⟨b,o,rfl,trivial,fun j u hu=>by have:=h j u hu;rwa [Addr.add_lit]at this⟩
section
variable {P : Program} {H : Type} {enc : TypeId × Value → H} {w : World} {spare : Nat → Bool} {held : Bool} {t e : TypeId} {fuel : Nat} {cs : List Value} {x : DataW H × List MemPlace}
theorem qO(ht:P.underlying t=some (.slice e))(he:P.underlying e=some .string)(hc:P.cellsOf e=1)(h:DataW.trod enc P w 0 spare held fuel t cs=some x):
  ∃A l c,cs=[.slice A l.length c]∧bJ (fun _=>True) w A l∧l.length≤c∧c≤9223372036854775807∧(bH l).length≤16*Rows.uptoBulk x.1:=by
 have h8 :∀n:Int,(au n).length=8:=fun n=>rfl;rcases open_strings ht he hc h with⟨rfl,rfl⟩|⟨a,len,cap,ss,rfl,_,hl,hm,hss,rfl,hcell,hsz⟩
 ·exact⟨none,[],0,rfl,⟨.inl rfl,by simp,by simp⟩,by simp,by simp,by simp[bH,h8,Rows.uptoBulk]⟩
 ·have hle:len≤ss.length:=by rw[hss];split<;>omega
  have hlen:(ss.take len).length=len:=by simp;omega
  have hm':cap≤9223372036854775807:=by unfold maxLen at hm;omega
  refine⟨some a,ss.take len,cap,by rw[hlen],⟨qj ?_,?_,by omega⟩,by omega,hm',?_⟩
  ·intro i u hu;have hi:i<len:=by have:=(List.getElem?_eq_some_iff.1 hu).1;simp at this;omega
   have h1:=hcell i (by omega);rw[h1];have h2:ss[i]?=some ss[i]:=by simp[show i<ss.length by omega]
   rw[List.getElem?_map,List.getElem?_take,if_pos hi,h2]at hu;injection hu with hu;rw[←hu,List.getD,h2];rfl
  ·intro s hs;have:=hsz s (List.mem_of_mem_take hs);unfold maxLen at this;omega
  ·have h1:=Vj (H:=H) (ss.take len);have h2:=ND (H:=H) (strs (ss.take len)) (strs (ss.drop len));simp only[bH,aJ,h8];omega
theorem BG(ht:P.underlying t=some (.slice e))(he:P.underlying e=some (.int .i64))(hc:P.cellsOf e=1)(h:DataW.trod enc P w 0 spare held fuel t cs=some x):
  ∃A l c,cs=[.slice A l.length c]∧IntsIn (fun _=>True) w A l∧l.length≤c∧c≤9223372036854775807∧(cO l).length≤16*Rows.uptoBulk x.1:=by
 rcases open_ints ht he hc h with⟨rfl,rfl⟩|⟨a,len,cap,ss,rfl,_,hl,hm,hss,rfl,hcell,hsz⟩
 ·exact⟨none,[],0,rfl,⟨.inl rfl,by simp,by simp⟩,by simp,by simp,by simp[Vk,Rows.uptoBulk]⟩
 ·have hle:len≤ss.length:=by rw[hss];split<;>omega
  have hlen:(ss.take len).length=len:=by simp;omega
  have hm':cap≤9223372036854775807:=by unfold maxLen at hm;omega
  refine⟨some a,ss.take len,cap,by rw[hlen],⟨qj ?_,?_,by omega⟩,by omega,hm',?_⟩
  ·intro i u hu;have hi:i<len:=by have:=(List.getElem?_eq_some_iff.1 hu).1;simp at this;omega
   have h1:=hcell i (by omega);rw[h1];have h2:ss[i]?=some ss[i]:=by simp[show i<ss.length by omega]
   rw[List.getElem?_map,List.getElem?_take,if_pos hi,h2]at hu;injection hu with hu;rw[←hu,List.getD,h2];rfl
  ·intro s hs;exact JJ (hsz s (List.mem_of_mem_take hs))
  ·have h1:=Ql (H:=H) (k:= .i64) (ss.take len);have h2:=ND (H:=H) (lits .i64 (ss.take len)) (lits .i64 (ss.drop len));rw[Vk];dsimp only;omega
end
end
section
open Go.RowKit
theorem qP{s:ByteArray}(h:s.data.toList=[45]):s=⟨#[45]⟩:=by
 apply ByteArray.ext;apply Array.ext';exact h
theorem Qm{s:ByteArray}(h :¬s.data.toList=[45]):(s.toList == [45])=false:=by
 rw[aK];intro e;have e2:s=⟨#[45]⟩:=dZ.1 (by rw[e];decide +kernel);exact h (by rw[e2])
theorem tC{D:Nat→Prop}{N:Nat}{w:World}{s:ByteArray}{r:List ByteArray}{b:List UInt8}(h:gI D N w (s::r))(hu:unhexL s.data.toList=some b)(hl:s.size≤1099511627776):
  Calls Tryz.prog 170 #[.pointer (some ⟨N,0,none⟩)] w fun e w'=>∃v,e = .returned v∧w'.ownsRow w.heap.size 5 1 v b.length (Lib.byteCells b)∧gI D N w' r∧∃u,Below w.heap.size (w.setCell ⟨N,0,none⟩ u) w':=by
 by_cases h45:s.data.toList=[45]
 ·have e:b=[]:=by
   rw[unhexL,if_pos h45]at hu;injection hu with hu;exact hu.symm
  subst e;refine(YT h (qP h45)).mono ?_;rintro e w' ⟨rfl,h1,u,hu⟩;exact⟨_,rfl,World.ownsRow_nil _ _ _ _,h1,u,by rw[hu];have:=Below.refl w.heap.size (w.setCell ⟨N,0,none⟩ u);simpa using this⟩
 ·have hb:b≠[]:=by
   rintro rfl;have:=ER _ _ hu;rw[hexL,if_pos rfl]at this;exact h45 this.symm
  have ht:s.data.toList=hexT b:=by
   have:=ER _ _ hu;rw[hexL,if_neg hb]at this;exact this.symm
  refine YU h ht hb ?_;have:=congrArg List.length ht;rw[zZ]at this;simp at this;omega
theorem Za{D:Nat→Prop}{N:Nat}{w:World}{s:ByteArray}{r:List ByteArray}(h:gI D N w (s::r))(hu:unhexL s.data.toList=none)(hl:s.size≤1099511627776):
  Calls Tryz.prog 170 #[.pointer (some ⟨N,0,none⟩)] w fun e w'=>e=fQ∧∃u,Below w.heap.size (w.setCell ⟨N,0,none⟩ u) w':=by
 have set :∀{e:Ending} {w':World},(e=fQ∧∃u,w'=w.setCell ⟨N,0,none⟩ u)→e=fQ∧∃u,Below w.heap.size (w.setCell ⟨N,0,none⟩ u) w':=by
  rintro e w' ⟨he,u,rfl⟩;exact⟨he,u,Below.refl _ _⟩
 have h45 :¬s.data.toList=[45]:=fun e=>by rw[unhexL,if_pos e]at hu;cases hu
 by_cases h0:s.size=0
 ·exact(YY h h0).mono fun _ _ hx=>set hx
 ·by_cases hev:s.size % 2=0
  ·have hne :¬s.data.toList=[]:=fun e=>h0 (by have:=congrArg List.length e;simpa using this);rw[unhexL,if_neg h45,if_neg hne]at hu;exact tq h (Qm h45) (by omega) hev hu hl
  ·exact(YZ h (Qm h45) (by omega) hev).mono fun _ _ hx=>set hx
def Has(w:World)(N n:Nat):Prop:=∀j,j<n→∃v,w.cell? ⟨N,j,none⟩=some v
theorem Has.set{w:World}{N n:Nat}(h:Has w N n)(a:Addr)(u:Value):Has (w.setCell a u) N n:=by
 intro j hj;obtain⟨v,hv⟩:=h j hj;by_cases e:a=⟨N,j,none⟩
 ·subst e;exact⟨u,World.cell?_setCell_same _ _ _ hv⟩
 ·exact⟨v,(World.cell?_setCell_other _ _ _ _ e).trans hv⟩
theorem Has.of_eq{w w':World}{N n:Nat}(h:Has w N n)(he :∀o,w'.cell? ⟨N,o,none⟩=w.cell? ⟨N,o,none⟩):Has w' N n:=fun j hj=>by
 obtain⟨v,hv⟩:=h j hj;exact⟨v,(he j).trans hv⟩
theorem Has.new(w:World)(cs:Array Value)(t:TypeId)(n:Nat)(hn:n≤cs.size):Has (w.alloc (.cells cs t)) w.heap.size n:=fun j hj =>
 ⟨cs[j],by rw[World.cell?_alloc_new,Array.getElem?_eq_getElem (by omega)]⟩
theorem D5{w:World}{N n j:Nat}{v:Value}(h:Has w N n)(hj:j<n):(w.setCell ⟨N,j,none⟩ v).cell? ⟨N,j,none⟩=some v:=by
 obtain⟨u,hu⟩:=h j hj;exact World.cell?_setCell_same _ _ _ hu
theorem Has.new2(w:World)(a:Obj)(cs:Array Value)(t:TypeId)(n:Nat)(hn:n≤cs.size):Has ((w.alloc a).alloc (.cells cs t)).drew (w.heap.size+1) n:=by
 have h:=Has.new (w.alloc a) cs t n hn;rw[show(w.alloc a).heap.size=w.heap.size+1 by simp]at h;exact h
theorem JK(p q:Addr)(w:World):
  CallsD Tryz.prog 75 #[.pointer (some p),.pointer (some q)] .returning w fun e u' w'=>e = .returned (.tuple #[])∧u' = .returning∧w'=w:=by
 refine callsD_of_wpS Tryz.func75 rfl fun c₀ cs hu=>?_;apply wpS_seq;apply wpS_region;simp[wpOpsS,go_sem,recoverD,hu,Tryz.ntmps75,Exit.thenS];refine wpS_of_wp ?_;rw[show(#[Value.pointer (some p),Value.pointer (some q)]++(((Array.replicate 15 undef).setIfInBounds 3 Value.nilIface).setIfInBounds 0 Value.nilIface))=#[.pointer (some p),.pointer (some q),.nilIface,undef,undef,.nilIface,undef,undef,undef,undef,undef,undef,undef,undef,undef,undef,undef]from rfl]
 go_wp2_with fail
 cases c₀;simp_all [bodyPostS,results,Tryz.results75]
abbrev ak:List Value:=[.int .u8 0,.string {data:=#[]},.string {data:=#[]},.string {data:=#[]},.string {data:=#[]},.int .u8 0,.string {data:=#[]},.string {data:=#[]},.int .i64 0,.slice none 0 0,.slice none 0 0,.int .u8 0,.slice none 0 0,.int .i64 0,.int .i64 0,.string {data:=#[]},.string {data:=#[]},.slice none 0 0,.slice none 0 0,.slice none 0 0]
def mD(w:World)(p q:Nat):World:=((w.alloc (.cells #[] 136)).setCells p 0 ak).setCell ⟨q,0,none⟩ (.bool false)
theorem Ai:ak.toArray.all (·.oneCell')=true:=all_oneCell_toArray (cs:=ak) (by
 intro v hv;simp only[ak,List.mem_cons,List.not_mem_nil,or_false]at hv;rcases hv with rfl|rfl|rfl|rfl|rfl|rfl|rfl|rfl|rfl|rfl|rfl|rfl|rfl|rfl|rfl|rfl|rfl|rfl|rfl|rfl<;>rfl)
theorem zag:(Tryz.prog.info? 46).map (·.size)=some 20:=by kernel_rfl
theorem BH(p q:Nat)(z:Value)(w:World)(older:List PanicEntry)(hp:w.cell? ⟨q,0,none⟩=some z)(Vl:w.frozen? ⟨q,0,none⟩=false)(hpq :¬p=q)(ht:w.there p 0 20):
  CallsD Tryz.prog 75 #[.pointer (some ⟨p,0,none⟩),.pointer (some ⟨q,0,none⟩)] (.panicking ({v:= .iface 136 (.agg #[]),recovered:=false}::older)) w fun e u' w' =>
   e = .returned (.tuple #[])∧u' = .panicking ({v:= .iface 136 (.agg #[]),recovered:=true}::older)∧w'=mD w p q:=by
 refine callsD_of_wpS Tryz.func75 rfl fun c₀ cs hu=>?_;apply wpS_seq;apply wpS_region;simp[wpOpsS,go_sem,recoverD,hu,Tryz.ntmps75,Exit.thenS];have BI :¬q=p:=fun e=>hpq e.symm;have NF:=block_lt_of_cell hp;have hbb:=az w (.cells #[] 136);have Ht:(w.alloc (.cells #[] 136)).there p 0 20:=World.there_alloc ht _;have Hp:((w.alloc (.cells #[] 136)).setCells p 0 ak).cell? ⟨q,0,none⟩=some z:=(World.cell?_setCells_out p ak 0 _ ⟨q,0,none⟩ (fun e _=>absurd e BI)).trans ((hbb.cell (p:=⟨q,0,none⟩) NF).trans hp);have Fp:((w.alloc (.cells #[] 136)).setCells p 0 ak).frozen? ⟨q,0,none⟩=false:=(World.frozen?_setCells p ak 0 _ _).trans ((hbb.frozen (p:=⟨q,0,none⟩) NF).trans Vl);have hta :∀w',(Instr.typeAssert (.iface 136 (.agg #[])) 20 136 true).run Tryz.prog w' = .ok (.tuple #[.agg #[],.bool true]) w':=fun w'=>by simp[Instr.typeAssert,run_underlying Tryz.underlying136]
 clear hbb hp Vl ht;refine wpS_of_wp ?_;rw[show(#[Value.pointer (some (⟨p,0,none⟩:Addr)),Value.pointer (some (⟨q,0,none⟩:Addr))]++(((Array.replicate 15 undef).setIfInBounds 3 (Value.iface 136 (Value.agg #[]))).setIfInBounds 0 (Value.iface 136 (Value.agg #[]))))=#[.pointer (some ⟨p,0,none⟩),.pointer (some ⟨q,0,none⟩),.iface 136 (.agg #[]),undef,undef,.iface 136 (.agg #[]),undef,undef,undef,undef,undef,undef,undef,undef,undef,undef,undef]from rfl]
 go_upto_region 5 with fail
 generalize hWw:w.alloc (.cells #[] 136)=W at Hp Fp Ht⊢;generalize hV:W.setCells p 0 ak=V at Hp Fp;have HW:=hide hWw;have HV:=hide hV;clear hWw hV
 go_wp2_with(refine wpList_store_mid rfl _ _ _ rfl p 0 ak.toArray rfl rfl Ht zag Ai ?_;rw[show W.setCells p 0 ak.toArray.toList=V from HV.out])
 clear hta Hp Fp Ht;cases c₀;simp_all [bodyPostS,results,Tryz.results75];unfold mD;rw[HW.out,HV.out]
end
section
open Go.RowKit
def fZ(B rb:Nat)(w:World)(l:List UInt8)(bd:Bool):Prop :=
 B≤rb∧∃A c,w.cell? ⟨rb,0,none⟩=some (.slice A l.length c)∧w.cell? ⟨rb,1,none⟩=some (.bool bd)∧w.frozen? ⟨rb,0,none⟩=false∧w.frozen? ⟨rb,1,none⟩=false∧
  BytesIn (fun b=>b<B) w A l∧l.length≤c∧c≤9223372036854775807
section
variable {B rb : Nat} {w w' : World} {l : List UInt8} {bd : Bool}
theorem fZ.lt(h:fZ B rb w l bd):rb<w.heap.size:=by
 obtain⟨_,A,c,h0,_⟩:=h;exact World.block_lt_of_cell? _ _ h0
theorem fZ.keep(h:fZ B rb w l bd)(hk :∀b,b≤rb→w'.heap[b]?=w.heap[b]?):fZ B rb w' l bd:=by
 obtain⟨hB,A,c,h0,h1,h2,h3,h4,h5,h6⟩:=h;have hb:=hk rb (aC _);exact⟨hB,A,c,(World.cell?_of_block hb).trans h0,(World.cell?_of_block hb).trans h1,(World.frozen?_of_block hb).trans h2,(World.frozen?_of_block hb).trans h3,h4.keep fun b hb=>hk b (by omega),h5,h6⟩
theorem fZ.below(h:fZ B rb w l bd)(hB:Below w.heap.size w w'):fZ B rb w' l bd:=h.keep fun b hb=>hB.block b (Nat.lt_of_le_of_lt hb h.lt)
theorem fZ.alloc(h:fZ B rb w l bd)(o:Obj):fZ B rb (w.alloc o) l bd:=h.below (az w o)
theorem fZ.grown{row:Option Nat}(h:fZ B rb w l bd)(hg:w.grownBy w' row)(hr :∀k,row=some k→rb<k):fZ B rb w' l bd :=
 h.keep fun b hb=>hg.block b (Nat.lt_of_le_of_lt hb h.lt) (fun e=>by have:=hr b e.symm;omega)
theorem fZ.setBad(h:fZ B rb w l bd):fZ B rb (w.setCell ⟨rb,1,none⟩ (.bool true)) l true:=by
 obtain⟨hB,A,c,h0,h1,h2,h3,h4,h5,h6⟩:=h;refine⟨hB,A,c,?_,World.cell?_setCell_same _ _ _ h1,by rw[World.frozen?_setCell];exact h2,by rw[World.frozen?_setCell];exact h3,h4.keep (fun b hb=>Below.heap_setCell w _ _ b (by show b≠rb;omega)),h5,h6⟩;rw[World.cell?_setCell_other]
 ·exact h0
 ·simp
theorem fZ.cells(h:fZ B rb w l bd):∃A c,w.cell? ⟨rb,0,none⟩=some (.slice A l.length c)∧w.cell? ⟨rb,1,none⟩=some (.bool bd)∧w.frozen? ⟨rb,0,none⟩=false∧w.frozen? ⟨rb,1,none⟩=false∧BytesIn (fun b=>b<B) w A l∧l.length≤c∧c≤9223372036854775807:=h.2
theorem fZ.setRest{A:Option Addr}{c m:Nat}{l':List UInt8}(h:fZ B rb w l bd)(hA:BytesIn (fun b=>b<B) w A l')(hm:l'.length=m)(h5:m≤c)(h6:c≤9223372036854775807):fZ B rb (w.setCell ⟨rb,0,none⟩ (.slice A m c)) l' bd:=by
 subst hm;obtain⟨hB,A0,c0,h0,h1,h2,h3,h4,_,_⟩:=h;refine⟨hB,A,c,World.cell?_setCell_same _ _ _ h0,?_,by rw[World.frozen?_setCell];exact h2,by rw[World.frozen?_setCell];exact h3,hA.keep (fun b hb=>Below.heap_setCell w _ _ b (by show b≠rb;omega)),h5,h6⟩;rw[World.cell?_setCell_other]
 ·exact h1
 ·simp
end
def xw(B rb:Nat)(w:World)(l:List UInt8)(bd:Bool)(e:Ending)(w':World):Prop:=∃(x:UInt8) (l':List UInt8) (jq:Bool),e = .returned (.int .u8 x.toNat)∧fZ B rb w' l' jq∧Side rb w w'∧
   ((l=x::l'∧jq=bd)∨(l=[]∧l'=[]∧jq=true))
theorem NG{B rb:Nat}{w:World}{l:List UInt8}{bd:Bool}(h:fZ B rb w l bd):Calls Tryz.prog 266 #[.pointer (some ⟨rb,0,none⟩)] w (xw B rb w l bd):=by
 obtain⟨A,c,h0,h1,h2,h3,hb,h5,h6⟩:=h.cells;have H:=hide h;have Hb:=hide hb;clear h hb;rcases l with _|⟨x,l⟩
 ·simp only[List.length_nil]at h0 h5;go_enter Tryz.func266,Tryz.ntmps266
  go_wp2_with fail
  go_ret;exact⟨0,[],true,rfl,H.out.setBad,(Side.refl rb w).set 1 _,.inr ⟨rfl,rfl,rfl⟩⟩
 ·obtain⟨b,o,hA,hc⟩:=Hb.out.1.at_ (j:=0) (by simp[bytesV]);subst hA;simp only[bytesV,List.map_cons,aE,Nat.add_zero]at hc;simp only[List.length_cons]at h0 h5;have hd:BytesIn (fun b=>b<B) w (some ⟨b,o+1,none⟩) l:=by have:=Hb.out.drop 1;simpa[Addr.add_lit]using this
  have Hd:=hide hd;clear hd;go_enter Tryz.func266,Tryz.ntmps266
  go_wp2_with fail
  ·go_ret;have hl:l=[]:=List.length_eq_zero_iff.1 (by omega);subst hl;exact⟨x,[],bd,rfl,H.out.setRest ⟨.inl rfl,by simp⟩ rfl (by simp) (by omega),(Side.refl rb w).set 0 _,.inl ⟨rfl,rfl⟩⟩
  ·go_ret;exact⟨x,l,bd,rfl,H.out.setRest Hd.out rfl (by omega) (by omega),(Side.refl rb w).set 0 _,.inl ⟨rfl,rfl⟩⟩
def BJ(B rb:Nat)(w:World)(l:List UInt8)(bd:Bool)(e:Ending)(w':World):Prop:=∃(n:Int) (l':List UInt8) (jq:Bool),e = .returned (.int .i64 n)∧aX n∧fZ B rb w' l' jq∧Side rb w w'∧l'.length≤l.length∧
   ((l=au n++l'∧jq=bd)∨(l.length<8∧jq=true∧l'=[]))
theorem Iu{B rb:Nat}{w:World}{l:List UInt8}{bd:Bool}(h:fZ B rb w l bd):Calls Tryz.prog 268 #[.pointer (some ⟨rb,0,none⟩)] w (BJ B rb w l bd):=by
 have H:=hide h;clear h;go_enter Tryz.func268,Tryz.ntmps268
 go_wp2_with fail
 go_loopw [3,4] (fun u i wr=>∃(q:Nat) (X:Int) (lq:List UInt8) (bq:Bool),q≤8∧i = .int .i64 q∧u = .int .u64 X∧Hid (fZ B rb wr lq bq)∧Hid (Side rb w wr)∧lq.length≤l.length∧Hid ((q≤l.length∧lq=l.drop q∧bq=bd∧X=beNat (l.take q))∨(l.length<q∧bq=true∧lq=[]))) (fun _ i _=>8-(intOf i).toNat)
 case atStart=>exact⟨0,0,l,bd,by omega,rfl,rfl,H,hide (Side.refl _ _),aC _,hide (.inl ⟨by omega,by simp,rfl,by simp[beNat]⟩)⟩
 case round =>
  obtain⟨q,X,lq,bq,hq,rfl,rfl,HR,HS,hle,HC⟩:=hrel;by_cases hlt:q<8
  ·go_wp2_with(go_at_call 266;(with_reducible refine(NG HR.out).mono ?_);rintro e w1 ⟨x,l1,b1,rfl,hr,hs,hx⟩;have HR1:=hide hr;have Iq:=hide (HS.out.trans hs);have HX:=hide hx;clear hr hs hx)
   have key:l1.length≤l.length∧((q+1≤l.length∧l1=l.drop (q+1)∧b1=bd∧bits .or .u64 (IntKind.u64.wrap (X*256)) (IntKind.u64.wrap (x.toNat:Int))=beNat (l.take (q+1)))∨(l.length<q+1∧b1=true∧l1=[])):=by
    rcases HX.out with⟨e1,e2⟩|⟨e1,e2,e3⟩
    ·have hl1:l1.length≤l.length:=by
      have:=congrArg List.length e1;simp at this;omega
     refine⟨hl1,?_⟩;rcases HC.out with⟨g1,g2,g3,g4⟩|⟨g1,g2,g3⟩
     ·have Bi:q<l.length:=by
       have:=congrArg List.length (g2.symm.trans e1);simp at this;omega
      have hdr:=List.drop_eq_getElem_cons Bi;rw[←g2,e1]at hdr;injection hdr with hx hr;refine .inl ⟨by omega,hr,by rw[e2,g3],?_⟩;have hlt:beNat (l.take q)<72057594037927936:=by
       have h1:=U0 (l.take q);have h2:(l.take q).length=q:=by simp;omega
       rw[h2]at h1;exact aH h1 (Nat.pow_le_pow_right (by omega) (show q≤7 by omega))
      rw[g4,Bh _ _ hlt (UInt8.toNat_lt _),YE l q Bi,hx]
     ·rw[g3]at e1;cases e1
    ·refine⟨by rw[e2];simp,.inr ⟨?_,e3,e2⟩⟩;rcases HC.out with⟨g1,g2,g3,g4⟩|⟨g1,g2,_⟩
     ·have:=congrArg List.length (g2.symm.trans e1);simp at this;omega
     ·omega
   exact⟨⟨q+1,_,l1,b1,by omega,by go_num,rfl,HR1,Iq,key.1,hide key.2⟩,by simp[intOf];omega⟩
  ·go_wp2_with fail
   go_ret;have hq8:q=8:=by omega
   subst hq8;refine⟨_,lq,bq,rfl,by unfold aX wrap64;omega,HR.out,HS.out,hle,?_⟩;rcases HC.out with⟨g1,g2,g3,g4⟩|⟨g1,g2,g5⟩
   ·refine .inl ⟨?_,g3⟩;have Vm:(l.take 8).length=8:=by simp;omega
    have hb8:=U0 (l.take 8);rw[Vm,show(256:Nat) ^ 8=18446744073709551616 from rfl]at hb8;rw[g2,Bg Vm (by unfold wrap64;omega),List.take_append_drop]
   ·exact .inr ⟨g1,g2,g5⟩
def jF(B rb least:Nat)(w:World)(l:List UInt8)(bd:Bool)(e:Ending)(w':World):Prop:=∃(n:Nat) (l':List UInt8) (jq:Bool),e = .returned (.int .i64 n)∧n*least≤l'.length∧fZ B rb w' l' jq∧Side rb w w'∧l'.length≤l.length∧
   ((l=au n++l'∧jq=bd)∨(n=0∧jq=true∧(l.length<8∨∃(m:Int) (l1:List UInt8),aX m∧l=au m++l1∧¬(0≤m∧m≤(l1.length:Int) / least))))
theorem NH{B rb least:Nat}{w:World}{l:List UInt8}{bd:Bool}(h:fZ B rb w l bd)(h0:0<least)(h1:least≤100):Calls Tryz.prog 287 #[.pointer (some ⟨rb,0,none⟩),.int .i64 least] w (jF B rb least w l bd):=by
  have H:=hide h;clear h;go_enter Tryz.func287,Tryz.ntmps287
  go_wp2_with(go_at_call 268;(with_reducible refine(Iu H.out).mono ?_);rintro e w1 ⟨n,l1,b1,rfl,hn,hr,hs,hle,hx⟩;obtain⟨A,c,k0,k1,k2,k3,kb,k5,k6⟩:=hr.cells;have HR:=hide hr;have HS:=hide hs;have HX:=hide hx;have hd0:0≤(l1.length:Int) / least:=Int.ediv_nonneg (by omega) (by omega);have hd1:(l1.length:Int) / least≤l1.length:=Int.ediv_le_self _ (by omega);have hq:wrap64 ((l1.length:Int) / least)=(l1.length:Int) / least:=(by generalize (l1.length:Int) / least=z at hd0 hd1;unfold wrap64;omega);clear hr hs hx kb)
  all_goals go_ret
  all_goals first
    | (refine⟨0,l1,true,rfl,by simp,HR.out.setBad,HS.out.set 1 _,hle,.inr ⟨rfl,rfl,?_⟩⟩
       rcases HX.out with⟨e1,e2⟩|⟨e1,_,_⟩
       · exact .inr ⟨n,l1,hn,e1,by omega⟩
       · exact .inl e1)
    | (obtain⟨m,rfl⟩:∃m:Nat,n=m:=⟨n.toNat,by omega⟩
       have hm:m*least≤l1.length:=by
         have h2:(m:Int)≤((l1.length / least:Nat):Int):=by rw[Int.natCast_ediv];omega
         exact(Nat.le_div_iff_mul_le h0).1 (by omega)
       refine⟨m,l1,b1,rfl,hm,HR.out,HS.out,hle,?_⟩;rcases HX.out with⟨e1,e2⟩|⟨e1,e2,e3⟩
       · exact .inl ⟨e1,e2⟩
       · refine .inr ⟨?_,e2,.inl e1⟩
         rw[e3,List.length_nil]at hm;rcases Nat.eq_zero_or_pos m with h|h
         · exact h
         · have:=Nat.mul_pos h h0
           omega)
def oQ(B rb:Nat)(w:World)(l:List UInt8)(bd:Bool)(e:Ending)(w':World):Prop:=∃(s:ByteArray) (l':List UInt8) (jq:Bool),e = .returned (.string s)∧s.size≤aP∧fZ B rb w' l' jq∧Side rb w w'∧l'.length≤l.length∧
   ((l=ax s++l'∧jq=bd)∨(jq=true∧¬jE l))
theorem tH{l:List UInt8}(h:l.length<8∨∃(m:Int) (l1:List UInt8),aX m∧l=au m++l1∧¬(0≤m∧m≤(l1.length:Int) / ((1:Nat):Int))):¬jE l:=by
 rintro⟨s,l',hs,rfl⟩;have e:s.data.toList.length=s.size:=by simp
 rcases h with h|⟨m,l1,hm,he,hno⟩
 ·simp only[ax,aJ,jm]at h;omega
 ·unfold ax at he;rw[List.append_assoc]at he;obtain⟨h1,h2⟩:=kX (nI hs) hm he;subst h1 h2;apply hno;simp only[aJ,e];omega
theorem Qn{B rb n:Nat}{w w':World}{l l1:List UInt8}{bd b1:Bool}(hl:l.length≤aP)(hn:n≤l1.length)(hle:l1.length≤l.length)(hS:Side rb w w')(hR:fZ B rb w' (l1.drop n) b1)
  (hX:(l=au (n:Nat)++l1∧b1=bd)∨(n=0∧b1=true∧(l.length<8∨∃(m:Int) (l1:List UInt8),aX m∧l=au m++l1∧¬(0≤m∧m≤(l1.length:Int) / ((1:Nat):Int))))):
  oQ B rb w l bd (.returned (.string ⟨(l1.take n).toArray⟩)) w':=by
 have hz:(⟨(l1.take n).toArray⟩:ByteArray).size=n:=by
  show((l1.take n).toArray).size=n;simp;omega
 refine⟨_,l1.drop n,b1,rfl,by rw[hz];simp only[aP]at hl⊢;omega,hR,hS,by simp;omega,?_⟩;rcases hX with⟨e1,e2⟩|⟨_,e2,h⟩
 ·refine .inl ⟨?_,e2⟩;unfold ax;rw[hz,e1,List.append_assoc];congr 1;exact(List.take_append_drop n l1).symm
 ·exact .inr ⟨e2,tH h⟩
theorem Iw{B rb:Nat}{w:World}{l:List UInt8}{bd:Bool}(h:fZ B rb w l bd)(hl:l.length≤aP):Calls Tryz.prog 267 #[.pointer (some ⟨rb,0,none⟩)] w (oQ B rb w l bd):=by
 have HM:Hid (Calls Tryz.prog 287 #[.pointer (some ⟨rb,0,none⟩),.int .i64 1] w (jF B rb 1 w l bd)):=hide (NH (least:=1) h (by decide) (by decide));clear h;go_enter Tryz.func267,Tryz.ntmps267
 go_wp2_with(go_at_call 287;(with_reducible refine HM.out.mono ?_);rintro e w1 ⟨n,l1,b1,rfl,hn,hr,hs,hle,hx⟩;obtain⟨A,c,k0,k1,k2,k3,kb,k5,k6⟩:=hr.cells;have hnl:n≤l1.length:=(by omega);have hcv:(convert 44 9 (.slice A n c)).run Tryz.prog w1 = .ok (.string ⟨(l1.take n).toArray⟩) w1:=(by have h1:=Y5 (rb:=rb) w1 A c (l1.take n) ((kb.take n).mono fun b _ hb=>(by have:=hr.1;show b≠rb;omega));rwa [show(l1.take n).length=n by simp;omega]at h1);have HR:=hide hr;have HS:=hide hs;have HX:=hide hx;have HB:=hide kb;clear hr hs hx kb;rcases A with _|a)
 ·go_ret;have hl0:l1=[]:=by
   rcases HB.out.1 with h|⟨_,_,h,_⟩
   ·simpa[bytesV]using h
   ·cases h
  exact Qn hl hnl hle (HS.out.set 0 _) (HR.out.setRest ⟨.inl (by rw[hl0];simp[bytesV]),by simp;omega⟩ (by simp) (by omega) (by omega)) HX.out
 ·go_ret;exact Qn hl hnl hle (HS.out.set 0 _) (HR.out.setRest ⟨.inl (by rw[List.drop_eq_nil_of_le (by omega)];rfl),by simp;omega⟩ (by simp) (by omega) (by omega)) HX.out
 ·go_ret;exact Qn hl hnl hle (HS.out.set 0 _) (HR.out.setRest (HB.out.drop n) (by simp) (by omega) (by omega)) HX.out
end
section
open Go.RowKit
def xy(B rb:Nat)(w:World)(l:List UInt8)(bd:Bool)(e:Ending)(w':World):Prop:=∃(xs:List Int) (l':List UInt8) (jq:Bool) (A:Option Addr) (c:Nat),e = .returned (.slice A xs.length c)∧IntsIn (fun b=>w.heap.size≤b) w' A xs∧xs.length≤c∧c≤9223372036854775807∧fZ B rb w' l' jq∧Side rb w w'∧l'.length≤l.length∧
   ((l=cO xs++l'∧jq=bd)∨(jq=true∧¬lQ au (aX) l))
theorem Zb{B rb:Nat}{w:World}{l:List UInt8}{bd:Bool}(h:fZ B rb w l bd)(hl:l.length≤lid):Calls Tryz.prog 288 #[.pointer (some ⟨rb,0,none⟩)] w (xy B rb w l bd):=by
 have hrb:=h.lt;have HM:Hid (Calls Tryz.prog 287 #[.pointer (some ⟨rb,0,none⟩),.int .i64 8] w (jF B rb 8 w l bd)):=hide (NH (least:=8) h (by decide) (by decide));obtain⟨i0,hi,hz0,hz1,hz2⟩:=info_parts Uk;clear h;go_enter Tryz.func288,Tryz.ntmps288
 go_wp2_with(go_at_call 287;(with_reducible refine HM.out.mono ?_);rintro e w1 ⟨n,l1,b1,rfl,hn,hr,hs,hle,hx⟩;have HR:=hide hr;have HS:=hide hs;have HX:=hide hx;clear hr hs hx)
 have hl1:l1.length≤1099511627776:=by simp only[lid]at hl;omega
 go_loopw [3,5] (fun v i wr=>∃(xs:List Int) (lq:List UInt8) (bq:Bool),i = .int .i64 xs.length∧xs.length≤n∧Hid (∀a∈xs,(aX) a)∧Hid (wr.ownsRow 0 3 1 v xs.length (xs.map (.int .i64)))∧Hid (∀g,v.ownBlock=some g→w.heap.size≤g)∧
   Hid (fZ B rb wr lq bq)∧Hid (Side rb w wr)∧lq.length≤l1.length∧Hid ((l1=(xs.map au).flatten++lq∧bq=b1)∨(bq=true∧∃(ys:List Int) (lr:List UInt8),(∀a∈ys,(aX) a)∧l1=(ys.map au).flatten++lr∧ys.length<n∧¬∃a l',(aX) a∧lr=au a++l'))) (fun _ i _=>(n-intOf i).toNat)
 case atStart=>exact⟨[],l1,b1,rfl,Nat.zero_le _,hide (by simp),hide (World.ownsRow_nil _ _ _ _),hide (by simp[Value.ownBlock]),HR,HS,aC _,hide (.inl ⟨rfl,rfl⟩)⟩
 case round =>
  obtain⟨xs,lq,bq,rfl,hle2,Hf,Ho,Hg,Hq,HS2,hlq,HC⟩:=hrel;have hwr:=HS2.out.size;by_cases hlt:xs.length<n
  ·go_wp2_with(first
    | (go_at_call 268;(with_reducible refine(Iu Hq.out).mono ?_);rintro e w3 ⟨a,l2,b2,rfl,ha2,hr2,hs2,hle3,hx2⟩;have HR2:=hide hr2;have tJ:=hide hs2;have iG:=hide hx2;clear hr2 hs2 hx2)
    | (at_builtin;refine MS _ rfl _ _ 38 rfl 3 i0 (.int .i64 0) 1 8 Tryz.underlying38 hi hz0 hz1 hz2 rfl (by decide) _ xs.length (xs.map (.int .i64)) rfl ((Qk Ho.out (fun g hg=>by have:=Hg.out g hg;omega) tJ.out).alloc _) ⟨w3.heap.size,0,none⟩ 1 1 [.int .i64 a] rfl rfl (cell_one_new _ _ _) (by intro u hu;simp at hu;subst hu;rfl) (by unfold maxLen;omega) (by omega) ?_))
   intro v' w4 hown hgrow hnil iZ;have hS3:Side rb w w3:=Side.trans HS2.out tJ.out;have hsz:=hS3.size;have pW:=hide hown;have jS:=hide hgrow;have Hw:=hide iZ;have H3:=hide hS3;clear hown hgrow hnil iZ hS3
   go_wp2
   refine⟨⟨xs++[a],l2,b2,by simp,by simp;omega,hide ?_,hide ?_,hide ?_,hide ?_,hide ?_,by omega,hide ?_⟩,by simp[intOf];omega⟩
   ·intro b hb;rcases List.mem_append.mp hb with hb|hb
    ·exact Hf.out b hb
    ·rw[List.mem_singleton]at hb;rw[hb];exact ha2
   ·have:=pW.out;simpa using this
   ·intro g hg;rcases Hw.out with e|e
    ·exact Hg.out g (e▸hg)
    ·rw[hg]at e;injection e with e;(try simp at e);omega
   ·exact(HR2.out.alloc _).grown jS.out (fun k hk=>by have:=Hg.out k hk;omega)
   ·exact Keep.grown (Side.alloc H3.out _) jS.out (fun k hk=>hk.1) (fun k hk hp=>absurd hp.1 (by have:=Hg.out k hk;omega))
   ·rcases HC.out with⟨e1,e2⟩|⟨e1,h1⟩
    ·rcases iG.out with⟨g1,g2⟩|hno
     ·refine .inl ⟨?_,by rw[g2,e2]⟩;rw[e1,g1];simp
     ·refine .inr ⟨hno.2.1,xs,lq,Hf.out,e1,hlt,tu hno.1⟩
    ·refine .inr ⟨?_,h1⟩;rcases iG.out with⟨_,g2⟩|hno
     ·rw[g2,e1]
     ·exact hno.2.1
  ·go_wp2_with fail
   obtain⟨A2,c2,rfl,hrd,hc2,hc3⟩:=MV (S:=fun b=>w.heap.size≤b) Ho.out Hg.out;go_ret;have hnn:xs.length=n:=by omega
   refine⟨xs,lq,bq,_,_,rfl,⟨hrd,fun a ha=>Hf.out a ha,by omega⟩,hc2,hc3,Hq.out,HS2.out,by omega,?_⟩;rcases HX.out with⟨e1,e2⟩|⟨h0,e2,hno⟩
   ·rcases HC.out with⟨g1,g2⟩|⟨g1,ys,lr,q1,q2,q3,q4⟩
    ·refine .inl ⟨?_,by rw[g2,e2]⟩;rw[e1,g1,←List.append_assoc,←hnn];rfl
    ·refine .inr ⟨g1,?_⟩;rw[e1];exact Vh (fun _ _ _ _ ha hb h=>kX ha hb h) (nI (by simp only[aP];omega)) q1 q2 (by omega) q4
   ·refine .inr ⟨?_,?_⟩
    ·rcases HC.out with⟨_,g2⟩|⟨g1,_⟩
     ·rw[g2,e2]
     ·exact g1
    ·rcases hno with h8|⟨m,l2,hm,rfl,hg⟩
     ·exact Vf h8
     ·exact Vg (fun a=>Nat.le_of_eq (jm a).symm) hm hg
def tK(B rb:Nat)(w:World)(l:List UInt8)(bd:Bool)(e:Ending)(w':World):Prop:=∃(xs:List ByteArray) (l':List UInt8) (jq:Bool) (A:Option Addr) (c:Nat),e = .returned (.slice A xs.length c)∧bJ (fun b=>w.heap.size≤b) w' A xs∧xs.length≤c∧c≤9223372036854775807∧fZ B rb w' l' jq∧Side rb w w'∧l'.length≤l.length∧
   ((l=bH xs++l'∧jq=bd)∨(jq=true∧¬lQ ax (fun s=>s.size≤aP) l))
theorem Vo{B rb:Nat}{w:World}{l:List UInt8}{bd:Bool}(h:fZ B rb w l bd)(hl:l.length≤lid):Calls Tryz.prog 269 #[.pointer (some ⟨rb,0,none⟩)] w (tK B rb w l bd):=by
 have hrb:=h.lt;have HM:Hid (Calls Tryz.prog 287 #[.pointer (some ⟨rb,0,none⟩),.int .i64 8] w (jF B rb 8 w l bd)):=hide (NH (least:=8) h (by decide) (by decide));obtain⟨i0,hi,hz0,hz1,hz2⟩:=info_parts Ul;clear h;go_enter Tryz.func269,Tryz.ntmps269
 go_wp2_with(go_at_call 287;(with_reducible refine HM.out.mono ?_);rintro e w1 ⟨n,l1,b1,rfl,hn,hr,hs,hle,hx⟩;have HR:=hide hr;have HS:=hide hs;have HX:=hide hx;clear hr hs hx)
 have hl1:l1.length≤1099511627776:=by simp only[lid]at hl;omega
 go_loopw [3,5] (fun v i wr=>∃(xs:List ByteArray) (lq:List UInt8) (bq:Bool),i = .int .i64 xs.length∧xs.length≤n∧Hid (∀a∈xs,(fun s=>s.size≤aP) a)∧Hid (wr.ownsRow 0 9 1 v xs.length (xs.map (.string)))∧Hid (∀g,v.ownBlock=some g→w.heap.size≤g)∧
   Hid (fZ B rb wr lq bq)∧Hid (Side rb w wr)∧lq.length≤l1.length∧Hid ((l1=(xs.map ax).flatten++lq∧bq=b1)∨(bq=true∧∃(ys:List ByteArray) (lr:List UInt8),(∀a∈ys,(fun s=>s.size≤aP) a)∧l1=(ys.map ax).flatten++lr∧ys.length<n∧¬∃a l',(fun s=>s.size≤aP) a∧lr=ax a++l'))) (fun _ i _=>(n-intOf i).toNat)
 case atStart=>exact⟨[],l1,b1,rfl,Nat.zero_le _,hide (by simp),hide (World.ownsRow_nil _ _ _ _),hide (by simp[Value.ownBlock]),HR,HS,aC _,hide (.inl ⟨rfl,rfl⟩)⟩
 case round =>
  obtain⟨xs,lq,bq,rfl,hle2,Hf,Ho,Hg,Hq,HS2,hlq,HC⟩:=hrel;have hwr:=HS2.out.size;by_cases hlt:xs.length<n
  ·go_wp2_with(first
    | (go_at_call 267;(with_reducible refine(Iw Hq.out (by simp only[aP];omega)).mono ?_);rintro e w3 ⟨a,l2,b2,rfl,ha2,hr2,hs2,hle3,hx2⟩;have HR2:=hide hr2;have tJ:=hide hs2;have iG:=hide hx2;clear hr2 hs2 hx2)
    | (at_builtin;refine MS _ rfl _ _ 34 rfl 9 i0 (.string ByteArray.empty) 1 16 Tryz.underlying34 hi hz0 hz1 hz2 rfl (by decide) _ xs.length (xs.map (.string)) rfl ((Qk Ho.out (fun g hg=>by have:=Hg.out g hg;omega) tJ.out).alloc _) ⟨w3.heap.size,0,none⟩ 1 1 [.string a] rfl rfl (cell_one_new _ _ _) (by intro u hu;simp at hu;subst hu;rfl) (by unfold maxLen;omega) (by omega) ?_))
   intro v' w4 hown hgrow hnil iZ;have hS3:Side rb w w3:=Side.trans HS2.out tJ.out;have hsz:=hS3.size;have pW:=hide hown;have jS:=hide hgrow;have Hw:=hide iZ;have H3:=hide hS3;clear hown hgrow hnil iZ hS3
   go_wp2
   refine⟨⟨xs++[a],l2,b2,by simp,by simp;omega,hide ?_,hide ?_,hide ?_,hide ?_,hide ?_,by omega,hide ?_⟩,by simp[intOf];omega⟩
   ·intro b hb;rcases List.mem_append.mp hb with hb|hb
    ·exact Hf.out b hb
    ·rw[List.mem_singleton]at hb;rw[hb];exact ha2
   ·have:=pW.out;simpa using this
   ·intro g hg;rcases Hw.out with e|e
    ·exact Hg.out g (e▸hg)
    ·rw[hg]at e;injection e with e;(try simp at e);omega
   ·exact(HR2.out.alloc _).grown jS.out (fun k hk=>by have:=Hg.out k hk;omega)
   ·exact Keep.grown (Side.alloc H3.out _) jS.out (fun k hk=>hk.1) (fun k hk hp=>absurd hp.1 (by have:=Hg.out k hk;omega))
   ·rcases HC.out with⟨e1,e2⟩|⟨e1,h1⟩
    ·rcases iG.out with⟨g1,g2⟩|hno
     ·refine .inl ⟨?_,by rw[g2,e2]⟩;rw[e1,g1];simp
     ·refine .inr ⟨hno.1,xs,lq,Hf.out,e1,hlt,hno.2⟩
    ·refine .inr ⟨?_,h1⟩;rcases iG.out with⟨_,g2⟩|hno
     ·rw[g2,e1]
     ·exact hno.1
  ·go_wp2_with fail
   obtain⟨A2,c2,rfl,hrd,hc2,hc3⟩:=MV (S:=fun b=>w.heap.size≤b) Ho.out Hg.out;go_ret;have hnn:xs.length=n:=by omega
   refine⟨xs,lq,bq,_,_,rfl,⟨hrd,fun a ha=>Hf.out a ha,by omega⟩,hc2,hc3,Hq.out,HS2.out,by omega,?_⟩;rcases HX.out with⟨e1,e2⟩|⟨h0,e2,hno⟩
   ·rcases HC.out with⟨g1,g2⟩|⟨g1,ys,lr,q1,q2,q3,q4⟩
    ·refine .inl ⟨?_,by rw[g2,e2]⟩;rw[e1,g1,←List.append_assoc,←hnn];rfl
    ·refine .inr ⟨g1,?_⟩;rw[e1];exact Vh (fun _ _ _ _ ha hb h=>pR ha hb h) (nI (by simp only[aP];omega)) q1 q2 (by omega) q4
   ·refine .inr ⟨?_,?_⟩
    ·rcases HC.out with⟨_,g2⟩|⟨g1,_⟩
     ·rw[g2,e2]
     ·exact g1
    ·rcases hno with h8|⟨m,l2,hm,rfl,hg⟩
     ·exact Vf h8
     ·exact Vg (fun a=>by rw[Pq];omega) hm hg
end
section
open Go.RowKit
abbrev Late(N:Nat)(w w':World):Prop:=Keep (fun b=>N<b∧b<w.heap.size) w w'
section
variable {N rb : Nat} {w w' w'' : World} {A : Option Addr}
theorem Late.refl(N:Nat)(w:World):Late N w w:=Keep.refl _ _
theorem Late.set(h:Late N w w'){a:Addr}(ha:a.block≤N)(u:Value):Late N w (w'.setCell a u):=Keep.setCell h (fun hk=>absurd hk.1 (by omega)) u
theorem Late.side(h:Late N w w')(hrb:rb<N)(hs:Side rb w' w''):Late N w w'' :=
 Keep.trans h (Keep.mono hs fun k hk=>⟨aH hk.2 h.size,by have:=hk.1;omega⟩)
theorem Rd.late{xs:List Value}(h:Rd (fun b=>N<b) w A xs)(hl:Late N w w'):Rd (fun b=>N<b) w' A xs :=
 ((h.mono (S':=fun b=>N<b∧b<w.heap.size) fun _ h1 h2=>⟨h2,h1⟩).keep hl.block).mono fun _ _ h=>h.1
theorem IntsIn.late{l:List Int}(h:IntsIn (fun b=>N<b) w A l)(hl:Late N w w'):IntsIn (fun b=>N<b) w' A l:=⟨h.1.late hl,h.2⟩
theorem bJ.late{l:List ByteArray}(h:bJ (fun b=>N<b) w A l)(hl:Late N w w'):bJ (fun b=>N<b) w' A l:=⟨h.1.late hl,h.2⟩
theorem bG.late{f:Fo}(h:bG (fun b=>N<b) w A f)(hl:Late N w w'):bG (fun b=>N<b) w' A f :=
 ((h.mono (S':=fun b=>N<b∧b<w.heap.size) fun _ h1 h2=>⟨h2,h1⟩).keep hl.block).mono fun _ _ h=>h.1
theorem dm.late{x:Eh}{e:Ed}(a:dm (fun b=>N<b) w x e)(hl:Late N w w'):dm (fun b=>N<b) w' x e :=
 ⟨a.kind,a.path.late hl,a.at_,a.far,a.frm,a.to,a.old.late hl,a.new.late hl,a.pc,a.oc,a.nc⟩
end
def mF(d:Nat)(l:List UInt8):Prop:=∃(e:Ed) (l':List UInt8),mi e∧e.old.high+d≤40∧e.new.high+d≤40∧l=jg e++l'
theorem FB{d:Nat}{x:UInt8}{l1:List UInt8}(h :¬lQ au aX l1):¬mF d (x::(l1)):=by
 rintro⟨e,l',hf,hh1,hh2,he⟩;simp only[jg,List.cons_append,List.append_assoc,List.cons.injEq]at he;obtain⟨_,he⟩:=he;exact h ⟨e.path,_,hf.path.1,hf.path.2,he⟩
theorem FC{d:Nat}{x:UInt8}{l1:List UInt8}{p:List Int}(h1:gY p)(h:l1.length<8):¬mF d (x::(cO p++(l1))):=by
 rintro⟨e,l',hf,hh1,hh2,he⟩;simp only[jg,List.cons_append,List.append_assoc,List.cons.injEq]at he;obtain⟨_,he⟩:=he;obtain⟨_,he⟩:=EN h1 hf.path he;rw[he,aJ,jm]at h;omega
theorem FD{d:Nat}{x:UInt8}{l1:List UInt8}{p:List Int}{a:Int}(h1:gY p)(h2:aX a)(h:l1.length<8):¬mF d (x::(cO p++(au a++(l1)))):=by
 rintro⟨e,l',hf,hh1,hh2,he⟩;simp only[jg,List.cons_append,List.append_assoc,List.cons.injEq]at he;obtain⟨_,he⟩:=he;obtain⟨_,he⟩:=EN h1 hf.path he;obtain⟨_,he⟩:=kX h2 hf.at_ he;rw[he,aJ,jm]at h;omega
theorem FH{d:Nat}{x:UInt8}{l1:List UInt8}{p:List Int}{a:Int}{f:Int}(h1:gY p)(h2:aX a)(h3:aX f)(h :¬jE l1):¬mF d (x::(cO p++(au a++(au f++(l1))))):=by
 rintro⟨e,l',hf,hh1,hh2,he⟩;simp only[jg,List.cons_append,List.append_assoc,List.cons.injEq]at he;obtain⟨_,he⟩:=he;obtain⟨_,he⟩:=EN h1 hf.path he;obtain⟨_,he⟩:=kX h2 hf.at_ he;obtain⟨_,he⟩:=kX h3 hf.far he;exact h ⟨e.frm,_,hf.frm,he⟩
theorem FI{d:Nat}{x:UInt8}{l1:List UInt8}{p:List Int}{a:Int}{f:Int}{s:ByteArray}(h1:gY p)(h2:aX a)(h3:aX f)(h4:s.size≤aP)(h :¬jE l1):¬mF d (x::(cO p++(au a++(au f++(ax s++(l1)))))):=by
 rintro⟨e,l',hf,hh1,hh2,he⟩;simp only[jg,List.cons_append,List.append_assoc,List.cons.injEq]at he;obtain⟨_,he⟩:=he;obtain⟨_,he⟩:=EN h1 hf.path he;obtain⟨_,he⟩:=kX h2 hf.at_ he;obtain⟨_,he⟩:=kX h3 hf.far he;obtain⟨_,he⟩:=pR h4 hf.frm he;exact h ⟨e.to,_,hf.to,he⟩
theorem FK{d:Nat}{x:UInt8}{l1:List UInt8}{p:List Int}{a:Int}{f:Int}{s:ByteArray}{t:ByteArray}(h1:gY p)(h2:aX a)(h3:aX f)(h4:s.size≤aP)(h5:t.size≤aP)(h :¬iF d l1):¬mF d (x::(cO p++(au a++(au f++(ax s++(ax t++(l1))))))):=by
 rintro⟨e,l',hf,hh1,hh2,he⟩;simp only[jg,List.cons_append,List.append_assoc,List.cons.injEq]at he;obtain⟨_,he⟩:=he;obtain⟨_,he⟩:=EN h1 hf.path he;obtain⟨_,he⟩:=kX h2 hf.at_ he;obtain⟨_,he⟩:=kX h3 hf.far he;obtain⟨_,he⟩:=pR h4 hf.frm he;obtain⟨_,he⟩:=pR h5 hf.to he;exact h ⟨e.old,_,hf.old,hh1,he⟩
theorem FM{d:Nat}{x:UInt8}{l1:List UInt8}{p:List Int}{a:Int}{f:Int}{s:ByteArray}{t:ByteArray}{o:Fo}(h1:gY p)(h2:aX a)(h3:aX f)(h4:s.size≤aP)(h5:t.size≤aP)(h6:iJ o)(h :¬iF d l1):¬mF d (x::(cO p++(au a++(au f++(ax s++(ax t++(aO o++(l1)))))))):=by
 rintro⟨e,l',hf,hh1,hh2,he⟩;simp only[jg,List.cons_append,List.append_assoc,List.cons.injEq]at he;obtain⟨_,he⟩:=he;obtain⟨_,he⟩:=EN h1 hf.path he;obtain⟨_,he⟩:=kX h2 hf.at_ he;obtain⟨_,he⟩:=kX h3 hf.far he;obtain⟨_,he⟩:=pR h4 hf.frm he;obtain⟨_,he⟩:=pR h5 hf.to he;obtain⟨_,he⟩:=Pn h6 hf.old he;exact h ⟨e.new,_,hf.new,hh2,he⟩
theorem JL{d:Nat}:¬mF d []:=by
 rintro⟨e,l',_,_,_,he⟩;simp[jg]at he
end
section
open Go.RowKit
def bP(w:World)(N:Nat)(vs:List Value):Prop:=∀j u,vs[j]?=some u→w.cell? ⟨N,j,none⟩=some u
theorem jG(b:Nat){k:Nat}(hk:k≠b):∀(vs:List Value) (o:Nat) (w:World),(w.setCells b o vs).heap[k]?=w.heap[k]?
 | [],_,_=>rfl
 | v::r,o,w=>by rw[World.setCells,jG b hk r,Below.heap_setCell _ _ _ k hk]
theorem NI(b:Nat):∀(vs:List Value) (o:Nat) (w:World),(w.setCells b o vs).heap.size=w.heap.size
 | [],_,_=>rfl
 | v::r,o,w=>by rw[World.setCells,NI b r];simp[World.setCell]
theorem D6{B b:Nat}(hb:B≤b):∀(vs:List Value) (o:Nat) {w w':World},Below B w w'→Below B w (w'.setCells b o vs)
 | [],_,_,_,h=>h
 | v::r,o,_,_,h=>D6 hb r (o+1) (h.setCell (p:=⟨b,o,none⟩) hb v)
theorem uZ{w:World}{N:Nat}{us:List Value}(hu:bP w N us)(o:Nat)(vs:List Value)(ho:o+vs.length≤us.length):bP (w.setCells N o vs) N (us.take o++vs++us.drop (o+vs.length)):=by
 intro j u hj;have hl:(us.take o).length=o:=by simp;omega
 by_cases h1:j<o
 ·rw[World.cell?_setCells_out N vs o w ⟨N,j,none⟩ (fun _ _=> .inl h1)];rw[List.append_assoc,List.getElem?_append_left (by omega),List.getElem?_take,if_pos h1]at hj;exact hu j u hj
 ·by_cases h2:j<o+vs.length
  ·have h3:=World.cell?_setCells_in N vs o w (fun i hi=>by
    have:us[o+i]?=some us[o+i]:=List.getElem?_eq_getElem (by omega);rw[hu _ _ this];rfl) (j-o) (by omega)
   rw[show o+(j-o)=j by omega]at h3;rw[h3];rw[List.append_assoc,List.getElem?_append_right (by omega),hl,List.getElem?_append_left (by omega),List.getElem?_eq_getElem (by omega)]at hj;exact hj
  ·rw[World.cell?_setCells_out N vs o w ⟨N,j,none⟩ (fun _ _=> .inr (by show o+vs.length≤j;omega))];rw[List.append_assoc,List.getElem?_append_right (by omega),hl,List.getElem?_append_right (by omega),List.getElem?_drop]at hj;rw[show o+vs.length+(j-o-vs.length)=j by omega]at hj;exact hu j u hj
theorem Qo{w:World}{N M:Nat}{us:List Value}(hu:bP w M us)(hM:M≠N)(o:Nat)(vs:List Value):bP (w.setCells N o vs) M us :=
 fun j u hj=>(World.cell?_setCells_out N vs o w ⟨M,j,none⟩ (fun e _=>absurd e hM)).trans (hu j u hj)
structure dw(w wx:World)(us zs:List Value):Prop where
 c:bP wx w.heap.size us
 r:bP wx (w.heap.size+1) zs
 fc :∀o,wx.frozen? ⟨w.heap.size,o,none⟩=false
 fr :∀o,wx.frozen? ⟨w.heap.size+1,o,none⟩=false
 b:Below w.heap.size w wx
 z:w.heap.size+2≤wx.heap.size
section
variable {w wx w1 : World} {us zs : List Value}
theorem dw.start(w:World)(cs ds:Array Value)(t u:TypeId):dw w ((w.alloc (.cells cs t)).alloc (.cells ds u)) cs.toList ds.toList :=
 ⟨fun j v hv=>by rw[World.cell?_alloc2_first];simpa using hv,fun j v hv=>by rw[World.cell?_alloc2_new];simpa using hv,fun o=>World.frozen?_alloc2_first _ _ _ _,fun o=>World.frozen?_alloc2_new _ _ _ _,iD _ _,by simp⟩
theorem dw.call(h:dw w wx us zs)(hB:Below wx.heap.size wx w1):dw w w1 us zs:=by
 have hz:=h.z;exact⟨fun j v hv=>(hB.cell (p:=⟨w.heap.size,j,none⟩) (by simp only;omega)).trans (h.c j v hv),fun j v hv=>(hB.cell (p:=⟨w.heap.size+1,j,none⟩) (by simp only;omega)).trans (h.r j v hv),
  fun o=>(hB.frozen (p:=⟨w.heap.size,o,none⟩) (by simp only;omega)).trans (h.fc o),fun o=>(hB.frozen (p:=⟨w.heap.size+1,o,none⟩) (by simp only;omega)).trans (h.fr o),aW h.b hB,aI hz hB.size⟩
theorem dw.put(h:dw w wx us zs)(o:Nat)(vs:List Value)(ho:o+vs.length≤us.length):dw w (wx.setCells w.heap.size o vs) (us.take o++vs++us.drop (o+vs.length)) zs :=
 ⟨uZ h.c o vs ho,Qo h.r (by omega) o vs,fun q=>by rw[World.frozen?_setCells];exact h.fc q,fun q=>by rw[World.frozen?_setCells];exact h.fr q,D6 (aC _) vs o h.b,by rw[NI];exact h.z⟩
theorem dw.res(h:dw w wx us zs)(vs:List Value)(hl:vs.length=zs.length):bP (wx.setCells (w.heap.size+1) 0 vs) (w.heap.size+1) vs∧Below w.heap.size w (wx.setCells (w.heap.size+1) 0 vs):=by
 refine⟨?_,D6 (by omega) vs 0 h.b⟩;have:=uZ h.r 0 vs (by omega);rw[List.take_zero,List.nil_append,List.drop_eq_nil_of_le (by omega),List.append_nil]at this;exact this
end
section
variable {S S' : Nat → Prop} {w w' : World} {A : Option Addr} {c : Nat}
theorem dA.below{n:Nat}{e:TypeId}{vs:List Value}(h:dA S w A c n e vs)(hB:Below w.heap.size w w'):dA S w' A c n e vs:=by
 obtain⟨g,cs,h1,h2,h3,h4⟩:=h;exact⟨g,cs,h1,h2,(hB.block g (Array.getElem?_eq_some_iff.1 h3).1).trans h3,h4⟩
theorem bK.lt :∀{f:Fo} {g o:Nat},bK S w g o f→g<w.heap.size
 | .nil,_,_,h=>block_lt_of_cell (h 0 (by omega)).1
 | .cons _ _ _ _ _,_,_,⟨_,_,c0,_⟩=>block_lt_of_cell c0
theorem bK.bound :∀{f:Fo} {g o:Nat},bK S w g o f→bK (fun b=>S b∧b<w.heap.size) w g o f
 | .nil,_,_,h=>h
 | .cons k t n ks r,g,o,⟨g',kc,c0,c1,c2,c3,h1,h2,h3,h4,h5,h6,h7,h8⟩=>⟨g',kc,c0,c1,c2,c3,h1,h2,h3,h4,h5,⟨h6,h7.lt⟩,bK.bound h7,bK.bound h8⟩
theorem bQ.below{f:Fo}(h:bQ S w A c f)(hB:Below w.heap.size w w'):bQ S w' A c f:=by
 obtain⟨g,e,h1,h2,h3,h4⟩:=h;exact⟨g,e,h1,h2,h3,((h4.bound.keep ⟨h1,h4.lt⟩ (fun b hb=>hB.block b hb.2)).mono fun b hb=>hb.1)⟩
theorem bT.below{l:List ByteArray}(h:bT S w A c l)(hB:Below w.heap.size w w'):bT S w' A c l:=⟨h.1.below hB,h.2⟩
theorem cZ.below{l:List Int}(h:cZ S w A c l)(hB:Below w.heap.size w w'):cZ S w' A c l:=⟨h.1.below hB,h.2⟩
theorem eG.below{x:Hh}{h:Hk}(a:eG S w x h)(hB:Below w.heap.size w w'):eG S w' x h:=⟨a.at_,a.old.below hB,a.new.below hB⟩
theorem fK.below{x:Eh}{e:Ed}(a:fK S w x e)(hB:Below w.heap.size w w'):fK S w' x e:=⟨a.kind,a.path.below hB,a.at_,a.far,a.frm,a.to,a.old.below hB,a.new.below hB⟩
theorem eH.below{x:Ph}{p:Pt}(a:eH S w x p)(hB:Below w.heap.size w w'):eH S w' x p:=⟨a.kind,a.file,a.text,a.hunk.below hB,a.edit.below hB⟩
theorem bT.mono{l:List ByteArray}(h:bT S w A c l)(hm :∀b,S b→S' b):bT S' w A c l:=⟨h.1.mono fun b _ hb=>hm b hb,h.2⟩
theorem cZ.mono{l:List Int}(h:cZ S w A c l)(hm :∀b,S b→S' b):cZ S' w A c l:=⟨h.1.mono fun b _ hb=>hm b hb,h.2⟩
theorem eG.mono{x:Hh}{h:Hk}(a:eG S w x h)(hm :∀b,S b→S' b):eG S' w x h:=⟨a.at_,a.old.mono hm,a.new.mono hm⟩
theorem fK.mono{x:Eh}{e:Ed}(a:fK S w x e)(hm :∀b,S b→S' b):fK S' w x e:=⟨a.kind,a.path.mono hm,a.at_,a.far,a.frm,a.to,a.old.mono hm,a.new.mono hm⟩
theorem eH.mono{x:Ph}{p:Pt}(a:eH S w x p)(hm :∀b,S b→S' b):eH S' w x p:=⟨a.kind,a.file,a.text,a.hunk.mono hm,a.edit.mono hm⟩
end
end
section
open Go.RowKit
theorem dw.putR{w wx:World}{us zs:List Value}(h:dw w wx us zs)(o:Nat)(vs:List Value)(ho:o+vs.length≤zs.length):dw w (wx.setCells (w.heap.size+1) o vs) us (zs.take o++vs++zs.drop (o+vs.length)):=
 ⟨Qo h.c (by omega) o vs,uZ h.r o vs ho,fun q=>by rw[World.frozen?_setCells];exact h.fc q,fun q=>by rw[World.frozen?_setCells];exact h.fr q,D6 (by omega) vs o h.b,by rw[NI];exact h.z⟩
def xA(e:Ending):Prop:=∃r:Int,e = .returned (.int .i64 r)∧aX r
theorem ve(x:Int):aX (wrap64 x):=by unfold aX wrap64;omega
def cnt:List ByteArray→Int→Int→Int
 | [],_,n=>n
 | s::r,m,n=>if n≤m then cnt r m (wrap64 (n+wrap64 ((s.size:Int) / 8)))else n
theorem xB{l:List ByteArray}{q:Nat}{m n r:Int}(hq:q<l.length)(h:cnt (l.drop q) m n=r)(hn:n≤m):cnt (l.drop (q+1)) m (wrap64 (n+wrap64 ((l[q].size:Int) / 8)))=r:=by
 rw[List.drop_eq_getElem_cons hq]at h;unfold cnt at h
 rwa [if_pos hn]at h
theorem Vp{l:List ByteArray}{q:Nat}{m n r:Int}(h:cnt (l.drop q) m n=r)(hn :¬(q<l.length∧n≤m)):n=r:=by
 by_cases hq:q<l.length
 ·rw[List.drop_eq_getElem_cons hq]at h;unfold cnt at h
  rwa [if_neg (fun e=>hn ⟨hq,e⟩)]at h
 ·rw[List.drop_eq_nil_of_le (by omega)]at h;exact h
theorem Vq{S:Nat→Prop}{A:Option Addr}{c:Nat}{l:List ByteArray}{w:World}{m:Int}(hl:bJ S w A l):
  Calls Tryz.prog 18 #[.slice A l.length c,.int .i64 m] w fun e w'=>e = .returned (.int .i64 (cnt l m l.length))∧w=w':=by
 have Hl:=hide hl;have hlen:l.length≤9223372036854775807:=hl.2.2;clear hl;go_enter Tryz.func18,Tryz.ntmps18
 go_wp2_with fail
 go_loopw [5,6] (fun v i wr=>∃(q:Nat) (n:Int),q≤l.length∧i = .int .i64 q∧v = .int .i64 n∧Hid (cnt (l.drop q) m n=cnt l m l.length)∧w=wr) (fun _ i _=>l.length-(intOf i).toNat)
 case atStart=>exact⟨0,l.length,Nat.zero_le _,rfl,rfl,hide rfl,rfl⟩
 case round =>
  obtain⟨q,n,hq,rfl,rfl,Hn,rfl⟩:=hrel;by_cases hlt:q<l.length
  ·obtain⟨b,o,rfl,hc⟩:=Hl.out.1.at_ (j:=q) (by simpa using hlt);simp only[List.getElem_map]at hc;by_cases hnm:n≤m
   ·have Hs:=hide (xB hlt Hn.out hnm)
    go_wp2_with fail
    go_roundw
    case rel=>exact⟨q+1,_,by omega,by go_num,rfl,Hs,(by first|rfl|trivial)⟩
    case measure=>simp[intOf];omega
   ·have hs:=hide (Vp Hn.out (fun e=>hnm e.2))
    go_wp2_with fail
    go_ret;exact⟨by rw[←hs.out];rfl,rfl⟩
  ·have hs:=hide (Vp Hn.out (fun e=>hlt e.1))
   go_wp2_with fail
   go_ret;exact⟨by rw[←hs.out];rfl,rfl⟩
theorem Zc(N:Nat):∀(S:Nat→Prop) (k:Nat) (t:ByteArray) (n:Int) (A:Option Addr) (c:Nat) (ks:Fo) (m:Int) (w:World),ks.cnt<N→bG S w A ks→ks.len≤9223372036854775807→aX m→
    Calls Tryz.prog 166 #[.agg #[.int .u8 k,.string t,.int .i64 n,.slice A ks.len c],.int .i64 m] w fun e w'=>xA e∧Below w.heap.size w w':=by
  induction N with
  | zero=>intro S k t n A c ks m w h;omega
  | succ N ih =>
    intro S k t n A c ks m w hcnt hks hlen hm;have kT:=hide hks;have nH:=hide ih;clear hks ih;go_enter Tryz.func166,Tryz.ntmps166
    go_wp2_with fail
    go_loopw [5,6] (fun v i wr=>∃(q:Nat) (n:Int),q≤ks.len∧i = .int .i64 q∧v = .int .i64 n∧Hid (aX n)∧Hid (Below w.heap.size w wr)∧w.heap.size<wr.heap.size∧wr.cell? ⟨w.heap.size,3,none⟩=some (.slice A ks.len c)) (fun _ i _=>ks.len-(intOf i).toNat)
    case atStart=>exact⟨0,_,Nat.zero_le _,rfl,rfl,hide (by first|exact ve _|(unfold aX;omega)),hide (az _ _),by simp,by simp⟩
    case round =>
      obtain⟨q,n,hq,rfl,rfl,Hn,HB,hz,hc⟩:=hrel;by_cases hlt:q<ks.len
      · obtain⟨b,o,KA,c',k',t',n',ks',r,rfl,hd,c0,c1,c2,c3,e1,e2,e3,e4,e5,fJ,hcn⟩:=(kT.out.below HB.out).at_ hlt
        have jX:=hide fJ;clear hd e3 fJ
        go_wp2_with(go_at_call 166;(with_reducible refine(nH.out S k' t' n' KA c' ks' _ _ (by omega) jX.out (by omega) (by first|exact ve _|(unfold aX;omega))).mono ?_);rintro e w2 ⟨⟨r2,rfl,hr2⟩,hB⟩;have HB2:=hide (HB.out.trans (hB.mono HB.out.size));have hcell:=(hB.cell (p:=⟨w.heap.size,3,none⟩) hz).trans hc;have hz2:=aH hz hB.size;clear hB)
        all_goals first
          | (go_ret;exact⟨⟨_,rfl,Hn.out⟩,HB.out⟩)
          | (go_roundw
             case rel=>exact⟨q+1,_,by omega,by go_num,rfl,hide (by first|exact ve _|(unfold aX;omega)),HB2,hz2,hcell⟩
             case measure=>simp[intOf];omega)
      · go_wp2_with fail
        all_goals(go_ret;exact⟨⟨_,rfl,Hn.out⟩,HB.out⟩)
theorem Qp{S:Nat→Prop}{k:Nat}{t:ByteArray}{n:Int}{A:Option Addr}{c:Nat}{ks:Fo}{m:Int}{w:World}(h:bG S w A ks)(hl:ks.len≤9223372036854775807)(hm:aX m):
  Calls Tryz.prog 166 #[.agg #[.int .u8 k,.string t,.int .i64 n,.slice A ks.len c],.int .i64 m] w fun e w'=>xA e∧Below w.heap.size w w':=Zc (ks.cnt+1) S k t n A c ks m w (by omega) h hl hm
theorem Zd{S:Nat→Prop}{x:Eh}{e:Ed}{w:World}{m:Int}(he:dm S w x e)(hm:aX m):
  Calls Tryz.prog 101 #[.agg #[.int .u8 e.kind,.slice x.pA e.path.length x.pc,.int .i64 e.at_,.int .i64 e.far,.string e.frm,.string e.to,.slice x.oA e.old.len x.oc,.slice x.nA e.new.len x.nc],.int .i64 m] w fun e1 w'=>xA e1∧Below w.heap.size w w':=by
 have Ho:=hide he.old;have Hn:=hide he.new;have hoc:=he.oc;have hnc:=he.nc;have hpc:=he.pc;clear he;go_enter Tryz.func101,Tryz.ntmps101
 go_wp2_with fail
 go_loopw [5,6] (fun v i wr=>∃(q:Nat) (n:Int),q≤e.old.len∧i = .int .i64 q∧v = .int .i64 n∧Hid (aX n)∧Hid (Below w.heap.size w wr)∧w.heap.size<wr.heap.size∧(∀o,wr.cell? ⟨w.heap.size,o,none⟩=(w.alloc (.cells #[.int .u8 e.kind,.slice x.pA e.path.length x.pc,.int .i64 e.at_,.int .i64 e.far,.string e.frm,.string e.to,.slice x.oA e.old.len x.oc,.slice x.nA e.new.len x.nc] 41)).cell? ⟨w.heap.size,o,none⟩)) (fun _ i _=>e.old.len-(intOf i).toNat)
 case atStart=>exact⟨0,_,Nat.zero_le _,rfl,rfl,hide (ve _),hide (az _ _),by simp,fun o=>rfl⟩
 case round =>
  obtain⟨q,n,hq,rfl,rfl,Aj,HB,hz,hc⟩:=hrel;by_cases hlt:q<e.old.len
  ·by_cases hnm:n≤m
   ·skip
    obtain⟨b,o,KA,c',k',t',n',ks',r,hA,hd,c0,c1,c2,c3,e1,e2,e3,e4,e5,fJ,hcn⟩:=(Ho.out.below HB.out).at_ hlt;have jX:=hide fJ;clear hd e3 fJ
    go_wp2_with(go_at_call 166;(with_reducible refine(Qp jX.out (by omega) (by first|exact ve _|(unfold aX;omega))).mono ?_);rintro e3 w2 ⟨⟨r2,rfl,hr2⟩,hB⟩;have HB3:=hide (HB.out.trans (hB.mono HB.out.size));have hcell :∀o,w2.cell? ⟨w.heap.size,o,none⟩=(w.alloc (.cells #[.int .u8 e.kind,.slice x.pA e.path.length x.pc,.int .i64 e.at_,.int .i64 e.far,.string e.frm,.string e.to,.slice x.oA e.old.len x.oc,.slice x.nA e.new.len x.nc] 41)).cell? ⟨w.heap.size,o,none⟩:=(fun o=>(hB.cell (p:=⟨w.heap.size,o,none⟩) hz).trans (hc o));have hz3:=aH hz hB.size;clear hB)
    go_roundw
    case rel=>exact⟨_,.int .i64 ((q:Int)+1),_,_,_,_,_,_,_,_,_,_,_,_,_,_,_,_,_,_,_,_,_,_,_,⟨q+1,wrap64 (n+r2),by omega,by go_num,rfl,hide (ve _),HB3,hz3,hcell⟩,(by rw[hA])⟩
    case measure=>simp[intOf];omega
   ·go_wp2_with fail
    go_loopw [5,7] (fun v i wr=>∃(q:Nat) (n:Int),q≤e.new.len∧i = .int .i64 q∧v = .int .i64 n∧Hid (aX n)∧Hid (Below w.heap.size w wr)∧w.heap.size<wr.heap.size∧(∀o,wr.cell? ⟨w.heap.size,o,none⟩=(w.alloc (.cells #[.int .u8 e.kind,.slice x.pA e.path.length x.pc,.int .i64 e.at_,.int .i64 e.far,.string e.frm,.string e.to,.slice x.oA e.old.len x.oc,.slice x.nA e.new.len x.nc] 41)).cell? ⟨w.heap.size,o,none⟩)) (fun _ i _=>e.new.len-(intOf i).toNat)
    case atStart=>exact⟨0,_,Nat.zero_le _,rfl,rfl,Aj,HB,hz,hc⟩
    case round =>
     clear HB hz hc Aj;obtain⟨q,n,hq,rfl,rfl,Aj,HB,hz,hc⟩:=hrel;by_cases hlt:q<e.new.len
     ·by_cases hnm:n≤m
      ·skip
       obtain⟨b,o,KA,c',k',t',n',ks',r,hA,hd,c0,c1,c2,c3,e1,e2,e3,e4,e5,fJ,hcn⟩:=(Hn.out.below HB.out).at_ hlt;have jX:=hide fJ;clear hd e3 fJ
       go_wp2_with(go_at_call 166;(with_reducible refine(Qp jX.out (by omega) (by first|exact ve _|(unfold aX;omega))).mono ?_);rintro e3 w2 ⟨⟨r2,rfl,hr2⟩,hB⟩;have HB3:=hide (HB.out.trans (hB.mono HB.out.size));have hcell :∀o,w2.cell? ⟨w.heap.size,o,none⟩=(w.alloc (.cells #[.int .u8 e.kind,.slice x.pA e.path.length x.pc,.int .i64 e.at_,.int .i64 e.far,.string e.frm,.string e.to,.slice x.oA e.old.len x.oc,.slice x.nA e.new.len x.nc] 41)).cell? ⟨w.heap.size,o,none⟩:=(fun o=>(hB.cell (p:=⟨w.heap.size,o,none⟩) hz).trans (hc o));have hz3:=aH hz hB.size;clear hB)
       go_roundw
       case rel=>exact⟨_,.int .i64 ((q:Int)+1),_,_,_,_,_,_,_,_,_,_,_,_,_,_,_,_,_,_,_,_,_,_,_,⟨q+1,wrap64 (n+r2),by omega,by go_num,rfl,hide (ve _),HB3,hz3,hcell⟩,(by rw[hA])⟩
       case measure=>simp[intOf];omega
      ·go_wp2_with fail
       all_goals(go_ret;exact⟨⟨_,rfl,Aj.out⟩,HB.out⟩)
     ·go_wp2_with fail
      all_goals(go_ret;exact⟨⟨_,rfl,Aj.out⟩,HB.out⟩)
  ·go_wp2_with fail
   go_loopw [5,7] (fun v i wr=>∃(q:Nat) (n:Int),q≤e.new.len∧i = .int .i64 q∧v = .int .i64 n∧Hid (aX n)∧Hid (Below w.heap.size w wr)∧w.heap.size<wr.heap.size∧(∀o,wr.cell? ⟨w.heap.size,o,none⟩=(w.alloc (.cells #[.int .u8 e.kind,.slice x.pA e.path.length x.pc,.int .i64 e.at_,.int .i64 e.far,.string e.frm,.string e.to,.slice x.oA e.old.len x.oc,.slice x.nA e.new.len x.nc] 41)).cell? ⟨w.heap.size,o,none⟩)) (fun _ i _=>e.new.len-(intOf i).toNat)
   case atStart=>exact⟨0,_,Nat.zero_le _,rfl,rfl,Aj,HB,hz,hc⟩
   case round =>
    clear HB hz hc Aj;obtain⟨q,n,hq,rfl,rfl,Aj,HB,hz,hc⟩:=hrel;by_cases hlt:q<e.new.len
    ·by_cases hnm:n≤m
     ·skip
      obtain⟨b,o,KA,c',k',t',n',ks',r,hA,hd,c0,c1,c2,c3,e1,e2,e3,e4,e5,fJ,hcn⟩:=(Hn.out.below HB.out).at_ hlt;have jX:=hide fJ;clear hd e3 fJ
      go_wp2_with(go_at_call 166;(with_reducible refine(Qp jX.out (by omega) (by first|exact ve _|(unfold aX;omega))).mono ?_);rintro e3 w2 ⟨⟨r2,rfl,hr2⟩,hB⟩;have HB3:=hide (HB.out.trans (hB.mono HB.out.size));have hcell :∀o,w2.cell? ⟨w.heap.size,o,none⟩=(w.alloc (.cells #[.int .u8 e.kind,.slice x.pA e.path.length x.pc,.int .i64 e.at_,.int .i64 e.far,.string e.frm,.string e.to,.slice x.oA e.old.len x.oc,.slice x.nA e.new.len x.nc] 41)).cell? ⟨w.heap.size,o,none⟩:=(fun o=>(hB.cell (p:=⟨w.heap.size,o,none⟩) hz).trans (hc o));have hz3:=aH hz hB.size;clear hB)
      go_roundw
      case rel=>exact⟨_,.int .i64 ((q:Int)+1),_,_,_,_,_,_,_,_,_,_,_,_,_,_,_,_,_,_,_,_,_,_,_,⟨q+1,wrap64 (n+r2),by omega,by go_num,rfl,hide (ve _),HB3,hz3,hcell⟩,(by rw[hA])⟩
      case measure=>simp[intOf];omega
     ·go_wp2_with fail
      all_goals(go_ret;exact⟨⟨_,rfl,Aj.out⟩,HB.out⟩)
    ·go_wp2_with fail
     all_goals(go_ret;exact⟨⟨_,rfl,Aj.out⟩,HB.out⟩)
theorem Ze{S:Nat→Prop}{x:Ph}{p:Pt}{w:World}{m:Int}(hp:bM S w x p)(hm:aX m):
  Calls Tryz.prog 37 #[.agg #[.int .u8 p.kind,.string p.file,.string p.text,.int .i64 p.hunk.at_,.slice x.h.oA p.hunk.old.length x.h.oc,.slice x.h.nA p.hunk.new.length x.h.nc,.int .u8 p.edit.kind,.slice x.e.pA p.edit.path.length x.e.pc,.int .i64 p.edit.at_,.int .i64 p.edit.far,.string p.edit.frm,.string p.edit.to,.slice x.e.oA p.edit.old.len x.e.oc,.slice x.e.nA p.edit.new.len x.e.nc],.int .i64 m] w fun e1 w'=>xA e1∧Below w.heap.size w w':=by
 have Hp:=hide hp;have Hm:=hide hm;clear hp hm;go_enter Tryz.func37,Tryz.ntmps37
 go_wp2_with fail
 go_quiet ((go_at_call 18;first
  | ((with_reducible refine(Vq (Hp.out.hunk.old.below (di (az _ _) _))).mono ?_);rintro e2 w2 ⟨rfl,rfl⟩;exact⟨rfl,_,rfl⟩)
  | ((with_reducible refine(Vq (Hp.out.hunk.new.below (di (az _ _) _))).mono ?_);rintro e3 w3 ⟨rfl,rfl⟩;exact⟨rfl,_,rfl⟩)))
 go_wp2_with(go_at_call 101;(with_reducible refine(Zd (Hp.out.edit.below (di (az _ _) _)) (ve _)).mono ?_);rintro e4 w4 ⟨⟨r4,rfl,hr4⟩,hB⟩;have HB:Hid (Below w.heap.size w w4):=hide (aW (di (az _ _) _) hB);clear hB)
 all_goals(go_ret;exact⟨⟨_,rfl,ve _⟩,(by first|exact HB.out|exact di (az _ _) _)⟩)
end
end Go.Proofs.YtjjaojnglnpgaaaGreatDoor
