/- Part 15 of what scriptParses_card rests on. -/
import Derived.Deep.RegionHeld
import Derived.Test.YtjjaojnglnpgaaaGreatDoorProg
import Derived.ChangeMaps5
import Derived.Maps.RangeWalk
import Derived.Maps.OwnSet
import Derived.Test.YtjjaojnglnpgaaaGreatDoorZ11
import Derived.Test.YtjjaojnglnpgaaaGreatDoorZ03
import Derived.Test.YtjjaojnglnpgaaaGreatDoorZ05
import Derived.Test.YtjjaojnglnpgaaaGreatDoorZ08
import Derived.Test.YtjjaojnglnpgaaaGreatDoorZ10
import Derived.Test.YtjjaojnglnpgaaaGreatDoorZ01
import Derived.Test.YtjjaojnglnpgaaaGreatDoorZ13
import Derived.Test.YtjjaojnglnpgaaaGreatDoorZ02
import Derived.Test.YtjjaojnglnpgaaaGreatDoorZ06
import Derived.Test.YtjjaojnglnpgaaaGreatDoorZ00
set_option linter.unusedVariables false
set_option linter.unusedSimpArgs false
set_option maxHeartbeats 16000000
set_option maxRecDepth 1000000
namespace Go.Proofs.YtjjaojnglnpgaaaGreatDoor
section
open Go.RowKit
theorem Ja{D:Nat→Prop}{N:Nat}{w:World}{l:List ByteArray}(h:WdIn D N w l)(hs :∀s r,l=s::r→isWord s=false):
  Calls Tryz.prog 77 #[.pointer (some ⟨N,0,none⟩)] w fun e w'=>e=nones∧SideN N w w':=by
 rcases l with _|⟨s,r⟩
 ·refine(Iw h).mono ?_;rintro e w' ⟨rfl,rfl⟩;exact⟨rfl,Keep.refl _ _⟩
 ·refine(Iy h (hs s r rfl)).mono ?_;rintro e w' ⟨rfl,u,rfl⟩;exact⟨rfl,(Keep.refl _ w).setCell (fun hk=>hk.2 rfl) _⟩
theorem qP{D:Nat→Prop}{N:Nat}{w:World}{l:List ByteArray}{vs:List Value}(h:LnIn D N w l vs)(hs :∀s r,l=s::r→isWord s=false):
  Calls Tryz.prog 107 #[.pointer (some ⟨N,0,none⟩)] w fun e w'=>e=nones∧SideN N w w':=by
 have H:Hid (LnIn D N w.drew l vs):=hide (h.below ((Below.refl _ w).drew));have h0:SideN N w w.drew:=(Keep.refl _ w).drew;clear h;go_enter Tryz.func107,Tryz.ntmps107
 go_upto_region 0 with fail
 refine wp_region_held_drew (S:=fun _=>True) (by kernel_rfl) trivial (fun hHeld=>?_);refine ae 0 hHeld ?_;refine ae 1 hHeld ?_;refine ae 2 hHeld ?_;refine ae 3 hHeld ?_;refine ae 4 hHeld ?_;refine ae 6 hHeld ?_;refine ae 7 hHeld ?_;refine ae 8 hHeld ?_;refine wpAnyH_ready (rs:=[5]) (by kernel_rfl) (by simp) ?_;refine AllReadyH.cons rfl (fun K hK=>?_) AllReadyH.nil;go_simp
 go_wp2_with(go_at_call 77;(with_reducible refine(Ja H.out.wd hs).mono ?_);rintro e1 w1 ⟨rfl,h1⟩)
 exact⟨rfl,rfl,h0.trans (h1.mono fun k hk=>⟨aH hk.1 h0.size,hk.2⟩)⟩
theorem qQ{D:Nat→Prop}{N:Nat}{w:World}{s:ByteArray}{l:List ByteArray}{vs:List Value}(h:LnIn D N w (s::l) vs)(hw:isWord s=true)(hs :∀s r,l=s::r→isWord s=false):
  Calls Tryz.prog 107 #[.pointer (some ⟨N,0,none⟩)] w fun e w'=>e=nones∧SideN N w w':=by
 have H:Hid (LnIn D N w.drew (s::l) vs):=hide (h.below ((Below.refl _ w).drew));have h0:SideN N w w.drew:=(Keep.refl _ w).drew;clear h;go_enter Tryz.func107,Tryz.ntmps107
 go_upto_region 0 with fail
 refine wp_region_held_drew (S:=fun _=>True) (by kernel_rfl) trivial (fun hHeld=>?_);refine ae 0 hHeld ?_;refine ae 1 hHeld ?_;refine ae 2 hHeld ?_;refine ae 3 hHeld ?_;refine ae 4 hHeld ?_;refine ae 6 hHeld ?_;refine ae 7 hHeld ?_;refine ae 8 hHeld ?_;refine wpAnyH_ready (rs:=[5]) (by kernel_rfl) (by simp) ?_;refine AllReadyH.cons rfl (fun K hK=>?_) AllReadyH.nil;go_simp
 go_wp2_with(go_at_call 77;(with_reducible refine(lX H.out.wd hw).mono ?_);rintro e1 w1 ⟨rfl,h1,u,hu⟩;have h2:=H.out.take hu h1;have H2:=hide h2;have h3:SideN N w w1:=(by rw[hu];exact h0.setCell (fun hk=>hk.2 rfl) u);clear hu h1 h2)
 refine hK.out _ _ trivial (fun hHeld=>?_);clear hK K
 try simp only[Act.put,aG,aE,aF,aD,aA,aB]
 refine wpAnyH_ready (rs:=[9]) (by kernel_rfl) (by simp) ?_;refine AllReadyH.cons rfl (fun K hK=>?_) AllReadyH.nil;go_simp
 go_wp2_with(go_at_call 77;(with_reducible refine(Ja H2.out.wd hs).mono ?_);rintro e4 w4 ⟨rfl,h4⟩)
 exact⟨rfl,rfl,h3.trans (h4.mono fun k hk=>⟨aH hk.1 h3.size,hk.2⟩)⟩
end
section
open Go.RowKit
def Ph.zero:Ph:=⟨⟨none,0,none,0⟩,⟨none,0,none,0,none,0⟩⟩
abbrev cmdVs(c:Cmd)(x:Ph)(A:Option Addr)(n:Nat):List Value:=[.int .u8 c.kind,.string c.repo,.string c.frm,.string c.name,.string c.file,.int .u8 c.patch.kind,.string c.patch.file,.string c.patch.text,.int .i64 c.patch.hunk.at_,.slice x.h.oA c.patch.hunk.old.length x.h.oc,.slice x.h.nA c.patch.hunk.new.length x.h.nc,.int .u8 c.patch.edit.kind,.slice x.e.pA c.patch.edit.path.length x.e.pc,.int .i64 c.patch.edit.at_,.int .i64 c.patch.edit.far,.string c.patch.edit.frm,.string c.patch.edit.to,.slice x.e.oA c.patch.edit.old.len x.e.oc,.slice x.e.nA c.patch.edit.new.len x.e.nc,.slice A c.bytes.length n]
structure CmdIn(S:Nat→Prop)(w:World)(c:Cmd)(x:Ph)(A:Option Addr)(n:Nat):Prop where
 kind:c.kind<256
 repo:c.repo.size≤9223372036854775807
 frm:c.frm.size≤9223372036854775807
 name:c.name.size≤9223372036854775807
 file:c.file.size≤9223372036854775807
 patch:PtIn S w x c.patch
 bytes:BytesIn S w A c.bytes
 cap:c.bytes.length≤n∧n≤9223372036854775807
def CmdO(w:World)(c:Cmd)(x:Ph)(A:Option Addr)(n:Nat)(L:List Nat):Prop :=
 ∃L1 L2,PtO w x c.patch L1∧RowO 5 w A n c.bytes.length (Lib.byteCells c.bytes) L2∧L=L1++L2
def CmdAt(M:Nat)(w:World)(c:Cmd)(x:Ph)(A:Option Addr)(n:Nat):Prop:=CmdIn (fun b=>M≤b) w c x A n∧∃L,CmdO w c x A n L∧L.Nodup∧∀b∈L,M≤b
section
variable {S S' : Nat → Prop} {w w' : World} {c : Cmd} {x : Ph} {A : Option Addr} {n M : Nat} {L : List Nat}
theorem CmdIn.keep(h:CmdIn S w c x A n)(hk :∀b,S b→w'.heap[b]?=w.heap[b]?):CmdIn S w' c x A n:=⟨h.kind,h.repo,h.frm,h.name,h.file,h.patch.keep hk,h.bytes.keep hk,h.cap⟩
theorem CmdIn.mono(h:CmdIn S w c x A n)(hm :∀b,b<w.heap.size→S b→S' b):CmdIn S' w c x A n:=⟨h.kind,h.repo,h.frm,h.name,h.file,h.patch.mono hm,h.bytes.mono hm,h.cap⟩
theorem CmdIn.below(h:CmdIn S w c x A n)(hb:Below w.heap.size w w'):CmdIn S w' c x A n:=⟨h.kind,h.repo,h.frm,h.name,h.file,h.patch.below hb,h.bytes.below hb,h.cap⟩
theorem CmdO.keep(h:CmdO w c x A n L)(hk :∀b∈L,w'.heap[b]?=w.heap[b]?):CmdO w' c x A n L:=by
 obtain⟨L1,L2,h1,h2,rfl⟩:=h;exact⟨L1,L2,h1.keep fun b hb=>hk b (by simp[hb]),h2.keep fun b hb=>hk b (by simp[hb]),rfl⟩
theorem CmdO.lt(h:CmdO w c x A n L):∀b∈L,b<w.heap.size:=by
 obtain⟨L1,L2,h1,h2,rfl⟩:=h;intro b hb;rcases List.mem_append.1 hb with hb|hb
 ·exact h1.lt b hb
 ·exact h2.lt b hb
theorem CmdAt.keep(h:CmdAt M w c x A n)(hk :∀b,M≤b→w'.heap[b]?=w.heap[b]?):CmdAt M w' c x A n:=by
 obtain⟨h1,L,h2,h3,h4⟩:=h;exact⟨h1.keep hk,L,h2.keep fun b hb=>hk b (h4 b hb),h3,h4⟩
theorem CmdAt.mono{M':Nat}(h:CmdAt M w c x A n)(hm:M'≤M):CmdAt M' w c x A n:=by
 obtain⟨h1,L,h2,h3,h4⟩:=h;exact⟨h1.mono fun b _ hb=>aI hm hb,L,h2,h3,fun b hb=>aI hm (h4 b hb)⟩
theorem CmdAt.setLow(h:CmdAt M w c x A n){a:Addr}(ha:a.block<M)(u:Value):CmdAt M (w.setCell a u) c x A n :=
 h.keep fun b hb=>Below.heap_setCell w a u b (by omega)
theorem MC:PtIn S w Ph.zero Pt.zero:=by
 refine⟨by decide,by decide,by decide,⟨⟨by decide,by decide⟩,⟨.nil,(fun _ h=>by cases h),by decide⟩,⟨.nil,(fun _ h=>by cases h),by decide⟩,⟨aC _,by decide⟩,⟨aC _,by decide⟩⟩,
  ⟨by decide,⟨.nil,(fun _ h=>by cases h),by decide⟩,⟨by decide,by decide⟩,⟨by decide,by decide⟩,by decide,by decide,?_,?_,⟨aC _,by decide⟩,⟨aC _,by decide⟩,⟨aC _,by decide⟩⟩⟩
 all_goals trivial
theorem uK:noTxt.size≤9223372036854775807:=by decide
theorem dP:noTxt.size≤1099511627776:=by decide
theorem mJ{k:Nat}{s f m i:ByteArray}(hk:k<256)(hs:s.size≤1099511627776)(hf:f.size≤1099511627776)(hm:m.size≤1099511627776)(hi:i.size≤1099511627776):
  CmdAt M w ⟨k,s,f,m,i,Pt.zero,[]⟩ Ph.zero none 0 :=
 ⟨⟨hk,aI hs (by decide),aI hf (by decide),aI hm (by decide),aI hi (by decide),MC,⟨.nil,Nat.zero_le _⟩,aC _,Nat.zero_le _⟩,
  [],⟨[],[],PtO.bare,RowO.zero,rfl⟩,List.nodup_nil,fun b hb=>by cases hb⟩
end
theorem uM{w:World}{B e size n:Nat}{v:Value}{xs:List Value}(h:w.ownsRow B e size v n xs):w.ownsRow 0 e size v n xs :=
 ⟨h.1,h.2.imp id fun⟨g,cap,cur,e1,_,rest⟩=>⟨g,cap,cur,e1,Nat.zero_le _,rest⟩⟩
theorem Jb{w:World}{B e size n:Nat}{v:Value}{xs:List Value}(h:w.ownsRow B e size v n xs):∀g∈ob v,B≤g:=fun g hg=>(h.lt g (fA.1 hg)).1
def TabFar(N:Nat)(w:World):Prop:=∃W0,TabOk W0∧Below W0.heap.size W0 w∧W0.heap.size≤N
theorem TabFar.tab{N:Nat}{w:World}(h:TabFar N w):TabOk w:=by
 obtain⟨W0,h1,h2,_⟩:=h;exact h1.below h2
theorem TabFar.side{N:Nat}{w w':World}(h:TabFar N w)(hs:SideN N w w'):TabFar N w':=by
 obtain⟨W0,h1,h2,h3⟩:=h;have hz:=h2.size;exact⟨W0,h1,h2.trans (Keep.below (hs.mono fun k hk=>⟨by omega,by omega⟩)),h3⟩
def RestPost(D:Nat→Prop)(N:Nat)(w:World)(o:Option (Cmd×List ByteArray))(e:Ending)(w':World):Prop :=
 SideN N w w'∧(o=none→e=nones)∧∀c r,o=some (c,r)→e = .returned (.tuple #[])∧∃x A n,LnIn D N w' r (cmdVs c x A n)∧CmdAt w.heap.size w' c x A n
def RestOk(fn:FuncId)(rf:RestF):Prop:=∀{D:Nat→Prop} {N:Nat} {w:World} {l:List ByteArray} {k:Nat} {s:ByteArray},k<256→s.size≤1099511627776→LnIn D N w l (cmdVs ⟨k,s,noTxt,noTxt,noTxt,Pt.zero,[]⟩ Ph.zero none 0)→TabFar N w→
 (∀s∈l,s.size≤1099511627776)→Calls Tryz.prog fn #[.pointer (some ⟨N,0,none⟩)] w (RestPost D N w (rf ⟨k,s,noTxt,noTxt,noTxt,Pt.zero,[]⟩ l))
theorem MF:RestOk 105 restAlone:=by
 intro D N w l k s hk hs h ht hl;refine(lZ N w).mono ?_;rintro e w' ⟨rfl,rfl⟩;refine⟨Keep.refl _ _,fun e=>(by cases e),fun c r e=>?_⟩;simp only[restAlone,Option.some.injEq,Prod.mk.injEq]at e;obtain⟨rfl,rfl⟩:=e;exact⟨rfl,_,_,_,h,mJ hk hs dP dP dP⟩
theorem Xe:RestOk 108 restUnpull:=by
 intro D N w l k s hk hs h ht hl;rcases l with _|⟨n,r⟩
 ·refine(QM h (fun _ _ e=>by cases e)).mono ?_;rintro e w' ⟨rfl,h2⟩;exact⟨h2,fun _=>rfl,fun c r e=>by cases e⟩
 ·have hn:n.size≤1099511627776:=hl n List.mem_cons_self;rcases hw:isWord n with _|_
  ·refine(QM h (fun s r e=>by cases e;exact hw)).mono ?_;rintro e w' ⟨rfl,h2⟩;exact⟨h2,fun _=>rfl,fun c r e=>by simp[restUnpull,hw]at e⟩
  ·refine(Wq h hw).mono ?_;rintro e w' ⟨rfl,h2,h3⟩;refine⟨h3,fun e=>by simp[restUnpull,hw]at e,fun c r' e=>?_⟩;simp only[restUnpull,hw,if_true,Option.some.injEq,Prod.mk.injEq]at e;obtain⟨rfl,rfl⟩:=e;exact⟨rfl,_,_,_,h2,mJ hk hs dP hn dP⟩
theorem Xf:RestOk 109 restMerge:=by
 intro D N w l k s hk hs h ht hl;rcases l with _|⟨n,r⟩
 ·refine(QN h (fun _ _ e=>by cases e)).mono ?_;rintro e w' ⟨rfl,h2⟩;exact⟨h2,fun _=>rfl,fun c r e=>by cases e⟩
 ·have hn:n.size≤1099511627776:=hl n List.mem_cons_self;rcases hw:isWord n with _|_
  ·refine(QN h (fun s r e=>by cases e;exact hw)).mono ?_;rintro e w' ⟨rfl,h2⟩;exact⟨h2,fun _=>rfl,fun c r e=>by simp[restMerge,hw]at e⟩
  ·refine(l9 h hw).mono ?_;rintro e w' ⟨rfl,h2,h3⟩;refine⟨h3,fun e=>by simp[restMerge,hw]at e,fun c r' e=>?_⟩;simp only[restMerge,hw,if_true,Option.some.injEq,Prod.mk.injEq]at e;obtain⟨rfl,rfl⟩:=e;exact⟨rfl,_,_,_,h2,mJ hk hs hn dP dP⟩
theorem Xg:RestOk 110 restCheckout:=by
 intro D N w l k s hk hs h ht hl;rcases l with _|⟨n,r⟩
 ·refine(QO h (fun _ _ e=>by cases e)).mono ?_;rintro e w' ⟨rfl,h2⟩;exact⟨h2,fun _=>rfl,fun c r e=>by cases e⟩
 ·have hn:n.size≤1099511627776:=hl n List.mem_cons_self;rcases hw:isWord n with _|_
  ·refine(QO h (fun s r e=>by cases e;exact hw)).mono ?_;rintro e w' ⟨rfl,h2⟩;exact⟨h2,fun _=>rfl,fun c r e=>by simp[restCheckout,hw]at e⟩
  ·refine(Ws h hw).mono ?_;rintro e w' ⟨rfl,h2,h3⟩;refine⟨h3,fun e=>by simp[restCheckout,hw]at e,fun c r' e=>?_⟩;simp only[restCheckout,hw,if_true,Option.some.injEq,Prod.mk.injEq]at e;obtain⟨rfl,rfl⟩:=e;exact⟨rfl,_,_,_,h2,mJ hk hs dP dP hn⟩
theorem Xh:RestOk 107 restPull:=by
 intro D N w l k s hk hs h ht hl;have yC:(∀s r,l=s::r→isWord s=false)→restPull ⟨k,s,noTxt,noTxt,noTxt,Pt.zero,[]⟩ l=none→Calls Tryz.prog 107 #[.pointer (some ⟨N,0,none⟩)] w (RestPost D N w (restPull ⟨k,s,noTxt,noTxt,noTxt,Pt.zero,[]⟩ l)):=fun h1 h2=>by
  refine(qP h h1).mono ?_;rintro e w' ⟨rfl,h3⟩;exact⟨h3,fun _=>rfl,fun c r e=>by rw[h2]at e;cases e⟩
 rcases l with _|⟨f,r⟩
 ·exact yC (fun _ _ e=>by cases e) rfl
 ·rcases hw:isWord f with _|_
  ·exact yC (fun s r e=>by cases e;exact hw) (by rcases r with _|⟨n,r⟩<;>simp[restPull,hw])
  ·have stop2:(∀s r',r=s::r'→isWord s=false)→restPull ⟨k,s,noTxt,noTxt,noTxt,Pt.zero,[]⟩ (f::r)=none→Calls Tryz.prog 107 #[.pointer (some ⟨N,0,none⟩)] w (RestPost D N w (restPull ⟨k,s,noTxt,noTxt,noTxt,Pt.zero,[]⟩ (f::r))):=fun h1 h2=>by
    refine(qQ h hw h1).mono ?_;rintro e w' ⟨rfl,h3⟩;exact⟨h3,fun _=>rfl,fun c r e=>by rw[h2]at e;cases e⟩
   rcases r with _|⟨n,r⟩
   ·exact stop2 (fun _ _ e=>by cases e) rfl
   ·rcases hw2:isWord n with _|_
    ·exact stop2 (fun s r e=>by cases e;exact hw2) (by simp[restPull,hw,hw2])
    ·refine(qB h hw hw2).mono ?_;rintro e w' ⟨rfl,h2,h3⟩;refine⟨h3,fun e=>by simp[restPull,hw,hw2]at e,fun c r' e=>?_⟩;simp only[restPull,hw,hw2,Bool.and_self,if_true,Option.some.injEq,Prod.mk.injEq]at e;obtain⟨rfl,rfl⟩:=e;exact⟨rfl,_,_,_,h2,mJ hk hs (hl f List.mem_cons_self) (hl n (by simp)) dP⟩
theorem Xi:RestOk 111 restLoad:=by
 intro D N w l k s hk hs h ht hl;rcases l with _|⟨t,r⟩
 ·refine(qC h).mono ?_;rintro e w' ⟨rfl,h2⟩;exact⟨h2,fun _=>rfl,fun c r e=>by cases e⟩
 ·rcases hu:unhexL t.data.toList with _|b
  ·refine(vO h hu (hl t List.mem_cons_self)).mono ?_;rintro e w' ⟨rfl,h2⟩;exact⟨h2,fun _=>rfl,fun c r e=>by simp[restLoad,hu]at e⟩
  ·refine(qA h hu (hl t List.mem_cons_self)).mono ?_;rintro e w' ⟨rfl,v,ho,h2,h3⟩;refine⟨h3,fun e=>by simp[restLoad,hu]at e,fun c r' e=>?_⟩;simp only[restLoad,hu,Option.map_some,Option.some.injEq,Prod.mk.injEq]at e;obtain⟨rfl,rfl⟩:=e;obtain⟨A,n,rfl⟩:=bM ho;have h0:=uM ho;have hr:=vC h0 rfl;refine⟨rfl,_,_,_,h2,⟨hk,aI hs (by decide),uK,uK,uK,MC,⟨xY h0 (fun g hg=>Jb ho g hg),aI hr.1 hr.2⟩,hr⟩,ob (.slice A b.length n),⟨[],_,PtO.bare,⟨h0,rfl⟩,rfl⟩,H9 _,fun g hg=>Jb ho g hg⟩
end
section
open Go.RowKit
open Go.Maps (Keyed int_keyed keyOf_int_mk)
def wayFn:Nat→Nat
 | 2=>106
 | 3=>107
 | 4=>108
 | 5=>109
 | 6=>110
 | 9=>111
 | _=>105
abbrev wayV(p:Nat×ByteArray):Value:= .agg #[.string p.2,.func (.func (wayFn p.1)) #[] #[]]
open Classical in
noncomputable def wayR(v:Value):Option (DataW Unit×List MemPlace):=(kwL.find? fun p=>decide (v=wayV p)).map fun p=>(.lit (.int .u8 p.1),[])
open Classical in
theorem qR{p:Nat×ByteArray}(hp:p∈kwL):wayR (wayV p)=some (.lit (.int .u8 p.1),[]):=by
 unfold wayR;rcases hf:kwL.find? (fun q=>decide (wayV p=wayV q))with _|q
 ·have:=List.find?_eq_none.1 hf p hp;simp at this
 ·have h1:=List.mem_of_find?_eq_some hf;have h2:=List.find?_some hf;simp only[decide_eq_true_eq]at h2;have h3:p.2=q.2:=by
   have this:=congrArg (fun a:Array Value=>a[0]?) (Value.agg.inj h2)
   simpa using this
  have h4:=zap (s:=p.2) (k:=p.1) hp;have h5:=zap (s:=q.2) (k:=q.1) h1;rw[←h3,h4]at h5;injection h5 with h5;rw[Option.map_some,h5]
open Classical in
theorem RS{v:Value}{y:DataW Unit×List MemPlace}(h:wayR v=some y):∃p:{p:Nat×ByteArray // p∈kwL},v=wayV p.1:=by
 unfold wayR at h;obtain⟨p,hp,_⟩:=Option.map_eq_some_iff.1 h;have h2:=List.find?_some hp;simp only[decide_eq_true_eq]at h2;exact⟨⟨p,List.mem_of_find?_eq_some hp⟩,h2⟩
def waysD:DataW Unit:=(((((((((DataW.map []).put (.int .u8 1) (.lit (.int .u8 1))).put (.int .u8 2) (.lit (.int .u8 2))).put (.int .u8 3) (.lit (.int .u8 3))).put (.int .u8 4) (.lit (.int .u8 4))).put (.int .u8 5) (.lit (.int .u8 5))).put (.int .u8 6) (.lit (.int .u8 6))).put (.int .u8 7) (.lit (.int .u8 7))).put (.int .u8 8) (.lit (.int .u8 8))).put (.int .u8 9) (.lit (.int .u8 9))
theorem MG:waysD = .map [(.int .u8 1,.lit (.int .u8 1)),(.int .u8 2,.lit (.int .u8 2)),(.int .u8 3,.lit (.int .u8 3)),(.int .u8 4,.lit (.int .u8 4)),(.int .u8 5,.lit (.int .u8 5)),(.int .u8 6,.lit (.int .u8 6)),(.int .u8 7,.lit (.int .u8 7)),(.int .u8 8,.lit (.int .u8 8)),(.int .u8 9,.lit (.int .u8 9))]:=by rfl
theorem mM{p:Nat×ByteArray}(hp:p∈kwL):Maps.has waysD (.int .u8 p.1)=true:=by
 rw[MG];simp only[kwL,List.mem_cons,List.not_mem_nil,or_false]at hp;rcases hp with rfl|rfl|rfl|rfl|rfl|rfl|rfl|rfl|rfl<;>rfl
theorem qU{x:Int}{p:Nat×ByteArray}(hp:p∈kwL)(h :∀zd,waysD.atKey (.int .u8 x) zd = .lit (.int .u8 p.1)):x=(p.1:Int):=by
 have h:=h (.lit (.bool false));rw[MG]at h;by_cases e1:x=1
 ·subst e1;simp[DataW.atKey,Lit.sameKey]at h;omega
 by_cases e2:x=2
 ·subst e2;simp[DataW.atKey,Lit.sameKey]at h;omega
 by_cases e3:x=3
 ·subst e3;simp[DataW.atKey,Lit.sameKey]at h;omega
 by_cases e4:x=4
 ·subst e4;simp[DataW.atKey,Lit.sameKey]at h;omega
 by_cases e5:x=5
 ·subst e5;simp[DataW.atKey,Lit.sameKey]at h;omega
 by_cases e6:x=6
 ·subst e6;simp[DataW.atKey,Lit.sameKey]at h;omega
 by_cases e7:x=7
 ·subst e7;simp[DataW.atKey,Lit.sameKey]at h;omega
 by_cases e8:x=8
 ·subst e8;simp[DataW.atKey,Lit.sameKey]at h;omega
 by_cases e9:x=9
 ·subst e9;simp[DataW.atKey,Lit.sameKey]at h;omega
 simp[DataW.atKey,Lit.sameKey,Ne.symm e1,Ne.symm e2,Ne.symm e3,Ne.symm e4,Ne.symm e5,Ne.symm e6,Ne.symm e7,Ne.symm e8,Ne.symm e9]at h
theorem MH{k:Nat}{s t:ByteArray}(h:(k,s)∈kwL)(h':(k,t)∈kwL):s=t:=by
 simp only[kwL,List.mem_cons,List.not_mem_nil,or_false,Prod.mk.injEq]at h;rcases h with⟨rfl,rfl⟩|⟨rfl,rfl⟩|⟨rfl,rfl⟩|⟨rfl,rfl⟩|⟨rfl,rfl⟩|⟨rfl,rfl⟩|⟨rfl,rfl⟩|⟨rfl,rfl⟩|⟨rfl,rfl⟩ <;>
 ·simp[kwL]at h';exact h'.symm
theorem vY{H:Type}{P:Program}{T k E:TypeId}{R:Value→Option (DataW H×List MemPlace)}{b n:Nat}{D:DataW H}{w:World}{o:Oper}{a:Act}{K':Act→World→Prop}{Q:Exit→Act→World→Prop}{key v:Value}{kl:Lit}{d:DataW H}{ps:List MemPlace}
  (hd:o.dst=none) (ht:P.underlying T=some (.map k E)) (K:Keyed P k) (hown:w.ownsMap P k R b n D) (hn:n<maxLen) (hkey:keyOf P k key=some kl) (hv:R v=some (d,ps))
  (h :∀w',w'.ownsMap P k R b (n+1) (D.put kl d)→w.grownBy w' (some b)→K' a w'):
  Oper.upon P o a K' Q (((Instr.mapUpdate T (.map (some b)) key v).run P w).andThen fun _ w'=> .ok .skip w'):=by
 obtain⟨w',hrun,h1,h2⟩:=hown.update K ht hn hkey hv;rw[hrun];show K' (a.put o.dst undef) w';rw[hd];exact h w' h1 h2
theorem fC:Keyed Tryz.prog 32:=int_keyed Tryz.underlying32
theorem uN(x:Int)(h:(Lit.int .u8 x).wf=true):keyOf Tryz.prog 32 (.int .u8 x)=some (.int .u8 x):=keyOf_int_mk Tryz.underlying32 h
abbrev WaysAt(w:World)(b:Nat):Prop:=w.ownsMap Tryz.prog 32 wayR b 9 waysD
theorem RU(w:World):Calls Tryz.prog 40 #[] w fun e w'=>e = .returned (.map (some w.heap.size))∧WaysAt w' w.heap.size∧Below w.heap.size w w':=by
 have T:=hide (World.ownsMap_made w Tryz.prog 32 wayR);have HB:Hid (Below w.heap.size w (w.alloc (.map #[] 0))):=hide (ag w _);have hmm:=@run_makeMap Tryz.prog;go_enter Tryz.func40,Tryz.ntmps40;have hv1:wayR (.agg #[.string {data:=#[110,101,119]},.func (.func 105) #[] #[]])=some (.lit (.int .u8 1),[]):=qR (p:=(1,kwNew)) (by simp[kwL]);have hv2:wayR (.agg #[.string {data:=#[114,101,99,111,114,100]},.func (.func 106) #[] #[]])=some (.lit (.int .u8 2),[]):=qR (p:=(2,kwRecord)) (by simp[kwL]);have hv3:wayR (.agg #[.string {data:=#[112,117,108,108]},.func (.func 107) #[] #[]])=some (.lit (.int .u8 3),[]):=qR (p:=(3,kwPull)) (by simp[kwL]);have hv4:wayR (.agg #[.string {data:=#[117,110,112,117,108,108]},.func (.func 108) #[] #[]])=some (.lit (.int .u8 4),[]):=qR (p:=(4,kwUnpull)) (by simp[kwL]);have hv5:wayR (.agg #[.string {data:=#[109,101,114,103,101]},.func (.func 109) #[] #[]])=some (.lit (.int .u8 5),[]):=qR (p:=(5,kwMerge)) (by simp[kwL]);have hv6:wayR (.agg #[.string {data:=#[99,104,101,99,107,111,117,116]},.func (.func 110) #[] #[]])=some (.lit (.int .u8 6),[]):=qR (p:=(6,kwCheckout)) (by simp[kwL]);have hv7:wayR (.agg #[.string {data:=#[108,111,103]},.func (.func 105) #[] #[]])=some (.lit (.int .u8 7),[]):=qR (p:=(7,kwLog)) (by simp[kwL]);have Xj:wayR (.agg #[.string {data:=#[101,120,112,111,114,116]},.func (.func 105) #[] #[]])=some (.lit (.int .u8 8),[]):=qR (p:=(8,kwExport)) (by simp[kwL]);have Xk:wayR (.agg #[.string {data:=#[105,109,112,111,114,116]},.func (.func 111) #[] #[]])=some (.lit (.int .u8 9),[]):=qR (p:=(9,kwImport)) (by simp[kwL])
 go_wp2_with fail
 generalize w.alloc (.map #[] 0)=wb at T HB⊢
 go_wp2_with(first
  | ((with_reducible refine vY ?_ Tryz.underlying100 fC T.out (by unfold maxLen;omega) (uN 1 (by decide)) hv1 ?_);exact rfl;intro w1 T0 hg;have HB1:Hid (Below w.heap.size w w1):=hide (HB.out.grown hg HB.out.size (by rintro k ⟨⟩;exact aC _));clear T HB hg;have T:=hide T0;have HB:=HB1;clear HB1 T0)
  | ((with_reducible refine vY ?_ Tryz.underlying100 fC T.out (by unfold maxLen;omega) (uN 2 (by decide)) hv2 ?_);exact rfl;intro w1 T0 hg;have HB1:Hid (Below w.heap.size w w1):=hide (HB.out.grown hg HB.out.size (by rintro k ⟨⟩;exact aC _));clear T HB hg;have T:=hide T0;have HB:=HB1;clear HB1 T0)
  | ((with_reducible refine vY ?_ Tryz.underlying100 fC T.out (by unfold maxLen;omega) (uN 3 (by decide)) hv3 ?_);exact rfl;intro w1 T0 hg;have HB1:Hid (Below w.heap.size w w1):=hide (HB.out.grown hg HB.out.size (by rintro k ⟨⟩;exact aC _));clear T HB hg;have T:=hide T0;have HB:=HB1;clear HB1 T0)
  | ((with_reducible refine vY ?_ Tryz.underlying100 fC T.out (by unfold maxLen;omega) (uN 4 (by decide)) hv4 ?_);exact rfl;intro w1 T0 hg;have HB1:Hid (Below w.heap.size w w1):=hide (HB.out.grown hg HB.out.size (by rintro k ⟨⟩;exact aC _));clear T HB hg;have T:=hide T0;have HB:=HB1;clear HB1 T0)
  | ((with_reducible refine vY ?_ Tryz.underlying100 fC T.out (by unfold maxLen;omega) (uN 5 (by decide)) hv5 ?_);exact rfl;intro w1 T0 hg;have HB1:Hid (Below w.heap.size w w1):=hide (HB.out.grown hg HB.out.size (by rintro k ⟨⟩;exact aC _));clear T HB hg;have T:=hide T0;have HB:=HB1;clear HB1 T0)
  | ((with_reducible refine vY ?_ Tryz.underlying100 fC T.out (by unfold maxLen;omega) (uN 6 (by decide)) hv6 ?_);exact rfl;intro w1 T0 hg;have HB1:Hid (Below w.heap.size w w1):=hide (HB.out.grown hg HB.out.size (by rintro k ⟨⟩;exact aC _));clear T HB hg;have T:=hide T0;have HB:=HB1;clear HB1 T0)
  | ((with_reducible refine vY ?_ Tryz.underlying100 fC T.out (by unfold maxLen;omega) (uN 7 (by decide)) hv7 ?_);exact rfl;intro w1 T0 hg;have HB1:Hid (Below w.heap.size w w1):=hide (HB.out.grown hg HB.out.size (by rintro k ⟨⟩;exact aC _));clear T HB hg;have T:=hide T0;have HB:=HB1;clear HB1 T0)
  | ((with_reducible refine vY ?_ Tryz.underlying100 fC T.out (by unfold maxLen;omega) (uN 8 (by decide)) Xj ?_);exact rfl;intro w1 T0 hg;have HB1:Hid (Below w.heap.size w w1):=hide (HB.out.grown hg HB.out.size (by rintro k ⟨⟩;exact aC _));clear T HB hg;have T:=hide T0;have HB:=HB1;clear HB1 T0)
  | ((with_reducible refine vY ?_ Tryz.underlying100 fC T.out (by unfold maxLen;omega) (uN 9 (by decide)) Xk ?_);exact rfl;intro w1 T0 hg;have HB1:Hid (Below w.heap.size w w1):=hide (HB.out.grown hg HB.out.size (by rintro k ⟨⟩;exact aC _));clear T HB hg;have T:=hide T0;have HB:=HB1;clear HB1 T0))
 go_ret;exact⟨rfl,T.out,HB.out⟩
end
section
open Go.RowKit
theorem oh{f:Fo}(h:PartOk f):(0:Int)<f.len:=by cases f with
 | nil=>exact h.elim
 | cons=>simp only[Fo.len];omega
theorem zN:Number 0:=by unfold Number;omega
theorem Em{f:Fo}:f = .nil↔f.len=0:=by cases f<;>simp[Fo.len]
theorem vZ{s t:ByteArray}:s=t↔(s.toList == t.toList)=true:=by
 rw[beq_iff_eq,ByteArray.toList_eq,ByteArray.toList_eq];exact⟨fun h=>by rw[h],GZ⟩
theorem Xl{e:Ed}:EdOk {e with kind:=1}↔¬(∃n,n∈e.path∧¬Number n)∧e.at_=0∧e.far=0∧e.old.len=0∧e.new.len=0∧¬((e.path.length:Int) == 0)=true∧LexName e.frm∧LexName e.to∧¬(e.frm.toList == e.to.toList)=true:=by
 rw[←vZ,←Em,←Em];unfold EdOk;simp
theorem RV{e:Ed}:EdOk {e with kind:=2}↔¬(∃n,n∈e.path∧¬Number n)∧e.far=0∧e.frm=noTxt∧e.to=noTxt∧e.old.len=0∧Number e.at_∧PartOk e.new:=by
 rw[←Em];unfold EdOk;simp
theorem RX{e:Ed}:EdOk {e with kind:=3}↔¬(∃n,n∈e.path∧¬Number n)∧e.far=0∧e.frm=noTxt∧e.to=noTxt∧e.new.len=0∧Number e.at_∧PartOk e.old:=by
 rw[←Em];unfold EdOk;simp
theorem MI{e:Ed}:EdOk {e with kind:=4}↔¬(∃n,n∈e.path∧¬Number n)∧e.at_=0∧e.far=0∧e.frm=noTxt∧e.to=noTxt∧¬((e.path.length:Int) == 0)=true∧PartOk e.old∧PartOk e.new∧e.old≠e.new:=by
 unfold EdOk;simp
theorem RY{e:Ed}:EdOk {e with kind:=5}↔¬(∃n,n∈e.path∧¬Number n)∧e.frm=noTxt∧e.to=noTxt∧e.new.len=0∧Number e.at_∧Number e.far∧e.at_≠e.far∧PartOk e.old:=by
 rw[←Em];unfold EdOk;simp
theorem RZ{e:Ed}:EdOk e↔((e.kind:Int)=1∨(e.kind:Int)=2∨(e.kind:Int)=3∨(e.kind:Int)=4∨(e.kind:Int)=5)∧EdOk e:=by
 constructor
 ·intro h;refine⟨?_,h⟩;unfold EdOk at h;omega
 ·exact fun h=>h.2
theorem Si{s t:ByteArray}:(!(s++t).toList.isEmpty)=false↔s=noTxt∧t=noTxt:=by
 rw[ByteArray.toList_eq];have hd:(s++t).data.toList=s.data.toList++t.data.toList:=by simp
 rw[hd];constructor
 ·intro h;simp only[Bool.not_eq_false',List.isEmpty_iff,List.append_eq_nil_iff]at h;exact⟨GZ (by rw[h.1];rfl),GZ (by rw[h.2];rfl)⟩
 ·rintro⟨rfl,rfl⟩;rfl
theorem yD{s t:ByteArray}(h :¬(s=noTxt∧t=noTxt)):(!(s++t).toList.isEmpty)=true:=by
 rcases hb:(!(s++t).toList.isEmpty)with _|_
 ·exact absurd (Si.mp hb) h
 ·rfl
theorem uO:(!(({data:=#[]}:ByteArray)++({data:=#[]}:ByteArray)).toList.isEmpty)=false:=Si.mpr ⟨rfl,rfl⟩
theorem je :¬LexName noTxt:=by
 rintro⟨_,⟨c,l,h,_⟩,_⟩;cases h
theorem aj{W w1:World}{N:Nat}(hB:Below W.heap.size W w1)(hN:N<W.heap.size):(∀o,w1.cell? ⟨N,o,none⟩=W.cell? ⟨N,o,none⟩)∧(∀o,w1.frozen? ⟨N,o,none⟩=W.frozen? ⟨N,o,none⟩)∧N<w1.heap.size :=
 ⟨fun o=>hB.cell (p:=⟨N,o,none⟩) hN,fun o=>hB.frozen (p:=⟨N,o,none⟩) hN,aH hN hB.size⟩
theorem Xm{S:Nat→Prop}{x:Eh}{e:Ed}{w:World}(he:EdIn S w x e)(htab:TabOk w)(hsum:e.frm.size+e.to.size≤9223372036854775807)(hfe:e.frm=noTxt)(hte:e.to=noTxt)(hnot :¬(PartOk e.old∧PartOk e.new∧e.at_=0∧e.far=0)):
  Calls Tryz.prog 173 #[.agg #[.int .u8 4,.slice x.pA e.path.length x.pc,.int .i64 e.at_,.int .i64 e.far,.string {data:=#[]},.string {data:=#[]},.slice x.oA e.old.len x.oc,.slice x.nA e.new.len x.nc]] w fun e1 w'=>RetB (EdOk {e with kind:=4}) e1∧Below w.heap.size w w':=by
 have af:Hid (TabOk w):=htab;have au:=hide he.path;have dW:=hide he.at_;have bH:=hide he.far;have dQ:=he.frm;have hto:=he.to;have aU:=hide he.old;have bI:=hide he.new;have hold:=he.oc;have hnew:=he.nc;have bK:=hide (@MI e);have jf:=hide hfe;have Hte:=hide hte;clear hfe hte dQ hto hsum;have hE:(!(({data:=#[]}:ByteArray)++({data:=#[]}:ByteArray)).toList.isEmpty)=false:=uO;have iT:=hide hnot;clear hnot;clear he htab;go_enter Tryz.func173,Tryz.ntmps173
 go_wp2_with(first
  | (go_at_call 216;(with_reducible refine(kP (l:=e.path) (au.out.below (aO (ag _ _) _))).mono ?_);rintro e1 w1 ⟨⟨_|_,rfl,hb⟩,rfl⟩<;>(have Hp:=hide hb;clear hb))
  | (go_at_call 218;(with_reducible refine(dO e.at_ _ dW.out).mono ?_);rintro e1 w1 ⟨⟨_|_,rfl,hb⟩,rfl⟩<;>(have Ha:=hide hb;clear hb))
  | (go_at_call 218;(with_reducible refine(dO e.far _ bH.out).mono ?_);rintro e1 w1 ⟨⟨_|_,rfl,hb⟩,rfl⟩<;>(have Hf:=hide hb;clear hb))
  | (go_at_call 219;(with_reducible refine(dN {data:=#[]} _ (by decide) (af.out.below (aO (ag _ _) _))).mono ?_);rintro e1 w1 ⟨⟨_|_,rfl,hb⟩,hB⟩<;>first|(exact absurd (hb.mp (by first|rfl|trivial)) je)|(have Hn:=hide hb;have HB:=hide (ak (aO (ag _ _) _) hB);obtain⟨hc1,hf1,hz1⟩:=aj (N:=w.heap.size) hB (by simp);clear hb hB))
  | (go_at_call 219;(with_reducible refine(dN {data:=#[]} _ (by decide) (af.out.below HB.out)).mono ?_);rintro e1 w2 ⟨⟨_|_,rfl,hb⟩,hB⟩<;>first|(exact absurd (hb.mp (by first|rfl|trivial)) je)|(have Hm:=hide hb;have HB2:=hide (ak HB.out hB);obtain⟨hc2,hf2,hz2⟩:=aj (N:=w.heap.size) hB hz1;clear hb hB))
  | (go_at_call 220;(with_reducible refine(dD (f:=e.old) (aU.out.below HB2.out) hold.1 hold.2 (af.out.below HB2.out)).mono ?_);rintro e1 w3 ⟨⟨_|_,rfl,hb⟩,hB⟩<;>(have di:=hide hb;have HB3:=hide (ak HB2.out hB);obtain⟨hc3,hf3,hz3⟩:=aj (N:=w.heap.size) hB hz2;clear hb hB))
  | (go_at_call 220;(with_reducible refine(dD (f:=e.old) (aU.out.below HB.out) hold.1 hold.2 (af.out.below HB.out)).mono ?_);rintro e1 w3 ⟨⟨_|_,rfl,hb⟩,hB⟩<;>(have di:=hide hb;have HB3:=hide (ak HB.out hB);obtain⟨hc3,hf3,hz3⟩:=aj (N:=w.heap.size) hB hz1;clear hb hB))
  | (go_at_call 220;(with_reducible refine(dD (f:=e.new) (bI.out.below HB3.out) hnew.1 hnew.2 (af.out.below HB3.out)).mono ?_);rintro e1 w4 ⟨⟨_|_,rfl,hb⟩,hB⟩<;>first|(exact absurd (And.intro (di.out.mp (by first|rfl|trivial)) (And.intro (hb.mp (by first|rfl|trivial)) (And.intro (by omega) (by omega)))) iT.out)|(have fD:=hide hb;have HB4:=hide (ak HB3.out hB);obtain⟨hc4,hf4,eQ⟩:=aj (N:=w.heap.size) hB hz3;clear hb hB)))
 go_quiet (fail)
 go_upto_region 20 with(first
  | (go_at_call 216;(with_reducible refine(kP (l:=e.path) (au.out.below (aO (ag _ _) _))).mono ?_);rintro e1 w1 ⟨⟨_|_,rfl,hb⟩,rfl⟩<;>(have Hp:=hide hb;clear hb))
  | (go_at_call 218;(with_reducible refine(dO e.at_ _ dW.out).mono ?_);rintro e1 w1 ⟨⟨_|_,rfl,hb⟩,rfl⟩<;>(have Ha:=hide hb;clear hb))
  | (go_at_call 218;(with_reducible refine(dO e.far _ bH.out).mono ?_);rintro e1 w1 ⟨⟨_|_,rfl,hb⟩,rfl⟩<;>(have Hf:=hide hb;clear hb))
  | (go_at_call 219;(with_reducible refine(dN {data:=#[]} _ (by decide) (af.out.below (aO (ag _ _) _))).mono ?_);rintro e1 w1 ⟨⟨_|_,rfl,hb⟩,hB⟩<;>first|(exact absurd (hb.mp (by first|rfl|trivial)) je)|(have Hn:=hide hb;have HB:=hide (ak (aO (ag _ _) _) hB);obtain⟨hc1,hf1,hz1⟩:=aj (N:=w.heap.size) hB (by simp);clear hb hB))
  | (go_at_call 219;(with_reducible refine(dN {data:=#[]} _ (by decide) (af.out.below HB.out)).mono ?_);rintro e1 w2 ⟨⟨_|_,rfl,hb⟩,hB⟩<;>first|(exact absurd (hb.mp (by first|rfl|trivial)) je)|(have Hm:=hide hb;have HB2:=hide (ak HB.out hB);obtain⟨hc2,hf2,hz2⟩:=aj (N:=w.heap.size) hB hz1;clear hb hB))
  | (go_at_call 220;(with_reducible refine(dD (f:=e.old) (aU.out.below HB2.out) hold.1 hold.2 (af.out.below HB2.out)).mono ?_);rintro e1 w3 ⟨⟨_|_,rfl,hb⟩,hB⟩<;>(have di:=hide hb;have HB3:=hide (ak HB2.out hB);obtain⟨hc3,hf3,hz3⟩:=aj (N:=w.heap.size) hB hz2;clear hb hB))
  | (go_at_call 220;(with_reducible refine(dD (f:=e.old) (aU.out.below HB.out) hold.1 hold.2 (af.out.below HB.out)).mono ?_);rintro e1 w3 ⟨⟨_|_,rfl,hb⟩,hB⟩<;>(have di:=hide hb;have HB3:=hide (ak HB.out hB);obtain⟨hc3,hf3,hz3⟩:=aj (N:=w.heap.size) hB hz1;clear hb hB))
  | (go_at_call 220;(with_reducible refine(dD (f:=e.new) (bI.out.below HB3.out) hnew.1 hnew.2 (af.out.below HB3.out)).mono ?_);rintro e1 w4 ⟨⟨_|_,rfl,hb⟩,hB⟩<;>first|(exact absurd (And.intro (di.out.mp (by first|rfl|trivial)) (And.intro (hb.mp (by first|rfl|trivial)) (And.intro (by omega) (by omega)))) iT.out)|(have fD:=hide hb;have HB4:=hide (ak HB3.out hB);obtain⟨hc4,hf4,eQ⟩:=aj (N:=w.heap.size) hB hz3;clear hb hB)))
 all_goals(first|go_ret|(go_quiet (fail);go_wp2;go_ret))
 all_goals go_tidy
 all_goals(try have hp:=Hp.out)
 all_goals(try have ha:=Ha.out)
 all_goals(try have hf:=Hf.out)
 all_goals(try have hn:=Hn.out)
 all_goals(try have hm:=Hm.out)
 all_goals(try have hpo:=di.out)
 all_goals(try have hpn:=fD.out)
 all_goals refine⟨RetB.mk ?_,(by first|exact xP HB4.out _|exact HB4.out|exact HB3.out|exact HB2.out|exact HB.out|exact aO (ag _ _) _)⟩
 all_goals clear af au dW bH aU bI
 all_goals(try clear Hp)
 all_goals(try clear Ha)
 all_goals(try clear Hf)
 all_goals(try clear fD hc4 hf4 HB4 eQ)
 all_goals(try clear di hc3 hf3 HB3 hz3)
 all_goals(try clear Hm hc2 hf2 HB2 hz2)
 all_goals(try clear Hn hc1 hf1 hz1 HB)
 all_goals rw[bK.out]
 all_goals clear bK
 all_goals(try have pp:=@oh e.old)
 all_goals(try have pq:=@oh e.new)
 all_goals have n0:=zN
 all_goals(try have hfe:=jf.out)
 all_goals(try have hte:=Hte.out)
 all_goals(try have hnot:=iT.out)
 all_goals(try(exfalso;simp only[uO,Bool.false_eq_true,reduceCtorEq]at *;done))
 all_goals(try(exfalso;simp only[yD jf.out,Bool.true_eq_false,reduceCtorEq]at *;done))
 all_goals grind
end
section
open Go.RowKit Go.ChangeShapes Go.WideShapes
section
variable {H : Type} {enc : TypeId × Value → H} {w : World} {spare : Nat → Bool} {held : Bool}
end
end
end Go.Proofs.YtjjaojnglnpgaaaGreatDoor
