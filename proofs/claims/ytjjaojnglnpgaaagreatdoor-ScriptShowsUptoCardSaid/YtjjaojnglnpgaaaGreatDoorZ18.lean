/- Part 19 of what scriptShows_cardUpto rests on. -/
import Derived.Deep.RegionHeld
import Derived.Test.YtjjaojnglnpgaaaGreatDoorProg
import Derived.ChangeMaps5
import Derived.Maps.RangeWalk
import Derived.Maps.OwnSet
import Derived.Deep.CutBlock
import Derived.Deep.DeepCutAuto
import Derived.Test.YtjjaojnglnpgaaaGreatDoorZ13
import Derived.Test.YtjjaojnglnpgaaaGreatDoorZ17
import Derived.Test.YtjjaojnglnpgaaaGreatDoorZ03
import Derived.Test.YtjjaojnglnpgaaaGreatDoorZ09
import Derived.Test.YtjjaojnglnpgaaaGreatDoorZ05
import Derived.Test.YtjjaojnglnpgaaaGreatDoorZ01
import Derived.Test.YtjjaojnglnpgaaaGreatDoorZ11
import Derived.Test.YtjjaojnglnpgaaaGreatDoorZ12
import Derived.Test.YtjjaojnglnpgaaaGreatDoorZ00
set_option linter.unusedVariables false
set_option linter.unusedSimpArgs false
set_option maxHeartbeats 16000000
set_option maxRecDepth 1000000
namespace Go.Proofs.YtjjaojnglnpgaaaGreatDoor
section
open Go.RowKit
theorem QE{D:Nat→Prop}{N:Nat}{w:World}{l:List ByteArray}(h:gI D N w l)(hs :∀s r,l=s::r→isWord s=false):
  Calls Tryz.prog 77 #[.pointer (some ⟨N,0,none⟩)] w fun e w'=>e=fQ∧dU N w w':=by
 rcases l with _|⟨s,r⟩
 ·refine(Ny h).mono ?_;rintro e w' ⟨rfl,rfl⟩;exact⟨rfl,Keep.refl _ _⟩
 ·refine(Nz h (hs s r rfl)).mono ?_;rintro e w' ⟨rfl,u,rfl⟩;exact⟨rfl,(Keep.refl _ w).setCell (fun hk=>hk.2 rfl) _⟩
theorem xU{D:Nat→Prop}{N:Nat}{w:World}{l:List ByteArray}{vs:List Value}(h:dD D N w l vs)(hs :∀s r,l=s::r→isWord s=false):
  Calls Tryz.prog 107 #[.pointer (some ⟨N,0,none⟩)] w fun e w'=>e=fQ∧dU N w w':=by
 have H:Hid (dD D N w.drew l vs):=hide (h.below ((Below.refl _ w).drew));have h0:dU N w w.drew:=(Keep.refl _ w).drew;clear h;go_enter Tryz.func107,Tryz.ntmps107
 go_upto_region 0 with fail
 refine wp_region_held_drew (S:=fun _=>True) (by kernel_rfl) trivial (fun hHeld=>?_);refine aj 0 hHeld ?_;refine aj 1 hHeld ?_;refine aj 2 hHeld ?_;refine aj 3 hHeld ?_;refine aj 4 hHeld ?_;refine aj 6 hHeld ?_;refine aj 7 hHeld ?_;refine aj 8 hHeld ?_;refine wpAnyH_ready (rs:=[5]) (by kernel_rfl) (by simp) ?_;refine AllReadyH.cons rfl (fun K hK=>?_) AllReadyH.nil;go_simp
 go_wp2_with(go_at_call 77;(with_reducible refine(QE H.out.wd hs).mono ?_);rintro e1 w1 ⟨rfl,h1⟩)
 exact⟨rfl,rfl,h0.trans (h1.mono fun k hk=>⟨aH hk.1 h0.size,hk.2⟩)⟩
theorem xW{D:Nat→Prop}{N:Nat}{w:World}{s:ByteArray}{l:List ByteArray}{vs:List Value}(h:dD D N w (s::l) vs)(hw:isWord s=true)(hs :∀s r,l=s::r→isWord s=false):
  Calls Tryz.prog 107 #[.pointer (some ⟨N,0,none⟩)] w fun e w'=>e=fQ∧dU N w w':=by
 have H:Hid (dD D N w.drew (s::l) vs):=hide (h.below ((Below.refl _ w).drew));have h0:dU N w w.drew:=(Keep.refl _ w).drew;clear h;go_enter Tryz.func107,Tryz.ntmps107
 go_upto_region 0 with fail
 refine wp_region_held_drew (S:=fun _=>True) (by kernel_rfl) trivial (fun hHeld=>?_);refine aj 0 hHeld ?_;refine aj 1 hHeld ?_;refine aj 2 hHeld ?_;refine aj 3 hHeld ?_;refine aj 4 hHeld ?_;refine aj 6 hHeld ?_;refine aj 7 hHeld ?_;refine aj 8 hHeld ?_;refine wpAnyH_ready (rs:=[5]) (by kernel_rfl) (by simp) ?_;refine AllReadyH.cons rfl (fun K hK=>?_) AllReadyH.nil;go_simp
 go_wp2_with(go_at_call 77;(with_reducible refine(Bq H.out.wd hw).mono ?_);rintro e1 w1 ⟨rfl,h1,u,hu⟩;have h2:=H.out.take hu h1;have H2:=hide h2;have h3:dU N w w1:=(by rw[hu];exact h0.setCell (fun hk=>hk.2 rfl) u);clear hu h1 h2)
 refine hK.out _ _ trivial (fun hHeld=>?_);clear hK K
 try simp only[Act.put,aG,aE,aF,aD,aA,aB]
 refine wpAnyH_ready (rs:=[9]) (by kernel_rfl) (by simp) ?_;refine AllReadyH.cons rfl (fun K hK=>?_) AllReadyH.nil;go_simp
 go_wp2_with(go_at_call 77;(with_reducible refine(QE H2.out.wd hs).mono ?_);rintro e4 w4 ⟨rfl,h4⟩)
 exact⟨rfl,rfl,h3.trans (h4.mono fun k hk=>⟨aH hk.1 h3.size,hk.2⟩)⟩
end
section
open Go.RowKit
def Ph.zero:Ph:=⟨⟨none,0,none,0⟩,⟨none,0,none,0,none,0⟩⟩
abbrev ag(c:aY)(x:Ph)(A:Option Addr)(n:Nat):List Value:=[.int .u8 c.kind,.string c.repo,.string c.frm,.string c.name,.string c.file,.int .u8 c.patch.kind,.string c.patch.file,.string c.patch.text,.int .i64 c.patch.hunk.at_,.slice x.h.oA c.patch.hunk.old.length x.h.oc,.slice x.h.nA c.patch.hunk.new.length x.h.nc,.int .u8 c.patch.edit.kind,.slice x.e.pA c.patch.edit.path.length x.e.pc,.int .i64 c.patch.edit.at_,.int .i64 c.patch.edit.far,.string c.patch.edit.frm,.string c.patch.edit.to,.slice x.e.oA c.patch.edit.old.len x.e.oc,.slice x.e.nA c.patch.edit.new.len x.e.nc,.slice A c.bytes.length n]
structure dF(S:Nat→Prop)(w:World)(c:aY)(x:Ph)(A:Option Addr)(n:Nat):Prop where
 kind:c.kind<256
 repo:c.repo.size≤9223372036854775807
 frm:c.frm.size≤9223372036854775807
 name:c.name.size≤9223372036854775807
 file:c.file.size≤9223372036854775807
 patch:bM S w x c.patch
 bytes:BytesIn S w A c.bytes
 cap:c.bytes.length≤n∧n≤9223372036854775807
def nY(w:World)(c:aY)(x:Ph)(A:Option Addr)(n:Nat)(L:List Nat):Prop :=
 ∃L1 L2,uY w x c.patch L1∧ku 5 w A n c.bytes.length (Lib.byteCells c.bytes) L2∧L=L1++L2
def jr(M:Nat)(w:World)(c:aY)(x:Ph)(A:Option Addr)(n:Nat):Prop:=dF (fun b=>M≤b) w c x A n∧∃L,nY w c x A n L∧L.Nodup∧∀b∈L,M≤b
section
variable {S S' : Nat → Prop} {w w' : World} {c : aY} {x : Ph} {A : Option Addr} {n M : Nat} {L : List Nat}
theorem dF.keep(h:dF S w c x A n)(hk :∀b,S b→w'.heap[b]?=w.heap[b]?):dF S w' c x A n:=⟨h.kind,h.repo,h.frm,h.name,h.file,h.patch.keep hk,h.bytes.keep hk,h.cap⟩
theorem dF.mono(h:dF S w c x A n)(hm :∀b,b<w.heap.size→S b→S' b):dF S' w c x A n:=⟨h.kind,h.repo,h.frm,h.name,h.file,h.patch.mono hm,h.bytes.mono hm,h.cap⟩
theorem dF.below(h:dF S w c x A n)(hb:Below w.heap.size w w'):dF S w' c x A n:=⟨h.kind,h.repo,h.frm,h.name,h.file,h.patch.below hb,h.bytes.below hb,h.cap⟩
theorem nY.keep(h:nY w c x A n L)(hk :∀b∈L,w'.heap[b]?=w.heap[b]?):nY w' c x A n L:=by
 obtain⟨L1,L2,h1,h2,rfl⟩:=h;exact⟨L1,L2,h1.keep fun b hb=>hk b (by simp[hb]),h2.keep fun b hb=>hk b (by simp[hb]),rfl⟩
theorem nY.lt(h:nY w c x A n L):∀b∈L,b<w.heap.size:=by
 obtain⟨L1,L2,h1,h2,rfl⟩:=h;intro b hb;rcases List.mem_append.1 hb with hb|hb
 ·exact h1.lt b hb
 ·exact h2.lt b hb
theorem jr.keep(h:jr M w c x A n)(hk :∀b,M≤b→w'.heap[b]?=w.heap[b]?):jr M w' c x A n:=by
 obtain⟨h1,L,h2,h3,h4⟩:=h;exact⟨h1.keep hk,L,h2.keep fun b hb=>hk b (h4 b hb),h3,h4⟩
theorem jr.mono{M':Nat}(h:jr M w c x A n)(hm:M'≤M):jr M' w c x A n:=by
 obtain⟨h1,L,h2,h3,h4⟩:=h;exact⟨h1.mono fun b _ hb=>aI hm hb,L,h2,h3,fun b hb=>aI hm (h4 b hb)⟩
theorem jr.setLow(h:jr M w c x A n){a:Addr}(ha:a.block<M)(u:Value):jr M (w.setCell a u) c x A n :=
 h.keep fun b hb=>Below.heap_setCell w a u b (by omega)
theorem QF:bM S w Ph.zero Pt.zero:=by
 refine⟨by decide,by decide,by decide,⟨⟨by decide,by decide⟩,⟨.nil,(fun _ h=>by cases h),by decide⟩,⟨.nil,(fun _ h=>by cases h),by decide⟩,⟨aC _,by decide⟩,⟨aC _,by decide⟩⟩,
  ⟨by decide,⟨.nil,(fun _ h=>by cases h),by decide⟩,⟨by decide,by decide⟩,⟨by decide,by decide⟩,by decide,by decide,?_,?_,⟨aC _,by decide⟩,⟨aC _,by decide⟩,⟨aC _,by decide⟩⟩⟩
 all_goals trivial
theorem Ec:ae.size≤9223372036854775807:=by decide
theorem lS:ae.size≤1099511627776:=by decide
theorem vk{k:Nat}{s f m i:ByteArray}(hk:k<256)(hs:s.size≤1099511627776)(hf:f.size≤1099511627776)(hm:m.size≤1099511627776)(hi:i.size≤1099511627776):
  jr M w ⟨k,s,f,m,i,Pt.zero,[]⟩ Ph.zero none 0 :=
 ⟨⟨hk,aI hs (by decide),aI hf (by decide),aI hm (by decide),aI hi (by decide),QF,⟨.nil,Nat.zero_le _⟩,aC _,Nat.zero_le _⟩,
  [],⟨[],[],uY.bare,ku.zero,rfl⟩,List.nodup_nil,fun b hb=>by cases hb⟩
end
theorem NW{w:World}{B e size n:Nat}{v:Value}{xs:List Value}(h:w.ownsRow B e size v n xs):w.ownsRow 0 e size v n xs :=
 ⟨h.1,h.2.imp id fun⟨g,cap,cur,e1,_,rest⟩=>⟨g,cap,cur,e1,Nat.zero_le _,rest⟩⟩
theorem NY{w:World}{B e size n:Nat}{v:Value}{xs:List Value}(h:w.ownsRow B e size v n xs):∀g∈ob v,B≤g:=fun g hg=>(h.lt g (qL.1 hg)).1
def mG(N:Nat)(w:World):Prop:=∃W0,bF W0∧Below W0.heap.size W0 w∧W0.heap.size≤N
def kK(D:Nat→Prop)(N:Nat)(w:World)(o:Option (aY×List ByteArray))(e:Ending)(w':World):Prop :=
 dU N w w'∧(o=none→e=fQ)∧∀c r,o=some (c,r)→e = .returned (.tuple #[])∧∃x A n,dD D N w' r (ag c x A n)∧jr w.heap.size w' c x A n
def gU(fn:FuncId)(rf:kG):Prop:=∀{D:Nat→Prop} {N:Nat} {w:World} {l:List ByteArray} {k:Nat} {s:ByteArray},k<256→s.size≤1099511627776→dD D N w l (ag ⟨k,s,ae,ae,ae,Pt.zero,[]⟩ Ph.zero none 0)→mG N w→
 (∀s∈l,s.size≤1099511627776)→Calls Tryz.prog fn #[.pointer (some ⟨N,0,none⟩)] w (kK D N w (rf ⟨k,s,ae,ae,ae,Pt.zero,[]⟩ l))
theorem QG:gU 105 dW:=by
 intro D N w l k s hk hs h ht hl;refine(tV N w).mono ?_;rintro e w' ⟨rfl,rfl⟩;refine⟨Keep.refl _ _,fun e=>(by cases e),fun c r e=>?_⟩;simp only[dW,Option.some.injEq,Prod.mk.injEq]at e;obtain⟨rfl,rfl⟩:=e;exact⟨rfl,_,_,_,h,vk hk hs lS lS lS⟩
theorem Zz:gU 108 restUnpull:=by
 intro D N w l k s hk hs h ht hl;rcases l with _|⟨n,r⟩
 ·refine(VC h (fun _ _ e=>by cases e)).mono ?_;rintro e w' ⟨rfl,h2⟩;exact⟨h2,fun _=>rfl,fun c r e=>by cases e⟩
 ·have hn:n.size≤1099511627776:=hl n List.mem_cons_self;rcases hw:isWord n with _|_
  ·refine(VC h (fun s r e=>by cases e;exact hw)).mono ?_;rintro e w' ⟨rfl,h2⟩;exact⟨h2,fun _=>rfl,fun c r e=>by simp[restUnpull,hw]at e⟩
  ·refine(Zk h hw).mono ?_;rintro e w' ⟨rfl,h2,h3⟩;refine⟨h3,fun e=>by simp[restUnpull,hw]at e,fun c r' e=>?_⟩;simp only[restUnpull,hw,if_true,Option.some.injEq,Prod.mk.injEq]at e;obtain⟨rfl,rfl⟩:=e;exact⟨rfl,_,_,_,h2,vk hk hs lS hn lS⟩
theorem ZA:gU 109 dX:=by
 intro D N w l k s hk hs h ht hl;rcases l with _|⟨n,r⟩
 ·refine(VD h (fun _ _ e=>by cases e)).mono ?_;rintro e w' ⟨rfl,h2⟩;exact⟨h2,fun _=>rfl,fun c r e=>by cases e⟩
 ·have hn:n.size≤1099511627776:=hl n List.mem_cons_self;rcases hw:isWord n with _|_
  ·refine(VD h (fun s r e=>by cases e;exact hw)).mono ?_;rintro e w' ⟨rfl,h2⟩;exact⟨h2,fun _=>rfl,fun c r e=>by simp[dX,hw]at e⟩
  ·refine(tX h hw).mono ?_;rintro e w' ⟨rfl,h2,h3⟩;refine⟨h3,fun e=>by simp[dX,hw]at e,fun c r' e=>?_⟩;simp only[dX,hw,if_true,Option.some.injEq,Prod.mk.injEq]at e;obtain⟨rfl,rfl⟩:=e;exact⟨rfl,_,_,_,h2,vk hk hs hn lS lS⟩
theorem ZB:gU 110 dB:=by
 intro D N w l k s hk hs h ht hl;rcases l with _|⟨n,r⟩
 ·refine(VE h (fun _ _ e=>by cases e)).mono ?_;rintro e w' ⟨rfl,h2⟩;exact⟨h2,fun _=>rfl,fun c r e=>by cases e⟩
 ·have hn:n.size≤1099511627776:=hl n List.mem_cons_self;rcases hw:isWord n with _|_
  ·refine(VE h (fun s r e=>by cases e;exact hw)).mono ?_;rintro e w' ⟨rfl,h2⟩;exact⟨h2,fun _=>rfl,fun c r e=>by simp[dB,hw]at e⟩
  ·refine(Zl h hw).mono ?_;rintro e w' ⟨rfl,h2,h3⟩;refine⟨h3,fun e=>by simp[dB,hw]at e,fun c r' e=>?_⟩;simp only[dB,hw,if_true,Option.some.injEq,Prod.mk.injEq]at e;obtain⟨rfl,rfl⟩:=e;exact⟨rfl,_,_,_,h2,vk hk hs lS lS hn⟩
theorem ZC:gU 107 dE:=by
 intro D N w l k s hk hs h ht hl;have Ee:(∀s r,l=s::r→isWord s=false)→dE ⟨k,s,ae,ae,ae,Pt.zero,[]⟩ l=none→Calls Tryz.prog 107 #[.pointer (some ⟨N,0,none⟩)] w (kK D N w (dE ⟨k,s,ae,ae,ae,Pt.zero,[]⟩ l)):=fun h1 h2=>by
  refine(xU h h1).mono ?_;rintro e w' ⟨rfl,h3⟩;exact⟨h3,fun _=>rfl,fun c r e=>by rw[h2]at e;cases e⟩
 rcases l with _|⟨f,r⟩
 ·exact Ee (fun _ _ e=>by cases e) rfl
 ·rcases hw:isWord f with _|_
  ·exact Ee (fun s r e=>by cases e;exact hw) (by rcases r with _|⟨n,r⟩<;>simp[dE,hw])
  ·have stop2:(∀s r',r=s::r'→isWord s=false)→dE ⟨k,s,ae,ae,ae,Pt.zero,[]⟩ (f::r)=none→Calls Tryz.prog 107 #[.pointer (some ⟨N,0,none⟩)] w (kK D N w (dE ⟨k,s,ae,ae,ae,Pt.zero,[]⟩ (f::r))):=fun h1 h2=>by
    refine(xW h hw h1).mono ?_;rintro e w' ⟨rfl,h3⟩;exact⟨h3,fun _=>rfl,fun c r e=>by rw[h2]at e;cases e⟩
   rcases r with _|⟨n,r⟩
   ·exact stop2 (fun _ _ e=>by cases e) rfl
   ·rcases hw2:isWord n with _|_
    ·exact stop2 (fun s r e=>by cases e;exact hw2) (by simp[dE,hw,hw2])
    ·refine(xG h hw hw2).mono ?_;rintro e w' ⟨rfl,h2,h3⟩;refine⟨h3,fun e=>by simp[dE,hw,hw2]at e,fun c r' e=>?_⟩;simp only[dE,hw,hw2,Bool.and_self,if_true,Option.some.injEq,Prod.mk.injEq]at e;obtain⟨rfl,rfl⟩:=e;exact⟨rfl,_,_,_,h2,vk hk hs (hl f List.mem_cons_self) (hl n (by simp)) lS⟩
theorem ZE:gU 111 gp:=by
 intro D N w l k s hk hs h ht hl;rcases l with _|⟨t,r⟩
 ·refine(xR h).mono ?_;rintro e w' ⟨rfl,h2⟩;exact⟨h2,fun _=>rfl,fun c r e=>by cases e⟩
 ·rcases hu:unhexL t.data.toList with _|b
  ·refine(BM h hu (hl t List.mem_cons_self)).mono ?_;rintro e w' ⟨rfl,h2⟩;exact⟨h2,fun _=>rfl,fun c r e=>by simp[gp,hu]at e⟩
  ·refine(xE h hu (hl t List.mem_cons_self)).mono ?_;rintro e w' ⟨rfl,v,ho,h2,h3⟩;refine⟨h3,fun e=>by simp[gp,hu]at e,fun c r' e=>?_⟩;simp only[gp,hu,Option.map_some,Option.some.injEq,Prod.mk.injEq]at e;obtain⟨rfl,rfl⟩:=e;obtain⟨A,n,rfl⟩:=jD ho;have h0:=NW ho;have hr:=JG h0 rfl;refine⟨rfl,_,_,_,h2,⟨hk,aI hs (by decide),Ec,Ec,Ec,QF,⟨Fh h0 (fun g hg=>NY ho g hg),aI hr.1 hr.2⟩,hr⟩,ob (.slice A b.length n),⟨[],_,uY.bare,⟨h0,rfl⟩,rfl⟩,U8 _,fun g hg=>NY ho g hg⟩
end
section
open Go.RowKit
open Go.Maps (Keyed int_keyed keyOf_int_mk)
def fC:Nat→Nat
 | 2=>106
 | 3=>107
 | 4=>108
 | 5=>109
 | 6=>110
 | 9=>111
 | _=>105
abbrev oW(p:Nat×ByteArray):Value:= .agg #[.string p.2,.func (.func (fC p.1)) #[] #[]]
open Classical in
noncomputable def jA(v:Value):Option (DataW Unit×List MemPlace):=(dP.find? fun p=>decide (v=oW p)).map fun p=>(.lit (.int .u8 p.1),[])
open Classical in
theorem vw{p:Nat×ByteArray}(hp:p∈dP):jA (oW p)=some (.lit (.int .u8 p.1),[]):=by
 unfold jA;rcases hf:dP.find? (fun q=>decide (oW p=oW q))with _|q
 ·have:=List.find?_eq_none.1 hf p hp;simp at this
 ·have h1:=List.mem_of_find?_eq_some hf;have h2:=List.find?_some hf;simp only[decide_eq_true_eq]at h2;have h3:p.2=q.2:=by
   have this:=congrArg (fun a:Array Value=>a[0]?) (Value.agg.inj h2)
   simpa using this
  have h4:=jP (s:=p.2) (k:=p.1) hp;have h5:=jP (s:=q.2) (k:=q.1) h1;rw[←h3,h4]at h5;injection h5 with h5;rw[Option.map_some,h5]
open Classical in
theorem QH{v:Value}{y:DataW Unit×List MemPlace}(h:jA v=some y):∃p:{p:Nat×ByteArray // p∈dP},v=oW p.1:=by
 unfold jA at h;obtain⟨p,hp,_⟩:=Option.map_eq_some_iff.1 h;have h2:=List.find?_some hp;simp only[decide_eq_true_eq]at h2;exact⟨⟨p,List.mem_of_find?_eq_some hp⟩,h2⟩
def jU:DataW Unit:=(((((((((DataW.map []).put (.int .u8 1) (.lit (.int .u8 1))).put (.int .u8 2) (.lit (.int .u8 2))).put (.int .u8 3) (.lit (.int .u8 3))).put (.int .u8 4) (.lit (.int .u8 4))).put (.int .u8 5) (.lit (.int .u8 5))).put (.int .u8 6) (.lit (.int .u8 6))).put (.int .u8 7) (.lit (.int .u8 7))).put (.int .u8 8) (.lit (.int .u8 8))).put (.int .u8 9) (.lit (.int .u8 9))
theorem QI:jU = .map [(.int .u8 1,.lit (.int .u8 1)),(.int .u8 2,.lit (.int .u8 2)),(.int .u8 3,.lit (.int .u8 3)),(.int .u8 4,.lit (.int .u8 4)),(.int .u8 5,.lit (.int .u8 5)),(.int .u8 6,.lit (.int .u8 6)),(.int .u8 7,.lit (.int .u8 7)),(.int .u8 8,.lit (.int .u8 8)),(.int .u8 9,.lit (.int .u8 9))]:=by rfl
theorem uf{p:Nat×ByteArray}(hp:p∈dP):Maps.has jU (.int .u8 p.1)=true:=by
 rw[QI];simp only[dP,List.mem_cons,List.not_mem_nil,or_false]at hp;rcases hp with rfl|rfl|rfl|rfl|rfl|rfl|rfl|rfl|rfl<;>rfl
theorem VW{x:Int}{p:Nat×ByteArray}(hp:p∈dP)(h :∀zd,jU.atKey (.int .u8 x) zd = .lit (.int .u8 p.1)):x=(p.1:Int):=by
 have h:=h (.lit (.bool false));rw[QI]at h;by_cases e1:x=1
 ·subst e1;simp[DataW.atKey,Lit.sameKey]at h;omega
 by_cases e2:x=2
 ·subst e2;simp[DataW.atKey,Lit.sameKey]at h;omega
 by_cases e3:x=3
 ·subst e3;simp[DataW.atKey,Lit.sameKey]at h;omega
 by_cases e4:x=4
 ·subst e4;simp[DataW.atKey,Lit.sameKey]at h;omega
 by_cases e5:x=5
 ·subst e5;simp[DataW.atKey,Lit.sameKey]at h;omega
 by_cases e6:x=6
 ·subst e6;simp[DataW.atKey,Lit.sameKey]at h;omega
 by_cases e7:x=7
 ·subst e7;simp[DataW.atKey,Lit.sameKey]at h;omega
 by_cases e8:x=8
 ·subst e8;simp[DataW.atKey,Lit.sameKey]at h;omega
 by_cases e9:x=9
 ·subst e9;simp[DataW.atKey,Lit.sameKey]at h;omega
 simp[DataW.atKey,Lit.sameKey,Ne.symm e1,Ne.symm e2,Ne.symm e3,Ne.symm e4,Ne.symm e5,Ne.symm e6,Ne.symm e7,Ne.symm e8,Ne.symm e9]at h
theorem QJ{k:Nat}{s t:ByteArray}(h:(k,s)∈dP)(h':(k,t)∈dP):s=t:=by
 simp only[dP,List.mem_cons,List.not_mem_nil,or_false,Prod.mk.injEq]at h;rcases h with⟨rfl,rfl⟩|⟨rfl,rfl⟩|⟨rfl,rfl⟩|⟨rfl,rfl⟩|⟨rfl,rfl⟩|⟨rfl,rfl⟩|⟨rfl,rfl⟩|⟨rfl,rfl⟩|⟨rfl,rfl⟩ <;>
 ·simp[dP]at h';exact h'.symm
theorem BR{H:Type}{P:Program}{T k E:TypeId}{R:Value→Option (DataW H×List MemPlace)}{b n:Nat}{D:DataW H}{w:World}{o:Oper}{a:Act}{K':Act→World→Prop}{Q:Exit→Act→World→Prop}{key v:Value}{kl:Lit}{d:DataW H}{ps:List MemPlace}
  (hd:o.dst=none) (ht:P.underlying T=some (.map k E)) (K:Keyed P k) (hown:w.ownsMap P k R b n D) (hn:n<maxLen) (hkey:keyOf P k key=some kl) (hv:R v=some (d,ps))
  (h :∀w',w'.ownsMap P k R b (n+1) (D.put kl d)→w.grownBy w' (some b)→K' a w'):
  Oper.upon P o a K' Q (((Instr.mapUpdate T (.map (some b)) key v).run P w).andThen fun _ w'=> .ok .skip w'):=by
 obtain⟨w',hrun,h1,h2⟩:=hown.update K ht hn hkey hv;rw[hrun];show K' (a.put o.dst undef) w';rw[hd];exact h w' h1 h2
theorem lD:Keyed Tryz.prog 32:=int_keyed Tryz.underlying32
theorem xX(x:Int)(h:(Lit.int .u8 x).wf=true):keyOf Tryz.prog 32 (.int .u8 x)=some (.int .u8 x):=keyOf_int_mk Tryz.underlying32 h
abbrev mJ(w:World)(b:Nat):Prop:=w.ownsMap Tryz.prog 32 jA b 9 jU
theorem QK(w:World):Calls Tryz.prog 40 #[] w fun e w'=>e = .returned (.map (some w.heap.size))∧mJ w' w.heap.size∧Below w.heap.size w w':=by
 have T:=hide (World.ownsMap_made w Tryz.prog 32 jA);have HB:Hid (Below w.heap.size w (w.alloc (.map #[] 0))):=hide (az w _);have hmm:=@run_makeMap Tryz.prog;go_enter Tryz.func40,Tryz.ntmps40;have hv1:jA (.agg #[.string {data:=#[110,101,119]},.func (.func 105) #[] #[]])=some (.lit (.int .u8 1),[]):=vw (p:=(1,jo)) (by simp[dP]);have hv2:jA (.agg #[.string {data:=#[114,101,99,111,114,100]},.func (.func 106) #[] #[]])=some (.lit (.int .u8 2),[]):=vw (p:=(2,ay)) (by simp[dP]);have hv3:jA (.agg #[.string {data:=#[112,117,108,108]},.func (.func 107) #[] #[]])=some (.lit (.int .u8 3),[]):=vw (p:=(3,eP)) (by simp[dP]);have hv4:jA (.agg #[.string {data:=#[117,110,112,117,108,108]},.func (.func 108) #[] #[]])=some (.lit (.int .u8 4),[]):=vw (p:=(4,dK)) (by simp[dP]);have hv5:jA (.agg #[.string {data:=#[109,101,114,103,101]},.func (.func 109) #[] #[]])=some (.lit (.int .u8 5),[]):=vw (p:=(5,dY)) (by simp[dP]);have hv6:jA (.agg #[.string {data:=#[99,104,101,99,107,111,117,116]},.func (.func 110) #[] #[]])=some (.lit (.int .u8 6),[]):=vw (p:=(6,bV)) (by simp[dP]);have hv7:jA (.agg #[.string {data:=#[108,111,103]},.func (.func 105) #[] #[]])=some (.lit (.int .u8 7),[]):=vw (p:=(7,jR)) (by simp[dP]);have ZF:jA (.agg #[.string {data:=#[101,120,112,111,114,116]},.func (.func 105) #[] #[]])=some (.lit (.int .u8 8),[]):=vw (p:=(8,fA)) (by simp[dP]);have ZG:jA (.agg #[.string {data:=#[105,109,112,111,114,116]},.func (.func 111) #[] #[]])=some (.lit (.int .u8 9),[]):=vw (p:=(9,aV)) (by simp[dP])
 go_wp2_with fail
 generalize w.alloc (.map #[] 0)=wb at T HB⊢
 go_wp2_with(first
  | ((with_reducible refine BR ?_ Tryz.underlying100 lD T.out (by unfold maxLen;omega) (xX 1 (by decide)) hv1 ?_);exact rfl;intro w1 T0 hg;have HB1:Hid (Below w.heap.size w w1):=hide (HB.out.grown hg HB.out.size (by rintro k ⟨⟩;exact aC _));clear T HB hg;have T:=hide T0;have HB:=HB1;clear HB1 T0)
  | ((with_reducible refine BR ?_ Tryz.underlying100 lD T.out (by unfold maxLen;omega) (xX 2 (by decide)) hv2 ?_);exact rfl;intro w1 T0 hg;have HB1:Hid (Below w.heap.size w w1):=hide (HB.out.grown hg HB.out.size (by rintro k ⟨⟩;exact aC _));clear T HB hg;have T:=hide T0;have HB:=HB1;clear HB1 T0)
  | ((with_reducible refine BR ?_ Tryz.underlying100 lD T.out (by unfold maxLen;omega) (xX 3 (by decide)) hv3 ?_);exact rfl;intro w1 T0 hg;have HB1:Hid (Below w.heap.size w w1):=hide (HB.out.grown hg HB.out.size (by rintro k ⟨⟩;exact aC _));clear T HB hg;have T:=hide T0;have HB:=HB1;clear HB1 T0)
  | ((with_reducible refine BR ?_ Tryz.underlying100 lD T.out (by unfold maxLen;omega) (xX 4 (by decide)) hv4 ?_);exact rfl;intro w1 T0 hg;have HB1:Hid (Below w.heap.size w w1):=hide (HB.out.grown hg HB.out.size (by rintro k ⟨⟩;exact aC _));clear T HB hg;have T:=hide T0;have HB:=HB1;clear HB1 T0)
  | ((with_reducible refine BR ?_ Tryz.underlying100 lD T.out (by unfold maxLen;omega) (xX 5 (by decide)) hv5 ?_);exact rfl;intro w1 T0 hg;have HB1:Hid (Below w.heap.size w w1):=hide (HB.out.grown hg HB.out.size (by rintro k ⟨⟩;exact aC _));clear T HB hg;have T:=hide T0;have HB:=HB1;clear HB1 T0)
  | ((with_reducible refine BR ?_ Tryz.underlying100 lD T.out (by unfold maxLen;omega) (xX 6 (by decide)) hv6 ?_);exact rfl;intro w1 T0 hg;have HB1:Hid (Below w.heap.size w w1):=hide (HB.out.grown hg HB.out.size (by rintro k ⟨⟩;exact aC _));clear T HB hg;have T:=hide T0;have HB:=HB1;clear HB1 T0)
  | ((with_reducible refine BR ?_ Tryz.underlying100 lD T.out (by unfold maxLen;omega) (xX 7 (by decide)) hv7 ?_);exact rfl;intro w1 T0 hg;have HB1:Hid (Below w.heap.size w w1):=hide (HB.out.grown hg HB.out.size (by rintro k ⟨⟩;exact aC _));clear T HB hg;have T:=hide T0;have HB:=HB1;clear HB1 T0)
  | ((with_reducible refine BR ?_ Tryz.underlying100 lD T.out (by unfold maxLen;omega) (xX 8 (by decide)) ZF ?_);exact rfl;intro w1 T0 hg;have HB1:Hid (Below w.heap.size w w1):=hide (HB.out.grown hg HB.out.size (by rintro k ⟨⟩;exact aC _));clear T HB hg;have T:=hide T0;have HB:=HB1;clear HB1 T0)
  | ((with_reducible refine BR ?_ Tryz.underlying100 lD T.out (by unfold maxLen;omega) (xX 9 (by decide)) ZG ?_);exact rfl;intro w1 T0 hg;have HB1:Hid (Below w.heap.size w w1):=hide (HB.out.grown hg HB.out.size (by rintro k ⟨⟩;exact aC _));clear T HB hg;have T:=hide T0;have HB:=HB1;clear HB1 T0))
 go_ret;exact⟨rfl,T.out,HB.out⟩
end
section
open Go.RowKit
abbrev gV:List Value:=ag aY.zero Ph.zero none 0
def fU(w:World)(s:ByteArray)(e:Ending)(w':World):Prop :=
 Below w.heap.size w w'∧(lineOf (wordsOf 32 s)=none→e = .returned (.tuple #[.agg gV.toArray,.bool false]))∧
  ∀c,lineOf (wordsOf 32 s)=some c→∃x A n,e = .returned (.tuple #[.agg (ag c x A n).toArray,.bool true])∧jr w.heap.size w' c x A n
theorem VX{P:Program}{W:World}(f:ResultVar→Sem Value)(r0 r1:ResultVar)(v0 v1:Value)(h0:(f r0).run P W = .ok v0 W)(h1:(f r1).run P W = .ok v1 W):((#[r0,r1].mapM f).run P W) = .ok #[v0,v1] W:=by
 simp[go_sem,h0,h1]
theorem VY{T:Array Value}{W:World}{p q:Nat}{cs:List Value}{b:Bool}(h2:T[2]?=some (.pointer (some ⟨p,0,none⟩)))(h3:T[3]?=some (.pointer (some ⟨q,0,none⟩)))
  (hr:W.rangeAt p 0 cs) (hl:cs.length=20) (hb:W.cell? ⟨q,0,none⟩=some (.bool b)):(results Tryz.f34 T).run Tryz.prog W = .ok (.tuple #[.agg cs.toArray,.bool b]) W:=by
 have hld:=run_loadVar_mid (P:=Tryz.prog) W p 0 46 cs _ hr Tryz.underlying46 rfl (by rw[hl];exact zag);have QL:(loadVar 4 ⟨q,0,none⟩).run Tryz.prog W = .ok (.bool b) W:=by simp[go_sem,hb]
 have hg2:T.getD 2 undef = .pointer (some ⟨p,0,none⟩):=by rw[Array.getD_eq_getD_getElem?,h2];rfl
 have hg3:T.getD 3 undef = .pointer (some ⟨q,0,none⟩):=by rw[Array.getD_eq_getD_getElem?,h3];rfl
 unfold results;rw[Sem.run_bind,Tryz.results34,VX _ _ _ (.agg cs.toArray) (.bool b)]
 ·rfl
 ·show((asAddr (T.getD 2 undef)) >>= fun a=>loadVar 46 a).run Tryz.prog W=_;rw[hg2,Sem.run_bind];simp only[asAddr,Sem.run_pure,Result.andThen_ok];exact hld
 ·show((asAddr (T.getD 3 undef)) >>= fun a=>loadVar 4 a).run Tryz.prog W=_;rw[hg3,Sem.run_bind];simp only[asAddr,Sem.run_pure,Result.andThen_ok];exact QL
theorem ug{w W:World}{s:ByteArray}{T:Array Value}{p q:Nat}{cs:List Value}{b:Bool}(h2:T[2]?=some (.pointer (some ⟨p,0,none⟩)))(h3:T[3]?=some (.pointer (some ⟨q,0,none⟩)))
  (hr:W.rangeAt p 0 cs) (hl:cs.length=20) (hb:W.cell? ⟨q,0,none⟩=some (.bool b)) (hP:fU w s (.returned (.tuple #[.agg cs.toArray,.bool b])) W):
  Leaves Tryz.prog Tryz.f34 T (fU w s) [{target:= .fn (.func 75) #[.pointer (some ⟨p,0,none⟩),.pointer (some ⟨q,0,none⟩)],args:=#[]}] .returning W:=by
 refine leaves_cons (f:=75) (args:=#[.pointer (some ⟨p,0,none⟩),.pointer (some ⟨q,0,none⟩)]) (by simp) (by simp[go_sem]) ?_;refine(JK _ _ _).mono ?_;rintro e u' w'' ⟨rfl,rfl,rfl⟩;exact⟨_,VY h2 h3 hr hl hb,hP⟩
theorem ZH{w W:World}{s:ByteArray}{T:Array Value}{p q:Nat}{z:Value}(h2:T[2]?=some (.pointer (some ⟨p,0,none⟩)))(h3:T[3]?=some (.pointer (some ⟨q,0,none⟩)))
  (ht:W.there p 0 20) (hq:W.cell? ⟨q,0,none⟩=some z) (ZI:W.frozen? ⟨q,0,none⟩=false) (hpq :¬p=q) (hB:Below w.heap.size w W) (hp:w.heap.size≤p) (NF:w.heap.size≤q) (hn:lineOf (wordsOf 32 s)=none):
  Leaves Tryz.prog Tryz.f34 T (fU w s) [{target:= .fn (.func 75) #[.pointer (some ⟨p,0,none⟩),.pointer (some ⟨q,0,none⟩)],args:=#[]}]
   (.panicking [{v:= .iface 136 (.agg #[]),recovered:=false}]) W:=by
 refine leaves_cons (f:=75) (args:=#[.pointer (some ⟨p,0,none⟩),.pointer (some ⟨q,0,none⟩)]) (by simp) (by simp[go_sem]) ?_;refine(BH p q z W [] hq ZI hpq ht).mono ?_;rintro e u' w'' ⟨rfl,rfl,rfl⟩;have BI :¬q=p:=fun e=>hpq e.symm;have hpl:p<W.heap.size:=by
  obtain⟨v,hv⟩:=Option.isSome_iff_exists.1 (ht 0 (by decide)).1;exact block_lt_of_cell hv
 have QM:=block_lt_of_cell hq;have hbb:=az W (.cells #[] 136);have ht1:(W.alloc (.cells #[] 136)).there p 0 20:=World.there_alloc ht _;have hq1:((W.alloc (.cells #[] 136)).setCells p 0 ak).cell? ⟨q,0,none⟩=some z:=(World.cell?_setCells_out p ak 0 _ ⟨q,0,none⟩ (fun e _=>absurd e BI)).trans ((hbb.cell (p:=⟨q,0,none⟩) QM).trans hq);have hr:(mD W p q).rangeAt p 0 ak:=by
  intro j v hv;have h:=World.rangeAt_setCells_same (W.alloc (.cells #[] 136)) p 0 ak ht1 j v hv;unfold mD;rw[World.cell?_setCell_other]
  ·exact h
  ·intro e;injection e with e1;exact BI e1
 refine⟨_,VY h2 h3 hr rfl (World.cell?_setCell_same _ _ _ hq1),?_,fun _=>rfl,fun c hc=>by rw[hn]at hc;cases hc⟩;unfold mD;refine Below.setCell ?_ (p:=⟨q,0,none⟩) NF _;exact Keep.below (Keep.trans (P:=fun k=>k<w.heap.size) (Keep.of_below (hB.alloc hB.size _) fun k hk=>hk) (FN p (fun h=>by omega) ak 0 _))
structure bZ(w W:World):Prop where
 below:Below w.heap.size w W
 size:w.heap.size+2≤W.heap.size
 cr:W.rangeAt w.heap.size 0 ak
 ct:W.there w.heap.size 0 20
 iq:W.cell? ⟨w.heap.size+1,0,none⟩=some (.bool false)
 fr:W.frozen? ⟨w.heap.size+1,0,none⟩=false
theorem bZ.keep{w W W':World}(h:bZ w W)(hk:Keep (fun k=>k<w.heap.size+2) W W'):bZ w W' where
 below:=h.below.trans (Keep.below (hk.mono fun k hk=>by omega))
 size:=aI h.size hk.size
 cr:=fun j v hv=>(hk.cell (a:=⟨w.heap.size,0+j,none⟩) (by show w.heap.size<_;omega)).trans (h.cr j v hv)
 ct:=fun j hj=>⟨by rw[hk.cell (a:=⟨w.heap.size,0+j,none⟩) (by show w.heap.size<_;omega)];exact(h.ct j hj).1,(hk.frozen (a:=⟨w.heap.size,0+j,none⟩) (by show w.heap.size<_;omega)).trans (h.ct j hj).2⟩
 iq:=(hk.cell (a:=⟨w.heap.size+1,0,none⟩) (by show w.heap.size+1<_;omega)).trans h.iq
 fr:=(hk.frozen (a:=⟨w.heap.size+1,0,none⟩) (by show w.heap.size+1<_;omega)).trans h.fr
theorem bZ.fell{w W:World}{s:ByteArray}{T:Array Value}(h:bZ w W)(h2:T[2]?=some (.pointer (some ⟨w.heap.size,0,none⟩)))(h3:T[3]?=some (.pointer (some ⟨w.heap.size+1,0,none⟩)))(hn:lineOf (wordsOf 32 s)=none):
  Leaves Tryz.prog Tryz.f34 T (fU w s) [{target:= .fn (.func 75) #[.pointer (some ⟨w.heap.size,0,none⟩),.pointer (some ⟨w.heap.size+1,0,none⟩)],args:=#[]}]
   (.panicking [{v:= .iface 136 (.agg #[]),recovered:=false}]) W :=
 ZH h2 h3 h.ct h.iq h.fr (by omega) h.below (aC _) (Nat.le_succ _) hn
theorem bZ.stored{w W:World}(h:bZ w W)(cs:List Value)(hl:cs.length=20):∃V,V=W.setCells w.heap.size 0 cs.toArray.toList∧V.cell? ⟨w.heap.size+1,0,none⟩=some (.bool false)∧V.frozen? ⟨w.heap.size+1,0,none⟩=false∧
  V.rangeAt w.heap.size 0 cs∧Keep (fun k=>k≠w.heap.size) W V∧Below w.heap.size w V :=
 ⟨_,rfl,(World.cell?_setCells_out w.heap.size cs.toArray.toList 0 W ⟨w.heap.size+1,0,none⟩ (fun e _=>absurd e (by show¬w.heap.size+1=w.heap.size;omega))).trans h.iq,(World.frozen?_setCells _ _ _ _ _).trans h.fr,
  World.rangeAt_setCells_same W w.heap.size 0 cs (by rw[hl];exact h.ct),FN w.heap.size (fun h=>h rfl) cs 0 W,h.below.trans (Keep.below (FN w.heap.size (P:=fun k=>k<w.heap.size) (Nat.lt_irrefl _) cs 0 W))⟩
theorem jQ(c:aY)(x:Ph)(A:Option Addr)(n:Nat):(ag c x A n).toArray.all (·.oneCell')=true:=all_oneCell_toArray (cs:=ag c x A n) (by
 intro v hv;simp only[ag,List.mem_cons,List.not_mem_nil,or_false]at hv;rcases hv with rfl|rfl|rfl|rfl|rfl|rfl|rfl|rfl|rfl|rfl|rfl|rfl|rfl|rfl|rfl|rfl|rfl|rfl|rfl|rfl<;>rfl)
theorem VZ{w V:World}{s:ByteArray}{T:Array Value}{cs:List Value}{b:Bool}(h2:T[2]?=some (.pointer (some ⟨w.heap.size,0,none⟩)))(h3:T[3]?=some (.pointer (some ⟨w.heap.size+1,0,none⟩)))
  (hl:cs.length=20) (hc:V.cell? ⟨w.heap.size+1,0,none⟩=some (.bool false)) (hr:V.rangeAt w.heap.size 0 cs) (hP:fU w s (.returned (.tuple #[.agg cs.toArray,.bool b])) (V.setCell ⟨w.heap.size+1,0,none⟩ (.bool b))):
  Leaves Tryz.prog Tryz.f34 T (fU w s) [{target:= .fn (.func 75) #[.pointer (some ⟨w.heap.size,0,none⟩),.pointer (some ⟨w.heap.size+1,0,none⟩)],args:=#[]}] .returning (V.setCell ⟨w.heap.size+1,0,none⟩ (.bool b)):=by
 refine ug h2 h3 (fun j v hv=>?_) hl (World.cell?_setCell_same _ _ _ hc) hP;rw[World.cell?_setCell_other]
 ·exact hr j v hv
 ·intro e;injection e with e1;omega
def lF(w:World)(ws:List ByteArray):World :=
 (((w.alloc (.cells ak.toArray 46)).alloc (.cells #[.bool false] 4)).alloc (.cells (ws.map .string).toArray 9)).alloc
  (.cells ((.slice (some ⟨w.heap.size+1+1,0,none⟩) ws.length ws.length)::ak).toArray 142)
theorem xY(w:World)(ws:List ByteArray)(hl:ws.length≤9223372036854775807):
  bZ w (lF w ws)∧dD (fun b=>b=w.heap.size+1+1) (w.heap.size+1+1+1) (lF w ws) ws gV∧(lF w ws).heap.size=w.heap.size+1+1+1+1:=by
 obtain⟨o0,e0⟩:∃o0,o0=Obj.cells ak.toArray 46:=⟨_,rfl⟩;obtain⟨o1,e1⟩:∃o1,o1=Obj.cells #[.bool false] 4:=⟨_,rfl⟩;obtain⟨o2,e2⟩:∃o2,o2=Obj.cells (ws.map .string).toArray 9:=⟨_,rfl⟩;obtain⟨o3,e3⟩:∃o3,o3=Obj.cells ((.slice (some ⟨w.heap.size+1+1,0,none⟩) ws.length ws.length)::ak).toArray 142:=⟨_,rfl⟩;have hW:lF w ws=(((w.alloc o0).alloc o1).alloc o2).alloc o3:=by rw[e0,e1,e2,e3];rfl
 rw[hW];have z1:(w.alloc o0).heap.size=w.heap.size+1:=by simp
 have z2:((w.alloc o0).alloc o1).heap.size=w.heap.size+1+1:=by simp
 have z3:(((w.alloc o0).alloc o1).alloc o2).heap.size=w.heap.size+1+1+1:=by simp
 have z4:((((w.alloc o0).alloc o1).alloc o2).alloc o3).heap.size=w.heap.size+1+1+1+1:=by simp
 have b1:=az (w.alloc o0) o1;have b2:=az ((w.alloc o0).alloc o1) o2;have b3:=az (((w.alloc o0).alloc o1).alloc o2) o3;have h0:((((w.alloc o0).alloc o1).alloc o2).alloc o3).heap[w.heap.size]?=some o0:=((b3.block _ (by omega)).trans (b2.block _ (by omega))).trans ((b1.block _ (by omega)).trans (heap_alloc_new w o0));have h1:((((w.alloc o0).alloc o1).alloc o2).alloc o3).heap[w.heap.size+1]?=some o1:=((b3.block _ (by omega)).trans (b2.block _ (by omega))).trans (by have:=heap_alloc_new (w.alloc o0) o1;rwa [z1]at this);have h2:((((w.alloc o0).alloc o1).alloc o2).alloc o3).heap[w.heap.size+1+1]?=some o2:=(b3.block _ (by omega)).trans (by have:=heap_alloc_new ((w.alloc o0).alloc o1) o2;rwa [z2]at this);have h3:((((w.alloc o0).alloc o1).alloc o2).alloc o3).heap[w.heap.size+1+1+1]?=some o3:=by have:=heap_alloc_new (((w.alloc o0).alloc o1).alloc o2) o3;rwa [z3]at this
 have hB:Below w.heap.size w ((((w.alloc o0).alloc o1).alloc o2).alloc o3):=(((az w o0).trans (b1.mono (by omega))).trans (b2.mono (by omega))).trans (b3.mono (by omega));generalize ((((w.alloc o0).alloc o1).alloc o2).alloc o3)=W at h0 h1 h2 h3 hB z4⊢;subst e0 e1 e2 e3;have c0 :∀j v,ak[j]?=some v→W.cell? ⟨w.heap.size,0+j,none⟩=some v:=fun j v hv=>by rw[Lib.cell_of_heap h0];simpa using hv
 refine⟨⟨hB,by omega,c0,fun j hj=>?_,by rw[Lib.cell_of_heap h1];rfl,by unfold World.frozen?;rw[h1];rfl⟩,⟨⟨⟨_,_,by rw[Lib.cell_of_heap h3];rfl,.inr ⟨_,0,rfl,rfl,fun j u hu=>by rw[Nat.zero_add,Lib.cell_of_heap h2];simpa using hu⟩,aC _,hl⟩,by unfold World.frozen?;rw[h3];rfl,fun b hb=>by omega⟩,rfl,fun j u hu=>?_,fun o=>by unfold World.frozen?;rw[h3];rfl⟩,z4⟩
 ·have hv:ak[j]?=some (ak[j]'hj):=List.getElem?_eq_getElem hj;exact⟨by rw[c0 j _ hv];rfl,by unfold World.frozen?;rw[h0];rfl⟩
 ·rw[Lib.cell_of_heap h3,Nat.add_comm 1 j];have hu:ak[j]?=some u:=hu
  simpa using hu
theorem V3{n:Int}(h:0≤n∧n<12)(w:World):Calls Tryz.prog 147 #[.int .i64 1,.int .i64 n] w fun e w'=>e = .returned (.agg #[.int .u8 0,.string ⟨#[]⟩,.int .i64 (8000024+n),.slice none 0 0])∧Below w.heap.size w w':=by
 go_enter Tryz.func147,Tryz.ntmps147
 go_wp2_with(go_at_call 144;(with_reducible refine(U2 n h _).mono ?_);rintro e1 w1 ⟨rfl,rfl⟩)
 have hc:=Lib.cell_of_heap (heap_alloc_new w (.cells #[.int .u8 0,.string ⟨#[]⟩,.int .i64 (8000024+n),.slice none 0 0] 218));have c0:=hc 0;have c1:=hc 1;have c2:=hc 2;have c3:=hc 3;simp only[List.getElem?_toArray,List.getElem?_cons_zero,List.getElem?_cons_succ]at c0 c1 c2 c3;refine bodyPost_ret (v:= .agg #[.int .u8 0,.string ⟨#[]⟩,.int .i64 (8000024+n),.slice none 0 0]) ?_ rfl ⟨rfl,az _ _⟩;simp only[results,Tryz.results147];go_simp
abbrev kL(A:Option Addr)(c:Nat)(ks:Fo)(W:World):Prop :=
 Calls Tryz.prog 168 #[.slice A ks.len c] W fun e w'=>∃A' c',e = .returned (.slice A' ks.len c')∧bQ (fun b=>W.heap.size≤b) w' A' c' ks∧Below W.heap.size W w'
theorem ZJ{k:Nat}{t:ByteArray}{n:Int}{A:Option Addr}{c:Nat}{ks:Fo}{w:World}(hk :∀W,Below w.heap.size w W→kL A c ks W):
  Calls Tryz.prog 210 #[.agg #[.int .u8 k,.string t,.int .i64 n,.slice A ks.len c]] w fun e w'=>∃A' c',e = .returned (.agg #[.int .u8 k,.string t,.int .i64 n,.slice A' ks.len c'])∧bQ (fun b=>w.heap.size≤b) w' A' c' ks∧Below w.heap.size w w':=by
 have Hk:=hide hk;clear hk;obtain⟨W0,hW0⟩:∃W0,W0=(w.alloc (.cells #[.int .u8 k,.string t,.int .i64 n,.slice A ks.len c] 218)).alloc (.cells #[.int .u8 0,.string ⟨#[]⟩,.int .i64 0,.slice none 0 0] 218):=⟨_,rfl⟩;have hB0:dw w W0 [.int .u8 k,.string t,.int .i64 n,.slice A ks.len c] [.int .u8 0,.string ⟨#[]⟩,.int .i64 0,.slice none 0 0]:=by rw[hW0];exact dw.start w #[.int .u8 k,.string t,.int .i64 n,.slice A ks.len c] #[.int .u8 0,.string ⟨#[]⟩,.int .i64 0,.slice none 0 0] _ _
 have HW0:=hide hW0;clear hW0;go_enter Tryz.func210,Tryz.ntmps210
 go_upto_region 1 with fail
 change Code.wp _ _ _ _ ((w.alloc (.cells #[.int .u8 k,.string t,.int .i64 n,.slice A ks.len c] 218)).alloc (.cells #[.int .u8 0,.string ⟨#[]⟩,.int .i64 0,.slice none 0 0] 218));rw[←HW0.out];clear HW0;have b0:=hB0.c 0 _ rfl;have b1:=hB0.c 1 _ rfl;have b2:=hB0.c 2 _ rfl;have b3:=hB0.c 3 _ rfl;have HB0:=hide hB0;clear hB0
 go_cut [] (fun wx=>∃A1 c1,dw w wx [.int .u8 k,.string t,.int .i64 n,.slice A1 ks.len c1] [.int .u8 0,.string ⟨#[]⟩,.int .i64 0,.slice none 0 0]∧bQ (fun b=>w.heap.size+2≤b) wx A1 c1 ks)
 case first =>
  go_wp2_with(go_at_call 168;(with_reducible refine(Hk.out _ HB0.out.b).mono ?_);rintro e1 w1 ⟨A1,c1,rfl,hL,hB⟩;have hC:=HB0.out.call hB;have hz:=hC.z;have d0:=hC.c 0 _ rfl;have d1:=hC.c 1 _ rfl;have d2:=hC.c 2 _ rfl;have d3:=hC.c 3 _ rfl;have hf:=hC.fc;have HC:=hide hC;have HL:=hide hL;have vz:=hide hB;clear hC hL hB)
  go_meet
  exact⟨_,_,HC.out.put 3 [.slice A1 ks.len c1] (by simp),((HL.out.mono (S':=fun b=>w.heap.size+2≤b) (fun b hb=>aI HB0.out.z hb)).keep fun b hb=>jG w.heap.size (by omega) [.slice A1 ks.len c1] 3 w1)⟩
 case rest =>
 obtain⟨A1,c1,hB1,hl⟩:=hcut;clear HB0 b0 b1 b2 b3;have jJ:=hide hl;clear hl
 go_upto_region 2 with fail
 have hl:=jJ.out;clear jJ;have b0:=hB1.c 0 _ rfl;have b1:=hB1.c 1 _ rfl;have b2:=hB1.c 2 _ rfl;have b3:=hB1.c 3 _ rfl;have r0:=hB1.r 0 _ rfl;have r1:=hB1.r 1 _ rfl;have r2:=hB1.r 2 _ rfl;have r3:=hB1.r 3 _ rfl;have hfr:=hB1.fr;obtain⟨hR,uh⟩:=hB1.res [.int .u8 k,.string t,.int .i64 n,.slice A1 ks.len c1] rfl;have hz:=hB1.z;have hlr:=(hl.keep (w':=World.setCells wc (w.heap.size+1) 0 [.int .u8 k,.string t,.int .i64 n,.slice A1 ks.len c1]) fun b hb=>jG (w.heap.size+1) (by omega) _ _ _);have jJ:=hide hlr;clear hl hlr;have mZ:=hide uh;clear hB1 uh;obtain⟨wF,hF⟩:∃wF,wF=World.setCells wc (w.heap.size+1) 0 [.int .u8 k,.string t,.int .i64 n,.slice A1 ks.len c1]:=⟨_,rfl⟩;rw[←hF]at hR;rw[←hF]at jJ;rw[←hF]at mZ;simp only[World.setCells,Nat.reduceAdd]at hF;have HR:=hide hR;have HF:=hide hF;clear hR hF
 go_wp2_with fail
 rw[←HF.out];clear HF;have q0:=HR.out 0 _ rfl;have q1:=HR.out 1 _ rfl;have q2:=HR.out 2 _ rfl;have q3:=HR.out 3 _ rfl;refine bodyPost_ret (v:= .agg #[.int .u8 k,.string t,.int .i64 n,.slice A1 ks.len c1]) ?_ rfl ⟨_,_,rfl,jJ.mono fun b hb=>by omega,mZ⟩;simp only[results,Tryz.results210];go_simp
end
end Go.Proofs.YtjjaojnglnpgaaaGreatDoor
