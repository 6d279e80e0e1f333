/- Part 14 of what scriptBack_cardUpto rests on. -/
import Derived.Deep.RegionHeld
import Derived.Shelf.Abstract
import Derived.Deep.DeepCutAuto
import Derived.Test.YtjjaojnglnpgaaaGreatDoorY12
import Derived.Test.YtjjaojnglnpgaaaGreatDoorY02
import Derived.Test.YtjjaojnglnpgaaaGreatDoorY04
import Derived.Test.YtjjaojnglnpgaaaGreatDoorY07
import Derived.Test.YtjjaojnglnpgaaaGreatDoorY10
import Derived.Test.YtjjaojnglnpgaaaGreatDoorY05
import Derived.Test.YtjjaojnglnpgaaaGreatDoorY00
set_option linter.unusedVariables false
set_option linter.unusedSimpArgs false
set_option maxHeartbeats 16000000
set_option maxRecDepth 1000000
namespace Go.Proofs.YtjjaojnglnpgaaaGreatDoor
section
open Go.RowKit
theorem JV{D:Nat→Prop}{N:Nat}{w:World}{l:List ByteArray}(h:dU D N w l)(hs :∀s r,l=s::r→isWord s=false):
  Calls Tryz.prog 77 #[.pointer (some ⟨N,0,none⟩)] w fun e w'=>e=dm∧aW N w w':=by
 rcases l with _|⟨s,r⟩
 ·refine(JJ h).mono ?_;rintro e w' ⟨rfl,rfl⟩;exact⟨rfl,Keep.refl _ _⟩
 ·refine(JK h (hs s r rfl)).mono ?_;rintro e w' ⟨rfl,u,rfl⟩;exact⟨rfl,(Keep.refl _ w).setCell (fun hk=>hk.2 rfl) _⟩
theorem vO{D:Nat→Prop}{N:Nat}{w:World}{l:List ByteArray}{vs:List Value}(h:bu D N w l vs)(hs :∀s r,l=s::r→isWord s=false):
  Calls Tryz.prog 107 #[.pointer (some ⟨N,0,none⟩)] w fun e w'=>e=dm∧aW N w w':=by
 have H:Hid (bu D N w.drew l vs):=hide (h.below ((Below.refl _ w).drew));have h0:aW N w w.drew:=(Keep.refl _ w).drew;clear h;go_enter Tryz.func107,Tryz.ntmps107
 go_upto_region 0 with fail
 refine wp_region_held_drew (S:=fun _=>True) (by kernel_rfl) trivial (fun hHeld=>?_);refine dC 0 hHeld ?_;refine dC 1 hHeld ?_;refine dC 2 hHeld ?_;refine dC 3 hHeld ?_;refine dC 4 hHeld ?_;refine dC 6 hHeld ?_;refine dC 7 hHeld ?_;refine dC 8 hHeld ?_;refine wpAnyH_ready (rs:=[5]) (by kernel_rfl) (by simp) ?_;refine AllReadyH.cons rfl (fun K hK=>?_) AllReadyH.nil;go_simp
 go_wp2_with(go_at_call 77;(with_reducible refine(JV H.out.wd hs).mono ?_);rintro e1 w1 ⟨rfl,h1⟩)
 exact⟨rfl,rfl,h0.trans (h1.mono fun k hk=>⟨aH hk.1 h0.size,hk.2⟩)⟩
theorem vP{D:Nat→Prop}{N:Nat}{w:World}{s:ByteArray}{l:List ByteArray}{vs:List Value}(h:bu D N w (s::l) vs)(hw:isWord s=true)(hs :∀s r,l=s::r→isWord s=false):
  Calls Tryz.prog 107 #[.pointer (some ⟨N,0,none⟩)] w fun e w'=>e=dm∧aW N w w':=by
 have H:Hid (bu D N w.drew (s::l) vs):=hide (h.below ((Below.refl _ w).drew));have h0:aW N w w.drew:=(Keep.refl _ w).drew;clear h;go_enter Tryz.func107,Tryz.ntmps107
 go_upto_region 0 with fail
 refine wp_region_held_drew (S:=fun _=>True) (by kernel_rfl) trivial (fun hHeld=>?_);refine dC 0 hHeld ?_;refine dC 1 hHeld ?_;refine dC 2 hHeld ?_;refine dC 3 hHeld ?_;refine dC 4 hHeld ?_;refine dC 6 hHeld ?_;refine dC 7 hHeld ?_;refine dC 8 hHeld ?_;refine wpAnyH_ready (rs:=[5]) (by kernel_rfl) (by simp) ?_;refine AllReadyH.cons rfl (fun K hK=>?_) AllReadyH.nil;go_simp
 go_wp2_with(go_at_call 77;(with_reducible refine(qw H.out.wd hw).mono ?_);rintro e1 w1 ⟨rfl,h1,u,hu⟩;have h2:=H.out.take hu h1;have H2:=hide h2;have h3:aW N w w1:=(by rw[hu];exact h0.setCell (fun hk=>hk.2 rfl) u);clear hu h1 h2)
 refine hK.out _ _ trivial (fun hHeld=>?_);clear hK K
 try simp only[Act.put,aG,aE,aF,aD,aA,aB]
 refine wpAnyH_ready (rs:=[9]) (by kernel_rfl) (by simp) ?_;refine AllReadyH.cons rfl (fun K hK=>?_) AllReadyH.nil;go_simp
 go_wp2_with(go_at_call 77;(with_reducible refine(JV H2.out.wd hs).mono ?_);rintro e4 w4 ⟨rfl,h4⟩)
 exact⟨rfl,rfl,h3.trans (h4.mono fun k hk=>⟨aH hk.1 h3.size,hk.2⟩)⟩
end
section
open Go.RowKit
def Ph.zero:Ph:=⟨⟨none,0,none,0⟩,⟨none,0,none,0,none,0⟩⟩
abbrev ak(c:bJ)(x:Ph)(A:Option Addr)(n:Nat):List Value:=[.int .u8 c.kind,.string c.repo,.string c.frm,.string c.name,.string c.file,.int .u8 c.patch.kind,.string c.patch.file,.string c.patch.text,.int .i64 c.patch.hunk.at_,.slice x.h.oA c.patch.hunk.old.length x.h.oc,.slice x.h.nA c.patch.hunk.new.length x.h.nc,.int .u8 c.patch.edit.kind,.slice x.e.pA c.patch.edit.path.length x.e.pc,.int .i64 c.patch.edit.at_,.int .i64 c.patch.edit.far,.string c.patch.edit.frm,.string c.patch.edit.to,.slice x.e.oA c.patch.edit.old.len x.e.oc,.slice x.e.nA c.patch.edit.new.len x.e.nc,.slice A c.bytes.length n]
structure dw(S:Nat→Prop)(w:World)(c:bJ)(x:Ph)(A:Option Addr)(n:Nat):Prop where
 kind:c.kind<256
 repo:c.repo.size≤9223372036854775807
 frm:c.frm.size≤9223372036854775807
 name:c.name.size≤9223372036854775807
 file:c.file.size≤9223372036854775807
 patch:aV S w x c.patch
 bytes:BytesIn S w A c.bytes
 cap:c.bytes.length≤n∧n≤9223372036854775807
def kV(w:World)(c:bJ)(x:Ph)(A:Option Addr)(n:Nat)(L:List Nat):Prop :=
 ∃L1 L2,fQ w x c.patch L1∧fH 5 w A n c.bytes.length (Lib.byteCells c.bytes) L2∧L=L1++L2
def gK(M:Nat)(w:World)(c:bJ)(x:Ph)(A:Option Addr)(n:Nat):Prop:=dw (fun b=>M≤b) w c x A n∧∃L,kV w c x A n L∧L.Nodup∧∀b∈L,M≤b
section
variable {S S' : Nat → Prop} {w w' : World} {c : bJ} {x : Ph} {A : Option Addr} {n M : Nat} {L : List Nat}
theorem dw.keep(h:dw S w c x A n)(hk :∀b,S b→w'.heap[b]?=w.heap[b]?):dw S w' c x A n:=⟨h.kind,h.repo,h.frm,h.name,h.file,h.patch.keep hk,h.bytes.keep hk,h.cap⟩
theorem dw.mono(h:dw S w c x A n)(hm :∀b,b<w.heap.size→S b→S' b):dw S' w c x A n:=⟨h.kind,h.repo,h.frm,h.name,h.file,h.patch.mono hm,h.bytes.mono hm,h.cap⟩
theorem dw.below(h:dw S w c x A n)(hb:Below w.heap.size w w'):dw S w' c x A n:=⟨h.kind,h.repo,h.frm,h.name,h.file,h.patch.below hb,h.bytes.below hb,h.cap⟩
theorem kV.keep(h:kV w c x A n L)(hk :∀b∈L,w'.heap[b]?=w.heap[b]?):kV w' c x A n L:=by
 obtain⟨L1,L2,h1,h2,rfl⟩:=h;exact⟨L1,L2,h1.keep fun b hb=>hk b (by simp[hb]),h2.keep fun b hb=>hk b (by simp[hb]),rfl⟩
theorem kV.lt(h:kV w c x A n L):∀b∈L,b<w.heap.size:=by
 obtain⟨L1,L2,h1,h2,rfl⟩:=h;intro b hb;rcases List.mem_append.1 hb with hb|hb
 ·exact h1.lt b hb
 ·exact h2.lt b hb
theorem gK.keep(h:gK M w c x A n)(hk :∀b,M≤b→w'.heap[b]?=w.heap[b]?):gK M w' c x A n:=by
 obtain⟨h1,L,h2,h3,h4⟩:=h;exact⟨h1.keep hk,L,h2.keep fun b hb=>hk b (h4 b hb),h3,h4⟩
theorem gK.mono{M':Nat}(h:gK M w c x A n)(hm:M'≤M):gK M' w c x A n:=by
 obtain⟨h1,L,h2,h3,h4⟩:=h;exact⟨h1.mono fun b _ hb=>aI hm hb,L,h2,h3,fun b hb=>aI hm (h4 b hb)⟩
theorem gK.setLow(h:gK M w c x A n){a:Addr}(ha:a.block<M)(u:Value):gK M (w.setCell a u) c x A n :=
 h.keep fun b hb=>Below.heap_setCell w a u b (by omega)
theorem SN:aV S w Ph.zero Pt.zero:=by
 refine⟨by decide,by decide,by decide,⟨⟨by decide,by decide⟩,⟨.nil,(fun _ h=>by cases h),by decide⟩,⟨.nil,(fun _ h=>by cases h),by decide⟩,⟨aC _,by decide⟩,⟨aC _,by decide⟩⟩,
  ⟨by decide,⟨.nil,(fun _ h=>by cases h),by decide⟩,⟨by decide,by decide⟩,⟨by decide,by decide⟩,by decide,by decide,?_,?_,⟨aC _,by decide⟩,⟨aC _,by decide⟩,⟨aC _,by decide⟩⟩⟩
 all_goals trivial
theorem GI:ae.size≤9223372036854775807:=by decide
theorem yc:ae.size≤1099511627776:=by decide
theorem GK{k:Nat}{s f m i:ByteArray}(hk:k<256)(hs:s.size≤1099511627776)(hf:f.size≤1099511627776)(hm:m.size≤1099511627776)(hi:i.size≤1099511627776):
  gK M w ⟨k,s,f,m,i,Pt.zero,[]⟩ Ph.zero none 0 :=
 ⟨⟨hk,aI hs (by decide),aI hf (by decide),aI hm (by decide),aI hi (by decide),SN,⟨.nil,Nat.zero_le _⟩,aC _,Nat.zero_le _⟩,
  [],⟨[],[],fQ.bare,fH.zero,rfl⟩,List.nodup_nil,fun b hb=>by cases hb⟩
end
theorem NK{w:World}{B e size n:Nat}{v:Value}{xs:List Value}(h:w.ownsRow B e size v n xs):w.ownsRow 0 e size v n xs :=
 ⟨h.1,h.2.imp id fun⟨g,cap,cur,e1,_,rest⟩=>⟨g,cap,cur,e1,Nat.zero_le _,rest⟩⟩
theorem SQ{w:World}{B e size n:Nat}{v:Value}{xs:List Value}(h:w.ownsRow B e size v n xs):∀g∈ob v,B≤g:=fun g hg=>(h.lt g (iV.1 hg)).1
def eH(N:Nat)(w:World):Prop:=∃W0,ax W0∧Below W0.heap.size W0 w∧W0.heap.size≤N
theorem eH.tab{N:Nat}{w:World}(h:eH N w):ax w:=by
 obtain⟨W0,h1,h2,_⟩:=h;exact h1.below h2
theorem eH.side{N:Nat}{w w':World}(h:eH N w)(hs:aW N w w'):eH N w':=by
 obtain⟨W0,h1,h2,h3⟩:=h;have hz:=h2.size;exact⟨W0,h1,h2.trans (Keep.below (hs.mono fun k hk=>⟨by omega,by omega⟩)),h3⟩
def jb(D:Nat→Prop)(N:Nat)(w:World)(o:Option (bJ×List ByteArray))(e:Ending)(w':World):Prop :=
 aW N w w'∧(o=none→e=dm)∧∀c r,o=some (c,r)→e = .returned (.tuple #[])∧∃x A n,bu D N w' r (ak c x A n)∧gK w.heap.size w' c x A n
def dO(fn:FuncId)(rf:iR):Prop:=∀{D:Nat→Prop} {N:Nat} {w:World} {l:List ByteArray} {k:Nat} {s:ByteArray},k<256→s.size≤1099511627776→bu D N w l (ak ⟨k,s,ae,ae,ae,Pt.zero,[]⟩ Ph.zero none 0)→eH N w→
 (∀s∈l,s.size≤1099511627776)→Calls Tryz.prog fn #[.pointer (some ⟨N,0,none⟩)] w (jb D N w (rf ⟨k,s,ae,ae,ae,Pt.zero,[]⟩ l))
theorem NL:dO 105 dA:=by
 intro D N w l k s hk hs h ht hl;refine(qB N w).mono ?_;rintro e w' ⟨rfl,rfl⟩;refine⟨Keep.refl _ _,fun e=>(by cases e),fun c r e=>?_⟩;simp only[dA,Option.some.injEq,Prod.mk.injEq]at e;obtain⟨rfl,rfl⟩:=e;exact⟨rfl,_,_,_,h,GK hk hs yc yc yc⟩
theorem Xw:dO 108 restUnpull:=by
 intro D N w l k s hk hs h ht hl;rcases l with _|⟨n,r⟩
 ·refine(Rl h (fun _ _ e=>by cases e)).mono ?_;rintro e w' ⟨rfl,h2⟩;exact⟨h2,fun _=>rfl,fun c r e=>by cases e⟩
 ·have hn:n.size≤1099511627776:=hl n List.mem_cons_self;rcases hw:isWord n with _|_
  ·refine(Rl h (fun s r e=>by cases e;exact hw)).mono ?_;rintro e w' ⟨rfl,h2⟩;exact⟨h2,fun _=>rfl,fun c r e=>by simp[restUnpull,hw]at e⟩
  ·refine(V4 h hw).mono ?_;rintro e w' ⟨rfl,h2,h3⟩;refine⟨h3,fun e=>by simp[restUnpull,hw]at e,fun c r' e=>?_⟩;simp only[restUnpull,hw,if_true,Option.some.injEq,Prod.mk.injEq]at e;obtain⟨rfl,rfl⟩:=e;exact⟨rfl,_,_,_,h2,GK hk hs yc hn yc⟩
theorem Xx:dO 109 dY:=by
 intro D N w l k s hk hs h ht hl;rcases l with _|⟨n,r⟩
 ·refine(Rn h (fun _ _ e=>by cases e)).mono ?_;rintro e w' ⟨rfl,h2⟩;exact⟨h2,fun _=>rfl,fun c r e=>by cases e⟩
 ·have hn:n.size≤1099511627776:=hl n List.mem_cons_self;rcases hw:isWord n with _|_
  ·refine(Rn h (fun s r e=>by cases e;exact hw)).mono ?_;rintro e w' ⟨rfl,h2⟩;exact⟨h2,fun _=>rfl,fun c r e=>by simp[dY,hw]at e⟩
  ·refine(qC h hw).mono ?_;rintro e w' ⟨rfl,h2,h3⟩;refine⟨h3,fun e=>by simp[dY,hw]at e,fun c r' e=>?_⟩;simp only[dY,hw,if_true,Option.some.injEq,Prod.mk.injEq]at e;obtain⟨rfl,rfl⟩:=e;exact⟨rfl,_,_,_,h2,GK hk hs hn yc yc⟩
theorem Xy:dO 110 bY:=by
 intro D N w l k s hk hs h ht hl;rcases l with _|⟨n,r⟩
 ·refine(Ro h (fun _ _ e=>by cases e)).mono ?_;rintro e w' ⟨rfl,h2⟩;exact⟨h2,fun _=>rfl,fun c r e=>by cases e⟩
 ·have hn:n.size≤1099511627776:=hl n List.mem_cons_self;rcases hw:isWord n with _|_
  ·refine(Ro h (fun s r e=>by cases e;exact hw)).mono ?_;rintro e w' ⟨rfl,h2⟩;exact⟨h2,fun _=>rfl,fun c r e=>by simp[bY,hw]at e⟩
  ·refine(V5 h hw).mono ?_;rintro e w' ⟨rfl,h2,h3⟩;refine⟨h3,fun e=>by simp[bY,hw]at e,fun c r' e=>?_⟩;simp only[bY,hw,if_true,Option.some.injEq,Prod.mk.injEq]at e;obtain⟨rfl,rfl⟩:=e;exact⟨rfl,_,_,_,h2,GK hk hs yc yc hn⟩
theorem Xz:dO 107 bZ:=by
 intro D N w l k s hk hs h ht hl;have Bh:(∀s r,l=s::r→isWord s=false)→bZ ⟨k,s,ae,ae,ae,Pt.zero,[]⟩ l=none→Calls Tryz.prog 107 #[.pointer (some ⟨N,0,none⟩)] w (jb D N w (bZ ⟨k,s,ae,ae,ae,Pt.zero,[]⟩ l)):=fun h1 h2=>by
  refine(vO h h1).mono ?_;rintro e w' ⟨rfl,h3⟩;exact⟨h3,fun _=>rfl,fun c r e=>by rw[h2]at e;cases e⟩
 rcases l with _|⟨f,r⟩
 ·exact Bh (fun _ _ e=>by cases e) rfl
 ·rcases hw:isWord f with _|_
  ·exact Bh (fun s r e=>by cases e;exact hw) (by rcases r with _|⟨n,r⟩<;>simp[bZ,hw])
  ·have stop2:(∀s r',r=s::r'→isWord s=false)→bZ ⟨k,s,ae,ae,ae,Pt.zero,[]⟩ (f::r)=none→Calls Tryz.prog 107 #[.pointer (some ⟨N,0,none⟩)] w (jb D N w (bZ ⟨k,s,ae,ae,ae,Pt.zero,[]⟩ (f::r))):=fun h1 h2=>by
    refine(vP h hw h1).mono ?_;rintro e w' ⟨rfl,h3⟩;exact⟨h3,fun _=>rfl,fun c r e=>by rw[h2]at e;cases e⟩
   rcases r with _|⟨n,r⟩
   ·exact stop2 (fun _ _ e=>by cases e) rfl
   ·rcases hw2:isWord n with _|_
    ·exact stop2 (fun s r e=>by cases e;exact hw2) (by simp[bZ,hw,hw2])
    ·refine(vI h hw hw2).mono ?_;rintro e w' ⟨rfl,h2,h3⟩;refine⟨h3,fun e=>by simp[bZ,hw,hw2]at e,fun c r' e=>?_⟩;simp only[bZ,hw,hw2,Bool.and_self,if_true,Option.some.injEq,Prod.mk.injEq]at e;obtain⟨rfl,rfl⟩:=e;exact⟨rfl,_,_,_,h2,GK hk hs (hl f List.mem_cons_self) (hl n (by simp)) yc⟩
theorem XA:dO 111 fF:=by
 intro D N w l k s hk hs h ht hl;rcases l with _|⟨t,r⟩
 ·refine(vJ h).mono ?_;rintro e w' ⟨rfl,h2⟩;exact⟨h2,fun _=>rfl,fun c r e=>by cases e⟩
 ·rcases hu:unhexL t.data.toList with _|b
  ·refine(yX h hu (hl t List.mem_cons_self)).mono ?_;rintro e w' ⟨rfl,h2⟩;exact⟨h2,fun _=>rfl,fun c r e=>by simp[fF,hu]at e⟩
  ·refine(uF h hu (hl t List.mem_cons_self)).mono ?_;rintro e w' ⟨rfl,v,ho,h2,h3⟩;refine⟨h3,fun e=>by simp[fF,hu]at e,fun c r' e=>?_⟩;simp only[fF,hu,Option.map_some,Option.some.injEq,Prod.mk.injEq]at e;obtain⟨rfl,rfl⟩:=e;obtain⟨A,n,rfl⟩:=iw ho;have h0:=NK ho;have hr:=JE h0 rfl;refine⟨rfl,_,_,_,h2,⟨hk,aI hs (by decide),GI,GI,GI,SN,⟨Ez h0 (fun g hg=>SQ ho g hg),aI hr.1 hr.2⟩,hr⟩,ob (.slice A b.length n),⟨[],_,fQ.bare,⟨h0,rfl⟩,rfl⟩,JD _,fun g hg=>SQ ho g hg⟩
end
section
open Go.RowKit
abbrev jy:List Value:=ak bJ.zero Ph.zero none 0
def dH(w:World)(s:ByteArray)(e:Ending)(w':World):Prop :=
 Below w.heap.size w w'∧(lineOf (wordsOf 32 s)=none→e = .returned (.tuple #[.agg jy.toArray,.bool false]))∧
  ∀c,lineOf (wordsOf 32 s)=some c→∃x A n,e = .returned (.tuple #[.agg (ak c x A n).toArray,.bool true])∧gK w.heap.size w' c x A n
theorem vS{P:Program}{W:World}(f:ResultVar→Sem Value)(r0 r1:ResultVar)(v0 v1:Value)(h0:(f r0).run P W = .ok v0 W)(h1:(f r1).run P W = .ok v1 W):((#[r0,r1].mapM f).run P W) = .ok #[v0,v1] W:=by
 simp[go_sem,h0,h1]
theorem SS{T:Array Value}{W:World}{p q:Nat}{cs:List Value}{b:Bool}(h2:T[2]?=some (.pointer (some ⟨p,0,none⟩)))(h3:T[3]?=some (.pointer (some ⟨q,0,none⟩)))
  (hr:W.rangeAt p 0 cs) (hl:cs.length=20) (hb:W.cell? ⟨q,0,none⟩=some (.bool b)):(results Tryz.f34 T).run Tryz.prog W = .ok (.tuple #[.agg cs.toArray,.bool b]) W:=by
 have hld:=run_loadVar_mid (P:=Tryz.prog) W p 0 46 cs _ hr Tryz.underlying46 rfl (by rw[hl];exact mg);have NM:(loadVar 4 ⟨q,0,none⟩).run Tryz.prog W = .ok (.bool b) W:=by simp[go_sem,hb]
 have hg2:T.getD 2 undef = .pointer (some ⟨p,0,none⟩):=by rw[Array.getD_eq_getD_getElem?,h2];rfl
 have hg3:T.getD 3 undef = .pointer (some ⟨q,0,none⟩):=by rw[Array.getD_eq_getD_getElem?,h3];rfl
 unfold results;rw[Sem.run_bind,Tryz.results34,vS _ _ _ (.agg cs.toArray) (.bool b)]
 ·rfl
 ·show((asAddr (T.getD 2 undef)) >>= fun a=>loadVar 46 a).run Tryz.prog W=_;rw[hg2,Sem.run_bind];simp only[asAddr,Sem.run_pure,Result.andThen_ok];exact hld
 ·show((asAddr (T.getD 3 undef)) >>= fun a=>loadVar 4 a).run Tryz.prog W=_;rw[hg3,Sem.run_bind];simp only[asAddr,Sem.run_pure,Result.andThen_ok];exact NM
theorem qU{w W:World}{s:ByteArray}{T:Array Value}{p q:Nat}{cs:List Value}{b:Bool}(h2:T[2]?=some (.pointer (some ⟨p,0,none⟩)))(h3:T[3]?=some (.pointer (some ⟨q,0,none⟩)))
  (hr:W.rangeAt p 0 cs) (hl:cs.length=20) (hb:W.cell? ⟨q,0,none⟩=some (.bool b)) (hP:dH w s (.returned (.tuple #[.agg cs.toArray,.bool b])) W):
  Leaves Tryz.prog Tryz.f34 T (dH w s) [{target:= .fn (.func 75) #[.pointer (some ⟨p,0,none⟩),.pointer (some ⟨q,0,none⟩)],args:=#[]}] .returning W:=by
 refine leaves_cons (f:=75) (args:=#[.pointer (some ⟨p,0,none⟩),.pointer (some ⟨q,0,none⟩)]) (by simp) (by simp[go_sem]) ?_;refine(Gp _ _ _).mono ?_;rintro e u' w'' ⟨rfl,rfl,rfl⟩;exact⟨_,SS h2 h3 hr hl hb,hP⟩
theorem XB{w W:World}{s:ByteArray}{T:Array Value}{p q:Nat}{z:Value}(h2:T[2]?=some (.pointer (some ⟨p,0,none⟩)))(h3:T[3]?=some (.pointer (some ⟨q,0,none⟩)))
  (ht:W.there p 0 20) (hq:W.cell? ⟨q,0,none⟩=some z) (SV:W.frozen? ⟨q,0,none⟩=false) (hpq :¬p=q) (hB:Below w.heap.size w W) (hp:w.heap.size≤p) (EE:w.heap.size≤q) (hn:lineOf (wordsOf 32 s)=none):
  Leaves Tryz.prog Tryz.f34 T (dH w s) [{target:= .fn (.func 75) #[.pointer (some ⟨p,0,none⟩),.pointer (some ⟨q,0,none⟩)],args:=#[]}]
   (.panicking [{v:= .iface 136 (.agg #[]),recovered:=false}]) W:=by
 refine leaves_cons (f:=75) (args:=#[.pointer (some ⟨p,0,none⟩),.pointer (some ⟨q,0,none⟩)]) (by simp) (by simp[go_sem]) ?_;refine(y8 p q z W [] hq SV hpq ht).mono ?_;rintro e u' w'' ⟨rfl,rfl,rfl⟩;have uY :¬q=p:=fun e=>hpq e.symm;have hpl:p<W.heap.size:=by
  obtain⟨v,hv⟩:=Option.isSome_iff_exists.1 (ht 0 (by decide)).1;exact block_lt_of_cell hv
 have NP:=block_lt_of_cell hq;have hbb:=az W (.cells #[] 136);have ht1:(W.alloc (.cells #[] 136)).there p 0 20:=World.there_alloc ht _;have hq1:((W.alloc (.cells #[] 136)).setCells p 0 aY).cell? ⟨q,0,none⟩=some z:=(World.cell?_setCells_out p aY 0 _ ⟨q,0,none⟩ (fun e _=>absurd e uY)).trans ((hbb.cell (p:=⟨q,0,none⟩) NP).trans hq);have hr:(jV W p q).rangeAt p 0 aY:=by
  intro j v hv;have h:=World.rangeAt_setCells_same (W.alloc (.cells #[] 136)) p 0 aY ht1 j v hv;unfold jV;rw[World.cell?_setCell_other]
  ·exact h
  ·intro e;injection e with e1;exact uY e1
 refine⟨_,SS h2 h3 hr rfl (World.cell?_setCell_same _ _ _ hq1),?_,fun _=>rfl,fun c hc=>by rw[hn]at hc;cases hc⟩;unfold jV;refine Below.setCell ?_ (p:=⟨q,0,none⟩) EE _;exact Keep.below (Keep.trans (P:=fun k=>k<w.heap.size) (Keep.of_below (hB.alloc hB.size _) fun k hk=>hk) (xZ p (fun h=>by omega) aY 0 _))
structure bD(w W:World):Prop where
 below:Below w.heap.size w W
 size:w.heap.size+2≤W.heap.size
 cr:W.rangeAt w.heap.size 0 aY
 ct:W.there w.heap.size 0 20
 iq:W.cell? ⟨w.heap.size+1,0,none⟩=some (.bool false)
 fr:W.frozen? ⟨w.heap.size+1,0,none⟩=false
theorem bD.keep{w W W':World}(h:bD w W)(hk:Keep (fun k=>k<w.heap.size+2) W W'):bD w W' where
 below:=h.below.trans (Keep.below (hk.mono fun k hk=>by omega))
 size:=aI h.size hk.size
 cr:=fun j v hv=>(hk.cell (a:=⟨w.heap.size,0+j,none⟩) (by show w.heap.size<_;omega)).trans (h.cr j v hv)
 ct:=fun j hj=>⟨by rw[hk.cell (a:=⟨w.heap.size,0+j,none⟩) (by show w.heap.size<_;omega)];exact(h.ct j hj).1,(hk.frozen (a:=⟨w.heap.size,0+j,none⟩) (by show w.heap.size<_;omega)).trans (h.ct j hj).2⟩
 iq:=(hk.cell (a:=⟨w.heap.size+1,0,none⟩) (by show w.heap.size+1<_;omega)).trans h.iq
 fr:=(hk.frozen (a:=⟨w.heap.size+1,0,none⟩) (by show w.heap.size+1<_;omega)).trans h.fr
theorem bD.fell{w W:World}{s:ByteArray}{T:Array Value}(h:bD w W)(h2:T[2]?=some (.pointer (some ⟨w.heap.size,0,none⟩)))(h3:T[3]?=some (.pointer (some ⟨w.heap.size+1,0,none⟩)))(hn:lineOf (wordsOf 32 s)=none):
  Leaves Tryz.prog Tryz.f34 T (dH w s) [{target:= .fn (.func 75) #[.pointer (some ⟨w.heap.size,0,none⟩),.pointer (some ⟨w.heap.size+1,0,none⟩)],args:=#[]}]
   (.panicking [{v:= .iface 136 (.agg #[]),recovered:=false}]) W :=
 XB h2 h3 h.ct h.iq h.fr (by omega) h.below (aC _) (Nat.le_succ _) hn
theorem bD.stored{w W:World}(h:bD w W)(cs:List Value)(hl:cs.length=20):∃V,V=W.setCells w.heap.size 0 cs.toArray.toList∧V.cell? ⟨w.heap.size+1,0,none⟩=some (.bool false)∧V.frozen? ⟨w.heap.size+1,0,none⟩=false∧
  V.rangeAt w.heap.size 0 cs∧Keep (fun k=>k≠w.heap.size) W V∧Below w.heap.size w V :=
 ⟨_,rfl,(World.cell?_setCells_out w.heap.size cs.toArray.toList 0 W ⟨w.heap.size+1,0,none⟩ (fun e _=>absurd e (by show¬w.heap.size+1=w.heap.size;omega))).trans h.iq,(World.frozen?_setCells _ _ _ _ _).trans h.fr,
  World.rangeAt_setCells_same W w.heap.size 0 cs (by rw[hl];exact h.ct),xZ w.heap.size (fun h=>h rfl) cs 0 W,h.below.trans (Keep.below (xZ w.heap.size (P:=fun k=>k<w.heap.size) (Nat.lt_irrefl _) cs 0 W))⟩
theorem NQ(c:bJ)(x:Ph)(A:Option Addr)(n:Nat):(ak c x A n).toArray.all (·.oneCell')=true:=all_oneCell_toArray (cs:=ak c x A n) (by
 intro v hv;simp only[ak,List.mem_cons,List.not_mem_nil,or_false]at hv;rcases hv with rfl|rfl|rfl|rfl|rfl|rfl|rfl|rfl|rfl|rfl|rfl|rfl|rfl|rfl|rfl|rfl|rfl|rfl|rfl|rfl<;>rfl)
theorem SX{w V:World}{s:ByteArray}{T:Array Value}{cs:List Value}{b:Bool}(h2:T[2]?=some (.pointer (some ⟨w.heap.size,0,none⟩)))(h3:T[3]?=some (.pointer (some ⟨w.heap.size+1,0,none⟩)))
  (hl:cs.length=20) (hc:V.cell? ⟨w.heap.size+1,0,none⟩=some (.bool false)) (hr:V.rangeAt w.heap.size 0 cs) (hP:dH w s (.returned (.tuple #[.agg cs.toArray,.bool b])) (V.setCell ⟨w.heap.size+1,0,none⟩ (.bool b))):
  Leaves Tryz.prog Tryz.f34 T (dH w s) [{target:= .fn (.func 75) #[.pointer (some ⟨w.heap.size,0,none⟩),.pointer (some ⟨w.heap.size+1,0,none⟩)],args:=#[]}] .returning (V.setCell ⟨w.heap.size+1,0,none⟩ (.bool b)):=by
 refine qU h2 h3 (fun j v hv=>?_) hl (World.cell?_setCell_same _ _ _ hc) hP;rw[World.cell?_setCell_other]
 ·exact hr j v hv
 ·intro e;injection e with e1;omega
def jA(w:World)(ws:List ByteArray):World :=
 (((w.alloc (.cells aY.toArray 46)).alloc (.cells #[.bool false] 4)).alloc (.cells (ws.map .string).toArray 9)).alloc
  (.cells ((.slice (some ⟨w.heap.size+1+1,0,none⟩) ws.length ws.length)::aY).toArray 142)
theorem vT(w:World)(ws:List ByteArray)(hl:ws.length≤9223372036854775807):
  bD w (jA w ws)∧bu (fun b=>b=w.heap.size+1+1) (w.heap.size+1+1+1) (jA w ws) ws jy∧(jA w ws).heap.size=w.heap.size+1+1+1+1:=by
 obtain⟨o0,e0⟩:∃o0,o0=Obj.cells aY.toArray 46:=⟨_,rfl⟩;obtain⟨o1,e1⟩:∃o1,o1=Obj.cells #[.bool false] 4:=⟨_,rfl⟩;obtain⟨o2,e2⟩:∃o2,o2=Obj.cells (ws.map .string).toArray 9:=⟨_,rfl⟩;obtain⟨o3,e3⟩:∃o3,o3=Obj.cells ((.slice (some ⟨w.heap.size+1+1,0,none⟩) ws.length ws.length)::aY).toArray 142:=⟨_,rfl⟩;have hW:jA w ws=(((w.alloc o0).alloc o1).alloc o2).alloc o3:=by rw[e0,e1,e2,e3];rfl
 rw[hW];have z1:(w.alloc o0).heap.size=w.heap.size+1:=by simp
 have z2:((w.alloc o0).alloc o1).heap.size=w.heap.size+1+1:=by simp
 have z3:(((w.alloc o0).alloc o1).alloc o2).heap.size=w.heap.size+1+1+1:=by simp
 have z4:((((w.alloc o0).alloc o1).alloc o2).alloc o3).heap.size=w.heap.size+1+1+1+1:=by simp
 have b1:=az (w.alloc o0) o1;have b2:=az ((w.alloc o0).alloc o1) o2;have b3:=az (((w.alloc o0).alloc o1).alloc o2) o3;have h0:((((w.alloc o0).alloc o1).alloc o2).alloc o3).heap[w.heap.size]?=some o0:=((b3.block _ (by omega)).trans (b2.block _ (by omega))).trans ((b1.block _ (by omega)).trans (heap_alloc_new w o0));have h1:((((w.alloc o0).alloc o1).alloc o2).alloc o3).heap[w.heap.size+1]?=some o1:=((b3.block _ (by omega)).trans (b2.block _ (by omega))).trans (by have:=heap_alloc_new (w.alloc o0) o1;rwa [z1]at this);have h2:((((w.alloc o0).alloc o1).alloc o2).alloc o3).heap[w.heap.size+1+1]?=some o2:=(b3.block _ (by omega)).trans (by have:=heap_alloc_new ((w.alloc o0).alloc o1) o2;rwa [z2]at this);have h3:((((w.alloc o0).alloc o1).alloc o2).alloc o3).heap[w.heap.size+1+1+1]?=some o3:=by have:=heap_alloc_new (((w.alloc o0).alloc o1).alloc o2) o3;rwa [z3]at this
 have hB:Below w.heap.size w ((((w.alloc o0).alloc o1).alloc o2).alloc o3):=(((az w o0).trans (b1.mono (by omega))).trans (b2.mono (by omega))).trans (b3.mono (by omega));generalize ((((w.alloc o0).alloc o1).alloc o2).alloc o3)=W at h0 h1 h2 h3 hB z4⊢;subst e0 e1 e2 e3;have c0 :∀j v,aY[j]?=some v→W.cell? ⟨w.heap.size,0+j,none⟩=some v:=fun j v hv=>by rw[Lib.cell_of_heap h0];simpa using hv
 refine⟨⟨hB,by omega,c0,fun j hj=>?_,by rw[Lib.cell_of_heap h1];rfl,by unfold World.frozen?;rw[h1];rfl⟩,⟨⟨⟨_,_,by rw[Lib.cell_of_heap h3];rfl,.inr ⟨_,0,rfl,rfl,fun j u hu=>by rw[Nat.zero_add,Lib.cell_of_heap h2];simpa using hu⟩,aC _,hl⟩,by unfold World.frozen?;rw[h3];rfl,fun b hb=>by omega⟩,rfl,fun j u hu=>?_,fun o=>by unfold World.frozen?;rw[h3];rfl⟩,z4⟩
 ·have hv:aY[j]?=some (aY[j]' hj):=List.getElem?_eq_getElem hj;exact⟨by rw[c0 j _ hv];rfl,by unfold World.frozen?;rw[h0];rfl⟩
 ·rw[Lib.cell_of_heap h3,Nat.add_comm 1 j];have hu:aY[j]?=some u:=hu
  simpa using hu
def eP(w:World):Prop:=0<w.heap.size∧∃m:Int,w.cell? ⟨0,0,none⟩=some (.int .i64 m)
theorem eP.below{w w':World}(h:eP w)(hb:Below w.heap.size w w'):eP w':=by
 obtain⟨h1,m,h2⟩:=h;exact⟨aH h1 hb.size,m,(hb.cell (p:=⟨_,0,none⟩) h1).trans h2⟩
theorem NR(c:UInt8){s:ByteArray}{w:World}(hs:s.size<4294967281)(hm:eP w):
  Calls Tryz.prog 26 #[.string s,.string ⟨#[c]⟩] w fun e w'=>e = .returned (.slice (some ⟨w.heap.size,0,none⟩) (wordsOf c s).length (wordsOf c s).length)∧w'=w.alloc (.cells ((wordsOf c s).map .string).toArray 9):=by
 obtain⟨_,m,hm⟩:=hm;have h1:=Tryz.strings_Split s ⟨#[c]⟩ m w hs hm (aC 1);rw[←Jw]at h1;exact h1
theorem SY{c:UInt8}{s:ByteArray}(hs:s.size≤1099511627):(wordsOf c s).length≤1099511628:=by
 rw[Jw];have:=Lib.countB_le ⟨#[c]⟩ (aC 1) s.size s (aC _);omega
theorem bu.kept{D:Nat→Prop}{N:Nat}{w w':World}{l:List ByteArray}{vs:List Value}(h:bu D N w l vs)(hk :∀b,b=N∨D b→w'.heap[b]?=w.heap[b]?):bu D N w' l vs:=by
 obtain⟨⟨⟨A,c,h1,h2,h3⟩,h4,h5⟩,h6,h7,h8⟩:=h;have hc :∀o,w'.cell? ⟨N,o,none⟩=w.cell? ⟨N,o,none⟩:=fun o=>World.cell?_of_block (hk N (.inl rfl));have hf :∀o,w'.frozen? ⟨N,o,none⟩=w.frozen? ⟨N,o,none⟩:=fun o=>World.frozen?_of_block (hk N (.inl rfl));exact⟨⟨⟨A,c,(hc 0).trans h1,h2.keep (fun b hb=>hk b (.inr hb)),h3⟩,(hf 0).trans h4,h5⟩,h6,fun j u hj=>(hc (1+j)).trans (h7 j u hj),fun o=>(hf o).trans (h8 o)⟩
theorem zi :∀p∈dS,(p.1=2→dO 106 restRecord)→dO (dF p.1) (restOf p.1):=by
 intro p hp hrec;simp only[dS,List.mem_cons,List.not_mem_nil,or_false]at hp;rcases hp with rfl|rfl|rfl|rfl|rfl|rfl|rfl|rfl|rfl
 ·exact NL
 ·exact hrec rfl
 ·exact Xz
 ·exact Xw
 ·exact Xx
 ·exact Xy
 ·exact NL
 ·exact NL
 ·exact XA
theorem XC :∀p∈dS,Enters Tryz.prog (dF p.1):=by
 intro p hp;simp only[dS,List.mem_cons,List.not_mem_nil,or_false]at hp;rcases hp with rfl|rfl|rfl|rfl|rfl|rfl|rfl|rfl|rfl
 ·exact enters_of Tryz.func105 (by kernel_rfl) rfl
 ·exact enters_of Tryz.func106 (by kernel_rfl) rfl
 ·exact enters_of Tryz.func107 (by kernel_rfl) rfl
 ·exact enters_of Tryz.func108 (by kernel_rfl) rfl
 ·exact enters_of Tryz.func109 (by kernel_rfl) rfl
 ·exact enters_of Tryz.func110 (by kernel_rfl) rfl
 ·exact enters_of Tryz.func105 (by kernel_rfl) rfl
 ·exact enters_of Tryz.func105 (by kernel_rfl) rfl
 ·exact enters_of Tryz.func111 (by kernel_rfl) rfl
theorem GL{k:Nat}{s:ByteArray}(h:(k,s)∈dS):k<256:=by
 simp only[dS,List.mem_cons,List.not_mem_nil,or_false,Prod.mk.injEq]at h;omega
theorem EI{w:World}{a b:Addr}{u v:Value}(h:w.cell? b=some v)(hne:a≠b):(w.setCell a u).cell? b=some v:=(World.cell?_setCell_other _ _ _ _ hne).trans h
theorem parse_any{w:World}{s:ByteArray}(hs:s.size≤1099511627)(hmx:eP w)(htab:ax w)(hrec :∀r,wordsOf 32 s=dM::r→dO 106 restRecord):
  Calls Tryz.prog 34 #[.string s] w (dH w s):=by
 have hmf :∀(fn:Fn) (first cap:Array Value) (w:World),(Instr.makeFunc fn first cap).run Tryz.prog w = .ok (.func fn first cap) w:=fun _ _ _ _=>rfl
 go_enter_defers Tryz.func34,Tryz.ntmps34
 go_wp2_with(first
  | (go_at_call 26;(with_reducible refine(NR 32 (by omega) ((hmx.below (az _ _)).below (az _ _))).mono ?_);rintro e1 w1 ⟨rfl,rfl⟩))
 obtain⟨hA,hL,hz⟩:=vT w (wordsOf 32 s) (aI (SY hs) (by decide));show Calls Tryz.prog 76 _ (jA w (wordsOf 32 s)) _;have hall :∀x∈wordsOf 32 s,x.size≤1099511627776:=fun x hx=>aI (LK hx).1 (by omega);generalize jA w (wordsOf 32 s)=W0 at hA hL hz⊢;rcases hws:wordsOf 32 s with _|⟨first,r⟩
 ·exact absurd hws (Vq 32 s)
 rw[hws]at hL hall;have Hws:=hide hws;have HA:=hide hA;have HL:=hide hL;have Hz:=hide hz;have jO:=hide hall;clear hws hA hL hz hall
 go_wp2_with(first
  | (go_at_call 76;(with_reducible refine(AY HL.out.wd).mono ?_);rintro e1 w1 ⟨rfl,h1,u,hu⟩;have S9:=hide (HL.out.take hu h1);have HA1:Hid (bD w w1):=hide (HA.out.keep (by rw[hu];exact(Keep.refl _ W0).setCell (by show¬w.heap.size+1+1+1<_;omega) u));have GM:Hid (w1.heap.size=w.heap.size+1+1+1+1):=hide (by rw[hu];simpa using Hz.out);clear h1 hu)
  | (go_at_call 40;(with_reducible refine(Nz _).mono ?_);rintro e2 w2 ⟨rfl,hT,hB⟩;have HT:=hide hT;have HB2:=hide hB;clear hT hB)
  | (at_range;refine wpList_range_own _ rfl _ 100 rfl 32 98 jw Tryz.underlying100 gX _ 9 iK rfl HT.out ?_;intro w3 hrg hg3 hs3;have HR:=hide hrg;have GN:=hide hg3;have jh:=hide hs3;clear hrg hg3 hs3))
 go_frame
 have Bi:Hid (bD w w3):=hide ((HA1.out.keep (Keep.of_below HB2.out fun k hk=>by have:=GM.out;omega)).keep (Keep.grown (Keep.refl _ _) GN.out (fun k hk=>by have:=GM.out;have:=HB2.out.size;omega) (fun k hk=>by cases hk)));have mi:Hid (bu (fun b=>b=w.heap.size+1+1) (w.heap.size+1+1+1) w3 r jy):=hide ((S9.out.below HB2.out).kept fun b hb=>GN.out.block b (by have:=GM.out;have:=HB2.out.size;omega) (by simp));have HF:Hid (∀p∈dS,Maps.has iK (.int .u8 p.1)=false→p.2≠first):=hide (fun p hp h=>by rw[qN hp]at h;cases h);have HZ3:Hid (w1.heap.size=w.heap.size+1+1+1+1):=GM;have jH:w1.heap.size<w2.heap.size:=HT.out.lt;have yf:w2.heap.size<w3.heap.size:=by have:=jh.out;omega
 clear HA1 S9 HB2 GN HT jh GM HL HA;generalize w1.heap.size=b1 at HZ3 jH HR⊢;generalize w2.heap.size=r0 at jH yf HR⊢
 go_loopg [] (Maps.size iK) (fun g wr=>∃left:Lit→Bool,Hid (wr.ranges Tryz.prog 32 gX b1 r0 9 iK left g)∧Hid (bu (fun b=>b=w.heap.size+1+1) (w.heap.size+1+1+1) wr r jy)∧Hid (bD w wr)∧r0<wr.heap.size∧Hid (∀p∈dS,left (.int .u8 p.1)=false→p.2≠first))
 case atStart=>exact⟨_,HR,mi,Bi,yf,HF⟩
 case round =>
  clear HR mi Bi HF yf;obtain⟨left,HR,mi,Bi,yf,HF⟩:=hrel
  go_wp2_with(at_next;refine wpList_next_ranges _ rfl _ rfl 32 jw gX (Value.int .u8) (fun p:{p:Nat×ByteArray // p∈dS}=> .agg #[.string p.1.2,.func (.func (dF p.1.1)) #[] #[]]) (fun key kl h=>(Maps.keyOf_int_inv Tryz.underlying32 h).imp fun _ h=>h.1) (fun v y hv=>Nv hv) b1 r0 9 iK left _ rfl HR.out ?_ ?_)
  ·intro hc0 hl0;have hno:lineOf (wordsOf 32 s)=none:=by
    rw[Hws.out];have hk:kindOf first=none:=by
     rcases hk:kindOf first with _|k
     ·rfl
     ·exact absurd rfl (HF.out _ (QA hk) (hl0 _))
    rcases r with _|⟨repo,r⟩
    ·rfl
    ·simp[lineOf,hk]
   have Hno:=hide hno;clear hno hl0
   go_wp2_with(first
    | (refine wpList_load_mid rfl _ _ rfl w.heap.size 0 rfl aY _ Bi.out.cr Tryz.underlying46 rfl mg ?_)
    | (refine wpList_store_mid rfl _ _ _ rfl w.heap.size 0 aY.toArray rfl rfl Bi.out.ct mg Nj ?_;obtain⟨V,hV,hV1,hV2,nz,JW,GR⟩:=Bi.out.stored aY rfl;rw[←hV];have sN:=hide nz;have HV5:=hide GR;clear hV nz JW GR))
   refine SX rfl rfl rfl hV1 sN.out ⟨HV5.out.setCell (p:=⟨w.heap.size+1,0,none⟩) (Nat.le_succ _) _,fun _=>rfl,fun c hc=>by rw[Hno.out]at hc;cases hc⟩
  ·intro x a b hmem kl y ps w4 cnt4 hkey hlk hv hat hrg4 hlt hg4 hs4 hen;obtain⟨x',hx',rfl,_⟩:=Maps.keyOf_int_inv Tryz.underlying32 hkey;injection hx' with _ hx';subst hx';have hy:=hv.symm.trans (sH (p:=(a,b)) hmem);injection hy with hy;injection hy with hy _;subst hy;have hxa:x=(a:Int):=Sj (p:=(a,b)) hmem hat;subst hxa;have hz3:=HZ3.out;have x8:Hid (bu (fun b=>b=w.heap.size+1+1) (w.heap.size+1+1+1) w4 r jy):=hide (mi.out.kept fun b hb=>hg4.block b (by omega) (by intro e;injection e with e;omega));have ji:Hid (bD w w4):=hide (Bi.out.keep (Keep.grown (Keep.refl _ _) hg4 (fun k hk=>by omega) (fun k hk=>by injection hk with hk;omega)));have HR4:=hide hrg4;have qV:=hide hmem;have lC:=hide hs4;clear hkey hlk hv hat hrg4 hmem HR mi Bi hz3 hg4 hs4;by_cases hbf:b=first
   ·subst hbf;have sK:Hid (bu (fun b=>b=w.heap.size+1+1) (w.heap.size+1+1+1) (w4.alloc (.cells #[.string b,.func (.func (dF a)) #[] #[]] 98)) r jy):=hide (x8.out.below (az _ _));have EJ:Hid (bD w (w4.alloc (.cells #[.string b,.func (.func (dF a)) #[] #[]] 98))):=hide (ji.out.keep (Keep.of_below (az _ _) fun k hk=>by have:=ji.out.size;omega));have NS:Hid ((w4.alloc (.cells #[.string b,.func (.func (dF a)) #[] #[]] 98)).cell? ⟨w4.heap.size,1,none⟩=some (.func (.func (dF a)) #[] #[])):=hide (by rw[Lib.cell_of_heap (heap_alloc_new _ _)];rfl);have JX:Hid ((w4.alloc (.cells #[.string b,.func (.func (dF a)) #[] #[]] 98)).heap.size=w4.heap.size+1):=hide (by simp)
    go_upto_region 8 with fail
    generalize w4.alloc (.cells #[.string b,.func (.func (dF a)) #[] #[]] 98)=W5 at sK EJ NS JX⊢;have Dp:w.heap.size+1+1+1<w4.heap.size:=x8.out.lt;have hka:a<256:=GL qV.out;have hkind:kindOf b=some a:=mW qV.out;have HK:=hide hkind;obtain⟨x1,hc1⟩:=sK.out.cellAt 1 (by decide);have hf1:=sK.out.free 1;have oZ:=hide (sK.out.put (j:=0) (by decide) (.int .u8 a));have nC:Hid (bD w (W5.setCell ⟨w.heap.size+1+1+1,1,none⟩ (.int .u8 a))):=hide (EJ.out.keep ((Keep.refl _ _).setCell (by show¬w.heap.size+1+1+1<_;omega) _));have NT:Hid ((W5.setCell ⟨w.heap.size+1+1+1,1,none⟩ (.int .u8 a)).cell? ⟨w4.heap.size,1,none⟩=some (.func (.func (dF a)) #[] #[])):=hide (EI NS.out (by intro e;injection e with e;omega));have hent :∀args W,(callFunc (dF a) args).run Tryz.prog W = .ok (.enter (dF a) args) W:=XC (a,b) qV.out;clear hkind HR4 x8 ji HF EJ NS;by_cases hw :∃repo r2,r=repo::r2∧isWord repo=true
    ·obtain⟨repo,r2,rfl,hw⟩:=hw;have hrs:repo.size≤1099511627776:=jO.out repo (by simp);have Bj:a=2→dO 106 restRecord:=fun e=>hrec (repo::r2) (by rw[Hws.out,Ny (k:=2) (s:=b) (t:=dM) (e▸qV.out) (by simp[dS])]);have NU:Hid (∀{W:World},bu (fun b=>b=w.heap.size+1+1) (w.heap.size+1+1+1) W r2 (ak ⟨a,repo,ae,ae,ae,Pt.zero,[]⟩ Ph.zero none 0)→eH (w.heap.size+1+1+1) W→Calls Tryz.prog (dF a) #[.pointer (some ⟨w.heap.size+1+1+1,0,none⟩)] W (jb (fun b=>b=w.heap.size+1+1) (w.heap.size+1+1+1) W (restOf a ⟨a,repo,ae,ae,ae,Pt.zero,[]⟩ r2))):=
      hide fun h1 h2=>(zi (a,b) qV.out Bj) hka hrs h1 h2 (fun x hx=>jO.out x (by simp[hx]))
     clear Bj;rcases hro:restOf a ⟨a,repo,ae,ae,ae,Pt.zero,[]⟩ r2 with _|⟨c,r3⟩
     ·have hno:lineOf (wordsOf 32 s)=none:=by
       rw[Hws.out];rw[Au,HK.out];simp only[Option.bind_some,hw,if_true,hro]
      have Hno:=hide hno;clear hno
      go_wp2_with(first
       | (go_at_call 77;(with_reducible refine(qw oZ.out.wd hw).mono ?_);rintro e7 w7 ⟨rfl,h1,u,hu⟩;have h2:=oZ.out.take hu h1;obtain⟨x2,hc2⟩:=h2.cellAt 2 (by decide);have hf2:=h2.free 2;have hS7:aW (w.heap.size+1+1+1) (W5.setCell ⟨w.heap.size+1+1+1,1,none⟩ (.int .u8 a)) w7:=(by rw[hu];exact(Keep.refl _ _).setCell (fun hk=>hk.2 rfl) u);have hcw:w7.cell? ⟨w4.heap.size,1,none⟩=some (.func (.func (dF a)) #[] #[]):=(hS7.cell (a:=⟨w4.heap.size,1,none⟩) ⟨by have:=JX.out;simp;omega,by show¬w4.heap.size=_;omega⟩).trans NT.out;have hcw2:=EI (a:=⟨w.heap.size+1+1+1,2,none⟩) (u:= .string repo) hcw (by intro e;injection e with e;omega);have H8:=hide (h2.put (j:=1) (by decide) (.string repo));have vU:Hid (bD w (w7.setCell ⟨w.heap.size+1+1+1,2,none⟩ (.string repo))):=hide ((nC.out.keep (hS7.mono fun k hk=>by have:=nC.out.size;exact⟨by omega,by omega⟩)).keep ((Keep.refl _ _).setCell (by show¬w.heap.size+1+1+1<_;omega) _));have GU:Hid (eH (w.heap.size+1+1+1) (w7.setCell ⟨w.heap.size+1+1+1,2,none⟩ (.string repo))):=hide ⟨w,htab,vU.out.below,by omega⟩;clear h1 h2 hu hS7)
       | (go_at_fn (dF a);(with_reducible refine(NU.out H8.out GU.out).mono ?_);rintro e9 w9 ⟨ig,EK,Dq⟩;have GV:=EK hro;subst GV;have EL:Hid (bD w w9):=hide (vU.out.keep (ig.mono fun k hk=>by have:=vU.out.size;have:=H8.out.lt;exact⟨by omega,by omega⟩));clear ig EK Dq))
      exact EL.out.fell rfl rfl Hno.out
     ·have JY:=hide hro;clear hro;rcases r3 with _|⟨y3,r3⟩
      ·have hyes:lineOf (wordsOf 32 s)=some c:=by
        rw[Hws.out];rw[Au,HK.out];simp only[Option.bind_some,hw,if_true,JY.out]
       have GX:=hide hyes;clear hyes
       go_wp2_with(first
        | (go_at_call 77;(with_reducible refine(qw oZ.out.wd hw).mono ?_);rintro e7 w7 ⟨rfl,h1,u,hu⟩;have h2:=oZ.out.take hu h1;obtain⟨x2,hc2⟩:=h2.cellAt 2 (by decide);have hf2:=h2.free 2;have hS7:aW (w.heap.size+1+1+1) (W5.setCell ⟨w.heap.size+1+1+1,1,none⟩ (.int .u8 a)) w7:=(by rw[hu];exact(Keep.refl _ _).setCell (fun hk=>hk.2 rfl) u);have hcw:w7.cell? ⟨w4.heap.size,1,none⟩=some (.func (.func (dF a)) #[] #[]):=(hS7.cell (a:=⟨w4.heap.size,1,none⟩) ⟨by have:=JX.out;simp;omega,by show¬w4.heap.size=_;omega⟩).trans NT.out;have hcw2:=EI (a:=⟨w.heap.size+1+1+1,2,none⟩) (u:= .string repo) hcw (by intro e;injection e with e;omega);have H8:=hide (h2.put (j:=1) (by decide) (.string repo));have vU:Hid (bD w (w7.setCell ⟨w.heap.size+1+1+1,2,none⟩ (.string repo))):=hide ((nC.out.keep (hS7.mono fun k hk=>by have:=nC.out.size;exact⟨by omega,by omega⟩)).keep ((Keep.refl _ _).setCell (by show¬w.heap.size+1+1+1<_;omega) _));have GU:Hid (eH (w.heap.size+1+1+1) (w7.setCell ⟨w.heap.size+1+1+1,2,none⟩ (.string repo))):=hide ⟨w,htab,vU.out.below,by omega⟩;clear h1 h2 hu hS7)
        | (go_at_fn (dF a);(with_reducible refine(NU.out H8.out GU.out).mono ?_);rintro e9 w9 ⟨ig,EK,Dq⟩;obtain⟨GV,x9,A9,n9,EM,JZ⟩:=Dq c [] JY.out;subst GV;obtain⟨Aw,cw,vV,_⟩:=EM.wd.at_;have vV:w9.cell? ⟨w.heap.size+1+1+1,0,none⟩=some (.slice Aw 0 cw):=vV;have GH:=hide EM;have XD:=hide JZ;have sO:=H8.out.lt;have EL:Hid (bD w w9):=hide (vU.out.keep (ig.mono fun k hk=>by have:=vU.out.size;have:=H8.out.lt;exact⟨by omega,by omega⟩));clear ig EK Dq EM JZ)
        | (go_at_call 78;(with_reducible refine(AV rfl _).mono ?_);rintro e10 w10 ⟨rfl,rfl⟩)
        | (refine wpList_load_mid rfl _ _ rfl (w.heap.size+1+1+1) 1 rfl (ak c x9 A9 n9) _ GH.out.cells Tryz.underlying46 rfl mg ?_)
        | (refine wpList_store_mid rfl _ _ _ rfl w.heap.size 0 (ak c x9 A9 n9).toArray rfl rfl EL.out.ct mg (NQ c x9 A9 n9) ?_;obtain⟨V,hV,hV1,hV2,nz,JW,GR⟩:=EL.out.stored (ak c x9 A9 n9) rfl;rw[←hV];have sN:=hide nz;have XE:=hide JW;have HV5:=hide GR;clear hV nz JW GR))
       refine SX rfl rfl rfl hV1 sN.out ⟨HV5.out.setCell (p:=⟨w.heap.size+1,0,none⟩) (Nat.le_succ _) _,fun h=>by(rw[GX.out]at h;cases h),fun c' hc=>?_⟩;rw[GX.out]at hc;injection hc with hc;subst hc;have h9:w.heap.size+1+1+1<(w7.setCell ⟨w.heap.size+1+1+1,2,none⟩ (.string repo)).heap.size:=H8.out.lt;exact⟨x9,A9,n9,rfl,((XD.out.keep fun g hg=>XE.out.block g (by show¬g=w.heap.size;omega)).setLow (a:=⟨w.heap.size+1,0,none⟩) (by show w.heap.size+1<_;omega) _).mono (by omega)⟩
      ·have hno:lineOf (wordsOf 32 s)=none:=by
        rw[Hws.out];rw[Au,HK.out];simp only[Option.bind_some,hw,if_true,JY.out]
       have Hno:=hide hno;have hb0:(((r3.length:Int)+1) == 0)=false:=by rw[aK];omega
       clear hno
       go_wp2_with(first
        | (go_at_call 77;(with_reducible refine(qw oZ.out.wd hw).mono ?_);rintro e7 w7 ⟨rfl,h1,u,hu⟩;have h2:=oZ.out.take hu h1;obtain⟨x2,hc2⟩:=h2.cellAt 2 (by decide);have hf2:=h2.free 2;have hS7:aW (w.heap.size+1+1+1) (W5.setCell ⟨w.heap.size+1+1+1,1,none⟩ (.int .u8 a)) w7:=(by rw[hu];exact(Keep.refl _ _).setCell (fun hk=>hk.2 rfl) u);have hcw:w7.cell? ⟨w4.heap.size,1,none⟩=some (.func (.func (dF a)) #[] #[]):=(hS7.cell (a:=⟨w4.heap.size,1,none⟩) ⟨by have:=JX.out;simp;omega,by show¬w4.heap.size=_;omega⟩).trans NT.out;have hcw2:=EI (a:=⟨w.heap.size+1+1+1,2,none⟩) (u:= .string repo) hcw (by intro e;injection e with e;omega);have H8:=hide (h2.put (j:=1) (by decide) (.string repo));have vU:Hid (bD w (w7.setCell ⟨w.heap.size+1+1+1,2,none⟩ (.string repo))):=hide ((nC.out.keep (hS7.mono fun k hk=>by have:=nC.out.size;exact⟨by omega,by omega⟩)).keep ((Keep.refl _ _).setCell (by show¬w.heap.size+1+1+1<_;omega) _));have GU:Hid (eH (w.heap.size+1+1+1) (w7.setCell ⟨w.heap.size+1+1+1,2,none⟩ (.string repo))):=hide ⟨w,htab,vU.out.below,by omega⟩;clear h1 h2 hu hS7)
        | (go_at_fn (dF a);(with_reducible refine(NU.out H8.out GU.out).mono ?_);rintro e9 w9 ⟨ig,EK,Dq⟩;obtain⟨GV,x9,A9,n9,EM,JZ⟩:=Dq c (y3::r3) JY.out;subst GV;obtain⟨Aw,cw,vV,_⟩:=EM.wd.at_;have vV:w9.cell? ⟨w.heap.size+1+1+1,0,none⟩=some (.slice Aw (r3.length+1) cw):=vV;have EL:Hid (bD w w9):=hide (vU.out.keep (ig.mono fun k hk=>by have:=vU.out.size;have:=H8.out.lt;exact⟨by omega,by omega⟩));clear ig EK Dq EM JZ)
        | (go_at_call 78;(with_reducible refine(AX (by first|rfl|exact hb0|simp_all) _).mono ?_);rintro e10 w10 ⟨rfl,rfl⟩))
       exact EL.out.fell rfl rfl Hno.out
    ·have hstop :∀s r',r=s::r'→isWord s=false:=fun s r' e=>by
      rcases hx:isWord s with _|_
      ·rfl
      ·exact absurd ⟨s,r',e,hx⟩ hw
     have hno:lineOf (wordsOf 32 s)=none:=by
      rw[Hws.out];rcases r with _|⟨repo,r⟩
      ·rfl
      ·simp[lineOf,HK.out,hstop repo r rfl]
     have Hno:=hide hno;have GY:=hide hstop;clear hw hno hstop
     go_wp2_with(go_at_call 77;(with_reducible refine(JV oZ.out.wd GY.out).mono ?_);rintro e7 w7 ⟨rfl,hS7⟩;have XF:Hid (bD w w7):=hide (nC.out.keep (hS7.mono fun k hk=>by have:=nC.out.size;have:=oZ.out.lt;exact⟨by omega,by omega⟩));clear hS7)
     exact XF.out.fell rfl rfl Hno.out
   ·have e2:(b.toList == first.toList)=false:=by
     rw[aK];exact fun e=>hbf (dW.1 e)
    have HF2:Hid (∀p∈dS,(left (.int .u8 p.1) && !(Lit.int .u8 p.1).sameKey (.int .u8 (a:Int)))=false→p.2≠first):=hide fun p hp h=>by
     rw[Bool.and_eq_false_iff]at h;rcases h with h|h
     ·exact HF.out p hp h
     ·have hpa:p.1=a:=by
       simp only[Bool.not_eq_false',Lit.sameKey]at h;simp at h;omega
      intro e;exact hbf ((Ny qV.out (by rw[←hpa];exact hp)).trans e)
    clear hbf
    go_wp2_with fail
    go_roundg cnt4
    case measure=>exact hlt
    case rel=>exact⟨_,hide (HR4.out.alloc _),hide (x8.out.below (az _ _)),hide (ji.out.keep (Keep.of_below (az _ _) fun k hk=>by have:=ji.out.size;omega)),by have:=lC.out;simp;omega,HF2⟩
end
end Go.Proofs.YtjjaojnglnpgaaaGreatDoor
