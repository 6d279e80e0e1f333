/- Part 13 of what scriptBack_cardUpto rests on. -/
import Derived.Deep.RegionWith
import Derived.Test.YtjjaojnglnpgaaaGreatDoorProg
import Derived.ChangeMaps5
import Derived.Maps.RangeWalk
import Derived.Maps.OwnSet
import Derived.Laws.IdiomCopy
import Derived.Test.YtjjaojnglnpgaaaGreatDoorY05
import Derived.Test.YtjjaojnglnpgaaaGreatDoorY02
import Derived.Test.YtjjaojnglnpgaaaGreatDoorY01
import Derived.Test.YtjjaojnglnpgaaaGreatDoorY11
import Derived.Test.YtjjaojnglnpgaaaGreatDoorY04
import Derived.Test.YtjjaojnglnpgaaaGreatDoorY07
import Derived.Test.YtjjaojnglnpgaaaGreatDoorY00
set_option linter.unusedVariables false
set_option linter.unusedSimpArgs false
set_option maxHeartbeats 16000000
set_option maxRecDepth 1000000
namespace Go.Proofs.YtjjaojnglnpgaaaGreatDoor
section
open Go.RowKit
theorem vI{D:Nat→Prop}{N:Nat}{w:World}{s t:ByteArray}{r:List ByteArray}{vs:List Value}(h:bu D N w (s::t::r) vs)(hs:isWord s=true)(ht:isWord t=true):
  Calls Tryz.prog 107 #[.pointer (some ⟨N,0,none⟩)] w fun e w'=>e = .returned (.tuple #[])∧bu D N w' r ((vs.set 2 (.string s)).set 3 (.string t))∧aW N w w':=by
 have H:Hid (bu D N w.drew (s::t::r) vs):=hide (h.below ((Below.refl _ w).drew));have hN:=h.lt;clear h;go_enter Tryz.func107,Tryz.ntmps107
 go_wp2_with fail
 go_region_with (first
  | (go_at_call 77;(with_reducible refine(qw H.out.wd hs).mono ?_);rintro e1 w1 ⟨rfl,h1,u,hu⟩;have h2:=H.out.take hu h1;have H2:=hide h2;have HU:=hide hu;clear h1 h2 hu)
  | (go_at_call 77;(with_reducible refine(qw H2.out.wd ht).mono ?_);rintro e2 w2 ⟨rfl,h3,u2,hu2⟩;have h4:=H2.out.take hu2 h3;obtain⟨x,hc⟩:=h4.cellAt 3 (by decide);obtain⟨x2,hc2⟩:=h4.cellAt 4 (by decide);have hf:=h4.free 3;have hf2:=h4.free 4;have H4:=hide h4;have WZ:=hide hu2;clear h3 h4 hu2))
 all_goals go_end0
 refine⟨rfl,(H4.out.put (j:=2) (by decide) (.string s)).put (j:=3) (by decide) (.string t),?_⟩;have h0:aW N w w.drew:=(Keep.refl _ w).drew;have h1:aW N w w1:=by rw[HU.out];exact h0.setCell (fun hk=>hk.2 rfl) u
 have h2:aW N w w2:=by rw[WZ.out];exact h1.setCell (fun hk=>hk.2 rfl) u2
 exact(h2.setCell (fun hk=>hk.2 rfl) _).setCell (fun hk=>hk.2 rfl) _
theorem Si{D:Nat→Prop}{N:Nat}{w:World}(h:dU D N w []):
  Calls Tryz.prog 170 #[.pointer (some ⟨N,0,none⟩)] w fun e w'=>e=dm∧w'=w:=by
 have H:=hide h;clear h;go_enter Tryz.func170,Tryz.ntmps170
 go_wp2_with(go_at_call 76;(with_reducible refine(Ri H.out).mono ?_);rintro e1 w1 ⟨rfl,rfl⟩)
 exact⟨rfl,rfl,rfl⟩
theorem vJ{D:Nat→Prop}{N:Nat}{w:World}{vs:List Value}(h:bu D N w [] vs):
  Calls Tryz.prog 111 #[.pointer (some ⟨N,0,none⟩)] w fun e w'=>e=dm∧aW N w w':=by
 have H:=hide h;clear h;go_enter Tryz.func111,Tryz.ntmps111
 go_wp2_with(go_at_call 170;(with_reducible refine(Si H.out.wd).mono ?_);rintro e1 w1 ⟨rfl,rfl⟩)
 exact⟨rfl,rfl,Keep.refl _ _⟩
end
section
open Go.RowKit
open Go.Maps (Keyed int_keyed keyOf_int_mk)
def dF:Nat→Nat
 | 2=>106
 | 3=>107
 | 4=>108
 | 5=>109
 | 6=>110
 | 9=>111
 | _=>105
abbrev lS(p:Nat×ByteArray):Value:= .agg #[.string p.2,.func (.func (dF p.1)) #[] #[]]
open Classical in
noncomputable def gX(v:Value):Option (DataW Unit×List MemPlace):=(dS.find? fun p=>decide (v=lS p)).map fun p=>(.lit (.int .u8 p.1),[])
open Classical in
theorem sH{p:Nat×ByteArray}(hp:p∈dS):gX (lS p)=some (.lit (.int .u8 p.1),[]):=by
 unfold gX;rcases hf:dS.find? (fun q=>decide (lS p=lS q))with _|q
 ·have:=List.find?_eq_none.1 hf p hp;simp at this
 ·have h1:=List.mem_of_find?_eq_some hf;have h2:=List.find?_some hf;simp only[decide_eq_true_eq]at h2;have h3:p.2=q.2:=by
   have this:=congrArg (fun a:Array Value=>a[0]?) (Value.agg.inj h2)
   simpa using this
  have h4:=mW (s:=p.2) (k:=p.1) hp;have h5:=mW (s:=q.2) (k:=q.1) h1;rw[←h3,h4]at h5;injection h5 with h5;rw[Option.map_some,h5]
open Classical in
theorem Nv{v:Value}{y:DataW Unit×List MemPlace}(h:gX v=some y):∃p:{p:Nat×ByteArray // p∈dS},v=lS p.1:=by
 unfold gX at h;obtain⟨p,hp,_⟩:=Option.map_eq_some_iff.1 h;have h2:=List.find?_some hp;simp only[decide_eq_true_eq]at h2;exact⟨⟨p,List.mem_of_find?_eq_some hp⟩,h2⟩
def iK:DataW Unit:=(((((((((DataW.map []).put (.int .u8 1) (.lit (.int .u8 1))).put (.int .u8 2) (.lit (.int .u8 2))).put (.int .u8 3) (.lit (.int .u8 3))).put (.int .u8 4) (.lit (.int .u8 4))).put (.int .u8 5) (.lit (.int .u8 5))).put (.int .u8 6) (.lit (.int .u8 6))).put (.int .u8 7) (.lit (.int .u8 7))).put (.int .u8 8) (.lit (.int .u8 8))).put (.int .u8 9) (.lit (.int .u8 9))
theorem Nw:iK = .map [(.int .u8 1,.lit (.int .u8 1)),(.int .u8 2,.lit (.int .u8 2)),(.int .u8 3,.lit (.int .u8 3)),(.int .u8 4,.lit (.int .u8 4)),(.int .u8 5,.lit (.int .u8 5)),(.int .u8 6,.lit (.int .u8 6)),(.int .u8 7,.lit (.int .u8 7)),(.int .u8 8,.lit (.int .u8 8)),(.int .u8 9,.lit (.int .u8 9))]:=by rfl
theorem qN{p:Nat×ByteArray}(hp:p∈dS):Maps.has iK (.int .u8 p.1)=true:=by
 rw[Nw];simp only[dS,List.mem_cons,List.not_mem_nil,or_false]at hp;rcases hp with rfl|rfl|rfl|rfl|rfl|rfl|rfl|rfl|rfl<;>rfl
theorem Sj{x:Int}{p:Nat×ByteArray}(hp:p∈dS)(h :∀zd,iK.atKey (.int .u8 x) zd = .lit (.int .u8 p.1)):x=(p.1:Int):=by
 have h:=h (.lit (.bool false));rw[Nw]at h;by_cases e1:x=1
 ·subst e1;simp[DataW.atKey,Lit.sameKey]at h;omega
 by_cases e2:x=2
 ·subst e2;simp[DataW.atKey,Lit.sameKey]at h;omega
 by_cases e3:x=3
 ·subst e3;simp[DataW.atKey,Lit.sameKey]at h;omega
 by_cases e4:x=4
 ·subst e4;simp[DataW.atKey,Lit.sameKey]at h;omega
 by_cases e5:x=5
 ·subst e5;simp[DataW.atKey,Lit.sameKey]at h;omega
 by_cases e6:x=6
 ·subst e6;simp[DataW.atKey,Lit.sameKey]at h;omega
 by_cases e7:x=7
 ·subst e7;simp[DataW.atKey,Lit.sameKey]at h;omega
 by_cases e8:x=8
 ·subst e8;simp[DataW.atKey,Lit.sameKey]at h;omega
 by_cases e9:x=9
 ·subst e9;simp[DataW.atKey,Lit.sameKey]at h;omega
 simp[DataW.atKey,Lit.sameKey,Ne.symm e1,Ne.symm e2,Ne.symm e3,Ne.symm e4,Ne.symm e5,Ne.symm e6,Ne.symm e7,Ne.symm e8,Ne.symm e9]at h
theorem Ny{k:Nat}{s t:ByteArray}(h:(k,s)∈dS)(h':(k,t)∈dS):s=t:=by
 simp only[dS,List.mem_cons,List.not_mem_nil,or_false,Prod.mk.injEq]at h;rcases h with⟨rfl,rfl⟩|⟨rfl,rfl⟩|⟨rfl,rfl⟩|⟨rfl,rfl⟩|⟨rfl,rfl⟩|⟨rfl,rfl⟩|⟨rfl,rfl⟩|⟨rfl,rfl⟩|⟨rfl,rfl⟩ <;>
 ·simp[dS]at h';exact h'.symm
theorem zf{H:Type}{P:Program}{T k E:TypeId}{R:Value→Option (DataW H×List MemPlace)}{b n:Nat}{D:DataW H}{w:World}{o:Oper}{a:Act}{K':Act→World→Prop}{Q:Exit→Act→World→Prop}{key v:Value}{kl:Lit}{d:DataW H}{ps:List MemPlace}
  (hd:o.dst=none) (ht:P.underlying T=some (.map k E)) (K:Keyed P k) (hown:w.ownsMap P k R b n D) (hn:n<maxLen) (hkey:keyOf P k key=some kl) (hv:R v=some (d,ps))
  (h :∀w',w'.ownsMap P k R b (n+1) (D.put kl d)→w.grownBy w' (some b)→K' a w'):
  Oper.upon P o a K' Q (((Instr.mapUpdate T (.map (some b)) key v).run P w).andThen fun _ w'=> .ok .skip w'):=by
 obtain⟨w',hrun,h1,h2⟩:=hown.update K ht hn hkey hv;rw[hrun];show K' (a.put o.dst undef) w';rw[hd];exact h w' h1 h2
theorem jw:Keyed Tryz.prog 32:=int_keyed Tryz.underlying32
theorem vK(x:Int)(h:(Lit.int .u8 x).wf=true):keyOf Tryz.prog 32 (.int .u8 x)=some (.int .u8 x):=keyOf_int_mk Tryz.underlying32 h
abbrev jW(w:World)(b:Nat):Prop:=w.ownsMap Tryz.prog 32 gX b 9 iK
theorem Nz(w:World):Calls Tryz.prog 40 #[] w fun e w'=>e = .returned (.map (some w.heap.size))∧jW w' w.heap.size∧Below w.heap.size w w':=by
 have T:=hide (World.ownsMap_made w Tryz.prog 32 gX);have HB:Hid (Below w.heap.size w (w.alloc (.map #[] 0))):=hide (az w _);have hmm:=@run_makeMap Tryz.prog;go_enter Tryz.func40,Tryz.ntmps40;have hv1:gX (.agg #[.string {data:=#[110,101,119]},.func (.func 105) #[] #[]])=some (.lit (.int .u8 1),[]):=sH (p:=(1,kJ)) (by simp[dS]);have hv2:gX (.agg #[.string {data:=#[114,101,99,111,114,100]},.func (.func 106) #[] #[]])=some (.lit (.int .u8 2),[]):=sH (p:=(2,dM)) (by simp[dS]);have hv3:gX (.agg #[.string {data:=#[112,117,108,108]},.func (.func 107) #[] #[]])=some (.lit (.int .u8 3),[]):=sH (p:=(3,iy)) (by simp[dS]);have hv4:gX (.agg #[.string {data:=#[117,110,112,117,108,108]},.func (.func 108) #[] #[]])=some (.lit (.int .u8 4),[]):=sH (p:=(4,iT)) (by simp[dS]);have hv5:gX (.agg #[.string {data:=#[109,101,114,103,101]},.func (.func 109) #[] #[]])=some (.lit (.int .u8 5),[]):=sH (p:=(5,jR)) (by simp[dS]);have hv6:gX (.agg #[.string {data:=#[99,104,101,99,107,111,117,116]},.func (.func 110) #[] #[]])=some (.lit (.int .u8 6),[]):=sH (p:=(6,gB)) (by simp[dS]);have hv7:gX (.agg #[.string {data:=#[108,111,103]},.func (.func 105) #[] #[]])=some (.lit (.int .u8 7),[]):=sH (p:=(7,nY)) (by simp[dS]);have W9:gX (.agg #[.string {data:=#[101,120,112,111,114,116]},.func (.func 105) #[] #[]])=some (.lit (.int .u8 8),[]):=sH (p:=(8,iU)) (by simp[dS]);have Xa:gX (.agg #[.string {data:=#[105,109,112,111,114,116]},.func (.func 111) #[] #[]])=some (.lit (.int .u8 9),[]):=sH (p:=(9,iC)) (by simp[dS])
 go_wp2_with fail
 generalize w.alloc (.map #[] 0)=wb at T HB⊢
 go_wp2_with(first
  | ((with_reducible refine zf ?_ Tryz.underlying100 jw T.out (by unfold maxLen;omega) (vK 1 (by decide)) hv1 ?_);exact rfl;intro w1 T0 hg;have HB1:Hid (Below w.heap.size w w1):=hide (HB.out.grown hg HB.out.size (by rintro k ⟨⟩;exact aC _));clear T HB hg;have T:=hide T0;have HB:=HB1;clear HB1 T0)
  | ((with_reducible refine zf ?_ Tryz.underlying100 jw T.out (by unfold maxLen;omega) (vK 2 (by decide)) hv2 ?_);exact rfl;intro w1 T0 hg;have HB1:Hid (Below w.heap.size w w1):=hide (HB.out.grown hg HB.out.size (by rintro k ⟨⟩;exact aC _));clear T HB hg;have T:=hide T0;have HB:=HB1;clear HB1 T0)
  | ((with_reducible refine zf ?_ Tryz.underlying100 jw T.out (by unfold maxLen;omega) (vK 3 (by decide)) hv3 ?_);exact rfl;intro w1 T0 hg;have HB1:Hid (Below w.heap.size w w1):=hide (HB.out.grown hg HB.out.size (by rintro k ⟨⟩;exact aC _));clear T HB hg;have T:=hide T0;have HB:=HB1;clear HB1 T0)
  | ((with_reducible refine zf ?_ Tryz.underlying100 jw T.out (by unfold maxLen;omega) (vK 4 (by decide)) hv4 ?_);exact rfl;intro w1 T0 hg;have HB1:Hid (Below w.heap.size w w1):=hide (HB.out.grown hg HB.out.size (by rintro k ⟨⟩;exact aC _));clear T HB hg;have T:=hide T0;have HB:=HB1;clear HB1 T0)
  | ((with_reducible refine zf ?_ Tryz.underlying100 jw T.out (by unfold maxLen;omega) (vK 5 (by decide)) hv5 ?_);exact rfl;intro w1 T0 hg;have HB1:Hid (Below w.heap.size w w1):=hide (HB.out.grown hg HB.out.size (by rintro k ⟨⟩;exact aC _));clear T HB hg;have T:=hide T0;have HB:=HB1;clear HB1 T0)
  | ((with_reducible refine zf ?_ Tryz.underlying100 jw T.out (by unfold maxLen;omega) (vK 6 (by decide)) hv6 ?_);exact rfl;intro w1 T0 hg;have HB1:Hid (Below w.heap.size w w1):=hide (HB.out.grown hg HB.out.size (by rintro k ⟨⟩;exact aC _));clear T HB hg;have T:=hide T0;have HB:=HB1;clear HB1 T0)
  | ((with_reducible refine zf ?_ Tryz.underlying100 jw T.out (by unfold maxLen;omega) (vK 7 (by decide)) hv7 ?_);exact rfl;intro w1 T0 hg;have HB1:Hid (Below w.heap.size w w1):=hide (HB.out.grown hg HB.out.size (by rintro k ⟨⟩;exact aC _));clear T HB hg;have T:=hide T0;have HB:=HB1;clear HB1 T0)
  | ((with_reducible refine zf ?_ Tryz.underlying100 jw T.out (by unfold maxLen;omega) (vK 8 (by decide)) W9 ?_);exact rfl;intro w1 T0 hg;have HB1:Hid (Below w.heap.size w w1):=hide (HB.out.grown hg HB.out.size (by rintro k ⟨⟩;exact aC _));clear T HB hg;have T:=hide T0;have HB:=HB1;clear HB1 T0)
  | ((with_reducible refine zf ?_ Tryz.underlying100 jw T.out (by unfold maxLen;omega) (vK 9 (by decide)) Xa ?_);exact rfl;intro w1 T0 hg;have HB1:Hid (Below w.heap.size w w1):=hide (HB.out.grown hg HB.out.size (by rintro k ⟨⟩;exact aC _));clear T HB hg;have T:=hide T0;have HB:=HB1;clear HB1 T0))
 go_ret;exact⟨rfl,T.out,HB.out⟩
end
section
open Go.RowKit
theorem xZ(b:Nat){P:Nat→Prop}(hP :¬P b):∀(vs:List Value) (o:Nat) (w:World),Keep P w (w.setCells b o vs)
 | [],_,w=>Keep.refl _ _
 | v::r,o,w=>Keep.trans ((Keep.refl P w).setCell (a:=⟨b,o,none⟩) hP v) (xZ b hP r (o+1) (w.setCell ⟨b,o,none⟩ v))
theorem NC(b:Nat):∀(vs:List Value) (o:Nat) (w:World),(w.setCells b o vs).heap.size=w.heap.size
 | [],_,_=>rfl
 | v::r,o,w=>by rw[World.setCells,NC b r];simp[World.setCell]
end
section
open Go.RowKit
abbrev Late(N:Nat)(w w':World):Prop:=Keep (fun b=>N<b∧b<w.heap.size) w w'
section
variable {N rb : Nat} {w w' w'' : World} {A : Option Addr}
theorem Late.refl(N:Nat)(w:World):Late N w w:=Keep.refl _ _
theorem Late.set(h:Late N w w'){a:Addr}(ha:a.block≤N)(u:Value):Late N w (w'.setCell a u):=Keep.setCell h (fun hk=>absurd hk.1 (by omega)) u
theorem Late.side(h:Late N w w')(hrb:rb<N)(hs:Side rb w' w''):Late N w w'' :=
 Keep.trans h (Keep.mono hs fun k hk=>⟨aH hk.2 h.size,by have:=hk.1;omega⟩)
theorem Late.trans(h:Late N w w')(h':Late N w' w''):Late N w w'':=Keep.trans h (Keep.mono h' fun k hk=>⟨hk.1,aH hk.2 h.size⟩)
theorem Rd.late{xs:List Value}(h:Rd (fun b=>N<b) w A xs)(hl:Late N w w'):Rd (fun b=>N<b) w' A xs :=
 ((h.mono (S':=fun b=>N<b∧b<w.heap.size) fun _ h1 h2=>⟨h2,h1⟩).keep hl.block).mono fun _ _ h=>h.1
theorem IntsIn.late{l:List Int}(h:IntsIn (fun b=>N<b) w A l)(hl:Late N w w'):IntsIn (fun b=>N<b) w' A l:=⟨h.1.late hl,h.2⟩
theorem bH.late{l:List ByteArray}(h:bH (fun b=>N<b) w A l)(hl:Late N w w'):bH (fun b=>N<b) w' A l:=⟨h.1.late hl,h.2⟩
theorem bz.late{f:Fo}(h:bz (fun b=>N<b) w A f)(hl:Late N w w'):bz (fun b=>N<b) w' A f :=
 ((h.mono (S':=fun b=>N<b∧b<w.heap.size) fun _ h1 h2=>⟨h2,h1⟩).keep hl.block).mono fun _ _ h=>h.1
theorem dD.late{x:Eh}{e:Ed}(a:dD (fun b=>N<b) w x e)(hl:Late N w w'):dD (fun b=>N<b) w' x e :=
 ⟨a.kind,a.path.late hl,a.at_,a.far,a.frm,a.to,a.old.late hl,a.new.late hl,a.pc,a.oc,a.nc⟩
end
def kE(d:Nat)(l:List UInt8):Prop:=∃(e:Ed) (l':List UInt8),jS e∧e.old.high+d≤40∧e.new.high+d≤40∧l=gV e++l'
theorem CW{d:Nat}{x:UInt8}{l1:List UInt8}(h :¬jG au aT l1):¬kE d (x::(l1)):=by
 rintro⟨e,l',hf,hh1,hh2,he⟩;simp only[gV,List.cons_append,List.append_assoc,List.cons.injEq]at he;obtain⟨_,he⟩:=he;exact h ⟨e.path,_,hf.path.1,hf.path.2,he⟩
theorem CX{d:Nat}{x:UInt8}{l1:List UInt8}{p:List Int}(h1:dZ p)(h:l1.length<8):¬kE d (x::(di p++(l1))):=by
 rintro⟨e,l',hf,hh1,hh2,he⟩;simp only[gV,List.cons_append,List.append_assoc,List.cons.injEq]at he;obtain⟨_,he⟩:=he;obtain⟨_,he⟩:=BO h1 hf.path he;rw[he,aJ,fD]at h;omega
theorem CY{d:Nat}{x:UInt8}{l1:List UInt8}{p:List Int}{a:Int}(h1:dZ p)(h2:aT a)(h:l1.length<8):¬kE d (x::(di p++(au a++(l1)))):=by
 rintro⟨e,l',hf,hh1,hh2,he⟩;simp only[gV,List.cons_append,List.append_assoc,List.cons.injEq]at he;obtain⟨_,he⟩:=he;obtain⟨_,he⟩:=BO h1 hf.path he;obtain⟨_,he⟩:=jg h2 hf.at_ he;rw[he,aJ,fD]at h;omega
theorem CZ{d:Nat}{x:UInt8}{l1:List UInt8}{p:List Int}{a:Int}{f:Int}(h1:dZ p)(h2:aT a)(h3:aT f)(h :¬jm l1):¬kE d (x::(di p++(au a++(au f++(l1))))):=by
 rintro⟨e,l',hf,hh1,hh2,he⟩;simp only[gV,List.cons_append,List.append_assoc,List.cons.injEq]at he;obtain⟨_,he⟩:=he;obtain⟨_,he⟩:=BO h1 hf.path he;obtain⟨_,he⟩:=jg h2 hf.at_ he;obtain⟨_,he⟩:=jg h3 hf.far he;exact h ⟨e.frm,_,hf.frm,he⟩
theorem C9{d:Nat}{x:UInt8}{l1:List UInt8}{p:List Int}{a:Int}{f:Int}{s:ByteArray}(h1:dZ p)(h2:aT a)(h3:aT f)(h4:s.size≤aU)(h :¬jm l1):¬kE d (x::(di p++(au a++(au f++(aP s++(l1)))))):=by
 rintro⟨e,l',hf,hh1,hh2,he⟩;simp only[gV,List.cons_append,List.append_assoc,List.cons.injEq]at he;obtain⟨_,he⟩:=he;obtain⟨_,he⟩:=BO h1 hf.path he;obtain⟨_,he⟩:=jg h2 hf.at_ he;obtain⟨_,he⟩:=jg h3 hf.far he;obtain⟨_,he⟩:=mO h4 hf.frm he;exact h ⟨e.to,_,hf.to,he⟩
theorem Dc{d:Nat}{x:UInt8}{l1:List UInt8}{p:List Int}{a:Int}{f:Int}{s:ByteArray}{t:ByteArray}(h1:dZ p)(h2:aT a)(h3:aT f)(h4:s.size≤aU)(h5:t.size≤aU)(h :¬gG d l1):¬kE d (x::(di p++(au a++(au f++(aP s++(aP t++(l1))))))):=by
 rintro⟨e,l',hf,hh1,hh2,he⟩;simp only[gV,List.cons_append,List.append_assoc,List.cons.injEq]at he;obtain⟨_,he⟩:=he;obtain⟨_,he⟩:=BO h1 hf.path he;obtain⟨_,he⟩:=jg h2 hf.at_ he;obtain⟨_,he⟩:=jg h3 hf.far he;obtain⟨_,he⟩:=mO h4 hf.frm he;obtain⟨_,he⟩:=mO h5 hf.to he;exact h ⟨e.old,_,hf.old,hh1,he⟩
theorem Df{d:Nat}{x:UInt8}{l1:List UInt8}{p:List Int}{a:Int}{f:Int}{s:ByteArray}{t:ByteArray}{o:Fo}(h1:dZ p)(h2:aT a)(h3:aT f)(h4:s.size≤aU)(h5:t.size≤aU)(h6:dL o)(h :¬gG d l1):¬kE d (x::(di p++(au a++(au f++(aP s++(aP t++(aS o++(l1)))))))):=by
 rintro⟨e,l',hf,hh1,hh2,he⟩;simp only[gV,List.cons_append,List.append_assoc,List.cons.injEq]at he;obtain⟨_,he⟩:=he;obtain⟨_,he⟩:=BO h1 hf.path he;obtain⟨_,he⟩:=jg h2 hf.at_ he;obtain⟨_,he⟩:=jg h3 hf.far he;obtain⟨_,he⟩:=mO h4 hf.frm he;obtain⟨_,he⟩:=mO h5 hf.to he;obtain⟨_,he⟩:=Ls h6 hf.old he;exact h ⟨e.new,_,hf.new,hh2,he⟩
theorem Gw{d:Nat}:¬kE d []:=by
 rintro⟨e,l',_,_,_,he⟩;simp[gV]at he
theorem zg{N:Nat}{w3 w7 w8 w9 wF:World}{x:Eh}{e:Ed}{L3 L8 L9:List Nat}(o3:fH 3 w3 x.pA x.pc e.path.length (e.path.map (.int .i64)) L3)(o8:bg w8 x.oA x.oc e.old L8)(o9:bg w9 x.nA x.nc e.new L9)
  (m3 :∀b∈L3,N<b) (m8 :∀b∈L8,w7.heap.size≤b) (m9 :∀b∈L9,w8.heap.size≤b) (h37:Late N w3 w7) (ND:Late N w7 w8) (Sl:Late N w8 wF) (Xb:Late N w9 wF) (hN:N<w7.heap.size):
  ∃L,mf wF x e L∧L.Nodup∧∀b∈L,N<b:=by
 have q8 :∀b∈L8,N<b:=fun b hb=>aH hN (m8 b hb);have q9 :∀b∈L9,N<b:=fun b hb=>aH hN (aI ND.size (m9 b hb));refine⟨L3++(L8++L9),⟨L3,L8,L9,o3.keep fun b hb=>(h37.trans (ND.trans Sl)).block b ⟨m3 b hb,o3.lt b hb⟩,o8.keep fun b hb=>Sl.block b ⟨q8 b hb,o8.lt b hb⟩,o9.keep fun b hb=>Xb.block b ⟨q9 b hb,o9.lt b hb⟩,rfl⟩,?_,fun b hb=>?_⟩
 ·refine FV o3.nodup (FV o8.nodup o9.nodup o8.lt m9) (M:=w7.heap.size) (fun b hb=>aH (o3.lt b hb) h37.size) fun b hb=>?_;rcases List.mem_append.1 hb with hb|hb
  ·exact m8 b hb
  ·exact aI ND.size (m9 b hb)
 ·simp only[List.mem_append]at hb;rcases hb with hb|hb|hb
  ·exact m3 b hb
  ·exact q8 b hb
  ·exact q9 b hb
def Dh(D:Nat→Prop)(rb d:Nat)(w:World)(l:List UInt8)(e1:Ending)(w':World):Prop :=
 (∃(e:Ed) (x:Eh) (l':List UInt8),l=gV e++l'∧jS e∧e.old.high+d≤40∧e.new.high+d≤40∧e1 = .returned (.agg #[.int .u8 e.kind,.slice x.pA e.path.length x.pc,.int .i64 e.at_,.int .i64 e.far,.string e.frm,.string e.to,.slice x.oA e.old.len x.oc,.slice x.nA e.new.len x.nc])∧dD (fun b=>w.heap.size<b) w' x e∧bP D rb w' l' d∧Side rb w w'∧∃L,mf w' x e L∧L.Nodup∧∀b∈L,w.heap.size<b)∨
 (¬kE d l∧e1=iW∧Side rb w w')
theorem vM{D:Nat→Prop}{rb d:Nat}{w:World}{l:List UInt8}(h:bP D rb w l d)(hd:d≤40)(hl:l.length≤lid):
  Calls Tryz.prog 252 #[.pointer (some ⟨rb,0,none⟩)] w (Dh D rb d w l):=by
 have hrb:=h.lt;have kU:=hide h.off;have H:=hide h.old;have hl':l.length≤1099511627776:=hl;clear h hl;rcases l with _|⟨x,l1⟩
 ·go_enter Tryz.func252,Tryz.ntmps252
  go_wp2_with(go_at_call 248;refine(JQ (H.out.alloc _) (by unfold aT;omega) (by simp)).mono ?_;rintro e w2 ⟨rfl,hs⟩;exact⟨rfl,.inr ⟨Gw,rfl,Side.trans (Side.alloc (Side.refl rb w) _) hs⟩⟩)
 ·have hx:=x.toNat_lt;have hll:l1.length+1≤1099511627776:=hl';clear hl';go_enter Tryz.func252,Tryz.ntmps252
  go_wp2_with(first
    | (go_at_call 248;refine(Gq (H.out.alloc _) (by simp)).mono ?_;rintro e w2 ⟨A,c,rfl,hb,hr,hs⟩;obtain⟨bb,bo,rfl,hx0⟩:=hb.1.at_ (j:=0) (by simp[bytesV]);simp only[bytesV,List.take_succ_cons,List.take_zero,List.map_cons,List.map_nil,aE,Nat.add_zero]at hx0;obtain⟨ha2,hb2,hc2⟩:=hs.box (N:=w.heap.size) (by simp) (by omega);have sJ:Hid (Has w2 w.heap.size 8):=hide (Has.of_eq (Has.new _ _ _ _ (by simp)) ha2);have kD:Hid (bP (fun b=>D b∧b<w.heap.size) rb w2 l1 d):=hide hr;have HS2:=hide (Side.trans (Side.alloc (Side.refl rb w) _) hs);clear hb hr hs)
    | (go_at_call 277;(refine(WO (kD.out.setNew hrb (a:=⟨w.heap.size,0,none⟩) (aC _) _) (show _≤1099511627776 by omega)).mono ?_);rintro e w3 hP;rcases hP with⟨p,l2,pA,pc,he3,hf3,rfl,hin,Gx,Gy,hr,hs,hO⟩|⟨hno,rfl,hs⟩;all_goals first
      | exact⟨rfl,.inr ⟨CW hno,rfl,Side.trans (Side.setNew HS2.out (a:=⟨w.heap.size,0,none⟩) (aC _) _) hs⟩⟩
      | (have jh:=hide (Side.trans (Side.setNew HS2.out (a:=⟨w.heap.size,0,none⟩) (aC _) _) hs);have mi:Hid (Late w.heap.size w2 w3):=hide (Late.side (Late.set (Late.refl w.heap.size w2) (a:=⟨w.heap.size,0,none⟩) (aC _) _) hrb hs);have Xc:=hide (hin.mono (S':=fun b=>w.heap.size<b) (fun b _ hb=>aH (by first|(simp;exact hc2)|exact hc2) hb));obtain⟨sD,hb3,hc3⟩:=hs.box (N:=w.heap.size) (by first|(simp;exact hc2)|exact hc2) (by omega);have Di:=hide (Has.of_eq (Has.set sJ.out ⟨w.heap.size,0,none⟩ _) sD);have y9:=hide hr;have jv:=hide he3;have iQ:Hid (dZ p):=hide ⟨hf3,aI Gx Gy⟩;have hl2:l2.length≤l1.length:=(by rw[he3,aJ];omega);have Xd:=hide hO;clear hr hs hin he3 hf3 hO))
    | (go_at_call 250;(refine(Cf (y9.out.setNew hrb (a:=⟨w.heap.size,1,none⟩) (aC _) _)).mono ?_);rintro e w4 hP;rcases hP with⟨at_,l3,he4,hn4,rfl,hr,hs⟩|⟨hno,rfl,hs⟩;all_goals first
      | exact⟨rfl,.inr ⟨by rw[jv.out];exact CX iQ.out hno,rfl,Side.trans (Side.setNew jh.out (a:=⟨w.heap.size,1,none⟩) (aC _) _) hs⟩⟩
      | (have lC:=hide (Side.trans (Side.setNew jh.out (a:=⟨w.heap.size,1,none⟩) (aC _) _) hs);have x8:Hid (Late w.heap.size w3 w4):=hide (Late.side (Late.set (Late.refl w.heap.size w3) (a:=⟨w.heap.size,1,none⟩) (aC _) _) hrb hs);have dJ:=hide (Xc.out.late x8.out);obtain⟨sF,hb4,hc4⟩:=hs.box (N:=w.heap.size) (by first|(simp;exact hc3)|exact hc3) (by omega);have Dj:=hide (Has.of_eq (Has.set Di.out ⟨w.heap.size,1,none⟩ _) sF);have CV:=hide hr;have lQ:=hide he4;have jX:=hide hn4;have hl3:l3.length≤l2.length:=(by rw[he4,aJ];omega);clear hr hs he4 hn4))
    | (go_at_call 250;(refine(Cf CV.out).mono ?_);rintro e w5 hP;rcases hP with⟨far,l4,xX,Sm,rfl,hr,hs⟩|⟨hno,rfl,hs⟩;all_goals first
      | exact⟨rfl,.inr ⟨by rw[jv.out,lQ.out];exact CY iQ.out jX.out hno,rfl,Side.trans lC.out hs⟩⟩
      | (have qL:=hide (Side.trans lC.out hs);have sK:Hid (Late w.heap.size w4 w5):=hide (Late.side (Late.refl w.heap.size w4) hrb hs);have Xe:=hide (dJ.out.late sK.out);obtain⟨sG,hb5,hc5⟩:=hs.box (N:=w.heap.size) (by first|(simp;exact hc4)|exact hc4) (by omega);have iI:=hide (Has.of_eq Dj.out sG);have Gv:=hide hr;have xY:=hide xX;have vN:=hide Sm;have hl4:l4.length≤l3.length:=(by rw[xX,aJ];omega);clear hr hs xX Sm))
    | (go_at_call 249;(refine(Be ((Gv.out.setNew hrb (a:=⟨w.heap.size,2,none⟩) (aC _) _).setNew hrb (a:=⟨w.heap.size,3,none⟩) (aC _) _) (show _≤9223372036854775807 by omega)).mono ?_);rintro e w6 hP;rcases hP with⟨frm,l5,EF,Sr,rfl,hr,hs⟩|⟨hno,rfl,hs⟩;all_goals first
      | exact⟨rfl,.inr ⟨by rw[jv.out,lQ.out,xY.out];exact CZ iQ.out jX.out vN.out hno,rfl,Side.trans (Side.setNew (Side.setNew qL.out (a:=⟨w.heap.size,2,none⟩) (aC _) _) (a:=⟨w.heap.size,3,none⟩) (aC _) _) hs⟩⟩
      | (have EG:=hide (Side.trans (Side.setNew (Side.setNew qL.out (a:=⟨w.heap.size,2,none⟩) (aC _) _) (a:=⟨w.heap.size,3,none⟩) (aC _) _) hs);have oZ:Hid (Late w.heap.size w5 w6):=hide (Late.side (Late.set (Late.set (Late.refl w.heap.size w5) (a:=⟨w.heap.size,2,none⟩) (aC _) _) (a:=⟨w.heap.size,3,none⟩) (aC _) _) hrb hs);have Xf:=hide (Xe.out.late oZ.out);obtain⟨ha6,hb6,hc6⟩:=hs.box (N:=w.heap.size) (by first|(simp;exact hc5)|exact hc5) (by omega);have NF:=hide (Has.of_eq (Has.set (Has.set iI.out ⟨w.heap.size,2,none⟩ _) ⟨w.heap.size,3,none⟩ _) ha6);have Su:=hide hr;have EH:=hide EF;have zh:=hide Sr;have hl5:l5.length≤l4.length:=(by rw[EF,aJ];omega);clear hr hs EF Sr))
    | (go_at_call 249;(refine(Be Su.out (show _≤9223372036854775807 by omega)).mono ?_);rintro e w7 hP;rcases hP with⟨ni,l6,NG,Sv,rfl,hr,hs⟩|⟨hno,rfl,hs⟩;all_goals first
      | exact⟨rfl,.inr ⟨by rw[jv.out,lQ.out,xY.out,EH.out];exact C9 iQ.out jX.out vN.out zh.out hno,rfl,Side.trans EG.out hs⟩⟩
      | (have Gz:=hide (Side.trans EG.out hs);have Dk:Hid (Late w.heap.size w6 w7):=hide (Late.side (Late.refl w.heap.size w6) hrb hs);have Xg:=hide (Xf.out.late Dk.out);obtain⟨GG,hb7,Dl⟩:=hs.box (N:=w.heap.size) (by first|(simp;exact hc6)|exact hc6) (by omega);have mr:=hide (Has.of_eq NF.out GG);have Xh:=hide hr;have NH:=hide NG;have JR:=hide Sv;have hl6:l6.length≤l5.length:=(by rw[NG,aJ];omega);clear hr hs NG Sv))
    | (go_at_call 278;(refine(RZ ((Xh.out.setNew hrb (a:=⟨w.heap.size,4,none⟩) (aC _) _).setNew hrb (a:=⟨w.heap.size,5,none⟩) (aC _) _) hd (show _≤1099511627776 by omega)).mono ?_);rintro e w8 hP;rcases hP with⟨fo,l7,oA,oc,NI,NJ,Xi,rfl,hin,qO,qP,hr,hs,hO⟩|⟨hno,rfl,hs⟩;all_goals first
      | exact⟨rfl,.inr ⟨by rw[jv.out,lQ.out,xY.out,EH.out,NH.out];exact Dc iQ.out jX.out vN.out zh.out JR.out hno,rfl,Side.trans (Side.setNew (Side.setNew Gz.out (a:=⟨w.heap.size,4,none⟩) (aC _) _) (a:=⟨w.heap.size,5,none⟩) (aC _) _) hs⟩⟩
      | (have Sz:=hide (Side.trans (Side.setNew (Side.setNew Gz.out (a:=⟨w.heap.size,4,none⟩) (aC _) _) (a:=⟨w.heap.size,5,none⟩) (aC _) _) hs);have SA:Hid (Late w.heap.size w7 w8):=hide (Late.side (Late.set (Late.set (Late.refl w.heap.size w7) (a:=⟨w.heap.size,4,none⟩) (aC _) _) (a:=⟨w.heap.size,5,none⟩) (aC _) _) hrb hs);have Xj:=hide (Xg.out.late SA.out);have JS:=hide (hin.mono (S':=fun b=>w.heap.size<b) (fun b _ hb=>aH (by first|(simp;exact Dl)|exact Dl) hb));obtain⟨SB,hb8,hc8⟩:=hs.box (N:=w.heap.size) (by first|(simp;exact Dl)|exact Dl) (by omega);have Xk:=hide (Has.of_eq (Has.set (Has.set mr.out ⟨w.heap.size,4,none⟩ _) ⟨w.heap.size,5,none⟩ _) SB);have Xl:=hide hr;have SC:=hide NI;have SE:Hid (dL fo):=hide ⟨NJ,aI qO qP⟩;have hl7:l7.length≤l6.length:=(by rw[NI,aJ];omega);have Xm:=hide hO;clear hr hs hin NI NJ hO))
    | (go_at_call 278;(refine(RZ Xl.out hd (show _≤1099511627776 by omega)).mono ?_);rintro e w9 hP;rcases hP with⟨fn,l8,nA,nc,SG,pg,hh9,rfl,hin,qQ,qR,hr,hs,hO⟩|⟨hno,rfl,hs⟩;all_goals first
      | exact⟨rfl,.inr ⟨by rw[jv.out,lQ.out,xY.out,EH.out,NH.out,SC.out];exact Df iQ.out jX.out vN.out zh.out JR.out SE.out hno,rfl,Side.trans Sz.out hs⟩⟩
      | (have Xn:=hide (Side.trans Sz.out hs);have GH:Hid (Late w.heap.size w8 w9):=hide (Late.side (Late.refl w.heap.size w8) hrb hs);have Xo:=hide (Xj.out.late GH.out);have Xp:=hide (JS.out.late GH.out);have Xq:=hide (hin.mono (S':=fun b=>w.heap.size<b) (fun b _ hb=>aH (by first|(simp;exact hc8)|exact hc8) hb));obtain⟨SH,lD,hc9⟩:=hs.box (N:=w.heap.size) (by first|(simp;exact hc8)|exact hc8) (by omega);have Bg:=hide (Has.of_eq Xk.out SH);have Xr:=hide hr;have Xt:=hide SG;have Xu:Hid (dL fn):=hide ⟨pg,aI qQ qR⟩;have Xv:=hide hO;clear hr hs hin SG pg hO))
  )
  refine bodyPost_ret (v:= .agg #[.int .u8 x.toNat,.slice pA p.length pc,.int .i64 at_,.int .i64 far,.string frm,.string ni,.slice oA fo.len oc,.slice nA fn.len nc]) ?_ rfl ?_
  ·clear ha2 sD sF sG ha6 GG SB SH;have g0:((((w9.setCell ⟨w.heap.size,6,none⟩ (.slice oA fo.len oc)).setCell ⟨w.heap.size,7,none⟩ (.slice nA fn.len nc)).setCell ⟨w.heap.size,0,none⟩ (.int .u8 x.toNat))).cell? ⟨w.heap.size,0,none⟩=some (.int .u8 x.toNat):=bM (n:=8) (Has.set (Has.set Bg.out ⟨w.heap.size,6,none⟩ _) ⟨w.heap.size,7,none⟩ _) (by omega);have g1:(((((w9.setCell ⟨w.heap.size,6,none⟩ (.slice oA fo.len oc)).setCell ⟨w.heap.size,7,none⟩ (.slice nA fn.len nc)).setCell ⟨w.heap.size,0,none⟩ (.int .u8 x.toNat)).setCell ⟨w.heap.size,1,none⟩ (.slice pA p.length pc))).cell? ⟨w.heap.size,1,none⟩=some (.slice pA p.length pc):=bM (n:=8) (Has.set (Has.set (Has.set Bg.out ⟨w.heap.size,6,none⟩ _) ⟨w.heap.size,7,none⟩ _) ⟨w.heap.size,0,none⟩ _) (by omega);have g2:((((((w9.setCell ⟨w.heap.size,6,none⟩ (.slice oA fo.len oc)).setCell ⟨w.heap.size,7,none⟩ (.slice nA fn.len nc)).setCell ⟨w.heap.size,0,none⟩ (.int .u8 x.toNat)).setCell ⟨w.heap.size,1,none⟩ (.slice pA p.length pc)).setCell ⟨w.heap.size,2,none⟩ (.int .i64 at_))).cell? ⟨w.heap.size,2,none⟩=some (.int .i64 at_):=bM (n:=8) (Has.set (Has.set (Has.set (Has.set Bg.out ⟨w.heap.size,6,none⟩ _) ⟨w.heap.size,7,none⟩ _) ⟨w.heap.size,0,none⟩ _) ⟨w.heap.size,1,none⟩ _) (by omega);have g3:(((((((w9.setCell ⟨w.heap.size,6,none⟩ (.slice oA fo.len oc)).setCell ⟨w.heap.size,7,none⟩ (.slice nA fn.len nc)).setCell ⟨w.heap.size,0,none⟩ (.int .u8 x.toNat)).setCell ⟨w.heap.size,1,none⟩ (.slice pA p.length pc)).setCell ⟨w.heap.size,2,none⟩ (.int .i64 at_)).setCell ⟨w.heap.size,3,none⟩ (.int .i64 far))).cell? ⟨w.heap.size,3,none⟩=some (.int .i64 far):=bM (n:=8) (Has.set (Has.set (Has.set (Has.set (Has.set Bg.out ⟨w.heap.size,6,none⟩ _) ⟨w.heap.size,7,none⟩ _) ⟨w.heap.size,0,none⟩ _) ⟨w.heap.size,1,none⟩ _) ⟨w.heap.size,2,none⟩ _) (by omega);have g4:((((((((w9.setCell ⟨w.heap.size,6,none⟩ (.slice oA fo.len oc)).setCell ⟨w.heap.size,7,none⟩ (.slice nA fn.len nc)).setCell ⟨w.heap.size,0,none⟩ (.int .u8 x.toNat)).setCell ⟨w.heap.size,1,none⟩ (.slice pA p.length pc)).setCell ⟨w.heap.size,2,none⟩ (.int .i64 at_)).setCell ⟨w.heap.size,3,none⟩ (.int .i64 far)).setCell ⟨w.heap.size,4,none⟩ (.string frm))).cell? ⟨w.heap.size,4,none⟩=some (.string frm):=bM (n:=8) (Has.set (Has.set (Has.set (Has.set (Has.set (Has.set Bg.out ⟨w.heap.size,6,none⟩ _) ⟨w.heap.size,7,none⟩ _) ⟨w.heap.size,0,none⟩ _) ⟨w.heap.size,1,none⟩ _) ⟨w.heap.size,2,none⟩ _) ⟨w.heap.size,3,none⟩ _) (by omega);have g5:(((((((((w9.setCell ⟨w.heap.size,6,none⟩ (.slice oA fo.len oc)).setCell ⟨w.heap.size,7,none⟩ (.slice nA fn.len nc)).setCell ⟨w.heap.size,0,none⟩ (.int .u8 x.toNat)).setCell ⟨w.heap.size,1,none⟩ (.slice pA p.length pc)).setCell ⟨w.heap.size,2,none⟩ (.int .i64 at_)).setCell ⟨w.heap.size,3,none⟩ (.int .i64 far)).setCell ⟨w.heap.size,4,none⟩ (.string frm)).setCell ⟨w.heap.size,5,none⟩ (.string ni))).cell? ⟨w.heap.size,5,none⟩=some (.string ni):=bM (n:=8) (Has.set (Has.set (Has.set (Has.set (Has.set (Has.set (Has.set Bg.out ⟨w.heap.size,6,none⟩ _) ⟨w.heap.size,7,none⟩ _) ⟨w.heap.size,0,none⟩ _) ⟨w.heap.size,1,none⟩ _) ⟨w.heap.size,2,none⟩ _) ⟨w.heap.size,3,none⟩ _) ⟨w.heap.size,4,none⟩ _) (by omega);have g6:((((((((((w9.setCell ⟨w.heap.size,6,none⟩ (.slice oA fo.len oc)).setCell ⟨w.heap.size,7,none⟩ (.slice nA fn.len nc)).setCell ⟨w.heap.size,0,none⟩ (.int .u8 x.toNat)).setCell ⟨w.heap.size,1,none⟩ (.slice pA p.length pc)).setCell ⟨w.heap.size,2,none⟩ (.int .i64 at_)).setCell ⟨w.heap.size,3,none⟩ (.int .i64 far)).setCell ⟨w.heap.size,4,none⟩ (.string frm)).setCell ⟨w.heap.size,5,none⟩ (.string ni)).setCell ⟨w.heap.size,6,none⟩ (.slice oA fo.len oc))).cell? ⟨w.heap.size,6,none⟩=some (.slice oA fo.len oc):=bM (n:=8) (Has.set (Has.set (Has.set (Has.set (Has.set (Has.set (Has.set (Has.set Bg.out ⟨w.heap.size,6,none⟩ _) ⟨w.heap.size,7,none⟩ _) ⟨w.heap.size,0,none⟩ _) ⟨w.heap.size,1,none⟩ _) ⟨w.heap.size,2,none⟩ _) ⟨w.heap.size,3,none⟩ _) ⟨w.heap.size,4,none⟩ _) ⟨w.heap.size,5,none⟩ _) (by omega);have g7:(((((((((((w9.setCell ⟨w.heap.size,6,none⟩ (.slice oA fo.len oc)).setCell ⟨w.heap.size,7,none⟩ (.slice nA fn.len nc)).setCell ⟨w.heap.size,0,none⟩ (.int .u8 x.toNat)).setCell ⟨w.heap.size,1,none⟩ (.slice pA p.length pc)).setCell ⟨w.heap.size,2,none⟩ (.int .i64 at_)).setCell ⟨w.heap.size,3,none⟩ (.int .i64 far)).setCell ⟨w.heap.size,4,none⟩ (.string frm)).setCell ⟨w.heap.size,5,none⟩ (.string ni)).setCell ⟨w.heap.size,6,none⟩ (.slice oA fo.len oc)).setCell ⟨w.heap.size,7,none⟩ (.slice nA fn.len nc))).cell? ⟨w.heap.size,7,none⟩=some (.slice nA fn.len nc):=bM (n:=8) (Has.set (Has.set (Has.set (Has.set (Has.set (Has.set (Has.set (Has.set (Has.set Bg.out ⟨w.heap.size,6,none⟩ _) ⟨w.heap.size,7,none⟩ _) ⟨w.heap.size,0,none⟩ _) ⟨w.heap.size,1,none⟩ _) ⟨w.heap.size,2,none⟩ _) ⟨w.heap.size,3,none⟩ _) ⟨w.heap.size,4,none⟩ _) ⟨w.heap.size,5,none⟩ _) ⟨w.heap.size,6,none⟩ _) (by omega);simp only[results,Tryz.results252];go_simp
  ·have hL:Late w.heap.size w9 ((((((((((w9.setCell ⟨w.heap.size,6,none⟩ (.slice oA fo.len oc)).setCell ⟨w.heap.size,7,none⟩ (.slice nA fn.len nc)).setCell ⟨w.heap.size,0,none⟩ (.int .u8 x.toNat)).setCell ⟨w.heap.size,1,none⟩ (.slice pA p.length pc)).setCell ⟨w.heap.size,2,none⟩ (.int .i64 at_)).setCell ⟨w.heap.size,3,none⟩ (.int .i64 far)).setCell ⟨w.heap.size,4,none⟩ (.string frm)).setCell ⟨w.heap.size,5,none⟩ (.string ni)).setCell ⟨w.heap.size,6,none⟩ (.slice oA fo.len oc)).setCell ⟨w.heap.size,7,none⟩ (.slice nA fn.len nc)):=(Late.set (Late.set (Late.set (Late.set (Late.set (Late.set (Late.set (Late.set (Late.set (Late.set (Late.refl w.heap.size w9) (a:=⟨w.heap.size,6,none⟩) (aC _) _) (a:=⟨w.heap.size,7,none⟩) (aC _) _) (a:=⟨w.heap.size,0,none⟩) (aC _) _) (a:=⟨w.heap.size,1,none⟩) (aC _) _) (a:=⟨w.heap.size,2,none⟩) (aC _) _) (a:=⟨w.heap.size,3,none⟩) (aC _) _) (a:=⟨w.heap.size,4,none⟩) (aC _) _) (a:=⟨w.heap.size,5,none⟩) (aC _) _) (a:=⟨w.heap.size,6,none⟩) (aC _) _) (a:=⟨w.heap.size,7,none⟩) (aC _) _);refine .inl ⟨⟨x.toNat,p,at_,far,frm,ni,fo,fn⟩,⟨pA,pc,oA,oc,nA,nc⟩,l8,?_,⟨by show x.toNat<256;omega,iQ.out,jX.out,vN.out,zh.out,JR.out,SE.out,Xu.out⟩,Xi,hh9,rfl,?_,?_,?_,?_⟩
   ·rw[jv.out,lQ.out,xY.out,EH.out,NH.out,SC.out,Xt.out];simp[gV]
   ·exact⟨by show x.toNat<256;omega,Xo.out.late hL,jX.out,vN.out,zh.out,JR.out,Xp.out.late hL,Xq.out.late hL,⟨Gx,Gy⟩,⟨qO,qP⟩,⟨qQ,qR⟩⟩
   ·exact bP.back ((((((((((Xr.out.setNew hrb (a:=⟨w.heap.size,6,none⟩) (aC _) _).setNew hrb (a:=⟨w.heap.size,7,none⟩) (aC _) _).setNew hrb (a:=⟨w.heap.size,0,none⟩) (aC _) _).setNew hrb (a:=⟨w.heap.size,1,none⟩) (aC _) _).setNew hrb (a:=⟨w.heap.size,2,none⟩) (aC _) _).setNew hrb (a:=⟨w.heap.size,3,none⟩) (aC _) _).setNew hrb (a:=⟨w.heap.size,4,none⟩) (aC _) _).setNew hrb (a:=⟨w.heap.size,5,none⟩) (aC _) _).setNew hrb (a:=⟨w.heap.size,6,none⟩) (aC _) _).setNew hrb (a:=⟨w.heap.size,7,none⟩) (aC _) _) kU.out
   ·exact(Side.setNew (Side.setNew (Side.setNew (Side.setNew (Side.setNew (Side.setNew (Side.setNew (Side.setNew (Side.setNew (Side.setNew Xn.out (a:=⟨w.heap.size,6,none⟩) (aC _) _) (a:=⟨w.heap.size,7,none⟩) (aC _) _) (a:=⟨w.heap.size,0,none⟩) (aC _) _) (a:=⟨w.heap.size,1,none⟩) (aC _) _) (a:=⟨w.heap.size,2,none⟩) (aC _) _) (a:=⟨w.heap.size,3,none⟩) (aC _) _) (a:=⟨w.heap.size,4,none⟩) (aC _) _) (a:=⟨w.heap.size,5,none⟩) (aC _) _) (a:=⟨w.heap.size,6,none⟩) (aC _) _) (a:=⟨w.heap.size,7,none⟩) (aC _) _)
   ·obtain⟨L3,o3,m3⟩:=Xd.out;obtain⟨L8,o8,m8⟩:=Xm.out;obtain⟨L9,o9,m9⟩:=Xv.out;have t37:=x8.out.trans (sK.out.trans (oZ.out.trans Dk.out));exact zg o3 o8 o9 (fun b hb=>aH hc2 (by have:=m3 b hb;simpa using this)) (fun b hb=>by have:=m8 b hb;simpa using this) m9 t37 SA.out (GH.out.trans hL) hL Dl
end
section
open Go.RowKit
theorem SI{p:Nat}(h:kindRow p=none)(w:World):
  Calls Tryz.prog 283 #[.int .u8 p] w fun e w'=>e = .returned (.tuple #[.agg #[.slice none 0 0,.bool false],.bool false])∧Below w.heap.size w w':=by
 refine(Rw p w).mono ?_;rintro e w' ⟨hB,⟨_,he⟩|⟨k',ks,all,A,c,hf,_⟩⟩
 ·exact⟨he,hB⟩
 ·rw[h]at hf;cases hf
theorem Dn{p:Nat}{k':Int}{ks:List Int}{all:Bool}(h:kindRow p=some (k',ks,all))(w:World):
  Calls Tryz.prog 283 #[.int .u8 p] w fun e w'=>∃A c,e = .returned (.tuple #[.agg #[.slice A ks.length c,.bool all],.bool true])∧Rd (fun _=>True) w' A (ks.map (.int .u8))∧Below w.heap.size w w':=by
 refine(Rw p w).mono ?_;rintro e w' ⟨hB,⟨hf,_⟩|⟨k'',ks',all',A,c,hf,he,hr⟩⟩
 ·rw[h]at hf;cases hf
 ·rw[h]at hf;cases hf;exact⟨A,c,he,hr,hB⟩
theorem JU :∀r∈dE,(∀x∈r.2.1,0≤x∧x<256)∧(r.2.2=true→r.2.1.length=1)∧r.2.1.length≤3:=by decide
theorem SK{p:Nat}{k':Int}{ks:List Int}{all:Bool}(h:kindRow p=some (k',ks,all)){j:Nat}(hj:j<ks.length):∃n:Nat,ks[j]=n:=by
 have:=(JU _ (CJ h).1).1 ks[j] (List.getElem_mem hj);exact⟨ks[j].toNat,by omega⟩
theorem SL(p k i:Nat)(w:World):Calls Tryz.prog 285 #[.int .u8 p,.int .u8 k,.int .i64 i] w fun e w'=>ag (aX p k i) e∧Below w.heap.size w w':=by
 cases h:kindRow p with
 | none =>
  have H:=hide h;clear h;go_enter Tryz.func285,Tryz.ntmps285
  go_wp2_with(go_at_call 283;refine(SI H.out _).mono ?_;rintro e w1 ⟨rfl,hB⟩;have HB:=hide hB;clear hB)
  go_ret;exact⟨ag.no (qH H.out k i),HB.out.alloc HB.out.size _⟩
 | some x =>
  obtain⟨k',ks,all⟩:=x;have H:=hide h;have hlen:=(JU _ (CJ h).1).2.2;have hone:=hide (JU _ (CJ h).1).2.1;simp only at hlen;clear h;by_cases hall:all=true
  ·subst hall;have h0:0<ks.length:=by have:=hone.out rfl;simp only at this;omega
   obtain⟨n,hn⟩:=SK H.out h0;have Hn:=hide hn;clear hn;go_enter Tryz.func285,Tryz.ntmps285
   go_wp2_with(first
    | (go_at_call 283;refine(Dn H.out _).mono ?_;rintro e w1 ⟨A,c,rfl,hrd,hB⟩;have HB:=hide hB;clear hB;obtain⟨b,o,rfl,hc⟩:=hrd.at_ (j:=0) (by simpa using h0);simp only[List.getElem_map,Hn.out,Nat.add_zero]at hc;have hb:=block_lt_of_cell hc;clear hrd)
    | (go_at_call 298;refine(uS k n _).mono ?_;rintro e w2 ⟨⟨b2,rfl,hb2⟩,rfl⟩;have Hb:=hide hb2;clear hb2))
   go_ret;exact⟨ag.mk (by rw[Hb.out,MZ H.out];simp[List.getElem?_eq_getElem h0,Hn.out,Int.natCast_inj]),HB.out.alloc HB.out.size _⟩
  ·obtain rfl:all=false:=by simpa using hall
   by_cases h0:i<ks.length
   ·obtain⟨n,hn⟩:=SK H.out h0;have Hn:=hide hn;clear hn hall;go_enter Tryz.func285,Tryz.ntmps285
    go_wp2_with(first
     | (go_at_call 283;refine(Dn H.out _).mono ?_;rintro e w1 ⟨A,c,rfl,hrd,hB⟩;have HB:=hide hB;clear hB;obtain⟨b,o,rfl,hc⟩:=hrd.at_ (j:=i) (by simpa using h0);simp only[List.getElem_map,Hn.out]at hc;have hb:=block_lt_of_cell hc;clear hrd)
     | (go_at_call 298;refine(uS k n _).mono ?_;rintro e w2 ⟨⟨b2,rfl,hb2⟩,rfl⟩;have Hb:=hide hb2;clear hb2))
    go_ret;exact⟨ag.mk (by rw[Hb.out,MZ H.out];simp[List.getElem?_eq_getElem h0,Hn.out,Int.natCast_inj]),HB.out.alloc HB.out.size _⟩
   ·clear hall;go_enter Tryz.func285,Tryz.ntmps285
    go_wp2_with(go_at_call 283;refine(Dn H.out _).mono ?_;rintro e w1 ⟨A,c,rfl,hrd,hB⟩;have HB:=hide hB;clear hB;have Rx:=hide hrd;clear hrd)
    go_ret;refine⟨ag.no ?_,HB.out.alloc HB.out.size _⟩;rw[MZ H.out];simp[List.getElem?_eq_none (by omega:ks.length≤i)]
end
end Go.Proofs.YtjjaojnglnpgaaaGreatDoor
