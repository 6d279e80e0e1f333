/- Part 21 of what scriptBack_cardUpto rests on. -/
import Derived.Test.YtjjaojnglnpgaaaGreatDoorProg
import Derived.Deep.CutBlock
import Derived.Deep.DeepCutAuto
import Derived.Deep.RegionHeld
import Derived.Test.YtjjaojnglnpgaaaGreatDoorY11
import Derived.Test.YtjjaojnglnpgaaaGreatDoorY12
import Derived.Test.YtjjaojnglnpgaaaGreatDoorY05
import Derived.Test.YtjjaojnglnpgaaaGreatDoorY01
import Derived.Test.YtjjaojnglnpgaaaGreatDoorY10
import Derived.Test.YtjjaojnglnpgaaaGreatDoorY00
set_option linter.unusedVariables false
set_option linter.unusedSimpArgs false
set_option maxHeartbeats 16000000
set_option maxRecDepth 1000000
namespace Go.Proofs.YtjjaojnglnpgaaaGreatDoor
section
open Go.RowKit
section
variable {B rb : Nat} {w w' : World} {l : List UInt8} {bd : Bool}
end
end
section
open Go.RowKit
def dG(l:List UInt8):Prop:=∃q:Pt,dn q∧bV q∧l=dX q
theorem qZ :∀{f:Fo} {m p i:Nat},gy m p i f→f.high≤m:=by
 intro f
 induction f with
 | nil=>intro m p i _;simp[Fo.high]
 | cons k t n ks r ihk ihr =>
  rintro m p i ⟨_,h1,_,h2,_,h3⟩;have a:=ihk h2;have b:=ihr h3;simp only[Fo.high];omega
theorem Hu{f:Fo}(h:bU f):f.high≤40:=by
 match f,h with
 | .cons k t n ks .nil,h =>
  obtain⟨h1,_,h2,_⟩:=h;have:=qZ h2;simp only[Fo.high];omega
theorem TS{e:Ed}(h:eY e):e.old.high+0≤40∧e.new.high+0≤40:=by
 obtain⟨_,h|h|h|h|h⟩:=h
 ·obtain⟨_,_,_,h1,h2,_⟩:=h;simp[h1,h2,Fo.high]
 ·obtain⟨_,_,_,_,h1,_,h2⟩:=h;have:=Hu h2;simp[h1,Fo.high];omega
 ·obtain⟨_,_,_,_,h1,_,h2⟩:=h;have:=Hu h2;simp[h1,Fo.high];omega
 ·obtain⟨_,_,_,_,_,_,h1,h2,_⟩:=h;have:=Hu h1;have:=Hu h2;omega
 ·obtain⟨_,_,_,h1,_,_,_,h2⟩:=h;have:=Hu h2;simp[h1,Fo.high];omega
theorem Bv{S:Nat→Prop}{w:World}:gW S w ⟨none,0,none,0⟩ Hk.zero∧dD S w ⟨none,0,none,0,none,0⟩ Ed.zero :=
  ⟨⟨by simp[ay,Hk.zero],⟨.inl rfl,by simp[Hk.zero],by simp[Hk.zero]⟩,⟨.inl rfl,by simp[Hk.zero],by simp[Hk.zero]⟩,by simp[Hk.zero],by simp[Hk.zero]⟩,
   ⟨by simp[Ed.zero],⟨.inl rfl,by simp[Ed.zero],by simp[Ed.zero]⟩,by simp[ay,Ed.zero],by simp[ay,Ed.zero],Nat.zero_le _,Nat.zero_le _,trivial,trivial,by simp[Ed.zero],by simp[Ed.zero,Fo.len],by simp[Ed.zero,Fo.len]⟩⟩
theorem sU:Aq Hk.zero∧jS Ed.zero :=
  ⟨⟨by simp[aT,Hk.zero],⟨by simp[Hk.zero],by simp[Hk.zero]⟩,⟨by simp[Hk.zero],by simp[Hk.zero]⟩⟩,
   ⟨by simp[Ed.zero],⟨by simp[Ed.zero],by simp[Ed.zero]⟩,by simp[aT,Ed.zero],by simp[aT,Ed.zero],Nat.zero_le _,Nat.zero_le _,⟨trivial,by simp[Ed.zero,Fo.len]⟩,⟨trivial,by simp[Ed.zero,Fo.len]⟩⟩⟩
theorem pR:Ed.zero.frm.size+Ed.zero.to.size≤9223372036854775807:=by decide
theorem rq :¬dG []:=by
 rintro⟨q,_,_,he⟩;simp[dX]at he
theorem TT{x:UInt8}{l1:List UInt8}(h:dG (x::l1)):∃(q:Pt),dn q∧bV q∧q.kind=x.toNat∧l1=aP q.file++(if x.toNat=3 then au q.hunk.at_++(bC q.hunk.old++bC q.hunk.new)else if x.toNat=4 then gV q.edit else aP q.text):=by
 obtain⟨q,hf,ho,he⟩:=h;simp only[dX,List.cons.injEq]at he;obtain⟨h0,h1⟩:=he;have hk:q.kind=x.toNat:=by
  have:=congrArg UInt8.toNat h0;rw[Jn]at this;have:=hf.kind;omega
 rw[hk]at h1;exact⟨q,hf,ho,hk,h1⟩
theorem Ot{x:UInt8}{l1:List UInt8}(h :¬jm l1):¬dG (x::l1):=by
 intro hp;obtain⟨q,hf,_,_,he⟩:=TT hp;exact h ⟨q.file,_,hf.file,he⟩
theorem Hy{x:UInt8}{f:ByteArray}{l2:List UInt8}(h1:f.size≤aU)(hp:dG (x::(aP f++l2))):
  ∃(q:Pt),dn q∧bV q∧q.kind=x.toNat∧l2=(if x.toNat=3 then au q.hunk.at_++(bC q.hunk.old++bC q.hunk.new)else if x.toNat=4 then gV q.edit else aP q.text):=by
 obtain⟨q,hf,ho,hk,he⟩:=TT hp;exact⟨q,hf,ho,hk,(mO h1 hf.file he).2⟩
theorem wu{x:UInt8}{f:ByteArray}{l2:List UInt8}(hx:x.toNat=3)(h1:f.size≤aU)(h:l2.length<8):¬dG (x::(aP f++l2)):=by
 intro hp;obtain⟨q,hf,_,_,he⟩:=Hy h1 hp;rw[if_pos hx]at he;rw[he,aJ,fD]at h;omega
theorem wz{x:UInt8}{f:ByteArray}{a:Int}{l2:List UInt8}(hx:x.toNat=3)(h1:f.size≤aU)(h2:aT a)(h :¬jG aP (fun s=>s.size≤aU) l2):¬dG (x::(aP f++(au a++l2))):=by
 intro hp;obtain⟨q,hf,_,_,he⟩:=Hy h1 hp;rw[if_pos hx]at he;obtain⟨_,he⟩:=jg h2 hf.hunk.at_ he;exact h ⟨q.hunk.old,_,hf.hunk.old.1,hf.hunk.old.2,he⟩
theorem wB{x:UInt8}{f:ByteArray}{a:Int}{o:List ByteArray}{l2:List UInt8}(hx:x.toNat=3)(h1:f.size≤aU)(h2:aT a)(h3:gz o)(h :¬jG aP (fun s=>s.size≤aU) l2):¬dG (x::(aP f++(au a++(bC o++l2)))):=by
 intro hp;obtain⟨q,hf,_,_,he⟩:=Hy h1 hp;rw[if_pos hx]at he;obtain⟨_,he⟩:=jg h2 hf.hunk.at_ he;obtain⟨_,he⟩:=Lp h3 hf.hunk.old he;exact h ⟨q.hunk.new,[],hf.hunk.new.1,hf.hunk.new.2,by rw[List.append_nil];exact he⟩
theorem wC{x:UInt8}{f:ByteArray}{l2:List UInt8}(hx:x.toNat=4)(h1:f.size≤aU)(h :¬kE 0 l2):¬dG (x::(aP f++l2)):=by
 intro hp;obtain⟨q,hf,ho,hk,he⟩:=Hy h1 hp;rw[if_neg (by omega),if_pos hx]at he;obtain⟨_,⟨hk2,_⟩|⟨hk2,_⟩|⟨hk2,_,_,TU⟩⟩:=ho
 ·omega
 ·omega
 ·exact h ⟨q.edit,[],hf.edit,(TS TU).1,(TS TU).2,by rw[List.append_nil];exact he⟩
theorem wE{x:UInt8}{f:ByteArray}{l2:List UInt8}(hx3 :¬x.toNat=3)(hx4 :¬x.toNat=4)(h1:f.size≤aU)(h :¬jm l2):¬dG (x::(aP f++l2)):=by
 intro hp;obtain⟨q,hf,_,_,he⟩:=Hy h1 hp;rw[if_neg hx3,if_neg hx4]at he;exact h ⟨q.text,[],hf.text,by rw[List.append_nil];exact he⟩
theorem Ou{p:Pt}{r:List UInt8}(hf:dn p)(hb:Bare p)(hr :¬r=[]):¬dG (dX p++r):=by
 rintro⟨q,hq,ho,he⟩;exact hr (Jq hf hq hb ho.bare (y:=[]) (by rw[List.append_nil];exact he)).2
theorem Ov{p:Pt}(hf:dn p)(hb:Bare p)(hr :¬bV p):¬dG (dX p):=by
 rintro⟨q,hq,ho,he⟩;have:=(Jq hf hq hb ho.bare (x:=[]) (y:=[]) (by rw[List.append_nil,List.append_nil];exact he)).1;exact hr (this▸ho)
def jd(rb:Nat)(w:World)(l:List UInt8)(e1:Ending)(w':World):Prop :=
 (∃(p:Pt) (x:Ph),l=dX p∧dn p∧bV p∧e1 = .returned (.agg #[.int .u8 p.kind,.string p.file,.string p.text,.int .i64 p.hunk.at_,.slice x.h.oA p.hunk.old.length x.h.oc,.slice x.h.nA p.hunk.new.length x.h.nc,.int .u8 p.edit.kind,.slice x.e.pA p.edit.path.length x.e.pc,.int .i64 p.edit.at_,.int .i64 p.edit.far,.string p.edit.frm,.string p.edit.to,.slice x.e.oA p.edit.old.len x.e.oc,.slice x.e.nA p.edit.new.len x.e.nc])∧aV (fun b=>w.heap.size<b) w' x p∧Side rb w w'∧∃L,fQ w' x p L∧L.Nodup∧∀b∈L,w.heap.size<b)∨
 (¬dG l∧e1=iW∧Side rb w w')
theorem zq{N k:Nat}{f t:ByteArray}{w5 w6 wF:World}{x:Hh}{h:Hk}{L5 L6:List Nat}(o5:fH 9 w5 x.oA x.oc h.old.length (h.old.map .string) L5)(o6:fH 9 w6 x.nA x.nc h.new.length (h.new.map .string) L6)
  (m5 :∀b∈L5,N<b) (m6 :∀b∈L6,w5.heap.size≤b) (Yc:Late N w5 wF) (Yd:Late N w6 wF) (hN:N<w5.heap.size):
  ∃L,fQ wF ⟨x,⟨none,0,none,0,none,0⟩⟩ ⟨k,f,t,h,Ed.zero⟩ L∧L.Nodup∧∀b∈L,N<b:=by
 have q6 :∀b∈L6,N<b:=fun b hb=>aH hN (m6 b hb);refine⟨L5++L6,fQ.hunk ⟨L5,L6,o5.keep fun b hb=>Yc.block b ⟨m5 b hb,o5.lt b hb⟩,o6.keep fun b hb=>Yd.block b ⟨q6 b hb,o6.lt b hb⟩,rfl⟩,FV o5.nodup o6.nodup o5.lt m6,fun b hb=>?_⟩;rcases List.mem_append.1 hb with hb|hb
 ·exact m5 b hb
 ·exact q6 b hb
theorem zt{N k:Nat}{f t:ByteArray}{w4 wF:World}{x:Eh}{e:Ed}{L:List Nat}(h:mf w4 x e L∧L.Nodup∧∀b∈L,N<b)(hF:Late N w4 wF):∃L,fQ wF ⟨⟨none,0,none,0⟩,x⟩ ⟨k,f,t,Hk.zero,e⟩ L∧L.Nodup∧∀b∈L,N<b :=
 ⟨L,fQ.edit (h.1.keep fun b hb=>hF.block b ⟨h.2.2 b hb,h.1.lt b hb⟩),h.2⟩
theorem Side.below0{rb:Nat}{w0 w w':World}(hs:Side rb w w')(hB:Below w0.heap.size w0 w)(hrb:w0.heap.size≤rb):Below w0.heap.size w0 w' :=
 hB.trans ⟨hs.os,hs.tape,hs.output,hs.size,fun k hk=>hs.block k ⟨aH hk hB.size,by omega⟩⟩
end
end Go.Proofs.YtjjaojnglnpgaaaGreatDoor
