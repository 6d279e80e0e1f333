/- Part 30 of what scriptBack_cardUpto rests on. -/
import Derived.Deep.CutBlock
import Derived.Test.YtjjaojnglnpgaaaGreatDoorProg
import Derived.Test.YtjjaojnglnpgaaaGreatDoorY04
import Derived.Test.YtjjaojnglnpgaaaGreatDoorY05
import Derived.Test.YtjjaojnglnpgaaaGreatDoorY20
import Derived.Test.YtjjaojnglnpgaaaGreatDoorY11
import Derived.Test.YtjjaojnglnpgaaaGreatDoorY21
import Derived.Test.YtjjaojnglnpgaaaGreatDoorY26
import Derived.Test.YtjjaojnglnpgaaaGreatDoorY08
import Derived.Test.YtjjaojnglnpgaaaGreatDoorY03
import Derived.Test.YtjjaojnglnpgaaaGreatDoorY15
import Derived.Test.YtjjaojnglnpgaaaGreatDoorY01
import Derived.Test.YtjjaojnglnpgaaaGreatDoorY27
import Derived.Test.YtjjaojnglnpgaaaGreatDoorY24
import Derived.Test.YtjjaojnglnpgaaaGreatDoorY28
import Derived.Test.YtjjaojnglnpgaaaGreatDoorY25
import Derived.Test.YtjjaojnglnpgaaaGreatDoorY22
import Derived.Test.YtjjaojnglnpgaaaGreatDoorY23
import Derived.Test.YtjjaojnglnpgaaaGreatDoorY00
set_option linter.unusedVariables false
set_option linter.unusedSimpArgs false
set_option maxHeartbeats 16000000
set_option maxRecDepth 1000000
namespace Go.Proofs.YtjjaojnglnpgaaaGreatDoor
section
open Go.RowKit Go.ChangeShapes Go.WideShapes
section
variable {P : Program} {H : Type} {enc : TypeId × Value → H} {w : World} {spare : Nat → Bool} {held : Bool} {t e : TypeId} {fuel : Nat} {cs : List Value} {x : DataW H × List MemPlace}
theorem rC(ht:P.underlying t=some (.slice e))(he:P.underlying e=some (.int .u8))(hc:P.cellsOf e=1)(h:DataW.trod enc P w 0 spare held fuel t cs=some x):
  ∃A l c,cs=[.slice A l.length c]∧BytesIn (fun _=>True) w A l∧l.length≤c∧c≤9223372036854775807∧l.length≤Rows.uptoBulk x.1:=by
 rcases open_ints ht he hc h with⟨rfl,rfl⟩|⟨a,len,cap,ss,rfl,_,hl,hm,hss,rfl,hcell,hsz⟩
 ·exact⟨none,[],0,rfl,⟨.inl rfl,by simp⟩,by simp,by simp,by simp⟩
 ·have hle:len≤ss.length:=by rw[hss];split<;>omega
  have hm':cap≤9223372036854775807:=by unfold maxLen at hm;omega
  have hlen:((ss.take len).map fun z=>UInt8.ofNat z.toNat).length=len:=by simp;omega
  refine⟨some a,(ss.take len).map fun z=>UInt8.ofNat z.toNat,cap,by rw[hlen],⟨mY ?_,by omega⟩,by omega,hm',by
   have h1:=LY (H:=H) (k:= .u8) (ss.take len);have h2:=FI (H:=H) (lits .u8 (ss.take len)) (lits .u8 (ss.drop len));exact aI (aI (Nat.le_of_eq (List.length_map _)) h1) (Nat.le_of_succ_le h2)⟩
  intro i u hu;have hi:i<len:=by have:=(List.getElem?_eq_some_iff.1 hu).1;simp[bytesV]at this;omega
  have h1:=hcell i (by omega);rw[h1];have h2:ss[i]?=some ss[i]:=by simp[show i<ss.length by omega]
  obtain⟨z,hz,hz2⟩:=wf_u8 (hsz ss[i] (List.getElem_mem _));simp only[bytesV,List.map_map,List.getElem?_map,List.getElem?_take,if_pos hi,h2,Option.map_some,Option.some.injEq,Function.comp]at hu;rw[←hu,List.getD,h2];have h6:((UInt8.ofNat ss[i].toNat).toNat:Int)=ss[i]:=by
   rw[hz,Int.toNat_natCast,UInt8.toNat_ofNat'];omega
  simp only[Option.getD_some,h6]
end
theorem Ib:Tryz.prog.cellsOf 44=1:=by kernel_rfl
section
variable {H : Type} {enc : TypeId × Value → H} {w : World} {spare : Nat → Bool} {held : Bool}
end
end
section
open Go.RowKit
section
variable {E : TypeId} {mk : Nat → Nat → Value} {B K : Nat} {vs : Nat → Value} {ns m m' : Nat → Nat} {T : Nat → Option Nat} {w w' : World}
end
end
section
open Go.RowKit
section
variable {mk : Nat → Nat → Value} {E E2 : TypeId} {w wr w' : World} {LB GB K B : Nat} {vs : Nat → Value} {ns p : Nat → Nat} {T0 T : Nat → Option Nat} {xs : List Value} {J : Nat → Prop}
end
end
section
open Go.RowKit
theorem Kz:(Tryz.prog.info? 9).map (fun i=>(i.zero,i.size,i.bytes))=some (some (.string ByteArray.empty),1,16):=by kernel_rfl
structure dI(w wx:World)(P R:Nat)(cs:List Value)(ps:List ByteArray)(r:Bool):Prop where
 below:Below w.heap.size w wx
 box:wx.rangeAt w.heap.size 0 cs
 parts :∃v,wx.cell? ⟨P,0,none⟩=some v∧wx.ownsRow (w.heap.size+1) 9 1 v ps.length (ps.map .string)∧∀g∈ob v,g≠P∧g≠R
 pf:wx.frozen? ⟨P,0,none⟩=false
 right:wx.cell? ⟨R,0,none⟩=some (.bool r)
 rf:wx.frozen? ⟨R,0,none⟩=false
 ne:P≠R
 lp:w.heap.size<P
 lr:w.heap.size<R
section
variable {w wx w' : World} {P R : Nat} {cs : List Value} {ps : List ByteArray} {r : Bool}
theorem dI.lt(h:dI w wx P R cs ps r):w.heap.size<wx.heap.size:=Nat.lt_trans h.lp (by obtain⟨v,hv,_⟩:=h.parts;exact block_lt_of_cell hv)
theorem dI.next(h:dI w wx P R cs ps r)(hb:Below wx.heap.size wx w'):dI w w' P R cs ps r:=by
 obtain⟨v,h1,h2,h3⟩:=h.parts;exact⟨h.below.trans (hb.mono (Nat.le_of_lt h.lt)),fun j u hu=>(hb.cell (p:=⟨w.heap.size,0+j,none⟩) h.lt).trans (h.box j u hu),
  ⟨v,(hb.cell (p:=⟨P,0,none⟩) (block_lt_of_cell h1)).trans h1,zap h2 fun b hb'=>hb.block b (zag h2 b hb').2,h3⟩,(hb.frozen (p:=⟨P,0,none⟩) (block_lt_of_cell h1)).trans h.pf,
  (hb.cell (p:=⟨R,0,none⟩) (block_lt_of_cell h.right)).trans h.right,(hb.frozen (p:=⟨R,0,none⟩) (block_lt_of_cell h.right)).trans h.rf,h.ne,h.lp,h.lr⟩
theorem dI.setR(h:dI w wx P R cs ps r)(q:Bool):dI w (wx.setCell ⟨R,0,none⟩ (.bool q)) P R cs ps q:=by
 obtain⟨v,h1,h2,h3⟩:=h.parts;have hlr:=h.lr;exact⟨h.below.setCell (p:=⟨R,0,none⟩) (Nat.le_of_lt h.lr) _,Tu h.box _ (by omega),
  ⟨v,(World.cell?_setCell_other _ _ _ _ (by intro e;injection e with e;exact h.ne e.symm)).trans h1,zap h2 fun b hb'=>Below.heap_setCell _ _ _ _ (h3 b hb').2,h3⟩,
  (World.frozen?_setCell _ _ _ _).trans h.pf,World.cell?_setCell_same _ _ _ h.right,(World.frozen?_setCell _ _ _ _).trans h.rf,h.ne,h.lp,h.lr⟩
theorem dI.app{wa wg:World}{v v':Value}{s:ByteArray}(h:dI w wa P R cs ps r)(hv:wa.cell? ⟨P,0,none⟩=some v)(ho:wg.ownsRow (w.heap.size+1) 9 1 v' (ps.length+1) (ps.map .string++[.string s]))(hg:wa.grownBy wg v.ownBlock)(hw:jL wa wg v v' ps.length 1):
  dI w (wg.setCell ⟨P,0,none⟩ v') P R cs (ps++[s]) r∧wg.cell? ⟨P,0,none⟩=some v∧wg.frozen? ⟨P,0,none⟩=false:=by
 obtain⟨v0,h1,h2,h3⟩:=h.parts;rw[hv]at h1;injection h1 with h1;subst h1;have hP:P<wa.heap.size:=block_lt_of_cell hv;have hR:R<wa.heap.size:=block_lt_of_cell h.right;have nP:some P≠v.ownBlock:=fun e=>(h3 P (iV.2 e.symm)).1 rfl;have nR:some R≠v.ownBlock:=fun e=>(h3 R (iV.2 e.symm)).2 rfl;have cP:wg.cell? ⟨P,0,none⟩=some v:=(World.cell?_of_block (a:=⟨P,0,none⟩) (hg.block P hP nP)).trans hv;have fP:wg.frozen? ⟨P,0,none⟩=false:=(World.frozen?_of_block (a:=⟨P,0,none⟩) (hg.block P hP nP)).trans h.pf;have cR:wg.cell? ⟨R,0,none⟩=some (.bool r):=(World.cell?_of_block (a:=⟨R,0,none⟩) (hg.block R hR nR)).trans h.right;have fR:wg.frozen? ⟨R,0,none⟩=false:=(World.frozen?_of_block (a:=⟨R,0,none⟩) (hg.block R hR nR)).trans h.rf;have hl:=h.lt;have hlp:=h.lp;have nW:some w.heap.size≠v.ownBlock:=fun e=>by have:=(zag h2 _ (iV.2 e.symm)).1;omega
 have hne :∀g∈ob v',g≠P∧g≠R:=fun g hg'=>by
  rcases hw with⟨A,c,e1,e2⟩|⟨h,_⟩
  ·rw[e2,J3 A (ps.length+1) ps.length c,←e1]at hg';exact h3 g hg'
  ·rw[ob,h]at hg';simp at hg';omega
 refine⟨⟨?_,?_,?_,(World.frozen?_setCell _ _ _ _).trans fP,(World.cell?_setCell_other _ _ _ _ (by intro e;injection e with e;exact h.ne e)).trans cR,(World.frozen?_setCell _ _ _ _).trans fR,h.ne,h.lp,h.lr⟩,cP,fP⟩
 ·exact((h.below.grown hg (Nat.le_of_lt hl) fun k hk=>by have:=(zag h2 k (iV.2 hk)).1;omega)).setCell (p:=⟨P,0,none⟩) (Nat.le_of_lt h.lp) _
 ·exact Tu (fun j u hu=>(World.cell?_of_block (a:=⟨w.heap.size,0+j,none⟩) (hg.block _ hl nW)).trans (h.box j u hu)) _ (by omega)
 ·refine⟨v',World.cell?_setCell_same _ _ _ cP,?_,hne⟩;rw[aJ,List.map_append];exact zap ho fun b hb'=>Below.heap_setCell _ _ _ _ (hne b hb').1
end
theorem rD{w wx:World}{P R:Nat}{cs:List Value}{ps:List ByteArray}{r:Bool}{s:ByteArray}(h:dI w wx P R cs ps r)(hn:ps.length≤100):
  Calls Tryz.prog 44 #[.bool true,.string s,.pointer (some ⟨P,0,none⟩),.pointer (some ⟨R,0,none⟩)] wx fun e w'=>e = .returned (.tuple #[])∧dI w w' P R cs (ps++[s]) (r && isWord s):=by
 obtain⟨v,hv,ho,_⟩:=h.parts;obtain⟨A,c,rfl⟩:=iw ho;have H:=hide h;have Ho:=hide ho;have hlt:=h.lt;clear h ho;go_enter Tryz.func44,Tryz.ntmps44
 go_upto_region 2 with(at_builtin;refine BQ rfl _ _ 34 rfl (w.heap.size+1) 9 Tryz.underlying34 Kz rfl (by decide) _ ps.length (ps.map .string) rfl (Ho.out.alloc _) (some ⟨wx.heap.size,0,none⟩) 1 1 [.string s] rfl (by simp) rfl (fun ad e=>by injection e with e;subst e;intro j u hu;rw[Addr.add_lit,Nat.zero_add,Lib.cell_of_heap (heap_alloc_new wx _)];simpa using hu) (by intro u hu;simp at hu;subst hu;rfl) (by unfold maxLen;omega) (by omega) (by simp;omega) ?_;intro v1 w4 h4 hg4 hw4;obtain⟨A1,c1,rfl⟩:=iw h4;have hX:=(H.out.next (az wx _)).app ((az wx _).cell (p:=⟨P,0,none⟩) (block_lt_of_cell hv)|>.trans hv) h4 hg4 hw4;have c4:=hX.2.1;have f4:=hX.2.2;have HX:=hide hX.1;clear h4 hg4 hw4 hX)
 generalize w4.setCell ⟨P,0,none⟩ (.slice A1 (ps.length+1) c1)=V at HX⊢;have hr:=HX.out.right;have hf:=HX.out.rf;clear c4 f4;rcases r with _|_
 ·go_wp2_with fail
  all_goals go_end0
  exact⟨rfl,HX.out.setR false⟩
 ·rcases hw:isWord s with _|_
  all_goals
   go_wp2_with(go_at_call 42;(with_reducible refine(CB _ _).mono ?_);rintro e1 w1 ⟨rfl,rfl⟩;rw[hw])
   all_goals go_end0
   exact⟨rfl,by rw[hw];exact HX.out.setR _⟩
theorem OA{w wx:World}{P R:Nat}{cs:List Value}{ps:List ByteArray}{r:Bool}{s:ByteArray}(b:Bool)(h:dI w wx P R cs ps r)(hn:ps.length≤100):
  Calls Tryz.prog 44 #[.bool b,.string s,.pointer (some ⟨P,0,none⟩),.pointer (some ⟨R,0,none⟩)] wx fun e w'=>e = .returned (.tuple #[])∧dI w w' P R cs (if b then ps++[s]else ps) (if b then r && isWord s else r && decide (s.size=0)):=by
 rcases b with _|_
 ·refine(vX h.right h.rf).mono ?_;rintro e w' ⟨rfl,rfl⟩;exact⟨rfl,h.setR _⟩
 ·exact rD h hn
end
section
open Go.RowKit
theorem Ui{f:Fo}(h:bU f):∃k t n ks,f = .cons k t n ks .nil∧fE 40 k t n ks:=by
 match f,h with
 | .cons k t n ks .nil,h=>exact⟨k,t,n,ks,rfl,h⟩
theorem Yy{S:Nat→Prop}{x:Eh}{e:Ed}{w:World}(he:dD S w x e)(htab:ax w)(hsum:e.frm.size+e.to.size≤9223372036854775807):
  Calls Tryz.prog 173 #[.agg #[.int .u8 e.kind,.slice x.pA e.path.length x.pc,.int .i64 e.at_,.int .i64 e.far,.string e.frm,.string e.to,.slice x.oA e.old.len x.oc,.slice x.nA e.new.len x.nc]] w fun e1 w'=>ag (eY e) e1∧Below w.heap.size w w':=by
 have hkk:=he.kind;obtain⟨kd,path,at_,far,frm,ni,old,new⟩:=e;simp only at hsum hkk;by_cases h1:kd=1
 ·subst h1;exact ry he htab hsum
 by_cases h2:kd=2
 ·subst h2;by_cases hq:frm=ae∧ni=ae
  ·obtain⟨rfl,rfl⟩:=hq;exact Ox (.inl ⟨rfl,rfl⟩) he htab hsum rfl rfl
  ·exact Kw (.inl ⟨rfl,rfl⟩) he htab hsum hq
 by_cases h3:kd=3
 ·subst h3;by_cases hq:frm=ae∧ni=ae
  ·obtain⟨rfl,rfl⟩:=hq;exact Ox (.inr (.inl ⟨rfl,rfl⟩)) he htab hsum rfl rfl
  ·exact Kw (.inr (.inl ⟨rfl,rfl⟩)) he htab hsum hq
 by_cases h5:kd=5
 ·subst h5;by_cases hq:frm=ae∧ni=ae
  ·obtain⟨rfl,rfl⟩:=hq;exact Ox (.inr (.inr ⟨rfl,rfl⟩)) he htab hsum rfl rfl
  ·exact Kw (.inr (.inr (.inl ⟨rfl,rfl⟩))) he htab hsum hq
 by_cases h4:kd=4
 ·subst h4;by_cases hq:frm=ae∧ni=ae
  ·obtain⟨rfl,rfl⟩:=hq;by_cases hp:bU old∧bU new∧at_=0∧far=0
   ·obtain⟨hp1,hp2,rfl,rfl⟩:=hp;obtain⟨k,t,n,ks,rfl,g1⟩:=Ui hp1;obtain⟨k2,t2,n2,DF,rfl,g2⟩:=Ui hp2;exact Yx he.path he.oc he.nc he.old he.new g1 g2 htab
   ·exact Yo he htab hsum rfl rfl hp
  ·exact Kw (.inr (.inr (.inr ⟨rfl,rfl⟩))) he htab hsum hq
 by_cases hq:frm=ae∧ni=ae
 ·obtain⟨rfl,rfl⟩:=hq;exact Ym he htab hsum rfl rfl (by simp only;omega) (by simp only;omega) (by simp only;omega) (by simp only;omega) (by simp only;omega)
 ·exact Yn he htab hsum hq (by simp only;omega) (by simp only;omega) (by simp only;omega) (by simp only;omega) (by simp only;omega)
theorem Yz{S:Nat→Prop}{x:Ph}{p:Pt}{w:World}(hp:aV S w x p)(htab:ax w)(hsum:p.edit.frm.size+p.edit.to.size≤9223372036854775807):
  Calls Tryz.prog 114 #[.agg #[.int .u8 4,.string p.file,.string p.text,.int .i64 p.hunk.at_,.slice x.h.oA p.hunk.old.length x.h.oc,.slice x.h.nA p.hunk.new.length x.h.nc,.int .u8 p.edit.kind,.slice x.e.pA p.edit.path.length x.e.pc,.int .i64 p.edit.at_,.int .i64 p.edit.far,.string p.edit.frm,.string p.edit.to,.slice x.e.oA p.edit.old.len x.e.oc,.slice x.e.nA p.edit.new.len x.e.nc]] w fun e w'=>ag (bV {p with kind:=4}) e∧Below w.heap.size w w':=by
 have Hp:=hide hp;have gp:=hp.file;have fU:=hide (@DD p);have ai:Hid (ax w):=htab;clear hp htab;go_enter Tryz.func114,Tryz.ntmps114
 go_upto_region 10 with fail
 go_region_with (go_at_call 173;(with_reducible refine(Yy (x:=x.e) (e:=p.edit) (Hp.out.edit.below (by repeat first|exact Below.refl _ _|refine Below.drew ?_|refine Below.setCell ?_ (by simp) _|refine Below.alloc ?_ (by simp) _)) (ai.out.below (by repeat first|exact Below.refl _ _|refine Below.drew ?_|refine Below.setCell ?_ (by simp) _|refine Below.alloc ?_ (by simp) _)) hsum).mono ?_);rintro e1 w1 ⟨⟨b,rfl,hb⟩,hB⟩;have Hc:=hide hb;obtain⟨hc1,hf1,hz1⟩:=aO (N:=w.heap.size) hB (by simp<;>omega);obtain⟨hc2,hf2,hz2⟩:=aO (N:=w.heap.size+1) hB (by simp<;>omega);have Hh:Hid (Has w1 (w.heap.size+1) 14):=hide (Has.of_eq (Has.new2 _ _ _ _ _ (by simp)) hc2);have ER:Hid (Below w.heap.size w w1):=hide (aZ (w:=w) (by repeat first|exact Below.refl _ _|refine Below.drew ?_|refine Below.setCell ?_ (by simp) _|refine Below.alloc ?_ (by simp) _) hB);clear hb hB)
 all_goals have g6:(w1.setCell ⟨w.heap.size+1,6,none⟩ (.int .u8 p.edit.kind)).cell? ⟨w.heap.size+1,6,none⟩=some (.int .u8 p.edit.kind):=bM (n:=14) Hh.out (by omega)
 all_goals have g7:((w1.setCell ⟨w.heap.size+1,6,none⟩ (.int .u8 p.edit.kind)).setCell ⟨w.heap.size+1,7,none⟩ (.slice x.e.pA p.edit.path.length x.e.pc)).cell? ⟨w.heap.size+1,7,none⟩=some (.slice x.e.pA p.edit.path.length x.e.pc):=bM (n:=14) (Has.set Hh.out ⟨w.heap.size+1,6,none⟩ _) (by omega)
 all_goals have g8:(((w1.setCell ⟨w.heap.size+1,6,none⟩ (.int .u8 p.edit.kind)).setCell ⟨w.heap.size+1,7,none⟩ (.slice x.e.pA p.edit.path.length x.e.pc)).setCell ⟨w.heap.size+1,8,none⟩ (.int .i64 p.edit.at_)).cell? ⟨w.heap.size+1,8,none⟩=some (.int .i64 p.edit.at_):=bM (n:=14) (Has.set (Has.set Hh.out ⟨w.heap.size+1,6,none⟩ _) ⟨w.heap.size+1,7,none⟩ _) (by omega)
 all_goals have g9:((((w1.setCell ⟨w.heap.size+1,6,none⟩ (.int .u8 p.edit.kind)).setCell ⟨w.heap.size+1,7,none⟩ (.slice x.e.pA p.edit.path.length x.e.pc)).setCell ⟨w.heap.size+1,8,none⟩ (.int .i64 p.edit.at_)).setCell ⟨w.heap.size+1,9,none⟩ (.int .i64 p.edit.far)).cell? ⟨w.heap.size+1,9,none⟩=some (.int .i64 p.edit.far):=bM (n:=14) (Has.set (Has.set (Has.set Hh.out ⟨w.heap.size+1,6,none⟩ _) ⟨w.heap.size+1,7,none⟩ _) ⟨w.heap.size+1,8,none⟩ _) (by omega)
 all_goals have g10:(((((w1.setCell ⟨w.heap.size+1,6,none⟩ (.int .u8 p.edit.kind)).setCell ⟨w.heap.size+1,7,none⟩ (.slice x.e.pA p.edit.path.length x.e.pc)).setCell ⟨w.heap.size+1,8,none⟩ (.int .i64 p.edit.at_)).setCell ⟨w.heap.size+1,9,none⟩ (.int .i64 p.edit.far)).setCell ⟨w.heap.size+1,10,none⟩ (.string p.edit.frm)).cell? ⟨w.heap.size+1,10,none⟩=some (.string p.edit.frm):=bM (n:=14) (Has.set (Has.set (Has.set (Has.set Hh.out ⟨w.heap.size+1,6,none⟩ _) ⟨w.heap.size+1,7,none⟩ _) ⟨w.heap.size+1,8,none⟩ _) ⟨w.heap.size+1,9,none⟩ _) (by omega)
 all_goals have g11:((((((w1.setCell ⟨w.heap.size+1,6,none⟩ (.int .u8 p.edit.kind)).setCell ⟨w.heap.size+1,7,none⟩ (.slice x.e.pA p.edit.path.length x.e.pc)).setCell ⟨w.heap.size+1,8,none⟩ (.int .i64 p.edit.at_)).setCell ⟨w.heap.size+1,9,none⟩ (.int .i64 p.edit.far)).setCell ⟨w.heap.size+1,10,none⟩ (.string p.edit.frm)).setCell ⟨w.heap.size+1,11,none⟩ (.string p.edit.to)).cell? ⟨w.heap.size+1,11,none⟩=some (.string p.edit.to):=bM (n:=14) (Has.set (Has.set (Has.set (Has.set (Has.set Hh.out ⟨w.heap.size+1,6,none⟩ _) ⟨w.heap.size+1,7,none⟩ _) ⟨w.heap.size+1,8,none⟩ _) ⟨w.heap.size+1,9,none⟩ _) ⟨w.heap.size+1,10,none⟩ _) (by omega)
 all_goals have g12:(((((((w1.setCell ⟨w.heap.size+1,6,none⟩ (.int .u8 p.edit.kind)).setCell ⟨w.heap.size+1,7,none⟩ (.slice x.e.pA p.edit.path.length x.e.pc)).setCell ⟨w.heap.size+1,8,none⟩ (.int .i64 p.edit.at_)).setCell ⟨w.heap.size+1,9,none⟩ (.int .i64 p.edit.far)).setCell ⟨w.heap.size+1,10,none⟩ (.string p.edit.frm)).setCell ⟨w.heap.size+1,11,none⟩ (.string p.edit.to)).setCell ⟨w.heap.size+1,12,none⟩ (.slice x.e.oA p.edit.old.len x.e.oc)).cell? ⟨w.heap.size+1,12,none⟩=some (.slice x.e.oA p.edit.old.len x.e.oc):=bM (n:=14) (Has.set (Has.set (Has.set (Has.set (Has.set (Has.set Hh.out ⟨w.heap.size+1,6,none⟩ _) ⟨w.heap.size+1,7,none⟩ _) ⟨w.heap.size+1,8,none⟩ _) ⟨w.heap.size+1,9,none⟩ _) ⟨w.heap.size+1,10,none⟩ _) ⟨w.heap.size+1,11,none⟩ _) (by omega)
 all_goals have g13:((((((((w1.setCell ⟨w.heap.size+1,6,none⟩ (.int .u8 p.edit.kind)).setCell ⟨w.heap.size+1,7,none⟩ (.slice x.e.pA p.edit.path.length x.e.pc)).setCell ⟨w.heap.size+1,8,none⟩ (.int .i64 p.edit.at_)).setCell ⟨w.heap.size+1,9,none⟩ (.int .i64 p.edit.far)).setCell ⟨w.heap.size+1,10,none⟩ (.string p.edit.frm)).setCell ⟨w.heap.size+1,11,none⟩ (.string p.edit.to)).setCell ⟨w.heap.size+1,12,none⟩ (.slice x.e.oA p.edit.old.len x.e.oc)).setCell ⟨w.heap.size+1,13,none⟩ (.slice x.e.nA p.edit.new.len x.e.nc)).cell? ⟨w.heap.size+1,13,none⟩=some (.slice x.e.nA p.edit.new.len x.e.nc):=bM (n:=14) (Has.set (Has.set (Has.set (Has.set (Has.set (Has.set (Has.set Hh.out ⟨w.heap.size+1,6,none⟩ _) ⟨w.heap.size+1,7,none⟩ _) ⟨w.heap.size+1,8,none⟩ _) ⟨w.heap.size+1,9,none⟩ _) ⟨w.heap.size+1,10,none⟩ _) ⟨w.heap.size+1,11,none⟩ _) ⟨w.heap.size+1,12,none⟩ _) (by omega)
 all_goals have DI:Hid (Below w.heap.size w ((((((((w1.setCell ⟨w.heap.size+1,6,none⟩ (.int .u8 p.edit.kind)).setCell ⟨w.heap.size+1,7,none⟩ (.slice x.e.pA p.edit.path.length x.e.pc)).setCell ⟨w.heap.size+1,8,none⟩ (.int .i64 p.edit.at_)).setCell ⟨w.heap.size+1,9,none⟩ (.int .i64 p.edit.far)).setCell ⟨w.heap.size+1,10,none⟩ (.string p.edit.frm)).setCell ⟨w.heap.size+1,11,none⟩ (.string p.edit.to)).setCell ⟨w.heap.size+1,12,none⟩ (.slice x.e.oA p.edit.old.len x.e.oc)).setCell ⟨w.heap.size+1,13,none⟩ (.slice x.e.nA p.edit.new.len x.e.nc))):=hide (Below.setCell (Below.setCell (Below.setCell (Below.setCell (Below.setCell (Below.setCell (Below.setCell (Below.setCell ER.out (p:=⟨w.heap.size+1,6,none⟩) (Nat.le_succ _) _) (p:=⟨w.heap.size+1,7,none⟩) (Nat.le_succ _) _) (p:=⟨w.heap.size+1,8,none⟩) (Nat.le_succ _) _) (p:=⟨w.heap.size+1,9,none⟩) (Nat.le_succ _) _) (p:=⟨w.heap.size+1,10,none⟩) (Nat.le_succ _) _) (p:=⟨w.heap.size+1,11,none⟩) (Nat.le_succ _) _) (p:=⟨w.heap.size+1,12,none⟩) (Nat.le_succ _) _) (p:=⟨w.heap.size+1,13,none⟩) (Nat.le_succ _) _)
 all_goals(cases b<;>go_wp2_with(first
  | (go_at_call 174;(with_reducible refine(Jz p.file _ gp).mono ?_);rintro e2 w2 ⟨⟨_|_,rfl,hb⟩,rfl⟩<;>(have Hn:=hide hb;clear hb))
  | (go_at_call 175;(with_reducible refine(Yh (Hp.out.below DI.out)).mono ?_);rintro e3 w3 ⟨⟨b3,rfl,hb⟩,hB⟩;have Hs:=hide hb;have HB:Hid (Below w.heap.size w w3):=hide (aZ (w:=w) DI.out hB);clear hb hB)))
 all_goals(go_ret;go_tidy)
 all_goals refine⟨ag.mk ?_,(by first|exact HB.out|with_reducible exact DI.out|(repeat first|exact ER.out|exact Below.refl _ _|refine Below.setCell ?_ (by simp) _|refine Below.drew ?_|refine Below.alloc ?_ (by simp) _))⟩
 all_goals rw[fU.out]
 all_goals have hc:=Hc.out
 all_goals(try have hn:=Hn.out)
 all_goals(try have hs:=Hs.out)
 all_goals(try clear hc1 hf1 hc2 hf2)
 all_goals grind
theorem KC{S:Nat→Prop}{x:Ph}{p:Pt}{w:World}(hp:aV S w x p)(htab:ax w)(hsum:p.edit.frm.size+p.edit.to.size≤9223372036854775807):
  Calls Tryz.prog 114 #[.agg #[.int .u8 p.kind,.string p.file,.string p.text,.int .i64 p.hunk.at_,.slice x.h.oA p.hunk.old.length x.h.oc,.slice x.h.nA p.hunk.new.length x.h.nc,.int .u8 p.edit.kind,.slice x.e.pA p.edit.path.length x.e.pc,.int .i64 p.edit.at_,.int .i64 p.edit.far,.string p.edit.frm,.string p.edit.to,.slice x.e.oA p.edit.old.len x.e.oc,.slice x.e.nA p.edit.new.len x.e.nc]] w
   fun e w'=>ag (bV p) e∧Below w.heap.size w w':=by
 obtain⟨kd,file,text,hunk,edit⟩:=p;by_cases h1:kd=1
 ·subst h1;exact Yi hp
 by_cases h2:kd=2
 ·subst h2;exact Yj hp
 by_cases h3:kd=3
 ·subst h3;exact Yl hp
 by_cases h4:kd=4
 ·subst h4;exact Yz hp htab hsum
 exact Yk hp (by simp only;omega) (by simp only;omega) (by simp only;omega) (by simp only;omega)
end
end Go.Proofs.YtjjaojnglnpgaaaGreatDoor
