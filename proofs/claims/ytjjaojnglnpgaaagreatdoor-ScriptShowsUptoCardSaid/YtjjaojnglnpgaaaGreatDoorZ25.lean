/- Part 26 of what scriptShows_cardUpto rests on. -/
import Derived.Deep.CutBlock
import Derived.Deep.DeepCutAuto
import Derived.Test.YtjjaojnglnpgaaaGreatDoorZ17
import Derived.Test.YtjjaojnglnpgaaaGreatDoorZ09
import Derived.Test.YtjjaojnglnpgaaaGreatDoorZ24
import Derived.Test.YtjjaojnglnpgaaaGreatDoorZ21
import Derived.Test.YtjjaojnglnpgaaaGreatDoorZ02
import Derived.Test.YtjjaojnglnpgaaaGreatDoorZ23
import Derived.Test.YtjjaojnglnpgaaaGreatDoorZ11
import Derived.Test.YtjjaojnglnpgaaaGreatDoorZ00
set_option linter.unusedVariables false
set_option linter.unusedSimpArgs false
set_option maxHeartbeats 16000000
set_option maxRecDepth 1000000
namespace Go.Proofs.YtjjaojnglnpgaaaGreatDoor
section
open Go.RowKit Go.ChangeShapes Go.WideShapes
section
variable {H : Type} {enc : TypeId × Value → H} {w : World} {spare : Nat → Bool} {held : Bool}
theorem n8 :∀n:Int,(au n).length=8:=fun n=>rfl
theorem IM(t:ByteArray):(ax t).length=8+t.size:=by
 have hs:t.data.toList.length=t.size:=rfl;simp only[ax,aJ,n8,hs]
theorem KF{m:Nat}{cs:List Value}{x:DataW H×List MemPlace}(h:DataW.trod enc Tryz.prog w 0 spare held m 36 cs=some x):
  ∃(xx:Hh) (p:Hk),cs=[.int .i64 p.at_,.slice xx.oA p.old.length xx.oc,.slice xx.nA p.new.length xx.nc]∧gB (fun _=>True) w xx p∧8+(bH p.old).length+(bH p.new).length≤40*Rows.uptoBulk x.1:=by
 obtain⟨xs,n,rfl,rfl,hl,hlen,hf⟩:=DataW.trod_struct Tryz.underlying36 h;rw[xN]at hl;obtain⟨c0,c1,c2,rfl⟩:=D9 hl;obtain⟨y0,y1,y2,rfl⟩:=D9 hlen;have f0:DataW.trod enc Tryz.prog w 0 spare held n 3 (List.take (Tryz.prog.cellsOf 3) (List.drop 0 [c0,c1,c2]))=some y0:=hf 0 _ rfl;rw[qU]at f0;have f0:DataW.trod enc Tryz.prog w 0 spare held n 3 [c0]=some y0:=f0;have f1:DataW.trod enc Tryz.prog w 0 spare held n 34 (List.take (Tryz.prog.cellsOf 34) (List.drop 1 [c0,c1,c2]))=some y1:=hf 1 _ rfl;rw[xM]at f1;have f1:DataW.trod enc Tryz.prog w 0 spare held n 34 [c1]=some y1:=f1;have f2:DataW.trod enc Tryz.prog w 0 spare held n 34 (List.take (Tryz.prog.cellsOf 34) (List.drop 2 [c0,c1,c2]))=some y2:=hf 2 _ rfl;rw[xM]at f2;have f2:DataW.trod enc Tryz.prog w 0 spare held n 34 [c2]=some y2:=f2;obtain⟨k,e0,hx0,w0⟩:=DataW.trod_int qW f0;obtain⟨A1,l1,k1,e1,g1,g2,g3,g4⟩:=qO xP jI jH f1;obtain⟨A2,l2,k2,e2,i1,i2,i3,i4⟩:=qO xP jI jH f2;injection e0 with e0;injection e1 with e1;injection e2 with e2;subst e0 e1 e2 hx0;refine⟨⟨A1,k1,A2,k2⟩,⟨k,l1,l2⟩,rfl,⟨JJ w0,g1,i1,⟨g2,g3⟩,⟨i2,i3⟩⟩,?_⟩;simp only[List.map_cons,List.map_nil,Rows.uptoBulk,Rows.uptoBulkAll]at g4 i4⊢;omega
theorem KG{m:Nat}{cs:List Value}{x:DataW H×List MemPlace}(h:DataW.trod enc Tryz.prog w 0 spare held m 41 cs=some x):
  ∃(xx:Eh) (p:Ed),cs=[.int .u8 p.kind,.slice xx.pA p.path.length xx.pc,.int .i64 p.at_,.int .i64 p.far,.string p.frm,.string p.to,.slice xx.oA p.old.len xx.oc,.slice xx.nA p.new.len xx.nc]∧dm (fun _=>True) w xx p∧
   (jg p).length≤40*Rows.uptoBulk x.1∧p.frm.size+p.to.size≤Rows.uptoBulk x.1:=by
 obtain⟨xs,n,rfl,rfl,hl,hlen,hf⟩:=DataW.trod_struct Tryz.underlying41 h;rw[xO]at hl;obtain⟨c0,c1,c2,c3,c4,c5,c6,c7,rfl⟩:=Ea hl;obtain⟨y0,y1,y2,y3,y4,y5,y6,y7,rfl⟩:=Ea hlen;have f0:DataW.trod enc Tryz.prog w 0 spare held n 37 (List.take (Tryz.prog.cellsOf 37) (List.drop 0 [c0,c1,c2,c3,c4,c5,c6,c7]))=some y0:=hf 0 _ rfl;rw[Qy]at f0;have f0:DataW.trod enc Tryz.prog w 0 spare held n 37 [c0]=some y0:=f0;have f1:DataW.trod enc Tryz.prog w 0 spare held n 38 (List.take (Tryz.prog.cellsOf 38) (List.drop 1 [c0,c1,c2,c3,c4,c5,c6,c7]))=some y1:=hf 1 _ rfl;rw[FQ]at f1;have f1:DataW.trod enc Tryz.prog w 0 spare held n 38 [c1]=some y1:=f1;have f2:DataW.trod enc Tryz.prog w 0 spare held n 3 (List.take (Tryz.prog.cellsOf 3) (List.drop 2 [c0,c1,c2,c3,c4,c5,c6,c7]))=some y2:=hf 2 _ rfl;rw[qU]at f2;have f2:DataW.trod enc Tryz.prog w 0 spare held n 3 [c2]=some y2:=f2;have f3:DataW.trod enc Tryz.prog w 0 spare held n 3 (List.take (Tryz.prog.cellsOf 3) (List.drop 3 [c0,c1,c2,c3,c4,c5,c6,c7]))=some y3:=hf 3 _ rfl;rw[qU]at f3;have f3:DataW.trod enc Tryz.prog w 0 spare held n 3 [c3]=some y3:=f3;have f4:DataW.trod enc Tryz.prog w 0 spare held n 9 (List.take (Tryz.prog.cellsOf 9) (List.drop 4 [c0,c1,c2,c3,c4,c5,c6,c7]))=some y4:=hf 4 _ rfl;rw[jH]at f4;have f4:DataW.trod enc Tryz.prog w 0 spare held n 9 [c4]=some y4:=f4;have f5:DataW.trod enc Tryz.prog w 0 spare held n 9 (List.take (Tryz.prog.cellsOf 9) (List.drop 5 [c0,c1,c2,c3,c4,c5,c6,c7]))=some y5:=hf 5 _ rfl;rw[jH]at f5;have f5:DataW.trod enc Tryz.prog w 0 spare held n 9 [c5]=some y5:=f5;have f6:DataW.trod enc Tryz.prog w 0 spare held n 39 (List.take (Tryz.prog.cellsOf 39) (List.drop 6 [c0,c1,c2,c3,c4,c5,c6,c7]))=some y6:=hf 6 _ rfl;rw[Qx]at f6;have f6:DataW.trod enc Tryz.prog w 0 spare held n 39 [c6]=some y6:=f6;have f7:DataW.trod enc Tryz.prog w 0 spare held n 39 (List.take (Tryz.prog.cellsOf 39) (List.drop 7 [c0,c1,c2,c3,c4,c5,c6,c7]))=some y7:=hf 7 _ rfl;rw[Qx]at f7;have f7:DataW.trod enc Tryz.prog w 0 spare held n 39 [c7]=some y7:=f7;obtain⟨k,e0,hx0,w0⟩:=DataW.trod_int QB f0;obtain⟨A1,l1,k1,e1,g1,g2,g3,g4⟩:=BG FT qW qU f1;obtain⟨WO,e2,hx2,w2⟩:=DataW.trod_int qW f2;obtain⟨far,e3,hx3,w3⟩:=DataW.trod_int qW f3;obtain⟨frm,e4,hx4,w4⟩:=DataW.trod_string jI f4;obtain⟨qY,e5,hx5,w5⟩:=DataW.trod_string jI f5;obtain⟨A6,o6,k6,e6,i1,i2,i3,i4⟩:=Eb _ f6;obtain⟨A7,o7,k7,e7,j1,j2,j3,j4⟩:=Eb _ f7;obtain⟨k',rfl,hk⟩:=wf_u8 w0;injection e0 with e0;injection e1 with e1;injection e2 with e2;injection e3 with e3;injection e4 with e4;injection e5 with e5;injection e6 with e6;injection e7 with e7;subst e0 e1 e2 e3 e4 e5 e6 e7 hx0 hx2 hx3 hx4 hx5;have h1:=DZ (H:=H) (.lit (.int .u8 (k':Int)));have h2:=DZ (H:=H) (.lit (.int .i64 WO));have h3:=DZ (H:=H) (.lit (.int .i64 far));refine⟨⟨A1,k1,A6,k6,A7,k7⟩,⟨k',l1,WO,far,frm,qY,o6,o7⟩,rfl,⟨hk,g1,JJ w2,JJ w3,mY w4,mY w5,i1,j1,⟨g2,g3⟩,⟨i2,i3⟩,⟨j2,j3⟩⟩,?_,?_⟩
 ·simp only[jg,List.length_cons,aJ,n8,IM];simp only[List.map_cons,List.map_nil,Rows.uptoBulk,Rows.uptoBulkAll,IB]at g4 i4 j4 h1 h2 h3⊢;omega
 ·simp only[List.map_cons,List.map_nil,Rows.uptoBulk,Rows.uptoBulkAll,IB];omega
end
end
section
open Go.RowKit Go.ChangeShapes Go.WideShapes
section
variable {H : Type} {enc : TypeId × Value → H} {w : World} {spare : Nat → Bool} {held : Bool}
end
end
section
open Go.RowKit
theorem F6:isWord {data:=#[]}=false:=by
 have h:(ByteArray.toList {data:=#[]}).isEmpty=true:=by rw[List.isEmpty_iff,mg];decide
 unfold isWord;rw[h];rfl
theorem yH{w:World}{P R:Nat}{r:Bool}{s:ByteArray}(hr:w.cell? ⟨R,0,none⟩=some (.bool r))(hf:w.frozen? ⟨R,0,none⟩=false):
  Calls Tryz.prog 44 #[.bool false,.string s,.pointer (some ⟨P,0,none⟩),.pointer (some ⟨R,0,none⟩)] w fun e w'=>e = .returned (.tuple #[])∧w'=w.setCell ⟨R,0,none⟩ (.bool (r && decide (s.size=0))):=by
 rcases r with _|_
 ·go_enter Tryz.func44,Tryz.ntmps44
  go_wp2_with fail
  all_goals go_end0
  exact⟨rfl,rfl⟩
 ·by_cases h0:s.size=0
  ·have hs:s=⟨#[]⟩:=ByteArray.ext (Array.eq_empty_of_size_eq_zero h0);subst hs;go_enter Tryz.func44,Tryz.ntmps44
   go_wp2_with(go_at_call 42;(with_reducible refine(Fe _ _).mono ?_);rintro e1 w1 ⟨rfl,rfl⟩;rw[F6])
   all_goals go_end0
   exact⟨rfl,rfl⟩
  ·have hne:s.toList.isEmpty=false:=by rw[Bool.eq_false_iff,ne_eq,List.isEmpty_iff,mg];omega
   have hd:decide (s.size=0)=false:=by simp[h0]
   rcases hw:isWord s with _|_
   all_goals
    go_enter Tryz.func44,Tryz.ntmps44
    go_wp2_with(go_at_call 42;(with_reducible refine(Fe _ _).mono ?_);rintro e1 w1 ⟨rfl,rfl⟩;rw[hw])
    all_goals go_end0
    exact⟨rfl,by rw[hd];rfl⟩
theorem WQ{w:World}{b:Nat}{p:Nat×ByteArray}(hT:mJ w b)(hp:p∈dP):(Instr.lookup 100 (.map (some b)) (.int .u8 p.1) true).run Tryz.prog w = .ok (.tuple #[oW p,.bool true]) w:=by
 obtain⟨es,clock,hb,F,_,hD⟩:=hT;have hlt:p.1<256:=by
  simp only[dP,List.mem_cons,List.not_mem_nil,or_false]at hp;rcases hp with rfl|rfl|rfl|rfl|rfl|rfl|rfl|rfl|rfl<;>decide
 have hk:=xX (p.1:Int) (by
  simp only[dP,List.mem_cons,List.not_mem_nil,or_false]at hp;rcases hp with rfl|rfl|rfl|rfl|rfl|rfl|rfl|rfl|rfl<;>decide)
 have hz:(zeroValue 98).run Tryz.prog w = .ok (.agg #[.string {data:=#[]},.nilFunc]) w:=by kernel_rfl
 have hat :∀zd,jU.atKey (.int .u8 (p.1:Int)) zd = .lit (.int .u8 (p.1:Int)):=fun zd=>by
  rw[QI];simp only[dP,List.mem_cons,List.not_mem_nil,or_false]at hp;rcases hp with rfl|rfl|rfl|rfl|rfl|rfl|rfl|rfl|rfl<;>rfl
 rw[hD]at hat;rcases Maps.fit_look true lD Tryz.underlying100 hz hb F hk with⟨_,_,hh⟩|⟨e0,y,_,_,hrun,hRv,F7,_⟩
 ·have h1:=hh (.lit (.bool false));rw[hat]at h1;cases h1
 ·obtain⟨⟨q,hq⟩,hv⟩:=QH hRv;have hv:e0.val=oW q:=hv;have hy:=Option.some.inj ((vw hq).symm.trans (hv▸hRv));have hqp:(p.1:Int)=(q.1:Int):=by
   have h1:=F7 (.lit (.bool false));have h2:DataW.lit (Lit.int .u8 (p.1:Int))=y.1:=(hat _).symm.trans h1;rw[←hy]at h2;exact(Lit.int.inj (DataW.lit.inj h2)).2
  have hpq:p.1=q.1:=by omega
  have h2:p.2=q.2:=QJ (k:=p.1) (show(p.1,p.2)∈dP from hp) (by rw[hpq];exact hq);have h3:p=q:=Prod.ext hpq h2;subst h3;rw[hv]at hrun
  simpa only[if_true]using hrun
end
section
open Go.RowKit
theorem WR:(Tryz.prog.info? 9).map (fun i=>(i.zero,i.size,i.bytes))=some (some (.string ByteArray.empty),1,16):=by kernel_rfl
structure fV(w wx:World)(P R:Nat)(cs:List Value)(ps:List ByteArray)(r:Bool):Prop where
 below:Below w.heap.size w wx
 box:wx.rangeAt w.heap.size 0 cs
 parts :∃v,wx.cell? ⟨P,0,none⟩=some v∧wx.ownsRow (w.heap.size+1) 9 1 v ps.length (ps.map .string)∧∀g∈ob v,g≠P∧g≠R
 pf:wx.frozen? ⟨P,0,none⟩=false
 right:wx.cell? ⟨R,0,none⟩=some (.bool r)
 rf:wx.frozen? ⟨R,0,none⟩=false
 ne:P≠R
 lp:w.heap.size<P
 lr:w.heap.size<R
section
variable {w wx w' : World} {P R : Nat} {cs : List Value} {ps : List ByteArray} {r : Bool}
theorem fV.lt(h:fV w wx P R cs ps r):w.heap.size<wx.heap.size:=Nat.lt_trans h.lp (by obtain⟨v,hv,_⟩:=h.parts;exact block_lt_of_cell hv)
theorem fV.next(h:fV w wx P R cs ps r)(hb:Below wx.heap.size wx w'):fV w w' P R cs ps r:=by
 obtain⟨v,h1,h2,h3⟩:=h.parts;exact⟨h.below.trans (hb.mono (Nat.le_of_lt h.lt)),fun j u hu=>(hb.cell (p:=⟨w.heap.size,0+j,none⟩) h.lt).trans (h.box j u hu),
  ⟨v,(hb.cell (p:=⟨P,0,none⟩) (block_lt_of_cell h1)).trans h1,nZ h2 fun b hb'=>hb.block b (og h2 b hb').2,h3⟩,(hb.frozen (p:=⟨P,0,none⟩) (block_lt_of_cell h1)).trans h.pf,
  (hb.cell (p:=⟨R,0,none⟩) (block_lt_of_cell h.right)).trans h.right,(hb.frozen (p:=⟨R,0,none⟩) (block_lt_of_cell h.right)).trans h.rf,h.ne,h.lp,h.lr⟩
theorem fV.setR(h:fV w wx P R cs ps r)(q:Bool):fV w (wx.setCell ⟨R,0,none⟩ (.bool q)) P R cs ps q:=by
 obtain⟨v,h1,h2,h3⟩:=h.parts;have hlr:=h.lr;exact⟨h.below.setCell (p:=⟨R,0,none⟩) (Nat.le_of_lt h.lr) _,V5 h.box _ (by omega),
  ⟨v,(World.cell?_setCell_other _ _ _ _ (by intro e;injection e with e;exact h.ne e.symm)).trans h1,nZ h2 fun b hb'=>Below.heap_setCell _ _ _ _ (h3 b hb').2,h3⟩,
  (World.frozen?_setCell _ _ _ _).trans h.pf,World.cell?_setCell_same _ _ _ h.right,(World.frozen?_setCell _ _ _ _).trans h.rf,h.ne,h.lp,h.lr⟩
theorem fV.app{wa wg:World}{v v':Value}{s:ByteArray}(h:fV w wa P R cs ps r)(hv:wa.cell? ⟨P,0,none⟩=some v)(ho:wg.ownsRow (w.heap.size+1) 9 1 v' (ps.length+1) (ps.map .string++[.string s]))(hg:wa.grownBy wg v.ownBlock)(hw:rX wa wg v v' ps.length 1):
  fV w (wg.setCell ⟨P,0,none⟩ v') P R cs (ps++[s]) r∧wg.cell? ⟨P,0,none⟩=some v∧wg.frozen? ⟨P,0,none⟩=false:=by
 obtain⟨v0,h1,h2,h3⟩:=h.parts;rw[hv]at h1;injection h1 with h1;subst h1;have hP:P<wa.heap.size:=block_lt_of_cell hv;have hR:R<wa.heap.size:=block_lt_of_cell h.right;have nP:some P≠v.ownBlock:=fun e=>(h3 P (qL.2 e.symm)).1 rfl;have nR:some R≠v.ownBlock:=fun e=>(h3 R (qL.2 e.symm)).2 rfl;have cP:wg.cell? ⟨P,0,none⟩=some v:=(World.cell?_of_block (a:=⟨P,0,none⟩) (hg.block P hP nP)).trans hv;have fP:wg.frozen? ⟨P,0,none⟩=false:=(World.frozen?_of_block (a:=⟨P,0,none⟩) (hg.block P hP nP)).trans h.pf;have cR:wg.cell? ⟨R,0,none⟩=some (.bool r):=(World.cell?_of_block (a:=⟨R,0,none⟩) (hg.block R hR nR)).trans h.right;have fR:wg.frozen? ⟨R,0,none⟩=false:=(World.frozen?_of_block (a:=⟨R,0,none⟩) (hg.block R hR nR)).trans h.rf;have hl:=h.lt;have hlp:=h.lp;have nW:some w.heap.size≠v.ownBlock:=fun e=>by have:=(og h2 _ (qL.2 e.symm)).1;omega
 have hne :∀g∈ob v',g≠P∧g≠R:=fun g hg'=>by
  rcases hw with⟨A,c,e1,e2⟩|⟨h,_⟩
  ·rw[e2,QV A (ps.length+1) ps.length c,←e1]at hg';exact h3 g hg'
  ·rw[ob,h]at hg';simp at hg';omega
 refine⟨⟨?_,?_,?_,(World.frozen?_setCell _ _ _ _).trans fP,(World.cell?_setCell_other _ _ _ _ (by intro e;injection e with e;exact h.ne e)).trans cR,(World.frozen?_setCell _ _ _ _).trans fR,h.ne,h.lp,h.lr⟩,cP,fP⟩
 ·exact((h.below.grown hg (Nat.le_of_lt hl) fun k hk=>by have:=(og h2 k (qL.2 hk)).1;omega)).setCell (p:=⟨P,0,none⟩) (Nat.le_of_lt h.lp) _
 ·exact V5 (fun j u hu=>(World.cell?_of_block (a:=⟨w.heap.size,0+j,none⟩) (hg.block _ hl nW)).trans (h.box j u hu)) _ (by omega)
 ·refine⟨v',World.cell?_setCell_same _ _ _ cP,?_,hne⟩;rw[aJ,List.map_append];exact nZ ho fun b hb'=>Below.heap_setCell _ _ _ _ (hne b hb').1
end
theorem uB{w wx:World}{P R:Nat}{cs:List Value}{ps:List ByteArray}{r:Bool}{s:ByteArray}(h:fV w wx P R cs ps r)(hn:ps.length≤100):
  Calls Tryz.prog 44 #[.bool true,.string s,.pointer (some ⟨P,0,none⟩),.pointer (some ⟨R,0,none⟩)] wx fun e w'=>e = .returned (.tuple #[])∧fV w w' P R cs (ps++[s]) (r && isWord s):=by
 obtain⟨v,hv,ho,_⟩:=h.parts;obtain⟨A,c,rfl⟩:=jD ho;have H:=hide h;have Ho:=hide ho;have hlt:=h.lt;clear h ho;go_enter Tryz.func44,Tryz.ntmps44
 go_upto_region 2 with(at_builtin;refine Aa rfl _ _ 34 rfl (w.heap.size+1) 9 Tryz.underlying34 WR rfl (by decide) _ ps.length (ps.map .string) rfl (Ho.out.alloc _) (some ⟨wx.heap.size,0,none⟩) 1 1 [.string s] rfl (by simp) rfl (fun ad e=>by injection e with e;subst e;intro j u hu;rw[Addr.add_lit,Nat.zero_add,Lib.cell_of_heap (heap_alloc_new wx _)];simpa using hu) (by intro u hu;simp at hu;subst hu;rfl) (by unfold maxLen;omega) (by omega) (by simp;omega) ?_;intro v1 w4 h4 hg4 hw4;obtain⟨A1,c1,rfl⟩:=jD h4;have hX:=(H.out.next (az wx _)).app ((az wx _).cell (p:=⟨P,0,none⟩) (block_lt_of_cell hv)|>.trans hv) h4 hg4 hw4;have c4:=hX.2.1;have f4:=hX.2.2;have HX:=hide hX.1;clear h4 hg4 hw4 hX)
 generalize w4.setCell ⟨P,0,none⟩ (.slice A1 (ps.length+1) c1)=V at HX⊢;have hr:=HX.out.right;have hf:=HX.out.rf;clear c4 f4;rcases r with _|_
 ·go_wp2_with fail
  all_goals go_end0
  exact⟨rfl,HX.out.setR false⟩
 ·rcases hw:isWord s with _|_
  all_goals
   go_wp2_with(go_at_call 42;(with_reducible refine(Fe _ _).mono ?_);rintro e1 w1 ⟨rfl,rfl⟩;rw[hw])
   all_goals go_end0
   exact⟨rfl,by rw[hw];exact HX.out.setR _⟩
theorem Rq{w wx:World}{P R:Nat}{cs:List Value}{ps:List ByteArray}{r:Bool}{s:ByteArray}(b:Bool)(h:fV w wx P R cs ps r)(hn:ps.length≤100):
  Calls Tryz.prog 44 #[.bool b,.string s,.pointer (some ⟨P,0,none⟩),.pointer (some ⟨R,0,none⟩)] wx fun e w'=>e = .returned (.tuple #[])∧fV w w' P R cs (if b then ps++[s]else ps) (if b then r && isWord s else r && decide (s.size=0)):=by
 rcases b with _|_
 ·refine(yH h.right h.rf).mono ?_;rintro e w' ⟨rfl,rfl⟩;exact⟨rfl,h.setR _⟩
 ·exact uB h hn
end
section
open Go.RowKit
theorem Ce{k:Nat}(h:1≤k∧k≤9):(k,kwOf k)∈dP:=by
 have hk:k=1∨k=2∨k=3∨k=4∨k=5∨k=6∨k=7∨k=8∨k=9:=by omega
 rcases hk with rfl|rfl|rfl|rfl|rfl|rfl|rfl|rfl|rfl<;>simp[dP,kwOf]
theorem yI{k:Nat}(h :¬(1≤k∧k≤9)):kwOf k={data:=#[]}:=by
 unfold kwOf;split<;>first|omega|rfl
theorem KH:IntKind.u8.min=0:=rfl
theorem KI:IntKind.u8.max=255:=rfl
theorem Rt{k:Nat}(hk8:k<256):(Lit.int .u8 (k:Int)).wf=true:=by
 show(decide (IntKind.u8.min≤(k:Int)) && decide ((k:Int)≤IntKind.u8.max))=true;rw[KH,KI,Bool.and_eq_true];exact⟨decide_eq_true (Int.natCast_nonneg k),decide_eq_true (by omega)⟩
theorem uC{w:World}{b k:Nat}(hT:mJ w b)(hk8:k<256)(h :¬(1≤k∧k≤9)):(Instr.lookup 100 (.map (some b)) (.int .u8 k) true).run Tryz.prog w = .ok (.tuple #[.agg #[.string {data:=#[]},.nilFunc],.bool false]) w:=by
 obtain⟨es,clock,hb,F,_,hD⟩:=hT;have hk:=xX (k:Int) (Rt hk8);have hz:(zeroValue 98).run Tryz.prog w = .ok (.agg #[.string {data:=#[]},.nilFunc]) w:=by kernel_rfl
 rcases Maps.fit_look true lD Tryz.underlying100 hz hb F hk with⟨hrun,_,_⟩|⟨e0,y,_,_,_,hRv,F7,_⟩
 ·simpa only[if_true]using hrun
 ·obtain⟨⟨q,hq⟩,hv⟩:=QH hRv;have hv:e0.val=oW q:=hv;have hy:=Option.some.inj ((vw hq).symm.trans (hv▸hRv));have h1:(k:Int)=(q.1:Int):=VW hq fun zd=>by
   rw[hD,F7 zd,←hy]
  have h2:1≤q.1∧q.1≤9:=by
   simp only[dP,List.mem_cons,List.not_mem_nil,or_false]at hq;rcases hq with rfl|rfl|rfl|rfl|rfl|rfl|rfl|rfl|rfl<;>decide
  omega
theorem yJ{k:Nat}(hk8:k<256):∃fv:Value,((∃i,fv = .func (.func i) #[] #[])∨fv = .nilFunc)∧∀(w:World) (b:Nat),mJ w b→
  (Instr.lookup 100 (.map (some b)) (.int .u8 k) true).run Tryz.prog w = .ok (.tuple #[.agg #[.string (kwOf k),fv],.bool (decide (1≤k∧k≤9))]) w:=by
 by_cases h:1≤k∧k≤9
 ·refine⟨_,.inl ⟨fC k,rfl⟩,fun w b hT=>?_⟩;rw[decide_eq_true h];exact WQ (p:=(k,kwOf k)) hT (Ce h)
 ·refine⟨_,.inr rfl,fun w b hT=>?_⟩;rw[decide_eq_false h,yI h];exact uC hT hk8 h
structure F8(w wx:World)(b:Nat)(cs:List Value)(s:ByteArray):Prop where
 below:Below w.heap.size w wx
 box:wx.rangeAt w.heap.size 0 cs
 word:wx.cell? ⟨b,0,none⟩=some (.string s)
 lt:w.heap.size<wx.heap.size
theorem F8.next{w wx w':World}{b:Nat}{cs:List Value}{s:ByteArray}(h:F8 w wx b cs s)(hb:Below wx.heap.size wx w'):F8 w w' b cs s :=
 ⟨h.below.trans (hb.mono (Nat.le_of_lt h.lt)),fun j v hv=>(hb.cell (p:=⟨w.heap.size,0+j,none⟩) h.lt).trans (h.box j v hv),(hb.cell (p:=⟨b,0,none⟩) (block_lt_of_cell h.word)).trans h.word,aH h.lt hb.size⟩
theorem KJ{w X w2:World}{v:Value}{t:TypeId}{cs:List Value}{s:ByteArray}(hX:X.rangeAt w.heap.size 0 cs)(F9:Below w.heap.size w X)(hlt:w.heap.size<X.heap.size)(hB:Below X.heap.size X w2):
  F8 w (w2.alloc (.cells #[.string s,v] t)) w2.heap.size cs s:=by
 have hz:=hB.size;have hb2:=az w2 (.cells #[.string s,v] t);refine⟨(F9.trans (hB.mono (Nat.le_of_lt hlt))).trans (hb2.mono (by omega)),fun j u hu=>?_,by rw[Lib.cell_of_heap (heap_alloc_new w2 _)];rfl,by simp;omega⟩;exact(hb2.cell (p:=⟨w.heap.size,0+j,none⟩) (by show w.heap.size<_;omega)).trans ((hB.cell (p:=⟨w.heap.size,0+j,none⟩) hlt).trans (hX j u hu))
theorem KL{w X w2:World}{z v:Value}{cs:List Value}{s:ByteArray}(hX:X.rangeAt w.heap.size 0 cs)(F9:Below w.heap.size w X)(hlt:w.heap.size+1<X.heap.size)(hB:Below X.heap.size X w2)(hz:X.cell? ⟨w.heap.size+1,0,none⟩=some z):
  F8 w ((w2.setCell ⟨w.heap.size+1,0,none⟩ (.string s)).setCell ⟨w.heap.size+1,1,none⟩ v) (w.heap.size+1) cs s:=by
 have hs:=hB.size;have hc:w2.cell? ⟨w.heap.size+1,0,none⟩=some z:=(hB.cell (p:=⟨w.heap.size+1,0,none⟩) hlt).trans hz;refine⟨((F9.trans (hB.mono (by omega))).setCell (p:=⟨w.heap.size+1,0,none⟩) (Nat.le_succ _) _).setCell (p:=⟨w.heap.size+1,1,none⟩) (Nat.le_succ _) _,fun j u hu=>?_,?_,by simp;omega⟩
 ·rw[World.cell?_setCell_other _ _ _ _ (by intro e;injection e with e;omega),World.cell?_setCell_other _ _ _ _ (by intro e;injection e with e;omega)];exact(hB.cell (p:=⟨w.heap.size,0+j,none⟩) (by show w.heap.size<_;omega)).trans (hX j u hu)
 ·rw[World.cell?_setCell_other _ _ _ _ (by simp)];exact World.cell?_setCell_same _ _ _ hc
theorem yK(w:World)(o:Obj)(v0 v1:Value)(t:TypeId):((w.alloc o).alloc (.cells #[v0,v1] t)).cell? ⟨w.heap.size+1,0,none⟩=some v0:=by
 rw[Lib.cell_of_heap (yB (by simp))];rfl
theorem zji{w:World}{b o n:Nat}{cs:List Value}(h:w.rangeAt b o cs):(w.drewN n).rangeAt b o cs:=h
theorem Ru{w:World}{b o:Nat}{cs:List Value}(h:w.rangeAt b o cs):w.drew.rangeAt b o cs:=h
theorem IP(w:World)(cs:List Value)(t:TypeId):(w.alloc (.cells cs.toArray t)).rangeAt w.heap.size 0 cs:=fun j v hv=>by
 rw[Lib.cell_of_heap (heap_alloc_new w _),Nat.zero_add]
 simpa using hv
structure Gf(w wx:World)(P:Nat)(cs:List Value)(ps:List ByteArray):Prop where
 below:Below w.heap.size w wx
 box:wx.rangeAt w.heap.size 0 cs
 parts :∃v,wx.cell? ⟨P,0,none⟩=some v∧wx.ownsRow (w.heap.size+1) 9 1 v ps.length (ps.map .string)∧∀g∈ob v,g≠P
 pf:wx.frozen? ⟨P,0,none⟩=false
 lp:w.heap.size<P
theorem Gf.lt{w wx:World}{P:Nat}{cs:List Value}{ps:List ByteArray}(h:Gf w wx P cs ps):P<wx.heap.size:=by obtain⟨v,hv,_⟩:=h.parts;exact block_lt_of_cell hv
theorem Gf.next{w wx w':World}{P:Nat}{cs:List Value}{ps:List ByteArray}(h:Gf w wx P cs ps)(hb:Below wx.heap.size wx w'):Gf w w' P cs ps:=by
 have hl:=h.lt;have hp:=h.lp;obtain⟨v,h1,h2,h3⟩:=h.parts;exact⟨h.below.trans (hb.mono (by omega)),fun j u hu=>(hb.cell (p:=⟨w.heap.size,0+j,none⟩) (by show w.heap.size<_;omega)).trans (h.box j u hu),
  ⟨v,(hb.cell (p:=⟨P,0,none⟩) hl).trans h1,nZ h2 fun b hb'=>hb.block b (og h2 b hb').2,h3⟩,(hb.frozen (p:=⟨P,0,none⟩) hl).trans h.pf,h.lp⟩
theorem Cf{w wx:World}{b:Nat}{cs:List Value}{s t:ByteArray}(h:F8 w wx b cs s):
  Gf w ((wx.alloc (.cells #[.string s,.string t] 9)).alloc (.cells #[.slice (some ⟨wx.heap.size,0,none⟩) 2 2] 34)) (wx.heap.size+1) cs [s,t]:=by
 have hb:=iD (w:=wx) (.cells #[.string s,.string t] 9) (.cells #[.slice (some ⟨wx.heap.size,0,none⟩) 2 2] 34);have hl:=h.lt;have h1:(wx.alloc (.cells #[.string s,.string t] 9)).ownsRow (w.heap.size+1) 9 1 (.slice (some ⟨wx.heap.size,0,none⟩) 2 2) 2 [.string s,.string t]:=World.ownsRow_lit wx #[.string s,.string t] 2 hl (by decide) rfl;refine⟨h.below.trans (hb.mono (Nat.le_of_lt hl)),fun j u hu=>(hb.cell (p:=⟨w.heap.size,0+j,none⟩) hl).trans (h.box j u hu),
  ⟨_,by rw[Lib.cell_of_heap (yB (by simp))];rfl,nZ h1 fun b hb=>(az _ _).block b (og h1 b hb).2,fun g hg=>?_⟩,by unfold World.frozen?;rw[yB (by simp)];rfl,by omega⟩
 simp[ob,Value.ownBlock]at hg;omega
theorem jC{w wx wy:World}{P:Nat}{cs:List Value}{ps:List ByteArray}(h:Gf w wx P cs ps)(hb:Below wx.heap.size wx wy)(q:Bool)(t:TypeId):
  fV w (wy.alloc (.cells #[.bool q] t)) P wy.heap.size cs ps q:=by
 have h2:=h.next hb;have h3:=h2.next (az wy (.cells #[.bool q] t));have hl:=h2.lt;have hp:=h.lp;obtain⟨v,h4,h5,h6⟩:=h2.parts;refine⟨h3.below,h3.box,⟨v,((az wy (.cells #[.bool q] t)).cell (p:=⟨P,0,none⟩) hl).trans h4,nZ h5 fun b hb'=>(az wy _).block b (og h5 b hb').2,fun g hg=>⟨h6 g hg,?_⟩⟩,h3.pf,by rw[Lib.cell_of_heap (heap_alloc_new wy _)];rfl,by unfold World.frozen?;rw[heap_alloc_new];rfl,by omega,h.lp,by omega⟩;have:=(og h5 g hg).2;omega
structure o8(w wx:World)(P R:Nat)(cs:List Value)(ps:List ByteArray)(r:Bool)(v:Value):Prop where
 st:fV w wx P R cs ps r
 cell:wx.cell? ⟨P,0,none⟩=some v
section
variable {w wx w' : World} {P R : Nat} {cs : List Value} {ps : List ByteArray} {r : Bool} {v : Value}
theorem fV.vt(h:fV w wx P R cs ps r):∃v,o8 w wx P R cs ps r v:=by
 obtain⟨v,h1,_⟩:=h.parts;exact⟨v,h,h1⟩
theorem o8.own(h:o8 w wx P R cs ps r v):wx.ownsRow (w.heap.size+1) 9 1 v ps.length (ps.map .string)∧∀g∈ob v,g≠P∧g≠R:=by
 obtain⟨v0,h1,h2⟩:=h.st.parts;rw[h.cell]at h1;injection h1 with h1;subst h1;exact h2
theorem o8.next(h:o8 w wx P R cs ps r v)(hb:Below wx.heap.size wx w'):o8 w w' P R cs ps r v :=
 ⟨h.st.next hb,(hb.cell (p:=⟨P,0,none⟩) (block_lt_of_cell h.cell)).trans h.cell⟩
theorem fV.drew(h:fV w wx P R cs ps r):fV w wx.drew P R cs ps r:=h.next (Below.refl _ _).drew
theorem o8.app_run(h:o8 w wx P R cs ps r v){g:Nat}{s:ByteArray}(hg:wx.cell? ⟨g,0,none⟩=some (.string s))(hn:ps.length≤100):
  ∃v' wg,(Builtin.append_ #[34,34] 34 #[v,.slice (some ⟨g,0,none⟩) 1 1]).run Tryz.prog wx = .ok v' wg∧(∃A c,v' = .slice A (ps.length+1) c)∧(∃z,wg.cell? ⟨P,0,none⟩=some z)∧wg.frozen? ⟨P,0,none⟩=false∧
   fV w (wg.setCell ⟨P,0,none⟩ v') P R cs (ps++[s]) r∧wg.rangeAt w.heap.size 0 cs:=by
 obtain⟨hown,_⟩:=h.own;obtain⟨i0,hi,hz0,hz1,hz2⟩:=info_parts WR;have hnews :∀j u,[Value.string s][j]?=some u→wx.cell? ((⟨g,0,none⟩:Addr).add j)=some u:=fun j u hu=>by
  rcases j with _|j
  ·simp at hu;subst hu;rw[Addr.add_lit];exact hg
  ·simp at hu
 obtain⟨v',wg,hrun,hown',hgr,_⟩:=run_append_own (P:=Tryz.prog) wx (w.heap.size+1) 34 34 9 i0 (.string ByteArray.empty) 1 16 Tryz.underlying34 hi hz0 hz1 hz2 rfl (by decide) v ps.length (ps.map .string) hown ⟨g,0,none⟩ 1 1 [.string s] rfl hnews (by intro u hu;simp at hu;subst hu;rfl) (by unfold maxLen;omega) (by omega) h.st.lt;have hw:=PD (w.heap.size+1) 34 34 9 i0 (.string ByteArray.empty) 1 16 Tryz.underlying34 hi hz0 hz1 hz2 v ps.length (ps.map .string) hown ⟨g,0,none⟩ 1 1 [.string s] rfl hnews (by intro u hu;simp at hu;subst hu;rfl) (by unfold maxLen;omega) (by omega) v' wg hrun;obtain⟨h1,h2,h3⟩:=h.st.app h.cell hown' hgr hw;have nW:some w.heap.size≠v.ownBlock:=fun e=>by have:=(og hown _ (qL.2 e.symm)).1;omega
 exact⟨v',wg,hrun,jD hown',⟨_,h2⟩,h3,h1,fun j u hu=>(World.cell?_of_block (a:=⟨w.heap.size,0+j,none⟩) (hgr.block _ h.st.lt nW)).trans (h.st.box j u hu)⟩
end
end
section
open Go.RowKit
def dL(ws:List ByteArray)(w:World)(e:Ending)(w':World):Prop :=
 Below w.heap.size w w'∧∃c x A n b,e = .returned (.tuple #[.agg (ag c x A n).toArray,.bool b])∧(b=true→lineOf ws=some c∧dF (fun g=>w.heap.size≤g) w' c x A n)∧(b=false→lineOf ws=none)
def gX(w:World)(g:Nat)(l:List ByteArray):Prop:=∀(j:Nat) (s:ByteArray),l[j]?=some s→w.cell? ⟨g,j,none⟩=some (.string s)
theorem gX.below{w w':World}{g:Nat}{l:List ByteArray}(h:gX w g l)(hg:g<w.heap.size)(hb:Below w.heap.size w w'):gX w' g l:=fun j s hs=>(hb.cell (p:=⟨g,j,none⟩) hg).trans (h j s hs)
theorem gX.rd{S:Nat→Prop}{w:World}{g:Nat}{l:List ByteArray}(h:gX w g l)(hS:S g):Rd S w (some ⟨g,0,none⟩) (l.map .string):=
 .inr ⟨g,0,rfl,hS,fun j u hu=>by
  rw[List.getElem?_map]at hu;obtain⟨s,hs,rfl⟩:=Option.map_eq_some_iff.1 hu;rw[Nat.zero_add];exact h j s hs⟩
theorem gX.rd1{S:Nat→Prop}{w:World}{g:Nat}{x:ByteArray}{l:List ByteArray}(h:gX w g (x::l))(hS:S g):Rd S w (some ⟨g,1,none⟩) (l.map .string):=
 .inr ⟨g,1,rfl,hS,fun j u hu=>by
  rw[List.getElem?_map]at hu;obtain⟨s,hs,rfl⟩:=Option.map_eq_some_iff.1 hu;exact h (1+j) s (by rw[Nat.add_comm];exact hs)⟩
theorem pJ{B m:Nat}{w:World}{v:Value}{l:List ByteArray}(hm:l.length=m)(h0:0<m)(h:w.ownsRow B 9 1 v m (l.map .string)):
  ∃g c,v = .slice (some ⟨g,0,none⟩) m c∧B≤g∧g<w.heap.size∧m≤c∧c≤9223372036854775807∧gX w g l:=by
 obtain⟨A,c,rfl⟩:=jD h;have hr:=JG (NW h) rfl;rcases h.2 with⟨_,e⟩|⟨g,cap,cur,e,hb,rest⟩
 ·omega
 ·injection e with e;subst e;refine⟨g,c,rfl,hb,(h.lt g rfl).2,hr.1,hr.2,fun j s hs=>?_⟩;rw[h.cellAt j (by have:=(List.getElem?_eq_some_iff.1 hs).1;omega),List.getElem?_map,hs];rfl
theorem Gg{f:ByteArray}(h:f≠jo):¬f.toList=[110,101,119]∧(f.toList == [110,101,119])=false:=by
 have e :¬f.toList=[110,101,119]:=fun e=>h (by rw[ByteArray.toList_eq]at e;exact ByteArray.ext (Array.toList_inj.1 e));exact⟨e,by rw[aK];exact e⟩
theorem yL{f:ByteArray}(h:f≠ay):¬f.toList=[114,101,99,111,114,100]∧(f.toList == [114,101,99,111,114,100])=false:=by
 have e :¬f.toList=[114,101,99,111,114,100]:=fun e=>h (by rw[ByteArray.toList_eq]at e;exact ByteArray.ext (Array.toList_inj.1 e));exact⟨e,by rw[aK];exact e⟩
theorem Gh{f:ByteArray}(h:f≠eP):¬f.toList=[112,117,108,108]∧(f.toList == [112,117,108,108])=false:=by
 have e :¬f.toList=[112,117,108,108]:=fun e=>h (by rw[ByteArray.toList_eq]at e;exact ByteArray.ext (Array.toList_inj.1 e));exact⟨e,by rw[aK];exact e⟩
theorem Gi{f:ByteArray}(h:f≠dK):¬f.toList=[117,110,112,117,108,108]∧(f.toList == [117,110,112,117,108,108])=false:=by
 have e :¬f.toList=[117,110,112,117,108,108]:=fun e=>h (by rw[ByteArray.toList_eq]at e;exact ByteArray.ext (Array.toList_inj.1 e));exact⟨e,by rw[aK];exact e⟩
theorem Gj{f:ByteArray}(h:f≠dY):¬f.toList=[109,101,114,103,101]∧(f.toList == [109,101,114,103,101])=false:=by
 have e :¬f.toList=[109,101,114,103,101]:=fun e=>h (by rw[ByteArray.toList_eq]at e;exact ByteArray.ext (Array.toList_inj.1 e));exact⟨e,by rw[aK];exact e⟩
theorem Gl{f:ByteArray}(h:f≠bV):¬f.toList=[99,104,101,99,107,111,117,116]∧(f.toList == [99,104,101,99,107,111,117,116])=false:=by
 have e :¬f.toList=[99,104,101,99,107,111,117,116]:=fun e=>h (by rw[ByteArray.toList_eq]at e;exact ByteArray.ext (Array.toList_inj.1 e));exact⟨e,by rw[aK];exact e⟩
theorem Gm{f:ByteArray}(h:f≠jR):¬f.toList=[108,111,103]∧(f.toList == [108,111,103])=false:=by
 have e :¬f.toList=[108,111,103]:=fun e=>h (by rw[ByteArray.toList_eq]at e;exact ByteArray.ext (Array.toList_inj.1 e));exact⟨e,by rw[aK];exact e⟩
theorem Gn{f:ByteArray}(h:f≠fA):¬f.toList=[101,120,112,111,114,116]∧(f.toList == [101,120,112,111,114,116])=false:=by
 have e :¬f.toList=[101,120,112,111,114,116]:=fun e=>h (by rw[ByteArray.toList_eq]at e;exact ByteArray.ext (Array.toList_inj.1 e));exact⟨e,by rw[aK];exact e⟩
theorem yM{f:ByteArray}(h:f≠aV):¬f.toList=[105,109,112,111,114,116]∧(f.toList == [105,109,112,111,114,116])=false:=by
 have e :¬f.toList=[105,109,112,111,114,116]:=fun e=>h (by rw[ByteArray.toList_eq]at e;exact ByteArray.ext (Array.toList_inj.1 e));exact⟨e,by rw[aK];exact e⟩
theorem zjj{w:World}{s x:ByteArray}(hs:s.size≤1099511627)(hws:wordsOf 32 s=[x]):Calls Tryz.prog 50 #[.string s] w (dL (wordsOf 32 s) w):=by
 have hlo:lineOf (wordsOf 32 s)=none:=by rw[hws];rfl
 have iW:=hide hlo;have Hws:=hide hws;have HP:Hid (∀W,Calls Tryz.prog 72 #[.string s,.int .u8 32] W fun e w'=>∃v,e = .returned v∧w'.ownsRow W.heap.size 9 1 v (wordsOf 32 s).length ((wordsOf 32 s).map .string)∧Below W.heap.size W w'):=hide fun W=>pI s 32 (by omega) W;clear hlo hws;go_enter Tryz.func50,Tryz.ntmps50
 go_wp2_with(first
  | (go_at_call 72;(with_reducible refine(HP.out _).mono ?_);rintro e1 w1 ⟨v1,rfl,ho1,hB1⟩;rw[Hws.out]at ho1;obtain⟨g,c1,rfl,hg0,hg1,hc1,hc2,hcl⟩:=pJ (m:=1) rfl (by omega) ho1;have HZ1:=hide ((lG w).next hB1);clear ho1 hB1 hcl)
  | (refine wpList_store_mid rfl _ _ _ rfl w.heap.size 0 ak.toArray rfl rfl HZ1.out.ct zag Ai ?_;obtain⟨X,hX,hX1,hX2,dQ,iH⟩:=HZ1.out.stored ak rfl;rw[←hX];have fE:=hide hX1;have fD:=hide dQ;clear hX hX1 hX2 dQ iH))
 refine bodyPost_ret (v:= .tuple #[.agg gV.toArray,.bool false]) (mX Tryz.results50 rfl rfl fE.out rfl) rfl ⟨fD.out,_,_,_,_,false,rfl,fun h=>(by cases h),fun h=>iW.out⟩
theorem yN{w:World}{s f x:ByteArray}{r:List ByteArray}(hs:s.size≤1099511627)(hws:wordsOf 32 s=f::x::r)(hall:(x::r).all isWord=false)(h2:f≠ay)(h9:f≠aV)(hlo:lineOf (wordsOf 32 s)=none):Calls Tryz.prog 50 #[.string s] w (dL (wordsOf 32 s) w):=by
 have hlen:=oZ (c:=32) (s:=s) hs;rw[hws]at hlen;obtain⟨m,hm⟩:∃m,(f::x::r).length=m:=⟨_,rfl⟩;have hm2:2≤m:=by rw[←hm];simp
 rw[hm]at hlen;have hsz :∀z∈x::r,z.size≤1099511627776:=fun z hz=>aI (oV (c:=32) (s:=s) (by rw[hws];exact List.mem_cons_of_mem _ hz)).1 (by omega);have hl:(x::r).length≤1099511627776:=by have:(x::r).length+1=m:=hm;omega
 have iW:=hide hlo;have Hws:=hide hws;have Hm:=hide hm;have vI :¬(m:Int)<2:=by omega
 obtain⟨n2,e2⟩:=yL h2;obtain⟨n9,e9⟩:=yM h9;have HP:Hid (∀W,Calls Tryz.prog 72 #[.string s,.int .u8 32] W fun e w'=>∃v,e = .returned v∧w'.ownsRow W.heap.size 9 1 v (wordsOf 32 s).length ((wordsOf 32 s).map .string)∧Below W.heap.size W w'):=hide fun W=>pI s 32 (by omega) W;have HW:Hid (∀W g c,gX W g (f::x::r)→Calls Tryz.prog 122 #[.slice (some ⟨g,1,none⟩) (m-1) c] W fun e w'=>e = .returned (.bool false)∧W=w'):=hide fun W g c h=>by
  have e:m-1=(x::r).length:=by rw[←hm];rfl
  rw[e];refine(ry (S:=fun _=>True) (h.rd1 trivial) hl hsz).mono ?_;rintro e w' ⟨rfl,rfl⟩;exact⟨by rw[hall],rfl⟩
 clear hlo hws hall hsz hm hl h2 h9;go_enter Tryz.func50,Tryz.ntmps50
 go_wp2_with(first
  | (go_at_call 72;(with_reducible refine(HP.out _).mono ?_);rintro e1 w1 ⟨v1,rfl,ho1,hB1⟩;rw[Hws.out,Hm.out]at ho1;obtain⟨g,c1,rfl,hg0,hg1,hc1,hc2,hcl⟩:=pJ Hm.out (by omega) ho1;have hgb :¬w1.heap.size=g:=(by omega);have HZ1:=hide ((lG w).next hB1);have iO:=hide hcl;have k0:w1.cell? ⟨g,0,none⟩=some (.string f):=hcl 0 _ rfl;have k1:w1.cell? ⟨g,1,none⟩=some (.string x):=hcl 1 _ rfl;clear ho1 hB1 hcl)
  | (go_at_call 122;(with_reducible refine(HW.out _ _ _ iO.out).mono ?_);rintro e2 w2 ⟨rfl,rfl⟩)
  | (refine wpList_store_mid rfl _ _ _ rfl w.heap.size 0 ak.toArray rfl rfl HZ1.out.ct zag Ai ?_;obtain⟨X,hX,hX1,hX2,dQ,iH⟩:=HZ1.out.stored ak rfl;rw[←hX];have fE:=hide hX1;have fD:=hide dQ;clear hX hX1 hX2 dQ iH))
 refine bodyPost_ret (v:= .tuple #[.agg gV.toArray,.bool false]) (mX Tryz.results50 rfl rfl fE.out rfl) rfl ⟨fD.out,_,_,_,_,false,rfl,fun h=>(by cases h),fun h=>iW.out⟩
theorem zjk{w:World}{s f x:ByteArray}{r:List ByteArray}(hs:s.size≤1099511627)(hws:wordsOf 32 s=f::x::r)(hall:(x::r).all isWord=true)(h1:f≠jo)(h2:f≠ay)(h3:f≠eP)(h4:f≠dK)(h5:f≠dY)(h6:f≠bV)(h7:f≠jR)(h8:f≠fA)(h9:f≠aV)(hlo:lineOf (wordsOf 32 s)=none):Calls Tryz.prog 50 #[.string s] w (dL (wordsOf 32 s) w):=by
 have hlen:=oZ (c:=32) (s:=s) hs;rw[hws]at hlen;obtain⟨m,hm⟩:∃m,(f::x::r).length=m:=⟨_,rfl⟩;have hm2:2≤m:=by rw[←hm];simp
 rw[hm]at hlen;have hsz :∀z∈x::r,z.size≤1099511627776:=fun z hz=>aI (oV (c:=32) (s:=s) (by rw[hws];exact List.mem_cons_of_mem _ hz)).1 (by omega);have hl:(x::r).length≤1099511627776:=by have:(x::r).length+1=m:=hm;omega
 have iW:=hide hlo;have Hws:=hide hws;have Hm:=hide hm;have vI :¬(m:Int)<2:=by omega
 obtain⟨n1,e1⟩:=Gg h1;obtain⟨n2,e2⟩:=yL h2;obtain⟨n3,e3⟩:=Gh h3;obtain⟨n4,e4⟩:=Gi h4;obtain⟨n5,e5⟩:=Gj h5;obtain⟨n6,e6⟩:=Gl h6;obtain⟨n7,e7⟩:=Gm h7;obtain⟨n8,e8⟩:=Gn h8;obtain⟨n9,e9⟩:=yM h9;have HP:Hid (∀W,Calls Tryz.prog 72 #[.string s,.int .u8 32] W fun e w'=>∃v,e = .returned v∧w'.ownsRow W.heap.size 9 1 v (wordsOf 32 s).length ((wordsOf 32 s).map .string)∧Below W.heap.size W w'):=hide fun W=>pI s 32 (by omega) W;have HW:Hid (∀W g c,gX W g (f::x::r)→Calls Tryz.prog 122 #[.slice (some ⟨g,1,none⟩) (m-1) c] W fun e w'=>e = .returned (.bool true)∧W=w'):=hide fun W g c h=>by
  have e:m-1=(x::r).length:=by rw[←hm];rfl
  rw[e];refine(ry (S:=fun _=>True) (h.rd1 trivial) hl hsz).mono ?_;rintro e w' ⟨rfl,rfl⟩;exact⟨by rw[hall],rfl⟩
 clear hlo hws hall hsz hm hl h1 h2 h3 h4 h5 h6 h7 h8 h9;go_enter Tryz.func50,Tryz.ntmps50
 go_wp2_with(first
  | (go_at_call 72;(with_reducible refine(HP.out _).mono ?_);rintro e1 w1 ⟨v1,rfl,ho1,hB1⟩;rw[Hws.out,Hm.out]at ho1;obtain⟨g,c1,rfl,hg0,hg1,hc1,hc2,hcl⟩:=pJ Hm.out (by omega) ho1;have hgb :¬w1.heap.size=g:=(by omega);have HZ1:=hide ((lG w).next hB1);have iO:=hide hcl;have k0:w1.cell? ⟨g,0,none⟩=some (.string f):=hcl 0 _ rfl;have k1:w1.cell? ⟨g,1,none⟩=some (.string x):=hcl 1 _ rfl;clear ho1 hB1 hcl)
  | (go_at_call 122;(with_reducible refine(HW.out _ _ _ iO.out).mono ?_);rintro e2 w2 ⟨rfl,rfl⟩)
  | (refine wpList_store_mid rfl _ _ _ rfl w1.heap.size 0 (ag (⟨0,x,ae,ae,ae,Pt.zero,[]⟩:aY) Ph.zero none 0).toArray rfl rfl (oI w1 ak _) zag (jQ _ _ _ _) ?_;obtain⟨V,hV,hV1,hV2,gW⟩:=o5 w1 46 ak (ag (⟨0,x,ae,ae,ae,Pt.zero,[]⟩:aY) Ph.zero none 0) rfl;rw[←hV];have v0:=(hV2.cell (p:=⟨g,0,none⟩) hg1).trans k0;have HZ2:=hide (HZ1.out.next hV2);clear hV hV1 hV2 gW)
  | (refine wpList_store_mid rfl _ _ _ rfl w.heap.size 0 ak.toArray rfl rfl HZ2.out.ct zag Ai ?_;obtain⟨X,hX,hX1,hX2,dQ,iH⟩:=HZ2.out.stored ak rfl;rw[←hX];have fE:=hide hX1;have fD:=hide dQ;clear hX hX1 hX2 dQ iH))
 refine bodyPost_ret (v:= .tuple #[.agg gV.toArray,.bool false]) (mX Tryz.results50 rfl rfl fE.out rfl) rfl ⟨fD.out,_,_,_,_,false,rfl,fun h=>(by cases h),fun h=>iW.out⟩
end
section
open Go.RowKit
structure St(B rb R E:Nat)(w wx:World)(us zs:List Value)(lq:List UInt8)(bq:Bool):Prop where
 c:bP wx E us
 fc :∀o,wx.frozen? ⟨E,o,none⟩=false
 el:E<wx.heap.size
 r:bP wx R zs
 fr :∀o,wx.frozen? ⟨R,o,none⟩=false
 rl:R<E
 rbR:rb<R
 rd:fZ B rb wx lq bq
 sd:Side rb w wx
 wR:w.heap.size≤R
section
variable {B rb R E : Nat} {w wx w1 : World} {us zs : List Value} {lq l' : List UInt8} {bq b' : Bool}
theorem St.call(h:St B rb R E w wx us zs lq bq)(hs:Side rb wx w1)(hr:fZ B rb w1 l' b'):St B rb R E w w1 us zs l' b':=by
 have h1:=h.rbR;have h2:=h.rl;have h3:=h.el;obtain⟨a1,a2,a3⟩:=hs.box (N:=E) h3 (by omega);obtain⟨c1,c2,_⟩:=hs.box (N:=R) (by omega) (by omega);exact⟨fun j u hu=>(a1 j).trans (h.c j u hu),fun o=>(a2 o).trans (h.fc o),a3,fun j u hu=>(c1 j).trans (h.r j u hu),fun o=>(c2 o).trans (h.fr o),h2,h1,hr,Side.trans h.sd hs,h.wR⟩
theorem zjl{N:Nat}{w:World}{us:List Value}(h:bP w N us)(j:Nat)(v:Value)(hj:j<us.length):bP (w.setCell ⟨N,j,none⟩ v) N (us.set j v):=by
 intro i u hu;by_cases e:i=j
 ·subst e;have h0:=h i us[i] (by simp[hj]);rw[List.getElem?_set_self (by simpa using hj)]at hu;rw[World.cell?_setCell_same _ _ _ h0];exact hu
 ·rw[List.getElem?_set_ne (Ne.symm e)]at hu;rw[World.cell?_setCell_other _ _ _ _ (fun e2=>e (by injection e2 with _ e2;exact e2.symm))];exact h i u hu
theorem St.put(h:St B rb R E w wx us zs lq bq)(j:Nat)(v:Value)(hj:j<us.length):St B rb R E w (wx.setCell ⟨E,j,none⟩ v) (us.set j v) zs lq bq:=by
 have h1:=h.rbR;have h2:=h.rl;have h3:=h.wR;refine⟨zjl h.c j v hj,fun o=>by rw[World.frozen?_setCell];exact h.fc o,by simp[World.setCell];exact h.el,fun i u hu=>?_,fun o=>by rw[World.frozen?_setCell];exact h.fr o,h2,h1,h.rd.setNew (a:=⟨E,j,none⟩) (by show rb<E;omega) v,Side.setNew h.sd (a:=⟨E,j,none⟩) (by show w.heap.size≤E;omega) v,h.wR⟩;rw[World.cell?_setCell_other _ _ _ _ (fun e=>by injection e with e1;omega)];exact h.r i u hu
theorem pK{b b' bd:Bool}{E1 E2 G N R:Prop}(hI:(b=false∧bd=false∧E1)∨(b=true∧R))(h:(G∧b'=b)∨(b'=true∧N))(hg:E1→G→E2)(hb:E1→N→R):(b'=false∧bd=false∧E2)∨(b'=true∧R):=by
 rcases hI with⟨i1,i2,i3⟩|⟨i1,i2⟩
 ·rcases h with⟨g,e⟩|⟨e,n⟩
  ·exact .inl ⟨by rw[e,i1],i2,hg i3 g⟩
  ·exact .inr ⟨e,hb i3 n⟩
 ·refine .inr ⟨?_,i2⟩;rcases h with⟨_,e⟩|⟨e,_⟩
  ·rw[e,i1]
  ·exact e
theorem Rw{b b' bd:Bool}{E1 E2 G N R:Prop}(hI:(b=false∧bd=false∧E1)∨(b=true∧R))(h:(b'=false∧b=false∧G)∨(b'=true∧(b=true∨N)))(hg:E1→G→E2)(hb:E1→N→R):(b'=false∧bd=false∧E2)∨(b'=true∧R):=by
 rcases hI with⟨i1,i2,i3⟩|⟨i1,i2⟩
 ·rcases h with⟨e,_,g⟩|⟨e,h|n⟩
  ·exact .inl ⟨e,i2,hg i3 g⟩
  ·rw[i1]at h;cases h
  ·exact .inr ⟨e,hb i3 n⟩
 ·refine .inr ⟨?_,i2⟩;rcases h with⟨_,e,_⟩|⟨e,_⟩
  ·rw[i1]at e;cases e
  ·exact e
end
theorem vJ{P:Nat→Prop}{b:Nat}{w:World}(hb :¬P b):∀(vs:List Value) (o:Nat) {w':World},Keep P w w'→Keep P w (w'.setCells b o vs)
 | [],_,_,h=>h
 | v::r,o,_,h=>vJ hb r (o+1) (Keep.setCell h (a:=⟨b,o,none⟩) hb v)
theorem WS{B rb:Nat}{w w2:World}{cs ds:Array Value}{T T':TypeId}{la:List UInt8}{ba:Bool}(hrb:rb<w.heap.size)(hr:fZ B rb w2 la ba)(hs:Side rb (w.alloc (.cells ds T')) w2):St B rb w.heap.size w2.heap.size w (w2.alloc (.cells cs T)) cs.toList ds.toList la ba:=by
 have hz:=hs.size;rw[World.size_alloc]at hz;obtain⟨a1,a2,a3⟩:=hs.box (N:=w.heap.size) (by simp) (by omega);have hold:(w2.alloc (.cells cs T)).heap[w.heap.size]?=w2.heap[w.heap.size]?:=heap_alloc_old w2 _ (by omega);refine⟨fun j u hu=>?_,fun o=>by simp,by simp,fun j u hu=>?_,fun o=>?_,by omega,hrb,hr.alloc _,Side.alloc (Side.trans (Side.alloc (Side.refl rb w) _) hs) _,aC _⟩
 ·rw[Lib.cell_of_heap (heap_alloc_new w2 _)];simpa using hu
 ·rw[World.cell?_of_block (a:=⟨w.heap.size,j,none⟩) hold,a1 j,Lib.cell_of_heap (heap_alloc_new w _)];simpa using hu
 ·rw[World.frozen?_of_block (a:=⟨w.heap.size,o,none⟩) hold,a2 o];simp
def Ci(B rb:Nat)(w:World)(l:List UInt8)(bd:Bool)(e1:Ending)(w':World):Prop:=∃(e:Ed) (x:Eh) (l':List UInt8) (jq:Bool),e1 = .returned (.agg #[.int .u8 e.kind,.slice x.pA e.path.length x.pc,.int .i64 e.at_,.int .i64 e.far,.string e.frm,.string e.to,.slice x.oA e.old.len x.oc,.slice x.nA e.new.len x.nc])∧dm (fun b=>w.heap.size≤b) w' x e∧mi e∧fZ B rb w' l' jq∧Side rb w w'∧l'.length≤l.length∧
   ((jq=false∧bd=false∧l=jg e++l')∨(jq=true∧(bd=true∨¬mF 0 l)))
theorem rH{B rb:Nat}{w:World}{l:List UInt8}{bd:Bool}(h:fZ B rb w l bd)(hl:l.length≤lid):Calls Tryz.prog 289 #[.pointer (some ⟨rb,0,none⟩),.int .i64 41] w (jk B rb 41 w l bd):=
 zfM 41 (aC _) B rb w l bd h hl
theorem zhV{B rb:Nat}{w:World}{l:List UInt8}{bd:Bool}(h:fZ B rb w l bd)(hl:l.length≤lid):Calls Tryz.prog 270 #[.pointer (some ⟨rb,0,none⟩)] w (Ci B rb w l bd):=by
 have hrb:=h.lt;have hll:l.length≤1099511627776:=hl;have H0:=hide (h.alloc (.cells #[.int .u8 0,.slice none 0 0,.int .i64 0,.int .i64 0,.string ⟨#[]⟩,.string ⟨#[]⟩,.slice none 0 0,.slice none 0 0] 41));clear h hl;go_enter Tryz.func270,Tryz.ntmps270
 go_upto_region 9 with(first
  | (go_at_call 266;(with_reducible refine(NG H0.out).mono ?_);rintro e w2 ⟨x,la,ba,rfl,hr,hs,hx⟩;have Cj:=x.toNat_lt;have iG:=hide hx;have hle2:la.length≤l.length:=(by rcases hx with⟨e,_⟩|⟨_,e,_⟩<;>rw[e]<;>simp);have S2:Hid (St B rb w.heap.size w2.heap.size w (w2.alloc (.cells #[.int .u8 x.toNat,.slice none 0 0,.int .i64 0,.int .i64 0,.string ⟨#[]⟩,.string ⟨#[]⟩,.slice none 0 0,.slice none 0 0] 41)) [.int .u8 x.toNat,.slice none 0 0,.int .i64 0,.int .i64 0,.string ⟨#[]⟩,.string ⟨#[]⟩,.slice none 0 0,.slice none 0 0] [.int .u8 0,.slice none 0 0,.int .i64 0,.int .i64 0,.string ⟨#[]⟩,.string ⟨#[]⟩,.slice none 0 0,.slice none 0 0] la ba):=hide (WS hrb hr hs);clear hr hs hx)
  | (go_at_call 288;(with_reducible refine(Zb S2.out.rd (by simp only[lid];omega)).mono ?_);rintro e w3 ⟨p,lb,bb,pA,pc,rfl,hin,Rx,Ry,hr,hs,hle3,hx⟩;have hS:=S2.out.call hs hr;have k3:=hS.c 1 _ rfl;have WT:=hS.fc 1;have S3:Hid (St B rb w.heap.size w2.heap.size w (w3.setCell ⟨w2.heap.size,1,none⟩ (.slice pA p.length pc)) [.int .u8 x.toNat,.slice pA p.length pc,.int .i64 0,.int .i64 0,.string ⟨#[]⟩,.string ⟨#[]⟩,.slice none 0 0,.slice none 0 0] [.int .u8 0,.slice none 0 0,.int .i64 0,.int .i64 0,.string ⟨#[]⟩,.string ⟨#[]⟩,.slice none 0 0,.slice none 0 0] lb bb):=hide (hS.put 1 (.slice pA p.length pc) (by simp));have fD:=hide hx;have hL:Late w2.heap.size (w2.alloc (.cells #[.int .u8 x.toNat,.slice none 0 0,.int .i64 0,.int .i64 0,.string ⟨#[]⟩,.string ⟨#[]⟩,.slice none 0 0,.slice none 0 0] 41)) (w3.setCell ⟨w2.heap.size,1,none⟩ (.slice pA p.length pc)):=Late.set (Late.side (Late.refl w2.heap.size (w2.alloc (.cells #[.int .u8 x.toNat,.slice none 0 0,.int .i64 0,.int .i64 0,.string ⟨#[]⟩,.string ⟨#[]⟩,.slice none 0 0,.slice none 0 0] 41))) (by have:=S2.out.rbR;have:=S2.out.rl;omega) hs) (a:=⟨w2.heap.size,1,none⟩) (aC _) (.slice pA p.length pc);have hEl:=S2.out.el;have Ot:=hide ((hin.mono (S':=fun b=>w2.heap.size<b) (fun b _ hb=>aH hEl hb)).late (Late.set (Late.refl w2.heap.size w3) (a:=⟨w2.heap.size,1,none⟩) (aC _) (.slice pA p.length pc)));have Gp:Hid (gY p):=hide ⟨hin.2.1,hin.2.2⟩;clear hr hs hx hS hL hin hEl)
  | (go_at_call 268;(with_reducible refine(Iu S3.out.rd).mono ?_);rintro e w4 ⟨a,lc,bc,rfl,hna,hr,hs,Cb,hx⟩;have hS:=S3.out.call hs hr;have k4:=hS.c 2 _ rfl;have Ou:=hS.fc 2;have S4:Hid (St B rb w.heap.size w2.heap.size w (w4.setCell ⟨w2.heap.size,2,none⟩ (.int .i64 a)) [.int .u8 x.toNat,.slice pA p.length pc,.int .i64 a,.int .i64 0,.string ⟨#[]⟩,.string ⟨#[]⟩,.slice none 0 0,.slice none 0 0] [.int .u8 0,.slice none 0 0,.int .i64 0,.int .i64 0,.string ⟨#[]⟩,.string ⟨#[]⟩,.slice none 0 0,.slice none 0 0] lc bc):=hide (hS.put 2 (.int .i64 a) (by simp));have qy:=hide hx;have hL:Late w2.heap.size (w3.setCell ⟨w2.heap.size,1,none⟩ (.slice pA p.length pc)) (w4.setCell ⟨w2.heap.size,2,none⟩ (.int .i64 a)):=Late.set (Late.side (Late.refl w2.heap.size (w3.setCell ⟨w2.heap.size,1,none⟩ (.slice pA p.length pc))) (by have:=S3.out.rbR;have:=S3.out.rl;omega) hs) (a:=⟨w2.heap.size,2,none⟩) (aC _) (.int .i64 a);have fF:=hide (Ot.out.late hL);have vK:=hide hna;clear hna;clear hr hs hx hS hL)
  | (go_at_call 268;(with_reducible refine(Iu S4.out.rd).mono ?_);rintro e w5 ⟨fa,le,be,rfl,hnf,hr,hs,Kt,hx⟩;have hS:=S4.out.call hs hr;have k5:=hS.c 3 _ rfl;have WU:=hS.fc 3;have S5:Hid (St B rb w.heap.size w2.heap.size w (w5.setCell ⟨w2.heap.size,3,none⟩ (.int .i64 fa)) [.int .u8 x.toNat,.slice pA p.length pc,.int .i64 a,.int .i64 fa,.string ⟨#[]⟩,.string ⟨#[]⟩,.slice none 0 0,.slice none 0 0] [.int .u8 0,.slice none 0 0,.int .i64 0,.int .i64 0,.string ⟨#[]⟩,.string ⟨#[]⟩,.slice none 0 0,.slice none 0 0] le be):=hide (hS.put 3 (.int .i64 fa) (by simp));have Ku:=hide hx;have hL:Late w2.heap.size (w4.setCell ⟨w2.heap.size,2,none⟩ (.int .i64 a)) (w5.setCell ⟨w2.heap.size,3,none⟩ (.int .i64 fa)):=Late.set (Late.side (Late.refl w2.heap.size (w4.setCell ⟨w2.heap.size,2,none⟩ (.int .i64 a))) (by have:=S4.out.rbR;have:=S4.out.rl;omega) hs) (a:=⟨w2.heap.size,3,none⟩) (aC _) (.int .i64 fa);have HP5:=hide (fF.out.late hL);have Eo:=hide hnf;clear hnf;clear hr hs hx hS hL)
  | (go_at_call 267;(with_reducible refine(Iw S5.out.rd (by simp only[aP];omega)).mono ?_);rintro e w6 ⟨s,lf,bf,rfl,hsz,hr,hs,Kv,hx⟩;have hS:=S5.out.call hs hr;have k6:=hS.c 4 _ rfl;have WV:=hS.fc 4;have S6:Hid (St B rb w.heap.size w2.heap.size w (w6.setCell ⟨w2.heap.size,4,none⟩ (.string s)) [.int .u8 x.toNat,.slice pA p.length pc,.int .i64 a,.int .i64 fa,.string s,.string ⟨#[]⟩,.slice none 0 0,.slice none 0 0] [.int .u8 0,.slice none 0 0,.int .i64 0,.int .i64 0,.string ⟨#[]⟩,.string ⟨#[]⟩,.slice none 0 0,.slice none 0 0] lf bf):=hide (hS.put 4 (.string s) (by simp));have Em:=hide hx;have hL:Late w2.heap.size (w5.setCell ⟨w2.heap.size,3,none⟩ (.int .i64 fa)) (w6.setCell ⟨w2.heap.size,4,none⟩ (.string s)):=Late.set (Late.side (Late.refl w2.heap.size (w5.setCell ⟨w2.heap.size,3,none⟩ (.int .i64 fa))) (by have:=S5.out.rbR;have:=S5.out.rl;omega) hs) (a:=⟨w2.heap.size,4,none⟩) (aC _) (.string s);have HP6:=hide (HP5.out.late hL);clear hr hs hx hS hL)
  | (go_at_call 267;(with_reducible refine(Iw S6.out.rd (by simp only[aP];omega)).mono ?_);rintro e w7 ⟨t,lg,bg,rfl,htz,hr,hs,hle7,hx⟩;have hS:=S6.out.call hs hr;have k7:=hS.c 5 _ rfl;have kf7:=hS.fc 5;have S7:Hid (St B rb w.heap.size w2.heap.size w (w7.setCell ⟨w2.heap.size,5,none⟩ (.string t)) [.int .u8 x.toNat,.slice pA p.length pc,.int .i64 a,.int .i64 fa,.string s,.string t,.slice none 0 0,.slice none 0 0] [.int .u8 0,.slice none 0 0,.int .i64 0,.int .i64 0,.string ⟨#[]⟩,.string ⟨#[]⟩,.slice none 0 0,.slice none 0 0] lg bg):=hide (hS.put 5 (.string t) (by simp));have HX7:=hide hx;have hL:Late w2.heap.size (w6.setCell ⟨w2.heap.size,4,none⟩ (.string s)) (w7.setCell ⟨w2.heap.size,5,none⟩ (.string t)):=Late.set (Late.side (Late.refl w2.heap.size (w6.setCell ⟨w2.heap.size,4,none⟩ (.string s))) (by have:=S6.out.rbR;have:=S6.out.rl;omega) hs) (a:=⟨w2.heap.size,5,none⟩) (aC _) (.string t);have HP7:=hide (HP6.out.late hL);clear hr hs hx hS hL)
  | (go_at_call 289;(with_reducible refine(rH S7.out.rd (by simp only[lid];omega)).mono ?_);rintro e w8 ⟨f6,lh,bh,oA,oc,rfl,hin,P5,ho1,ho2,hr,hs,hle8,hx⟩;have hS:=S7.out.call hs hr;have k8:=hS.c 6 _ rfl;have kf8:=hS.fc 6;have S8:Hid (St B rb w.heap.size w2.heap.size w (w8.setCell ⟨w2.heap.size,6,none⟩ (.slice oA f6.len oc)) [.int .u8 x.toNat,.slice pA p.length pc,.int .i64 a,.int .i64 fa,.string s,.string t,.slice oA f6.len oc,.slice none 0 0] [.int .u8 0,.slice none 0 0,.int .i64 0,.int .i64 0,.string ⟨#[]⟩,.string ⟨#[]⟩,.slice none 0 0,.slice none 0 0] lh bh):=hide (hS.put 6 (.slice oA f6.len oc) (by simp));have HX8:=hide hx;have hL:Late w2.heap.size (w7.setCell ⟨w2.heap.size,5,none⟩ (.string t)) (w8.setCell ⟨w2.heap.size,6,none⟩ (.slice oA f6.len oc)):=Late.set (Late.side (Late.refl w2.heap.size (w7.setCell ⟨w2.heap.size,5,none⟩ (.string t))) (by have:=S7.out.rbR;have:=S7.out.rl;omega) hs) (a:=⟨w2.heap.size,6,none⟩) (aC _) (.slice oA f6.len oc);have HP8:=hide (HP7.out.late hL);have hEl:=S7.out.el;have HO8:=hide ((hin.mono (S':=fun b=>w2.heap.size<b) (fun b _ hb=>aH hEl hb)).late (Late.set (Late.refl w2.heap.size w8) (a:=⟨w2.heap.size,6,none⟩) (aC _) (.slice oA f6.len oc)));clear hr hs hx hS hL hin hEl)
  | (go_at_call 289;(with_reducible refine(rH S8.out.rd (by simp only[lid];omega)).mono ?_);rintro e w9 ⟨f7,li,bi,nA,nc,rfl,hin,UZ,hn1,hn2,hr,hs,hle9,hx⟩;have hS:=S8.out.call hs hr;have k9:=hS.c 7 _ rfl;have kf9:=hS.fc 7;have S9:Hid (St B rb w.heap.size w2.heap.size w (w9.setCell ⟨w2.heap.size,7,none⟩ (.slice nA f7.len nc)) [.int .u8 x.toNat,.slice pA p.length pc,.int .i64 a,.int .i64 fa,.string s,.string t,.slice oA f6.len oc,.slice nA f7.len nc] [.int .u8 0,.slice none 0 0,.int .i64 0,.int .i64 0,.string ⟨#[]⟩,.string ⟨#[]⟩,.slice none 0 0,.slice none 0 0] li bi):=hide (hS.put 7 (.slice nA f7.len nc) (by simp));have HX9:=hide hx;have hL:Late w2.heap.size (w8.setCell ⟨w2.heap.size,6,none⟩ (.slice oA f6.len oc)) (w9.setCell ⟨w2.heap.size,7,none⟩ (.slice nA f7.len nc)):=Late.set (Late.side (Late.refl w2.heap.size (w8.setCell ⟨w2.heap.size,6,none⟩ (.slice oA f6.len oc))) (by have:=S8.out.rbR;have:=S8.out.rl;omega) hs) (a:=⟨w2.heap.size,7,none⟩) (aC _) (.slice nA f7.len nc);have WW:=hide (HP8.out.late hL);have WY:=hide (HO8.out.late hL);have hEl:=S8.out.el;have WZ:=hide ((hin.mono (S':=fun b=>w2.heap.size<b) (fun b _ hb=>aH hEl hb)).late (Late.set (Late.refl w2.heap.size w9) (a:=⟨w2.heap.size,7,none⟩) (aC _) (.slice nA f7.len nc)));clear hr hs hx hS hL hin hEl))
 obtain⟨WX,ni⟩:∃WX,WX=(w9.setCell ⟨w2.heap.size,7,none⟩ (.slice nA f7.len nc)):=⟨_,rfl⟩;rw[←ni]at S9 WW WY WZ⊢;clear ni;have e0:=S9.out.c 0 _ rfl;have e1:=S9.out.c 1 _ rfl;have e2:=S9.out.c 2 _ rfl;have e3:=S9.out.c 3 _ rfl;have e4:=S9.out.c 4 _ rfl;have e5:=S9.out.c 5 _ rfl;have e6:=S9.out.c 6 _ rfl;have e7:=S9.out.c 7 _ rfl;have r0:=S9.out.r 0 _ rfl;have r1:=S9.out.r 1 _ rfl;have r2:=S9.out.r 2 _ rfl;have r3:=S9.out.r 3 _ rfl;have r4:=S9.out.r 4 _ rfl;have r5:=S9.out.r 5 _ rfl;have r6:=S9.out.r 6 _ rfl;have r7:=S9.out.r 7 _ rfl;have hfr:=S9.out.fr;have Rz:=S9.out.rl;have hbR:=S9.out.rbR;obtain⟨wF,hF⟩:∃wF,wF=World.setCells WX w.heap.size 0 [.int .u8 x.toNat,.slice pA p.length pc,.int .i64 a,.int .i64 fa,.string s,.string t,.slice oA f6.len oc,.slice nA f7.len nc]:=⟨_,rfl⟩;have hR:bP wF w.heap.size [.int .u8 x.toNat,.slice pA p.length pc,.int .i64 a,.int .i64 fa,.string s,.string t,.slice oA f6.len oc,.slice nA f7.len nc]:=by
  rw[hF];have:=uZ S9.out.r 0 [.int .u8 x.toNat,.slice pA p.length pc,.int .i64 a,.int .i64 fa,.string s,.string t,.slice oA f6.len oc,.slice nA f7.len nc] (by simp)
  simpa using this
 have Au:Hid (fZ B rb wF li bi):=hide (by rw[hF];exact S9.out.rd.keep fun b hb=>jG w.heap.size (by omega) _ _ _);have Gq:Hid (Side rb w wF):=hide (by rw[hF];exact vJ (fun hk=>absurd hk.1 (Nat.lt_irrefl _)) _ 0 S9.out.sd);have uD:Late w2.heap.size WX wF:=by rw[hF];exact vJ (fun hk=>by have:=hk.1;omega) _ 0 (Late.refl _ _)
 have mM:=hide ((WW.out.late uD).mono (S':=fun b=>w.heap.size≤b) (fun b _ hb=>by omega));have RD:=hide ((WY.out.late uD).mono (S':=fun b=>w.heap.size≤b) (fun b _ hb=>by omega));have RF:=hide ((WZ.out.late uD).mono (S':=fun b=>w.heap.size≤b) (fun b _ hb=>by omega));clear uD;simp only[World.setCells,Nat.reduceAdd]at hF;have HR:=hide hR;have HF:=hide hF;clear hR hF S2 S3 S4 S5 S6 S7 S8 S9 k3 WT k4 Ou k5 WU k6 WV k7 kf7 k8 kf8 k9 kf9
 go_wp2_with fail
 rw[←HF.out];clear HF;have q0:=HR.out 0 _ rfl;have q1:=HR.out 1 _ rfl;have q2:=HR.out 2 _ rfl;have q3:=HR.out 3 _ rfl;have q4:=HR.out 4 _ rfl;have q5:=HR.out 5 _ rfl;have q6:=HR.out 6 _ rfl;have q7:=HR.out 7 _ rfl;refine bodyPost_ret (v:= .agg #[.int .u8 x.toNat,.slice pA p.length pc,.int .i64 a,.int .i64 fa,.string s,.string t,.slice oA f6.len oc,.slice nA f7.len nc]) ?_ rfl ?_
 ·simp only[results,Tryz.results270];go_simp
 ·have I0:(bd=false∧bd=false∧True)∨(bd=true∧(bd=true∨¬mF 0 l)):=by cases bd<;>simp
  have I1:=pK (E2:=l=x::la) I0 (iG.out.imp id fun h=>⟨h.2.2,h.1⟩) (fun _ g=>g) (fun _ n=> .inr (by rw[n];exact JL));have I2:=pK (E2:=l=x::(cO p++lb)) I1 fD.out (fun e g=>by rw[e,g]) (fun e n=> .inr (by rw[e];exact FB n));have I3:=pK (E2:=l=x::(cO p++(au a++lc))) I2 (qy.out.imp id fun h=>⟨h.2.1,h.1⟩) (fun e g=>by rw[e,g]) (fun e n=> .inr (by rw[e];exact FC Gp.out n));have I4:=pK (E2:=l=x::(cO p++(au a++(au fa++le)))) I3 (Ku.out.imp id fun h=>⟨h.2.1,h.1⟩) (fun e g=>by rw[e,g]) (fun e n=> .inr (by rw[e];exact FD Gp.out vK.out n));have I5:=pK (E2:=l=x::(cO p++(au a++(au fa++(ax s++lf))))) I4 (Em.out.imp (fun h=>h) fun h=>h) (fun e g=>by rw[e,g]) (fun e n=> .inr (by rw[e];exact FH Gp.out vK.out Eo.out n));have I6:=pK (E2:=l=x::(cO p++(au a++(au fa++(ax s++(ax t++lg)))))) I5 HX7.out (fun e g=>by rw[e,g]) (fun e n=> .inr (by rw[e];exact FI Gp.out vK.out Eo.out hsz n));have I7:=Rw (E2:=l=x::(cO p++(au a++(au fa++(ax s++(ax t++(aO f6++lh))))))) I6 HX8.out (fun e g=>by rw[e,g.1]) (fun e n=> .inr (by rw[e];exact FK Gp.out vK.out Eo.out hsz htz n));have I8:=Rw (E2:=l=x::(cO p++(au a++(au fa++(ax s++(ax t++(aO f6++(aO f7++li)))))))) I7 HX9.out (fun e g=>by rw[e,g.1]) (fun e n=> .inr (by rw[e];exact FM Gp.out vK.out Eo.out hsz htz ⟨P5,aI ho1 ho2⟩ n));refine⟨⟨x.toNat,p,a,fa,s,t,f6,f7⟩,⟨pA,pc,oA,oc,nA,nc⟩,li,bi,rfl,⟨Cj,mM.out,vK.out,Eo.out,hsz,htz,RD.out,RF.out,⟨Rx,Ry⟩,⟨ho1,ho2⟩,⟨hn1,hn2⟩⟩,⟨Cj,Gp.out,vK.out,Eo.out,hsz,htz,⟨P5,aI ho1 ho2⟩,⟨UZ,aI hn1 hn2⟩⟩,Au.out,Gq.out,by omega,?_⟩;rcases I8 with⟨g1,g2,g3⟩|h
  ·refine .inl ⟨g1,g2,?_⟩;rw[g3];simp[jg]
  ·exact .inr h
end
end Go.Proofs.YtjjaojnglnpgaaaGreatDoor
