/- Part 29 of what scriptShows_cardUpto rests on. -/
import Derived.Deep.RegionHeld
import Derived.BigRegion
import Derived.IntWalk
import Derived.Deep.CutBlock
import Derived.Deep.DeepCutAuto
import Derived.Test.YtjjaojnglnpgaaaGreatDoorZ21
import Derived.Test.YtjjaojnglnpgaaaGreatDoorZ07
import Derived.Test.YtjjaojnglnpgaaaGreatDoorZ06
import Derived.Test.YtjjaojnglnpgaaaGreatDoorZ13
import Derived.Test.YtjjaojnglnpgaaaGreatDoorZ12
import Derived.Test.YtjjaojnglnpgaaaGreatDoorZ08
import Derived.Test.YtjjaojnglnpgaaaGreatDoorZ23
import Derived.Test.YtjjaojnglnpgaaaGreatDoorZ09
import Derived.Test.YtjjaojnglnpgaaaGreatDoorZ26
import Derived.Test.YtjjaojnglnpgaaaGreatDoorZ27
import Derived.Test.YtjjaojnglnpgaaaGreatDoorZ00
set_option linter.unusedVariables false
set_option linter.unusedSimpArgs false
set_option maxHeartbeats 16000000
set_option maxRecDepth 1000000
namespace Go.Proofs.YtjjaojnglnpgaaaGreatDoor
section
open Go.RowKit
theorem aY.eq_iff{a b:aY}:a=b↔a.kind=b.kind∧a.repo=b.repo∧a.frm=b.frm∧a.name=b.name∧a.file=b.file∧a.patch=b.patch∧a.bytes=b.bytes:=by cases a;cases b;simp
abbrev bU(p:Pt)(x:Ph):List Value:=[.int .u8 p.kind,.string p.file,.string p.text,.int .i64 p.hunk.at_,.slice x.h.oA p.hunk.old.length x.h.oc,.slice x.h.nA p.hunk.new.length x.h.nc,.int .u8 p.edit.kind,.slice x.e.pA p.edit.path.length x.e.pc,.int .i64 p.edit.at_,.int .i64 p.edit.far,.string p.edit.frm,.string p.edit.to,.slice x.e.oA p.edit.old.len x.e.oc,.slice x.e.nA p.edit.new.len x.e.nc]
theorem uF{w:World}{b:Nat}{pre mid post:List Value}(h:w.rangeAt b 0 (pre++(mid++post))):w.rangeAt b pre.length mid:=fun j v hv=>by
 have hj:j<mid.length:=(List.getElem?_eq_some_iff.1 hv).1;have:=h (pre.length+j) v (by rw[List.getElem?_append_right (Nat.le_add_right _ _),Nat.add_sub_cancel_left,List.getElem?_append_left hj];exact hv)
 rwa [Nat.zero_add]at this
theorem Gt{w:World}{b:Nat}{c:aY}{x:Ph}{A:Option Addr}{n:Nat}(h:w.rangeAt b 0 (ag c x A n)):w.rangeAt b 5 (bU c.patch x):=
 uF (pre:=[.int .u8 c.kind,.string c.repo,.string c.frm,.string c.name,.string c.file]) (mid:=bU c.patch x) (post:=[.slice A c.bytes.length n]) h
theorem RG{S S':Nat→Prop}{x y:Ph}{A A':Option Addr}{n n':Nat}{a b:aY}{w:World}(ha:dF S w a x A n)(hb:dF S' w b y A' n'):
  Calls Tryz.prog 51 #[.agg (ag a x A n).toArray,.agg (ag b y A' n').toArray] w fun e w'=>ah (a=b) e∧Below w.heap.size w w':=by
 obtain⟨W0,hW0⟩:∃W0,W0=(w.alloc (.cells (ag a x A n).toArray 46)).alloc (.cells (ag b y A' n').toArray 46):=⟨_,rfl⟩;have hB0:Below w.heap.size w W0:=by rw[hW0];exact iD _ _
 have hra:W0.rangeAt w.heap.size 0 (ag a x A n):=by rw[hW0];exact World.rangeAt_alloc (fun j v hv=>by rw[Lib.cell_of_heap (heap_alloc_new w _),Nat.zero_add];simpa using hv) _
 have hrb:W0.rangeAt (w.heap.size+1) 0 (ag b y A' n'):=by
  rw[hW0];intro j v hv;have h:=heap_alloc_new (w.alloc (.cells (ag a x A n).toArray 46)) (.cells (ag b y A' n').toArray 46);rw[show(w.alloc (.cells (ag a x A n).toArray 46)).heap.size=w.heap.size+1 by simp]at h;rw[Lib.cell_of_heap h,Nat.zero_add]
  simpa using hv
 have a0:=hra 0 _ rfl;have a1:=hra 1 _ rfl;have a2:=hra 2 _ rfl;have a3:=hra 3 _ rfl;have a4:=hra 4 _ rfl;have a5:=hra 5 _ rfl;have a6:=hra 6 _ rfl;have a7:=hra 7 _ rfl;have a8:=hra 8 _ rfl;have a9:=hra 9 _ rfl;have a10:=hra 10 _ rfl;have a11:=hra 11 _ rfl;have a12:=hra 12 _ rfl;have BO:=hra 13 _ rfl;have KN:=hra 14 _ rfl;have KO:=hra 15 _ rfl;have a16:=hra 16 _ rfl;have a17:=hra 17 _ rfl;have KP:=hra 18 _ rfl;have Gu:=hra 19 _ rfl;have b0:=hrb 0 _ rfl;have b1:=hrb 1 _ rfl;have b2:=hrb 2 _ rfl;have b3:=hrb 3 _ rfl;have b4:=hrb 4 _ rfl;have b5:=hrb 5 _ rfl;have b6:=hrb 6 _ rfl;have b7:=hrb 7 _ rfl;have b8:=hrb 8 _ rfl;have b9:=hrb 9 _ rfl;have b10:=hrb 10 _ rfl;have b11:=hrb 11 _ rfl;have b12:=hrb 12 _ rfl;have b13:=hrb 13 _ rfl;have b14:=hrb 14 _ rfl;have b15:=hrb 15 _ rfl;have b16:=hrb 16 _ rfl;have b17:=hrb 17 _ rfl;have b18:=hrb 18 _ rfl;have b19:=hrb 19 _ rfl;simp only[Nat.zero_add]at a0 a1 a2 a3 a4 a5 a6 a7 a8 a9 a10 a11 a12 BO KN KO a16 a17 KP Gu b0 b1 b2 b3 b4 b5 b6 b7 b8 b9 b10 b11 b12 b13 b14 b15 b16 b17 b18 b19;have Ha:=hide (ha.below hB0);have Hb:=hide (hb.below hB0);have Bc:=hide (@aY.eq_iff a b);have lX:=hide (And.intro (dZ (s:=a.repo) (t:=b.repo)) (And.intro (dZ (s:=a.frm) (t:=b.frm)) (And.intro (dZ (s:=a.name) (t:=b.name)) (dZ (s:=a.file) (t:=b.file)))));have HB0:=hide hB0;clear ha hb hra hrb hB0;go_enter Tryz.func51,Tryz.ntmps51
 go_upto_region 1 with fail
 change Code.wp _ _ _ _ ((w.alloc (.cells (ag a x A n).toArray 46)).alloc (.cells (ag b y A' n').toArray 46));rw[←hW0];clear hW0
 go_wp2_with(first
  | (go_at_call 124;(with_reducible refine(Io Ha.out.patch Hb.out.patch).mono ?_);rintro e w1 ⟨⟨b1,rfl,hb⟩,hB⟩;have Hb1:=hide hb;have HB1:=hide hB;have a19':=(hB.cell (block_lt_of_cell Gu)).trans Gu;have b19':=(hB.cell (block_lt_of_cell b19)).trans b19;clear hb hB)
  | (go_at_call 66;(with_reducible refine(Yn (Ha.out.bytes.below HB1.out) (Hb.out.bytes.below HB1.out)).mono ?_);rintro e w2 ⟨⟨b2,rfl,hb⟩,q2,rfl⟩;have Hb2:=hide hb;clear hb))
 all_goals
  go_ret;go_tidy;refine⟨ah.mk ?_,?_⟩
  ·rw[Bc.out]
   first
    | (have lu:=Hb1.out;have oM:=Hb2.out;clear Hb1 Hb2;have ht:=lX.out;grind)
    | (have lu:=Hb1.out;clear Hb1;have ht:=lX.out;grind)
    | (have ht:=lX.out;grind)
  ·first
    | exact HB0.out
    | exact HB0.out.trans (HB1.out.mono HB0.out.size)
    | exact HB0.out.trans ((di HB1.out _).mono HB0.out.size)
theorem zel{S S':Nat→Prop}{x y:Ph}{A A':Option Addr}{n n':Nat}{a:aY}{w:World}(ha:dF S w a x A n)(hb:dF S' w a y A' n'):
  Calls Tryz.prog 51 #[.agg (ag a x A n).toArray,.agg (ag a y A' n').toArray] w fun e w'=>e = .returned (.bool true)∧Below w.heap.size w w':=by
 refine(RG ha hb).mono ?_;rintro e w' ⟨⟨b,rfl,hb⟩,hB⟩;exact⟨by rw[hb.2 rfl],hB⟩
theorem Pt.zero_iff{p:Pt}:p=Pt.zero↔p.kind=0∧p.file=ae∧p.text=ae∧p.hunk.at_=0∧p.hunk.old.length+p.hunk.new.length=0∧p.edit.kind=0∧p.edit.at_=0∧p.edit.far=0∧p.edit.frm=ae∧p.edit.to=ae∧p.edit.path.length+p.edit.old.len+p.edit.new.len=0:=by
 obtain⟨k,f,t,⟨ha,ho,hn⟩,⟨ek,ep,ea,ef,er,et,eo,en⟩⟩:=p;simp only[Pt.zero,Hk.zero,Ed.zero,Pt.mk.injEq,Hk.mk.injEq,Ed.mk.injEq,Iy];constructor
 ·rintro⟨h1,h2,h3,⟨h4,h5,h6⟩,h7,h8,h9,h10,h11,h12,h13,h14⟩;subst h5 h6 h8;simp_all
 ·rintro⟨h1,h2,h3,h4,h5,h6,h7,h8,h9,h10,h11⟩;exact⟨h1,h2,h3,⟨h4,List.length_eq_zero_iff.1 (by omega),List.length_eq_zero_iff.1 (by omega)⟩,h6,List.length_eq_zero_iff.1 (by omega),h7,h8,h9,h10,by omega,by omega⟩
theorem isE{s:ByteArray}:s.toList.isEmpty=true↔s=ae:=by
 rw[List.isEmpty_iff];have h:ae.toList=[]:=(mg _).2 (by decide);constructor
 ·intro e;exact dZ.1 (e.trans h.symm)
 ·rintro rfl;exact h
theorem yO{p:Pt}(hl1:p.hunk.old.length+p.hunk.new.length≤4611686018427387904)(hl2:p.edit.path.length+p.edit.old.len+p.edit.new.len≤4611686018427387904){g1 g2 g3 g4 g5 g6 g7 g8 g9 g10 g11:Bool}
  (h1:((p.kind:Int) == 0)=g1) (h2:(g1 && p.file.toList.isEmpty)=g2) (h3:(g2 && p.text.toList.isEmpty)=g3) (h4:(g3 && (p.hunk.at_ == 0))=g4)
  (h5:(g4 && (IntKind.i64.wrap ((p.hunk.old.length:Int)+p.hunk.new.length) == 0))=g5) (h6:(g5 && ((p.edit.kind:Int) == 0))=g6) (h7:(g6 && (p.edit.at_ == 0))=g7) (h8:(g7 && (p.edit.far == 0))=g8)
  (h9:(g8 && p.edit.frm.toList.isEmpty)=g9) (h10:(g9 && p.edit.to.toList.isEmpty)=g10) (h11:(g10 && (IntKind.i64.wrap (IntKind.i64.wrap ((p.edit.path.length:Int)+p.edit.old.len)+p.edit.new.len) == 0))=g11):g11=true↔p=Pt.zero:=by
 have hw1:IntKind.i64.wrap ((p.hunk.old.length:Int)+p.hunk.new.length)=(p.hunk.old.length:Int)+p.hunk.new.length:=IntWalk.i64_in _ (by omega);have hw2:IntKind.i64.wrap ((p.edit.path.length:Int)+p.edit.old.len)=(p.edit.path.length:Int)+p.edit.old.len:=IntWalk.i64_in _ (by omega);have hw3:IntKind.i64.wrap ((p.edit.path.length:Int)+p.edit.old.len+p.edit.new.len)=(p.edit.path.length:Int)+p.edit.old.len+p.edit.new.len:=IntWalk.i64_in _ (by omega);have i1:((p.kind:Int)=0)↔p.kind=0:=by omega
 have i2:((p.edit.kind:Int)=0)↔p.edit.kind=0:=by omega
 have i3:((p.hunk.old.length:Int)+p.hunk.new.length=0)↔p.hunk.old.length+p.hunk.new.length=0:=by omega
 have i4:((p.edit.path.length:Int)+p.edit.old.len+p.edit.new.len=0)↔p.edit.path.length+p.edit.old.len+p.edit.new.len=0:=by omega
 rw[hw2,hw3]at h11;rw[hw1]at h5;rw[Pt.zero_iff,←h11,←h10,←h9,←h8,←h7,←h6,←h5,←h4,←h3,←h2,←h1];clear h1 h2 h3 h4 h5 h6 h7 h8 h9 h10 h11 hw1 hw2 hw3 hl1 hl2;simp only[Bool.and_eq_true,beq_iff_eq,isE,and_assoc,i1,i2,i3,i4]
theorem yP{w:World}{b o:Nat}{cs:List Value}(h:w.rangeAt b o cs):w.drew.rangeAt b o cs:=h
theorem yQ{w:World}{b:Nat}(hb:b=w.heap.size)(cs:List Value)(t:TypeId):(w.alloc (.cells cs.toArray t)).rangeAt b 0 cs:=fun j v hv=>by
 subst hb;rw[Lib.cell_of_heap (heap_alloc_new w _),Nat.zero_add]
 simpa using hv
theorem yR{p:Pt}{x:Ph}(hl1:p.hunk.old.length+p.hunk.new.length≤4611686018427387904)(hl2:p.edit.path.length+p.edit.old.len+p.edit.new.len≤4611686018427387904)(w:World):
  Calls Tryz.prog 43 #[.agg (bU p x).toArray] w fun e w'=>ah (p=Pt.zero) e∧Below w.heap.size w w':=by
 have HZ:=hide (@Pt.zero_iff p);have hB:=az w (.cells (bU p x).toArray 43);have HB:=hide hB;clear hB;go_enter Tryz.func43,Tryz.ntmps43
 go_upto_region 1 with fail
 go_cut [3,4] (fun a b wx=>∃h e:Nat,a = .pointer (some ⟨h,0,none⟩)∧b = .pointer (some ⟨e,0,none⟩)∧Below w.heap.size w wx∧wx.rangeAt w.heap.size 0 (bU p x)∧wx.rangeAt h 0 (((bU p x).drop 3).take 3)∧wx.rangeAt e 0 ((bU p x).drop 6))
 case first =>
  go_region
  all_goals go_wp2_with fail
  all_goals go_meet
  all_goals refine⟨_,_,rfl,rfl,((HB.out.alloc HB.out.size _).alloc (aI HB.out.size (by simp)) _).drew,yP (World.rangeAt_alloc (World.rangeAt_alloc (yQ rfl _ _) _) _),?_,?_⟩
  all_goals first
   | exact yP (World.rangeAt_alloc (yQ (by simp) _ _) _)
   | exact yP (yQ (by simp) _ _)
 case rest =>
 obtain⟨h3,h4,rfl,rfl,hB,hr,Ov,hre⟩:=hcut;have HB2:=hide hB;clear hB HB;have c0:=hr 0 _ rfl;have c1:=hr 1 _ rfl;have c2:=hr 2 _ rfl;have h10:=Ov 0 _ rfl;have h11:=Ov 1 _ rfl;have h12:=Ov 2 _ rfl;have e0:=hre 0 _ rfl;have e1:=hre 1 _ rfl;have e2:=hre 2 _ rfl;have e3:=hre 3 _ rfl;have e4:=hre 4 _ rfl;have e5:=hre 5 _ rfl;have e6:=hre 6 _ rfl;have e7:=hre 7 _ rfl;simp only[Nat.zero_add]at c0 c1 c2 h10 h11 h12 e0 e1 e2 e3 e4 e5 e6 e7;clear hr Ov hre
 go_upto_region 2 with fail
 refine wp_region_list ?_;simp only[List.append_eq,List.cons_append,List.nil_append];refine sk ?_;refine sk ?_;refine sk ?_;refine sk ?_;generalize hg1:((p.kind:Int) == 0)=g1;have HG1:=hide hg1;clear hg1;refine sg (b:=g1) ?_ (hw:=by cases g1<;>rfl);refine sg (b:=g1) ?_ (hw:=by cases g1<;>rfl);refine sg (b:=g1) ?_ (hw:=by cases g1<;>rfl);refine sp (g:=g1) ?_;generalize hg2:(g1 && _)=g2;have HG2:=hide hg2;clear hg2;refine sk ?_;refine sg (b:=g2) ?_ (hw:=by cases g2<;>rfl);refine sg (b:=g2) ?_ (hw:=by cases g2<;>rfl);refine sg (b:=g2) ?_ (hw:=by cases g2<;>rfl);refine sp (g:=g2) ?_;generalize hg3:(g2 && _)=g3;have J3:=hide hg3;clear hg3;refine sk ?_;refine sg (b:=g3) ?_ (hw:=by cases g3<;>rfl);refine sg (b:=g3) ?_ (hw:=by cases g3<;>rfl);refine sg (b:=g3) ?_ (hw:=by cases g3<;>rfl);refine sp (g:=g3) ?_;generalize hg4:(g3 && _)=g4;have Og:=hide hg4;clear hg4;refine sk ?_;refine sg (b:=g4) ?_ (hw:=by cases g4<;>rfl);refine sg (b:=g4) ?_ (hw:=by cases g4<;>rfl);refine sg (b:=g4) ?_ (hw:=by cases g4<;>rfl);refine sg (b:=g4) ?_ (hw:=by cases g4<;>rfl);refine sg (b:=g4) ?_ (hw:=by cases g4<;>rfl);refine sg (b:=g4) ?_ (hw:=by cases g4<;>rfl);refine sg (b:=g4) ?_ (hw:=by cases g4<;>rfl);refine sg (b:=g4) ?_ (hw:=by cases g4<;>rfl);refine sp (g:=g4) ?_;generalize hg5:(g4 && _)=g5;have HG5:=hide hg5;clear hg5;refine sk ?_;refine sg (b:=g5) ?_ (hw:=by cases g5<;>rfl);refine sg (b:=g5) ?_ (hw:=by cases g5<;>rfl);refine sg (b:=g5) ?_ (hw:=by cases g5<;>rfl);refine sp (g:=g5) ?_;generalize Xc:(g5 && _)=g6;have HG6:=hide Xc;clear Xc;refine sk ?_;refine sg (b:=g6) ?_ (hw:=by cases g6<;>rfl);refine sg (b:=g6) ?_ (hw:=by cases g6<;>rfl);refine sg (b:=g6) ?_ (hw:=by cases g6<;>rfl);refine sp (g:=g6) ?_;generalize Xd:(g6 && _)=g7;have HG7:=hide Xd;clear Xd;refine sk ?_;refine sg (b:=g7) ?_ (hw:=by cases g7<;>rfl);refine sg (b:=g7) ?_ (hw:=by cases g7<;>rfl);refine sg (b:=g7) ?_ (hw:=by cases g7<;>rfl);refine sp (g:=g7) ?_;generalize Xe:(g7 && _)=g8;have HG8:=hide Xe;clear Xe;refine sk ?_;refine sg (b:=g8) ?_ (hw:=by cases g8<;>rfl);refine sg (b:=g8) ?_ (hw:=by cases g8<;>rfl);refine sg (b:=g8) ?_ (hw:=by cases g8<;>rfl);refine sp (g:=g8) ?_;generalize Xf:(g8 && _)=g9;have HG9:=hide Xf;clear Xf;refine sk ?_;refine sg (b:=g9) ?_ (hw:=by cases g9<;>rfl);refine sg (b:=g9) ?_ (hw:=by cases g9<;>rfl);refine sg (b:=g9) ?_ (hw:=by cases g9<;>rfl);refine sp (g:=g9) ?_;generalize uG:(g9 && _)=g10;have RH:=hide uG;clear uG;refine sk ?_;refine sg (b:=g10) ?_ (hw:=by cases g10<;>rfl);refine sg (b:=g10) ?_ (hw:=by cases g10<;>rfl);refine sg (b:=g10) ?_ (hw:=by cases g10<;>rfl);refine sg (b:=g10) ?_ (hw:=by cases g10<;>rfl);refine sg (b:=g10) ?_ (hw:=by cases g10<;>rfl);refine sg (b:=g10) ?_ (hw:=by cases g10<;>rfl);refine sg (b:=g10) ?_ (hw:=by cases g10<;>rfl);refine sg (b:=g10) ?_ (hw:=by cases g10<;>rfl);refine sg (b:=g10) ?_ (hw:=by cases g10<;>rfl);refine sg (b:=g10) ?_ (hw:=by cases g10<;>rfl);refine sg (b:=g10) ?_ (hw:=by cases g10<;>rfl);refine sg (b:=g10) ?_ (hw:=by cases g10<;>rfl);refine sp (g:=g10) ?_;generalize KQ:(g10 && _)=g11;have RI:=hide KQ;clear KQ;refine sk ?_;refine wpList_nil ?_;rename_i hK;refine hK _ _ ?_;clear hK;refine wp_ret ?_;go_ret;refine⟨ah.mk ?_,HB2.out⟩;exact yO hl1 hl2 HG1.out HG2.out J3.out Og.out HG5.out HG6.out HG7.out HG8.out HG9.out RH.out RI.out
theorem CB{w:World}{t:TypeId}:Buf (fun b=>b<w.heap.size) w.heap.size (w.alloc (.cells #[.slice none 0 0] t)) []:=
 ⟨.slice none 0 0,by rw[World.cell?_alloc_new];rfl,by simp,Nat.lt_irrefl _,fun k hk=>by simp;omega,World.ownsRow_nil _ _ _ _,by simp[Value.ownBlock],.inl rfl⟩
theorem Buf.bytes{P:Nat→Prop}{wb:Nat}{w:World}{l:List UInt8}(h:Buf P wb w l):∃A c,w.cell? ⟨wb,0,none⟩=some (.slice A l.length c)∧BytesIn (fun b=>¬P b) w A l∧l.length≤c∧c≤9223372036854775807:=by
 obtain⟨v,h0,_,_,_,h4,h5,_⟩:=h;rcases h4.2 with⟨rfl,hn⟩|⟨g,cap,cur,rfl,hb,hgg,hn,hc,_⟩
 ·have:l=[]:=List.eq_nil_of_length_eq_zero hn;subst this;exact⟨_,_,h0,⟨.inl rfl,by simp⟩,aC _,by omega⟩
 ·have hc':cap≤9223372036854775807:=by unfold maxLen at hc;omega
  refine⟨_,_,h0,⟨.inr ⟨g,0,rfl,(h5 g rfl).2,fun j u hu=>?_⟩,aI hn hc'⟩,hn,hc'⟩;have:=h4.cells (g:=g) rfl j u hu
  rwa [Addr.add_lit]at this
theorem CE{S:Nat→Prop}{x:Ph}{p:Pt}{w:World}(hp:bM S w x p)(htab:bF w)(hsum:p.edit.frm.size+p.edit.to.size≤9223372036854775807)(hlen:(gJ p).length≤lid):
    Calls Tryz.prog 45 #[.agg #[.int .u8 p.kind,.string p.file,.string p.text,.int .i64 p.hunk.at_,.slice x.h.oA p.hunk.old.length x.h.oc,.slice x.h.nA p.hunk.new.length x.h.nc,.int .u8 p.edit.kind,.slice x.e.pA p.edit.path.length x.e.pc,.int .i64 p.edit.at_,.int .i64 p.edit.far,.string p.edit.frm,.string p.edit.to,.slice x.e.oA p.edit.old.len x.e.oc,.slice x.e.nA p.edit.new.len x.e.nc]] w fun e w'=>Below w.heap.size w w'∧
      ((bI p∧∃A c,e = .returned (.tuple #[.slice A (gJ p).length c,.int .i64 0])∧BytesIn (fun b=>w.heap.size≤b) w' A (gJ p)∧(gJ p).length≤c∧c≤9223372036854775807)∨
       (¬bI p∧e = .returned (.tuple #[.slice none 0 0,.int .i64 4]))):=by
  have Hp:=hide hp;have aN:=hide htab;clear hp htab;go_enter Tryz.func45,Tryz.ntmps45
  go_wp2_with(first
    | (go_at_call 114;(with_reducible refine(zeB (Hp.out.below (az _ _)) (aN.out.below (az _ _)) hsum).mono ?_);rintro e1 w1 ⟨⟨_|_,rfl,hb⟩,hB⟩<;>(have gK:=hide hb;have HB:Hid (Below w.heap.size w w1):=hide (aW (az _ _) hB);obtain⟨hc1,hf1,hz1⟩:=bz (N:=w.heap.size) hB (by simp);clear hb hB))
    | (go_at_call 115;(refine(sS (S:=fun b=>S b∧b<w.heap.size) CB ((Hp.out.mono (S':=fun b=>S b∧b<w.heap.size) fun b h1 h2=>⟨h2,h1⟩).below (HB.out.trans ((az _ _).mono HB.out.size))) (fun b hb=>Nat.lt_trans hb.2 hz1) (by simpa using hlen)).mono ?_);rintro e2 w2 ⟨rfl,hb,hB⟩;obtain⟨A,c,q0,q1,q2,q3⟩:=hb.bytes;have Hq:=hide q1;have HB2:Hid (Below w.heap.size w w2):=hide (HB.out.trans (((az _ _).mono HB.out.size).trans (hB.below.mono HB.out.size)));clear hb hB q1))
  · go_ret2
    exact⟨HB.out,.inr ⟨fun h=>absurd (gK.out.mpr h) (by decide),rfl⟩⟩
  · go_ret2
    exact⟨HB2.out,.inl ⟨gK.out.mp trivial,A,c,rfl,Hq.out.mono fun b _ hb=>by have:=HB.out.size;omega,q2,q3⟩⟩
theorem bY.keep{S:Nat→Prop}{w w':World}{A:Option Addr}{c:Nat}{l:List UInt8}(h:bY S w A c l)(hk :∀b,S b→w'.heap[b]?=w.heap[b]?):bY S w' A c l:=⟨h.1.keep hk,h.2⟩
theorem bY.mono{S S':Nat→Prop}{w:World}{A:Option Addr}{c:Nat}{l:List UInt8}(h:bY S w A c l)(hm :∀b,S b→S' b):bY S' w A c l:=⟨h.1.mono (fun b _=>hm b),h.2⟩
end
end Go.Proofs.YtjjaojnglnpgaaaGreatDoor
