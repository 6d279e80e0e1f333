/- Part 49 of what commuteFiles_cardUpto rests on. -/
import Derived.Test.YtialngdffhmobaaGreatDoorV45
import Derived.Test.YtialngdffhmobaaGreatDoorV46
import Derived.Test.YtialngdffhmobaaGreatDoorV15
import Derived.Test.YtialngdffhmobaaGreatDoorV47
import Derived.Test.YtialngdffhmobaaGreatDoorV00
set_option linter.unusedVariables false
set_option linter.unusedSimpArgs false
set_option maxHeartbeats 16000000
set_option maxRecDepth 1000000
namespace Go.Proofs.YtialngdffhmobaaGreatDoor
section
open Go.RowKit
theorem qO{c r s:Bool}{A B:Prop}{c1 g2 c3 c4:Bool}(h1:c=true→(r=true↔A))(e1:c1=(!c || !r))(e2:g2 = !c1)(h2:g2=true→(s=true↔B))(e3:c3=(c1 || !s))(hc:c3=false):(A∧B)∧c=true∧g2=true:=by
 subst e3 e2 e1;rcases Bool.eq_false_or_eq_true c with rfl|rfl
 ·rcases Bool.eq_false_or_eq_true r with rfl|rfl
  ·rcases Bool.eq_false_or_eq_true s with rfl|rfl
   ·exact⟨⟨(h1 rfl).mp rfl,(h2 rfl).mp rfl⟩,rfl,rfl⟩
   ·simp at hc
  ·simp at hc
 ·simp at hc
theorem OG{x y:Ph}{p q:Pt}{w:World}(Hp:gX w x p)(Hq:gX w y q)(htab:aW w)(sp:iO p.edit)(sq:iO q.edit):
  Calls Tryz.prog 4 #[.agg (ai p x).toArray,.agg (ai q y).toArray] w fun e w'=>e = .returned (.bool true)∧Below w.heap.size w w':=by
 obtain⟨W0,hW0⟩:∃W0,W0=(w.alloc (.cells (ai p x).toArray 32)).alloc (.cells (ai q y).toArray 32):=⟨_,rfl⟩;have h0:Bs w W0 [(w.heap.size,ai p x),(w.heap.size+1,ai q y)]:=by
  have:=((Bs.nil (Below.refl w.heap.size w)).new (ai p x) 32).new (ai q y) 32;simp only[World.size_alloc,List.nil_append,List.cons_append,Nat.add_assoc,Nat.reduceAdd]at this;rw[hW0];exact this
 have HW0:=hide hW0;have H0:=hide h0;have HP:=hide Hp;have HQ:=hide Hq;have HT:=hide htab;have SP:=hide sp;have SQ:=hide sq;clear hW0 h0 Hp Hq htab sp sq;go_enter Tryz.func4,Tryz.ntmps4
 go_upto_region 1 with fail
 try simp only[Nat.add_assoc,Nat.reduceAdd]
 change Code.wp _ _ _ _ ((w.alloc (.cells (ai p x).toArray 32)).alloc (.cells (ai q y).toArray 32));rw[←HW0.out];clear HW0;refine wp_region_lit ?_;refine gc (wI (HT.out.below H0.out.b)) ?_;rintro e1 w1 ⟨rfl,hd⟩;refine⟨_,rfl,?_⟩;have H1:=hide (H0.out.up hd);clear hd H0;simp only[aA,aB];refine sk (v:= .bool false) ?_;refine wpList_nil ?_
 first
  | (rename_i hK;refine hK _ _ ?_;clear hK)
  | (rename_i hK zK;refine hK _ _ ?_;clear hK)
 go_upto_region 3 with fail
 refine wp_region_lit ?_;refine gl (cs:=ai p x) ?_ (H1.out.at 0 rfl).c Tryz.underlying32 dL;refine gl (cs:=ai q y) ?_ (H1.out.at 1 rfl).c Tryz.underlying32 dL;refine gw (w':=w1.alloc (.cells (ax p x q y).toArray 32)) (v:= .slice (some ⟨w1.heap.size,0,none⟩) 2 2) ?_ (hy:=by first|(go_simp;done)|(go_simp;rfl));have hx:=Bx.new w1 (ax p x q y) 32;have hd:=bg w1 (.cells (ax p x q y).toArray 32);have H2:=hide (H1.out.up hd);have HR:=hide hx;clear hx hd H1;change wpList _ _ _ _ _ (w1.alloc (.cells (ax p x q y).toArray 32));change Hid (Bx (w1.alloc (.cells (ax p x q y).toArray 32)) _ _)at HR;generalize w1.alloc (.cells (ax p x q y).toArray 32)=w2 at H2 HR⊢;generalize w1.heap.size=R at HR⊢;refine gc (wK HR.out (HP.out.below H2.out.b) (HQ.out.below H2.out.b)) ?_;rintro e3 w3 ⟨⟨c,rfl⟩,hd⟩;refine⟨_,rfl,?_⟩;have H3:=hide (H2.out.up hd);clear hd H2 HR;simp only[aA,aB];refine sk ?_;refine sk ?_;refine sg (b:=c) (v:= .agg (ai p x).toArray) ?_ (hw:=by cases c<;>rfl) (hy:=fun _=>wP rfl rfl (H3.out.at 0 rfl).c Tryz.underlying32 rfl dL);refine wQ c (fun _=>DF (HP.out.below H3.out.b) (HT.out.below H3.out.b)) ?_ (by cases c<;>rfl);intro rp w4 xJ hd;have xK:=hide xJ;have H4:=hide (H3.out.up hd);clear xJ hd H3;simp only[aA,aB];refine sg (b:=c) ?_ (hw:=by cases c<;>rfl);refine so (g:=!c) (g1:=c) (by simp) ?_;intro c1 g2 hc1 hg2;have lh:=hide hc1;have nD:=hide hg2;clear hc1 hg2;simp only[aA,aB];refine sk ?_;refine sg (b:=g2) (v:= .agg (ai q y).toArray) ?_ (hw:=by have:=nD.out;subst this;cases c1<;>rfl) (hy:=fun _=>wP rfl rfl (H4.out.at 1 rfl).c Tryz.underlying32 rfl dL);refine wQ g2 (fun _=>DF (HQ.out.below H4.out.b) (HT.out.below H4.out.b)) ?_ (by have:=nD.out;subst this;cases c1<;>rfl);intro rq w5 hrq hd;have xM:=hide hrq;have H5:=hide (H4.out.up hd);clear hrq hd H4;simp only[aA,aB];refine sg (b:=g2) ?_ (hw:=by have:=nD.out;subst this;cases c1<;>rfl);refine so (g:=c1) (g1:=g2) nD.out ?_;intro c3 c4 hc3 hc4;have Hsm:=hide (qO (c4:=c4) xK.out lh.out nD.out xM.out hc3);clear hc3 hc4 xK lh nD xM;simp only[aA,aB];refine wpList_nil ?_
 first
  | (rename_i hK;refine hK _ _ ?_;clear hK)
  | (rename_i hK zK;refine hK _ _ ?_;clear hK)
 rcases Bool.eq_false_or_eq_true c3 with rfl|rfl
 ·clear Hsm
  go_wp2_with fail
  all_goals
   go_ret;exact⟨rfl,H5.out.b⟩
 obtain⟨⟨op,oq⟩,rfl,rfl⟩:=Hsm.out rfl;have Op:=hide op;have Oq:=hide oq;clear op oq Hsm;simp only[↓reduceIte]
 go_upto_region 5 with fail
 have KC:=hide (DX (HP.out.below H5.out.b) (HQ.out.below H5.out.b) (HT.out.below H5.out.b) SP.out SQ.out);refine wp_region_lit ?_;refine gl (cs:=ai p x) ?_ (H5.out.at 0 rfl).c Tryz.underlying32 dL;refine gl (cs:=ai q y) ?_ (H5.out.at 1 rfl).c Tryz.underlying32 dL;refine gc KC.out ?_;rintro e6 w6 ⟨⟨err,a,b,xa,xb,rfl,hT,hI⟩,hd⟩;refine⟨_,rfl,?_⟩;have H6:=hide (H5.out.up hd);have T6:=hide (hT.off (w:=w) H5.out.bx H5.out.b.size);have HI:=hide hI;clear hd hT hI H5 KC;simp only[aA,aB];refine sk (v:= .tuple #[.agg (ai a xa).toArray,.agg (ai b xb).toArray,.int .i64 err]) ?_;refine sk (v:= .agg (ai a xa).toArray) ?_;refine sk (v:= .agg (ai b xb).toArray) ?_;refine sk (v:= .int .i64 err) ?_;refine gw (w':=w6.alloc (.cells ak.toArray 32)) (v:= .pointer (some ⟨w6.heap.size,0,none⟩)) ?_ (hy:=by go_simp;rfl);have hx:=Bx.new w6 ak 32;have hd:=bg w6 (.cells ak.toArray 32);have H7:Hid (Bs w (w6.alloc (.cells ak.toArray 32)) [(w.heap.size,ai p x),(w.heap.size+1,ai q y),(w6.heap.size,ak)]):=hide (H6.out.push rfl hx hd);have T7:Hid (dR w (w6.alloc (.cells ak.toArray 32)) xa xb a b y q x p [(w.heap.size,ai p x),(w.heap.size+1,ai q y),(w6.heap.size,ak)]):=hide (T6.out.push (us:=ak) rfl hd);clear hx hd H6 T6;change wpList _ _ _ _ _ (w6.alloc (.cells ak.toArray 32));generalize w6.alloc (.cells ak.toArray 32)=w7 at H7 T7⊢;generalize w6.heap.size=ba at H7 T7⊢;refine gw (w':=w7.alloc (.cells ak.toArray 32)) (v:= .pointer (some ⟨w7.heap.size,0,none⟩)) ?_ (hy:=by go_simp;rfl);have hx:=Bx.new w7 ak 32;have hd:=bg w7 (.cells ak.toArray 32);have H8:Hid (Bs w (w7.alloc (.cells ak.toArray 32)) [(w.heap.size,ai p x),(w.heap.size+1,ai q y),(ba,ak),(w7.heap.size,ak)]):=hide (H7.out.push rfl hx hd);have T8:Hid (dR w (w7.alloc (.cells ak.toArray 32)) xa xb a b y q x p [(w.heap.size,ai p x),(w.heap.size+1,ai q y),(ba,ak),(w7.heap.size,ak)]):=hide (T7.out.push (us:=ak) rfl hd);clear hx hd H7 T7;change wpList _ _ _ _ _ (w7.alloc (.cells ak.toArray 32));generalize w7.alloc (.cells ak.toArray 32)=w8 at H8 T8⊢;generalize w7.heap.size=bb at H8 T8⊢;refine gs (cells:=(ai a xa).toArray) ?_ ((H8.out.at 2 rfl).th (o:=0) (by simp)) dL (kD _ _);have H9:Hid (Bs w (w8.setCells ba 0 (ai a xa)) [(w.heap.size,ai p x),(w.heap.size+1,ai q y),(ba,ai a xa),(bb,ak)]):=hide (H8.out.put 2 rfl 0 (ai a xa) (ai a xa) (by simp));have T9:Hid (dR w (w8.setCells ba 0 (ai a xa)) xa xb a b y q x p [(w.heap.size,ai p x),(w.heap.size+1,ai q y),(ba,ai a xa),(bb,ak)]):=hide (T8.out.put 2 rfl 0 (ai a xa) (ai a xa));clear H8 T8;refine gs (cells:=(ai b xb).toArray) ?_ ((H9.out.at 3 rfl).th (o:=0) (by simp)) dL (kD _ _);have bK:Hid (Bs w ((w8.setCells ba 0 (ai a xa)).setCells bb 0 (ai b xb)) [(w.heap.size,ai p x),(w.heap.size+1,ai q y),(ba,ai a xa),(bb,ai b xb)]):=hide (H9.out.put 3 rfl 0 (ai b xb) (ai b xb) (by simp));have T10:=hide (T9.out.put 3 rfl 0 (ai b xb) (ai b xb)).two;clear H9 T9;refine sk (v:= .int .i64 err) ?_;refine wpList_nil ?_
 first
  | (rename_i hK;refine hK _ _ ?_;clear hK)
  | (rename_i hK zK;refine hK _ _ ?_;clear hK)
 change Code.wp _ _ _ _ ((w8.setCells ba 0 (ai a xa)).setCells bb 0 (ai b xb));generalize (w8.setCells ba 0 (ai a xa)).setCells bb 0 (ai b xb)=w10 at bK T10⊢
 go_upto_region 6 with fail
 have f1:=(bK.out.at 0 rfl).cell 1;have f2:=(bK.out.at 1 rfl).cell 1;refine wp_region_lit ?_;refine sk ?_;refine sk ?_;refine sk ?_;refine sk ?_;clear f1 f2;by_cases hf:p.file=q.file
 ·have Hf:=hide hf;clear hf;refine sk (v:= .bool false) ?_ (hy:=by go_simp;rw[Hf.out]);refine wpList_nil ?_
  first
   | (rename_i hK;refine hK _ _ ?_;clear hK)
   | (rename_i hK zK;refine hK _ _ ?_;clear hK)
  rcases HI.out with h|⟨_,⟨hn,rfl,_,_⟩|⟨hy,rfl⟩⟩
  ·exact absurd ⟨Op.out,Oq.out⟩ h.1
  ·clear HI hn
   go_upto_region 9 with fail
   go_wp2_with fail
   go_ret;exact⟨rfl,bK.out.b⟩
  ·have hk:=Kw hy;have hok:=Kv Op.out Oq.out hy;have hbb:=OE Op.out Oq.out HP.out.b HQ.out.b hy;obtain⟨k1,k2,k3⟩:=hk.2.1 Hf.out;have Kf:=hide hk.2.2;have K:=hide (And.intro k1 (And.intro k2 k3));have XA:Hid (gX w10 xa a):=hide (by obtain⟨La,Lb,h1,h2,_⟩:=T10.out;exact h1.x hbb.1 HQ.out.r.r);have XB:Hid (gX w10 xb b):=hide (by obtain⟨La,Lb,h1,h2,_⟩:=T10.out;exact h2.x hbb.2 HP.out.r.r);have Kr:=hide hok;clear hk hok hbb k1 k2 k3 hy HI T10
   go_upto_region 10 with fail
   have c0:=(bK.out.at 0 rfl).cell 0;have c1:=(bK.out.at 0 rfl).cell 1;have d0:=(bK.out.at 1 rfl).cell 0;have d1:=(bK.out.at 1 rfl).cell 1;have a0:=(bK.out.at 2 rfl).cell 0;have a1:=(bK.out.at 2 rfl).cell 1;have b0:=(bK.out.at 3 rfl).cell 0;have b1:=(bK.out.at 3 rfl).cell 1;refine wp_region_lit ?_;refine sk ?_;refine sk ?_;refine sk ?_;refine sk ?_;refine sk (v:= .bool true) ?_ (hy:=by go_simp;have:=K.out;omega);refine sk ?_;refine sk ?_;refine sk ?_;refine sk ?_;refine sk ?_;refine sk (v:= .bool true) ?_ (hy:=by go_simp;have:=K.out;omega);refine sk (v:= .bool true) ?_;refine sk ?_;refine sk ?_;refine sk ?_;refine sk ?_;refine sk ?_;refine sk (v:= .bool true) ?_ (hy:=by go_simp;have:=K.out;omega);refine sk (v:= .bool true) ?_;refine sk ?_;refine sk ?_;refine sk ?_;refine sk ?_;refine sk ?_;refine sk (v:= .bool true) ?_ (hy:=by go_simp;rw[Kf.out.1]);refine sk (v:= .bool true) ?_;refine sk ?_;refine sk ?_;refine sk ?_;refine sk ?_;refine sk ?_;refine sk (v:= .bool true) ?_ (hy:=by go_simp;rw[Kf.out.2]);refine sk (v:= .bool true) ?_;refine sk ?_;clear a0 a1 b0 b1 c0 c1 d0 d1 K Kf;refine gl (cs:=ai a xa) ?_ (bK.out.at 2 rfl).c Tryz.underlying32 dL;refine gc (Ac XA.out (HT.out.below bK.out.b) Kr.out.1) ?_;rintro e11 DW ⟨rfl,hd⟩;refine⟨_,rfl,?_⟩;have qM:=hide (bK.out.up hd);have CJ:=hide (XB.out.below hd);clear hd bK XA XB;simp only[aA,aB];refine sk (v:= .bool true) ?_;refine sk ?_;refine gl (cs:=ai b xb) ?_ (qM.out.at 3 rfl).c Tryz.underlying32 dL;refine gc (Ac CJ.out (HT.out.below qM.out.b) Kr.out.2) ?_;rintro e12 w12 ⟨rfl,hd⟩;refine⟨_,rfl,?_⟩;have xP:=hide (qM.out.up hd);clear hd qM CJ;simp only[aA,aB];refine sk (v:= .bool true) ?_;refine sk ?_;refine wpList_nil ?_
   first
    | (rename_i hK;refine hK _ _ ?_;clear hK)
    | (rename_i hK zK;refine hK _ _ ?_;clear hK)
   go_wp2_with fail
   go_ret;exact⟨rfl,xP.out.b⟩
 ·have Hf:=hide hf;clear hf;refine sk (v:= .bool true) ?_ (hy:=by go_simp;exact fun e=>Hf.out (zH.1 (by simp[e])));refine wpList_nil ?_
  first
   | (rename_i hK;refine hK _ _ ?_;clear hK)
   | (rename_i hK zK;refine hK _ _ ?_;clear hK)
  obtain⟨rfl,rfl,rfl⟩:=HI.out.some Op.out Oq.out (F9 Hf.out);have XA:Hid (gX w10 xa a):=hide (by obtain⟨La,Lb,h1,h2,_⟩:=T10.out;exact h1.x HQ.out.b HQ.out.r.r);have XB:Hid (gX w10 xb b):=hide (by obtain⟨La,Lb,h1,h2,_⟩:=T10.out;exact h2.x HP.out.b HP.out.r.r);clear HI T10
  go_upto_region 7 with fail
  refine wp_region_lit ?_;refine sk ?_;refine sk (v:= .bool true) ?_;refine sk ?_;refine gl (cs:=ai a xa) ?_ (bK.out.at 2 rfl).c Tryz.underlying32 dL;refine gl (cs:=ai a y) ?_ (bK.out.at 1 rfl).c Tryz.underlying32 dL;refine gc (IP XA.out.r (HQ.out.below bK.out.b).r) ?_;rintro e11 DW ⟨⟨s1,rfl,hs1⟩,hd⟩;refine⟨_,rfl,?_⟩;obtain rfl:s1=true:=hs1.mpr rfl;have qM:=hide (bK.out.up hd);have CJ:=hide (XB.out.below hd);clear hs1 hd bK XA XB;simp only[aA,aB];refine sk (v:= .bool true) ?_;refine sk ?_;refine gl (cs:=ai b xb) ?_ (qM.out.at 3 rfl).c Tryz.underlying32 dL;refine gl (cs:=ai b x) ?_ (qM.out.at 0 rfl).c Tryz.underlying32 dL;refine gc (IP CJ.out.r (HP.out.below qM.out.b).r) ?_;rintro e12 w12 ⟨⟨s2,rfl,hs2⟩,hd⟩;refine⟨_,rfl,?_⟩;obtain rfl:s2=true:=hs2.mpr rfl;have xP:=hide (qM.out.up hd);clear hs2 hd qM CJ;simp only[aA,aB];refine sk (v:= .bool true) ?_;refine sk ?_;refine wpList_nil ?_
  first
   | (rename_i hK;refine hK _ _ ?_;clear hK)
   | (rename_i hK zK;refine hK _ _ ?_;clear hK)
  go_wp2_with fail
  go_ret;exact⟨rfl,xP.out.b⟩
end
section
open Go.RowKit Go.ChangeShapes Go.WideShapes
theorem OH(H:Type)(enc:TypeId×Value→H)(W:World)(base:Nat)(args:Array Value)(ds gs:List (DataW H))(before:List MemPlace)
  (hval0 :∀(j:Nat) t v,Tryz.f4.params[j]?=some t→args[j]?=some v→Value.okWide Tryz.prog W .any base t v)
  (hW0:DataW.Whole enc Tryz.prog Tryz.f4.params.toList Rows.commuteFilesSpec.vars false W args.toList ds gs before)
  (hk:Rows.uptoSmall H (ds++gs)=true) (hL:laidMetH Tryz.prog Rows.commuteFilesUptoRow.laid W):
  Calls Tryz.prog 4 args W fun e W'=>∃v,e = .returned v∧Rows.commuteFilesSpec.post enc Tryz.prog Tryz.f4 false true false false W args v W':=by
 have hW:=hW0;have hval:=hval0;obtain⟨p,q,hA0,hV,rfl,_,_⟩:=hW0;have hA:DataW.TrodAll enc Tryz.prog W 0 (fun _=>true) true Tryz.f4.params.toList args.toList ds p:=hA0;rw[Tryz.params4]at hA hval;obtain⟨v0,v1,d0,d1,p0,p1,rfl,rfl,rfl,h0,h1⟩:=trodAll_two hA;obtain⟨rfl,rfl⟩:=trodVars_none hV;obtain⟨cs,rfl,_⟩:=okWide_struct Tryz.underlying32 (hval 0 _ v0 rfl rfl);obtain⟨cs1,rfl,_⟩:=okWide_struct Tryz.underlying32 (hval 1 _ v1 rfl rfl);obtain⟨m0,f0⟩:=h0;obtain⟨m1,f1⟩:=h1;have CO:Rows.uptoBulkAll ([d0,d1]++([]:List (DataW H)))≤1048576:=of_decide_eq_true hk;simp only[List.append_nil,Rows.uptoBulkAll]at CO;obtain⟨x,pp,ecs,hp,sp⟩:=CG f0 (by dsimp only;omega);obtain⟨y,qq,Gx,hq,sq⟩:=CG f1 (by dsimp only;omega);have Gy:cs=_:=Array.toList_inj.mp ecs;have CP:cs1=_:=Array.toList_inj.mp Gx;subst Gy CP;refine(OG hp hq (zC hL) sp sq).mono fun e W' ⟨he,hB⟩=>?_;subst he;have hlt:=hW.lt;have hs0 :∀z∈p0,W.sameAt W' z:=fun z hz=>hB.same (hlt z (by simp[hz]));have hs1 :∀z∈p1,W.sameAt W' z:=fun z hz=>hB.same (hlt z (by simp[hz]));have hold :∀z∈p0++p1++[],(fun b=>decide (b<W.heap.size)) z.block=true:=fun z hz=>by simpa using hlt z hz
 refine⟨_,rfl,_,_,_,[],p0++p1,[],hW,trodAll_mk1 (shut_bool zA true),trodAll_mk2 (Go.WideElems.Trod_stays Kq pU pV ⟨m0,f0⟩ hs0 (fun z hz=>hold z (by simp[hz]))) (Go.WideElems.Trod_stays Kq pU pV ⟨m1,f1⟩ hs1 (fun z hz=>hold z (by simp[hz]))),rfl,hB.frame _,fun h=>by cases h⟩
end
end Go.Proofs.YtialngdffhmobaaGreatDoor
