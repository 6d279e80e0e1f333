/- Part 45 of what commuteFiles_cardUpto rests on. -/
import Derived.Test.YtialngdffhmobaaGreatDoorV43
import Derived.Test.YtialngdffhmobaaGreatDoorV39
import Derived.Test.YtialngdffhmobaaGreatDoorV02
import Derived.Test.YtialngdffhmobaaGreatDoorV00
set_option linter.unusedVariables false
set_option linter.unusedSimpArgs false
set_option maxHeartbeats 16000000
set_option maxRecDepth 1000000
namespace Go.Proofs.YtialngdffhmobaaGreatDoor
section
open Go.RowKit
theorem Bs.grown{w W W':World}{l:List (Nat×List Value)}{r:Nat}(h:Bs w W l)(hg:W.grownBy W' (some r))(hr :∀u∈l,u.1≠r)(hw:w.heap.size≤r):Bs w W' l :=
 ⟨fun u hu=>(h.bx u hu).grown hg (hr u hu),h.nd,h.ge,h.b.grown hg h.b.size (by intro k hk;cases hk;exact hw)⟩
abbrev pJ(f:FuncId)(v:Value):Value:= .func (.func f) #[v] #[]
theorem uw{x y:Ph}{p q:Pt}{w:World}(HP:Hid (gX w x p))(HQ:Hid (gX w y q))(HT:Hid (aW w))(Op:Hid (bF p))(Oq:Hid (bF q))(SP:Hid (iO p.edit))(SQ:Hid (iO q.edit))(Hf:Hid (p.file=q.file)):
  (∃f,([(3,pJ 57 (.agg (ax p x q y).toArray)),(4,pJ 58 (.agg (ax p x q y).toArray))]:List (Int×Value)).find? (fun u=>(p.kind:Int) == u.1)=some ((p.kind:Int),pJ f (.agg (ax p x q y).toArray))∧Enters Tryz.prog f∧(p.kind=q.kind→∀V,Below w.heap.size w V→Calls Tryz.prog f #[.agg (ax p x q y).toArray] V fun e w'=>jJ x y p q V e w'))∨
  (([(3,pJ 57 (.agg (ax p x q y).toArray)),(4,pJ 58 (.agg (ax p x q y).toArray))]:List (Int×Value)).find? (fun u=>(p.kind:Int) == u.1)=none∧(p.kind≠3∧p.kind≠4)):=by
 by_cases h3:p.kind=3
 ·exact .inl ⟨57,by rw[h3];rfl,enters_of Tryz.func57 (by kernel_rfl) rfl,fun hk V hV=>Ou (HP.out.below hV) (HQ.out.below hV) (HT.out.below hV) Op.out Oq.out Hf.out h3 (by omega)⟩
 ·by_cases h4:p.kind=4
  ·exact .inl ⟨58,by rw[h4];rfl,enters_of Tryz.func58 (by kernel_rfl) rfl,fun hk V hV=>Ov (HP.out.below hV) (HQ.out.below hV) (HT.out.below hV) Op.out Oq.out SP.out SQ.out Hf.out h4 (by omega)⟩
  ·refine .inr ⟨?_,h3,h4⟩;have q3:((p.kind:Int) == 3)=false:=by simp;omega
   have q4:((p.kind:Int) == 4)=false:=by simp;omega
   simp only[List.find?,q3,q4]
theorem pK:Tryz.prog.underlying 22=some (.int .u8):=Tryz.underlying22
theorem uy{x y:Ph}{p q:Pt}{w:World}(Hp:gX w x p)(Hq:gX w y q)(htab:aW w)(hp:bF p)(hq:bF q)(sp:iO p.edit)(sq:iO q.edit):
  Calls Tryz.prog 26 #[.agg (ax p x q y).toArray] w (jJ x y p q w):=by
 obtain⟨W0,hW0⟩:∃W0,W0=(w.alloc (.cells (ax p x q y).toArray 54)).alloc (.cells (aN).toArray 54):=⟨_,rfl⟩;have h0:Bs w W0 [(w.heap.size,ax p x q y),(w.heap.size+1,aN)]:=by
  have:=((Bs.nil (Below.refl w.heap.size w)).new (ax p x q y) 54).new (aN) 54;simp only[World.size_alloc,List.nil_append,List.cons_append,Nat.add_assoc,Nat.reduceAdd]at this;rw[hW0];exact this
 have hz0:w.heap.size+2≤W0.heap.size:=by rw[hW0];simp
 have HW0:=hide hW0;have H0:=hide h0;have HZ:=hide hz0;have HP:=hide Hp;have HQ:=hide Hq;have HT:=hide htab;have Op:=hide hp;have Oq:=hide hq;clear hW0 h0 hz0 Hp Hq htab hp hq;have SP:=hide sp;have SQ:=hide sq;clear sp sq;have hmf:=hmf;have hmm:=fun W:World=>run_makeMap (P:=Tryz.prog) 114 W;go_enter Tryz.func26,Tryz.ntmps26
 go_upto_region 1 with fail
 try simp only[Nat.add_assoc,Nat.reduceAdd]
 change Code.wp _ _ _ _ ((w.alloc (.cells (ax p x q y).toArray 54)).alloc (.cells (aN).toArray 54));rw[←HW0.out];clear HW0;have f1:=(H0.out.at 0 rfl).cell 1;have f2:=(H0.out.at 0 rfl).cell 15;refine wp_region_lit ?_;refine sk ?_;refine sk ?_;refine sk ?_;refine sk ?_;refine sk ?_;refine sk ?_;by_cases hf:p.file=q.file
 ·have Hf:=hide hf;clear hf;refine sk (v:= .bool false) ?_ (hy:=by go_simp;rw[Hf.out]);refine wpList_nil ?_
  first
   | (rename_i hK;refine hK _ _ ?_;clear hK)
   | (rename_i hK zK;refine hK _ _ ?_;clear hK)
  clear f1 f2
  go_upto_region 3 with fail
  have k1:=(H0.out.at 0 rfl).cell 0;have k2:=(H0.out.at 0 rfl).cell 14;refine wp_region_lit ?_;refine sk ?_;refine sk ?_;refine sk ?_;refine sk ?_;refine sk ?_;refine sk ?_;clear k1 k2;refine gw (w':=W0.alloc (.cells #[.int .u8 p.kind,.int .u8 q.kind] 22)) (v:= .slice (some ⟨W0.heap.size,0,none⟩) 2 2) ?_;have hx:=Bx.new W0 [.int .u8 p.kind,.int .u8 q.kind] 22;have hd:=bg W0 (.cells #[.int .u8 p.kind,.int .u8 q.kind] 22);have H1:=hide (H0.out.push rfl hx hd);have Z1:=hide (aH (aH (Nat.lt_succ_self _) HZ.out) hd.size);clear hx hd H0 HZ Z1;refine sk ?_;refine wpList_nil ?_
  first
   | (rename_i hK;refine hK _ _ ?_;clear hK)
   | (rename_i hK zK;refine hK _ _ ?_;clear hK)
  change Code.wp _ _ _ _ (W0.alloc (.cells #[.int .u8 p.kind,.int .u8 q.kind] 22));generalize W0.alloc (.cells #[.int .u8 p.kind,.int .u8 q.kind] 22)=W1 at H1⊢;generalize W0.heap.size=R at H1⊢
  go_upto_region 4 with fail
  refine wp_region_lit ?_;refine gw (w':=W1.alloc (.map #[] 0)) (v:= .map (some W1.heap.size)) ?_;have T0:Tab uU .u8 (W1.alloc (.map #[] 0)) W1.heap.size []:=Tab.new W1;have H2:=hide (H1.out.up (bg W1 (.map #[] 0)));have jP:=hide (fun(u:Nat×List Value) (hu:u∈[(w.heap.size,ax p x q y),(w.heap.size+1,aN)]++[(R,[.int .u8 p.kind,.int .u8 q.kind])]) (e:u.1=W1.heap.size)=>Nat.lt_irrefl _ (e▸(H1.out.bx u hu).lt));have Gj:=hide H1.out.b.size;clear H1;generalize W1.alloc (.map #[] 0)=V0 at T0 H2⊢;generalize W1.heap.size=r at T0 jP Gj⊢;refine gl ?_ (H2.out.at 0 rfl).c Tryz.underlying54 kP;refine sk (v:=pJ 57 (.agg (ax p x q y).toArray)) ?_;refine gi (k:=3) (v:=pJ 57 (.agg (ax p x q y).toArray)) T0 ?_ Tryz.underlying114 pK;intro V1 T1 g1;have H3:=hide (H2.out.grown g1 jP.out Gj.out);refine gl ?_ (H3.out.at 0 rfl).c Tryz.underlying54 kP;refine sk (v:=pJ 58 (.agg (ax p x q y).toArray)) ?_;refine gi (k:=4) (v:=pJ 58 (.agg (ax p x q y).toArray)) T1 ?_ Tryz.underlying114 pK;intro V2 T2 g2;have H4:=hide (H3.out.grown g2 jP.out Gj.out);clear T0 T1 g1 g2 H2 H3;refine sk ?_;refine sk ?_;refine sk ?_;have k0:=(H4.out.at 0 rfl).cell 0;refine sk ?_;clear k0;have hz:(zeroValue 56).run Tryz.prog V2 = .ok .nilFunc V2:=by go_simp
  have T5:Tab uU .u8 V2 r [(3,pJ 57 (.agg (ax p x q y).toArray)),(4,pJ 58 (.agg (ax p x q y).toArray))]:=T2;clear T2;rcases uw HP HQ HT Op Oq SP SQ Hf with⟨f,hfd,vW,hcall⟩|⟨hfd,hno⟩
  ·have xN:=hide hcall;have hen :∀(args:Array Value) (W:World),(callFunc f args).run Tryz.prog W = .ok (.enter f args) W:=vW;clear hcall vW;refine sk (v:= .tuple #[pJ f (.agg (ax p x q y).toArray),.bool true]) ?_ (hy:=GV T5 Tryz.underlying114 pK hz hfd rfl rfl rfl);refine sk ?_;refine sk (v:=pJ f (.agg (ax p x q y).toArray)) ?_;refine sk (v:= .bool true) ?_;refine sk ?_;refine sk ?_;refine wpList_nil ?_
   first
    | (rename_i hK;refine hK _ _ ?_;clear hK)
    | (rename_i hK zK;refine hK _ _ ?_;clear hK)
   clear hfd hz T5;have H5:=H4;clear H4
   go_upto_region 5 with fail
   refine wp_region_lit ?_;refine sk ?_;refine sk ?_;refine sk ?_;refine sk ?_;refine gc (uo ((H5.out.at 2 rfl).cell 0) ((H5.out.at 2 rfl).cell 1)) ?_;rintro e1 w1 ⟨rfl,rfl⟩;refine⟨_,rfl,?_⟩;simp only[aA,aB];refine sk ?_;refine gc (uq ((H5.out.at 2 rfl).cell 0) ((H5.out.at 2 rfl).cell 1)) ?_;rintro e2 w2 ⟨rfl,rfl⟩;refine⟨_,rfl,?_⟩;simp only[aA,aB];by_cases hk:p.kind=q.kind
   ·have Hk:=hide hk;clear hk;refine sk (v:= .bool false) ?_ (hy:=by go_simp;have:=Hk.out;omega);refine sk (v:= .bool false) ?_;refine wpList_nil ?_
    first
     | (rename_i hK;refine hK _ _ ?_;clear hK)
     | (rename_i hK zK;refine hK _ _ ?_;clear hK)
    go_upto_region 7 with fail
    refine wp_region_lit ?_;refine sk (v:=pJ f (.agg (ax p x q y).toArray)) ?_;refine gc (xN.out Hk.out _ H5.out.b) ?_;rintro e3 w3 ⟨⟨err,a,b,xa,xb,rfl,hI⟩,hd⟩;refine⟨_,rfl,?_⟩;have H6:=hide (H5.out.up hd);have HI:=hide hI;have HX:=hide H5.out.bx;have HS:=hide H5.out.b.size;clear hI hd H5;simp only[aA,aB];refine sk (v:= .agg (ax a xa b xb).toArray) ?_;refine sk (v:= .int .i64 err) ?_;refine gs (cells:=(ax a xa b xb).toArray) ?_ ((H6.out.at 1 rfl).th (o:=0) (by simp)) kP (uO _ _ _ _);have H7:=hide (H6.out.put 1 rfl 0 (ax a xa b xb) (ax a xa b xb) (by simp));refine sk (v:= .int .i64 err) ?_;refine wpList_nil ?_
    first
     | (rename_i hK;refine hK _ _ ?_;clear hK)
     | (rename_i hK zK;refine hK _ _ ?_;clear hK)
    refine wp_ret ?_
    try simp only[Exit.then,Exit.inBlock]
    refine bodyPost_ret (v:= .tuple #[.agg (ax a xa b xb).toArray,.int .i64 err]) (Aj Tryz.results26 (H7.out.at 1 rfl).c Tryz.underlying54 kP) rfl ⟨⟨err,a,b,xa,xb,rfl,?_⟩,H7.out.b⟩;rcases HI.out with h|⟨h1,h2,h3⟩
    ·exact .inl h
    ·exact .inr ⟨h1,h2,((h3.off (w:=w) HX.out HS.out).put 1 rfl 0 (ax a xa b xb) (ax a xa b xb)).two⟩
   ·have Gl:=hide (Gf Hf.out (.inl hk));have Hk:=hide hk;clear hk xN;refine sk (v:= .bool true) ?_ (hy:=by go_simp;have:=Hk.out;omega);refine sk (v:= .bool true) ?_;refine wpList_nil ?_
    first
     | (rename_i hK;refine hK _ _ ?_;clear hK)
     | (rename_i hK zK;refine hK _ _ ?_;clear hK)
    go_upto_region 6 with fail
    refine wp_region_lit ?_;refine sk (v:= .agg aN.toArray) ?_ (hy:=by go_simp;rfl);refine gs (cells:=aN.toArray) ?_ ((H5.out.at 1 rfl).th (o:=0) (by simp)) kP (uO Pt.zero Ph.zero Pt.zero Ph.zero);have H6:=hide (H5.out.put 1 rfl 0 aN aN (by simp));refine sk ?_;refine wpList_nil ?_
    first
     | (rename_i hK;refine hK _ _ ?_;clear hK)
     | (rename_i hK zK;refine hK _ _ ?_;clear hK)
    refine wp_ret ?_
    try simp only[Exit.then,Exit.inBlock]
    exact bodyPost_ret (v:= .tuple #[.agg aN.toArray,.int .i64 130]) (Aj Tryz.results26 (H6.out.at 1 rfl).c Tryz.underlying54 kP) rfl ⟨⟨130,Pt.zero,Pt.zero,Ph.zero,Ph.zero,rfl,.inl ⟨Gl.out,rfl⟩⟩,H6.out.b⟩
  ·have Gl:=hide (Gf Hf.out (.inr hno));clear hno;refine sk (v:= .tuple #[.nilFunc,.bool false]) ?_ (hy:=GX T5 Tryz.underlying114 pK hz hfd rfl rfl rfl);refine sk ?_;refine sk (v:= .nilFunc) ?_;refine sk (v:= .bool false) ?_;refine sk ?_;refine sk ?_;refine wpList_nil ?_
   first
    | (rename_i hK;refine hK _ _ ?_;clear hK)
    | (rename_i hK zK;refine hK _ _ ?_;clear hK)
   clear hfd hz T5;have H5:=H4;clear H4
   go_upto_region 6 with fail
   refine wp_region_lit ?_;refine sk (v:= .agg aN.toArray) ?_ (hy:=by go_simp;rfl);refine gs (cells:=aN.toArray) ?_ ((H5.out.at 1 rfl).th (o:=0) (by simp)) kP (uO Pt.zero Ph.zero Pt.zero Ph.zero);have H6:=hide (H5.out.put 1 rfl 0 aN aN (by simp));refine sk ?_;refine wpList_nil ?_
   first
    | (rename_i hK;refine hK _ _ ?_;clear hK)
    | (rename_i hK zK;refine hK _ _ ?_;clear hK)
   refine wp_ret ?_
   try simp only[Exit.then,Exit.inBlock]
   exact bodyPost_ret (v:= .tuple #[.agg aN.toArray,.int .i64 130]) (Aj Tryz.results26 (H6.out.at 1 rfl).c Tryz.underlying54 kP) rfl ⟨⟨130,Pt.zero,Pt.zero,Ph.zero,Ph.zero,rfl,.inl ⟨Gl.out,rfl⟩⟩,H6.out.b⟩
 ·have Hf:=hide hf;clear hf;refine sk (v:= .bool true) ?_ (hy:=by go_simp;exact fun e=>Hf.out (zH.1 (by simp[e])));refine wpList_nil ?_
  first
   | (rename_i hK;refine hK _ _ ?_;clear hK)
   | (rename_i hK zK;refine hK _ _ ?_;clear hK)
  clear f1 f2
  go_upto_region 2 with fail
  refine wp_region_lit ?_;refine gl ?_ (H0.out.at 0 rfl).c Tryz.underlying54 kP;refine gc (Gi (HP.out.below H0.out.b) (HQ.out.below H0.out.b) (HT.out.below H0.out.b) Op.out Oq.out) ?_;rintro e1 w1 ⟨⟨xa,xb,rfl,ht⟩,hd⟩;refine⟨_,rfl,?_⟩;have H1:=hide (H0.out.up hd);have T1:=hide (ht.off (w:=w) H0.out.bx H0.out.b.size);clear ht hd H0;simp only[aA,aB];refine gs (cells:=(ax q xa p xb).toArray) ?_ ((H1.out.at 1 rfl).th (o:=0) (by simp)) kP (uO _ _ _ _);have H2:=hide (H1.out.put 1 rfl 0 (ax q xa p xb) (ax q xa p xb) (by simp));refine sk ?_;refine wpList_nil ?_
  first
   | (rename_i hK;refine hK _ _ ?_;clear hK)
   | (rename_i hK zK;refine hK _ _ ?_;clear hK)
  refine wp_ret ?_
  try simp only[Exit.then,Exit.inBlock]
  exact bodyPost_ret (v:= .tuple #[.agg (ax q xa p xb).toArray,.int .i64 0]) (Aj Tryz.results26 (H2.out.at 1 rfl).c Tryz.underlying54 kP) rfl ⟨⟨0,q,p,xa,xb,rfl,.inr ⟨F9 Hf.out,rfl,(T1.out.put 1 rfl 0 (ax q xa p xb) (ax q xa p xb)).two⟩⟩,H2.out.b⟩
theorem DX{x y:Ph}{p q:Pt}{w:World}(Hp:gX w x p)(Hq:gX w y q)(htab:aW w)(sp:iO p.edit)(sq:iO q.edit):
  Calls Tryz.prog 10 #[.agg (ai p x).toArray,.agg (ai q y).toArray] w (zf x y p q (bz p q) w):=by
 obtain⟨W0,hW0⟩:∃W0,W0=(((w.alloc (.cells (ai p x).toArray 32)).alloc (.cells (ai q y).toArray 32)).alloc (.cells (ak).toArray 32)).alloc (.cells (ak).toArray 32):=⟨_,rfl⟩;have h0:Bs w W0 [(w.heap.size,ai p x),(w.heap.size+1,ai q y),(w.heap.size+2,ak),(w.heap.size+3,ak)]:=by
  have:=((((Bs.nil (Below.refl w.heap.size w)).new (ai p x) 32).new (ai q y) 32).new (ak) 32).new (ak) 32;simp only[World.size_alloc,List.nil_append,List.cons_append,Nat.add_assoc,Nat.reduceAdd]at this;rw[hW0];exact this
 have hz0:w.heap.size+4≤W0.heap.size:=by rw[hW0];simp
 have HW0:=hide hW0;have H0:=hide h0;have HZ:=hide hz0;have HP:=hide Hp;have HQ:=hide Hq;have HT:=hide htab;have SP:=hide sp;have SQ:=hide sq;clear hW0 h0 hz0 Hp Hq htab sp sq;go_enter Tryz.func10,Tryz.ntmps10
 go_upto_region 1 with fail
 try simp only[Nat.add_assoc,Nat.reduceAdd]
 change Code.wp _ _ _ _ ((((w.alloc (.cells (ai p x).toArray 32)).alloc (.cells (ai q y).toArray 32)).alloc (.cells (ak).toArray 32)).alloc (.cells (ak).toArray 32));rw[←HW0.out];clear HW0;refine wp_region_lit ?_;refine gl ?_ (H0.out.at 0 rfl).c Tryz.underlying32 dL;refine gc (DF (HP.out.below H0.out.b) (HT.out.below H0.out.b)) ?_;rintro e1 w1 ⟨⟨rp,rfl,xJ⟩,hd⟩;refine⟨_,rfl,?_⟩;have xK:=hide xJ;have H1:=hide (H0.out.up hd);clear xJ hd H0;simp only[aA,aB];refine sk ?_;refine sk ?_;refine sg (b:=rp) (v:= .agg (ai q y).toArray) ?_ (hw:=by cases rp<;>rfl) (hy:=fun _=>wP rfl rfl (H1.out.at 1 rfl).c Tryz.underlying32 rfl dL);refine wQ rp (fun _=>DF (HQ.out.below H1.out.b) (HT.out.below H1.out.b)) ?_ (by cases rp<;>rfl);intro rq w2 hrq hd;have xM:=hide hrq;have H2:=hide (H1.out.up hd);clear hrq hd H1;simp only[aA,aB];refine sg (b:=rp) ?_ (hw:=by cases rp<;>rfl);refine so (g:=!rp) (g1:=rp) (by simp) ?_;intro c1 c2 hc1 hc2;clear hc2;have gQ:=hide (Gg xK.out xM.out hc1);clear hc1 xK xM;simp only[aA,aB];refine wpList_nil ?_
 first
  | (rename_i hK;refine hK _ _ ?_;clear hK)
  | (rename_i hK zK;refine hK _ _ ?_;clear hK)
 rcases Bool.eq_false_or_eq_true c1 with rfl|rfl
 ·have Hno:=hide (gQ.out.mp rfl);clear gQ
  go_upto_region 2 with fail
  have hS:=H2.out.drew.two 2 3 rfl rfl;refine wp_region_held_drew (S:=dZ (w.heap.size+2) (w.heap.size+3) ak ak) (by kernel_rfl) hS (fun hS0=>?_);have H3:=hide H2.out.drew;clear hS H2;refine tl 0 hS0 ?_ (fun V hV=>hV.1) Tryz.underlying32 dL;refine tl 1 hS0 ?_ (fun V hV=>hV.2) Tryz.underlying32 dL;refine aP 2 ?_;refine bm (cells:=(ak).toArray) ?_ ((H3.out.at 2 rfl).th (o:=0) (by simp)) dL (kD Pt.zero Ph.zero);have H4:=hide (H3.out.put 2 rfl 0 ak ak (by simp));refine⟨H4.out.two 2 3 rfl rfl,?_⟩;refine aP 3 ?_;refine bm (cells:=(ak).toArray) ?_ ((H4.out.at 3 rfl).th (o:=0) (by simp)) dL (kD Pt.zero Ph.zero);have H5:=hide (H4.out.put 3 rfl 0 ak ak (by simp));refine⟨H5.out.two 2 3 rfl rfl,?_⟩;refine aP 4 ?_;refine bw ?_;refine⟨H5.out.two 2 3 rfl rfl,?_⟩;refine wpAnyH_done (by kernel_rfl) ?_ _;rename_i hK;refine hK _ _ ?_;clear hK;refine wp_ret ?_
  try simp only[Exit.then,Exit.inBlock]
  exact bodyPost_ret (v:= .tuple #[.agg ak.toArray,.agg ak.toArray,.int .i64 4]) (ni Tryz.results10 (H5.out.at 2 rfl).c (H5.out.at 3 rfl).c Tryz.underlying32 Tryz.underlying32 dL dL) rfl ⟨⟨4,Pt.zero,Pt.zero,_,_,rfl,eU.zero,.inl ⟨Hno.out,rfl,rfl,rfl⟩⟩,H5.out.b⟩
 have zh:bF p∧bF q:=Classical.not_not.1 fun h=>by have:=gQ.out.mpr h;cases this
 have Op:=hide zh.1;have Oq:=hide zh.2;clear zh gQ
 go_upto_region 3 with fail
 have KT:=hide (uy (HP.out.below H2.out.b) (HQ.out.below H2.out.b) (HT.out.below H2.out.b) Op.out Oq.out SP.out SQ.out);refine wp_region_lit ?_;refine gl ?_ (H2.out.at 0 rfl).c Tryz.underlying32 dL;refine gl ?_ (H2.out.at 1 rfl).c Tryz.underlying32 dL;refine sk (v:= .agg (ax p x q y).toArray) ?_;refine gc KT.out ?_;rintro e3 w3 ⟨⟨err,a,b,xa,xb,rfl,hI⟩,hd⟩;refine⟨_,rfl,?_⟩;have HI:=hide hI;have HX:=hide H2.out.bx;have HS:=hide H2.out.b.size;have H3:=hide (H2.out.up hd);clear hI hd H2 KT;simp only[aA,aB];refine sk (v:= .tuple #[.agg (ax a xa b xb).toArray,.int .i64 err]) ?_;refine sk (v:= .agg (ax a xa b xb).toArray) ?_;refine sk (v:= .int .i64 err) ?_;refine gw (w':=w3.alloc (.cells aN.toArray 54)) (v:= .pointer (some ⟨w3.heap.size,0,none⟩)) ?_ (hy:=by go_simp;rfl);have hx:=Bx.new w3 aN 54;have hd:=bg w3 (.cells aN.toArray 54);have H4:=hide (H3.out.push rfl hx hd);refine gs (cells:=(ax a xa b xb).toArray) ?_ ((H4.out.at 4 rfl).th (o:=0) (by simp)) kP (uO _ _ _ _);have H5:=hide (H4.out.put 4 rfl 0 (ax a xa b xb) (ax a xa b xb) (by simp));have yA:Hid ((bz p q=none∧err=130)∨(bz p q=some (a,b)∧err=0∧dR w ((w3.alloc (.cells aN.toArray 54)).setCells w3.heap.size 0 (ax a xa b xb)) xa xb a b y q x p (([(w.heap.size,ai p x),(w.heap.size+1,ai q y),(w.heap.size+2,ak),(w.heap.size+3,ak)]++[(w3.heap.size,aN)]).set 4 (w3.heap.size,ax a xa b xb)))):=
  hide (HI.out.imp id fun h=>⟨h.1,h.2.1,((h.2.2.off (w:=w) HX.out HS.out).push (us:=aN) rfl hd).put 4 rfl 0 (ax a xa b xb) (ax a xa b xb)⟩)
 clear hx hd H3 H4 HI HX HS;refine sk (v:= .int .i64 err) ?_;refine wpList_nil ?_
 first
  | (rename_i hK;refine hK _ _ ?_;clear hK)
  | (rename_i hK zK;refine hK _ _ ?_;clear hK)
 change Code.wp _ _ _ _ ((w3.alloc (.cells aN.toArray 54)).setCells w3.heap.size 0 (ax a xa b xb));generalize (w3.alloc (.cells aN.toArray 54)).setCells w3.heap.size 0 (ax a xa b xb)=w4 at H5 yA⊢;generalize w3.heap.size=M at H5 yA⊢;rcases yA.out with⟨hn,rfl⟩|⟨hy,rfl,ht⟩
 ·have Hn:=hide hn;clear hn yA
  go_upto_region 5 with fail
  refine wp_region_lit ?_;refine sk (v:= .agg ak.toArray) ?_ (hy:=by go_simp;rfl);refine sk (v:= .agg ak.toArray) ?_ (hy:=by go_simp;rfl);refine sk (v:= .int .i64 130) ?_;refine gs (cells:=ak.toArray) ?_ ((H5.out.at 2 rfl).th (o:=0) (by simp)) dL (kD Pt.zero Ph.zero);have H6:=hide (H5.out.put 2 rfl 0 ak ak (by simp));refine gs (cells:=ak.toArray) ?_ ((H6.out.at 3 rfl).th (o:=0) (by simp)) dL (kD Pt.zero Ph.zero);have H7:=hide (H6.out.put 3 rfl 0 ak ak (by simp));refine sk (v:= .int .i64 130) ?_;refine wpList_nil ?_
  first
   | (rename_i hK;refine hK _ _ ?_;clear hK)
   | (rename_i hK zK;refine hK _ _ ?_;clear hK)
  refine wp_ret ?_
  try simp only[Exit.then,Exit.inBlock]
  exact bodyPost_ret (v:= .tuple #[.agg ak.toArray,.agg ak.toArray,.int .i64 130]) (ni Tryz.results10 (H7.out.at 2 rfl).c (H7.out.at 3 rfl).c Tryz.underlying32 Tryz.underlying32 dL dL) rfl ⟨⟨130,Pt.zero,Pt.zero,_,_,rfl,eU.zero,.inr ⟨⟨Op.out,Oq.out⟩,.inl ⟨Hn.out,rfl,rfl,rfl⟩⟩⟩,H7.out.b⟩
 ·have Hy:=hide hy;have T5:=hide ht;clear hy ht yA
  go_upto_region 6 with fail
  have hS:(fun V=>Bx V M (ax a xa b xb)) w4.drew:=H5.out.drew.at 4 rfl;refine wp_region_held_drew (S:=fun V=>Bx V M (ax a xa b xb)) (by kernel_rfl) hS (fun hS0=>?_);have H6:=hide H5.out.drew;have T6:=hide (T5.out.up (Below.drew (Below.refl _ _)));clear hS H5 T5;refine dI 0 hS0 ?_;refine tl (off:=0) (cs:=ai a xa) 1 hS0 ?_ (fun V hV=>hV.part 0 14) Tryz.underlying32 dL;refine dI 2 hS0 ?_;refine tl (off:=14) (cs:=ai b xb) 3 hS0 ?_ (fun V hV=>hV.part 14 14) Tryz.underlying32 dL;refine aP 4 ?_;refine bm (cells:=(ai a xa).toArray) ?_ ((H6.out.at 2 rfl).th (o:=0) (by simp)) dL (kD a xa);have H7:=hide (H6.out.put 2 rfl 0 (ai a xa) (ai a xa) (by simp));refine⟨H7.out.at 4 rfl,?_⟩;refine aP 5 ?_;refine bm (cells:=(ai b xb).toArray) ?_ ((H7.out.at 3 rfl).th (o:=0) (by simp)) dL (kD b xb);have H8:=hide (H7.out.put 3 rfl 0 (ai b xb) (ai b xb) (by simp));refine⟨H8.out.at 4 rfl,?_⟩;refine aP 6 ?_;refine bw ?_;refine⟨H8.out.at 4 rfl,?_⟩;refine wpAnyH_done (by kernel_rfl) ?_ _;rename_i hK;refine hK _ _ ?_;clear hK;refine wp_ret ?_
  try simp only[Exit.then,Exit.inBlock]
  exact bodyPost_ret (v:= .tuple #[.agg (ai a xa).toArray,.agg (ai b xb).toArray,.int .i64 0]) (ni Tryz.results10 (H8.out.at 2 rfl).c (H8.out.at 3 rfl).c Tryz.underlying32 Tryz.underlying32 dL dL) rfl ⟨⟨0,a,b,xa,xb,rfl,((T6.out.put 2 rfl 0 (ai a xa) (ai a xa)).put 3 rfl 0 (ai b xb) (ai b xb)).two,.inr ⟨⟨Op.out,Oq.out⟩,.inr ⟨Hy.out,rfl⟩⟩⟩,H8.out.b⟩
end
end Go.Proofs.YtialngdffhmobaaGreatDoor
