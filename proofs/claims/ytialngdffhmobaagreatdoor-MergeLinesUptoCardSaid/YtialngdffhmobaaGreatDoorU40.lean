/- Part 41 of what mgTop rests on. -/
import Derived.LoopTactic
import Derived.Deep.LoopGhost
import Derived.Test.YtialngdffhmobaaGreatDoorU39
import Derived.Test.YtialngdffhmobaaGreatDoorU38
import Derived.Test.YtialngdffhmobaaGreatDoorU08
import Derived.Test.YtialngdffhmobaaGreatDoorU01
import Derived.Test.YtialngdffhmobaaGreatDoorU00
set_option linter.unusedVariables false
set_option linter.unusedSimpArgs false
set_option maxHeartbeats 16000000
set_option maxRecDepth 1000000
namespace Go.Proofs.YtialngdffhmobaaGreatDoor
section
open Go.RowKit
theorem max_min_ne{a b:Nat}:(decide ((max (a:Int) b)≠min (a:Int) b))=decide (a≠b):=by
 apply decide_eq_decide.2;omega
theorem Bs.grown{w W W':World}{l:List (Nat×List Value)}{r:Nat}(h:Bs w W l)(hg:W.grownBy W' (some r))(hr :∀u∈l,u.1≠r)(hw:w.heap.size≤r):Bs w W' l :=
 ⟨fun u hu=>(h.bx u hu).grown hg (hr u hu),h.nd,h.ge,h.b.grown hg h.b.size (by intro k hk;cases hk;exact hw)⟩
abbrev fnB(f:FuncId)(v:Value):Value:= .func (.func f) #[v] #[]
theorem PairPost.up{x y:Ph}{p q:Pt}{w w0:World}{e:Ending}{w':World}(h:PairPost x y p q w e w')(hB:Below w0.heap.size w0 w):PairPost x y p q w0 e w':=by
 obtain⟨⟨err,a,b,xa,xb,h1,h2⟩,h3⟩:=h;exact⟨⟨err,a,b,xa,xb,h1,h2.imp id fun h=>⟨h.1,h.2.1,h.2.2.from hB.size⟩⟩,blw_up hB h3⟩
theorem pair_sel{x y:Ph}{p q:Pt}{w:World}(HP:Hid (PtX w x p))(HQ:Hid (PtX w y q))(HT:Hid (TabOk w))(Op:Hid (PtOk p))(Oq:Hid (PtOk q))(SP:Hid (SmEd p.edit))(SQ:Hid (SmEd q.edit))(Hf:Hid (p.file=q.file)):
  (∃f,([(3,fnB 57 (.agg (pairVs p x q y).toArray)),(4,fnB 58 (.agg (pairVs p x q y).toArray))]:List (Int×Value)).find? (fun u=>(p.kind:Int) == u.1)=some ((p.kind:Int),fnB f (.agg (pairVs p x q y).toArray))∧Enters Tryz.prog f∧(p.kind=q.kind→∀V,Below w.heap.size w V→Calls Tryz.prog f #[.agg (pairVs p x q y).toArray] V fun e w'=>PairPost x y p q V e w'))∨
  (([(3,fnB 57 (.agg (pairVs p x q y).toArray)),(4,fnB 58 (.agg (pairVs p x q y).toArray))]:List (Int×Value)).find? (fun u=>(p.kind:Int) == u.1)=none∧(p.kind≠3∧p.kind≠4)):=by
 by_cases h3:p.kind=3
 ·exact .inl ⟨57,by rw[h3];rfl,enters_of Tryz.func57 (by kernel_rfl) rfl,fun hk V hV=>commLines_any (HP.out.below hV) (HQ.out.below hV) (HT.out.below hV) Op.out Oq.out Hf.out h3 (by omega)⟩
 ·by_cases h4:p.kind=4
  ·exact .inl ⟨58,by rw[h4];rfl,enters_of Tryz.func58 (by kernel_rfl) rfl,fun hk V hV=>commTrees_any (HP.out.below hV) (HQ.out.below hV) (HT.out.below hV) Op.out Oq.out SP.out SQ.out Hf.out h4 (by omega)⟩
  ·refine .inr ⟨?_,h3,h4⟩;have q3:((p.kind:Int) == 3)=false:=by simp;omega
   have q4:((p.kind:Int) == 4)=false:=by simp;omega
   simp only[List.find?,q3,q4]
theorem keyPk:Tryz.prog.underlying 22=some (.int .u8):=Tryz.underlying22
theorem turn_any{x y:Ph}{p q:Pt}{w:World}(Hp:PtX w x p)(Hq:PtX w y q)(htab:TabOk w)(hp:PtOk p)(hq:PtOk q)(sp:SmEd p.edit)(sq:SmEd q.edit):
  Calls Tryz.prog 26 #[.agg (pairVs p x q y).toArray] w (PairPost x y p q w):=by
 obtain⟨W0,hW0⟩:∃W0,W0=(w.alloc (.cells (pairVs p x q y).toArray 54)).alloc (.cells (zeroPair).toArray 54):=⟨_,rfl⟩;have h0:Bs w W0 [(w.heap.size,pairVs p x q y),(w.heap.size+1,zeroPair)]:=by
  have:=((Bs.nil (Below.refl w.heap.size w)).new (pairVs p x q y) 54).new (zeroPair) 54;simp only[World.size_alloc,List.nil_append,List.cons_append,Nat.add_assoc,Nat.reduceAdd]at this;rw[hW0];exact this
 have hz0:w.heap.size+2≤W0.heap.size:=by rw[hW0];simp
 have HW0:=hide hW0;have H0:=hide h0;have HZ:=hide hz0;have HP:=hide Hp;have HQ:=hide Hq;have HT:=hide htab;have Op:=hide hp;have Oq:=hide hq;clear hW0 h0 hz0 Hp Hq htab hp hq;have SP:=hide sp;have SQ:=hide sq;clear sp sq;have hmf:=hmf;have hmm:=fun W:World=>run_makeMap (P:=Tryz.prog) 114 W;go_enter Tryz.func26,Tryz.ntmps26
 go_upto_region 1 with fail
 try simp only[Nat.add_assoc,Nat.reduceAdd]
 change Code.wp _ _ _ _ ((w.alloc (.cells (pairVs p x q y).toArray 54)).alloc (.cells (zeroPair).toArray 54));rw[←HW0.out];clear HW0;have f1:=(H0.out.at 0 rfl).cell 1;have f2:=(H0.out.at 0 rfl).cell 15;refine wp_region_lit ?_;refine sk ?_;refine sk ?_;refine sk ?_;refine sk ?_;refine sk ?_;refine sk ?_;by_cases hf:p.file=q.file
 ·have Hf:=hide hf;clear hf;refine sk (v:= .bool false) ?_ (hy:=by go_simp;rw[Hf.out]);refine wpList_nil ?_
  first
   | (rename_i hK;refine hK _ _ ?_;clear hK)
   | (rename_i hK zK;refine hK _ _ ?_;clear hK)
  clear f1 f2
  go_upto_region 3 with fail
  have k1:=(H0.out.at 0 rfl).cell 0;have k2:=(H0.out.at 0 rfl).cell 14;refine wp_region_lit ?_;refine sk ?_;refine sk ?_;refine sk ?_;refine sk ?_;refine sk ?_;refine sk ?_;clear k1 k2;refine gw (w':=W0.alloc (.cells #[.int .u8 p.kind,.int .u8 q.kind] 22)) (v:= .slice (some ⟨W0.heap.size,0,none⟩) 2 2) ?_;have hx:=Bx.new W0 [.int .u8 p.kind,.int .u8 q.kind] 22;have hd:=below_alloc W0 (.cells #[.int .u8 p.kind,.int .u8 q.kind] 22);have H1:=hide (H0.out.push rfl hx hd);have Z1:=hide (Nat.lt_of_lt_of_le (Nat.lt_of_lt_of_le (Nat.lt_succ_self _) HZ.out) hd.size);clear hx hd H0 HZ Z1;refine sk ?_;refine wpList_nil ?_
  first
   | (rename_i hK;refine hK _ _ ?_;clear hK)
   | (rename_i hK zK;refine hK _ _ ?_;clear hK)
  change Code.wp _ _ _ _ (W0.alloc (.cells #[.int .u8 p.kind,.int .u8 q.kind] 22));generalize W0.alloc (.cells #[.int .u8 p.kind,.int .u8 q.kind] 22)=W1 at H1⊢;generalize W0.heap.size=R at H1⊢
  go_upto_region 4 with fail
  refine wp_region_lit ?_;refine gw (w':=W1.alloc (.map #[] 0)) (v:= .map (some W1.heap.size)) ?_;have T0:Tab ItV .u8 (W1.alloc (.map #[] 0)) W1.heap.size []:=Tab.new W1;have H2:=hide (H1.out.up (below_alloc W1 (.map #[] 0)));have Hne:=hide (fun(u:Nat×List Value) (hu:u∈[(w.heap.size,pairVs p x q y),(w.heap.size+1,zeroPair)]++[(R,[.int .u8 p.kind,.int .u8 q.kind])]) (e:u.1=W1.heap.size)=>Nat.lt_irrefl _ (e▸(H1.out.bx u hu).lt));have Hrw:=hide H1.out.b.size;clear H1;generalize W1.alloc (.map #[] 0)=V0 at T0 H2⊢;generalize W1.heap.size=r at T0 Hne Hrw⊢;refine gl ?_ (H2.out.at 0 rfl).c Tryz.underlying54 infoPair;refine sk (v:=fnB 57 (.agg (pairVs p x q y).toArray)) ?_;refine gi (k:=3) (v:=fnB 57 (.agg (pairVs p x q y).toArray)) T0 ?_ Tryz.underlying114 keyPk;intro V1 T1 g1;have H3:=hide (H2.out.grown g1 Hne.out Hrw.out);refine gl ?_ (H3.out.at 0 rfl).c Tryz.underlying54 infoPair;refine sk (v:=fnB 58 (.agg (pairVs p x q y).toArray)) ?_;refine gi (k:=4) (v:=fnB 58 (.agg (pairVs p x q y).toArray)) T1 ?_ Tryz.underlying114 keyPk;intro V2 T2 g2;have H4:=hide (H3.out.grown g2 Hne.out Hrw.out);clear T0 T1 g1 g2 H2 H3;refine sk ?_;refine sk ?_;refine sk ?_;have k0:=(H4.out.at 0 rfl).cell 0;refine sk ?_;clear k0;have hz:(zeroValue 56).run Tryz.prog V2 = .ok .nilFunc V2:=by go_simp
  have T5:Tab ItV .u8 V2 r [(3,fnB 57 (.agg (pairVs p x q y).toArray)),(4,fnB 58 (.agg (pairVs p x q y).toArray))]:=T2;clear T2;rcases pair_sel HP HQ HT Op Oq SP SQ Hf with⟨f,hfd,hen0,hcall⟩|⟨hfd,hno⟩
  ·have Hcall:=hide hcall;have hen :∀(args:Array Value) (W:World),(callFunc f args).run Tryz.prog W = .ok (.enter f args) W:=hen0;clear hcall hen0;refine sk (v:= .tuple #[fnB f (.agg (pairVs p x q y).toArray),.bool true]) ?_ (hy:=exec_hit T5 Tryz.underlying114 keyPk hz hfd rfl rfl rfl);refine sk ?_;refine sk (v:=fnB f (.agg (pairVs p x q y).toArray)) ?_;refine sk (v:= .bool true) ?_;refine sk ?_;refine sk ?_;refine wpList_nil ?_
   first
    | (rename_i hK;refine hK _ _ ?_;clear hK)
    | (rename_i hK zK;refine hK _ _ ?_;clear hK)
   clear hfd hz T5;have H5:=H4;clear H4
   go_upto_region 5 with fail
   refine wp_region_lit ?_;refine sk ?_;refine sk ?_;refine sk ?_;refine sk ?_;refine gc (maxKinds ((H5.out.at 2 rfl).cell 0) ((H5.out.at 2 rfl).cell 1)) ?_;rintro e1 w1 ⟨rfl,rfl⟩;refine⟨_,rfl,?_⟩;simp only[List.set_cons_zero,List.set_cons_succ];refine sk ?_;refine gc (minKinds ((H5.out.at 2 rfl).cell 0) ((H5.out.at 2 rfl).cell 1)) ?_;rintro e2 w2 ⟨rfl,rfl⟩;refine⟨_,rfl,?_⟩;simp only[List.set_cons_zero,List.set_cons_succ];by_cases hk:p.kind=q.kind
   ·have Hk:=hide hk;clear hk;refine sk (v:= .bool false) ?_ (hy:=by go_simp;have:=Hk.out;omega);refine sk (v:= .bool false) ?_;refine wpList_nil ?_
    first
     | (rename_i hK;refine hK _ _ ?_;clear hK)
     | (rename_i hK zK;refine hK _ _ ?_;clear hK)
    go_upto_region 7 with fail
    refine wp_region_lit ?_;refine sk (v:=fnB f (.agg (pairVs p x q y).toArray)) ?_;refine gc (Hcall.out Hk.out _ H5.out.b) ?_;rintro e3 w3 ⟨⟨err,a,b,xa,xb,rfl,hI⟩,hd⟩;refine⟨_,rfl,?_⟩;have H6:=hide (H5.out.up hd);have HI:=hide hI;have HX:=hide H5.out.bx;have HS:=hide H5.out.b.size;clear hI hd H5;simp only[List.set_cons_zero,List.set_cons_succ];refine sk (v:= .agg (pairVs a xa b xb).toArray) ?_;refine sk (v:= .int .i64 err) ?_;refine gs (cells:=(pairVs a xa b xb).toArray) ?_ ((H6.out.at 1 rfl).th (o:=0) (by simp)) infoPair (pairVs_one _ _ _ _);have H7:=hide (H6.out.put 1 rfl 0 (pairVs a xa b xb) (pairVs a xa b xb) (by simp));refine sk (v:= .int .i64 err) ?_;refine wpList_nil ?_
    first
     | (rename_i hK;refine hK _ _ ?_;clear hK)
     | (rename_i hK zK;refine hK _ _ ?_;clear hK)
    refine wp_ret ?_
    try simp only[Exit.then,Exit.inBlock]
    refine bodyPost_ret (v:= .tuple #[.agg (pairVs a xa b xb).toArray,.int .i64 err]) (box_resultT Tryz.results26 (H7.out.at 1 rfl).c Tryz.underlying54 infoPair) rfl ⟨⟨err,a,b,xa,xb,rfl,?_⟩,H7.out.b⟩;rcases HI.out with h|⟨h1,h2,h3⟩
    ·exact .inl h
    ·exact .inr ⟨h1,h2,((h3.off (w:=w) HX.out HS.out).put 1 rfl 0 (pairVs a xa b xb) (pairVs a xa b xb)).two⟩
   ·have Hcl:=hide (ptCommute_clash Hf.out (.inl hk));have Hk:=hide hk;clear hk Hcall;refine sk (v:= .bool true) ?_ (hy:=by go_simp;have:=Hk.out;omega);refine sk (v:= .bool true) ?_;refine wpList_nil ?_
    first
     | (rename_i hK;refine hK _ _ ?_;clear hK)
     | (rename_i hK zK;refine hK _ _ ?_;clear hK)
    go_upto_region 6 with fail
    refine wp_region_lit ?_;refine sk (v:= .agg zeroPair.toArray) ?_ (hy:=by go_simp;rfl);refine gs (cells:=zeroPair.toArray) ?_ ((H5.out.at 1 rfl).th (o:=0) (by simp)) infoPair (pairVs_one Pt.zero Ph.zero Pt.zero Ph.zero);have H6:=hide (H5.out.put 1 rfl 0 zeroPair zeroPair (by simp));refine sk ?_;refine wpList_nil ?_
    first
     | (rename_i hK;refine hK _ _ ?_;clear hK)
     | (rename_i hK zK;refine hK _ _ ?_;clear hK)
    refine wp_ret ?_
    try simp only[Exit.then,Exit.inBlock]
    exact bodyPost_ret (v:= .tuple #[.agg zeroPair.toArray,.int .i64 130]) (box_resultT Tryz.results26 (H6.out.at 1 rfl).c Tryz.underlying54 infoPair) rfl ⟨⟨130,Pt.zero,Pt.zero,Ph.zero,Ph.zero,rfl,.inl ⟨Hcl.out,rfl⟩⟩,H6.out.b⟩
  ·have Hcl:=hide (ptCommute_clash Hf.out (.inr hno));clear hno;refine sk (v:= .tuple #[.nilFunc,.bool false]) ?_ (hy:=exec_miss T5 Tryz.underlying114 keyPk hz hfd rfl rfl rfl);refine sk ?_;refine sk (v:= .nilFunc) ?_;refine sk (v:= .bool false) ?_;refine sk ?_;refine sk ?_;refine wpList_nil ?_
   first
    | (rename_i hK;refine hK _ _ ?_;clear hK)
    | (rename_i hK zK;refine hK _ _ ?_;clear hK)
   clear hfd hz T5;have H5:=H4;clear H4
   go_upto_region 6 with fail
   refine wp_region_lit ?_;refine sk (v:= .agg zeroPair.toArray) ?_ (hy:=by go_simp;rfl);refine gs (cells:=zeroPair.toArray) ?_ ((H5.out.at 1 rfl).th (o:=0) (by simp)) infoPair (pairVs_one Pt.zero Ph.zero Pt.zero Ph.zero);have H6:=hide (H5.out.put 1 rfl 0 zeroPair zeroPair (by simp));refine sk ?_;refine wpList_nil ?_
   first
    | (rename_i hK;refine hK _ _ ?_;clear hK)
    | (rename_i hK zK;refine hK _ _ ?_;clear hK)
   refine wp_ret ?_
   try simp only[Exit.then,Exit.inBlock]
   exact bodyPost_ret (v:= .tuple #[.agg zeroPair.toArray,.int .i64 130]) (box_resultT Tryz.results26 (H6.out.at 1 rfl).c Tryz.underlying54 infoPair) rfl ⟨⟨130,Pt.zero,Pt.zero,Ph.zero,Ph.zero,rfl,.inl ⟨Hcl.out,rfl⟩⟩,H6.out.b⟩
 ·have Hf:=hide hf;clear hf;refine sk (v:= .bool true) ?_ (hy:=by go_simp;exact fun e=>Hf.out (txt_eq.1 (by simp[e])));refine wpList_nil ?_
  first
   | (rename_i hK;refine hK _ _ ?_;clear hK)
   | (rename_i hK zK;refine hK _ _ ?_;clear hK)
  clear f1 f2
  go_upto_region 2 with fail
  refine wp_region_lit ?_;refine gl ?_ (H0.out.at 0 rfl).c Tryz.underlying54 infoPair;refine gc (turned_any (HP.out.below H0.out.b) (HQ.out.below H0.out.b) (HT.out.below H0.out.b) Op.out Oq.out) ?_;rintro e1 w1 ⟨⟨xa,xb,rfl,ht⟩,hd⟩;refine⟨_,rfl,?_⟩;have H1:=hide (H0.out.up hd);have T1:=hide (ht.off (w:=w) H0.out.bx H0.out.b.size);clear ht hd H0;simp only[List.set_cons_zero,List.set_cons_succ];refine gs (cells:=(pairVs q xa p xb).toArray) ?_ ((H1.out.at 1 rfl).th (o:=0) (by simp)) infoPair (pairVs_one _ _ _ _);have H2:=hide (H1.out.put 1 rfl 0 (pairVs q xa p xb) (pairVs q xa p xb) (by simp));refine sk ?_;refine wpList_nil ?_
  first
   | (rename_i hK;refine hK _ _ ?_;clear hK)
   | (rename_i hK zK;refine hK _ _ ?_;clear hK)
  refine wp_ret ?_
  try simp only[Exit.then,Exit.inBlock]
  exact bodyPost_ret (v:= .tuple #[.agg (pairVs q xa p xb).toArray,.int .i64 0]) (box_resultT Tryz.results26 (H2.out.at 1 rfl).c Tryz.underlying54 infoPair) rfl ⟨⟨0,q,p,xa,xb,rfl,.inr ⟨ptCommute_files Hf.out,rfl,(T1.out.put 1 rfl 0 (pairVs q xa p xb) (pairVs q xa p xb)).two⟩⟩,H2.out.b⟩
theorem commute_any{x y:Ph}{p q:Pt}{w:World}(Hp:PtX w x p)(Hq:PtX w y q)(htab:TabOk w)(sp:SmEd p.edit)(sq:SmEd q.edit):
  Calls Tryz.prog 10 #[.agg (ptVs p x).toArray,.agg (ptVs q y).toArray] w (PtPost x y p q (ptCommute p q) w):=by
 obtain⟨W0,hW0⟩:∃W0,W0=(((w.alloc (.cells (ptVs p x).toArray 32)).alloc (.cells (ptVs q y).toArray 32)).alloc (.cells (zeroPt).toArray 32)).alloc (.cells (zeroPt).toArray 32):=⟨_,rfl⟩;have h0:Bs w W0 [(w.heap.size,ptVs p x),(w.heap.size+1,ptVs q y),(w.heap.size+2,zeroPt),(w.heap.size+3,zeroPt)]:=by
  have:=((((Bs.nil (Below.refl w.heap.size w)).new (ptVs p x) 32).new (ptVs q y) 32).new (zeroPt) 32).new (zeroPt) 32;simp only[World.size_alloc,List.nil_append,List.cons_append,Nat.add_assoc,Nat.reduceAdd]at this;rw[hW0];exact this
 have hz0:w.heap.size+4≤W0.heap.size:=by rw[hW0];simp
 have HW0:=hide hW0;have H0:=hide h0;have HZ:=hide hz0;have HP:=hide Hp;have HQ:=hide Hq;have HT:=hide htab;have SP:=hide sp;have SQ:=hide sq;clear hW0 h0 hz0 Hp Hq htab sp sq;go_enter Tryz.func10,Tryz.ntmps10
 go_upto_region 1 with fail
 try simp only[Nat.add_assoc,Nat.reduceAdd]
 change Code.wp _ _ _ _ ((((w.alloc (.cells (ptVs p x).toArray 32)).alloc (.cells (ptVs q y).toArray 32)).alloc (.cells (zeroPt).toArray 32)).alloc (.cells (zeroPt).toArray 32));rw[←HW0.out];clear HW0;refine wp_region_lit ?_;refine gl ?_ (H0.out.at 0 rfl).c Tryz.underlying32 infoPt;refine gc (right_anyO (HP.out.below H0.out.b) (HT.out.below H0.out.b)) ?_;rintro e1 w1 ⟨⟨rp,rfl,hrp⟩,hd⟩;refine⟨_,rfl,?_⟩;have Hrp:=hide hrp;have H1:=hide (H0.out.up hd);clear hrp hd H0;simp only[List.set_cons_zero,List.set_cons_succ];refine sk ?_;refine sk ?_;refine sg (b:=rp) (v:= .agg (ptVs q y).toArray) ?_ (hw:=by cases rp<;>rfl) (hy:=fun _=>exec_load_range rfl rfl (H1.out.at 1 rfl).c Tryz.underlying32 rfl infoPt);refine gcb rp (fun _=>right_anyO (HQ.out.below H1.out.b) (HT.out.below H1.out.b)) ?_ (by cases rp<;>rfl);intro rq w2 hrq hd;have Hrq:=hide hrq;have H2:=hide (H1.out.up hd);clear hrq hd H1;simp only[List.set_cons_zero,List.set_cons_succ];refine sg (b:=rp) ?_ (hw:=by cases rp<;>rfl);refine so (g:=!rp) (g1:=rp) (by simp) ?_;intro c1 c2 hc1 hc2;clear hc2;have Hboth:=hide (both_iff Hrp.out Hrq.out hc1);clear hc1 Hrp Hrq;simp only[List.set_cons_zero,List.set_cons_succ];refine wpList_nil ?_
 first
  | (rename_i hK;refine hK _ _ ?_;clear hK)
  | (rename_i hK zK;refine hK _ _ ?_;clear hK)
 rcases Bool.eq_false_or_eq_true c1 with rfl|rfl
 ·have Hno:=hide (Hboth.out.mp rfl);clear Hboth
  go_upto_region 2 with fail
  have hS:=H2.out.drew.two 2 3 rfl rfl;refine wp_region_held_drew (S:=TwoC (w.heap.size+2) (w.heap.size+3) zeroPt zeroPt) (by kernel_rfl) hS (fun hS0=>?_);have H3:=hide H2.out.drew;clear hS H2;refine tl 0 hS0 ?_ (fun V hV=>hV.1) Tryz.underlying32 infoPt;refine tl 1 hS0 ?_ (fun V hV=>hV.2) Tryz.underlying32 infoPt;refine dr1 2 ?_;refine bm (cells:=(zeroPt).toArray) ?_ ((H3.out.at 2 rfl).th (o:=0) (by simp)) infoPt (ptVs_one Pt.zero Ph.zero);have H4:=hide (H3.out.put 2 rfl 0 zeroPt zeroPt (by simp));refine⟨H4.out.two 2 3 rfl rfl,?_⟩;refine dr1 3 ?_;refine bm (cells:=(zeroPt).toArray) ?_ ((H4.out.at 3 rfl).th (o:=0) (by simp)) infoPt (ptVs_one Pt.zero Ph.zero);have H5:=hide (H4.out.put 3 rfl 0 zeroPt zeroPt (by simp));refine⟨H5.out.two 2 3 rfl rfl,?_⟩;refine dr1 4 ?_;refine bw ?_;refine⟨H5.out.two 2 3 rfl rfl,?_⟩;refine wpAnyH_done (by kernel_rfl) ?_ _;rename_i hK;refine hK _ _ ?_;clear hK;refine wp_ret ?_
  try simp only[Exit.then,Exit.inBlock]
  exact bodyPost_ret (v:= .tuple #[.agg zeroPt.toArray,.agg zeroPt.toArray,.int .i64 4]) (box_result3 Tryz.results10 (H5.out.at 2 rfl).c (H5.out.at 3 rfl).c Tryz.underlying32 Tryz.underlying32 infoPt infoPt) rfl ⟨⟨4,Pt.zero,Pt.zero,_,_,rfl,TwoPt.zero,.inl ⟨Hno.out,rfl,rfl,rfl⟩⟩,H5.out.b⟩
 have hbo:PtOk p∧PtOk q:=Classical.not_not.1 fun h=>by have:=Hboth.out.mpr h;cases this
 have Op:=hide hbo.1;have Oq:=hide hbo.2;clear hbo Hboth
 go_upto_region 3 with fail
 have KT:=hide (turn_any (HP.out.below H2.out.b) (HQ.out.below H2.out.b) (HT.out.below H2.out.b) Op.out Oq.out SP.out SQ.out);refine wp_region_lit ?_;refine gl ?_ (H2.out.at 0 rfl).c Tryz.underlying32 infoPt;refine gl ?_ (H2.out.at 1 rfl).c Tryz.underlying32 infoPt;refine sk (v:= .agg (pairVs p x q y).toArray) ?_;refine gc KT.out ?_;rintro e3 w3 ⟨⟨err,a,b,xa,xb,rfl,hI⟩,hd⟩;refine⟨_,rfl,?_⟩;have HI:=hide hI;have HX:=hide H2.out.bx;have HS:=hide H2.out.b.size;have H3:=hide (H2.out.up hd);clear hI hd H2 KT;simp only[List.set_cons_zero,List.set_cons_succ];refine sk (v:= .tuple #[.agg (pairVs a xa b xb).toArray,.int .i64 err]) ?_;refine sk (v:= .agg (pairVs a xa b xb).toArray) ?_;refine sk (v:= .int .i64 err) ?_;refine gw (w':=w3.alloc (.cells zeroPair.toArray 54)) (v:= .pointer (some ⟨w3.heap.size,0,none⟩)) ?_ (hy:=by go_simp;rfl);have hx:=Bx.new w3 zeroPair 54;have hd:=below_alloc w3 (.cells zeroPair.toArray 54);have H4:=hide (H3.out.push rfl hx hd);refine gs (cells:=(pairVs a xa b xb).toArray) ?_ ((H4.out.at 4 rfl).th (o:=0) (by simp)) infoPair (pairVs_one _ _ _ _);have H5:=hide (H4.out.put 4 rfl 0 (pairVs a xa b xb) (pairVs a xa b xb) (by simp));have HI5:Hid ((ptCommute p q=none∧err=130)∨(ptCommute p q=some (a,b)∧err=0∧TwoPb w ((w3.alloc (.cells zeroPair.toArray 54)).setCells w3.heap.size 0 (pairVs a xa b xb)) xa xb a b y q x p (([(w.heap.size,ptVs p x),(w.heap.size+1,ptVs q y),(w.heap.size+2,zeroPt),(w.heap.size+3,zeroPt)]++[(w3.heap.size,zeroPair)]).set 4 (w3.heap.size,pairVs a xa b xb)))):=
  hide (HI.out.imp id fun h=>⟨h.1,h.2.1,((h.2.2.off (w:=w) HX.out HS.out).push (us:=zeroPair) rfl hd).put 4 rfl 0 (pairVs a xa b xb) (pairVs a xa b xb)⟩)
 clear hx hd H3 H4 HI HX HS;refine sk (v:= .int .i64 err) ?_;refine wpList_nil ?_
 first
  | (rename_i hK;refine hK _ _ ?_;clear hK)
  | (rename_i hK zK;refine hK _ _ ?_;clear hK)
 change Code.wp _ _ _ _ ((w3.alloc (.cells zeroPair.toArray 54)).setCells w3.heap.size 0 (pairVs a xa b xb));generalize (w3.alloc (.cells zeroPair.toArray 54)).setCells w3.heap.size 0 (pairVs a xa b xb)=w4 at H5 HI5⊢;generalize w3.heap.size=M at H5 HI5⊢;rcases HI5.out with⟨hn,rfl⟩|⟨hy,rfl,ht⟩
 ·have Hn:=hide hn;clear hn HI5
  go_upto_region 5 with fail
  refine wp_region_lit ?_;refine sk (v:= .agg zeroPt.toArray) ?_ (hy:=by go_simp;rfl);refine sk (v:= .agg zeroPt.toArray) ?_ (hy:=by go_simp;rfl);refine sk (v:= .int .i64 130) ?_;refine gs (cells:=zeroPt.toArray) ?_ ((H5.out.at 2 rfl).th (o:=0) (by simp)) infoPt (ptVs_one Pt.zero Ph.zero);have H6:=hide (H5.out.put 2 rfl 0 zeroPt zeroPt (by simp));refine gs (cells:=zeroPt.toArray) ?_ ((H6.out.at 3 rfl).th (o:=0) (by simp)) infoPt (ptVs_one Pt.zero Ph.zero);have H7:=hide (H6.out.put 3 rfl 0 zeroPt zeroPt (by simp));refine sk (v:= .int .i64 130) ?_;refine wpList_nil ?_
  first
   | (rename_i hK;refine hK _ _ ?_;clear hK)
   | (rename_i hK zK;refine hK _ _ ?_;clear hK)
  refine wp_ret ?_
  try simp only[Exit.then,Exit.inBlock]
  exact bodyPost_ret (v:= .tuple #[.agg zeroPt.toArray,.agg zeroPt.toArray,.int .i64 130]) (box_result3 Tryz.results10 (H7.out.at 2 rfl).c (H7.out.at 3 rfl).c Tryz.underlying32 Tryz.underlying32 infoPt infoPt) rfl ⟨⟨130,Pt.zero,Pt.zero,_,_,rfl,TwoPt.zero,.inr ⟨⟨Op.out,Oq.out⟩,.inl ⟨Hn.out,rfl,rfl,rfl⟩⟩⟩,H7.out.b⟩
 ·have Hy:=hide hy;have T5:=hide ht;clear hy ht HI5
  go_upto_region 6 with fail
  have hS:(fun V=>Bx V M (pairVs a xa b xb)) w4.drew:=H5.out.drew.at 4 rfl;refine wp_region_held_drew (S:=fun V=>Bx V M (pairVs a xa b xb)) (by kernel_rfl) hS (fun hS0=>?_);have H6:=hide H5.out.drew;have T6:=hide (T5.out.up (Below.drew (Below.refl _ _)));clear hS H5 T5;refine tka 0 hS0 ?_;refine tl (off:=0) (cs:=ptVs a xa) 1 hS0 ?_ (fun V hV=>hV.part 0 14) Tryz.underlying32 infoPt;refine tka 2 hS0 ?_;refine tl (off:=14) (cs:=ptVs b xb) 3 hS0 ?_ (fun V hV=>hV.part 14 14) Tryz.underlying32 infoPt;refine dr1 4 ?_;refine bm (cells:=(ptVs a xa).toArray) ?_ ((H6.out.at 2 rfl).th (o:=0) (by simp)) infoPt (ptVs_one a xa);have H7:=hide (H6.out.put 2 rfl 0 (ptVs a xa) (ptVs a xa) (by simp));refine⟨H7.out.at 4 rfl,?_⟩;refine dr1 5 ?_;refine bm (cells:=(ptVs b xb).toArray) ?_ ((H7.out.at 3 rfl).th (o:=0) (by simp)) infoPt (ptVs_one b xb);have H8:=hide (H7.out.put 3 rfl 0 (ptVs b xb) (ptVs b xb) (by simp));refine⟨H8.out.at 4 rfl,?_⟩;refine dr1 6 ?_;refine bw ?_;refine⟨H8.out.at 4 rfl,?_⟩;refine wpAnyH_done (by kernel_rfl) ?_ _;rename_i hK;refine hK _ _ ?_;clear hK;refine wp_ret ?_
  try simp only[Exit.then,Exit.inBlock]
  exact bodyPost_ret (v:= .tuple #[.agg (ptVs a xa).toArray,.agg (ptVs b xb).toArray,.int .i64 0]) (box_result3 Tryz.results10 (H8.out.at 2 rfl).c (H8.out.at 3 rfl).c Tryz.underlying32 Tryz.underlying32 infoPt infoPt) rfl ⟨⟨0,a,b,xa,xb,rfl,((T6.out.put 2 rfl 0 (ptVs a xa) (ptVs a xa)).put 3 rfl 0 (ptVs b xb) (ptVs b xb)).two,.inr ⟨⟨Op.out,Oq.out⟩,.inr ⟨Hy.out,rfl⟩⟩⟩,H8.out.b⟩
theorem HkB.of{a h:Hk}(hb:HkB h)(ho:a.old=h.old)(hn:a.new=h.new)(ok:HkOk a):HkB a :=
 ⟨⟨by have:=ok.1;omega,by have:=ok.2.1;omega⟩,by rw[ho];exact hb.old,by rw[hn];exact hb.new⟩
theorem hkCommute_b{p q a b:Hk}(bp:HkB p)(bq:HkB q)(h:hkCommute p q=some (a,b)):HkB a∧HkB b:=by
 have ok:=hkCommute_ok h;unfold hkCommute at h;split at h
 ·split at h
  ·cases h;exact⟨bq.of rfl rfl ok.1,bp.of rfl rfl ok.2⟩
  ·cases h
 ·split at h
  ·split at h
   ·cases h;exact⟨bq.of rfl rfl ok.1,bp.of rfl rfl ok.2⟩
   ·cases h
  ·cases h
theorem edCommute_b{p q a b:Ed}(hp:EdOk p)(hq:EdOk q)(bp:EdB p)(bq:EdB q)(h:edCommute p q=some (a,b)):EdB a∧EdB b:=by
 by_cases hm:edMix p q
 ·rw[edCommute_mix hm]at h;cases h
 ·rw[edCommute_eq hm]at h;obtain⟨⟨x,y⟩,h1,h2⟩:=Option.bind_eq_some_iff.1 h;simp only at h2;split at h2
  ·cases h2;by_cases hl:listed p∧listed q∧p.path=q.path
   ·rw[edTurn_beside hl]at h1;obtain⟨⟨j,i⟩,h3,h4⟩:=Option.map_eq_some_iff.1 h1;cases h4;have hs:=besideOf_small hp.nums.1 hq.nums.1 h3;exact⟨bq.withAt hs.1,bp.withAt hs.2⟩
   ·rw[edTurn_past hl]at h1;obtain⟨l,h3,h4⟩:=Option.bind_eq_some_iff.1 h1;obtain⟨r,h5,h6⟩:=Option.map_eq_some_iff.1 h4;cases h6;have s1:=pastOf_small hq.1 hp.inv.nums.2 h3;have s2:=pastOf_small hp.1 (e:={q with path:=l}) hq.nums.2 h5;exact⟨bq.withPath s1.2 s1.1,bp.withPath s2.2 s2.1⟩
  ·cases h2
theorem ptCommute_b{p q a b:Pt}(hp:PtOk p)(hq:PtOk q)(bp:PtB p)(bq:PtB q)(h:ptCommute p q=some (a,b)):PtB a∧PtB b:=by
 unfold ptCommute at h;split at h
 ·cases h;exact⟨bq,bp⟩
 ·split at h
  ·cases h
  ·next hk =>
   simp only[ne_eq,Decidable.not_not]at hk;split at h
   ·obtain⟨⟨x,y⟩,h1,h2⟩:=Option.map_eq_some_iff.1 h;cases h2;have hb:=hkCommute_b bp.hunk bq.hunk h1;exact⟨⟨bq.kind,bq.file,bq.text,hb.1,bq.edit⟩,⟨bp.kind,bp.file,bp.text,hb.2,bp.edit⟩⟩
   ·split at h
    ·next h4 =>
     obtain⟨⟨x,y⟩,h1,h2⟩:=Option.map_eq_some_iff.1 h;cases h2;have hb:=edCommute_b (hp.ed h4) (hq.ed (hk▸h4)) bp.edit bq.edit h1;exact⟨⟨bq.kind,bq.file,bq.text,bq.hunk,hb.1⟩,⟨bp.kind,bp.file,bp.text,bp.hunk,hb.2⟩⟩
    ·cases h
theorem PtX.hr{w:World}{x:Ph}{p:Pt}(h:PtX w x p):PhR x:=h.r.r
theorem wrapk63(x:Int):is63 (IntKind.i64.wrap x):=by unfold is63;rw[IntKind.wrap_i64];omega
theorem docsNone{w:World}{m:Int}:Calls Tryz.prog 22 #[.slice none 0 0,.int .i64 m] w fun e w'=>e = .returned (.int .i64 0)∧w'=w:=by
 go_enter Tryz.func22,Tryz.ntmps22
 go_wp2_with fail
 go_loopw [6,5] (fun i n wr=>i = .int .i64 0∧n = .int .i64 0∧w=wr) (fun _ _ _=>0)
 case atStart=>exact⟨rfl,rfl,rfl⟩
 case round =>
  obtain⟨rfl,rfl,rfl⟩:=hrel
  go_wp2_with fail
  go_ret;exact⟨rfl,rfl⟩
def ptAt(p q:Pt)(x y:Ph):Nat→Pt×Ph
 | 0=>(p,x)
 | _=>(q,y)
theorem two_range{W:World}{R:Nat}{p q:Pt}{x y:Ph}(h:Bx W R (pairVs p x q y))(j:Nat)(hj:j<2):W.rangeAt R (j*14) (ptVs (ptAt p q x y j).1 (ptAt p q x y j).2):=by
 match j,hj with
 | 0,_=>exact h.part 0 14
 | 1,_=>exact h.part 14 14
theorem patchesTwo{p q:Pt}{x y:Ph}{R:Nat}{w:World}{m:Int}(hb:Bx w R (pairVs p x q y))(hp:PtX w x p)(hq:PtX w y q)(hm:is63 m):
  Calls Tryz.prog 23 #[.slice (some ⟨R,0,none⟩) 2 2,.int .i64 m] w fun e w'=>RetI e∧Below w.heap.size w w':=by
 have Hb:=hide hb;have HP:=hide hp;have HQ:=hide hq;have Hm:=hide hm;clear hb hp hq hm;go_enter Tryz.func23,Tryz.ntmps23
 go_wp2_with fail
 go_loopw [5,6] (fun v i wr=>∃(j:Nat) (n:Int),j≤2∧i = .int .i64 j∧v = .int .i64 n∧Hid (is63 n)∧Hid (Below w.heap.size w wr)) (fun _ i _=>2-(intOf i).toNat)
 case atStart=>exact⟨0,0,by omega,rfl,rfl,hide (by unfold is63;omega),hide (Below.refl _ _)⟩
 case round =>
  obtain⟨j,n,hj,rfl,rfl,Hn,HB⟩:=hrel;by_cases hnm:n≤m
  ·match j,hj with
   | 0,_ =>
    have hdm:decide (n≤m)=true:=by simpa using hnm
    have HR:=hide ((Hb.out.call HB.out).part 0 14:wr.rangeAt R 0 (ptVs p x));clear hnm
    go_upto_region 5 with fail
    refine wp_region_lit ?_;refine sk ?_;refine sk ?_;refine sk ?_;refine sk (v:= .pointer (some ⟨R,0,none⟩)) ?_;refine gl (off:=0) (cs:=ptVs p x) ?_ HR.out Tryz.underlying32 infoPt;refine sk ?_;refine sk ?_;refine sk ?_;refine gc (patchOf_any (HP.out.r.below HB.out) (wrapk63 _)) ?_;rintro e2 w2 ⟨⟨r2,rfl,h2⟩,hd⟩;refine⟨_,rfl,?_⟩;have HB2:=hide (blw_up HB.out hd);clear hd h2;simp only[List.set_cons_zero,List.set_cons_succ];refine sk ?_;refine sk ?_;refine wpList_nil ?_
    first
     | (rename_i hK;refine hK _ _ ?_;clear hK)
     | (rename_i hK zK;refine hK _ _ ?_;clear hK)
    clear hdm
    go_wp2_with fail
    exact⟨⟨1,_,by omega,rfl,rfl,hide (wrapk63 _),HB2⟩,by simp[intOf]⟩
   | 1,_ =>
    have hdm:decide (n≤m)=true:=by simpa using hnm
    have HR:=hide ((Hb.out.call HB.out).part 14 14:wr.rangeAt R 14 (ptVs q y));clear hnm
    go_upto_region 5 with fail
    refine wp_region_lit ?_;refine sk ?_;refine sk ?_;refine sk ?_;refine sk (v:= .pointer (some ⟨R,14,none⟩)) ?_;refine gl (off:=14) (cs:=ptVs q y) ?_ HR.out Tryz.underlying32 infoPt;refine sk ?_;refine sk ?_;refine sk ?_;refine gc (patchOf_any (HQ.out.r.below HB.out) (wrapk63 _)) ?_;rintro e2 w2 ⟨⟨r2,rfl,h2⟩,hd⟩;refine⟨_,rfl,?_⟩;have HB2:=hide (blw_up HB.out hd);clear hd h2;simp only[List.set_cons_zero,List.set_cons_succ];refine sk ?_;refine sk ?_;refine wpList_nil ?_
    first
     | (rename_i hK;refine hK _ _ ?_;clear hK)
     | (rename_i hK zK;refine hK _ _ ?_;clear hK)
    clear hdm
    go_wp2_with fail
    exact⟨⟨2,_,by omega,rfl,rfl,hide (wrapk63 _),HB2⟩,by simp[intOf]⟩
   | 2,_ =>
    go_wp2_with fail
    go_ret;exact⟨⟨n,rfl,Hn.out⟩,HB.out⟩
  ·have hdm:decide (n≤m)=false:=by simpa using hnm
   match j,hj with
   | 0,_ =>
    go_wp2_with fail
    go_ret;exact⟨⟨n,rfl,Hn.out⟩,HB.out⟩
   | 1,_ =>
    go_wp2_with fail
    go_ret;exact⟨⟨n,rfl,Hn.out⟩,HB.out⟩
   | 2,_ =>
    go_wp2_with fail
    go_ret;exact⟨⟨n,rfl,Hn.out⟩,HB.out⟩
def RetT(e:Ending):Prop:=∃b:Bool,e = .returned (.bool b)
theorem small21{p q:Pt}{x y:Ph}{R:Nat}{w:World}(hb:Bx w R (pairVs p x q y))(hp:PtX w x p)(hq:PtX w y q):
  Calls Tryz.prog 8 #[.slice none 0 0,.slice (some ⟨R,0,none⟩) 2 2] w fun e w'=>RetT e∧Below w.heap.size w w':=by
 have Hp:=hide (patchesTwo (m:=300) hb hp hq (by unfold is63;omega));clear hb hp hq;go_enter Tryz.func8,Tryz.ntmps8
 go_upto_region 1 with fail
 refine wp_region_lit ?_;refine sk ?_;refine sk ?_;refine sk ?_;refine sk ?_;refine sk ?_;refine sk ?_;refine sk ?_;refine sk ?_;refine sk ?_;refine sk ?_;refine gc docsNone ?_;rintro e1 w1 ⟨rfl,rfl⟩;refine⟨_,rfl,?_⟩;simp only[List.set_cons_zero,List.set_cons_succ];refine sk ?_;refine sk ?_;refine sk ?_;refine sk ?_;refine gc Hp.out ?_;rintro e2 w2 ⟨⟨r,rfl,_⟩,hd⟩;refine⟨_,rfl,?_⟩;have HB:=hide hd;clear hd Hp;simp only[List.set_cons_zero,List.set_cons_succ];refine sk (v:= .bool (decide (r≤300))) ?_;refine sk (v:= .bool (decide (r≤300))) ?_;refine sk (v:= .bool (decide (r≤300))) ?_;refine wpList_nil ?_
 first
  | (rename_i hK;refine hK _ _ ?_;clear hK)
  | (rename_i hK zK;refine hK _ _ ?_;clear hK)
 go_wp2_with fail
 go_ret;exact⟨⟨_,rfl⟩,HB.out⟩
theorem small22{p q:Pt}{x y:Ph}{R:Nat}{w:World}(hb:Bx w R (pairVs p x q y))(hp:PtX w x p)(hq:PtX w y q):
  Calls Tryz.prog 17 #[.slice none 0 0,.slice (some ⟨R,0,none⟩) 2 2] w fun e w'=>RetT e∧Below w.heap.size w w':=by
 have Hp:=hide (patchesTwo (m:=300) hb hp hq (by unfold is63;omega));clear hb hp hq;go_enter Tryz.func17,Tryz.ntmps17
 go_upto_region 1 with fail
 refine wp_region_lit ?_;refine sk ?_;refine sk ?_;refine sk ?_;refine sk ?_;refine sk ?_;refine sk ?_;refine sk ?_;refine sk ?_;refine sk ?_;refine sk ?_;refine gc docsNone ?_;rintro e1 w1 ⟨rfl,rfl⟩;refine⟨_,rfl,?_⟩;simp only[List.set_cons_zero,List.set_cons_succ];refine sk ?_;refine sk ?_;refine sk ?_;refine sk ?_;refine gc Hp.out ?_;rintro e2 w2 ⟨⟨r,rfl,_⟩,hd⟩;refine⟨_,rfl,?_⟩;have HB:=hide hd;clear hd Hp;simp only[List.set_cons_zero,List.set_cons_succ];refine sk (v:= .bool (decide (r≤300))) ?_;refine sk (v:= .bool (decide (r≤300))) ?_;refine sk (v:= .bool (decide (r≤300))) ?_;refine wpList_nil ?_
 first
  | (rename_i hK;refine hK _ _ ?_;clear hK)
  | (rename_i hK zK;refine hK _ _ ?_;clear hK)
 go_wp2_with fail
 go_ret;exact⟨⟨_,rfl⟩,HB.out⟩
end
end Go.Proofs.YtialngdffhmobaaGreatDoor
