/- Part 44 of what commuteFiles_cardUpto rests on. -/
import Derived.Test.YtialngdffhmobaaGreatDoorV39
import Derived.Test.YtialngdffhmobaaGreatDoorV42
import Derived.Test.YtialngdffhmobaaGreatDoorV02
import Derived.Test.YtialngdffhmobaaGreatDoorV00
set_option linter.unusedVariables false
set_option linter.unusedSimpArgs false
set_option maxHeartbeats 16000000
set_option maxRecDepth 1000000
namespace Go.Proofs.YtialngdffhmobaaGreatDoor
section
open Go.RowKit
theorem kP:(Tryz.prog.info? 54).map (·.size)=some 28:=by kernel_rfl
theorem wG{u v:List Value}(h1:u.toArray.all (·.oneCell')=true)(h2:v.toArray.all (·.oneCell')=true):(u++v).toArray.all (·.oneCell')=true:=by
 simp only[List.all_toArray,List.all_append,Bool.and_eq_true]at *
 exact⟨h1,h2⟩
theorem uO(p:Pt)(x:Ph)(q:Pt)(y:Ph):(ax p x q y).toArray.all (·.oneCell')=true:=wG (kD p x) (kD q y)
theorem Bx.part{W:World}{b:Nat}{us vs:List Value}(h:Bx W b us)(k n:Nat)(he:(us.drop k).take n=vs:=by rfl):W.rangeAt b k vs:=by
 subst he;intro j v hj;rw[List.getElem?_take]at hj;split at hj
 ·rw[List.getElem?_drop]at hj;exact h.cell (k+j) hj
 ·cases hj
theorem Aj{P:Program}{fn:Func}{n ty s:Nat}{T:Array Value}{W:World}{b:Nat}{cs:List Value}{d:TypeDesc}{x:Value}(hf:fn.results=#[.cell n ty,.tmp s])(hr:W.rangeAt b 0 cs)(hu:P.underlying ty=some d)(hi:(P.info? ty).map (·.size)=some cs.length)
  (hd:d.isRow=true:=by rfl) (h:T[n]?=some (.pointer (some ⟨b,0,none⟩)):=by rfl) (h3:T[s]?=some x:=by rfl):(results fn T).run P W = .ok (.tuple #[.agg cs.toArray,x]) W:=by
 have hg:T.getD s undef=x:=by rw[Array.getD_eq_getD_getElem?,h3];rfl
 unfold results;rw[Sem.run_bind,hf,GR _ _ _ (.agg cs.toArray) x]
 ·rfl
 ·exact AA hr hu hi hd h
 ·show(pure (T.getD s undef):Sem Value).run P W=_;rw[hg];rfl
theorem Gi{x y:Ph}{p q:Pt}{w:World}(Hp:gX w x p)(Hq:gX w y q)(htab:aW w)(hp:bF p)(hq:bF q):
  Calls Tryz.prog 56 #[.agg (ax p x q y).toArray] w (fun e w'=>(∃xa xb,e = .returned (.agg (ax q xa p xb).toArray)∧eU w w' xa xb q p y q x p)∧Below w.heap.size w w'):=by
 obtain⟨W0,hW0⟩:∃W0,W0=(w.alloc (.cells (ax p x q y).toArray 54)).alloc (.cells (aN).toArray 54):=⟨_,rfl⟩;have h0:Bs w W0 [(w.heap.size,ax p x q y),(w.heap.size+1,aN)]:=by
  have:=((Bs.nil (Below.refl w.heap.size w)).new (ax p x q y) 54).new (aN) 54;simp only[World.size_alloc,List.nil_append,List.cons_append,Nat.add_assoc,Nat.reduceAdd]at this;rw[hW0];exact this
 have hz0:w.heap.size+2≤W0.heap.size:=by rw[hW0];simp
 have HW0:=hide hW0;have H0:=hide h0;have HZ:=hide hz0;have HP:=hide Hp;have HQ:=hide Hq;have HT:=hide htab;have Op:=hide hp;have Oq:=hide hq;clear hW0 h0 hz0 Hp Hq htab hp hq;go_enter Tryz.func56,Tryz.ntmps56
 go_upto_region 1 with fail
 try simp only[Nat.add_assoc,Nat.reduceAdd]
 change Code.wp _ _ _ _ ((w.alloc (.cells (ax p x q y).toArray 54)).alloc (.cells (aN).toArray 54));rw[←HW0.out];clear HW0;have hS:(fun V=>Bx V w.heap.size (ax p x q y)) W0.drew:=H0.out.drew.at 0 rfl;refine wp_region_held_drew (S:=fun V=>Bx V w.heap.size (ax p x q y)) (by kernel_rfl) hS (fun hS0=>?_);have H1:=hide H0.out.drew;have HZ1:Hid (w.heap.size+2≤W0.drew.heap.size):=HZ;generalize W0.drew=V0 at hS0 H1 HZ1⊢;clear hS H0 HZ;refine dI 0 hS0 ?_;refine tl (off:=14) (cs:=ai q y) 1 hS0 ?_ (fun V hV=>hV.part 14 14) Tryz.underlying32 dL;refine dI 3 hS0 ?_;refine tl (off:=0) (cs:=ai p x) 4 hS0 ?_ (fun V hV=>hV.part 0 14) Tryz.underlying32 dL;clear hS0;refine aP 2 ?_;refine bc (pG (HQ.out.below H1.out.b) (HT.out.below H1.out.b) Oq.out) ?_;rintro e1 V1 ⟨⟨xa,La,rfl,hs1,hn1⟩,hd⟩;have H2:=hide (H1.out.up hd);have xB:=hide (And.intro hs1 hn1);refine⟨_,rfl,⟨H2.out.at 0 rfl,?_⟩⟩;have HD:=hide hd;clear hs1 hn1 hd;simp only[aA,aB];refine aP 5 ?_;refine bc (pG (HP.out.below H2.out.b) (HT.out.below H2.out.b) Op.out) ?_;rintro e2 V2 ⟨⟨xb,Lb,rfl,hs2,hn2⟩,hd⟩;have H3:=hide (H2.out.up hd);have HE2:=hide (eU.mk2 xB.out.1 xB.out.2 hs2 hn2 hd HD.out.size);have hS3:(fun V=>Bx V w.heap.size (ax p x q y)) V2:=H3.out.at 0 rfl;refine⟨_,rfl,⟨hS3,?_⟩⟩;clear hs2 hn2 hd xB HD H1 H2;simp only[aA,aB];refine dI (v:= .agg (ax q xa p xb).toArray) 6 hS3 ?_;clear hS3;refine aP 7 ?_;refine bm (cells:=(ax q xa p xb).toArray) ?_ ((H3.out.at 1 rfl).th (o:=0) (by simp)) kP (uO q xa p xb);have H4:=hide (H3.out.put 1 rfl 0 (ax q xa p xb) (ax q xa p xb) (by simp));refine⟨H4.out.at 0 rfl,?_⟩;refine wpAnyH_done (by kernel_rfl) ?_ _;rename_i hK;refine hK _ _ ?_;clear hK;refine wp_ret ?_
 try simp only[Exit.then,Exit.inBlock]
 exact bodyPost_ret (v:= .agg (ax q xa p xb).toArray) (nJ Tryz.results56 (H4.out.at 1 rfl).c Tryz.underlying54 kP) rfl ⟨⟨xa,xb,rfl,(HE2.out.keep (fun c hc _=>iI _ (by have:=HZ1.out;omega) _ _ _) (by rw[dU];exact aC _)).from (by have:=HZ1.out;omega)⟩,H4.out.b⟩
theorem Ou{x y:Ph}{p q:Pt}{w:World}(Hp:gX w x p)(Hq:gX w y q)(htab:aW w)(hp:bF p)(hq:bF q)(hf:p.file=q.file)(h1:p.kind=3)(h2:q.kind=3):
  Calls Tryz.prog 57 #[.agg (ax p x q y).toArray] w (jJ x y p q w):=by
 obtain⟨W0,hW0⟩:∃W0,W0=(w.alloc (.cells (ax p x q y).toArray 54)).alloc (.cells (aN).toArray 54):=⟨_,rfl⟩;have h0:Bs w W0 [(w.heap.size,ax p x q y),(w.heap.size+1,aN)]:=by
  have:=((Bs.nil (Below.refl w.heap.size w)).new (ax p x q y) 54).new (aN) 54;simp only[World.size_alloc,List.nil_append,List.cons_append,Nat.add_assoc,Nat.reduceAdd]at this;rw[hW0];exact this
 have hz0:w.heap.size+2≤W0.heap.size:=by rw[hW0];simp
 have HW0:=hide hW0;have H0:=hide h0;have HZ:=hide hz0;have HP:=hide Hp;have HQ:=hide Hq;have HT:=hide htab;have Op:=hide hp;have Oq:=hide hq;clear hW0 h0 hz0 Hp Hq htab hp hq;have Hf:=hide hf;have K1:=hide h1;have K2:=hide h2;clear hf h1 h2;go_enter Tryz.func57,Tryz.ntmps57
 go_upto_region 1 with fail
 try simp only[Nat.add_assoc,Nat.reduceAdd]
 change Code.wp _ _ _ _ ((w.alloc (.cells (ax p x q y).toArray 54)).alloc (.cells (aN).toArray 54));rw[←HW0.out];clear HW0;refine wp_region_lit ?_;refine gl ?_ (H0.out.at 0 rfl).c Tryz.underlying54 kP;refine gc (Gi (HP.out.below H0.out.b) (HQ.out.below H0.out.b) (HT.out.below H0.out.b) Op.out Oq.out) ?_;rintro e1 w1 ⟨⟨xa,xb,rfl,ht⟩,hd⟩;refine⟨_,rfl,?_⟩;have H1:=hide (H0.out.up hd);have T1:=hide (ht.off (w:=w) H0.out.bx H0.out.b.size);have Z1:=hide (aI HZ.out hd.size);clear ht hd H0;simp only[aA,aB];refine gw (w':=w1.alloc (.cells aN.toArray 54)) (v:= .pointer (some ⟨w1.heap.size,0,none⟩)) ?_ (hy:=by go_simp;rfl);have hx:=Bx.new w1 aN 54;have hd:=bg w1 (.cells aN.toArray 54);have H2:=hide (H1.out.push rfl hx hd);have T2:=hide (T1.out.push (us:=aN) rfl hd);refine gs (cells:=(ax q xa p xb).toArray) ?_ ((H2.out.at 2 rfl).th (o:=0) (by simp)) kP (uO q xa p xb);have H3:=hide (H2.out.put 2 rfl 0 (ax q xa p xb) (ax q xa p xb) (by simp));have T3:=hide (T2.out.put 2 rfl 0 (ax q xa p xb) (ax q xa p xb));clear hx hd H1 H2 T1 T2;refine wpList_nil ?_
 first
  | (rename_i hK;refine hK _ _ ?_;clear hK)
  | (rename_i hK zK;refine hK _ _ ?_;clear hK)
 change Code.wp _ _ _ _ ((w1.alloc (.cells aN.toArray 54)).setCells w1.heap.size 0 (ax q xa p xb));clear Z1;generalize (w1.alloc (.cells aN.toArray 54)).setCells w1.heap.size 0 (ax q xa p xb)=w2 at H3 T3⊢;generalize w1.heap.size=M at H3 T3⊢
 go_upto_region 3 with fail
 refine wp_region_lit ?_;refine sk ?_;refine sk ?_;refine gl (off:=3) (cs:=au (p.hunk) (x.h)) ?_ ((H3.out.at 0 rfl).part 3 3) Tryz.underlying25 fZ;refine sk ?_;refine sk ?_;refine gl (off:=17) (cs:=au (q.hunk) (y.h)) ?_ ((H3.out.at 0 rfl).part 17 3) Tryz.underlying25 fZ;refine gc (Oe (HP.out.below H3.out.b).hunk (HQ.out.below H3.out.b).hunk) ?_;rintro e3 w3 ⟨⟨err,ra,rb,za,zb,rfl,hT,hI⟩,hd⟩;refine⟨_,rfl,?_⟩;have H4:=hide (H3.out.up hd);have T4:=hide (T3.out.hunks hT hd H3.out.bx H3.out.b.size);have HI:=hide hI;clear hT hI hd H3 T3;simp only[aA,aB];refine sk (v:= .tuple #[.agg (au ra za).toArray,.agg (au rb zb).toArray,.int .i64 err]) ?_;refine sk (v:= .agg (au ra za).toArray) ?_;refine sk (v:= .agg (au rb zb).toArray) ?_;refine sk (v:= .int .i64 err) ?_;refine sk ?_;refine sk ?_;refine gs (off:=3) (cells:=(au ra za).toArray) ?_ ((H4.out.at 2 rfl).th (o:=3) (by simp)) fZ (jB ra za);have H5:=hide (H4.out.put 2 rfl 3 (au ra za) (ax (q.withHunk ra) (xa.withHunk za) p xb) (by simp));refine sk ?_;refine sk ?_;refine gs (off:=17) (cells:=(au rb zb).toArray) ?_ ((H5.out.at 2 rfl).th (o:=17) (by simp)) fZ (jB rb zb);have H6:=hide (H5.out.put 2 rfl 17 (au rb zb) (ax (q.withHunk ra) (xa.withHunk za) (p.withHunk rb) (xb.withHunk zb)) (by simp));have T6:=hide ((T4.out.put 2 rfl 3 (au ra za) (ax (q.withHunk ra) (xa.withHunk za) p xb)).put 2 rfl 17 (au rb zb) (ax (q.withHunk ra) (xa.withHunk za) (p.withHunk rb) (xb.withHunk zb)));clear H4 H5 T4;refine sk (v:= .int .i64 err) ?_;refine wpList_nil ?_
 first
  | (rename_i hK;refine hK _ _ ?_;clear hK)
  | (rename_i hK zK;refine hK _ _ ?_;clear hK)
 change Code.wp _ _ _ _ ((w3.setCells M 3 (au ra za)).setCells M 17 (au rb zb));generalize (w3.setCells M 3 (au ra za)).setCells M 17 (au rb zb)=w4 at H6 T6⊢
 go_upto_region 4 with fail
 refine wp_region_lit ?_;refine gl (cs:=ax (q.withHunk ra) (xa.withHunk za) (p.withHunk rb) (xb.withHunk zb)) ?_ (H6.out.at 2 rfl).c Tryz.underlying54 kP;refine sk (v:= .int .i64 err) ?_;refine gs (cells:=(ax (q.withHunk ra) (xa.withHunk za) (p.withHunk rb) (xb.withHunk zb)).toArray) ?_ ((H6.out.at 1 rfl).th (o:=0) (by simp)) kP (uO _ _ _ _);have H7:=hide (H6.out.put 1 rfl 0 (ax (q.withHunk ra) (xa.withHunk za) (p.withHunk rb) (xb.withHunk zb)) (ax (q.withHunk ra) (xa.withHunk za) (p.withHunk rb) (xb.withHunk zb)) (by simp));have T7:=hide (T6.out.put 1 rfl 0 (ax (q.withHunk ra) (xa.withHunk za) (p.withHunk rb) (xb.withHunk zb)) (ax (q.withHunk ra) (xa.withHunk za) (p.withHunk rb) (xb.withHunk zb)));refine sk (v:= .int .i64 err) ?_;refine wpList_nil ?_
 first
  | (rename_i hK;refine hK _ _ ?_;clear hK)
  | (rename_i hK zK;refine hK _ _ ?_;clear hK)
 refine wp_ret ?_
 try simp only[Exit.then,Exit.inBlock]
 refine bodyPost_ret (v:= .tuple #[.agg (ax (q.withHunk ra) (xa.withHunk za) (p.withHunk rb) (xb.withHunk zb)).toArray,.int .i64 err]) (Aj Tryz.results57 (H7.out.at 1 rfl).c Tryz.underlying54 kP) rfl ⟨⟨err,_,_,_,_,rfl,?_⟩,H7.out.b⟩;rw[JQ Hf.out K1.out K2.out];rcases HI.out with h|⟨_,h|h⟩
 ·exact absurd ⟨Op.out.hk K1.out,Oq.out.hk K2.out⟩ h.1
 ·exact .inl ⟨by rw[h.1];rfl,h.2.1⟩
 ·exact .inr ⟨by rw[h.1];rfl,h.2,T7.out.two⟩
theorem Ov{x y:Ph}{p q:Pt}{w:World}(Hp:gX w x p)(Hq:gX w y q)(htab:aW w)(hp:bF p)(hq:bF q)(sp:iO p.edit)(sq:iO q.edit)(hf:p.file=q.file)(h1:p.kind=4)(h2:q.kind=4):
  Calls Tryz.prog 58 #[.agg (ax p x q y).toArray] w (jJ x y p q w):=by
 obtain⟨W0,hW0⟩:∃W0,W0=(w.alloc (.cells (ax p x q y).toArray 54)).alloc (.cells (aN).toArray 54):=⟨_,rfl⟩;have h0:Bs w W0 [(w.heap.size,ax p x q y),(w.heap.size+1,aN)]:=by
  have:=((Bs.nil (Below.refl w.heap.size w)).new (ax p x q y) 54).new (aN) 54;simp only[World.size_alloc,List.nil_append,List.cons_append,Nat.add_assoc,Nat.reduceAdd]at this;rw[hW0];exact this
 have hz0:w.heap.size+2≤W0.heap.size:=by rw[hW0];simp
 have HW0:=hide hW0;have H0:=hide h0;have HZ:=hide hz0;have HP:=hide Hp;have HQ:=hide Hq;have HT:=hide htab;have Op:=hide hp;have Oq:=hide hq;clear hW0 h0 hz0 Hp Hq htab hp hq;have Hf:=hide hf;have K1:=hide h1;have K2:=hide h2;have SP:=hide sp;have SQ:=hide sq;clear hf h1 h2 sp sq;go_enter Tryz.func58,Tryz.ntmps58
 go_upto_region 1 with fail
 try simp only[Nat.add_assoc,Nat.reduceAdd]
 change Code.wp _ _ _ _ ((w.alloc (.cells (ax p x q y).toArray 54)).alloc (.cells (aN).toArray 54));rw[←HW0.out];clear HW0;refine wp_region_lit ?_;refine gl ?_ (H0.out.at 0 rfl).c Tryz.underlying54 kP;refine gc (Gi (HP.out.below H0.out.b) (HQ.out.below H0.out.b) (HT.out.below H0.out.b) Op.out Oq.out) ?_;rintro e1 w1 ⟨⟨xa,xb,rfl,ht⟩,hd⟩;refine⟨_,rfl,?_⟩;have H1:=hide (H0.out.up hd);have T1:=hide (ht.off (w:=w) H0.out.bx H0.out.b.size);have Z1:=hide (aI HZ.out hd.size);clear ht hd H0;simp only[aA,aB];refine gw (w':=w1.alloc (.cells aN.toArray 54)) (v:= .pointer (some ⟨w1.heap.size,0,none⟩)) ?_ (hy:=by go_simp;rfl);have hx:=Bx.new w1 aN 54;have hd:=bg w1 (.cells aN.toArray 54);have H2:=hide (H1.out.push rfl hx hd);have T2:=hide (T1.out.push (us:=aN) rfl hd);refine gs (cells:=(ax q xa p xb).toArray) ?_ ((H2.out.at 2 rfl).th (o:=0) (by simp)) kP (uO q xa p xb);have H3:=hide (H2.out.put 2 rfl 0 (ax q xa p xb) (ax q xa p xb) (by simp));have T3:=hide (T2.out.put 2 rfl 0 (ax q xa p xb) (ax q xa p xb));clear hx hd H1 H2 T1 T2;refine wpList_nil ?_
 first
  | (rename_i hK;refine hK _ _ ?_;clear hK)
  | (rename_i hK zK;refine hK _ _ ?_;clear hK)
 change Code.wp _ _ _ _ ((w1.alloc (.cells aN.toArray 54)).setCells w1.heap.size 0 (ax q xa p xb));clear Z1;generalize (w1.alloc (.cells aN.toArray 54)).setCells w1.heap.size 0 (ax q xa p xb)=w2 at H3 T3⊢;generalize w1.heap.size=M at H3 T3⊢
 go_upto_region 3 with fail
 refine wp_region_lit ?_;refine sk ?_;refine sk ?_;refine gl (off:=6) (cs:=ae (p.edit) (x.e)) ?_ ((H3.out.at 0 rfl).part 6 8) Tryz.underlying30 bC;refine sk ?_;refine sk ?_;refine gl (off:=20) (cs:=ae (q.edit) (y.e)) ?_ ((H3.out.at 0 rfl).part 20 8) Tryz.underlying30 bC;refine gc (Ot (HP.out.below H3.out.b).edit (HQ.out.below H3.out.b).edit (HT.out.below H3.out.b) SP.out SQ.out) ?_;rintro e3 w3 ⟨⟨err,ra,rb,za,zb,rfl,hT,hI⟩,hd⟩;refine⟨_,rfl,?_⟩;have H4:=hide (H3.out.up hd);have T4:=hide (T3.out.edits hT hd H3.out.bx H3.out.b.size);have HI:=hide hI;clear hT hI hd H3 T3;simp only[aA,aB];refine sk (v:= .tuple #[.agg (ae ra za).toArray,.agg (ae rb zb).toArray,.int .i64 err]) ?_;refine sk (v:= .agg (ae ra za).toArray) ?_;refine sk (v:= .agg (ae rb zb).toArray) ?_;refine sk (v:= .int .i64 err) ?_;refine sk ?_;refine sk ?_;refine gs (off:=6) (cells:=(ae ra za).toArray) ?_ ((H4.out.at 2 rfl).th (o:=6) (by simp)) bC (dB ra za);have H5:=hide (H4.out.put 2 rfl 6 (ae ra za) (ax (q.withEdit ra) (xa.withEdit za) p xb) (by simp));refine sk ?_;refine sk ?_;refine gs (off:=20) (cells:=(ae rb zb).toArray) ?_ ((H5.out.at 2 rfl).th (o:=20) (by simp)) bC (dB rb zb);have H6:=hide (H5.out.put 2 rfl 20 (ae rb zb) (ax (q.withEdit ra) (xa.withEdit za) (p.withEdit rb) (xb.withEdit zb)) (by simp));have T6:=hide ((T4.out.put 2 rfl 6 (ae ra za) (ax (q.withEdit ra) (xa.withEdit za) p xb)).put 2 rfl 20 (ae rb zb) (ax (q.withEdit ra) (xa.withEdit za) (p.withEdit rb) (xb.withEdit zb)));clear H4 H5 T4;refine sk (v:= .int .i64 err) ?_;refine wpList_nil ?_
 first
  | (rename_i hK;refine hK _ _ ?_;clear hK)
  | (rename_i hK zK;refine hK _ _ ?_;clear hK)
 change Code.wp _ _ _ _ ((w3.setCells M 6 (ae ra za)).setCells M 20 (ae rb zb));generalize (w3.setCells M 6 (ae ra za)).setCells M 20 (ae rb zb)=w4 at H6 T6⊢
 go_upto_region 4 with fail
 refine wp_region_lit ?_;refine gl (cs:=ax (q.withEdit ra) (xa.withEdit za) (p.withEdit rb) (xb.withEdit zb)) ?_ (H6.out.at 2 rfl).c Tryz.underlying54 kP;refine sk (v:= .int .i64 err) ?_;refine gs (cells:=(ax (q.withEdit ra) (xa.withEdit za) (p.withEdit rb) (xb.withEdit zb)).toArray) ?_ ((H6.out.at 1 rfl).th (o:=0) (by simp)) kP (uO _ _ _ _);have H7:=hide (H6.out.put 1 rfl 0 (ax (q.withEdit ra) (xa.withEdit za) (p.withEdit rb) (xb.withEdit zb)) (ax (q.withEdit ra) (xa.withEdit za) (p.withEdit rb) (xb.withEdit zb)) (by simp));have T7:=hide (T6.out.put 1 rfl 0 (ax (q.withEdit ra) (xa.withEdit za) (p.withEdit rb) (xb.withEdit zb)) (ax (q.withEdit ra) (xa.withEdit za) (p.withEdit rb) (xb.withEdit zb)));refine sk (v:= .int .i64 err) ?_;refine wpList_nil ?_
 first
  | (rename_i hK;refine hK _ _ ?_;clear hK)
  | (rename_i hK zK;refine hK _ _ ?_;clear hK)
 refine wp_ret ?_
 try simp only[Exit.then,Exit.inBlock]
 refine bodyPost_ret (v:= .tuple #[.agg (ax (q.withEdit ra) (xa.withEdit za) (p.withEdit rb) (xb.withEdit zb)).toArray,.int .i64 err]) (Aj Tryz.results58 (H7.out.at 1 rfl).c Tryz.underlying54 kP) rfl ⟨⟨err,_,_,_,_,rfl,?_⟩,H7.out.b⟩;rw[Oj Hf.out K1.out K2.out];rcases HI.out with h|⟨_,h|h⟩
 ·exact absurd ⟨Op.out.ed K1.out,Oq.out.ed K2.out⟩ h.1
 ·exact .inl ⟨by rw[h.1];rfl,h.2.1⟩
 ·exact .inr ⟨by rw[h.1];rfl,h.2,T7.out.two⟩
end
end Go.Proofs.YtialngdffhmobaaGreatDoor
