/- Two patches of lines of one file are merged as shift.Merge tells their hunks (law22.MergeLines). Printed by gen_mglines.py. -/
import Derived.Test.YtialngdffhmobaaGreatDoorUCard
set_option linter.unusedVariables false
set_option linter.unusedSimpArgs false
set_option maxHeartbeats 16000000
set_option maxRecDepth 1000000
namespace Go.Proofs.YtialngdffhmobaaGreatDoor
open Go.RowKit
abbrev phH(x:Hh):Ph:=⟨x,Eh.zero⟩
theorem ptx_lines{W:World}{x:Hh}{h:Hk}(a:HkX W x h):PtX W (phH x) (linesPt fF h) where
 r:=⟨show 3<256 by decide,show fF.size≤_ by decide,show noTxt.size≤_ by decide,a.r,edx_zero⟩
 b:=⟨show 3<256 by decide,show fF.size≤_ by decide,show noTxt.size≤_ by decide,a.b,EdB.zero⟩
theorem lines_ok{h:Hk}:PtOk (linesPt fF h)↔HkOk h:=⟨fun a=>a.hk rfl,fun a=>⟨okF,.inr (.inl ⟨rfl,rfl,rfl,a⟩)⟩⟩
theorem hkMerge_b{p q a b:Hk}(bp:HkB p)(bq:HkB q)(h:hkMerge p q=some (a,b)):HkB a∧HkB b:=by
 unfold hkMerge at h
 split at h
 ·split at h
  ·next ok=>cases h;exact⟨bp.of rfl rfl ok.1,bq.of rfl rfl ok.2⟩
  ·cases h
 ·split at h
  ·split at h
   ·next ok=>cases h;exact⟨bp.of rfl rfl ok.1,bq.of rfl rfl ok.2⟩
   ·cases h
  ·cases h
theorem lines_b{h:Hk}(a:HkB h):PtB (linesPt fF h):=⟨show 3<256 by decide,show fF.size≤_ by decide,show noTxt.size≤_ by decide,a,EdB.zero⟩
theorem lines_is{p q ra rb:Hk}{a b:Pt}{e f:Int}(bp:HkB p)(bq:HkB q)(h:PtIs (linesPt fF p) (linesPt fF q) (ptMerge (linesPt fF p) (linesPt fF q)) e a b)(h2:FirstIs p q (hkMerge p q) f ra rb):f=e∧ra=a.hunk∧rb=b.hunk∧PtB a∧PtB b:=by
 rcases h with⟨h1,rfl,rfl,rfl⟩|⟨⟨hp,hq⟩,h⟩
 ·rcases h2 with⟨_,rfl,rfl,rfl⟩|⟨⟨hp,hq⟩,_⟩
  ·exact⟨rfl,rfl,rfl,PtB.zero,PtB.zero⟩
  ·exact absurd ⟨lines_ok.2 hp,lines_ok.2 hq⟩ h1
 ·have hp:=lines_ok.1 hp
  have hq:=lines_ok.1 hq
  rw[linesPt_merge fF hp hq]at h
  rcases h2 with⟨h1,_⟩|⟨_,h2⟩
  ·exact absurd ⟨hp,hq⟩ h1
  ·rcases h2 with⟨h3,rfl,rfl,rfl⟩|⟨h3,rfl⟩
   ·rw[h3]at h
    rcases h with⟨_,rfl,rfl,rfl⟩|⟨h4,_⟩
    ·exact⟨rfl,rfl,rfl,PtB.zero,PtB.zero⟩
    ·cases h4
   ·rw[h3]at h
    have hb:=hkMerge_b bp bq h3
    rcases h with⟨h4,_⟩|⟨h4,rfl⟩
    ·cases h4
    ·cases h4
     exact⟨rfl,rfl,rfl,lines_b hb.1,lines_b hb.2⟩
theorem smLines{h:Hk}:SmEd (linesPt fF h).edit:=by unfold SmEd;simp[linesPt,Ed.zero,foB]
theorem swapL{α:Type}{a b c d:α}:[a,b,c,d].Perm [a,b,d,c]:= .cons _ (.cons _ (.swap _ _ _))
theorem mergeLines_any{x y:Hh}{p q:Hk}{w:World}(Hp:HkX w x p)(Hq:HkX w y q)(htab:TabOk w):
  Calls Tryz.prog 6 #[.agg (hkVs p x).toArray,.agg (hkVs q y).toArray] w fun e w'=>e = .returned (.bool true)∧Below w.heap.size w w':=by
 obtain⟨W0,hW0⟩:∃W0,W0=(w.alloc (.cells (hkVs p x).toArray 25)).alloc (.cells (hkVs q y).toArray 25):=⟨_,rfl⟩
 have h0:Bs w W0 [(w.heap.size,hkVs p x),(w.heap.size+1,hkVs q y)]:=by
  have:=((Bs.nil (Below.refl w.heap.size w)).new (hkVs p x) 25).new (hkVs q y) 25
  simp only[World.size_alloc,List.nil_append,List.cons_append,Nat.add_assoc,Nat.reduceAdd]at this
  rw[hW0];exact this
 have HW0:=hide hW0
 have H0:=hide h0
 have HP:=hide Hp
 have HQ:=hide Hq
 have HT:=hide htab
 clear hW0 h0 Hp Hq htab
 go_enter Tryz.func6,Tryz.ntmps6
 go_upto_region 1 with fail
 try simp only[Nat.add_assoc,Nat.reduceAdd]
 change Code.wp _ _ _ _ ((w.alloc (.cells (hkVs p x).toArray 25)).alloc (.cells (hkVs q y).toArray 25))
 rw[←HW0.out]
 clear HW0
 refine wp_region_lit ?_
 refine gc (awake22 (HT.out.below H0.out.b)) ?_
 rintro e1 w1 ⟨rfl,hd⟩
 refine⟨_,rfl,?_⟩
 have H1:=hide (H0.out.up hd)
 clear hd H0
 simp only[List.set_cons_zero,List.set_cons_succ]
 refine sk (v:= .bool false) ?_
 refine wpList_nil ?_
 first
  | (rename_i hK;refine hK _ _ ?_;clear hK)
  | (rename_i hK zK;refine hK _ _ ?_;clear hK)
 go_upto_region 3 with fail
 go_cut [5,6] (fun v5 v6 wx=>∃ba bb,v5 = .pointer (some ⟨ba,0,none⟩)∧v6 = .pointer (some ⟨bb,0,none⟩)∧Hid (Bs w wx [(w.heap.size,hkVs p x),(w.heap.size+1,hkVs q y),(ba,ptVs (linesPt fF p) (phH x)),(bb,ptVs (linesPt fF q) (phH y))]))
 case first =>
  have hS:(fun V=>Bx V w.heap.size (hkVs p x)∧Bx V (w.heap.size+1) (hkVs q y)) w1.drew:=⟨H1.out.drew.at 0 rfl,H1.out.drew.at 1 rfl⟩
  refine wp_region_held_drew (S:=(fun V=>Bx V w.heap.size (hkVs p x)∧Bx V (w.heap.size+1) (hkVs q y))) (by kernel_rfl) hS (fun hS0=>?_)
  have H2:=hide H1.out.drew
  generalize w1.drew=V0 at hS0 H2⊢
  clear hS H1
  refine tl (cs:=hkVs p x) 0 hS0 ?_ (fun V hV=>hV.1.c) Tryz.underlying25 infoHk
  refine tka (v:= .agg (ptVs (linesPt fF p) (phH x)).toArray) 1 hS0 ?_ (hy:=fun V hV=>by first|(go_simp;done)|(go_simp;and_intros<;>rfl)|(go_simp;rfl))
  refine tl (cs:=hkVs q y) 2 hS0 ?_ (fun V hV=>hV.2.c) Tryz.underlying25 infoHk
  refine tka (v:= .agg (ptVs (linesPt fF q) (phH y)).toArray) 3 hS0 ?_ (hy:=fun V hV=>by first|(go_simp;done)|(go_simp;and_intros<;>rfl)|(go_simp;rfl))
  clear hS0
  refine dr2 4 5 ?_ ?_
  ·refine bal zeroPt 32 ?_
   intro V1 ba hb hx hd
   have H3:=hide (H2.out.push hb hx hd)
   refine⟨⟨H3.out.at 0 rfl,H3.out.at 1 rfl⟩,?_⟩
   clear hb hx hd H2
   simp only[List.set_cons_zero,List.set_cons_succ]
   refine dr1 5 ?_
   refine bal zeroPt 32 ?_
   intro V2 bb hb hx hd
   have H4:=hide (H3.out.push hb hx hd)
   refine⟨⟨H4.out.at 0 rfl,H4.out.at 1 rfl⟩,?_⟩
   clear hb hx hd H3
   simp only[List.set_cons_zero,List.set_cons_succ]
   refine dr1 6 ?_
   refine bm (cells:=(ptVs (linesPt fF p) (phH x)).toArray) ?_ ((H4.out.at 2 rfl).th (o:=0) (by simp)) infoPt (ptVs_one _ _)
   have H5:=hide (H4.out.put 2 rfl 0 (ptVs (linesPt fF p) (phH x)) (ptVs (linesPt fF p) (phH x)) (by simp))
   refine⟨⟨H5.out.at 0 rfl,H5.out.at 1 rfl⟩,?_⟩
   refine dr1 7 ?_
   refine bm (cells:=(ptVs (linesPt fF q) (phH y)).toArray) ?_ ((H5.out.at 3 rfl).th (o:=0) (by simp)) infoPt (ptVs_one _ _)
   have H6:=hide (H5.out.put 3 rfl 0 (ptVs (linesPt fF q) (phH y)) (ptVs (linesPt fF q) (phH y)) (by simp))
   refine⟨⟨H6.out.at 0 rfl,H6.out.at 1 rfl⟩,?_⟩
   refine wpAnyH_done (by kernel_rfl) ?_ _
   rename_i hK
   refine hK _ _ ?_
   clear hK
   go_meet
   exact⟨ba,bb,rfl,rfl,hide (H6.out)⟩
  ·refine bal zeroPt 32 ?_
   intro V1 bb hb hx hd
   have H3:=hide (H2.out.push hb hx hd)
   refine⟨⟨H3.out.at 0 rfl,H3.out.at 1 rfl⟩,?_⟩
   clear hb hx hd H2
   simp only[List.set_cons_zero,List.set_cons_succ]
   refine dr1 4 ?_
   refine bal zeroPt 32 ?_
   intro V2 ba hb hx hd
   have H4:=hide (H3.out.push hb hx hd)
   refine⟨⟨H4.out.at 0 rfl,H4.out.at 1 rfl⟩,?_⟩
   clear hb hx hd H3
   simp only[List.set_cons_zero,List.set_cons_succ]
   refine dr1 6 ?_
   refine bm (cells:=(ptVs (linesPt fF p) (phH x)).toArray) ?_ ((H4.out.at 3 rfl).th (o:=0) (by simp)) infoPt (ptVs_one _ _)
   have H5:=hide (H4.out.put 3 rfl 0 (ptVs (linesPt fF p) (phH x)) (ptVs (linesPt fF p) (phH x)) (by simp))
   refine⟨⟨H5.out.at 0 rfl,H5.out.at 1 rfl⟩,?_⟩
   refine dr1 7 ?_
   refine bm (cells:=(ptVs (linesPt fF q) (phH y)).toArray) ?_ ((H5.out.at 2 rfl).th (o:=0) (by simp)) infoPt (ptVs_one _ _)
   have H6:=hide (H5.out.put 2 rfl 0 (ptVs (linesPt fF q) (phH y)) (ptVs (linesPt fF q) (phH y)) (by simp))
   refine⟨⟨H6.out.at 0 rfl,H6.out.at 1 rfl⟩,?_⟩
   refine wpAnyH_done (by kernel_rfl) ?_ _
   rename_i hK
   refine hK _ _ ?_
   clear hK
   go_meet
   exact⟨ba,bb,rfl,rfl,hide (H6.out.perm swapL)⟩
 case rest =>
  obtain⟨ba,bb,rfl,rfl,H0⟩:=hcut
  go_upto_region 4 with fail
  refine wp_region_lit ?_
  refine gl (cs:=ptVs (linesPt fF p) (phH x)) ?_ (H0.out.at 2 rfl).c Tryz.underlying32 infoPt
  refine gl (cs:=ptVs (linesPt fF q) (phH y)) ?_ (H0.out.at 3 rfl).c Tryz.underlying32 infoPt
  refine gw (w':=wc.alloc (.cells (pairVs (linesPt fF p) (phH x) (linesPt fF q) (phH y)).toArray 32)) (v:= .slice (some ⟨wc.heap.size,0,none⟩) 2 2) ?_ (hy:=by first|(go_simp;done)|(go_simp;rfl))
  have hx:=Bx.new wc (pairVs (linesPt fF p) (phH x) (linesPt fF q) (phH y)) 32
  have hd:=below_alloc wc (.cells (pairVs (linesPt fF p) (phH x) (linesPt fF q) (phH y)).toArray 32)
  have H1:=hide (H0.out.up hd)
  have HR:=hide hx
  clear hx hd H0
  change wpList _ _ _ _ _ (wc.alloc (.cells (pairVs (linesPt fF p) (phH x) (linesPt fF q) (phH y)).toArray 32))
  change Hid (Bx (wc.alloc (.cells (pairVs (linesPt fF p) (phH x) (linesPt fF q) (phH y)).toArray 32)) _ _)at HR
  generalize wc.alloc (.cells (pairVs (linesPt fF p) (phH x) (linesPt fF q) (phH y)).toArray 32)=w2 at H1 HR⊢
  generalize wc.heap.size=R at HR⊢
  refine gc (small22 HR.out (ptx_lines (HP.out.below H1.out.b)) (ptx_lines (HQ.out.below H1.out.b))) ?_
  rintro e3 w3 ⟨⟨c,rfl⟩,hd⟩
  refine⟨_,rfl,?_⟩
  have H2:=hide (H1.out.up hd)
  clear hd H1 HR
  simp only[List.set_cons_zero,List.set_cons_succ]
  refine sk ?_
  refine wpList_nil ?_
  first
   | (rename_i hK;refine hK _ _ ?_;clear hK)
   | (rename_i hK zK;refine hK _ _ ?_;clear hK)
  rcases Bool.eq_false_or_eq_true c with rfl|rfl
  case inr =>
   go_wp2_with fail
   go_ret
   exact⟨rfl,H2.out.b⟩
  go_upto_region 6 with fail
  have KC:=hide (merge_any (ptx_lines (HP.out.below H2.out.b)) (ptx_lines (HQ.out.below H2.out.b)) (HT.out.below H2.out.b) smLines smLines)
  refine wp_region_lit ?_
  refine gl (cs:=ptVs (linesPt fF p) (phH x)) ?_ (H2.out.at 2 rfl).c Tryz.underlying32 infoPt
  refine gl (cs:=ptVs (linesPt fF q) (phH y)) ?_ (H2.out.at 3 rfl).c Tryz.underlying32 infoPt
  refine gc KC.out ?_
  rintro e6 w6 ⟨⟨err,a,b,xa,xb,rfl,hT,hI⟩,hd⟩
  refine⟨_,rfl,?_⟩
  have H3:=hide (H2.out.up hd)
  have HT6:=hide hT
  have HI:=hide hI
  have G3:Hid (Bs w6 w6 []):=hide (Bs.nil (Below.refl _ _))
  clear hd hT hI H2 KC
  simp only[List.set_cons_zero,List.set_cons_succ]
  refine sk (v:= .tuple #[.agg (ptVs a xa).toArray,.agg (ptVs b xb).toArray,.int .i64 err]) ?_
  refine sk (v:= .agg (ptVs a xa).toArray) ?_
  refine sk (v:= .agg (ptVs b xb).toArray) ?_
  refine sk (v:= .int .i64 err) ?_
  refine gw (w':=w6.alloc (.cells (zeroPt).toArray 32)) (v:= .pointer (some ⟨w6.heap.size,0,none⟩)) ?_ (hy:=by first|(go_simp;done)|(go_simp;rfl))
  have H4:Hid (Bs w (w6.alloc (.cells (zeroPt).toArray 32)) [(w.heap.size,hkVs p x),(w.heap.size+1,hkVs q y),(ba,ptVs (linesPt fF p) (phH x)),(bb,ptVs (linesPt fF q) (phH y)),(w6.heap.size,zeroPt)]):=hide (H3.out.new (zeroPt) 32)
  have G4:Hid (Bs w6 (w6.alloc (.cells (zeroPt).toArray 32)) [(w6.heap.size,zeroPt)]):=hide (G3.out.new (zeroPt) 32)
  clear H3 G3
  change wpList _ _ _ _ _ (w6.alloc (.cells (zeroPt).toArray 32))
  generalize w6.alloc (.cells (zeroPt).toArray 32)=V4 at H4 G4⊢
  generalize w6.heap.size=b7 at H4 G4⊢
  refine gw (w':=V4.alloc (.cells (zeroPt).toArray 32)) (v:= .pointer (some ⟨V4.heap.size,0,none⟩)) ?_ (hy:=by first|(go_simp;done)|(go_simp;rfl))
  have H5:Hid (Bs w (V4.alloc (.cells (zeroPt).toArray 32)) [(w.heap.size,hkVs p x),(w.heap.size+1,hkVs q y),(ba,ptVs (linesPt fF p) (phH x)),(bb,ptVs (linesPt fF q) (phH y)),(b7,zeroPt),(V4.heap.size,zeroPt)]):=hide (H4.out.new (zeroPt) 32)
  have G5:Hid (Bs w6 (V4.alloc (.cells (zeroPt).toArray 32)) [(b7,zeroPt),(V4.heap.size,zeroPt)]):=hide (G4.out.new (zeroPt) 32)
  clear H4 G4
  change wpList _ _ _ _ _ (V4.alloc (.cells (zeroPt).toArray 32))
  generalize V4.alloc (.cells (zeroPt).toArray 32)=V5 at H5 G5⊢
  generalize V4.heap.size=b8 at H5 G5⊢
  refine gs (cells:=(ptVs a xa).toArray) ?_ ((H5.out.at 4 rfl).th (o:=0) (by simp)) infoPt (ptVs_one _ _)
  have H6:Hid (Bs w (V5.setCells b7 0 (ptVs a xa)) [(w.heap.size,hkVs p x),(w.heap.size+1,hkVs q y),(ba,ptVs (linesPt fF p) (phH x)),(bb,ptVs (linesPt fF q) (phH y)),(b7,ptVs a xa),(b8,zeroPt)]):=hide (H5.out.put 4 rfl 0 (ptVs a xa) (ptVs a xa) (by simp))
  have G6:Hid (Bs w6 (V5.setCells b7 0 (ptVs a xa)) [(b7,ptVs a xa),(b8,zeroPt)]):=hide (G5.out.put 0 rfl 0 (ptVs a xa) (ptVs a xa) (by simp))
  clear H5 G5
  change wpList _ _ _ _ _ (V5.setCells b7 0 (ptVs a xa))
  generalize V5.setCells b7 0 (ptVs a xa)=V6 at H6 G6⊢
  refine gs (cells:=(ptVs b xb).toArray) ?_ ((H6.out.at 5 rfl).th (o:=0) (by simp)) infoPt (ptVs_one _ _)
  have H7:Hid (Bs w (V6.setCells b8 0 (ptVs b xb)) [(w.heap.size,hkVs p x),(w.heap.size+1,hkVs q y),(ba,ptVs (linesPt fF p) (phH x)),(bb,ptVs (linesPt fF q) (phH y)),(b7,ptVs a xa),(b8,ptVs b xb)]):=hide (H6.out.put 5 rfl 0 (ptVs b xb) (ptVs b xb) (by simp))
  have G7:Hid (Bs w6 (V6.setCells b8 0 (ptVs b xb)) [(b7,ptVs a xa),(b8,ptVs b xb)]):=hide (G6.out.put 1 rfl 0 (ptVs b xb) (ptVs b xb) (by simp))
  clear H6 G6
  change wpList _ _ _ _ _ (V6.setCells b8 0 (ptVs b xb))
  generalize V6.setCells b8 0 (ptVs b xb)=V7 at H7 G7⊢
  refine sk (v:= .int .i64 err) ?_
  refine wpList_nil ?_
  first
   | (rename_i hK;refine hK _ _ ?_;clear hK)
   | (rename_i hK zK;refine hK _ _ ?_;clear hK)
  go_upto_region 7 with fail
  have KS:=hide (shiftMerge_any (HP.out.below H7.out.b) (HQ.out.below H7.out.b))
  refine wp_region_lit ?_
  refine gl (cs:=hkVs p x) ?_ (H7.out.at 0 rfl).c Tryz.underlying25 infoHk
  refine gl (cs:=hkVs q y) ?_ (H7.out.at 1 rfl).c Tryz.underlying25 infoHk
  refine gc KS.out ?_
  rintro e7 w7 ⟨⟨er2,ra,rb,za,zb,rfl,hT,hJ⟩,hd⟩
  obtain⟨rfl,rfl,rfl,hpa,hpb⟩:=lines_is HP.out.b HQ.out.b HI.out hJ
  refine⟨_,rfl,?_⟩
  have HPA:=hide hpa
  have HPB:=hide hpb
  have H8:=hide (H7.out.up hd)
  have G8:=hide (G7.out.up hd)
  have ZT:=hide hT
  have F8:Hid (Bs w7 w7 []):=hide (Bs.nil (Below.refl _ _))
  clear hd hT hJ hpa hpb H7 G7 KS HI
  simp only[List.set_cons_zero,List.set_cons_succ]
  refine sk (v:= .tuple #[.agg (hkVs a.hunk za).toArray,.agg (hkVs b.hunk zb).toArray,.int .i64 er2]) ?_
  refine sk (v:= .agg (hkVs a.hunk za).toArray) ?_
  refine sk (v:= .agg (hkVs b.hunk zb).toArray) ?_
  refine sk (v:= .int .i64 er2) ?_
  refine gw (w':=w7.alloc (.cells (zeroHk).toArray 25)) (v:= .pointer (some ⟨w7.heap.size,0,none⟩)) ?_ (hy:=by first|(go_simp;done)|(go_simp;rfl))
  have H9:Hid (Bs w (w7.alloc (.cells (zeroHk).toArray 25)) [(w.heap.size,hkVs p x),(w.heap.size+1,hkVs q y),(ba,ptVs (linesPt fF p) (phH x)),(bb,ptVs (linesPt fF q) (phH y)),(b7,ptVs a xa),(b8,ptVs b xb),(w7.heap.size,zeroHk)]):=hide (H8.out.new (zeroHk) 25)
  have G9:Hid (Bs w6 (w7.alloc (.cells (zeroHk).toArray 25)) [(b7,ptVs a xa),(b8,ptVs b xb),(w7.heap.size,zeroHk)]):=hide (G8.out.new (zeroHk) 25)
  have F9:Hid (Bs w7 (w7.alloc (.cells (zeroHk).toArray 25)) [(w7.heap.size,zeroHk)]):=hide (F8.out.new (zeroHk) 25)
  clear H8 G8 F8
  change wpList _ _ _ _ _ (w7.alloc (.cells (zeroHk).toArray 25))
  generalize w7.alloc (.cells (zeroHk).toArray 25)=V9 at H9 G9 F9⊢
  generalize w7.heap.size=b10 at H9 G9 F9⊢
  refine gw (w':=V9.alloc (.cells (zeroHk).toArray 25)) (v:= .pointer (some ⟨V9.heap.size,0,none⟩)) ?_ (hy:=by first|(go_simp;done)|(go_simp;rfl))
  have H10:Hid (Bs w (V9.alloc (.cells (zeroHk).toArray 25)) [(w.heap.size,hkVs p x),(w.heap.size+1,hkVs q y),(ba,ptVs (linesPt fF p) (phH x)),(bb,ptVs (linesPt fF q) (phH y)),(b7,ptVs a xa),(b8,ptVs b xb),(b10,zeroHk),(V9.heap.size,zeroHk)]):=hide (H9.out.new (zeroHk) 25)
  have G10:Hid (Bs w6 (V9.alloc (.cells (zeroHk).toArray 25)) [(b7,ptVs a xa),(b8,ptVs b xb),(b10,zeroHk),(V9.heap.size,zeroHk)]):=hide (G9.out.new (zeroHk) 25)
  have F10:Hid (Bs w7 (V9.alloc (.cells (zeroHk).toArray 25)) [(b10,zeroHk),(V9.heap.size,zeroHk)]):=hide (F9.out.new (zeroHk) 25)
  clear H9 G9 F9
  change wpList _ _ _ _ _ (V9.alloc (.cells (zeroHk).toArray 25))
  generalize V9.alloc (.cells (zeroHk).toArray 25)=V10 at H10 G10 F10⊢
  generalize V9.heap.size=b11 at H10 G10 F10⊢
  refine gs (cells:=(hkVs a.hunk za).toArray) ?_ ((H10.out.at 6 rfl).th (o:=0) (by simp)) infoHk (hkVs_one _ _)
  have H11:Hid (Bs w (V10.setCells b10 0 (hkVs a.hunk za)) [(w.heap.size,hkVs p x),(w.heap.size+1,hkVs q y),(ba,ptVs (linesPt fF p) (phH x)),(bb,ptVs (linesPt fF q) (phH y)),(b7,ptVs a xa),(b8,ptVs b xb),(b10,hkVs a.hunk za),(b11,zeroHk)]):=hide (H10.out.put 6 rfl 0 (hkVs a.hunk za) (hkVs a.hunk za) (by simp))
  have G11:Hid (Bs w6 (V10.setCells b10 0 (hkVs a.hunk za)) [(b7,ptVs a xa),(b8,ptVs b xb),(b10,hkVs a.hunk za),(b11,zeroHk)]):=hide (G10.out.put 2 rfl 0 (hkVs a.hunk za) (hkVs a.hunk za) (by simp))
  have F11:Hid (Bs w7 (V10.setCells b10 0 (hkVs a.hunk za)) [(b10,hkVs a.hunk za),(b11,zeroHk)]):=hide (F10.out.put 0 rfl 0 (hkVs a.hunk za) (hkVs a.hunk za) (by simp))
  clear H10 G10 F10
  change wpList _ _ _ _ _ (V10.setCells b10 0 (hkVs a.hunk za))
  generalize V10.setCells b10 0 (hkVs a.hunk za)=V11 at H11 G11 F11⊢
  refine gs (cells:=(hkVs b.hunk zb).toArray) ?_ ((H11.out.at 7 rfl).th (o:=0) (by simp)) infoHk (hkVs_one _ _)
  have H12:Hid (Bs w (V11.setCells b11 0 (hkVs b.hunk zb)) [(w.heap.size,hkVs p x),(w.heap.size+1,hkVs q y),(ba,ptVs (linesPt fF p) (phH x)),(bb,ptVs (linesPt fF q) (phH y)),(b7,ptVs a xa),(b8,ptVs b xb),(b10,hkVs a.hunk za),(b11,hkVs b.hunk zb)]):=hide (H11.out.put 7 rfl 0 (hkVs b.hunk zb) (hkVs b.hunk zb) (by simp))
  have G12:Hid (Bs w6 (V11.setCells b11 0 (hkVs b.hunk zb)) [(b7,ptVs a xa),(b8,ptVs b xb),(b10,hkVs a.hunk za),(b11,hkVs b.hunk zb)]):=hide (G11.out.put 3 rfl 0 (hkVs b.hunk zb) (hkVs b.hunk zb) (by simp))
  have F12:Hid (Bs w7 (V11.setCells b11 0 (hkVs b.hunk zb)) [(b10,hkVs a.hunk za),(b11,hkVs b.hunk zb)]):=hide (F11.out.put 1 rfl 0 (hkVs b.hunk zb) (hkVs b.hunk zb) (by simp))
  clear H11 G11 F11
  change wpList _ _ _ _ _ (V11.setCells b11 0 (hkVs b.hunk zb))
  generalize V11.setCells b11 0 (hkVs b.hunk zb)=V12 at H12 G12 F12⊢
  refine sk (v:= .int .i64 er2) ?_
  refine wpList_nil ?_
  first
   | (rename_i hK;refine hK _ _ ?_;clear hK)
   | (rename_i hK zK;refine hK _ _ ?_;clear hK)
  have hX:(HkX V12 xa.h a.hunk∧HkX V12 xb.h b.hunk)∧(HkX V12 za a.hunk∧HkX V12 zb b.hunk):=by
   obtain⟨La,Lb,s1,s2,_⟩:=HT6.out
   obtain⟨Ma,Mb,t1,t2,_⟩:=ZT.out
   have xr:=(ptx_lines HP.out).r.r
   have yr:=(ptx_lines HQ.out).r.r
   exact⟨⟨((s1.x HPA.out xr).below G12.out.b).hunk,((s2.x HPB.out yr).below G12.out.b).hunk⟩,((t1.x HPA.out.hunk).below F12.out.b),((t2.x HPB.out.hunk).below F12.out.b)⟩
  have HX:=hide hX
  clear hX HT6 ZT G12 F12
  go_upto_region 8 with fail
  refine wp_region_lit ?_
  refine sk ?_
  refine sk ?_
  refine sk (v:= .bool true) ?_
  refine sk ?_
  refine sk ?_
  refine gl (off:=3) (cs:=hkVs a.hunk xa.h) ?_ ((H12.out.at 4 rfl).part 3 3) Tryz.underlying25 infoHk
  refine gl (cs:=hkVs a.hunk za) ?_ (H12.out.at 6 rfl).c Tryz.underlying25 infoHk
  refine gc (sameHunk_any HX.out.1.1.r HX.out.2.1.r) ?_
  rintro e11 w11 ⟨⟨s1',rfl,hs1⟩,hd⟩
  refine⟨_,rfl,?_⟩
  obtain rfl:s1'=true:=hs1.mpr rfl
  have H13:=hide (H12.out.up hd)
  have HX2:=hide (And.intro (HX.out.1.2.below hd) (HX.out.2.2.below hd))
  clear hs1 hd H12 HX
  simp only[List.set_cons_zero,List.set_cons_succ]
  refine sk (v:= .bool true) ?_
  refine sk ?_
  refine sk ?_
  refine gl (off:=3) (cs:=hkVs b.hunk xb.h) ?_ ((H13.out.at 5 rfl).part 3 3) Tryz.underlying25 infoHk
  refine gl (cs:=hkVs b.hunk zb) ?_ (H13.out.at 7 rfl).c Tryz.underlying25 infoHk
  refine gc (sameHunk_any HX2.out.1.r HX2.out.2.r) ?_
  rintro e12 w12 ⟨⟨s2',rfl,hs2⟩,hd⟩
  refine⟨_,rfl,?_⟩
  obtain rfl:s2'=true:=hs2.mpr rfl
  have H14:=hide (H13.out.up hd)
  clear hs2 hd H13 HX2
  simp only[List.set_cons_zero,List.set_cons_succ]
  refine sk (v:= .bool true) ?_
  refine sk ?_
  refine wpList_nil ?_
  first
   | (rename_i hK;refine hK _ _ ?_;clear hK)
   | (rename_i hK zK;refine hK _ _ ?_;clear hK)
  refine wp_ret ?_
  go_ret
  exact⟨rfl,H14.out.b⟩
end Go.Proofs.YtialngdffhmobaaGreatDoor
