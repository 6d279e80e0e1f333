/- Part 33 of what scriptShows_cardUpto rests on. -/
import Derived.Test.YtjjaojnglnpgaaaGreatDoorZ25
import Derived.Test.YtjjaojnglnpgaaaGreatDoorZ00
set_option linter.unusedVariables false
set_option linter.unusedSimpArgs false
set_option maxHeartbeats 16000000
set_option maxRecDepth 1000000
namespace Go.Proofs.YtjjaojnglnpgaaaGreatDoor
section
open Go.RowKit
theorem CX{w:World}{s repo x y:ByteArray}(hs:s.size≤1099511627)(hws:wordsOf 32 s=eP::repo::[x,y])(hall:(repo::[x,y]).all isWord=true):Calls Tryz.prog 50 #[.string s] w (dL (wordsOf 32 s) w):=by
 have hlen:=oZ (c:=32) (s:=s) hs;rw[hws]at hlen;have hsz :∀z∈repo::[x,y],z.size≤1099511627776:=fun z hz=>aI (oV (c:=32) (s:=s) (by rw[hws];exact List.mem_cons_of_mem _ hz)).1 (by omega);have hl:(repo::[x,y]).length≤1099511627776:=by simp
 have hlo:lineOf (wordsOf 32 s)=some ⟨3,repo,x,y,ae,Pt.zero,[]⟩:=by
  have hr:isWord repo=true:=by simp only[List.all_cons,Bool.and_eq_true]at hall;exact hall.1
  rw[hws,kY,jP (k:=3) (by simp[dP]),Option.bind_some,if_pos hr];have hx:isWord x=true:=by simp only[List.all_cons,Bool.and_eq_true]at hall;exact hall.2.1
  have hy:isWord y=true:=by simp only[List.all_cons,Bool.and_eq_true]at hall;exact hall.2.2.1
  simp[restOf,dE,hx,hy]
 have iW:=hide hlo;have Hws:=hide hws;have aQ:=hide hall;have nJ:=hide hsz;have HP:Hid (∀W,Calls Tryz.prog 72 #[.string s,.int .u8 32] W fun e w'=>∃v,e = .returned v∧w'.ownsRow W.heap.size 9 1 v (wordsOf 32 s).length ((wordsOf 32 s).map .string)∧Below W.heap.size W w'):=hide fun W=>pI s 32 (by omega) W;have HW:Hid (∀W g c,gX W g (eP::repo::[x,y])→Calls Tryz.prog 122 #[.slice (some ⟨g,1,none⟩) (3) c] W fun e w'=>e = .returned (.bool true)∧W=w'):=hide fun W g c h=>by
  refine(ry (S:=fun _=>True) (h.rd1 trivial) hl hsz).mono ?_;rintro e w' ⟨rfl,rfl⟩;exact⟨by rw[hall],rfl⟩
 have qC:=hide (hsz x (by simp));have Sl:=hide (hsz y (by simp));clear hlo hws hall hsz hl;go_enter Tryz.func50,Tryz.ntmps50
 go_upto_region 25 with(first
  | (go_at_call 72;(with_reducible refine(HP.out _).mono ?_);rintro e1 w1 ⟨v1,rfl,ho1,hB1⟩;rw[Hws.out]at ho1;obtain⟨g,c1,rfl,hg0,hg1,hc1,hc2,hcl⟩:=pJ (m:=4) rfl (by omega) ho1;have hgb :¬w1.heap.size=g:=(by omega);have hbg :¬g=w1.heap.size:=(by omega);have HZ1:=hide ((lG w).next hB1);have iO:=hide hcl;have k0:w1.cell? ⟨g,0,none⟩=some (.string {data:=#[112,117,108,108]}):=hcl 0 _ rfl;have k1:w1.cell? ⟨g,1,none⟩=some (.string repo):=hcl 1 _ rfl;clear ho1 hB1 hcl)
  | (go_at_call 122;(with_reducible refine(HW.out _ _ _ iO.out).mono ?_);rintro e2 w2 ⟨rfl,rfl⟩)
  | (refine wpList_store_mid rfl _ _ _ rfl w1.heap.size 0 (ag (⟨0,repo,ae,ae,ae,Pt.zero,[]⟩:aY) Ph.zero none 0).toArray rfl rfl (oI w1 ak _) zag (jQ _ _ _ _) ?_;obtain⟨V,hV,hV1,hV2,gW⟩:=o5 w1 46 ak (ag (⟨0,repo,ae,ae,ae,Pt.zero,[]⟩:aY) Ph.zero none 0) rfl;rw[←hV];have v0:=(hV2.cell (p:=⟨g,0,none⟩) hg1).trans k0;have v1:=(hV2.cell (p:=⟨g,1,none⟩) hg1).trans k1;have b0:V.cell? ⟨w1.heap.size,0,none⟩=some (.int .u8 0):=hV1 0 _ rfl;have b2:V.cell? ⟨w1.heap.size,2,none⟩=some (.string ae):=hV1 2 _ rfl;have b3:V.cell? ⟨w1.heap.size,3,none⟩=some (.string ae):=hV1 3 _ rfl;have b4:V.cell? ⟨w1.heap.size,4,none⟩=some (.string ae):=hV1 4 _ rfl;have bf :∀o,V.frozen? ⟨w1.heap.size,o,none⟩=false:=(fun o=>by rw[hV,World.frozen?_setCells];unfold World.frozen?;rw[heap_alloc_new];rfl);have qB:=hide (iO.out.below hg1 hV2);have kW:=hide hV1;have kE:=hide hV2;have mW:=hide gW;clear hV hV1 hV2 gW))
 clear v0 v1 k0 k1 b4;have v2:V.cell? ⟨g,2,none⟩=some (.string x):=qB.out 2 _ rfl;have v3:V.cell? ⟨g,3,none⟩=some (.string y):=qB.out 3 _ rfl
 go_wp2_with(first
  | (refine wpList_load_mid rfl _ _ rfl w1.heap.size 0 rfl (ag (⟨3,repo,x,y,ae,Pt.zero,[]⟩:aY) Ph.zero none 0) _ (uk (uk (uk kW.out (j:=0) rfl (.int .u8 3)) (j:=2) rfl (.string x)) (j:=3) rfl (.string y)) Tryz.underlying46 rfl zag ?_;have HZ2:Hid (ng w (((V.setCell ⟨w1.heap.size,0,none⟩ (.int .u8 3)).setCell ⟨w1.heap.size,2,none⟩ (.string x)).setCell ⟨w1.heap.size,3,none⟩ (.string y))):=hide ((((HZ1.out.next kE.out).keep ((Keep.refl _ _).setCell (by have:=HZ1.out.lt;show¬w1.heap.size<w.heap.size+1;omega) _)).keep ((Keep.refl _ _).setCell (by have:=HZ1.out.lt;show¬w1.heap.size<w.heap.size+1;omega) _)).keep ((Keep.refl _ _).setCell (by have:=HZ1.out.lt;show¬w1.heap.size<w.heap.size+1;omega) _)))
  | (refine wpList_store_mid rfl _ _ _ rfl w.heap.size 0 (ag (⟨3,repo,x,y,ae,Pt.zero,[]⟩:aY) Ph.zero none 0).toArray rfl rfl HZ2.out.ct zag (jQ _ _ _ _) ?_;obtain⟨X,hX,hX1,hX2,dQ,iH⟩:=HZ2.out.stored (ag (⟨3,repo,x,y,ae,Pt.zero,[]⟩:aY) Ph.zero none 0) rfl;rw[←hX];have fE:=hide hX1;have fD:=hide dQ;clear hX hX1 hX2 dQ iH))
 refine bodyPost_ret (v:= .tuple #[.agg (ag (⟨3,repo,x,y,ae,Pt.zero,[]⟩:aY) Ph.zero none 0).toArray,.bool true]) (mX Tryz.results50 rfl rfl fE.out rfl) rfl ⟨fD.out,_,_,_,_,true,rfl,fun h=>?_,fun h=>?_⟩
 ·exact⟨iW.out,(vk (by decide) (nJ.out repo (by simp)) qC.out Sl.out lS).1⟩
 ·cases h
end
end Go.Proofs.YtjjaojnglnpgaaaGreatDoor
