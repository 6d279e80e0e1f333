/- Part 31. -/
import Derived.Test.YtjjaojnglnpgaaaGreatDoorZ28
import Derived.Test.YtjjaojnglnpgaaaGreatDoorZ00
set_option linter.unusedVariables false
set_option linter.unusedSimpArgs false
set_option maxHeartbeats 16000000
set_option maxRecDepth 1000000
namespace Go.Proofs.YtjjaojnglnpgaaaGreatDoor
section
open Go.RowKit
theorem wV{w:World}{s repo x y:ByteArray}(hs:s.size≤1099511627)(hws:wordsOf 32 s=kwPull::repo::[x,y])(hall:(repo::[x,y]).all isWord=true):Calls Tryz.prog 50 #[.string s] w (LineP (wordsOf 32 s) w):=by
 have hlen:=iV (c:=32) (s:=s) hs;rw[hws]at hlen;have hsz :∀z∈repo::[x,y],z.size≤1099511627776:=fun z hz=>aI (iL (c:=32) (s:=s) (by rw[hws];exact List.mem_cons_of_mem _ hz)).1 (by omega);have hl:(repo::[x,y]).length≤1099511627776:=by simp
 have hlo:lineOf (wordsOf 32 s)=some ⟨3,repo,x,y,noTxt,Pt.zero,[]⟩:=by
  have hr:isWord repo=true:=by simp only[List.all_cons,Bool.and_eq_true]at hall;exact hall.1
  rw[hws,eP,zap (k:=3) (by simp[kwL]),Option.bind_some,if_pos hr];have hx:isWord x=true:=by simp only[List.all_cons,Bool.and_eq_true]at hall;exact hall.2.1
  have hy:isWord y=true:=by simp only[List.all_cons,Bool.and_eq_true]at hall;exact hall.2.2.1
  simp[restOf,restPull,hx,hy]
 have dh:=hide hlo;have Hws:=hide hws;have ah:=hide hall;have gy:=hide hsz;have HP:Hid (∀W,Calls Tryz.prog 72 #[.string s,.int .u8 32] W fun e w'=>∃v,e = .returned v∧w'.ownsRow W.heap.size 9 1 v (wordsOf 32 s).length ((wordsOf 32 s).map .string)∧Below W.heap.size W w'):=hide fun W=>iU s 32 (by omega) W;have HW:Hid (∀W g c,WsAt W g (kwPull::repo::[x,y])→Calls Tryz.prog 122 #[.slice (some ⟨g,1,none⟩) (3) c] W fun e w'=>e = .returned (.bool true)∧W=w'):=hide fun W g c h=>by
  refine(kR (S:=fun _=>True) (h.rd1 trivial) hl hsz).mono ?_;rintro e w' ⟨rfl,rfl⟩;exact⟨by rw[hall],rfl⟩
 have jy:=hide (hsz x (by simp));have NJ:=hide (hsz y (by simp));clear hlo hws hall hsz hl;go_enter Tryz.func50,Tryz.ntmps50
 go_upto_region 25 with(first
  | (go_at_call 72;(with_reducible refine(HP.out _).mono ?_);rintro e1 w1 ⟨v1,rfl,ho1,hB1⟩;rw[Hws.out]at ho1;obtain⟨g,c1,rfl,hg0,hg1,hc1,hc2,hcl⟩:=iY (m:=4) rfl (by omega) ho1;have hgb :¬w1.heap.size=g:=(by omega);have hbg :¬g=w1.heap.size:=(by omega);have HZ1:=hide ((fK w).next hB1);have cZ:=hide hcl;have k0:w1.cell? ⟨g,0,none⟩=some (.string {data:=#[112,117,108,108]}):=hcl 0 _ rfl;have k1:w1.cell? ⟨g,1,none⟩=some (.string repo):=hcl 1 _ rfl;clear ho1 hB1 hcl)
  | (go_at_call 122;(with_reducible refine(HW.out _ _ _ cZ.out).mono ?_);rintro e2 w2 ⟨rfl,rfl⟩)
  | (refine wpList_store_mid rfl _ _ _ rfl w1.heap.size 0 (cmdVs (⟨0,repo,noTxt,noTxt,noTxt,Pt.zero,[]⟩:Cmd) Ph.zero none 0).toArray rfl rfl (gU w1 zeroL _) aZ (dL _ _ _ _) ?_;obtain⟨V,hV,hV1,hV2,bG⟩:=iM w1 46 zeroL (cmdVs (⟨0,repo,noTxt,noTxt,noTxt,Pt.zero,[]⟩:Cmd) Ph.zero none 0) rfl;rw[←hV];have v0:=(hV2.cell (p:=⟨g,0,none⟩) hg1).trans k0;have v1:=(hV2.cell (p:=⟨g,1,none⟩) hg1).trans k1;have b0:V.cell? ⟨w1.heap.size,0,none⟩=some (.int .u8 0):=hV1 0 _ rfl;have b2:V.cell? ⟨w1.heap.size,2,none⟩=some (.string noTxt):=hV1 2 _ rfl;have b3:V.cell? ⟨w1.heap.size,3,none⟩=some (.string noTxt):=hV1 3 _ rfl;have b4:V.cell? ⟨w1.heap.size,4,none⟩=some (.string noTxt):=hV1 4 _ rfl;have bf :∀o,V.frozen? ⟨w1.heap.size,o,none⟩=false:=(fun o=>by rw[hV,World.frozen?_setCells];unfold World.frozen?;rw[heap_alloc_new];rfl);have jA:=hide (cZ.out.below hg1 hV2);have dJ:=hide hV1;have dE:=hide hV2;have dX:=hide bG;clear hV hV1 hV2 bG))
 clear v0 v1 k0 k1 b4;have v2:V.cell? ⟨g,2,none⟩=some (.string x):=jA.out 2 _ rfl;have v3:V.cell? ⟨g,3,none⟩=some (.string y):=jA.out 3 _ rfl
 go_wp2_with(first
  | (refine wpList_load_mid rfl _ _ rfl w1.heap.size 0 rfl (cmdVs (⟨3,repo,x,y,noTxt,Pt.zero,[]⟩:Cmd) Ph.zero none 0) _ (mQ (mQ (mQ dJ.out (j:=0) rfl (.int .u8 3)) (j:=2) rfl (.string x)) (j:=3) rfl (.string y)) Tryz.underlying46 rfl aZ ?_;have HZ2:Hid (ZAt w (((V.setCell ⟨w1.heap.size,0,none⟩ (.int .u8 3)).setCell ⟨w1.heap.size,2,none⟩ (.string x)).setCell ⟨w1.heap.size,3,none⟩ (.string y))):=hide ((((HZ1.out.next dE.out).keep ((Keep.refl _ _).setCell (by have:=HZ1.out.lt;show¬w1.heap.size<w.heap.size+1;omega) _)).keep ((Keep.refl _ _).setCell (by have:=HZ1.out.lt;show¬w1.heap.size<w.heap.size+1;omega) _)).keep ((Keep.refl _ _).setCell (by have:=HZ1.out.lt;show¬w1.heap.size<w.heap.size+1;omega) _)))
  | (refine wpList_store_mid rfl _ _ _ rfl w.heap.size 0 (cmdVs (⟨3,repo,x,y,noTxt,Pt.zero,[]⟩:Cmd) Ph.zero none 0).toArray rfl rfl HZ2.out.ct aZ (dL _ _ _ _) ?_;obtain⟨X,hX,hX1,hX2,bz,cO⟩:=HZ2.out.stored (cmdVs (⟨3,repo,x,y,noTxt,Pt.zero,[]⟩:Cmd) Ph.zero none 0) rfl;rw[←hX];have bU:=hide hX1;have bJ:=hide bz;clear hX hX1 hX2 bz cO))
 refine bodyPost_ret (v:= .tuple #[.agg (cmdVs (⟨3,repo,x,y,noTxt,Pt.zero,[]⟩:Cmd) Ph.zero none 0).toArray,.bool true]) (fP Tryz.results50 rfl rfl bU.out rfl) rfl ⟨bJ.out,_,_,_,_,true,rfl,fun h=>?_,fun h=>?_⟩
 ·exact⟨dh.out,(mJ (by decide) (gy.out repo (by simp)) jy.out NJ.out dP).1⟩
 ·cases h
end
end Go.Proofs.YtjjaojnglnpgaaaGreatDoor
