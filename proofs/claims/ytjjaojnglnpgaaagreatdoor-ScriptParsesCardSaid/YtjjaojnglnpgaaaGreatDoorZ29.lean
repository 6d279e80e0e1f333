/- Part 30. -/
import Derived.Test.YtjjaojnglnpgaaaGreatDoorZ28
import Derived.Test.YtjjaojnglnpgaaaGreatDoorZ00
set_option linter.unusedVariables false
set_option linter.unusedSimpArgs false
set_option maxHeartbeats 16000000
set_option maxRecDepth 1000000
namespace Go.Proofs.YtjjaojnglnpgaaaGreatDoor
section
open Go.RowKit
theorem wM{w:World}{s repo x:ByteArray}(hs:s.size≤1099511627)(hws:wordsOf 32 s=kwUnpull::repo::[x])(hall:(repo::[x]).all isWord=true):Calls Tryz.prog 50 #[.string s] w (LineP (wordsOf 32 s) w):=by
 have hlen:=iV (c:=32) (s:=s) hs;rw[hws]at hlen;have hsz :∀z∈repo::[x],z.size≤1099511627776:=fun z hz=>aI (iL (c:=32) (s:=s) (by rw[hws];exact List.mem_cons_of_mem _ hz)).1 (by omega);have hl:(repo::[x]).length≤1099511627776:=by simp
 have hlo:lineOf (wordsOf 32 s)=some ⟨4,repo,noTxt,x,noTxt,Pt.zero,[]⟩:=by
  have hr:isWord repo=true:=by simp only[List.all_cons,Bool.and_eq_true]at hall;exact hall.1
  rw[hws,eP,zap (k:=4) (by simp[kwL]),Option.bind_some,if_pos hr];have hx:isWord x=true:=by simp only[List.all_cons,Bool.and_eq_true]at hall;exact hall.2.1
  simp[restOf,restUnpull,hx]
 have dh:=hide hlo;have Hws:=hide hws;have ah:=hide hall;have gy:=hide hsz;have HP:Hid (∀W,Calls Tryz.prog 72 #[.string s,.int .u8 32] W fun e w'=>∃v,e = .returned v∧w'.ownsRow W.heap.size 9 1 v (wordsOf 32 s).length ((wordsOf 32 s).map .string)∧Below W.heap.size W w'):=hide fun W=>iU s 32 (by omega) W;have HW:Hid (∀W g c,WsAt W g (kwUnpull::repo::[x])→Calls Tryz.prog 122 #[.slice (some ⟨g,1,none⟩) (2) c] W fun e w'=>e = .returned (.bool true)∧W=w'):=hide fun W g c h=>by
  refine(kR (S:=fun _=>True) (h.rd1 trivial) hl hsz).mono ?_;rintro e w' ⟨rfl,rfl⟩;exact⟨by rw[hall],rfl⟩
 have HT:Hid (∀W g c N {u0 u3:Value},WsAt W g [kwUnpull,repo,x]→¬g=N→W.cell? ⟨N,0,none⟩=some u0→W.cell? ⟨N,3,none⟩=some u3→(∀o,W.frozen? ⟨N,o,none⟩=false)→Calls Tryz.prog 123 #[.pointer (some ⟨N,0,none⟩),.slice (some ⟨g,0,none⟩) 3 c] W fun e w'=>e = .returned (.tuple #[])∧w'=(W.setCell ⟨N,0,none⟩ (.int .u8 4)).setCell ⟨N,3,none⟩ (.string x)):=hide fun W g c N u0 u3 h hn h0 h3 hf=>YA (S:=fun b=>b=g) (h.rd rfl) h0 h3 hf (fun e=>hn e.symm);have jy:x.size≤1099511627776:=hsz x (by simp);clear hlo hws hall hsz hl;go_enter Tryz.func50,Tryz.ntmps50
 go_wp2_with(first
  | (go_at_call 72;(with_reducible refine(HP.out _).mono ?_);rintro e1 w1 ⟨v1,rfl,ho1,hB1⟩;rw[Hws.out]at ho1;obtain⟨g,c1,rfl,hg0,hg1,hc1,hc2,hcl⟩:=iY (m:=3) rfl (by omega) ho1;have hgb :¬w1.heap.size=g:=(by omega);have hbg :¬g=w1.heap.size:=(by omega);have HZ1:=hide ((fK w).next hB1);have cZ:=hide hcl;have k0:w1.cell? ⟨g,0,none⟩=some (.string {data:=#[117,110,112,117,108,108]}):=hcl 0 _ rfl;have k1:w1.cell? ⟨g,1,none⟩=some (.string repo):=hcl 1 _ rfl;clear ho1 hB1 hcl)
  | (go_at_call 122;(with_reducible refine(HW.out _ _ _ cZ.out).mono ?_);rintro e2 w2 ⟨rfl,rfl⟩)
  | (refine wpList_store_mid rfl _ _ _ rfl w1.heap.size 0 (cmdVs (⟨0,repo,noTxt,noTxt,noTxt,Pt.zero,[]⟩:Cmd) Ph.zero none 0).toArray rfl rfl (gU w1 zeroL _) aZ (dL _ _ _ _) ?_;obtain⟨V,hV,hV1,hV2,bG⟩:=iM w1 46 zeroL (cmdVs (⟨0,repo,noTxt,noTxt,noTxt,Pt.zero,[]⟩:Cmd) Ph.zero none 0) rfl;rw[←hV];have v0:=(hV2.cell (p:=⟨g,0,none⟩) hg1).trans k0;have v1:=(hV2.cell (p:=⟨g,1,none⟩) hg1).trans k1;have b0:V.cell? ⟨w1.heap.size,0,none⟩=some (.int .u8 0):=hV1 0 _ rfl;have b2:V.cell? ⟨w1.heap.size,2,none⟩=some (.string noTxt):=hV1 2 _ rfl;have b3:V.cell? ⟨w1.heap.size,3,none⟩=some (.string noTxt):=hV1 3 _ rfl;have b4:V.cell? ⟨w1.heap.size,4,none⟩=some (.string noTxt):=hV1 4 _ rfl;have bf :∀o,V.frozen? ⟨w1.heap.size,o,none⟩=false:=(fun o=>by rw[hV,World.frozen?_setCells];unfold World.frozen?;rw[heap_alloc_new];rfl);have jA:=hide (cZ.out.below hg1 hV2);have dJ:=hide hV1;have dE:=hide hV2;have dX:=hide bG;clear hV hV1 hV2 bG)
  | (go_at_call 123;(with_reducible refine(HT.out V g c1 w1.heap.size jA.out hbg b0 b3 bf).mono ?_);rintro e3 w3 ⟨rfl,rfl⟩)
  | (refine wpList_load_mid rfl _ _ rfl w1.heap.size 0 rfl (cmdVs (⟨4,repo,noTxt,x,noTxt,Pt.zero,[]⟩:Cmd) Ph.zero none 0) _ (mQ (mQ dJ.out (j:=0) rfl (.int .u8 4)) (j:=3) rfl (.string x)) Tryz.underlying46 rfl aZ ?_;have HZ2:Hid (ZAt w ((V.setCell ⟨w1.heap.size,0,none⟩ (.int .u8 4)).setCell ⟨w1.heap.size,3,none⟩ (.string x))):=hide (((HZ1.out.next dE.out).keep ((Keep.refl _ _).setCell (by have:=HZ1.out.lt;show¬w1.heap.size<w.heap.size+1;omega) _)).keep ((Keep.refl _ _).setCell (by have:=HZ1.out.lt;show¬w1.heap.size<w.heap.size+1;omega) _)))
  | (refine wpList_store_mid rfl _ _ _ rfl w.heap.size 0 (cmdVs (⟨4,repo,noTxt,x,noTxt,Pt.zero,[]⟩:Cmd) Ph.zero none 0).toArray rfl rfl HZ2.out.ct aZ (dL _ _ _ _) ?_;obtain⟨X,hX,hX1,hX2,bz,cO⟩:=HZ2.out.stored (cmdVs (⟨4,repo,noTxt,x,noTxt,Pt.zero,[]⟩:Cmd) Ph.zero none 0) rfl;rw[←hX];have bU:=hide hX1;have bJ:=hide bz;clear hX hX1 hX2 bz cO))
 refine bodyPost_ret (v:= .tuple #[.agg (cmdVs (⟨4,repo,noTxt,x,noTxt,Pt.zero,[]⟩:Cmd) Ph.zero none 0).toArray,.bool true]) (fP Tryz.results50 rfl rfl bU.out rfl) rfl ⟨bJ.out,_,_,_,_,true,rfl,fun h=>?_,fun h=>?_⟩
 ·exact⟨dh.out,(mJ (by decide) (gy.out repo (by simp)) dP jy dP).1⟩
 ·cases h
theorem wO{w:World}{s repo:ByteArray}{r:List ByteArray}(hs:s.size≤1099511627)(hws:wordsOf 32 s=kwUnpull::repo::r)(hall:(repo::r).all isWord=true)(hr1:r.length≠1):Calls Tryz.prog 50 #[.string s] w (LineP (wordsOf 32 s) w):=by
 have hlen:=iV (c:=32) (s:=s) hs;rw[hws]at hlen;obtain⟨m,hm⟩:∃m,(kwUnpull::repo::r).length=m:=⟨_,rfl⟩;have hm2:2≤m:=by rw[←hm];simp
 rw[hm]at hlen;have hsz :∀z∈repo::r,z.size≤1099511627776:=fun z hz=>aI (iL (c:=32) (s:=s) (by rw[hws];exact List.mem_cons_of_mem _ hz)).1 (by omega);have hl:(repo::r).length≤1099511627776:=by have:(repo::r).length+1=m:=hm;omega
 have hlo:lineOf (wordsOf 32 s)=none:=by
  have hr:isWord repo=true:=by simp only[List.all_cons,Bool.and_eq_true]at hall;exact hall.1
  rw[hws,eP,zap (k:=4) (by simp[kwL]),Option.bind_some,if_pos hr];rcases r with _|⟨x,_|⟨y,r⟩⟩
  ·rfl
  ·exact absurd rfl hr1
  ·simp only[restOf,restUnpull];split<;>rename_i h<;>split at h<;>simp at h<;>rfl
 have dh:=hide hlo;have Hws:=hide hws;have ah:=hide hall;have gy:=hide hsz;have Hm:=hide hm;have oC :¬(m:Int)<2:=by omega
 have HP:Hid (∀W,Calls Tryz.prog 72 #[.string s,.int .u8 32] W fun e w'=>∃v,e = .returned v∧w'.ownsRow W.heap.size 9 1 v (wordsOf 32 s).length ((wordsOf 32 s).map .string)∧Below W.heap.size W w'):=hide fun W=>iU s 32 (by omega) W;have HW:Hid (∀W g c,WsAt W g (kwUnpull::repo::r)→Calls Tryz.prog 122 #[.slice (some ⟨g,1,none⟩) (m-1) c] W fun e w'=>e = .returned (.bool true)∧W=w'):=hide fun W g c h=>by
  have e:m-1=(repo::r).length:=by rw[←hm];rfl
  rw[e];refine(kR (S:=fun _=>True) (h.rd1 trivial) hl hsz).mono ?_;rintro e w' ⟨rfl,rfl⟩;exact⟨by rw[hall],rfl⟩
 have gq:m≠3:=by have:r.length+1+1=m:=hm;omega
 have NI:((m:Int) == 3)=false:=by rw[aK];omega
 clear hlo hws hall hsz hm hl;go_enter Tryz.func50,Tryz.ntmps50
 go_wp2_with(first
  | (go_at_call 72;(with_reducible refine(HP.out _).mono ?_);rintro e1 w1 ⟨v1,rfl,ho1,hB1⟩;rw[Hws.out,Hm.out]at ho1;obtain⟨g,c1,rfl,hg0,hg1,hc1,hc2,hcl⟩:=iY Hm.out (by omega) ho1;have hgb :¬w1.heap.size=g:=(by omega);have hbg :¬g=w1.heap.size:=(by omega);have HZ1:=hide ((fK w).next hB1);have cZ:=hide hcl;have k0:w1.cell? ⟨g,0,none⟩=some (.string {data:=#[117,110,112,117,108,108]}):=hcl 0 _ rfl;have k1:w1.cell? ⟨g,1,none⟩=some (.string repo):=hcl 1 _ rfl;clear ho1 hB1 hcl)
  | (go_at_call 122;(with_reducible refine(HW.out _ _ _ cZ.out).mono ?_);rintro e2 w2 ⟨rfl,rfl⟩)
  | (refine wpList_store_mid rfl _ _ _ rfl w1.heap.size 0 (cmdVs (⟨0,repo,noTxt,noTxt,noTxt,Pt.zero,[]⟩:Cmd) Ph.zero none 0).toArray rfl rfl (gU w1 zeroL _) aZ (dL _ _ _ _) ?_;obtain⟨V,hV,hV1,hV2,bG⟩:=iM w1 46 zeroL (cmdVs (⟨0,repo,noTxt,noTxt,noTxt,Pt.zero,[]⟩:Cmd) Ph.zero none 0) rfl;rw[←hV];have v0:=(hV2.cell (p:=⟨g,0,none⟩) hg1).trans k0;have v1:=(hV2.cell (p:=⟨g,1,none⟩) hg1).trans k1;have b0:V.cell? ⟨w1.heap.size,0,none⟩=some (.int .u8 0):=hV1 0 _ rfl;have b2:V.cell? ⟨w1.heap.size,2,none⟩=some (.string noTxt):=hV1 2 _ rfl;have b3:V.cell? ⟨w1.heap.size,3,none⟩=some (.string noTxt):=hV1 3 _ rfl;have b4:V.cell? ⟨w1.heap.size,4,none⟩=some (.string noTxt):=hV1 4 _ rfl;have bf :∀o,V.frozen? ⟨w1.heap.size,o,none⟩=false:=(fun o=>by rw[hV,World.frozen?_setCells];unfold World.frozen?;rw[heap_alloc_new];rfl);have jA:=hide (cZ.out.below hg1 hV2);have dJ:=hide hV1;have dE:=hide hV2;have dX:=hide bG;clear hV hV1 hV2 bG)
  | (go_at_call 123;(with_reducible refine(Np gq).mono ?_);rintro e3 w3 ⟨rfl,h3⟩;obtain rfl:=h3.symm)
  | (refine wpList_load_mid rfl _ _ rfl w1.heap.size 0 rfl (cmdVs (⟨0,repo,noTxt,noTxt,noTxt,Pt.zero,[]⟩:Cmd) Ph.zero none 0) _ dJ.out Tryz.underlying46 rfl aZ ?_;have HZ2:Hid (ZAt w V):=hide (HZ1.out.next dE.out))
  | (refine wpList_store_mid rfl _ _ _ rfl w.heap.size 0 (cmdVs (⟨0,repo,noTxt,noTxt,noTxt,Pt.zero,[]⟩:Cmd) Ph.zero none 0).toArray rfl rfl HZ2.out.ct aZ (dL _ _ _ _) ?_;obtain⟨X,hX,hX1,hX2,bz,cO⟩:=HZ2.out.stored (cmdVs (⟨0,repo,noTxt,noTxt,noTxt,Pt.zero,[]⟩:Cmd) Ph.zero none 0) rfl;rw[←hX];have bU:=hide hX1;have bJ:=hide bz;clear hX hX1 hX2 bz cO))
 refine bodyPost_ret (v:= .tuple #[.agg (cmdVs (⟨0,repo,noTxt,noTxt,noTxt,Pt.zero,[]⟩:Cmd) Ph.zero none 0).toArray,.bool false]) (fP Tryz.results50 rfl rfl bU.out rfl) rfl ⟨bJ.out,_,_,_,_,false,rfl,fun h=>?_,fun h=>?_⟩
 ·cases h
 ·exact dh.out
theorem wP{w:World}{s repo x:ByteArray}(hs:s.size≤1099511627)(hws:wordsOf 32 s=kwMerge::repo::[x])(hall:(repo::[x]).all isWord=true):Calls Tryz.prog 50 #[.string s] w (LineP (wordsOf 32 s) w):=by
 have hlen:=iV (c:=32) (s:=s) hs;rw[hws]at hlen;have hsz :∀z∈repo::[x],z.size≤1099511627776:=fun z hz=>aI (iL (c:=32) (s:=s) (by rw[hws];exact List.mem_cons_of_mem _ hz)).1 (by omega);have hl:(repo::[x]).length≤1099511627776:=by simp
 have hlo:lineOf (wordsOf 32 s)=some ⟨5,repo,x,noTxt,noTxt,Pt.zero,[]⟩:=by
  have hr:isWord repo=true:=by simp only[List.all_cons,Bool.and_eq_true]at hall;exact hall.1
  rw[hws,eP,zap (k:=5) (by simp[kwL]),Option.bind_some,if_pos hr];have hx:isWord x=true:=by simp only[List.all_cons,Bool.and_eq_true]at hall;exact hall.2.1
  simp[restOf,restMerge,hx]
 have dh:=hide hlo;have Hws:=hide hws;have ah:=hide hall;have gy:=hide hsz;have HP:Hid (∀W,Calls Tryz.prog 72 #[.string s,.int .u8 32] W fun e w'=>∃v,e = .returned v∧w'.ownsRow W.heap.size 9 1 v (wordsOf 32 s).length ((wordsOf 32 s).map .string)∧Below W.heap.size W w'):=hide fun W=>iU s 32 (by omega) W;have HW:Hid (∀W g c,WsAt W g (kwMerge::repo::[x])→Calls Tryz.prog 122 #[.slice (some ⟨g,1,none⟩) (2) c] W fun e w'=>e = .returned (.bool true)∧W=w'):=hide fun W g c h=>by
  refine(kR (S:=fun _=>True) (h.rd1 trivial) hl hsz).mono ?_;rintro e w' ⟨rfl,rfl⟩;exact⟨by rw[hall],rfl⟩
 have HT:Hid (∀W g c N {u0 u3:Value},WsAt W g [kwMerge,repo,x]→¬g=N→W.cell? ⟨N,0,none⟩=some u0→W.cell? ⟨N,2,none⟩=some u3→(∀o,W.frozen? ⟨N,o,none⟩=false)→Calls Tryz.prog 123 #[.pointer (some ⟨N,0,none⟩),.slice (some ⟨g,0,none⟩) 3 c] W fun e w'=>e = .returned (.tuple #[])∧w'=(W.setCell ⟨N,0,none⟩ (.int .u8 5)).setCell ⟨N,2,none⟩ (.string x)):=hide fun W g c N u0 u3 h hn h0 h3 hf=>ng (S:=fun b=>b=g) (h.rd rfl) h0 h3 hf (fun e=>hn e.symm);have jy:x.size≤1099511627776:=hsz x (by simp);clear hlo hws hall hsz hl;go_enter Tryz.func50,Tryz.ntmps50
 go_wp2_with(first
  | (go_at_call 72;(with_reducible refine(HP.out _).mono ?_);rintro e1 w1 ⟨v1,rfl,ho1,hB1⟩;rw[Hws.out]at ho1;obtain⟨g,c1,rfl,hg0,hg1,hc1,hc2,hcl⟩:=iY (m:=3) rfl (by omega) ho1;have hgb :¬w1.heap.size=g:=(by omega);have hbg :¬g=w1.heap.size:=(by omega);have HZ1:=hide ((fK w).next hB1);have cZ:=hide hcl;have k0:w1.cell? ⟨g,0,none⟩=some (.string {data:=#[109,101,114,103,101]}):=hcl 0 _ rfl;have k1:w1.cell? ⟨g,1,none⟩=some (.string repo):=hcl 1 _ rfl;clear ho1 hB1 hcl)
  | (go_at_call 122;(with_reducible refine(HW.out _ _ _ cZ.out).mono ?_);rintro e2 w2 ⟨rfl,rfl⟩)
  | (refine wpList_store_mid rfl _ _ _ rfl w1.heap.size 0 (cmdVs (⟨0,repo,noTxt,noTxt,noTxt,Pt.zero,[]⟩:Cmd) Ph.zero none 0).toArray rfl rfl (gU w1 zeroL _) aZ (dL _ _ _ _) ?_;obtain⟨V,hV,hV1,hV2,bG⟩:=iM w1 46 zeroL (cmdVs (⟨0,repo,noTxt,noTxt,noTxt,Pt.zero,[]⟩:Cmd) Ph.zero none 0) rfl;rw[←hV];have v0:=(hV2.cell (p:=⟨g,0,none⟩) hg1).trans k0;have v1:=(hV2.cell (p:=⟨g,1,none⟩) hg1).trans k1;have b0:V.cell? ⟨w1.heap.size,0,none⟩=some (.int .u8 0):=hV1 0 _ rfl;have b2:V.cell? ⟨w1.heap.size,2,none⟩=some (.string noTxt):=hV1 2 _ rfl;have b3:V.cell? ⟨w1.heap.size,3,none⟩=some (.string noTxt):=hV1 3 _ rfl;have b4:V.cell? ⟨w1.heap.size,4,none⟩=some (.string noTxt):=hV1 4 _ rfl;have bf :∀o,V.frozen? ⟨w1.heap.size,o,none⟩=false:=(fun o=>by rw[hV,World.frozen?_setCells];unfold World.frozen?;rw[heap_alloc_new];rfl);have jA:=hide (cZ.out.below hg1 hV2);have dJ:=hide hV1;have dE:=hide hV2;have dX:=hide bG;clear hV hV1 hV2 bG)
  | (go_at_call 123;(with_reducible refine(HT.out V g c1 w1.heap.size jA.out hbg b0 b2 bf).mono ?_);rintro e3 w3 ⟨rfl,rfl⟩)
  | (refine wpList_load_mid rfl _ _ rfl w1.heap.size 0 rfl (cmdVs (⟨5,repo,x,noTxt,noTxt,Pt.zero,[]⟩:Cmd) Ph.zero none 0) _ (mQ (mQ dJ.out (j:=0) rfl (.int .u8 5)) (j:=2) rfl (.string x)) Tryz.underlying46 rfl aZ ?_;have HZ2:Hid (ZAt w ((V.setCell ⟨w1.heap.size,0,none⟩ (.int .u8 5)).setCell ⟨w1.heap.size,2,none⟩ (.string x))):=hide (((HZ1.out.next dE.out).keep ((Keep.refl _ _).setCell (by have:=HZ1.out.lt;show¬w1.heap.size<w.heap.size+1;omega) _)).keep ((Keep.refl _ _).setCell (by have:=HZ1.out.lt;show¬w1.heap.size<w.heap.size+1;omega) _)))
  | (refine wpList_store_mid rfl _ _ _ rfl w.heap.size 0 (cmdVs (⟨5,repo,x,noTxt,noTxt,Pt.zero,[]⟩:Cmd) Ph.zero none 0).toArray rfl rfl HZ2.out.ct aZ (dL _ _ _ _) ?_;obtain⟨X,hX,hX1,hX2,bz,cO⟩:=HZ2.out.stored (cmdVs (⟨5,repo,x,noTxt,noTxt,Pt.zero,[]⟩:Cmd) Ph.zero none 0) rfl;rw[←hX];have bU:=hide hX1;have bJ:=hide bz;clear hX hX1 hX2 bz cO))
 refine bodyPost_ret (v:= .tuple #[.agg (cmdVs (⟨5,repo,x,noTxt,noTxt,Pt.zero,[]⟩:Cmd) Ph.zero none 0).toArray,.bool true]) (fP Tryz.results50 rfl rfl bU.out rfl) rfl ⟨bJ.out,_,_,_,_,true,rfl,fun h=>?_,fun h=>?_⟩
 ·exact⟨dh.out,(mJ (by decide) (gy.out repo (by simp)) jy dP dP).1⟩
 ·cases h
theorem wQ{w:World}{s repo:ByteArray}{r:List ByteArray}(hs:s.size≤1099511627)(hws:wordsOf 32 s=kwMerge::repo::r)(hall:(repo::r).all isWord=true)(hr1:r.length≠1):Calls Tryz.prog 50 #[.string s] w (LineP (wordsOf 32 s) w):=by
 have hlen:=iV (c:=32) (s:=s) hs;rw[hws]at hlen;obtain⟨m,hm⟩:∃m,(kwMerge::repo::r).length=m:=⟨_,rfl⟩;have hm2:2≤m:=by rw[←hm];simp
 rw[hm]at hlen;have hsz :∀z∈repo::r,z.size≤1099511627776:=fun z hz=>aI (iL (c:=32) (s:=s) (by rw[hws];exact List.mem_cons_of_mem _ hz)).1 (by omega);have hl:(repo::r).length≤1099511627776:=by have:(repo::r).length+1=m:=hm;omega
 have hlo:lineOf (wordsOf 32 s)=none:=by
  have hr:isWord repo=true:=by simp only[List.all_cons,Bool.and_eq_true]at hall;exact hall.1
  rw[hws,eP,zap (k:=5) (by simp[kwL]),Option.bind_some,if_pos hr];rcases r with _|⟨x,_|⟨y,r⟩⟩
  ·rfl
  ·exact absurd rfl hr1
  ·simp only[restOf,restMerge];split<;>rename_i h<;>split at h<;>simp at h<;>rfl
 have dh:=hide hlo;have Hws:=hide hws;have ah:=hide hall;have gy:=hide hsz;have Hm:=hide hm;have oC :¬(m:Int)<2:=by omega
 have HP:Hid (∀W,Calls Tryz.prog 72 #[.string s,.int .u8 32] W fun e w'=>∃v,e = .returned v∧w'.ownsRow W.heap.size 9 1 v (wordsOf 32 s).length ((wordsOf 32 s).map .string)∧Below W.heap.size W w'):=hide fun W=>iU s 32 (by omega) W;have HW:Hid (∀W g c,WsAt W g (kwMerge::repo::r)→Calls Tryz.prog 122 #[.slice (some ⟨g,1,none⟩) (m-1) c] W fun e w'=>e = .returned (.bool true)∧W=w'):=hide fun W g c h=>by
  have e:m-1=(repo::r).length:=by rw[←hm];rfl
  rw[e];refine(kR (S:=fun _=>True) (h.rd1 trivial) hl hsz).mono ?_;rintro e w' ⟨rfl,rfl⟩;exact⟨by rw[hall],rfl⟩
 have gq:m≠3:=by have:r.length+1+1=m:=hm;omega
 have NI:((m:Int) == 3)=false:=by rw[aK];omega
 clear hlo hws hall hsz hm hl;go_enter Tryz.func50,Tryz.ntmps50
 go_wp2_with(first
  | (go_at_call 72;(with_reducible refine(HP.out _).mono ?_);rintro e1 w1 ⟨v1,rfl,ho1,hB1⟩;rw[Hws.out,Hm.out]at ho1;obtain⟨g,c1,rfl,hg0,hg1,hc1,hc2,hcl⟩:=iY Hm.out (by omega) ho1;have hgb :¬w1.heap.size=g:=(by omega);have hbg :¬g=w1.heap.size:=(by omega);have HZ1:=hide ((fK w).next hB1);have cZ:=hide hcl;have k0:w1.cell? ⟨g,0,none⟩=some (.string {data:=#[109,101,114,103,101]}):=hcl 0 _ rfl;have k1:w1.cell? ⟨g,1,none⟩=some (.string repo):=hcl 1 _ rfl;clear ho1 hB1 hcl)
  | (go_at_call 122;(with_reducible refine(HW.out _ _ _ cZ.out).mono ?_);rintro e2 w2 ⟨rfl,rfl⟩)
  | (refine wpList_store_mid rfl _ _ _ rfl w1.heap.size 0 (cmdVs (⟨0,repo,noTxt,noTxt,noTxt,Pt.zero,[]⟩:Cmd) Ph.zero none 0).toArray rfl rfl (gU w1 zeroL _) aZ (dL _ _ _ _) ?_;obtain⟨V,hV,hV1,hV2,bG⟩:=iM w1 46 zeroL (cmdVs (⟨0,repo,noTxt,noTxt,noTxt,Pt.zero,[]⟩:Cmd) Ph.zero none 0) rfl;rw[←hV];have v0:=(hV2.cell (p:=⟨g,0,none⟩) hg1).trans k0;have v1:=(hV2.cell (p:=⟨g,1,none⟩) hg1).trans k1;have b0:V.cell? ⟨w1.heap.size,0,none⟩=some (.int .u8 0):=hV1 0 _ rfl;have b2:V.cell? ⟨w1.heap.size,2,none⟩=some (.string noTxt):=hV1 2 _ rfl;have b3:V.cell? ⟨w1.heap.size,3,none⟩=some (.string noTxt):=hV1 3 _ rfl;have b4:V.cell? ⟨w1.heap.size,4,none⟩=some (.string noTxt):=hV1 4 _ rfl;have bf :∀o,V.frozen? ⟨w1.heap.size,o,none⟩=false:=(fun o=>by rw[hV,World.frozen?_setCells];unfold World.frozen?;rw[heap_alloc_new];rfl);have jA:=hide (cZ.out.below hg1 hV2);have dJ:=hide hV1;have dE:=hide hV2;have dX:=hide bG;clear hV hV1 hV2 bG)
  | (go_at_call 123;(with_reducible refine(Np gq).mono ?_);rintro e3 w3 ⟨rfl,h3⟩;obtain rfl:=h3.symm)
  | (refine wpList_load_mid rfl _ _ rfl w1.heap.size 0 rfl (cmdVs (⟨0,repo,noTxt,noTxt,noTxt,Pt.zero,[]⟩:Cmd) Ph.zero none 0) _ dJ.out Tryz.underlying46 rfl aZ ?_;have HZ2:Hid (ZAt w V):=hide (HZ1.out.next dE.out))
  | (refine wpList_store_mid rfl _ _ _ rfl w.heap.size 0 (cmdVs (⟨0,repo,noTxt,noTxt,noTxt,Pt.zero,[]⟩:Cmd) Ph.zero none 0).toArray rfl rfl HZ2.out.ct aZ (dL _ _ _ _) ?_;obtain⟨X,hX,hX1,hX2,bz,cO⟩:=HZ2.out.stored (cmdVs (⟨0,repo,noTxt,noTxt,noTxt,Pt.zero,[]⟩:Cmd) Ph.zero none 0) rfl;rw[←hX];have bU:=hide hX1;have bJ:=hide bz;clear hX hX1 hX2 bz cO))
 refine bodyPost_ret (v:= .tuple #[.agg (cmdVs (⟨0,repo,noTxt,noTxt,noTxt,Pt.zero,[]⟩:Cmd) Ph.zero none 0).toArray,.bool false]) (fP Tryz.results50 rfl rfl bU.out rfl) rfl ⟨bJ.out,_,_,_,_,false,rfl,fun h=>?_,fun h=>?_⟩
 ·cases h
 ·exact dh.out
theorem wS{w:World}{s repo x:ByteArray}(hs:s.size≤1099511627)(hws:wordsOf 32 s=kwCheckout::repo::[x])(hall:(repo::[x]).all isWord=true):Calls Tryz.prog 50 #[.string s] w (LineP (wordsOf 32 s) w):=by
 have hlen:=iV (c:=32) (s:=s) hs;rw[hws]at hlen;have hsz :∀z∈repo::[x],z.size≤1099511627776:=fun z hz=>aI (iL (c:=32) (s:=s) (by rw[hws];exact List.mem_cons_of_mem _ hz)).1 (by omega);have hl:(repo::[x]).length≤1099511627776:=by simp
 have hlo:lineOf (wordsOf 32 s)=some ⟨6,repo,noTxt,noTxt,x,Pt.zero,[]⟩:=by
  have hr:isWord repo=true:=by simp only[List.all_cons,Bool.and_eq_true]at hall;exact hall.1
  rw[hws,eP,zap (k:=6) (by simp[kwL]),Option.bind_some,if_pos hr];have hx:isWord x=true:=by simp only[List.all_cons,Bool.and_eq_true]at hall;exact hall.2.1
  simp[restOf,restCheckout,hx]
 have dh:=hide hlo;have Hws:=hide hws;have ah:=hide hall;have gy:=hide hsz;have HP:Hid (∀W,Calls Tryz.prog 72 #[.string s,.int .u8 32] W fun e w'=>∃v,e = .returned v∧w'.ownsRow W.heap.size 9 1 v (wordsOf 32 s).length ((wordsOf 32 s).map .string)∧Below W.heap.size W w'):=hide fun W=>iU s 32 (by omega) W;have HW:Hid (∀W g c,WsAt W g (kwCheckout::repo::[x])→Calls Tryz.prog 122 #[.slice (some ⟨g,1,none⟩) (2) c] W fun e w'=>e = .returned (.bool true)∧W=w'):=hide fun W g c h=>by
  refine(kR (S:=fun _=>True) (h.rd1 trivial) hl hsz).mono ?_;rintro e w' ⟨rfl,rfl⟩;exact⟨by rw[hall],rfl⟩
 have HT:Hid (∀W g c N {u0 u3:Value},WsAt W g [kwCheckout,repo,x]→¬g=N→W.cell? ⟨N,0,none⟩=some u0→W.cell? ⟨N,4,none⟩=some u3→(∀o,W.frozen? ⟨N,o,none⟩=false)→Calls Tryz.prog 123 #[.pointer (some ⟨N,0,none⟩),.slice (some ⟨g,0,none⟩) 3 c] W fun e w'=>e = .returned (.tuple #[])∧w'=(W.setCell ⟨N,0,none⟩ (.int .u8 6)).setCell ⟨N,4,none⟩ (.string x)):=hide fun W g c N u0 u3 h hn h0 h3 hf=>YB (S:=fun b=>b=g) (h.rd rfl) h0 h3 hf (fun e=>hn e.symm);have jy:x.size≤1099511627776:=hsz x (by simp);clear hlo hws hall hsz hl;go_enter Tryz.func50,Tryz.ntmps50
 go_wp2_with(first
  | (go_at_call 72;(with_reducible refine(HP.out _).mono ?_);rintro e1 w1 ⟨v1,rfl,ho1,hB1⟩;rw[Hws.out]at ho1;obtain⟨g,c1,rfl,hg0,hg1,hc1,hc2,hcl⟩:=iY (m:=3) rfl (by omega) ho1;have hgb :¬w1.heap.size=g:=(by omega);have hbg :¬g=w1.heap.size:=(by omega);have HZ1:=hide ((fK w).next hB1);have cZ:=hide hcl;have k0:w1.cell? ⟨g,0,none⟩=some (.string {data:=#[99,104,101,99,107,111,117,116]}):=hcl 0 _ rfl;have k1:w1.cell? ⟨g,1,none⟩=some (.string repo):=hcl 1 _ rfl;clear ho1 hB1 hcl)
  | (go_at_call 122;(with_reducible refine(HW.out _ _ _ cZ.out).mono ?_);rintro e2 w2 ⟨rfl,rfl⟩)
  | (refine wpList_store_mid rfl _ _ _ rfl w1.heap.size 0 (cmdVs (⟨0,repo,noTxt,noTxt,noTxt,Pt.zero,[]⟩:Cmd) Ph.zero none 0).toArray rfl rfl (gU w1 zeroL _) aZ (dL _ _ _ _) ?_;obtain⟨V,hV,hV1,hV2,bG⟩:=iM w1 46 zeroL (cmdVs (⟨0,repo,noTxt,noTxt,noTxt,Pt.zero,[]⟩:Cmd) Ph.zero none 0) rfl;rw[←hV];have v0:=(hV2.cell (p:=⟨g,0,none⟩) hg1).trans k0;have v1:=(hV2.cell (p:=⟨g,1,none⟩) hg1).trans k1;have b0:V.cell? ⟨w1.heap.size,0,none⟩=some (.int .u8 0):=hV1 0 _ rfl;have b2:V.cell? ⟨w1.heap.size,2,none⟩=some (.string noTxt):=hV1 2 _ rfl;have b3:V.cell? ⟨w1.heap.size,3,none⟩=some (.string noTxt):=hV1 3 _ rfl;have b4:V.cell? ⟨w1.heap.size,4,none⟩=some (.string noTxt):=hV1 4 _ rfl;have bf :∀o,V.frozen? ⟨w1.heap.size,o,none⟩=false:=(fun o=>by rw[hV,World.frozen?_setCells];unfold World.frozen?;rw[heap_alloc_new];rfl);have jA:=hide (cZ.out.below hg1 hV2);have dJ:=hide hV1;have dE:=hide hV2;have dX:=hide bG;clear hV hV1 hV2 bG)
  | (go_at_call 123;(with_reducible refine(HT.out V g c1 w1.heap.size jA.out hbg b0 b4 bf).mono ?_);rintro e3 w3 ⟨rfl,rfl⟩)
  | (refine wpList_load_mid rfl _ _ rfl w1.heap.size 0 rfl (cmdVs (⟨6,repo,noTxt,noTxt,x,Pt.zero,[]⟩:Cmd) Ph.zero none 0) _ (mQ (mQ dJ.out (j:=0) rfl (.int .u8 6)) (j:=4) rfl (.string x)) Tryz.underlying46 rfl aZ ?_;have HZ2:Hid (ZAt w ((V.setCell ⟨w1.heap.size,0,none⟩ (.int .u8 6)).setCell ⟨w1.heap.size,4,none⟩ (.string x))):=hide (((HZ1.out.next dE.out).keep ((Keep.refl _ _).setCell (by have:=HZ1.out.lt;show¬w1.heap.size<w.heap.size+1;omega) _)).keep ((Keep.refl _ _).setCell (by have:=HZ1.out.lt;show¬w1.heap.size<w.heap.size+1;omega) _)))
  | (refine wpList_store_mid rfl _ _ _ rfl w.heap.size 0 (cmdVs (⟨6,repo,noTxt,noTxt,x,Pt.zero,[]⟩:Cmd) Ph.zero none 0).toArray rfl rfl HZ2.out.ct aZ (dL _ _ _ _) ?_;obtain⟨X,hX,hX1,hX2,bz,cO⟩:=HZ2.out.stored (cmdVs (⟨6,repo,noTxt,noTxt,x,Pt.zero,[]⟩:Cmd) Ph.zero none 0) rfl;rw[←hX];have bU:=hide hX1;have bJ:=hide bz;clear hX hX1 hX2 bz cO))
 refine bodyPost_ret (v:= .tuple #[.agg (cmdVs (⟨6,repo,noTxt,noTxt,x,Pt.zero,[]⟩:Cmd) Ph.zero none 0).toArray,.bool true]) (fP Tryz.results50 rfl rfl bU.out rfl) rfl ⟨bJ.out,_,_,_,_,true,rfl,fun h=>?_,fun h=>?_⟩
 ·exact⟨dh.out,(mJ (by decide) (gy.out repo (by simp)) dP dP jy).1⟩
 ·cases h
theorem wU{w:World}{s repo:ByteArray}{r:List ByteArray}(hs:s.size≤1099511627)(hws:wordsOf 32 s=kwCheckout::repo::r)(hall:(repo::r).all isWord=true)(hr1:r.length≠1):Calls Tryz.prog 50 #[.string s] w (LineP (wordsOf 32 s) w):=by
 have hlen:=iV (c:=32) (s:=s) hs;rw[hws]at hlen;obtain⟨m,hm⟩:∃m,(kwCheckout::repo::r).length=m:=⟨_,rfl⟩;have hm2:2≤m:=by rw[←hm];simp
 rw[hm]at hlen;have hsz :∀z∈repo::r,z.size≤1099511627776:=fun z hz=>aI (iL (c:=32) (s:=s) (by rw[hws];exact List.mem_cons_of_mem _ hz)).1 (by omega);have hl:(repo::r).length≤1099511627776:=by have:(repo::r).length+1=m:=hm;omega
 have hlo:lineOf (wordsOf 32 s)=none:=by
  have hr:isWord repo=true:=by simp only[List.all_cons,Bool.and_eq_true]at hall;exact hall.1
  rw[hws,eP,zap (k:=6) (by simp[kwL]),Option.bind_some,if_pos hr];rcases r with _|⟨x,_|⟨y,r⟩⟩
  ·rfl
  ·exact absurd rfl hr1
  ·simp only[restOf,restCheckout];split<;>rename_i h<;>split at h<;>simp at h<;>rfl
 have dh:=hide hlo;have Hws:=hide hws;have ah:=hide hall;have gy:=hide hsz;have Hm:=hide hm;have oC :¬(m:Int)<2:=by omega
 have HP:Hid (∀W,Calls Tryz.prog 72 #[.string s,.int .u8 32] W fun e w'=>∃v,e = .returned v∧w'.ownsRow W.heap.size 9 1 v (wordsOf 32 s).length ((wordsOf 32 s).map .string)∧Below W.heap.size W w'):=hide fun W=>iU s 32 (by omega) W;have HW:Hid (∀W g c,WsAt W g (kwCheckout::repo::r)→Calls Tryz.prog 122 #[.slice (some ⟨g,1,none⟩) (m-1) c] W fun e w'=>e = .returned (.bool true)∧W=w'):=hide fun W g c h=>by
  have e:m-1=(repo::r).length:=by rw[←hm];rfl
  rw[e];refine(kR (S:=fun _=>True) (h.rd1 trivial) hl hsz).mono ?_;rintro e w' ⟨rfl,rfl⟩;exact⟨by rw[hall],rfl⟩
 have gq:m≠3:=by have:r.length+1+1=m:=hm;omega
 have NI:((m:Int) == 3)=false:=by rw[aK];omega
 clear hlo hws hall hsz hm hl;go_enter Tryz.func50,Tryz.ntmps50
 go_wp2_with(first
  | (go_at_call 72;(with_reducible refine(HP.out _).mono ?_);rintro e1 w1 ⟨v1,rfl,ho1,hB1⟩;rw[Hws.out,Hm.out]at ho1;obtain⟨g,c1,rfl,hg0,hg1,hc1,hc2,hcl⟩:=iY Hm.out (by omega) ho1;have hgb :¬w1.heap.size=g:=(by omega);have hbg :¬g=w1.heap.size:=(by omega);have HZ1:=hide ((fK w).next hB1);have cZ:=hide hcl;have k0:w1.cell? ⟨g,0,none⟩=some (.string {data:=#[99,104,101,99,107,111,117,116]}):=hcl 0 _ rfl;have k1:w1.cell? ⟨g,1,none⟩=some (.string repo):=hcl 1 _ rfl;clear ho1 hB1 hcl)
  | (go_at_call 122;(with_reducible refine(HW.out _ _ _ cZ.out).mono ?_);rintro e2 w2 ⟨rfl,rfl⟩)
  | (refine wpList_store_mid rfl _ _ _ rfl w1.heap.size 0 (cmdVs (⟨0,repo,noTxt,noTxt,noTxt,Pt.zero,[]⟩:Cmd) Ph.zero none 0).toArray rfl rfl (gU w1 zeroL _) aZ (dL _ _ _ _) ?_;obtain⟨V,hV,hV1,hV2,bG⟩:=iM w1 46 zeroL (cmdVs (⟨0,repo,noTxt,noTxt,noTxt,Pt.zero,[]⟩:Cmd) Ph.zero none 0) rfl;rw[←hV];have v0:=(hV2.cell (p:=⟨g,0,none⟩) hg1).trans k0;have v1:=(hV2.cell (p:=⟨g,1,none⟩) hg1).trans k1;have b0:V.cell? ⟨w1.heap.size,0,none⟩=some (.int .u8 0):=hV1 0 _ rfl;have b2:V.cell? ⟨w1.heap.size,2,none⟩=some (.string noTxt):=hV1 2 _ rfl;have b3:V.cell? ⟨w1.heap.size,3,none⟩=some (.string noTxt):=hV1 3 _ rfl;have b4:V.cell? ⟨w1.heap.size,4,none⟩=some (.string noTxt):=hV1 4 _ rfl;have bf :∀o,V.frozen? ⟨w1.heap.size,o,none⟩=false:=(fun o=>by rw[hV,World.frozen?_setCells];unfold World.frozen?;rw[heap_alloc_new];rfl);have jA:=hide (cZ.out.below hg1 hV2);have dJ:=hide hV1;have dE:=hide hV2;have dX:=hide bG;clear hV hV1 hV2 bG)
  | (go_at_call 123;(with_reducible refine(Np gq).mono ?_);rintro e3 w3 ⟨rfl,h3⟩;obtain rfl:=h3.symm)
  | (refine wpList_load_mid rfl _ _ rfl w1.heap.size 0 rfl (cmdVs (⟨0,repo,noTxt,noTxt,noTxt,Pt.zero,[]⟩:Cmd) Ph.zero none 0) _ dJ.out Tryz.underlying46 rfl aZ ?_;have HZ2:Hid (ZAt w V):=hide (HZ1.out.next dE.out))
  | (refine wpList_store_mid rfl _ _ _ rfl w.heap.size 0 (cmdVs (⟨0,repo,noTxt,noTxt,noTxt,Pt.zero,[]⟩:Cmd) Ph.zero none 0).toArray rfl rfl HZ2.out.ct aZ (dL _ _ _ _) ?_;obtain⟨X,hX,hX1,hX2,bz,cO⟩:=HZ2.out.stored (cmdVs (⟨0,repo,noTxt,noTxt,noTxt,Pt.zero,[]⟩:Cmd) Ph.zero none 0) rfl;rw[←hX];have bU:=hide hX1;have bJ:=hide bz;clear hX hX1 hX2 bz cO))
 refine bodyPost_ret (v:= .tuple #[.agg (cmdVs (⟨0,repo,noTxt,noTxt,noTxt,Pt.zero,[]⟩:Cmd) Ph.zero none 0).toArray,.bool false]) (fP Tryz.results50 rfl rfl bU.out rfl) rfl ⟨bJ.out,_,_,_,_,false,rfl,fun h=>?_,fun h=>?_⟩
 ·cases h
 ·exact dh.out
end
end Go.Proofs.YtjjaojnglnpgaaaGreatDoor
