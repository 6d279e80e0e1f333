/- Part 32 of what scriptShows_cardUpto rests on. -/
import Derived.Test.YtjjaojnglnpgaaaGreatDoorZ25
import Derived.Test.YtjjaojnglnpgaaaGreatDoorZ00
set_option linter.unusedVariables false
set_option linter.unusedSimpArgs false
set_option maxHeartbeats 16000000
set_option maxRecDepth 1000000
namespace Go.Proofs.YtjjaojnglnpgaaaGreatDoor
section
open Go.RowKit
theorem CP{w:World}{s repo x:ByteArray}(hs:s.size≤1099511627)(hws:wordsOf 32 s=dK::repo::[x])(hall:(repo::[x]).all isWord=true):Calls Tryz.prog 50 #[.string s] w (dL (wordsOf 32 s) w):=by
 have hlen:=oZ (c:=32) (s:=s) hs;rw[hws]at hlen;have hsz :∀z∈repo::[x],z.size≤1099511627776:=fun z hz=>aI (oV (c:=32) (s:=s) (by rw[hws];exact List.mem_cons_of_mem _ hz)).1 (by omega);have hl:(repo::[x]).length≤1099511627776:=by simp
 have hlo:lineOf (wordsOf 32 s)=some ⟨4,repo,ae,x,ae,Pt.zero,[]⟩:=by
  have hr:isWord repo=true:=by simp only[List.all_cons,Bool.and_eq_true]at hall;exact hall.1
  rw[hws,kY,jP (k:=4) (by simp[dP]),Option.bind_some,if_pos hr];have hx:isWord x=true:=by simp only[List.all_cons,Bool.and_eq_true]at hall;exact hall.2.1
  simp[restOf,restUnpull,hx]
 have iW:=hide hlo;have Hws:=hide hws;have aQ:=hide hall;have nJ:=hide hsz;have HP:Hid (∀W,Calls Tryz.prog 72 #[.string s,.int .u8 32] W fun e w'=>∃v,e = .returned v∧w'.ownsRow W.heap.size 9 1 v (wordsOf 32 s).length ((wordsOf 32 s).map .string)∧Below W.heap.size W w'):=hide fun W=>pI s 32 (by omega) W;have HW:Hid (∀W g c,gX W g (dK::repo::[x])→Calls Tryz.prog 122 #[.slice (some ⟨g,1,none⟩) (2) c] W fun e w'=>e = .returned (.bool true)∧W=w'):=hide fun W g c h=>by
  refine(ry (S:=fun _=>True) (h.rd1 trivial) hl hsz).mono ?_;rintro e w' ⟨rfl,rfl⟩;exact⟨by rw[hall],rfl⟩
 have HT:Hid (∀W g c N {u0 u3:Value},gX W g [dK,repo,x]→¬g=N→W.cell? ⟨N,0,none⟩=some u0→W.cell? ⟨N,3,none⟩=some u3→(∀o,W.frozen? ⟨N,o,none⟩=false)→Calls Tryz.prog 123 #[.pointer (some ⟨N,0,none⟩),.slice (some ⟨g,0,none⟩) 3 c] W fun e w'=>e = .returned (.tuple #[])∧w'=(W.setCell ⟨N,0,none⟩ (.int .u8 4)).setCell ⟨N,3,none⟩ (.string x)):=hide fun W g c N u0 u3 h hn h0 h3 hf=>zjg (S:=fun b=>b=g) (h.rd rfl) h0 h3 hf (fun e=>hn e.symm);have qC:x.size≤1099511627776:=hsz x (by simp);clear hlo hws hall hsz hl;go_enter Tryz.func50,Tryz.ntmps50
 go_wp2_with(first
  | (go_at_call 72;(with_reducible refine(HP.out _).mono ?_);rintro e1 w1 ⟨v1,rfl,ho1,hB1⟩;rw[Hws.out]at ho1;obtain⟨g,c1,rfl,hg0,hg1,hc1,hc2,hcl⟩:=pJ (m:=3) rfl (by omega) ho1;have hgb :¬w1.heap.size=g:=(by omega);have hbg :¬g=w1.heap.size:=(by omega);have HZ1:=hide ((lG w).next hB1);have iO:=hide hcl;have k0:w1.cell? ⟨g,0,none⟩=some (.string {data:=#[117,110,112,117,108,108]}):=hcl 0 _ rfl;have k1:w1.cell? ⟨g,1,none⟩=some (.string repo):=hcl 1 _ rfl;clear ho1 hB1 hcl)
  | (go_at_call 122;(with_reducible refine(HW.out _ _ _ iO.out).mono ?_);rintro e2 w2 ⟨rfl,rfl⟩)
  | (refine wpList_store_mid rfl _ _ _ rfl w1.heap.size 0 (ag (⟨0,repo,ae,ae,ae,Pt.zero,[]⟩:aY) Ph.zero none 0).toArray rfl rfl (oI w1 ak _) zag (jQ _ _ _ _) ?_;obtain⟨V,hV,hV1,hV2,gW⟩:=o5 w1 46 ak (ag (⟨0,repo,ae,ae,ae,Pt.zero,[]⟩:aY) Ph.zero none 0) rfl;rw[←hV];have v0:=(hV2.cell (p:=⟨g,0,none⟩) hg1).trans k0;have v1:=(hV2.cell (p:=⟨g,1,none⟩) hg1).trans k1;have b0:V.cell? ⟨w1.heap.size,0,none⟩=some (.int .u8 0):=hV1 0 _ rfl;have b2:V.cell? ⟨w1.heap.size,2,none⟩=some (.string ae):=hV1 2 _ rfl;have b3:V.cell? ⟨w1.heap.size,3,none⟩=some (.string ae):=hV1 3 _ rfl;have b4:V.cell? ⟨w1.heap.size,4,none⟩=some (.string ae):=hV1 4 _ rfl;have bf :∀o,V.frozen? ⟨w1.heap.size,o,none⟩=false:=(fun o=>by rw[hV,World.frozen?_setCells];unfold World.frozen?;rw[heap_alloc_new];rfl);have qB:=hide (iO.out.below hg1 hV2);have kW:=hide hV1;have kE:=hide hV2;have mW:=hide gW;clear hV hV1 hV2 gW)
  | (go_at_call 123;(with_reducible refine(HT.out V g c1 w1.heap.size qB.out hbg b0 b3 bf).mono ?_);rintro e3 w3 ⟨rfl,rfl⟩)
  | (refine wpList_load_mid rfl _ _ rfl w1.heap.size 0 rfl (ag (⟨4,repo,ae,x,ae,Pt.zero,[]⟩:aY) Ph.zero none 0) _ (uk (uk kW.out (j:=0) rfl (.int .u8 4)) (j:=3) rfl (.string x)) Tryz.underlying46 rfl zag ?_;have HZ2:Hid (ng w ((V.setCell ⟨w1.heap.size,0,none⟩ (.int .u8 4)).setCell ⟨w1.heap.size,3,none⟩ (.string x))):=hide (((HZ1.out.next kE.out).keep ((Keep.refl _ _).setCell (by have:=HZ1.out.lt;show¬w1.heap.size<w.heap.size+1;omega) _)).keep ((Keep.refl _ _).setCell (by have:=HZ1.out.lt;show¬w1.heap.size<w.heap.size+1;omega) _)))
  | (refine wpList_store_mid rfl _ _ _ rfl w.heap.size 0 (ag (⟨4,repo,ae,x,ae,Pt.zero,[]⟩:aY) Ph.zero none 0).toArray rfl rfl HZ2.out.ct zag (jQ _ _ _ _) ?_;obtain⟨X,hX,hX1,hX2,dQ,iH⟩:=HZ2.out.stored (ag (⟨4,repo,ae,x,ae,Pt.zero,[]⟩:aY) Ph.zero none 0) rfl;rw[←hX];have fE:=hide hX1;have fD:=hide dQ;clear hX hX1 hX2 dQ iH))
 refine bodyPost_ret (v:= .tuple #[.agg (ag (⟨4,repo,ae,x,ae,Pt.zero,[]⟩:aY) Ph.zero none 0).toArray,.bool true]) (mX Tryz.results50 rfl rfl fE.out rfl) rfl ⟨fD.out,_,_,_,_,true,rfl,fun h=>?_,fun h=>?_⟩
 ·exact⟨iW.out,(vk (by decide) (nJ.out repo (by simp)) lS qC lS).1⟩
 ·cases h
theorem CQ{w:World}{s repo:ByteArray}{r:List ByteArray}(hs:s.size≤1099511627)(hws:wordsOf 32 s=dK::repo::r)(hall:(repo::r).all isWord=true)(hr1:r.length≠1):Calls Tryz.prog 50 #[.string s] w (dL (wordsOf 32 s) w):=by
 have hlen:=oZ (c:=32) (s:=s) hs;rw[hws]at hlen;obtain⟨m,hm⟩:∃m,(dK::repo::r).length=m:=⟨_,rfl⟩;have hm2:2≤m:=by rw[←hm];simp
 rw[hm]at hlen;have hsz :∀z∈repo::r,z.size≤1099511627776:=fun z hz=>aI (oV (c:=32) (s:=s) (by rw[hws];exact List.mem_cons_of_mem _ hz)).1 (by omega);have hl:(repo::r).length≤1099511627776:=by have:(repo::r).length+1=m:=hm;omega
 have hlo:lineOf (wordsOf 32 s)=none:=by
  have hr:isWord repo=true:=by simp only[List.all_cons,Bool.and_eq_true]at hall;exact hall.1
  rw[hws,kY,jP (k:=4) (by simp[dP]),Option.bind_some,if_pos hr];rcases r with _|⟨x,_|⟨y,r⟩⟩
  ·rfl
  ·exact absurd rfl hr1
  ·simp only[restOf,restUnpull];split<;>rename_i h<;>split at h<;>simp at h<;>rfl
 have iW:=hide hlo;have Hws:=hide hws;have aQ:=hide hall;have nJ:=hide hsz;have Hm:=hide hm;have vI :¬(m:Int)<2:=by omega
 have HP:Hid (∀W,Calls Tryz.prog 72 #[.string s,.int .u8 32] W fun e w'=>∃v,e = .returned v∧w'.ownsRow W.heap.size 9 1 v (wordsOf 32 s).length ((wordsOf 32 s).map .string)∧Below W.heap.size W w'):=hide fun W=>pI s 32 (by omega) W;have HW:Hid (∀W g c,gX W g (dK::repo::r)→Calls Tryz.prog 122 #[.slice (some ⟨g,1,none⟩) (m-1) c] W fun e w'=>e = .returned (.bool true)∧W=w'):=hide fun W g c h=>by
  have e:m-1=(repo::r).length:=by rw[←hm];rfl
  rw[e];refine(ry (S:=fun _=>True) (h.rd1 trivial) hl hsz).mono ?_;rintro e w' ⟨rfl,rfl⟩;exact⟨by rw[hall],rfl⟩
 have nG:m≠3:=by have:r.length+1+1=m:=hm;omega
 have Sj:((m:Int) == 3)=false:=by rw[aK];omega
 clear hlo hws hall hsz hm hl;go_enter Tryz.func50,Tryz.ntmps50
 go_wp2_with(first
  | (go_at_call 72;(with_reducible refine(HP.out _).mono ?_);rintro e1 w1 ⟨v1,rfl,ho1,hB1⟩;rw[Hws.out,Hm.out]at ho1;obtain⟨g,c1,rfl,hg0,hg1,hc1,hc2,hcl⟩:=pJ Hm.out (by omega) ho1;have hgb :¬w1.heap.size=g:=(by omega);have hbg :¬g=w1.heap.size:=(by omega);have HZ1:=hide ((lG w).next hB1);have iO:=hide hcl;have k0:w1.cell? ⟨g,0,none⟩=some (.string {data:=#[117,110,112,117,108,108]}):=hcl 0 _ rfl;have k1:w1.cell? ⟨g,1,none⟩=some (.string repo):=hcl 1 _ rfl;clear ho1 hB1 hcl)
  | (go_at_call 122;(with_reducible refine(HW.out _ _ _ iO.out).mono ?_);rintro e2 w2 ⟨rfl,rfl⟩)
  | (refine wpList_store_mid rfl _ _ _ rfl w1.heap.size 0 (ag (⟨0,repo,ae,ae,ae,Pt.zero,[]⟩:aY) Ph.zero none 0).toArray rfl rfl (oI w1 ak _) zag (jQ _ _ _ _) ?_;obtain⟨V,hV,hV1,hV2,gW⟩:=o5 w1 46 ak (ag (⟨0,repo,ae,ae,ae,Pt.zero,[]⟩:aY) Ph.zero none 0) rfl;rw[←hV];have v0:=(hV2.cell (p:=⟨g,0,none⟩) hg1).trans k0;have v1:=(hV2.cell (p:=⟨g,1,none⟩) hg1).trans k1;have b0:V.cell? ⟨w1.heap.size,0,none⟩=some (.int .u8 0):=hV1 0 _ rfl;have b2:V.cell? ⟨w1.heap.size,2,none⟩=some (.string ae):=hV1 2 _ rfl;have b3:V.cell? ⟨w1.heap.size,3,none⟩=some (.string ae):=hV1 3 _ rfl;have b4:V.cell? ⟨w1.heap.size,4,none⟩=some (.string ae):=hV1 4 _ rfl;have bf :∀o,V.frozen? ⟨w1.heap.size,o,none⟩=false:=(fun o=>by rw[hV,World.frozen?_setCells];unfold World.frozen?;rw[heap_alloc_new];rfl);have qB:=hide (iO.out.below hg1 hV2);have kW:=hide hV1;have kE:=hide hV2;have mW:=hide gW;clear hV hV1 hV2 gW)
  | (go_at_call 123;(with_reducible refine(Rn nG).mono ?_);rintro e3 w3 ⟨rfl,h3⟩;obtain rfl:=h3.symm)
  | (refine wpList_load_mid rfl _ _ rfl w1.heap.size 0 rfl (ag (⟨0,repo,ae,ae,ae,Pt.zero,[]⟩:aY) Ph.zero none 0) _ kW.out Tryz.underlying46 rfl zag ?_;have HZ2:Hid (ng w V):=hide (HZ1.out.next kE.out))
  | (refine wpList_store_mid rfl _ _ _ rfl w.heap.size 0 (ag (⟨0,repo,ae,ae,ae,Pt.zero,[]⟩:aY) Ph.zero none 0).toArray rfl rfl HZ2.out.ct zag (jQ _ _ _ _) ?_;obtain⟨X,hX,hX1,hX2,dQ,iH⟩:=HZ2.out.stored (ag (⟨0,repo,ae,ae,ae,Pt.zero,[]⟩:aY) Ph.zero none 0) rfl;rw[←hX];have fE:=hide hX1;have fD:=hide dQ;clear hX hX1 hX2 dQ iH))
 refine bodyPost_ret (v:= .tuple #[.agg (ag (⟨0,repo,ae,ae,ae,Pt.zero,[]⟩:aY) Ph.zero none 0).toArray,.bool false]) (mX Tryz.results50 rfl rfl fE.out rfl) rfl ⟨fD.out,_,_,_,_,false,rfl,fun h=>?_,fun h=>?_⟩
 ·cases h
 ·exact iW.out
theorem CS{w:World}{s repo x:ByteArray}(hs:s.size≤1099511627)(hws:wordsOf 32 s=dY::repo::[x])(hall:(repo::[x]).all isWord=true):Calls Tryz.prog 50 #[.string s] w (dL (wordsOf 32 s) w):=by
 have hlen:=oZ (c:=32) (s:=s) hs;rw[hws]at hlen;have hsz :∀z∈repo::[x],z.size≤1099511627776:=fun z hz=>aI (oV (c:=32) (s:=s) (by rw[hws];exact List.mem_cons_of_mem _ hz)).1 (by omega);have hl:(repo::[x]).length≤1099511627776:=by simp
 have hlo:lineOf (wordsOf 32 s)=some ⟨5,repo,x,ae,ae,Pt.zero,[]⟩:=by
  have hr:isWord repo=true:=by simp only[List.all_cons,Bool.and_eq_true]at hall;exact hall.1
  rw[hws,kY,jP (k:=5) (by simp[dP]),Option.bind_some,if_pos hr];have hx:isWord x=true:=by simp only[List.all_cons,Bool.and_eq_true]at hall;exact hall.2.1
  simp[restOf,dX,hx]
 have iW:=hide hlo;have Hws:=hide hws;have aQ:=hide hall;have nJ:=hide hsz;have HP:Hid (∀W,Calls Tryz.prog 72 #[.string s,.int .u8 32] W fun e w'=>∃v,e = .returned v∧w'.ownsRow W.heap.size 9 1 v (wordsOf 32 s).length ((wordsOf 32 s).map .string)∧Below W.heap.size W w'):=hide fun W=>pI s 32 (by omega) W;have HW:Hid (∀W g c,gX W g (dY::repo::[x])→Calls Tryz.prog 122 #[.slice (some ⟨g,1,none⟩) (2) c] W fun e w'=>e = .returned (.bool true)∧W=w'):=hide fun W g c h=>by
  refine(ry (S:=fun _=>True) (h.rd1 trivial) hl hsz).mono ?_;rintro e w' ⟨rfl,rfl⟩;exact⟨by rw[hall],rfl⟩
 have HT:Hid (∀W g c N {u0 u3:Value},gX W g [dY,repo,x]→¬g=N→W.cell? ⟨N,0,none⟩=some u0→W.cell? ⟨N,2,none⟩=some u3→(∀o,W.frozen? ⟨N,o,none⟩=false)→Calls Tryz.prog 123 #[.pointer (some ⟨N,0,none⟩),.slice (some ⟨g,0,none⟩) 3 c] W fun e w'=>e = .returned (.tuple #[])∧w'=(W.setCell ⟨N,0,none⟩ (.int .u8 5)).setCell ⟨N,2,none⟩ (.string x)):=hide fun W g c N u0 u3 h hn h0 h3 hf=>uA (S:=fun b=>b=g) (h.rd rfl) h0 h3 hf (fun e=>hn e.symm);have qC:x.size≤1099511627776:=hsz x (by simp);clear hlo hws hall hsz hl;go_enter Tryz.func50,Tryz.ntmps50
 go_wp2_with(first
  | (go_at_call 72;(with_reducible refine(HP.out _).mono ?_);rintro e1 w1 ⟨v1,rfl,ho1,hB1⟩;rw[Hws.out]at ho1;obtain⟨g,c1,rfl,hg0,hg1,hc1,hc2,hcl⟩:=pJ (m:=3) rfl (by omega) ho1;have hgb :¬w1.heap.size=g:=(by omega);have hbg :¬g=w1.heap.size:=(by omega);have HZ1:=hide ((lG w).next hB1);have iO:=hide hcl;have k0:w1.cell? ⟨g,0,none⟩=some (.string {data:=#[109,101,114,103,101]}):=hcl 0 _ rfl;have k1:w1.cell? ⟨g,1,none⟩=some (.string repo):=hcl 1 _ rfl;clear ho1 hB1 hcl)
  | (go_at_call 122;(with_reducible refine(HW.out _ _ _ iO.out).mono ?_);rintro e2 w2 ⟨rfl,rfl⟩)
  | (refine wpList_store_mid rfl _ _ _ rfl w1.heap.size 0 (ag (⟨0,repo,ae,ae,ae,Pt.zero,[]⟩:aY) Ph.zero none 0).toArray rfl rfl (oI w1 ak _) zag (jQ _ _ _ _) ?_;obtain⟨V,hV,hV1,hV2,gW⟩:=o5 w1 46 ak (ag (⟨0,repo,ae,ae,ae,Pt.zero,[]⟩:aY) Ph.zero none 0) rfl;rw[←hV];have v0:=(hV2.cell (p:=⟨g,0,none⟩) hg1).trans k0;have v1:=(hV2.cell (p:=⟨g,1,none⟩) hg1).trans k1;have b0:V.cell? ⟨w1.heap.size,0,none⟩=some (.int .u8 0):=hV1 0 _ rfl;have b2:V.cell? ⟨w1.heap.size,2,none⟩=some (.string ae):=hV1 2 _ rfl;have b3:V.cell? ⟨w1.heap.size,3,none⟩=some (.string ae):=hV1 3 _ rfl;have b4:V.cell? ⟨w1.heap.size,4,none⟩=some (.string ae):=hV1 4 _ rfl;have bf :∀o,V.frozen? ⟨w1.heap.size,o,none⟩=false:=(fun o=>by rw[hV,World.frozen?_setCells];unfold World.frozen?;rw[heap_alloc_new];rfl);have qB:=hide (iO.out.below hg1 hV2);have kW:=hide hV1;have kE:=hide hV2;have mW:=hide gW;clear hV hV1 hV2 gW)
  | (go_at_call 123;(with_reducible refine(HT.out V g c1 w1.heap.size qB.out hbg b0 b2 bf).mono ?_);rintro e3 w3 ⟨rfl,rfl⟩)
  | (refine wpList_load_mid rfl _ _ rfl w1.heap.size 0 rfl (ag (⟨5,repo,x,ae,ae,Pt.zero,[]⟩:aY) Ph.zero none 0) _ (uk (uk kW.out (j:=0) rfl (.int .u8 5)) (j:=2) rfl (.string x)) Tryz.underlying46 rfl zag ?_;have HZ2:Hid (ng w ((V.setCell ⟨w1.heap.size,0,none⟩ (.int .u8 5)).setCell ⟨w1.heap.size,2,none⟩ (.string x))):=hide (((HZ1.out.next kE.out).keep ((Keep.refl _ _).setCell (by have:=HZ1.out.lt;show¬w1.heap.size<w.heap.size+1;omega) _)).keep ((Keep.refl _ _).setCell (by have:=HZ1.out.lt;show¬w1.heap.size<w.heap.size+1;omega) _)))
  | (refine wpList_store_mid rfl _ _ _ rfl w.heap.size 0 (ag (⟨5,repo,x,ae,ae,Pt.zero,[]⟩:aY) Ph.zero none 0).toArray rfl rfl HZ2.out.ct zag (jQ _ _ _ _) ?_;obtain⟨X,hX,hX1,hX2,dQ,iH⟩:=HZ2.out.stored (ag (⟨5,repo,x,ae,ae,Pt.zero,[]⟩:aY) Ph.zero none 0) rfl;rw[←hX];have fE:=hide hX1;have fD:=hide dQ;clear hX hX1 hX2 dQ iH))
 refine bodyPost_ret (v:= .tuple #[.agg (ag (⟨5,repo,x,ae,ae,Pt.zero,[]⟩:aY) Ph.zero none 0).toArray,.bool true]) (mX Tryz.results50 rfl rfl fE.out rfl) rfl ⟨fD.out,_,_,_,_,true,rfl,fun h=>?_,fun h=>?_⟩
 ·exact⟨iW.out,(vk (by decide) (nJ.out repo (by simp)) qC lS lS).1⟩
 ·cases h
theorem CU{w:World}{s repo:ByteArray}{r:List ByteArray}(hs:s.size≤1099511627)(hws:wordsOf 32 s=dY::repo::r)(hall:(repo::r).all isWord=true)(hr1:r.length≠1):Calls Tryz.prog 50 #[.string s] w (dL (wordsOf 32 s) w):=by
 have hlen:=oZ (c:=32) (s:=s) hs;rw[hws]at hlen;obtain⟨m,hm⟩:∃m,(dY::repo::r).length=m:=⟨_,rfl⟩;have hm2:2≤m:=by rw[←hm];simp
 rw[hm]at hlen;have hsz :∀z∈repo::r,z.size≤1099511627776:=fun z hz=>aI (oV (c:=32) (s:=s) (by rw[hws];exact List.mem_cons_of_mem _ hz)).1 (by omega);have hl:(repo::r).length≤1099511627776:=by have:(repo::r).length+1=m:=hm;omega
 have hlo:lineOf (wordsOf 32 s)=none:=by
  have hr:isWord repo=true:=by simp only[List.all_cons,Bool.and_eq_true]at hall;exact hall.1
  rw[hws,kY,jP (k:=5) (by simp[dP]),Option.bind_some,if_pos hr];rcases r with _|⟨x,_|⟨y,r⟩⟩
  ·rfl
  ·exact absurd rfl hr1
  ·simp only[restOf,dX];split<;>rename_i h<;>split at h<;>simp at h<;>rfl
 have iW:=hide hlo;have Hws:=hide hws;have aQ:=hide hall;have nJ:=hide hsz;have Hm:=hide hm;have vI :¬(m:Int)<2:=by omega
 have HP:Hid (∀W,Calls Tryz.prog 72 #[.string s,.int .u8 32] W fun e w'=>∃v,e = .returned v∧w'.ownsRow W.heap.size 9 1 v (wordsOf 32 s).length ((wordsOf 32 s).map .string)∧Below W.heap.size W w'):=hide fun W=>pI s 32 (by omega) W;have HW:Hid (∀W g c,gX W g (dY::repo::r)→Calls Tryz.prog 122 #[.slice (some ⟨g,1,none⟩) (m-1) c] W fun e w'=>e = .returned (.bool true)∧W=w'):=hide fun W g c h=>by
  have e:m-1=(repo::r).length:=by rw[←hm];rfl
  rw[e];refine(ry (S:=fun _=>True) (h.rd1 trivial) hl hsz).mono ?_;rintro e w' ⟨rfl,rfl⟩;exact⟨by rw[hall],rfl⟩
 have nG:m≠3:=by have:r.length+1+1=m:=hm;omega
 have Sj:((m:Int) == 3)=false:=by rw[aK];omega
 clear hlo hws hall hsz hm hl;go_enter Tryz.func50,Tryz.ntmps50
 go_wp2_with(first
  | (go_at_call 72;(with_reducible refine(HP.out _).mono ?_);rintro e1 w1 ⟨v1,rfl,ho1,hB1⟩;rw[Hws.out,Hm.out]at ho1;obtain⟨g,c1,rfl,hg0,hg1,hc1,hc2,hcl⟩:=pJ Hm.out (by omega) ho1;have hgb :¬w1.heap.size=g:=(by omega);have hbg :¬g=w1.heap.size:=(by omega);have HZ1:=hide ((lG w).next hB1);have iO:=hide hcl;have k0:w1.cell? ⟨g,0,none⟩=some (.string {data:=#[109,101,114,103,101]}):=hcl 0 _ rfl;have k1:w1.cell? ⟨g,1,none⟩=some (.string repo):=hcl 1 _ rfl;clear ho1 hB1 hcl)
  | (go_at_call 122;(with_reducible refine(HW.out _ _ _ iO.out).mono ?_);rintro e2 w2 ⟨rfl,rfl⟩)
  | (refine wpList_store_mid rfl _ _ _ rfl w1.heap.size 0 (ag (⟨0,repo,ae,ae,ae,Pt.zero,[]⟩:aY) Ph.zero none 0).toArray rfl rfl (oI w1 ak _) zag (jQ _ _ _ _) ?_;obtain⟨V,hV,hV1,hV2,gW⟩:=o5 w1 46 ak (ag (⟨0,repo,ae,ae,ae,Pt.zero,[]⟩:aY) Ph.zero none 0) rfl;rw[←hV];have v0:=(hV2.cell (p:=⟨g,0,none⟩) hg1).trans k0;have v1:=(hV2.cell (p:=⟨g,1,none⟩) hg1).trans k1;have b0:V.cell? ⟨w1.heap.size,0,none⟩=some (.int .u8 0):=hV1 0 _ rfl;have b2:V.cell? ⟨w1.heap.size,2,none⟩=some (.string ae):=hV1 2 _ rfl;have b3:V.cell? ⟨w1.heap.size,3,none⟩=some (.string ae):=hV1 3 _ rfl;have b4:V.cell? ⟨w1.heap.size,4,none⟩=some (.string ae):=hV1 4 _ rfl;have bf :∀o,V.frozen? ⟨w1.heap.size,o,none⟩=false:=(fun o=>by rw[hV,World.frozen?_setCells];unfold World.frozen?;rw[heap_alloc_new];rfl);have qB:=hide (iO.out.below hg1 hV2);have kW:=hide hV1;have kE:=hide hV2;have mW:=hide gW;clear hV hV1 hV2 gW)
  | (go_at_call 123;(with_reducible refine(Rn nG).mono ?_);rintro e3 w3 ⟨rfl,h3⟩;obtain rfl:=h3.symm)
  | (refine wpList_load_mid rfl _ _ rfl w1.heap.size 0 rfl (ag (⟨0,repo,ae,ae,ae,Pt.zero,[]⟩:aY) Ph.zero none 0) _ kW.out Tryz.underlying46 rfl zag ?_;have HZ2:Hid (ng w V):=hide (HZ1.out.next kE.out))
  | (refine wpList_store_mid rfl _ _ _ rfl w.heap.size 0 (ag (⟨0,repo,ae,ae,ae,Pt.zero,[]⟩:aY) Ph.zero none 0).toArray rfl rfl HZ2.out.ct zag (jQ _ _ _ _) ?_;obtain⟨X,hX,hX1,hX2,dQ,iH⟩:=HZ2.out.stored (ag (⟨0,repo,ae,ae,ae,Pt.zero,[]⟩:aY) Ph.zero none 0) rfl;rw[←hX];have fE:=hide hX1;have fD:=hide dQ;clear hX hX1 hX2 dQ iH))
 refine bodyPost_ret (v:= .tuple #[.agg (ag (⟨0,repo,ae,ae,ae,Pt.zero,[]⟩:aY) Ph.zero none 0).toArray,.bool false]) (mX Tryz.results50 rfl rfl fE.out rfl) rfl ⟨fD.out,_,_,_,_,false,rfl,fun h=>?_,fun h=>?_⟩
 ·cases h
 ·exact iW.out
theorem CV{w:World}{s repo x:ByteArray}(hs:s.size≤1099511627)(hws:wordsOf 32 s=bV::repo::[x])(hall:(repo::[x]).all isWord=true):Calls Tryz.prog 50 #[.string s] w (dL (wordsOf 32 s) w):=by
 have hlen:=oZ (c:=32) (s:=s) hs;rw[hws]at hlen;have hsz :∀z∈repo::[x],z.size≤1099511627776:=fun z hz=>aI (oV (c:=32) (s:=s) (by rw[hws];exact List.mem_cons_of_mem _ hz)).1 (by omega);have hl:(repo::[x]).length≤1099511627776:=by simp
 have hlo:lineOf (wordsOf 32 s)=some ⟨6,repo,ae,ae,x,Pt.zero,[]⟩:=by
  have hr:isWord repo=true:=by simp only[List.all_cons,Bool.and_eq_true]at hall;exact hall.1
  rw[hws,kY,jP (k:=6) (by simp[dP]),Option.bind_some,if_pos hr];have hx:isWord x=true:=by simp only[List.all_cons,Bool.and_eq_true]at hall;exact hall.2.1
  simp[restOf,dB,hx]
 have iW:=hide hlo;have Hws:=hide hws;have aQ:=hide hall;have nJ:=hide hsz;have HP:Hid (∀W,Calls Tryz.prog 72 #[.string s,.int .u8 32] W fun e w'=>∃v,e = .returned v∧w'.ownsRow W.heap.size 9 1 v (wordsOf 32 s).length ((wordsOf 32 s).map .string)∧Below W.heap.size W w'):=hide fun W=>pI s 32 (by omega) W;have HW:Hid (∀W g c,gX W g (bV::repo::[x])→Calls Tryz.prog 122 #[.slice (some ⟨g,1,none⟩) (2) c] W fun e w'=>e = .returned (.bool true)∧W=w'):=hide fun W g c h=>by
  refine(ry (S:=fun _=>True) (h.rd1 trivial) hl hsz).mono ?_;rintro e w' ⟨rfl,rfl⟩;exact⟨by rw[hall],rfl⟩
 have HT:Hid (∀W g c N {u0 u3:Value},gX W g [bV,repo,x]→¬g=N→W.cell? ⟨N,0,none⟩=some u0→W.cell? ⟨N,4,none⟩=some u3→(∀o,W.frozen? ⟨N,o,none⟩=false)→Calls Tryz.prog 123 #[.pointer (some ⟨N,0,none⟩),.slice (some ⟨g,0,none⟩) 3 c] W fun e w'=>e = .returned (.tuple #[])∧w'=(W.setCell ⟨N,0,none⟩ (.int .u8 6)).setCell ⟨N,4,none⟩ (.string x)):=hide fun W g c N u0 u3 h hn h0 h3 hf=>zg1 (S:=fun b=>b=g) (h.rd rfl) h0 h3 hf (fun e=>hn e.symm);have qC:x.size≤1099511627776:=hsz x (by simp);clear hlo hws hall hsz hl;go_enter Tryz.func50,Tryz.ntmps50
 go_wp2_with(first
  | (go_at_call 72;(with_reducible refine(HP.out _).mono ?_);rintro e1 w1 ⟨v1,rfl,ho1,hB1⟩;rw[Hws.out]at ho1;obtain⟨g,c1,rfl,hg0,hg1,hc1,hc2,hcl⟩:=pJ (m:=3) rfl (by omega) ho1;have hgb :¬w1.heap.size=g:=(by omega);have hbg :¬g=w1.heap.size:=(by omega);have HZ1:=hide ((lG w).next hB1);have iO:=hide hcl;have k0:w1.cell? ⟨g,0,none⟩=some (.string {data:=#[99,104,101,99,107,111,117,116]}):=hcl 0 _ rfl;have k1:w1.cell? ⟨g,1,none⟩=some (.string repo):=hcl 1 _ rfl;clear ho1 hB1 hcl)
  | (go_at_call 122;(with_reducible refine(HW.out _ _ _ iO.out).mono ?_);rintro e2 w2 ⟨rfl,rfl⟩)
  | (refine wpList_store_mid rfl _ _ _ rfl w1.heap.size 0 (ag (⟨0,repo,ae,ae,ae,Pt.zero,[]⟩:aY) Ph.zero none 0).toArray rfl rfl (oI w1 ak _) zag (jQ _ _ _ _) ?_;obtain⟨V,hV,hV1,hV2,gW⟩:=o5 w1 46 ak (ag (⟨0,repo,ae,ae,ae,Pt.zero,[]⟩:aY) Ph.zero none 0) rfl;rw[←hV];have v0:=(hV2.cell (p:=⟨g,0,none⟩) hg1).trans k0;have v1:=(hV2.cell (p:=⟨g,1,none⟩) hg1).trans k1;have b0:V.cell? ⟨w1.heap.size,0,none⟩=some (.int .u8 0):=hV1 0 _ rfl;have b2:V.cell? ⟨w1.heap.size,2,none⟩=some (.string ae):=hV1 2 _ rfl;have b3:V.cell? ⟨w1.heap.size,3,none⟩=some (.string ae):=hV1 3 _ rfl;have b4:V.cell? ⟨w1.heap.size,4,none⟩=some (.string ae):=hV1 4 _ rfl;have bf :∀o,V.frozen? ⟨w1.heap.size,o,none⟩=false:=(fun o=>by rw[hV,World.frozen?_setCells];unfold World.frozen?;rw[heap_alloc_new];rfl);have qB:=hide (iO.out.below hg1 hV2);have kW:=hide hV1;have kE:=hide hV2;have mW:=hide gW;clear hV hV1 hV2 gW)
  | (go_at_call 123;(with_reducible refine(HT.out V g c1 w1.heap.size qB.out hbg b0 b4 bf).mono ?_);rintro e3 w3 ⟨rfl,rfl⟩)
  | (refine wpList_load_mid rfl _ _ rfl w1.heap.size 0 rfl (ag (⟨6,repo,ae,ae,x,Pt.zero,[]⟩:aY) Ph.zero none 0) _ (uk (uk kW.out (j:=0) rfl (.int .u8 6)) (j:=4) rfl (.string x)) Tryz.underlying46 rfl zag ?_;have HZ2:Hid (ng w ((V.setCell ⟨w1.heap.size,0,none⟩ (.int .u8 6)).setCell ⟨w1.heap.size,4,none⟩ (.string x))):=hide (((HZ1.out.next kE.out).keep ((Keep.refl _ _).setCell (by have:=HZ1.out.lt;show¬w1.heap.size<w.heap.size+1;omega) _)).keep ((Keep.refl _ _).setCell (by have:=HZ1.out.lt;show¬w1.heap.size<w.heap.size+1;omega) _)))
  | (refine wpList_store_mid rfl _ _ _ rfl w.heap.size 0 (ag (⟨6,repo,ae,ae,x,Pt.zero,[]⟩:aY) Ph.zero none 0).toArray rfl rfl HZ2.out.ct zag (jQ _ _ _ _) ?_;obtain⟨X,hX,hX1,hX2,dQ,iH⟩:=HZ2.out.stored (ag (⟨6,repo,ae,ae,x,Pt.zero,[]⟩:aY) Ph.zero none 0) rfl;rw[←hX];have fE:=hide hX1;have fD:=hide dQ;clear hX hX1 hX2 dQ iH))
 refine bodyPost_ret (v:= .tuple #[.agg (ag (⟨6,repo,ae,ae,x,Pt.zero,[]⟩:aY) Ph.zero none 0).toArray,.bool true]) (mX Tryz.results50 rfl rfl fE.out rfl) rfl ⟨fD.out,_,_,_,_,true,rfl,fun h=>?_,fun h=>?_⟩
 ·exact⟨iW.out,(vk (by decide) (nJ.out repo (by simp)) lS lS qC).1⟩
 ·cases h
theorem CW{w:World}{s repo:ByteArray}{r:List ByteArray}(hs:s.size≤1099511627)(hws:wordsOf 32 s=bV::repo::r)(hall:(repo::r).all isWord=true)(hr1:r.length≠1):Calls Tryz.prog 50 #[.string s] w (dL (wordsOf 32 s) w):=by
 have hlen:=oZ (c:=32) (s:=s) hs;rw[hws]at hlen;obtain⟨m,hm⟩:∃m,(bV::repo::r).length=m:=⟨_,rfl⟩;have hm2:2≤m:=by rw[←hm];simp
 rw[hm]at hlen;have hsz :∀z∈repo::r,z.size≤1099511627776:=fun z hz=>aI (oV (c:=32) (s:=s) (by rw[hws];exact List.mem_cons_of_mem _ hz)).1 (by omega);have hl:(repo::r).length≤1099511627776:=by have:(repo::r).length+1=m:=hm;omega
 have hlo:lineOf (wordsOf 32 s)=none:=by
  have hr:isWord repo=true:=by simp only[List.all_cons,Bool.and_eq_true]at hall;exact hall.1
  rw[hws,kY,jP (k:=6) (by simp[dP]),Option.bind_some,if_pos hr];rcases r with _|⟨x,_|⟨y,r⟩⟩
  ·rfl
  ·exact absurd rfl hr1
  ·simp only[restOf,dB];split<;>rename_i h<;>split at h<;>simp at h<;>rfl
 have iW:=hide hlo;have Hws:=hide hws;have aQ:=hide hall;have nJ:=hide hsz;have Hm:=hide hm;have vI :¬(m:Int)<2:=by omega
 have HP:Hid (∀W,Calls Tryz.prog 72 #[.string s,.int .u8 32] W fun e w'=>∃v,e = .returned v∧w'.ownsRow W.heap.size 9 1 v (wordsOf 32 s).length ((wordsOf 32 s).map .string)∧Below W.heap.size W w'):=hide fun W=>pI s 32 (by omega) W;have HW:Hid (∀W g c,gX W g (bV::repo::r)→Calls Tryz.prog 122 #[.slice (some ⟨g,1,none⟩) (m-1) c] W fun e w'=>e = .returned (.bool true)∧W=w'):=hide fun W g c h=>by
  have e:m-1=(repo::r).length:=by rw[←hm];rfl
  rw[e];refine(ry (S:=fun _=>True) (h.rd1 trivial) hl hsz).mono ?_;rintro e w' ⟨rfl,rfl⟩;exact⟨by rw[hall],rfl⟩
 have nG:m≠3:=by have:r.length+1+1=m:=hm;omega
 have Sj:((m:Int) == 3)=false:=by rw[aK];omega
 clear hlo hws hall hsz hm hl;go_enter Tryz.func50,Tryz.ntmps50
 go_wp2_with(first
  | (go_at_call 72;(with_reducible refine(HP.out _).mono ?_);rintro e1 w1 ⟨v1,rfl,ho1,hB1⟩;rw[Hws.out,Hm.out]at ho1;obtain⟨g,c1,rfl,hg0,hg1,hc1,hc2,hcl⟩:=pJ Hm.out (by omega) ho1;have hgb :¬w1.heap.size=g:=(by omega);have hbg :¬g=w1.heap.size:=(by omega);have HZ1:=hide ((lG w).next hB1);have iO:=hide hcl;have k0:w1.cell? ⟨g,0,none⟩=some (.string {data:=#[99,104,101,99,107,111,117,116]}):=hcl 0 _ rfl;have k1:w1.cell? ⟨g,1,none⟩=some (.string repo):=hcl 1 _ rfl;clear ho1 hB1 hcl)
  | (go_at_call 122;(with_reducible refine(HW.out _ _ _ iO.out).mono ?_);rintro e2 w2 ⟨rfl,rfl⟩)
  | (refine wpList_store_mid rfl _ _ _ rfl w1.heap.size 0 (ag (⟨0,repo,ae,ae,ae,Pt.zero,[]⟩:aY) Ph.zero none 0).toArray rfl rfl (oI w1 ak _) zag (jQ _ _ _ _) ?_;obtain⟨V,hV,hV1,hV2,gW⟩:=o5 w1 46 ak (ag (⟨0,repo,ae,ae,ae,Pt.zero,[]⟩:aY) Ph.zero none 0) rfl;rw[←hV];have v0:=(hV2.cell (p:=⟨g,0,none⟩) hg1).trans k0;have v1:=(hV2.cell (p:=⟨g,1,none⟩) hg1).trans k1;have b0:V.cell? ⟨w1.heap.size,0,none⟩=some (.int .u8 0):=hV1 0 _ rfl;have b2:V.cell? ⟨w1.heap.size,2,none⟩=some (.string ae):=hV1 2 _ rfl;have b3:V.cell? ⟨w1.heap.size,3,none⟩=some (.string ae):=hV1 3 _ rfl;have b4:V.cell? ⟨w1.heap.size,4,none⟩=some (.string ae):=hV1 4 _ rfl;have bf :∀o,V.frozen? ⟨w1.heap.size,o,none⟩=false:=(fun o=>by rw[hV,World.frozen?_setCells];unfold World.frozen?;rw[heap_alloc_new];rfl);have qB:=hide (iO.out.below hg1 hV2);have kW:=hide hV1;have kE:=hide hV2;have mW:=hide gW;clear hV hV1 hV2 gW)
  | (go_at_call 123;(with_reducible refine(Rn nG).mono ?_);rintro e3 w3 ⟨rfl,h3⟩;obtain rfl:=h3.symm)
  | (refine wpList_load_mid rfl _ _ rfl w1.heap.size 0 rfl (ag (⟨0,repo,ae,ae,ae,Pt.zero,[]⟩:aY) Ph.zero none 0) _ kW.out Tryz.underlying46 rfl zag ?_;have HZ2:Hid (ng w V):=hide (HZ1.out.next kE.out))
  | (refine wpList_store_mid rfl _ _ _ rfl w.heap.size 0 (ag (⟨0,repo,ae,ae,ae,Pt.zero,[]⟩:aY) Ph.zero none 0).toArray rfl rfl HZ2.out.ct zag (jQ _ _ _ _) ?_;obtain⟨X,hX,hX1,hX2,dQ,iH⟩:=HZ2.out.stored (ag (⟨0,repo,ae,ae,ae,Pt.zero,[]⟩:aY) Ph.zero none 0) rfl;rw[←hX];have fE:=hide hX1;have fD:=hide dQ;clear hX hX1 hX2 dQ iH))
 refine bodyPost_ret (v:= .tuple #[.agg (ag (⟨0,repo,ae,ae,ae,Pt.zero,[]⟩:aY) Ph.zero none 0).toArray,.bool false]) (mX Tryz.results50 rfl rfl fE.out rfl) rfl ⟨fD.out,_,_,_,_,false,rfl,fun h=>?_,fun h=>?_⟩
 ·cases h
 ·exact iW.out
end
end Go.Proofs.YtjjaojnglnpgaaaGreatDoor
