/- Part 31 of what scriptShows_cardUpto rests on. -/
import Derived.Test.YtjjaojnglnpgaaaGreatDoorZ25
import Derived.Test.YtjjaojnglnpgaaaGreatDoorZ00
set_option linter.unusedVariables false
set_option linter.unusedSimpArgs false
set_option maxHeartbeats 16000000
set_option maxRecDepth 1000000
namespace Go.Proofs.YtjjaojnglnpgaaaGreatDoor
section
open Go.RowKit
theorem Gx{w:World}{s repo:ByteArray}{r:List ByteArray}(hs:s.size≤1099511627)(hws:wordsOf 32 s=jo::repo::r)(hall:(repo::r).all isWord=true):Calls Tryz.prog 50 #[.string s] w (dL (wordsOf 32 s) w):=by
 have hlen:=oZ (c:=32) (s:=s) hs;rw[hws]at hlen;obtain⟨m,hm⟩:∃m,(jo::repo::r).length=m:=⟨_,rfl⟩;have hm2:2≤m:=by rw[←hm];simp
 rw[hm]at hlen;have hsz :∀z∈repo::r,z.size≤1099511627776:=fun z hz=>aI (oV (c:=32) (s:=s) (by rw[hws];exact List.mem_cons_of_mem _ hz)).1 (by omega);have hl:(repo::r).length≤1099511627776:=by have:(repo::r).length+1=m:=hm;omega
 have hlo:lineOf (wordsOf 32 s)=if r=[]then some ⟨1,repo,ae,ae,ae,Pt.zero,[]⟩else none:=by
  have hr:isWord repo=true:=by simp only[List.all_cons,Bool.and_eq_true]at hall;exact hall.1
  rw[hws,kY,jP (k:=1) (by simp[dP]),Option.bind_some,if_pos hr];rcases r with _|⟨y,r⟩<;>rfl
 have iW:=hide hlo;have Hws:=hide hws;have aQ:=hide hall;have nJ:=hide hsz;have Hm:=hide hm;have vI :¬(m:Int)<2:=by omega
 have HP:Hid (∀W,Calls Tryz.prog 72 #[.string s,.int .u8 32] W fun e w'=>∃v,e = .returned v∧w'.ownsRow W.heap.size 9 1 v (wordsOf 32 s).length ((wordsOf 32 s).map .string)∧Below W.heap.size W w'):=hide fun W=>pI s 32 (by omega) W;have HW:Hid (∀W g c,gX W g (jo::repo::r)→Calls Tryz.prog 122 #[.slice (some ⟨g,1,none⟩) (m-1) c] W fun e w'=>e = .returned (.bool true)∧W=w'):=hide fun W g c h=>by
  have e:m-1=(repo::r).length:=by rw[←hm];rfl
  rw[e];refine(ry (S:=fun _=>True) (h.rd1 trivial) hl hsz).mono ?_;rintro e w' ⟨rfl,rfl⟩;exact⟨by rw[hall],rfl⟩
 obtain⟨bq,hbq⟩:∃bq,bq=((m:Int) == 2):=⟨_,rfl⟩;have hq:=hbq.symm;have yX:=hide hbq;clear hbq;clear hlo hws hall hsz hm hl;go_enter Tryz.func50,Tryz.ntmps50
 go_wp2_with(first
  | (go_at_call 72;(with_reducible refine(HP.out _).mono ?_);rintro e1 w1 ⟨v1,rfl,ho1,hB1⟩;rw[Hws.out,Hm.out]at ho1;obtain⟨g,c1,rfl,hg0,hg1,hc1,hc2,hcl⟩:=pJ Hm.out (by omega) ho1;have hgb :¬w1.heap.size=g:=(by omega);have hbg :¬g=w1.heap.size:=(by omega);have HZ1:=hide ((lG w).next hB1);have iO:=hide hcl;have k0:w1.cell? ⟨g,0,none⟩=some (.string {data:=#[110,101,119]}):=hcl 0 _ rfl;have k1:w1.cell? ⟨g,1,none⟩=some (.string repo):=hcl 1 _ rfl;clear ho1 hB1 hcl)
  | (go_at_call 122;(with_reducible refine(HW.out _ _ _ iO.out).mono ?_);rintro e2 w2 ⟨rfl,rfl⟩)
  | (refine wpList_store_mid rfl _ _ _ rfl w1.heap.size 0 (ag (⟨0,repo,ae,ae,ae,Pt.zero,[]⟩:aY) Ph.zero none 0).toArray rfl rfl (oI w1 ak _) zag (jQ _ _ _ _) ?_;obtain⟨V,hV,hV1,hV2,gW⟩:=o5 w1 46 ak (ag (⟨0,repo,ae,ae,ae,Pt.zero,[]⟩:aY) Ph.zero none 0) rfl;rw[←hV];have v0:=(hV2.cell (p:=⟨g,0,none⟩) hg1).trans k0;have v1:=(hV2.cell (p:=⟨g,1,none⟩) hg1).trans k1;have b0:V.cell? ⟨w1.heap.size,0,none⟩=some (.int .u8 0):=hV1 0 _ rfl;have b2:V.cell? ⟨w1.heap.size,2,none⟩=some (.string ae):=hV1 2 _ rfl;have b3:V.cell? ⟨w1.heap.size,3,none⟩=some (.string ae):=hV1 3 _ rfl;have b4:V.cell? ⟨w1.heap.size,4,none⟩=some (.string ae):=hV1 4 _ rfl;have bf :∀o,V.frozen? ⟨w1.heap.size,o,none⟩=false:=(fun o=>by rw[hV,World.frozen?_setCells];unfold World.frozen?;rw[heap_alloc_new];rfl);have qB:=hide (iO.out.below hg1 hV2);have kW:=hide hV1;have kE:=hide hV2;have mW:=hide gW;clear hV hV1 hV2 gW)
  | (refine wpList_load_mid rfl _ _ rfl w1.heap.size 0 rfl (ag (⟨1,repo,ae,ae,ae,Pt.zero,[]⟩:aY) Ph.zero none 0) _ (uk kW.out (j:=0) rfl (.int .u8 1)) Tryz.underlying46 rfl zag ?_;have HZ2:Hid (ng w (V.setCell ⟨w1.heap.size,0,none⟩ (.int .u8 1))):=hide ((HZ1.out.next kE.out).keep ((Keep.refl _ _).setCell (by have:=HZ1.out.lt;show¬w1.heap.size<w.heap.size+1;omega) _)))
  | (refine wpList_store_mid rfl _ _ _ rfl w.heap.size 0 (ag (⟨1,repo,ae,ae,ae,Pt.zero,[]⟩:aY) Ph.zero none 0).toArray rfl rfl HZ2.out.ct zag (jQ _ _ _ _) ?_;obtain⟨X,hX,hX1,hX2,dQ,iH⟩:=HZ2.out.stored (ag (⟨1,repo,ae,ae,ae,Pt.zero,[]⟩:aY) Ph.zero none 0) rfl;rw[←hX];have fE:=hide hX1;have fD:=hide dQ;clear hX hX1 hX2 dQ iH))
 refine bodyPost_ret (v:= .tuple #[.agg (ag (⟨1,repo,ae,ae,ae,Pt.zero,[]⟩:aY) Ph.zero none 0).toArray,.bool bq]) (mX Tryz.results50 rfl rfl fE.out rfl) rfl ⟨fD.out,_,_,_,_,bq,rfl,fun h=>?_,fun h=>?_⟩
 ·have hr:r=[]:=by
   have h1:((m:Int) == 2)=true:=yX.out.symm.trans h;rw[beq_iff_eq]at h1;have h2:r.length+1+1=m:=Hm.out;exact List.length_eq_zero_iff.1 (by omega)
  exact⟨by rw[iW.out,if_pos hr],(vk (by decide) (nJ.out repo (by simp)) lS lS lS).1⟩
 ·have hr :¬r=[]:=by
   have h1:((m:Int) == 2)=false:=yX.out.symm.trans h;rw[aK]at h1;have h2:r.length+1+1=m:=Hm.out;intro e;rw[e]at h2;simp at h2;omega
  rw[iW.out,if_neg hr]
theorem Gy{w:World}{s repo:ByteArray}{r:List ByteArray}(hs:s.size≤1099511627)(hws:wordsOf 32 s=jR::repo::r)(hall:(repo::r).all isWord=true):Calls Tryz.prog 50 #[.string s] w (dL (wordsOf 32 s) w):=by
 have hlen:=oZ (c:=32) (s:=s) hs;rw[hws]at hlen;obtain⟨m,hm⟩:∃m,(jR::repo::r).length=m:=⟨_,rfl⟩;have hm2:2≤m:=by rw[←hm];simp
 rw[hm]at hlen;have hsz :∀z∈repo::r,z.size≤1099511627776:=fun z hz=>aI (oV (c:=32) (s:=s) (by rw[hws];exact List.mem_cons_of_mem _ hz)).1 (by omega);have hl:(repo::r).length≤1099511627776:=by have:(repo::r).length+1=m:=hm;omega
 have hlo:lineOf (wordsOf 32 s)=if r=[]then some ⟨7,repo,ae,ae,ae,Pt.zero,[]⟩else none:=by
  have hr:isWord repo=true:=by simp only[List.all_cons,Bool.and_eq_true]at hall;exact hall.1
  rw[hws,kY,jP (k:=7) (by simp[dP]),Option.bind_some,if_pos hr];rcases r with _|⟨y,r⟩<;>rfl
 have iW:=hide hlo;have Hws:=hide hws;have aQ:=hide hall;have nJ:=hide hsz;have Hm:=hide hm;have vI :¬(m:Int)<2:=by omega
 have HP:Hid (∀W,Calls Tryz.prog 72 #[.string s,.int .u8 32] W fun e w'=>∃v,e = .returned v∧w'.ownsRow W.heap.size 9 1 v (wordsOf 32 s).length ((wordsOf 32 s).map .string)∧Below W.heap.size W w'):=hide fun W=>pI s 32 (by omega) W;have HW:Hid (∀W g c,gX W g (jR::repo::r)→Calls Tryz.prog 122 #[.slice (some ⟨g,1,none⟩) (m-1) c] W fun e w'=>e = .returned (.bool true)∧W=w'):=hide fun W g c h=>by
  have e:m-1=(repo::r).length:=by rw[←hm];rfl
  rw[e];refine(ry (S:=fun _=>True) (h.rd1 trivial) hl hsz).mono ?_;rintro e w' ⟨rfl,rfl⟩;exact⟨by rw[hall],rfl⟩
 obtain⟨bq,hbq⟩:∃bq,bq=((m:Int) == 2):=⟨_,rfl⟩;have hq:=hbq.symm;have yX:=hide hbq;clear hbq;clear hlo hws hall hsz hm hl;go_enter Tryz.func50,Tryz.ntmps50
 go_wp2_with(first
  | (go_at_call 72;(with_reducible refine(HP.out _).mono ?_);rintro e1 w1 ⟨v1,rfl,ho1,hB1⟩;rw[Hws.out,Hm.out]at ho1;obtain⟨g,c1,rfl,hg0,hg1,hc1,hc2,hcl⟩:=pJ Hm.out (by omega) ho1;have hgb :¬w1.heap.size=g:=(by omega);have hbg :¬g=w1.heap.size:=(by omega);have HZ1:=hide ((lG w).next hB1);have iO:=hide hcl;have k0:w1.cell? ⟨g,0,none⟩=some (.string {data:=#[108,111,103]}):=hcl 0 _ rfl;have k1:w1.cell? ⟨g,1,none⟩=some (.string repo):=hcl 1 _ rfl;clear ho1 hB1 hcl)
  | (go_at_call 122;(with_reducible refine(HW.out _ _ _ iO.out).mono ?_);rintro e2 w2 ⟨rfl,rfl⟩)
  | (refine wpList_store_mid rfl _ _ _ rfl w1.heap.size 0 (ag (⟨0,repo,ae,ae,ae,Pt.zero,[]⟩:aY) Ph.zero none 0).toArray rfl rfl (oI w1 ak _) zag (jQ _ _ _ _) ?_;obtain⟨V,hV,hV1,hV2,gW⟩:=o5 w1 46 ak (ag (⟨0,repo,ae,ae,ae,Pt.zero,[]⟩:aY) Ph.zero none 0) rfl;rw[←hV];have v0:=(hV2.cell (p:=⟨g,0,none⟩) hg1).trans k0;have v1:=(hV2.cell (p:=⟨g,1,none⟩) hg1).trans k1;have b0:V.cell? ⟨w1.heap.size,0,none⟩=some (.int .u8 0):=hV1 0 _ rfl;have b2:V.cell? ⟨w1.heap.size,2,none⟩=some (.string ae):=hV1 2 _ rfl;have b3:V.cell? ⟨w1.heap.size,3,none⟩=some (.string ae):=hV1 3 _ rfl;have b4:V.cell? ⟨w1.heap.size,4,none⟩=some (.string ae):=hV1 4 _ rfl;have bf :∀o,V.frozen? ⟨w1.heap.size,o,none⟩=false:=(fun o=>by rw[hV,World.frozen?_setCells];unfold World.frozen?;rw[heap_alloc_new];rfl);have qB:=hide (iO.out.below hg1 hV2);have kW:=hide hV1;have kE:=hide hV2;have mW:=hide gW;clear hV hV1 hV2 gW)
  | (refine wpList_load_mid rfl _ _ rfl w1.heap.size 0 rfl (ag (⟨7,repo,ae,ae,ae,Pt.zero,[]⟩:aY) Ph.zero none 0) _ (uk kW.out (j:=0) rfl (.int .u8 7)) Tryz.underlying46 rfl zag ?_;have HZ2:Hid (ng w (V.setCell ⟨w1.heap.size,0,none⟩ (.int .u8 7))):=hide ((HZ1.out.next kE.out).keep ((Keep.refl _ _).setCell (by have:=HZ1.out.lt;show¬w1.heap.size<w.heap.size+1;omega) _)))
  | (refine wpList_store_mid rfl _ _ _ rfl w.heap.size 0 (ag (⟨7,repo,ae,ae,ae,Pt.zero,[]⟩:aY) Ph.zero none 0).toArray rfl rfl HZ2.out.ct zag (jQ _ _ _ _) ?_;obtain⟨X,hX,hX1,hX2,dQ,iH⟩:=HZ2.out.stored (ag (⟨7,repo,ae,ae,ae,Pt.zero,[]⟩:aY) Ph.zero none 0) rfl;rw[←hX];have fE:=hide hX1;have fD:=hide dQ;clear hX hX1 hX2 dQ iH))
 refine bodyPost_ret (v:= .tuple #[.agg (ag (⟨7,repo,ae,ae,ae,Pt.zero,[]⟩:aY) Ph.zero none 0).toArray,.bool bq]) (mX Tryz.results50 rfl rfl fE.out rfl) rfl ⟨fD.out,_,_,_,_,bq,rfl,fun h=>?_,fun h=>?_⟩
 ·have hr:r=[]:=by
   have h1:((m:Int) == 2)=true:=yX.out.symm.trans h;rw[beq_iff_eq]at h1;have h2:r.length+1+1=m:=Hm.out;exact List.length_eq_zero_iff.1 (by omega)
  exact⟨by rw[iW.out,if_pos hr],(vk (by decide) (nJ.out repo (by simp)) lS lS lS).1⟩
 ·have hr :¬r=[]:=by
   have h1:((m:Int) == 2)=false:=yX.out.symm.trans h;rw[aK]at h1;have h2:r.length+1+1=m:=Hm.out;intro e;rw[e]at h2;simp at h2;omega
  rw[iW.out,if_neg hr]
theorem Gz{w:World}{s repo:ByteArray}{r:List ByteArray}(hs:s.size≤1099511627)(hws:wordsOf 32 s=fA::repo::r)(hall:(repo::r).all isWord=true):Calls Tryz.prog 50 #[.string s] w (dL (wordsOf 32 s) w):=by
 have hlen:=oZ (c:=32) (s:=s) hs;rw[hws]at hlen;obtain⟨m,hm⟩:∃m,(fA::repo::r).length=m:=⟨_,rfl⟩;have hm2:2≤m:=by rw[←hm];simp
 rw[hm]at hlen;have hsz :∀z∈repo::r,z.size≤1099511627776:=fun z hz=>aI (oV (c:=32) (s:=s) (by rw[hws];exact List.mem_cons_of_mem _ hz)).1 (by omega);have hl:(repo::r).length≤1099511627776:=by have:(repo::r).length+1=m:=hm;omega
 have hlo:lineOf (wordsOf 32 s)=if r=[]then some ⟨8,repo,ae,ae,ae,Pt.zero,[]⟩else none:=by
  have hr:isWord repo=true:=by simp only[List.all_cons,Bool.and_eq_true]at hall;exact hall.1
  rw[hws,kY,jP (k:=8) (by simp[dP]),Option.bind_some,if_pos hr];rcases r with _|⟨y,r⟩<;>rfl
 have iW:=hide hlo;have Hws:=hide hws;have aQ:=hide hall;have nJ:=hide hsz;have Hm:=hide hm;have vI :¬(m:Int)<2:=by omega
 have HP:Hid (∀W,Calls Tryz.prog 72 #[.string s,.int .u8 32] W fun e w'=>∃v,e = .returned v∧w'.ownsRow W.heap.size 9 1 v (wordsOf 32 s).length ((wordsOf 32 s).map .string)∧Below W.heap.size W w'):=hide fun W=>pI s 32 (by omega) W;have HW:Hid (∀W g c,gX W g (fA::repo::r)→Calls Tryz.prog 122 #[.slice (some ⟨g,1,none⟩) (m-1) c] W fun e w'=>e = .returned (.bool true)∧W=w'):=hide fun W g c h=>by
  have e:m-1=(repo::r).length:=by rw[←hm];rfl
  rw[e];refine(ry (S:=fun _=>True) (h.rd1 trivial) hl hsz).mono ?_;rintro e w' ⟨rfl,rfl⟩;exact⟨by rw[hall],rfl⟩
 obtain⟨bq,hbq⟩:∃bq,bq=((m:Int) == 2):=⟨_,rfl⟩;have hq:=hbq.symm;have yX:=hide hbq;clear hbq;clear hlo hws hall hsz hm hl;go_enter Tryz.func50,Tryz.ntmps50
 go_wp2_with(first
  | (go_at_call 72;(with_reducible refine(HP.out _).mono ?_);rintro e1 w1 ⟨v1,rfl,ho1,hB1⟩;rw[Hws.out,Hm.out]at ho1;obtain⟨g,c1,rfl,hg0,hg1,hc1,hc2,hcl⟩:=pJ Hm.out (by omega) ho1;have hgb :¬w1.heap.size=g:=(by omega);have hbg :¬g=w1.heap.size:=(by omega);have HZ1:=hide ((lG w).next hB1);have iO:=hide hcl;have k0:w1.cell? ⟨g,0,none⟩=some (.string {data:=#[101,120,112,111,114,116]}):=hcl 0 _ rfl;have k1:w1.cell? ⟨g,1,none⟩=some (.string repo):=hcl 1 _ rfl;clear ho1 hB1 hcl)
  | (go_at_call 122;(with_reducible refine(HW.out _ _ _ iO.out).mono ?_);rintro e2 w2 ⟨rfl,rfl⟩)
  | (refine wpList_store_mid rfl _ _ _ rfl w1.heap.size 0 (ag (⟨0,repo,ae,ae,ae,Pt.zero,[]⟩:aY) Ph.zero none 0).toArray rfl rfl (oI w1 ak _) zag (jQ _ _ _ _) ?_;obtain⟨V,hV,hV1,hV2,gW⟩:=o5 w1 46 ak (ag (⟨0,repo,ae,ae,ae,Pt.zero,[]⟩:aY) Ph.zero none 0) rfl;rw[←hV];have v0:=(hV2.cell (p:=⟨g,0,none⟩) hg1).trans k0;have v1:=(hV2.cell (p:=⟨g,1,none⟩) hg1).trans k1;have b0:V.cell? ⟨w1.heap.size,0,none⟩=some (.int .u8 0):=hV1 0 _ rfl;have b2:V.cell? ⟨w1.heap.size,2,none⟩=some (.string ae):=hV1 2 _ rfl;have b3:V.cell? ⟨w1.heap.size,3,none⟩=some (.string ae):=hV1 3 _ rfl;have b4:V.cell? ⟨w1.heap.size,4,none⟩=some (.string ae):=hV1 4 _ rfl;have bf :∀o,V.frozen? ⟨w1.heap.size,o,none⟩=false:=(fun o=>by rw[hV,World.frozen?_setCells];unfold World.frozen?;rw[heap_alloc_new];rfl);have qB:=hide (iO.out.below hg1 hV2);have kW:=hide hV1;have kE:=hide hV2;have mW:=hide gW;clear hV hV1 hV2 gW)
  | (refine wpList_load_mid rfl _ _ rfl w1.heap.size 0 rfl (ag (⟨8,repo,ae,ae,ae,Pt.zero,[]⟩:aY) Ph.zero none 0) _ (uk kW.out (j:=0) rfl (.int .u8 8)) Tryz.underlying46 rfl zag ?_;have HZ2:Hid (ng w (V.setCell ⟨w1.heap.size,0,none⟩ (.int .u8 8))):=hide ((HZ1.out.next kE.out).keep ((Keep.refl _ _).setCell (by have:=HZ1.out.lt;show¬w1.heap.size<w.heap.size+1;omega) _)))
  | (refine wpList_store_mid rfl _ _ _ rfl w.heap.size 0 (ag (⟨8,repo,ae,ae,ae,Pt.zero,[]⟩:aY) Ph.zero none 0).toArray rfl rfl HZ2.out.ct zag (jQ _ _ _ _) ?_;obtain⟨X,hX,hX1,hX2,dQ,iH⟩:=HZ2.out.stored (ag (⟨8,repo,ae,ae,ae,Pt.zero,[]⟩:aY) Ph.zero none 0) rfl;rw[←hX];have fE:=hide hX1;have fD:=hide dQ;clear hX hX1 hX2 dQ iH))
 refine bodyPost_ret (v:= .tuple #[.agg (ag (⟨8,repo,ae,ae,ae,Pt.zero,[]⟩:aY) Ph.zero none 0).toArray,.bool bq]) (mX Tryz.results50 rfl rfl fE.out rfl) rfl ⟨fD.out,_,_,_,_,bq,rfl,fun h=>?_,fun h=>?_⟩
 ·have hr:r=[]:=by
   have h1:((m:Int) == 2)=true:=yX.out.symm.trans h;rw[beq_iff_eq]at h1;have h2:r.length+1+1=m:=Hm.out;exact List.length_eq_zero_iff.1 (by omega)
  exact⟨by rw[iW.out,if_pos hr],(vk (by decide) (nJ.out repo (by simp)) lS lS lS).1⟩
 ·have hr :¬r=[]:=by
   have h1:((m:Int) == 2)=false:=yX.out.symm.trans h;rw[aK]at h1;have h2:r.length+1+1=m:=Hm.out;intro e;rw[e]at h2;simp at h2;omega
  rw[iW.out,if_neg hr]
theorem CO{w:World}{s repo:ByteArray}{r:List ByteArray}(hs:s.size≤1099511627)(hws:wordsOf 32 s=eP::repo::r)(hall:(repo::r).all isWord=true)(hr1:r.length≠2):Calls Tryz.prog 50 #[.string s] w (dL (wordsOf 32 s) w):=by
 have hlen:=oZ (c:=32) (s:=s) hs;rw[hws]at hlen;obtain⟨m,hm⟩:∃m,(eP::repo::r).length=m:=⟨_,rfl⟩;have hm2:2≤m:=by rw[←hm];simp
 rw[hm]at hlen;have hsz :∀z∈repo::r,z.size≤1099511627776:=fun z hz=>aI (oV (c:=32) (s:=s) (by rw[hws];exact List.mem_cons_of_mem _ hz)).1 (by omega);have hl:(repo::r).length≤1099511627776:=by have:(repo::r).length+1=m:=hm;omega
 have hlo:lineOf (wordsOf 32 s)=none:=by
  have hr:isWord repo=true:=by simp only[List.all_cons,Bool.and_eq_true]at hall;exact hall.1
  rw[hws,kY,jP (k:=3) (by simp[dP]),Option.bind_some,if_pos hr];rcases r with _|⟨x,_|⟨y,_|⟨z,r⟩⟩⟩
  ·rfl
  ·rfl
  ·exact absurd rfl hr1
  ·simp only[restOf,dE];split<;>rename_i h<;>split at h<;>simp at h<;>rfl
 have iW:=hide hlo;have Hws:=hide hws;have aQ:=hide hall;have nJ:=hide hsz;have Hm:=hide hm;have vI :¬(m:Int)<2:=by omega
 have HP:Hid (∀W,Calls Tryz.prog 72 #[.string s,.int .u8 32] W fun e w'=>∃v,e = .returned v∧w'.ownsRow W.heap.size 9 1 v (wordsOf 32 s).length ((wordsOf 32 s).map .string)∧Below W.heap.size W w'):=hide fun W=>pI s 32 (by omega) W;have HW:Hid (∀W g c,gX W g (eP::repo::r)→Calls Tryz.prog 122 #[.slice (some ⟨g,1,none⟩) (m-1) c] W fun e w'=>e = .returned (.bool true)∧W=w'):=hide fun W g c h=>by
  have e:m-1=(repo::r).length:=by rw[←hm];rfl
  rw[e];refine(ry (S:=fun _=>True) (h.rd1 trivial) hl hsz).mono ?_;rintro e w' ⟨rfl,rfl⟩;exact⟨by rw[hall],rfl⟩
 have Sj:((m:Int) == 4)=false:=by have:r.length+1+1=m:=hm;rw[aK];omega
 clear hlo hws hall hsz hm hl;go_enter Tryz.func50,Tryz.ntmps50
 go_wp2_with(first
  | (go_at_call 72;(with_reducible refine(HP.out _).mono ?_);rintro e1 w1 ⟨v1,rfl,ho1,hB1⟩;rw[Hws.out,Hm.out]at ho1;obtain⟨g,c1,rfl,hg0,hg1,hc1,hc2,hcl⟩:=pJ Hm.out (by omega) ho1;have hgb :¬w1.heap.size=g:=(by omega);have hbg :¬g=w1.heap.size:=(by omega);have HZ1:=hide ((lG w).next hB1);have iO:=hide hcl;have k0:w1.cell? ⟨g,0,none⟩=some (.string {data:=#[112,117,108,108]}):=hcl 0 _ rfl;have k1:w1.cell? ⟨g,1,none⟩=some (.string repo):=hcl 1 _ rfl;clear ho1 hB1 hcl)
  | (go_at_call 122;(with_reducible refine(HW.out _ _ _ iO.out).mono ?_);rintro e2 w2 ⟨rfl,rfl⟩)
  | (refine wpList_store_mid rfl _ _ _ rfl w1.heap.size 0 (ag (⟨0,repo,ae,ae,ae,Pt.zero,[]⟩:aY) Ph.zero none 0).toArray rfl rfl (oI w1 ak _) zag (jQ _ _ _ _) ?_;obtain⟨V,hV,hV1,hV2,gW⟩:=o5 w1 46 ak (ag (⟨0,repo,ae,ae,ae,Pt.zero,[]⟩:aY) Ph.zero none 0) rfl;rw[←hV];have v0:=(hV2.cell (p:=⟨g,0,none⟩) hg1).trans k0;have v1:=(hV2.cell (p:=⟨g,1,none⟩) hg1).trans k1;have b0:V.cell? ⟨w1.heap.size,0,none⟩=some (.int .u8 0):=hV1 0 _ rfl;have b2:V.cell? ⟨w1.heap.size,2,none⟩=some (.string ae):=hV1 2 _ rfl;have b3:V.cell? ⟨w1.heap.size,3,none⟩=some (.string ae):=hV1 3 _ rfl;have b4:V.cell? ⟨w1.heap.size,4,none⟩=some (.string ae):=hV1 4 _ rfl;have bf :∀o,V.frozen? ⟨w1.heap.size,o,none⟩=false:=(fun o=>by rw[hV,World.frozen?_setCells];unfold World.frozen?;rw[heap_alloc_new];rfl);have qB:=hide (iO.out.below hg1 hV2);have kW:=hide hV1;have kE:=hide hV2;have mW:=hide gW;clear hV hV1 hV2 gW)
  | (refine wpList_load_mid rfl _ _ rfl w1.heap.size 0 rfl (ag (⟨3,repo,ae,ae,ae,Pt.zero,[]⟩:aY) Ph.zero none 0) _ (uk kW.out (j:=0) rfl (.int .u8 3)) Tryz.underlying46 rfl zag ?_;have HZ2:Hid (ng w (V.setCell ⟨w1.heap.size,0,none⟩ (.int .u8 3))):=hide ((HZ1.out.next kE.out).keep ((Keep.refl _ _).setCell (by have:=HZ1.out.lt;show¬w1.heap.size<w.heap.size+1;omega) _)))
  | (refine wpList_store_mid rfl _ _ _ rfl w.heap.size 0 (ag (⟨3,repo,ae,ae,ae,Pt.zero,[]⟩:aY) Ph.zero none 0).toArray rfl rfl HZ2.out.ct zag (jQ _ _ _ _) ?_;obtain⟨X,hX,hX1,hX2,dQ,iH⟩:=HZ2.out.stored (ag (⟨3,repo,ae,ae,ae,Pt.zero,[]⟩:aY) Ph.zero none 0) rfl;rw[←hX];have fE:=hide hX1;have fD:=hide dQ;clear hX hX1 hX2 dQ iH))
 refine bodyPost_ret (v:= .tuple #[.agg (ag (⟨3,repo,ae,ae,ae,Pt.zero,[]⟩:aY) Ph.zero none 0).toArray,.bool false]) (mX Tryz.results50 rfl rfl fE.out rfl) rfl ⟨fD.out,_,_,_,_,false,rfl,fun h=>?_,fun h=>?_⟩
 ·cases h
 ·exact iW.out
end
end Go.Proofs.YtjjaojnglnpgaaaGreatDoor
