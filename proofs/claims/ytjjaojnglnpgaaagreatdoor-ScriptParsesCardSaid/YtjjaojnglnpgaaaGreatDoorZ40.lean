/- Part 41. -/
import Derived.Test.YtjjaojnglnpgaaaGreatDoorZ28
import Derived.Test.YtjjaojnglnpgaaaGreatDoorZ37
import Derived.Test.YtjjaojnglnpgaaaGreatDoorZ10
import Derived.Test.YtjjaojnglnpgaaaGreatDoorZ09
import Derived.Test.YtjjaojnglnpgaaaGreatDoorZ00
set_option linter.unusedVariables false
set_option linter.unusedSimpArgs false
set_option maxHeartbeats 16000000
set_option maxRecDepth 1000000
namespace Go.Proofs.YtjjaojnglnpgaaaGreatDoor
section
open Go.RowKit
theorem AQ{w:World}{s repo:ByteArray}{r:List ByteArray}(hs:s.size≤1099511627)(hws:wordsOf 32 s=kwNew::repo::r)(hall:(repo::r).all isWord=true):Calls Tryz.prog 50 #[.string s] w (LineP (wordsOf 32 s) w):=by
 have hlen:=iV (c:=32) (s:=s) hs;rw[hws]at hlen;obtain⟨m,hm⟩:∃m,(kwNew::repo::r).length=m:=⟨_,rfl⟩;have hm2:2≤m:=by rw[←hm];simp
 rw[hm]at hlen;have hsz :∀z∈repo::r,z.size≤1099511627776:=fun z hz=>aI (iL (c:=32) (s:=s) (by rw[hws];exact List.mem_cons_of_mem _ hz)).1 (by omega);have hl:(repo::r).length≤1099511627776:=by have:(repo::r).length+1=m:=hm;omega
 have hlo:lineOf (wordsOf 32 s)=if r=[]then some ⟨1,repo,noTxt,noTxt,noTxt,Pt.zero,[]⟩else none:=by
  have hr:isWord repo=true:=by simp only[List.all_cons,Bool.and_eq_true]at hall;exact hall.1
  rw[hws,eP,zap (k:=1) (by simp[kwL]),Option.bind_some,if_pos hr];rcases r with _|⟨y,r⟩<;>rfl
 have dh:=hide hlo;have Hws:=hide hws;have ah:=hide hall;have gy:=hide hsz;have Hm:=hide hm;have oC :¬(m:Int)<2:=by omega
 have HP:Hid (∀W,Calls Tryz.prog 72 #[.string s,.int .u8 32] W fun e w'=>∃v,e = .returned v∧w'.ownsRow W.heap.size 9 1 v (wordsOf 32 s).length ((wordsOf 32 s).map .string)∧Below W.heap.size W w'):=hide fun W=>iU s 32 (by omega) W;have HW:Hid (∀W g c,WsAt W g (kwNew::repo::r)→Calls Tryz.prog 122 #[.slice (some ⟨g,1,none⟩) (m-1) c] W fun e w'=>e = .returned (.bool true)∧W=w'):=hide fun W g c h=>by
  have e:m-1=(repo::r).length:=by rw[←hm];rfl
  rw[e];refine(kR (S:=fun _=>True) (h.rd1 trivial) hl hsz).mono ?_;rintro e w' ⟨rfl,rfl⟩;exact⟨by rw[hall],rfl⟩
 obtain⟨bq,hbq⟩:∃bq,bq=((m:Int) == 2):=⟨_,rfl⟩;have hq:=hbq.symm;have sK:=hide hbq;clear hbq;clear hlo hws hall hsz hm hl;go_enter Tryz.func50,Tryz.ntmps50
 go_wp2_with(first
  | (go_at_call 72;(with_reducible refine(HP.out _).mono ?_);rintro e1 w1 ⟨v1,rfl,ho1,hB1⟩;rw[Hws.out,Hm.out]at ho1;obtain⟨g,c1,rfl,hg0,hg1,hc1,hc2,hcl⟩:=iY Hm.out (by omega) ho1;have hgb :¬w1.heap.size=g:=(by omega);have hbg :¬g=w1.heap.size:=(by omega);have HZ1:=hide ((fK w).next hB1);have cZ:=hide hcl;have k0:w1.cell? ⟨g,0,none⟩=some (.string {data:=#[110,101,119]}):=hcl 0 _ rfl;have k1:w1.cell? ⟨g,1,none⟩=some (.string repo):=hcl 1 _ rfl;clear ho1 hB1 hcl)
  | (go_at_call 122;(with_reducible refine(HW.out _ _ _ cZ.out).mono ?_);rintro e2 w2 ⟨rfl,rfl⟩)
  | (refine wpList_store_mid rfl _ _ _ rfl w1.heap.size 0 (cmdVs (⟨0,repo,noTxt,noTxt,noTxt,Pt.zero,[]⟩:Cmd) Ph.zero none 0).toArray rfl rfl (gU w1 zeroL _) aZ (dL _ _ _ _) ?_;obtain⟨V,hV,hV1,hV2,bG⟩:=iM w1 46 zeroL (cmdVs (⟨0,repo,noTxt,noTxt,noTxt,Pt.zero,[]⟩:Cmd) Ph.zero none 0) rfl;rw[←hV];have v0:=(hV2.cell (p:=⟨g,0,none⟩) hg1).trans k0;have v1:=(hV2.cell (p:=⟨g,1,none⟩) hg1).trans k1;have b0:V.cell? ⟨w1.heap.size,0,none⟩=some (.int .u8 0):=hV1 0 _ rfl;have b2:V.cell? ⟨w1.heap.size,2,none⟩=some (.string noTxt):=hV1 2 _ rfl;have b3:V.cell? ⟨w1.heap.size,3,none⟩=some (.string noTxt):=hV1 3 _ rfl;have b4:V.cell? ⟨w1.heap.size,4,none⟩=some (.string noTxt):=hV1 4 _ rfl;have bf :∀o,V.frozen? ⟨w1.heap.size,o,none⟩=false:=(fun o=>by rw[hV,World.frozen?_setCells];unfold World.frozen?;rw[heap_alloc_new];rfl);have jA:=hide (cZ.out.below hg1 hV2);have dJ:=hide hV1;have dE:=hide hV2;have dX:=hide bG;clear hV hV1 hV2 bG)
  | (refine wpList_load_mid rfl _ _ rfl w1.heap.size 0 rfl (cmdVs (⟨1,repo,noTxt,noTxt,noTxt,Pt.zero,[]⟩:Cmd) Ph.zero none 0) _ (mQ dJ.out (j:=0) rfl (.int .u8 1)) Tryz.underlying46 rfl aZ ?_;have HZ2:Hid (ZAt w (V.setCell ⟨w1.heap.size,0,none⟩ (.int .u8 1))):=hide ((HZ1.out.next dE.out).keep ((Keep.refl _ _).setCell (by have:=HZ1.out.lt;show¬w1.heap.size<w.heap.size+1;omega) _)))
  | (refine wpList_store_mid rfl _ _ _ rfl w.heap.size 0 (cmdVs (⟨1,repo,noTxt,noTxt,noTxt,Pt.zero,[]⟩:Cmd) Ph.zero none 0).toArray rfl rfl HZ2.out.ct aZ (dL _ _ _ _) ?_;obtain⟨X,hX,hX1,hX2,bz,cO⟩:=HZ2.out.stored (cmdVs (⟨1,repo,noTxt,noTxt,noTxt,Pt.zero,[]⟩:Cmd) Ph.zero none 0) rfl;rw[←hX];have bU:=hide hX1;have bJ:=hide bz;clear hX hX1 hX2 bz cO))
 refine bodyPost_ret (v:= .tuple #[.agg (cmdVs (⟨1,repo,noTxt,noTxt,noTxt,Pt.zero,[]⟩:Cmd) Ph.zero none 0).toArray,.bool bq]) (fP Tryz.results50 rfl rfl bU.out rfl) rfl ⟨bJ.out,_,_,_,_,bq,rfl,fun h=>?_,fun h=>?_⟩
 ·have hr:r=[]:=by
   have h1:((m:Int) == 2)=true:=sK.out.symm.trans h;rw[beq_iff_eq]at h1;have h2:r.length+1+1=m:=Hm.out;exact List.length_eq_zero_iff.1 (by omega)
  exact⟨by rw[dh.out,if_pos hr],(mJ (by decide) (gy.out repo (by simp)) dP dP dP).1⟩
 ·have hr :¬r=[]:=by
   have h1:((m:Int) == 2)=false:=sK.out.symm.trans h;rw[aK]at h1;have h2:r.length+1+1=m:=Hm.out;intro e;rw[e]at h2;simp at h2;omega
  rw[dh.out,if_neg hr]
theorem AU{w:World}{s repo:ByteArray}{r:List ByteArray}(hs:s.size≤1099511627)(hws:wordsOf 32 s=kwLog::repo::r)(hall:(repo::r).all isWord=true):Calls Tryz.prog 50 #[.string s] w (LineP (wordsOf 32 s) w):=by
 have hlen:=iV (c:=32) (s:=s) hs;rw[hws]at hlen;obtain⟨m,hm⟩:∃m,(kwLog::repo::r).length=m:=⟨_,rfl⟩;have hm2:2≤m:=by rw[←hm];simp
 rw[hm]at hlen;have hsz :∀z∈repo::r,z.size≤1099511627776:=fun z hz=>aI (iL (c:=32) (s:=s) (by rw[hws];exact List.mem_cons_of_mem _ hz)).1 (by omega);have hl:(repo::r).length≤1099511627776:=by have:(repo::r).length+1=m:=hm;omega
 have hlo:lineOf (wordsOf 32 s)=if r=[]then some ⟨7,repo,noTxt,noTxt,noTxt,Pt.zero,[]⟩else none:=by
  have hr:isWord repo=true:=by simp only[List.all_cons,Bool.and_eq_true]at hall;exact hall.1
  rw[hws,eP,zap (k:=7) (by simp[kwL]),Option.bind_some,if_pos hr];rcases r with _|⟨y,r⟩<;>rfl
 have dh:=hide hlo;have Hws:=hide hws;have ah:=hide hall;have gy:=hide hsz;have Hm:=hide hm;have oC :¬(m:Int)<2:=by omega
 have HP:Hid (∀W,Calls Tryz.prog 72 #[.string s,.int .u8 32] W fun e w'=>∃v,e = .returned v∧w'.ownsRow W.heap.size 9 1 v (wordsOf 32 s).length ((wordsOf 32 s).map .string)∧Below W.heap.size W w'):=hide fun W=>iU s 32 (by omega) W;have HW:Hid (∀W g c,WsAt W g (kwLog::repo::r)→Calls Tryz.prog 122 #[.slice (some ⟨g,1,none⟩) (m-1) c] W fun e w'=>e = .returned (.bool true)∧W=w'):=hide fun W g c h=>by
  have e:m-1=(repo::r).length:=by rw[←hm];rfl
  rw[e];refine(kR (S:=fun _=>True) (h.rd1 trivial) hl hsz).mono ?_;rintro e w' ⟨rfl,rfl⟩;exact⟨by rw[hall],rfl⟩
 obtain⟨bq,hbq⟩:∃bq,bq=((m:Int) == 2):=⟨_,rfl⟩;have hq:=hbq.symm;have sK:=hide hbq;clear hbq;clear hlo hws hall hsz hm hl;go_enter Tryz.func50,Tryz.ntmps50
 go_wp2_with(first
  | (go_at_call 72;(with_reducible refine(HP.out _).mono ?_);rintro e1 w1 ⟨v1,rfl,ho1,hB1⟩;rw[Hws.out,Hm.out]at ho1;obtain⟨g,c1,rfl,hg0,hg1,hc1,hc2,hcl⟩:=iY Hm.out (by omega) ho1;have hgb :¬w1.heap.size=g:=(by omega);have hbg :¬g=w1.heap.size:=(by omega);have HZ1:=hide ((fK w).next hB1);have cZ:=hide hcl;have k0:w1.cell? ⟨g,0,none⟩=some (.string {data:=#[108,111,103]}):=hcl 0 _ rfl;have k1:w1.cell? ⟨g,1,none⟩=some (.string repo):=hcl 1 _ rfl;clear ho1 hB1 hcl)
  | (go_at_call 122;(with_reducible refine(HW.out _ _ _ cZ.out).mono ?_);rintro e2 w2 ⟨rfl,rfl⟩)
  | (refine wpList_store_mid rfl _ _ _ rfl w1.heap.size 0 (cmdVs (⟨0,repo,noTxt,noTxt,noTxt,Pt.zero,[]⟩:Cmd) Ph.zero none 0).toArray rfl rfl (gU w1 zeroL _) aZ (dL _ _ _ _) ?_;obtain⟨V,hV,hV1,hV2,bG⟩:=iM w1 46 zeroL (cmdVs (⟨0,repo,noTxt,noTxt,noTxt,Pt.zero,[]⟩:Cmd) Ph.zero none 0) rfl;rw[←hV];have v0:=(hV2.cell (p:=⟨g,0,none⟩) hg1).trans k0;have v1:=(hV2.cell (p:=⟨g,1,none⟩) hg1).trans k1;have b0:V.cell? ⟨w1.heap.size,0,none⟩=some (.int .u8 0):=hV1 0 _ rfl;have b2:V.cell? ⟨w1.heap.size,2,none⟩=some (.string noTxt):=hV1 2 _ rfl;have b3:V.cell? ⟨w1.heap.size,3,none⟩=some (.string noTxt):=hV1 3 _ rfl;have b4:V.cell? ⟨w1.heap.size,4,none⟩=some (.string noTxt):=hV1 4 _ rfl;have bf :∀o,V.frozen? ⟨w1.heap.size,o,none⟩=false:=(fun o=>by rw[hV,World.frozen?_setCells];unfold World.frozen?;rw[heap_alloc_new];rfl);have jA:=hide (cZ.out.below hg1 hV2);have dJ:=hide hV1;have dE:=hide hV2;have dX:=hide bG;clear hV hV1 hV2 bG)
  | (refine wpList_load_mid rfl _ _ rfl w1.heap.size 0 rfl (cmdVs (⟨7,repo,noTxt,noTxt,noTxt,Pt.zero,[]⟩:Cmd) Ph.zero none 0) _ (mQ dJ.out (j:=0) rfl (.int .u8 7)) Tryz.underlying46 rfl aZ ?_;have HZ2:Hid (ZAt w (V.setCell ⟨w1.heap.size,0,none⟩ (.int .u8 7))):=hide ((HZ1.out.next dE.out).keep ((Keep.refl _ _).setCell (by have:=HZ1.out.lt;show¬w1.heap.size<w.heap.size+1;omega) _)))
  | (refine wpList_store_mid rfl _ _ _ rfl w.heap.size 0 (cmdVs (⟨7,repo,noTxt,noTxt,noTxt,Pt.zero,[]⟩:Cmd) Ph.zero none 0).toArray rfl rfl HZ2.out.ct aZ (dL _ _ _ _) ?_;obtain⟨X,hX,hX1,hX2,bz,cO⟩:=HZ2.out.stored (cmdVs (⟨7,repo,noTxt,noTxt,noTxt,Pt.zero,[]⟩:Cmd) Ph.zero none 0) rfl;rw[←hX];have bU:=hide hX1;have bJ:=hide bz;clear hX hX1 hX2 bz cO))
 refine bodyPost_ret (v:= .tuple #[.agg (cmdVs (⟨7,repo,noTxt,noTxt,noTxt,Pt.zero,[]⟩:Cmd) Ph.zero none 0).toArray,.bool bq]) (fP Tryz.results50 rfl rfl bU.out rfl) rfl ⟨bJ.out,_,_,_,_,bq,rfl,fun h=>?_,fun h=>?_⟩
 ·have hr:r=[]:=by
   have h1:((m:Int) == 2)=true:=sK.out.symm.trans h;rw[beq_iff_eq]at h1;have h2:r.length+1+1=m:=Hm.out;exact List.length_eq_zero_iff.1 (by omega)
  exact⟨by rw[dh.out,if_pos hr],(mJ (by decide) (gy.out repo (by simp)) dP dP dP).1⟩
 ·have hr :¬r=[]:=by
   have h1:((m:Int) == 2)=false:=sK.out.symm.trans h;rw[aK]at h1;have h2:r.length+1+1=m:=Hm.out;intro e;rw[e]at h2;simp at h2;omega
  rw[dh.out,if_neg hr]
theorem AV{w:World}{s repo:ByteArray}{r:List ByteArray}(hs:s.size≤1099511627)(hws:wordsOf 32 s=kwExport::repo::r)(hall:(repo::r).all isWord=true):Calls Tryz.prog 50 #[.string s] w (LineP (wordsOf 32 s) w):=by
 have hlen:=iV (c:=32) (s:=s) hs;rw[hws]at hlen;obtain⟨m,hm⟩:∃m,(kwExport::repo::r).length=m:=⟨_,rfl⟩;have hm2:2≤m:=by rw[←hm];simp
 rw[hm]at hlen;have hsz :∀z∈repo::r,z.size≤1099511627776:=fun z hz=>aI (iL (c:=32) (s:=s) (by rw[hws];exact List.mem_cons_of_mem _ hz)).1 (by omega);have hl:(repo::r).length≤1099511627776:=by have:(repo::r).length+1=m:=hm;omega
 have hlo:lineOf (wordsOf 32 s)=if r=[]then some ⟨8,repo,noTxt,noTxt,noTxt,Pt.zero,[]⟩else none:=by
  have hr:isWord repo=true:=by simp only[List.all_cons,Bool.and_eq_true]at hall;exact hall.1
  rw[hws,eP,zap (k:=8) (by simp[kwL]),Option.bind_some,if_pos hr];rcases r with _|⟨y,r⟩<;>rfl
 have dh:=hide hlo;have Hws:=hide hws;have ah:=hide hall;have gy:=hide hsz;have Hm:=hide hm;have oC :¬(m:Int)<2:=by omega
 have HP:Hid (∀W,Calls Tryz.prog 72 #[.string s,.int .u8 32] W fun e w'=>∃v,e = .returned v∧w'.ownsRow W.heap.size 9 1 v (wordsOf 32 s).length ((wordsOf 32 s).map .string)∧Below W.heap.size W w'):=hide fun W=>iU s 32 (by omega) W;have HW:Hid (∀W g c,WsAt W g (kwExport::repo::r)→Calls Tryz.prog 122 #[.slice (some ⟨g,1,none⟩) (m-1) c] W fun e w'=>e = .returned (.bool true)∧W=w'):=hide fun W g c h=>by
  have e:m-1=(repo::r).length:=by rw[←hm];rfl
  rw[e];refine(kR (S:=fun _=>True) (h.rd1 trivial) hl hsz).mono ?_;rintro e w' ⟨rfl,rfl⟩;exact⟨by rw[hall],rfl⟩
 obtain⟨bq,hbq⟩:∃bq,bq=((m:Int) == 2):=⟨_,rfl⟩;have hq:=hbq.symm;have sK:=hide hbq;clear hbq;clear hlo hws hall hsz hm hl;go_enter Tryz.func50,Tryz.ntmps50
 go_wp2_with(first
  | (go_at_call 72;(with_reducible refine(HP.out _).mono ?_);rintro e1 w1 ⟨v1,rfl,ho1,hB1⟩;rw[Hws.out,Hm.out]at ho1;obtain⟨g,c1,rfl,hg0,hg1,hc1,hc2,hcl⟩:=iY Hm.out (by omega) ho1;have hgb :¬w1.heap.size=g:=(by omega);have hbg :¬g=w1.heap.size:=(by omega);have HZ1:=hide ((fK w).next hB1);have cZ:=hide hcl;have k0:w1.cell? ⟨g,0,none⟩=some (.string {data:=#[101,120,112,111,114,116]}):=hcl 0 _ rfl;have k1:w1.cell? ⟨g,1,none⟩=some (.string repo):=hcl 1 _ rfl;clear ho1 hB1 hcl)
  | (go_at_call 122;(with_reducible refine(HW.out _ _ _ cZ.out).mono ?_);rintro e2 w2 ⟨rfl,rfl⟩)
  | (refine wpList_store_mid rfl _ _ _ rfl w1.heap.size 0 (cmdVs (⟨0,repo,noTxt,noTxt,noTxt,Pt.zero,[]⟩:Cmd) Ph.zero none 0).toArray rfl rfl (gU w1 zeroL _) aZ (dL _ _ _ _) ?_;obtain⟨V,hV,hV1,hV2,bG⟩:=iM w1 46 zeroL (cmdVs (⟨0,repo,noTxt,noTxt,noTxt,Pt.zero,[]⟩:Cmd) Ph.zero none 0) rfl;rw[←hV];have v0:=(hV2.cell (p:=⟨g,0,none⟩) hg1).trans k0;have v1:=(hV2.cell (p:=⟨g,1,none⟩) hg1).trans k1;have b0:V.cell? ⟨w1.heap.size,0,none⟩=some (.int .u8 0):=hV1 0 _ rfl;have b2:V.cell? ⟨w1.heap.size,2,none⟩=some (.string noTxt):=hV1 2 _ rfl;have b3:V.cell? ⟨w1.heap.size,3,none⟩=some (.string noTxt):=hV1 3 _ rfl;have b4:V.cell? ⟨w1.heap.size,4,none⟩=some (.string noTxt):=hV1 4 _ rfl;have bf :∀o,V.frozen? ⟨w1.heap.size,o,none⟩=false:=(fun o=>by rw[hV,World.frozen?_setCells];unfold World.frozen?;rw[heap_alloc_new];rfl);have jA:=hide (cZ.out.below hg1 hV2);have dJ:=hide hV1;have dE:=hide hV2;have dX:=hide bG;clear hV hV1 hV2 bG)
  | (refine wpList_load_mid rfl _ _ rfl w1.heap.size 0 rfl (cmdVs (⟨8,repo,noTxt,noTxt,noTxt,Pt.zero,[]⟩:Cmd) Ph.zero none 0) _ (mQ dJ.out (j:=0) rfl (.int .u8 8)) Tryz.underlying46 rfl aZ ?_;have HZ2:Hid (ZAt w (V.setCell ⟨w1.heap.size,0,none⟩ (.int .u8 8))):=hide ((HZ1.out.next dE.out).keep ((Keep.refl _ _).setCell (by have:=HZ1.out.lt;show¬w1.heap.size<w.heap.size+1;omega) _)))
  | (refine wpList_store_mid rfl _ _ _ rfl w.heap.size 0 (cmdVs (⟨8,repo,noTxt,noTxt,noTxt,Pt.zero,[]⟩:Cmd) Ph.zero none 0).toArray rfl rfl HZ2.out.ct aZ (dL _ _ _ _) ?_;obtain⟨X,hX,hX1,hX2,bz,cO⟩:=HZ2.out.stored (cmdVs (⟨8,repo,noTxt,noTxt,noTxt,Pt.zero,[]⟩:Cmd) Ph.zero none 0) rfl;rw[←hX];have bU:=hide hX1;have bJ:=hide bz;clear hX hX1 hX2 bz cO))
 refine bodyPost_ret (v:= .tuple #[.agg (cmdVs (⟨8,repo,noTxt,noTxt,noTxt,Pt.zero,[]⟩:Cmd) Ph.zero none 0).toArray,.bool bq]) (fP Tryz.results50 rfl rfl bU.out rfl) rfl ⟨bJ.out,_,_,_,_,bq,rfl,fun h=>?_,fun h=>?_⟩
 ·have hr:r=[]:=by
   have h1:((m:Int) == 2)=true:=sK.out.symm.trans h;rw[beq_iff_eq]at h1;have h2:r.length+1+1=m:=Hm.out;exact List.length_eq_zero_iff.1 (by omega)
  exact⟨by rw[dh.out,if_pos hr],(mJ (by decide) (gy.out repo (by simp)) dP dP dP).1⟩
 ·have hr :¬r=[]:=by
   have h1:((m:Int) == 2)=false:=sK.out.symm.trans h;rw[aK]at h1;have h2:r.length+1+1=m:=Hm.out;intro e;rw[e]at h2;simp at h2;omega
  rw[dh.out,if_neg hr]
theorem xx{w:World}{s repo:ByteArray}{r:List ByteArray}(hs:s.size≤1099511627)(hws:wordsOf 32 s=kwPull::repo::r)(hall:(repo::r).all isWord=true)(hr1:r.length≠2):Calls Tryz.prog 50 #[.string s] w (LineP (wordsOf 32 s) w):=by
 have hlen:=iV (c:=32) (s:=s) hs;rw[hws]at hlen;obtain⟨m,hm⟩:∃m,(kwPull::repo::r).length=m:=⟨_,rfl⟩;have hm2:2≤m:=by rw[←hm];simp
 rw[hm]at hlen;have hsz :∀z∈repo::r,z.size≤1099511627776:=fun z hz=>aI (iL (c:=32) (s:=s) (by rw[hws];exact List.mem_cons_of_mem _ hz)).1 (by omega);have hl:(repo::r).length≤1099511627776:=by have:(repo::r).length+1=m:=hm;omega
 have hlo:lineOf (wordsOf 32 s)=none:=by
  have hr:isWord repo=true:=by simp only[List.all_cons,Bool.and_eq_true]at hall;exact hall.1
  rw[hws,eP,zap (k:=3) (by simp[kwL]),Option.bind_some,if_pos hr];rcases r with _|⟨x,_|⟨y,_|⟨z,r⟩⟩⟩
  ·rfl
  ·rfl
  ·exact absurd rfl hr1
  ·simp only[restOf,restPull];split<;>rename_i h<;>split at h<;>simp at h<;>rfl
 have dh:=hide hlo;have Hws:=hide hws;have ah:=hide hall;have gy:=hide hsz;have Hm:=hide hm;have oC :¬(m:Int)<2:=by omega
 have HP:Hid (∀W,Calls Tryz.prog 72 #[.string s,.int .u8 32] W fun e w'=>∃v,e = .returned v∧w'.ownsRow W.heap.size 9 1 v (wordsOf 32 s).length ((wordsOf 32 s).map .string)∧Below W.heap.size W w'):=hide fun W=>iU s 32 (by omega) W;have HW:Hid (∀W g c,WsAt W g (kwPull::repo::r)→Calls Tryz.prog 122 #[.slice (some ⟨g,1,none⟩) (m-1) c] W fun e w'=>e = .returned (.bool true)∧W=w'):=hide fun W g c h=>by
  have e:m-1=(repo::r).length:=by rw[←hm];rfl
  rw[e];refine(kR (S:=fun _=>True) (h.rd1 trivial) hl hsz).mono ?_;rintro e w' ⟨rfl,rfl⟩;exact⟨by rw[hall],rfl⟩
 have NI:((m:Int) == 4)=false:=by have:r.length+1+1=m:=hm;rw[aK];omega
 clear hlo hws hall hsz hm hl;go_enter Tryz.func50,Tryz.ntmps50
 go_wp2_with(first
  | (go_at_call 72;(with_reducible refine(HP.out _).mono ?_);rintro e1 w1 ⟨v1,rfl,ho1,hB1⟩;rw[Hws.out,Hm.out]at ho1;obtain⟨g,c1,rfl,hg0,hg1,hc1,hc2,hcl⟩:=iY Hm.out (by omega) ho1;have hgb :¬w1.heap.size=g:=(by omega);have hbg :¬g=w1.heap.size:=(by omega);have HZ1:=hide ((fK w).next hB1);have cZ:=hide hcl;have k0:w1.cell? ⟨g,0,none⟩=some (.string {data:=#[112,117,108,108]}):=hcl 0 _ rfl;have k1:w1.cell? ⟨g,1,none⟩=some (.string repo):=hcl 1 _ rfl;clear ho1 hB1 hcl)
  | (go_at_call 122;(with_reducible refine(HW.out _ _ _ cZ.out).mono ?_);rintro e2 w2 ⟨rfl,rfl⟩)
  | (refine wpList_store_mid rfl _ _ _ rfl w1.heap.size 0 (cmdVs (⟨0,repo,noTxt,noTxt,noTxt,Pt.zero,[]⟩:Cmd) Ph.zero none 0).toArray rfl rfl (gU w1 zeroL _) aZ (dL _ _ _ _) ?_;obtain⟨V,hV,hV1,hV2,bG⟩:=iM w1 46 zeroL (cmdVs (⟨0,repo,noTxt,noTxt,noTxt,Pt.zero,[]⟩:Cmd) Ph.zero none 0) rfl;rw[←hV];have v0:=(hV2.cell (p:=⟨g,0,none⟩) hg1).trans k0;have v1:=(hV2.cell (p:=⟨g,1,none⟩) hg1).trans k1;have b0:V.cell? ⟨w1.heap.size,0,none⟩=some (.int .u8 0):=hV1 0 _ rfl;have b2:V.cell? ⟨w1.heap.size,2,none⟩=some (.string noTxt):=hV1 2 _ rfl;have b3:V.cell? ⟨w1.heap.size,3,none⟩=some (.string noTxt):=hV1 3 _ rfl;have b4:V.cell? ⟨w1.heap.size,4,none⟩=some (.string noTxt):=hV1 4 _ rfl;have bf :∀o,V.frozen? ⟨w1.heap.size,o,none⟩=false:=(fun o=>by rw[hV,World.frozen?_setCells];unfold World.frozen?;rw[heap_alloc_new];rfl);have jA:=hide (cZ.out.below hg1 hV2);have dJ:=hide hV1;have dE:=hide hV2;have dX:=hide bG;clear hV hV1 hV2 bG)
  | (refine wpList_load_mid rfl _ _ rfl w1.heap.size 0 rfl (cmdVs (⟨3,repo,noTxt,noTxt,noTxt,Pt.zero,[]⟩:Cmd) Ph.zero none 0) _ (mQ dJ.out (j:=0) rfl (.int .u8 3)) Tryz.underlying46 rfl aZ ?_;have HZ2:Hid (ZAt w (V.setCell ⟨w1.heap.size,0,none⟩ (.int .u8 3))):=hide ((HZ1.out.next dE.out).keep ((Keep.refl _ _).setCell (by have:=HZ1.out.lt;show¬w1.heap.size<w.heap.size+1;omega) _)))
  | (refine wpList_store_mid rfl _ _ _ rfl w.heap.size 0 (cmdVs (⟨3,repo,noTxt,noTxt,noTxt,Pt.zero,[]⟩:Cmd) Ph.zero none 0).toArray rfl rfl HZ2.out.ct aZ (dL _ _ _ _) ?_;obtain⟨X,hX,hX1,hX2,bz,cO⟩:=HZ2.out.stored (cmdVs (⟨3,repo,noTxt,noTxt,noTxt,Pt.zero,[]⟩:Cmd) Ph.zero none 0) rfl;rw[←hX];have bU:=hide hX1;have bJ:=hide bz;clear hX hX1 hX2 bz cO))
 refine bodyPost_ret (v:= .tuple #[.agg (cmdVs (⟨3,repo,noTxt,noTxt,noTxt,Pt.zero,[]⟩:Cmd) Ph.zero none 0).toArray,.bool false]) (fP Tryz.results50 rfl rfl bU.out rfl) rfl ⟨bJ.out,_,_,_,_,false,rfl,fun h=>?_,fun h=>?_⟩
 ·cases h
 ·exact dh.out
theorem xy{S:Nat→Prop}{w:World}{A:Option Addr}{c n:Nat}{l:List UInt8}{p:Pt}(hb:BytesIn S w A l)(hn:l.length=n)(hc:n≤c)(hc2:c≤9223372036854775807)(hl:n≤lid)(htab:TabOk w)(hf:PtFit p)(ho:PtOk p)(he:l=ptB p):
  Calls Tryz.prog 169 #[.slice A n c] w fun e w'=>Below w.heap.size w w'∧∃x:Ph,e = .returned (.tuple #[.agg #[.int .u8 p.kind,.string p.file,.string p.text,.int .i64 p.hunk.at_,.slice x.h.oA p.hunk.old.length x.h.oc,.slice x.h.nA p.hunk.new.length x.h.nc,.int .u8 p.edit.kind,.slice x.e.pA p.edit.path.length x.e.pc,.int .i64 p.edit.at_,.int .i64 p.edit.far,.string p.edit.frm,.string p.edit.to,.slice x.e.oA p.edit.old.len x.e.oc,.slice x.e.nA p.edit.new.len x.e.nc],.int .i64 0])∧PtIn (fun b=>w.heap.size<b) w' x p∧∃L,PtO w' x p L∧L.Nodup∧∀b∈L,w.heap.size<b:=by
 subst hn;refine(get_any hb hc hc2 hl htab).mono ?_;rintro e w' ⟨hB,⟨q,x,e1,e2,e3,e4,e5⟩|⟨hno,_⟩⟩
 ·have hpq:=(G6 hf e2 ho.bare e3.bare (x:=[]) (y:=[]) (by rw[List.append_nil,List.append_nil,←he,e1])).1;subst hpq;exact⟨hB,x,e4,e5⟩
 ·exact absurd ⟨p,hf,ho,he⟩ hno
theorem AX{S:Nat→Prop}{w:World}{A:Option Addr}{c n:Nat}{l:List UInt8}(hb:BytesIn S w A l)(hn:l.length=n)(hc:n≤c)(hc2:c≤9223372036854775807)(hl:n≤lid)(htab:TabOk w)(hno :¬PatAt l):
  Calls Tryz.prog 169 #[.slice A n c] w fun e w'=>Below w.heap.size w w'∧e = .returned (.tuple #[.agg #[.int .u8 0,.string {data:=#[]},.string {data:=#[]},.int .i64 0,.slice none 0 0,.slice none 0 0,.int .u8 0,.slice none 0 0,.int .i64 0,.int .i64 0,.string {data:=#[]},.string {data:=#[]},.slice none 0 0,.slice none 0 0],.int .i64 4]):=by
 subst hn;refine(get_any hb hc hc2 hl htab).mono ?_;rintro e w' ⟨hB,⟨q,x,e1,e2,e3,_⟩|⟨_,h⟩⟩
 ·exact absurd ⟨q,e2,e3,e1⟩ hno
 ·exact⟨hB,h⟩
end
section
open Go.RowKit
section
variable {w w' : World} {B bb : Nat}
theorem uU{e size n:Nat}{v:Value}{xs:List Value}(h:w.ownsRow 0 e size v n xs)(hB :∀b∈ob v,B≤b):w.ownsRow B e size v n xs:=by
 refine⟨h.1,?_⟩;rcases h.2 with hn|⟨g,cap,cur,rfl,_,rest⟩
 ·exact .inl hn
 ·exact .inr ⟨g,cap,cur,rfl,hB g (fA.2 rfl),rest⟩
theorem FoR.allC :∀{f:Fo} {vs:List Value} {R:List (Value×Nat)},FoR w vs f R→R.length=f.cnt∧∀r∈R,r.2≤f.cnt∧∃A c xs,r.1 = .slice A r.2 c∧w.ownsRow 0 218 4 r.1 r.2 xs:=by
 intro f
 induction f with
 | nil=>rintro vs R ⟨_,rfl⟩;exact⟨rfl,fun r hr=>by cases hr⟩
 | cons k t n ks r ihk ihr =>
  rintro vs R ⟨KA,c,vs',ys,R1,R2,rfl,h1,h2,h3,h4,rfl⟩;obtain⟨a1,a2⟩:=ihk h3;obtain⟨b1,b2⟩:=ihr h4;have hl:=Fo.len_le_cnt ks;refine⟨by simp only[List.length_cons,aJ,Fo.cnt];omega,fun x hx=>?_⟩;rcases List.mem_cons.1 hx with rfl|hx
  ·exact⟨by simp only[Fo.cnt];omega,KA,c,ys,rfl,h2⟩
  ·rcases List.mem_append.1 hx with hx|hx
   ·obtain⟨q1,q2⟩:=a2 x hx;exact⟨by simp only[Fo.cnt];omega,q2⟩
   ·obtain⟨q1,q2⟩:=b2 x hx;exact⟨by simp only[Fo.cnt];omega,q2⟩
structure PItOwnC(it:PIt)(w:World)(B M:Nat)(L:List Nat):Prop where
 ints:OwnL 3 1 B (it.rows 2) w
 texts:OwnL 9 1 B (it.rows 4) w
 nodes:OwnL 218 4 B (it.rows 9) w
 sub :∀j,((it.rows j).flatMap ob).Sublist L
 len :∀j,(it.rows j).length≤2*M+2
 small :∀j,∀v∈it.rows j,lenV v≤M
theorem PtO.itemC{x:Ph}{p:Pt}{L:List Nat}{M:Nat}(h:PtO w x p L)(hB :∀b∈L,B≤b)(hM:p.hunk.old.length≤M∧p.hunk.new.length≤M∧p.edit.path.length≤M∧p.edit.old.cnt≤M∧p.edit.new.cnt≤M):
  ∃it:PIt,it.x=x∧it.p=p∧(∀bb,(∀b∈L,b<bb)→it.ok w bb)∧PItOwnC it w B M L:=by
 obtain⟨L1,L2,⟨LA,LB,hA,hN,rfl⟩,⟨Lp,_,_,hp,⟨vo,Ro,o1,o2,rfl,_⟩,⟨vn,Rn,n1,n2,rfl,_⟩,rfl⟩,rfl⟩:=h;obtain⟨hA1,rfl⟩:=hA;obtain⟨hN1,rfl⟩:=hN;obtain⟨hp1,rfl⟩:=hp;obtain⟨m1,m2,m3,m4,m5⟩:=hM;obtain⟨r1,r2⟩:=o2.allC;obtain⟨s1,s2⟩:=n2.allC;have hol:=Fo.len_le_cnt p.edit.old;have hnl:=Fo.len_le_cnt p.edit.new;simp only[List.mem_append]at hB;refine⟨⟨x,p,vo,Ro,vn,Rn⟩,rfl,rfl,fun bb hb=>?_,?_⟩
 ·simp only[List.mem_append]at hb;exact⟨o1,o2,n1,n2,fun b h=>hb b (by simp only[List.mem_append]at h;rcases h with h|h<;>simp[h]),fun b h=>hb b (by simp only[List.mem_append]at h;rcases h with h|h<;>simp[h])⟩
 ·have hR :∀{R:List (Value×Nat)},R.flatMap (fun r=>ob r.1)=(R.map Prod.fst).flatMap ob:=fun{R}=>kH R;refine⟨fun v hv=>?_,fun v hv=>?_,fun v hv=>?_,fun j=>?_,fun j=>?_,fun j v hv=>?_⟩
  ·simp only[PIt.rows,if_pos,List.mem_singleton]at hv;subst hv;exact⟨_,_,_,_,rfl,uU hp1 fun b hb=>hB b (by simp[hb])⟩
  ·simp[PIt.rows]at hv;rcases hv with rfl|rfl
   ·exact⟨_,_,_,_,rfl,uU hA1 fun b hb=>hB b (by simp[hb])⟩
   ·exact⟨_,_,_,_,rfl,uU hN1 fun b hb=>hB b (by simp[hb])⟩
  ·simp only[PIt.rows]at hv;simp only[show¬(9:Nat)=2 by decide,show¬(9:Nat)=4 by decide,if_false,if_true,List.mem_append,List.mem_cons,List.mem_map]at hv;rcases hv with(rfl|⟨r,hr,rfl⟩)|(rfl|⟨r,hr,rfl⟩)
   ·exact⟨_,_,_,_,rfl,uU o1 fun b hb=>hB b (by simp[hb])⟩
   ·obtain⟨_,A,c,xs,e,ho⟩:=r2 r hr;exact⟨A,r.2,c,xs,e,uU ho fun b hb=>hB b (.inr (.inr (.inl (.inr (List.mem_flatMap.2 ⟨r,hr,hb⟩)))))⟩
   ·exact⟨_,_,_,_,rfl,uU n1 fun b hb=>hB b (by simp[hb])⟩
   ·obtain⟨_,A,c,xs,e,ho⟩:=s2 r hr;exact⟨A,r.2,c,xs,e,uU ho fun b hb=>hB b (.inr (.inr (.inr (.inr (List.mem_flatMap.2 ⟨r,hr,hb⟩)))))⟩
  ·by_cases h2:j=2
   ·subst h2;simp only[PIt.rows,if_true,List.flatMap_cons,List.flatMap_nil,List.append_nil];exact(List.sublist_append_left _ _).trans (List.sublist_append_right _ _)
   ·by_cases h4:j=4
    ·subst h4;simp only[PIt.rows,if_neg h2,if_true,List.flatMap_cons,List.flatMap_nil,List.append_nil];exact List.sublist_append_left _ _
    ·by_cases h9:j=9
     ·subst h9;simp only[PIt.rows,if_neg h2,if_neg h4,if_true,List.flatMap_append,List.flatMap_cons,←kH];exact(List.sublist_append_right _ _).trans (List.sublist_append_right _ _)
     ·simp[PIt.rows,h2,h4,h9]
  ·by_cases h2:j=2
   ·simp[PIt.rows,h2]
   ·by_cases h4:j=4
    ·simp[PIt.rows,h4]
    ·by_cases h9:j=9
     ·simp[PIt.rows,h9];omega
     ·simp[PIt.rows,h2,h4,h9]
  ·by_cases h2:j=2
   ·simp[PIt.rows,h2]at hv;subst hv;exact m3
   ·by_cases h4:j=4
    ·simp[PIt.rows,h4]at hv;rcases hv with rfl|rfl
     ·exact m1
     ·exact m2
    ·by_cases h9:j=9
     ·subst h9;simp only[PIt.rows,if_neg h2,if_neg h4,if_true,List.mem_append,List.mem_cons,List.mem_map]at hv;rcases hv with(rfl|⟨r,hr,rfl⟩)|(rfl|⟨r,hr,rfl⟩)
      ·exact aI hol m4
      ·obtain⟨q,A,c,xs,e,_⟩:=r2 r hr;rw[e];exact aI q m4
      ·exact aI hnl m5
      ·obtain⟨q,A,c,xs,e,_⟩:=s2 r hr;rw[e];exact aI q m5
     ·simp[PIt.rows,h2,h4,h9]at hv
theorem OwnL.appC{E:TypeId}{s:Nat}{l l':List Value}(h:OwnL E s B l w)(h':OwnL E s B l' w):OwnL E s B (l++l') w:=fun v hv=>(List.mem_append.1 hv).elim (h v) (h' v)
theorem OwnL.voidC{E:TypeId}{s:Nat}:OwnL E s B [] w:=fun v hv=>by cases hv
end
theorem sN{l:List Value}{M:Nat}(h :∀v∈l,lenV v≤M)(i:Nat)(hi:i<l.length):nsOf l i≤M:=by
 rw[nsOf,D5 hi];exact h _ (List.getElem_mem hi)
theorem OwnL.lowC{w w':World}{E:TypeId}{s B bb:Nat}{l:List Value}(h:OwnL E s B l w)(hl :∀v∈l,∀b∈ob v,b<bb)(hB:Below bb w w'):OwnL E s B l w':=fun v hv=>by
 obtain⟨A,n,c,xs,e,ho⟩:=h v hv;exact⟨A,n,c,xs,e,oN ho fun g hg=>hB.block g (hl v hv g (fA.2 hg))⟩
theorem OwnL.ltC{w:World}{E:TypeId}{s B:Nat}{l:List Value}(h:OwnL E s B l w):∀v∈l,∀b∈ob v,b<w.heap.size:=fun v hv b hb=>by
 obtain⟨A,n,c,xs,e,ho⟩:=h v hv;exact(ho.lt b (fA.1 hb)).2
end
end Go.Proofs.YtjjaojnglnpgaaaGreatDoor
