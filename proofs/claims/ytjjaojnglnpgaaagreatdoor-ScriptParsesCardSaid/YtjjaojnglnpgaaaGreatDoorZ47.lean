/- Part 48. -/
import Derived.Test.YtjjaojnglnpgaaaGreatDoorZ38
import Derived.Test.YtjjaojnglnpgaaaGreatDoorZ26
import Derived.Test.YtjjaojnglnpgaaaGreatDoorZ10
import Derived.Test.YtjjaojnglnpgaaaGreatDoorZ40
import Derived.Test.YtjjaojnglnpgaaaGreatDoorZ46
import Derived.Test.YtjjaojnglnpgaaaGreatDoorZ41
import Derived.Test.YtjjaojnglnpgaaaGreatDoorZ28
import Derived.Test.YtjjaojnglnpgaaaGreatDoorZ39
import Derived.Test.YtjjaojnglnpgaaaGreatDoorZ03
import Derived.Test.YtjjaojnglnpgaaaGreatDoorZ00
set_option linter.unusedVariables false
set_option linter.unusedSimpArgs false
set_option maxHeartbeats 16000000
set_option maxRecDepth 1000000
namespace Go.Proofs.YtjjaojnglnpgaaaGreatDoor
section
open Go.RowKit
theorem Z5{w:World}{g m k c:Nat}{f t:ByteArray}{mid:List ByteArray}(h:BWs w g m k c f t mid)(hf:f=kwRecord∨f=kwImport)(hu:unhexL t.data.toList=none):Calls Tryz.prog 121 #[.slice (some ⟨g,0,none⟩) m c] w (LineP (f::(mid++[t])) w):=by
 have dh:=hide (TU (mid:=mid) hf (.inl hu));have hwk:IntKind.i64.wrap ((m:Int)-1)=(k:Int):=by have:=h.ek;have:=h.em;have:=h.mm;rw[IntKind.wrap_i64];omega
 have Jy:k<m:=by have:=h.ek;have:=h.em;omega
 have hk1:1≤k:=by have:=h.ek;omega
 have hmc:=h.mc;have hcm:=h.cm;have kl:=h.last;have hst:=h.st;have HU:Hid (∀W,Calls Tryz.prog 186 #[.string t] W fun e w'=>e = .returned (.tuple #[.slice none 0 0,.bool false])∧Below W.heap.size W w'):=hide fun W=>(Cm t (by omega) W).mono fun e w' h=>⟨h.2.1 hu,h.1⟩;have HZ0:=hide (fK w);have Fe:=((ag w (.cells zeroL.toArray 46)).cell (p:=⟨g,k,none⟩) h.lt).trans kl;clear hf hu hst h kl;go_enter Tryz.func121,Tryz.ntmps121
 go_wp2_with(first
  | (go_at_call 186;(with_reducible refine(HU.out _).mono ?_);rintro e1 w1 ⟨rfl,hB1⟩;have HZ1:=hide (HZ0.out.next hB1);clear hB1)
  | (refine wpList_store_mid rfl _ _ _ rfl w.heap.size 0 zeroL.toArray rfl rfl HZ1.out.ct aZ uP ?_;obtain⟨X,hX,hX1,hX2,bz,cO⟩:=HZ1.out.stored zeroL rfl;rw[←hX];have bU:=hide hX1;have bJ:=hide bz;clear hX hX1 hX2 bz cO))
 refine bodyPost_ret (v:= .tuple #[.agg zeroVs.toArray,.bool false]) (fP Tryz.results121 rfl rfl bU.out rfl) rfl ⟨bJ.out,_,_,_,_,false,rfl,fun h=>(by cases h),fun h=>dh.out⟩
theorem Z7{w:World}{g m k c:Nat}{f t:ByteArray}{mid:List ByteArray}(h:BWs w g m k c f t mid){b:List UInt8}(hf:f=kwRecord∨f=kwImport)(hu:unhexL t.data.toList=some b)(hall:mid.all isWord=false):Calls Tryz.prog 121 #[.slice (some ⟨g,0,none⟩) m c] w (LineP (f::(mid++[t])) w):=by
 have dh:=hide (TU (t:=t) hf (.inr hall));have hwk:IntKind.i64.wrap ((m:Int)-1)=(k:Int):=by have:=h.ek;have:=h.em;have:=h.mm;rw[IntKind.wrap_i64];omega
 have Jy:k<m:=by have:=h.ek;have:=h.em;omega
 have hk1:1≤k:=by have:=h.ek;omega
 have hmc:=h.mc;have hcm:=h.cm;have kl:=h.last;have hst:=h.st;have HU:Hid (∀W,Calls Tryz.prog 186 #[.string t] W fun e w'=>∃v,e = .returned (.tuple #[v,.bool true])∧w'.ownsRow W.heap.size 5 1 v b.length (Lib.byteCells b)∧Below W.heap.size W w'):=hide fun W=>(Cm t (by omega) W).mono fun e w' h=>by obtain⟨v,h1,h2⟩:=h.2.2 b hu;exact⟨v,h1,h2,h.1⟩
 have HZ0:=hide (fK w);have HH:=hide (h.below (ag w (.cells zeroL.toArray 46)));have Fe:=((ag w (.cells zeroL.toArray 46)).cell (p:=⟨g,k,none⟩) h.lt).trans kl;have ah:=hide hall;clear hu hst kl hall;clear hf h;go_enter Tryz.func121,Tryz.ntmps121
 go_wp2_with(first
  | (go_at_call 186;(with_reducible refine(HU.out _).mono ?_);rintro e1 w1 ⟨v1,rfl,ho1,hB1⟩;obtain⟨A1,n1,rfl⟩:=bM ho1;have bC:=hide ho1;have HZ1:=hide (HZ0.out.next hB1);have dM:=hide (HH.out.below hB1);have hg1:g<w1.heap.size:=dM.out.lt;clear ho1 hB1)
  | (go_at_call 122;(with_reducible refine(dM.out.words _).mono ?_);rintro e2 w2 ⟨rfl,rfl⟩;rw[ah.out])
  | (refine wpList_store_mid rfl _ _ _ rfl w.heap.size 0 zeroL.toArray rfl rfl HZ1.out.ct aZ uP ?_;obtain⟨X,hX,hX1,hX2,bz,cO⟩:=HZ1.out.stored zeroL rfl;rw[←hX];have bU:=hide hX1;have bJ:=hide bz;clear hX hX1 hX2 bz cO))
 refine bodyPost_ret (v:= .tuple #[.agg zeroVs.toArray,.bool false]) (fP Tryz.results121 rfl rfl bU.out rfl) rfl ⟨bJ.out,_,_,_,_,false,rfl,fun h=>(by cases h),fun h=>dh.out⟩
theorem nG{w:World}{g m k c:Nat}{t y:ByteArray}{mid:List ByteArray}(h:BWs w g m k c kwImport t mid){b:List UInt8}(hy:(mid++[t])[0]?=some y)(hu:unhexL t.data.toList=some b)(hall:mid.all isWord=true):Calls Tryz.prog 121 #[.slice (some ⟨g,0,none⟩) m c] w (LineP (kwImport::(mid++[t])) w):=by
 have hlo:m=3→lineOf (kwImport::(mid++[t]))=some (⟨9,y,noTxt,noTxt,noTxt,Pt.zero,b⟩:Cmd):=fun e=>by
  rcases mid with _|⟨x,_|⟨z,r⟩⟩
  ·have:=h.em;simp at this;omega
  ·injection hy with hy;subst hy;simp only[List.all_cons,List.all_nil,Bool.and_true]at hall;rw[List.cons_append,List.nil_append,TT,hu,hall];rfl
  ·have:=h.em;simp at this;omega
 have hln:m≠3→lineOf (kwImport::(mid++[t]))=none:=fun e=>TS (by have:=h.em;simp;omega);have hsy:y.size≤1099511627776:=by
  rcases mid with _|⟨x,r⟩
  ·injection hy with hy;have:=h.st;rw[←hy];omega
  ·injection hy with hy;rw[←hy];exact h.sz _ (by simp)
 have dh:=hide hlo;have NH:=hide hln;have Z8:=hide hsy;have hat:=h.at_;have yU:Hid (∀W,BWs W g m k c kwImport t mid→W.cell? ⟨g,0,none⟩=some (.string {data:=#[105,109,112,111,114,116]})∧W.cell? ⟨g,1,none⟩=some (.string y)):=hide fun W hW=>⟨hW.at_ 0 _ rfl,hW.at_ 1 y hy⟩;obtain⟨bq,hbq⟩:∃bq,bq=((m:Int) == 3):=⟨_,rfl⟩;have hq:=hbq.symm;have sK:=hide hbq;have hwk:IntKind.i64.wrap ((m:Int)-1)=(k:Int):=by have:=h.ek;have:=h.em;have:=h.mm;rw[IntKind.wrap_i64];omega
 have Jy:k<m:=by have:=h.ek;have:=h.em;omega
 have hk1:1≤k:=by have:=h.ek;omega
 have hmc:=h.mc;have hcm:=h.cm;have kl:=h.last;have hst:=h.st;have HU:Hid (∀W,Calls Tryz.prog 186 #[.string t] W fun e w'=>∃v,e = .returned (.tuple #[v,.bool true])∧w'.ownsRow W.heap.size 5 1 v b.length (Lib.byteCells b)∧Below W.heap.size W w'):=hide fun W=>(Cm t (by omega) W).mono fun e w' h=>by obtain⟨v,h1,h2⟩:=h.2.2 b hu;exact⟨v,h1,h2,h.1⟩
 have HZ0:=hide (fK w);have HH:=hide (h.below (ag w (.cells zeroL.toArray 46)));have Fe:=((ag w (.cells zeroL.toArray 46)).cell (p:=⟨g,k,none⟩) h.lt).trans kl;have ah:=hide hall;clear hu hst kl hall;have hm2:2≤m:=by have:=h.em;omega
 clear hlo hln hsy hat hbq hy h;go_enter Tryz.func121,Tryz.ntmps121
 go_wp2_with(first
  | (go_at_call 186;(with_reducible refine(HU.out _).mono ?_);rintro e1 w1 ⟨v1,rfl,ho1,hB1⟩;obtain⟨A1,n1,rfl⟩:=bM ho1;have bC:=hide ho1;have HZ1:=hide (HZ0.out.next hB1);have dM:=hide (HH.out.below hB1);have hg1:g<w1.heap.size:=dM.out.lt;have k0:=(yU.out _ dM.out).1;have k1:=(yU.out _ dM.out).2;clear ho1 hB1)
  | (go_at_call 122;(with_reducible refine(dM.out.words _).mono ?_);rintro e2 w2 ⟨rfl,rfl⟩;rw[ah.out])
  | (refine wpList_store_mid rfl _ _ _ rfl w.heap.size 0 (cmdVs (⟨9,y,noTxt,noTxt,noTxt,Pt.zero,b⟩:Cmd) Ph.zero A1 n1).toArray rfl rfl HZ1.out.ct aZ (dL _ _ _ _) ?_;obtain⟨X,hX,hX1,hX2,bz,cO⟩:=HZ1.out.stored (cmdVs (⟨9,y,noTxt,noTxt,noTxt,Pt.zero,b⟩:Cmd) Ph.zero A1 n1) rfl;rw[←hX];have bU:=hide hX1;have gB:=hide hX2;have bJ:=hide bz;clear hX hX1 hX2 bz cO))
 refine bodyPost_ret (v:= .tuple #[.agg (cmdVs (⟨9,y,noTxt,noTxt,noTxt,Pt.zero,b⟩:Cmd) Ph.zero A1 n1).toArray,.bool bq]) (fP Tryz.results121 rfl rfl bU.out rfl) rfl ⟨bJ.out,_,_,_,_,bq,rfl,fun h=>?_,fun h=>?_⟩
 ·have gq:m=3:=by
   have h1:((m:Int) == 3)=true:=sK.out.symm.trans h;rw[beq_iff_eq]at h1;omega
  have ho:=bC.out;have h0:=uM ho;have hr:=vC h0 rfl;have hin:CmdIn (fun g=>w.heap.size+1≤g) w1 (⟨9,y,noTxt,noTxt,noTxt,Pt.zero,b⟩:Cmd) Ph.zero A1 n1:=⟨show 9<256 by decide,aI Z8.out (by decide),uK,uK,uK,MC,⟨xY h0 (fun g hg=>by have:=Jb ho g hg;simpa using this),aI hr.1 hr.2⟩,hr⟩;exact⟨dh.out gq,(hin.keep fun g hg=>gB.out.block g (by omega)).mono fun g _ hg=>by omega⟩
 ·have gq:m≠3:=by
   have h1:((m:Int) == 3)=false:=sK.out.symm.trans h;rw[aK]at h1;omega
  exact NH.out gq
theorem Z9{w:World}{g c:Nat}{repo n t:ByteArray}(h:BWs w g 4 3 c kwRecord t [repo,n]){b:List UInt8}{p:Pt}(hu:unhexL t.data.toList=some b)(hall:[repo,n].all isWord=true)(hp:patOf b=some p):Calls Tryz.prog 121 #[.slice (some ⟨g,0,none⟩) 4 c] w (LineP [kwRecord,repo,n,t] w):=by
 have hlo:lineOf [kwRecord,repo,n,t]=some (⟨2,repo,noTxt,n,noTxt,p,[]⟩:Cmd):=by
  simp only[List.all_cons,List.all_nil,Bool.and_true]at hall;rw[NY,hall,if_pos rfl,hu,Option.bind_some,hp];rfl
 have dh:=hide hlo;have Un:repo.size≤1099511627776∧n.size≤1099511627776:=⟨h.sz _ (by simp),h.sz _ (by simp)⟩;have Uo:=hide Un;have hbl:b.length≤lid:=by
  have h1:t.data.toList.length=t.size:=by rw[Array.length_toList];rfl
  have h2:=h.st;have h3:=congrArg List.length (xX _ _ hu);by_cases hb:b=[]
  ·subst hb;simp
  ·rw[hexL,if_neg hb,uX]at h3;show b.length≤1099511627776;omega
 have HG:Hid (∀{A n} W,(BytesIn (fun _=>True) W A b∧b.length≤n∧n≤9223372036854775807)→Calls Tryz.prog 187 #[.slice A b.length n] W fun e w'=>∃y,e = .returned (.tuple #[.agg (patCs p y).toArray,.int .i64 0])∧PtIn (fun b=>W.heap.size≤b) w' y p∧Below W.heap.size W w'):=hide fun W h=>TV h.1 h.2.1 h.2.2 hbl hp;have yU:Hid (∀W,BWs W g 4 3 c kwRecord t [repo,n]→W.cell? ⟨g,0,none⟩=some (.string {data:=#[114,101,99,111,114,100]})):=hide fun W hW=>hW.at_ 0 _ rfl;have hmc:=h.mc;have hcm:=h.cm;have kl:=h.last;have hst:=h.st;have HU:Hid (∀W,Calls Tryz.prog 186 #[.string t] W fun e w'=>∃v,e = .returned (.tuple #[v,.bool true])∧w'.ownsRow W.heap.size 5 1 v b.length (Lib.byteCells b)∧Below W.heap.size W w'):=hide fun W=>(Cm t (by omega) W).mono fun e w' h=>by obtain⟨v,h1,h2⟩:=h.2.2 b hu;exact⟨v,h1,h2,h.1⟩
 have HZ0:=hide (fK w);have HH:=hide (h.below (ag w (.cells zeroL.toArray 46)));have Fe:=((ag w (.cells zeroL.toArray 46)).cell (p:=⟨g,3,none⟩) h.lt).trans kl;have ah:=hide hall;clear hu hst kl hall;have Hg:=hide (h.lt);clear hlo hp h hbl Un;go_enter Tryz.func121,Tryz.ntmps121
 go_upto_region 9 with(first
  | (go_at_call 186;(with_reducible refine(HU.out _).mono ?_);rintro e1 w1 ⟨v1,rfl,ho1,hB1⟩;obtain⟨A1,n1,rfl⟩:=bM ho1;have bC:=hide ho1;have HZ1:=hide (HZ0.out.next hB1);have dM:=hide (HH.out.below hB1);have hg1:g<w1.heap.size:=dM.out.lt;have HR1:=hide (N7 (S:=fun _=>True) ho1 (fun _ _=>trivial));have k0:=yU.out _ dM.out;clear ho1 hB1)
  | (go_at_call 122;(with_reducible refine(dM.out.words _).mono ?_);rintro e2 w2 ⟨rfl,rfl⟩;rw[ah.out])
  | (go_at_call 187;(with_reducible refine(HG.out _ HR1.out).mono ?_);rintro e3 w3 ⟨y,rfl,hP3,hB3⟩;have HZ3:=hide (HZ1.out.next hB3);have jB:=hide (dM.out.below hB3);have hg3:g<w3.heap.size:=jB.out.lt;have BM:=hide hP3;clear hP3;have HB3:=hide hB3;clear hB3)
  | (refine wpList_store_mid rfl _ _ _ rfl w3.heap.size 0 (patCs p y).toArray rfl rfl (gU w3 zeroP _) Jw (NZ p y) ?_;obtain⟨V,hV,hV1,hV2,bG⟩:=iM w3 43 zeroP (patCs p y) rfl;rw[←hV];have uT:=hide (HZ3.out.next hV2);have sG:=hide (jB.out.below hV2);have dJ:=hide hV1;have dE:=hide hV2;have dX:=hide bG;clear hV hV1 hV2 bG))
 have jm:w3.heap.size≠w.heap.size:=by have:=HZ3.out.lt;omega
 have hneg:g≠w.heap.size:=by have:=dM.out.lt;have:=HZ3.out.lt;have h5:=Hg.out;omega
 have Hd1 :∀W,Keep (fun k=>k≠w.heap.size) V W→W.cell? ⟨g,1,none⟩=some (.string repo):=fun W hW=>(hW.cell (a:=⟨g,1,none⟩) hneg).trans (sG.out.at_ 1 _ rfl);have Hd2 :∀W,Keep (fun k=>k≠w.heap.size) V W→W.cell? ⟨g,2,none⟩=some (.string n):=fun W hW=>(hW.cell (a:=⟨g,2,none⟩) hneg).trans (sG.out.at_ 2 _ rfl);have Hdp :∀W,Keep (fun k=>k≠w.heap.size) V W→W.rangeAt w3.heap.size 0 (patCs p y):=fun W hW j v hv=>(hW.cell (a:=⟨w3.heap.size,0+j,none⟩) jm).trans (dJ.out j v hv);refine wp_region_held_drew (S:=Keep (fun k=>k≠w.heap.size) V) (by kernel_rfl) ((Keep.refl _ V).drew) (fun hHeld=>?_);have JQ:ZAt w V.drew:=uT.out.next (aO (Below.refl _ _) 1);generalize V.drew=wD at hHeld JQ⊢;refine ae 0 hHeld ?_;refine ae 1 hHeld ?_;refine tk (v:=?_) 2 hHeld ?_ ?_;rotate_left
 ·intro w' hSw;have d1:=Hd1 w' hSw
  first|(go_simp;done)|(go_simp;with_reducible rfl)
 try simp only[aA,aB]
 refine ae 3 hHeld ?_;refine ae 4 hHeld ?_;refine tk (v:=?_) 5 hHeld ?_ ?_;rotate_left
 ·intro w' hSw;have d2:=Hd2 w' hSw
  first|(go_simp;done)|(go_simp;with_reducible rfl)
 try simp only[aA,aB]
 refine tk (v:= .agg (patCs p y).toArray) 6 hHeld ?_ ?_
 ·intro w' hSw;exact yE (b:=w3.heap.size) (o:=0) rfl (by first|rfl|(go_simp;done)) (Hdp w' hSw) Tryz.underlying43 rfl Jw
 try simp only[aA,aB]
 refine ae 7 hHeld ?_;refine wpAnyH_ready (rs:=[8]) (by kernel_rfl) (by simp) ?_;refine AllReadyH.cons rfl (fun K hK=>?_) AllReadyH.nil;obtain⟨X,hX,hX1,hX2,bz,cO⟩:=JQ.stored (cmdVs (⟨2,repo,noTxt,n,noTxt,p,[]⟩:Cmd) y none 0) rfl;refine Sz rfl 46 _ _ rfl w.heap.size 0 (cmdVs (⟨2,repo,noTxt,n,noTxt,p,[]⟩:Cmd) y none 0).toArray (by first|rfl|(go_simp;done)) (by first|rfl|(go_simp;done)) JQ.ct aZ (dL _ _ _ _) ?_;rw[←hX];have hS:Keep (fun k=>k≠w.heap.size) V X:=hHeld.trans hX2;have bU:=hide hX1;have bJ:=hide bz;have HS:=hide hS;clear hX hX1 hX2 bz cO JQ;refine hK.out _ _ hS (fun hHeld=>?_);clear hK K
 try simp only[Act.put,aG,aE,aF,aD,aA,aB]
 refine ae 9 hHeld ?_;refine wpAnyH_done (by kernel_rfl) ?_ _
 try simp only[Act.put,aG,aE,aF,aD,aA,aB]
 go_wp2_with fail
 refine bodyPost_ret (v:= .tuple #[.agg (cmdVs (⟨2,repo,noTxt,n,noTxt,p,[]⟩:Cmd) y none 0).toArray,.bool true]) (fP Tryz.results121 rfl rfl bU.out rfl) rfl ⟨bJ.out,_,_,_,_,true,rfl,fun h=>⟨dh.out,?_⟩,fun h=>(by cases h)⟩;have h1:=HZ1.out.lt;have h3:=HB3.out.size;have hin:PtIn (fun b=>w.heap.size+1≤b) X y p:=((BM.out.below dE.out).mono (S':=fun b=>w.heap.size+1≤b) (fun b _ hb=>by omega)).keep fun b hb=>HS.out.block b (by omega);exact⟨show 2<256 by decide,aI Uo.out.1 (by decide),uK,aI Uo.out.2 (by decide),uK,hin.mono fun b _ hb=>by omega,⟨.nil,Nat.zero_le _⟩,aC _,Nat.zero_le _⟩
theorem LnIn.puts{D:Nat→Prop}{N:Nat}{w:World}{l:List ByteArray}{vs:List Value}(h:LnIn D N w l vs)(o:Nat)(us:List Value)(ho:o+us.length≤20):
  LnIn D N (w.setCells N (1+o) us) l (vs.take o++us++vs.drop (o+us.length)):=by
 obtain⟨⟨⟨A,c,h1,h2,h3⟩,h4,h5⟩,h6,h7,h8⟩:=h;have hf :∀a,(w.setCells N (1+o) us).frozen? a=w.frozen? a:=fun a=>World.frozen?_setCells N us (1+o) w a;have hlo:(vs.take o).length=o:=by rw[List.length_take];omega
 refine⟨⟨⟨A,c,(World.cell?_setCells_out N us (1+o) w ⟨N,0,none⟩ (fun _ _=> .inl (by show 0<1+o;omega))).trans h1,h2.keep (fun b hb=>(qo N (P:=fun k=>k≠N) (fun h=>h rfl) us (1+o) w).block b (h5 b hb)),h3⟩,(hf _).trans h4,h5⟩,
  by simp only[aJ,List.length_take,List.length_drop];omega,fun j u hj=>?_,fun q=>(hf _).trans (h8 q)⟩
 by_cases c1:j<o
 ·rw[World.cell?_setCells_out N us (1+o) w ⟨N,1+j,none⟩ (fun _ _=> .inl (by show 1+j<1+o;omega))];rw[List.append_assoc,List.getElem?_append_left (by omega),List.getElem?_take,if_pos c1]at hj;exact h7 j u hj
 ·by_cases c2:j<o+us.length
  ·have h:=World.cell?_setCells_in N us (1+o) w (fun i hi=>by
    have e:vs[o+i]?=some (vs[o+i]'(by omega)):=List.getElem?_eq_getElem (by omega);rw[show 1+o+i=1+(o+i)by omega,h7 _ _ e];rfl) (j-o) (by omega)
   rw[show 1+o+(j-o)=1+j by omega]at h;rw[h];rw[List.append_assoc,List.getElem?_append_right (by omega),hlo,List.getElem?_append_left (by omega),List.getElem?_eq_getElem (by omega)]at hj;exact hj
  ·rw[World.cell?_setCells_out N us (1+o) w ⟨N,1+j,none⟩ (fun _ _=> .inr (by show 1+o+us.length≤1+j;omega))];rw[List.append_assoc,List.getElem?_append_right (by omega),hlo,List.getElem?_append_right (by omega),List.getElem?_drop]at hj;rw[show o+us.length+(j-o-us.length)=j by omega]at hj;exact h7 j u hj
theorem tN:(Tryz.prog.info? 43).map (·.size)=some 14:=by kernel_rfl
theorem O3{N:Nat}{w w1 w2:World}(h:SideN N w w1)(h':SideN N w1 w2):SideN N w w2:=h.trans (h'.mono fun k hk=>⟨aH hk.1 h.size,hk.2⟩)
theorem zj6{t b:List UInt8}(h:unhexL t=some b):2*b.length≤t.length∨b=[]:=by
 have h1:=xX t b h;unfold hexL at h1;split at h1
 ·rename_i e;exact .inr e
 ·rw[←h1,uX];exact .inl (aC _)
theorem Ur{w:World}{B:Nat}{v:Value}{l:List UInt8}(h:w.ownsRow B 5 1 v l.length (Lib.byteCells l)):∃A c,v = .slice A l.length c∧BytesIn (fun _=>True) w A l∧l.length≤c∧c≤9223372036854775807:=by
 have h0:=uM h;obtain⟨A,c,rfl⟩:=bM h0;have hr:=vC h0 rfl;exact⟨A,c,rfl,⟨xY h0 fun _ _=>trivial,aI hr.1 hr.2⟩,hr⟩
theorem Us{D:Nat→Prop}{N:Nat}{w:World}{l:List ByteArray}{vs:List Value}(h:LnIn D N w l vs)(hs :∀s r,l=s::r→isWord s=false):
  Calls Tryz.prog 106 #[.pointer (some ⟨N,0,none⟩)] w fun e w'=>e=nones∧SideN N w w':=by
 have H:=hide h;clear h;go_enter Tryz.func106,Tryz.ntmps106
 go_wp2_with(go_at_call 77;(with_reducible refine(Ja H.out.wd hs).mono ?_);rintro e1 w1 ⟨rfl,h1⟩)
 exact⟨rfl,rfl,h1⟩
theorem zj7{D:Nat→Prop}{N:Nat}{w:World}{n:ByteArray}{vs:List Value}(h:LnIn D N w [n] vs)(hn:isWord n=true):
  Calls Tryz.prog 106 #[.pointer (some ⟨N,0,none⟩)] w fun e w'=>e=nones∧SideN N w w':=by
 have H:=hide h;clear h;go_enter Tryz.func106,Tryz.ntmps106
 go_wp2_with(first
  | (go_at_call 77;(with_reducible refine(lX H.out.wd hn).mono ?_);rintro e1 w1 ⟨rfl,h1,u,hu⟩;have h2:=H.out.take hu h1;obtain⟨x,hc⟩:=h2.cellAt 4 (by decide);have hf:=h2.free 4;have H2:=hide (h2.put (j:=3) (by decide) (.string n));have HS2:Hid (SideN N w (w1.setCell ⟨N,4,none⟩ (.string n))):=hide (by rw[hu];exact((Keep.refl _ w).setCell (fun hk=>hk.2 rfl) u).setCell (fun hk=>hk.2 rfl) _);clear h1 h2 hu)
  | (go_at_call 170;(with_reducible refine(QP H2.out.wd).mono ?_);rintro e2 w2 ⟨rfl,rfl⟩))
 exact⟨rfl,rfl,HS2.out⟩
theorem zj8{D:Nat→Prop}{N:Nat}{w:World}{n t:ByteArray}{r:List ByteArray}{vs:List Value}(h:LnIn D N w (n::t::r) vs)(hn:isWord n=true)(hu:unhexL t.data.toList=none)(hl:t.size≤1099511627776):
  Calls Tryz.prog 106 #[.pointer (some ⟨N,0,none⟩)] w fun e w'=>e=nones∧SideN N w w':=by
 have H:=hide h;have HU:=hide hu;clear h hu;go_enter Tryz.func106,Tryz.ntmps106
 go_wp2_with(first
  | (go_at_call 77;(with_reducible refine(lX H.out.wd hn).mono ?_);rintro e1 w1 ⟨rfl,h1,u,hu⟩;have h2:=H.out.take hu h1;obtain⟨x,hc⟩:=h2.cellAt 4 (by decide);have hf:=h2.free 4;have H2:=hide (h2.put (j:=3) (by decide) (.string n));have HS2:Hid (SideN N w (w1.setCell ⟨N,4,none⟩ (.string n))):=hide (by rw[hu];exact((Keep.refl _ w).setCell (fun hk=>hk.2 rfl) u).setCell (fun hk=>hk.2 rfl) _);clear h1 h2 hu)
  | (go_at_call 170;(with_reducible refine(QL H2.out.wd HU.out hl).mono ?_);rintro e2 w2 ⟨rfl,u2,hB2⟩;have HB2:=hide hB2;clear hB2))
 exact⟨rfl,rfl,O3 HS2.out (D7 HB2.out)⟩
theorem zj9{D:Nat→Prop}{N:Nat}{w:World}{n t:ByteArray}{r:List ByteArray}{vs:List Value}{b:List UInt8}(h:LnIn D N w (n::t::r) vs)(ht:TabFar N w)(hn:isWord n=true)(hu:unhexL t.data.toList=some b)(hl:t.size≤1099511627776)(hb:b.length≤lid)(hno :¬PatAt b):
  Calls Tryz.prog 106 #[.pointer (some ⟨N,0,none⟩)] w fun e w'=>e=nones∧SideN N w w':=by
 have H:=hide h;have HU:=hide hu;have HT:=hide ht;have hNw:=h.lt;clear h hu ht;go_enter Tryz.func106,Tryz.ntmps106
 go_wp2_with(first
  | (go_at_call 77;(with_reducible refine(lX H.out.wd hn).mono ?_);rintro e1 w1 ⟨rfl,h1,u,hu⟩;have h2:=H.out.take hu h1;obtain⟨x,hc⟩:=h2.cellAt 4 (by decide);have hf:=h2.free 4;have H2:=hide (h2.put (j:=3) (by decide) (.string n));have HS2:Hid (SideN N w (w1.setCell ⟨N,4,none⟩ (.string n))):=hide (by rw[hu];exact((Keep.refl _ w).setCell (fun hk=>hk.2 rfl) u).setCell (fun hk=>hk.2 rfl) _);clear h1 h2 hu)
  | (go_at_call 170;(with_reducible refine(LG H2.out.wd HU.out hl).mono ?_);rintro e2 w2 ⟨v,rfl,ho,h3,u2,hB2⟩;have hr:=Ur ho;obtain⟨Av,cv,rfl,hby,hcv1,hcv2⟩:=hr;have O4:=hide hby;have dF:Hid (SideN N w w2):=hide (O3 HS2.out (D7 hB2));clear ho h3 hB2 hby)
  | (go_at_call 169;(with_reducible refine(AX O4.out rfl hcv1 hcv2 hb (HT.out.side dF.out).tab hno).mono ?_);rintro e3 w3 ⟨hB3,rfl⟩;have HB3:=hide hB3;clear hB3)
  | (go_at_call 78;(with_reducible refine(yl rfl _).mono ?_);rintro e4 w4 ⟨rfl,rfl⟩))
 refine⟨rfl,rfl,?_⟩;have hz:=dF.out.size;have h4:SideN N w w3:=dF.out.trans (Keep.of_below HB3.out fun k hk=>by omega);have hz3:=h4.size;exact h4.alloc (fun k hk=>hk.1) _
abbrev patVs(p:Pt)(y:Ph):List Value:=[.int .u8 p.kind,.string p.file,.string p.text,.int .i64 p.hunk.at_,.slice y.h.oA p.hunk.old.length y.h.oc,.slice y.h.nA p.hunk.new.length y.h.nc,.int .u8 p.edit.kind,.slice y.e.pA p.edit.path.length y.e.pc,.int .i64 p.edit.at_,.int .i64 p.edit.far,.string p.edit.frm,.string p.edit.to,.slice y.e.oA p.edit.old.len y.e.oc,.slice y.e.nA p.edit.new.len y.e.nc]
theorem xE(p:Pt)(y:Ph):(patVs p y).toArray.all (·.oneCell')=true:=all_oneCell_toArray (cs:=patVs p y) (by
 intro v hv;simp only[patVs,List.mem_cons,List.not_mem_nil,or_false]at hv;rcases hv with rfl|rfl|rfl|rfl|rfl|rfl|rfl|rfl|rfl|rfl|rfl|rfl|rfl|rfl<;>rfl)
theorem zka{D:Nat→Prop}{N:Nat}{w:World}{n t:ByteArray}{r:List ByteArray}{vs:List Value}{b:List UInt8}{p:Pt}(h:LnIn D N w (n::t::r) vs)(ht:TabFar N w)(hn:isWord n=true)(hu:unhexL t.data.toList=some b)(hl:t.size≤1099511627776)(hb:b.length≤lid)(hf:PtFit p)(ho:PtOk p)(hp:b=ptB p):
  Calls Tryz.prog 106 #[.pointer (some ⟨N,0,none⟩)] w fun e w'=>e = .returned (.tuple #[])∧∃y:Ph,LnIn D N w' r ((vs.set 3 (.string n)).take 5++patVs p y++(vs.set 3 (.string n)).drop 19)∧
   PtIn (fun b=>w.heap.size<b) w' y p∧(∃L,PtO w' y p L∧L.Nodup∧∀b∈L,w.heap.size<b)∧SideN N w w':=by
 have H:=hide h;have HU:=hide hu;have HT:=hide ht;have HF:=hide hf;have HO:=hide ho;have HP:=hide hp;have hNw:=h.lt;clear h hu ht hf ho hp;go_enter Tryz.func106,Tryz.ntmps106
 go_wp2_with(first
  | (go_at_call 77;(with_reducible refine(lX H.out.wd hn).mono ?_);rintro e1 w1 ⟨rfl,h1,u,hu⟩;have h2:=H.out.take hu h1;obtain⟨x,hc⟩:=h2.cellAt 4 (by decide);have hf:=h2.free 4;have H2:=hide (h2.put (j:=3) (by decide) (.string n));have HS2:Hid (SideN N w (w1.setCell ⟨N,4,none⟩ (.string n))):=hide (by rw[hu];exact((Keep.refl _ w).setCell (fun hk=>hk.2 rfl) u).setCell (fun hk=>hk.2 rfl) _);clear h1 h2 hu)
  | (go_at_call 170;(with_reducible refine(LG H2.out.wd HU.out hl).mono ?_);rintro e2 w2 ⟨v,rfl,ho,h3,u2,hB2⟩;have hr:=Ur ho;obtain⟨Av,cv,rfl,hby,hcv1,hcv2⟩:=hr;have O4:=hide hby;have dF:Hid (SideN N w w2):=hide (O3 HS2.out (D7 hB2));have H3:=hide (H2.out.taken hB2 h3);clear ho h3 hB2 hby)
  | (go_at_call 169;(with_reducible refine(xy O4.out rfl hcv1 hcv2 hb (HT.out.side dF.out).tab HF.out HO.out HP.out).mono ?_);rintro e3 w3 ⟨hB3,y,rfl,hy,L,hL,hnd,hLb⟩;have HB3:=hide hB3;have HY:=hide hy;have HL:=hide hL;have Hnd:=hide hnd;have Ut:=hide hLb;have H4:=hide (H3.out.below hB3);clear hB3 hy hL hnd hLb)
  | (go_at_call 78;(with_reducible refine(yj rfl _).mono ?_);rintro e4 w4 ⟨rfl,rfl⟩)
  | (refine wpList_load_mid rfl _ _ rfl w3.heap.size 0 rfl (patVs p y) _ (yL w3 (patVs p y) _) Tryz.underlying43 rfl tN ?_)
  | (refine wpList_store_mid rfl _ _ _ rfl N 6 (patVs p y).toArray rfl rfl (fun j hj=>?_) tN (xE p y) ?_))
 ·have h5:=H4.out.below (ag w3 (.cells (patVs p y).toArray 43));have hj':j<14:=hj;obtain⟨z,hz⟩:=h5.cellAt (6+j) (by omega);exact⟨by rw[show(w3.alloc _).cell? ⟨N,6+j,none⟩=some z from hz];rfl,h5.free _⟩
 ·go_end0
  have hz2:=dF.out.size;have hz3:=HB3.out.size;have hk :∀b,w2.heap.size<b→((w3.alloc (.cells (patVs p y).toArray 43)).setCells N 6 (patVs p y)).heap[b]?=(w3.alloc (.cells (patVs p y).toArray 43)).heap[b]?:=fun b hb =>
   (qo N (P:=fun k=>k≠N) (fun h=>h rfl) (patVs p y) 6 _).block b (by show¬b=N;omega)
  have hLn:=(H4.out.below (ag w3 (.cells (patVs p y).toArray 43))).puts 5 (patVs p y) (by show 5+14≤20;decide);rw[List.append_assoc]at hLn;refine⟨rfl,y,hLn,?_,⟨L,?_,Hnd.out,fun b hb=>Nat.lt_of_le_of_lt hz2 (Ut.out b hb)⟩,?_⟩
  ·exact((HY.out.below (ag w3 _)).keep hk).mono fun b _ hb=>Nat.lt_of_le_of_lt hz2 hb
  ·refine(HL.out.keep fun b hb=>(ag w3 (.cells (patVs p y).toArray 43)).block b (HL.out.lt b hb)).keep fun b hb=>hk b (Ut.out b hb)
  ·have h5:SideN N w w3:=dF.out.trans (Keep.of_below HB3.out fun k hk=>by omega);exact(h5.alloc (fun k hk=>hk.1) _).trans (qo N (fun hk=>hk.2 rfl) (patVs p y) 6 _)
theorem zgP:RestOk 106 restRecord:=by
 intro D N w l k s hk hs h ht hl;rcases l with _|⟨n,r⟩
 ·refine(Us h (fun _ _ e=>by cases e)).mono ?_;rintro e w' ⟨rfl,h2⟩;exact⟨h2,fun _=>rfl,fun c r e=>by cases e⟩
 have hn:n.size≤1099511627776:=hl n List.mem_cons_self;rcases hw:isWord n with _|_
 ·refine(Us h (fun s r e=>by cases e;exact hw)).mono ?_;rintro e w' ⟨rfl,h2⟩;refine⟨h2,fun _=>rfl,fun c r' e=>?_⟩;rcases r with _|⟨t,r⟩
  ·cases e
  ·simp[restRecord,hw]at e
 rcases r with _|⟨t,r⟩
 ·refine(zj7 h hw).mono ?_;rintro e w' ⟨rfl,h2⟩;exact⟨h2,fun _=>rfl,fun c r e=>by cases e⟩
 have htl:t.size≤1099511627776:=hl t (by simp);rcases hu:unhexL t.data.toList with _|b
 ·refine(zj8 h hw hu htl).mono ?_;rintro e w' ⟨rfl,h2⟩;exact⟨h2,fun _=>rfl,fun c r e=>by simp[restRecord,hw,hu]at e⟩
 have hb:b.length≤lid:=by
  have hd:t.data.toList.length=t.size:=by rw[Array.length_toList];rfl
  rcases zj6 hu with h1|h1
  ·simp only[lid];omega
  ·rw[h1];exact Nat.zero_le _
 rcases hp:patOf b with _|p
 ·refine(zj9 h ht hw hu htl hb (Le hp)).mono ?_;rintro e w' ⟨rfl,h2⟩;exact⟨h2,fun _=>rfl,fun c r e=>by simp[restRecord,hw,hu,hp]at e⟩
 ·obtain⟨hf,ho,hbp⟩:=Iu hp;refine(zka h ht hw hu htl hb hf ho hbp).mono ?_;rintro e w' ⟨rfl,y,h2,h3,⟨L,h4,h5,h6⟩,h7⟩;refine⟨h7,fun e=>by simp[restRecord,hw,hu,hp]at e,fun c r' e=>?_⟩;simp only[restRecord,hw,if_true,hu,Option.bind_some,hp,Option.map_some,Option.some.injEq,Prod.mk.injEq]at e;obtain⟨rfl,rfl⟩:=e;refine⟨rfl,y,none,0,h2,⟨⟨hk,aI hs (by decide),uK,aI hn (by decide),uK,h3.mono fun b _ hb=>Nat.le_of_lt hb,⟨.nil,Nat.zero_le _⟩,aC _,Nat.zero_le _⟩,L,⟨L,[],h4,RowO.zero,by simp⟩,h5,fun b hb=>Nat.le_of_lt (h6 b hb)⟩⟩
structure CB where
 kind:Nat
 repo:ByteArray
 frm:ByteArray
 name:ByteArray
 file:ByteArray
 it:PIt
 A:Option Addr
 n:Nat
 c:Nat
def CB.pat(r:CB):List Value:=[.int .u8 r.it.p.kind,.string r.it.p.file,.string r.it.p.text,.int .i64 r.it.p.hunk.at_,.slice r.it.x.h.oA r.it.p.hunk.old.length r.it.x.h.oc,.slice r.it.x.h.nA r.it.p.hunk.new.length r.it.x.h.nc,.int .u8 r.it.p.edit.kind,.slice r.it.x.e.pA r.it.p.edit.path.length r.it.x.e.pc,.int .i64 r.it.p.edit.at_,.int .i64 r.it.p.edit.far,.string r.it.p.edit.frm,.string r.it.p.edit.to,.slice r.it.x.e.oA r.it.p.edit.old.len r.it.x.e.oc,.slice r.it.x.e.nA r.it.p.edit.new.len r.it.x.e.nc]
def CB.cells(r:CB):List Value:=[.int .u8 r.kind,.string r.repo,.string r.frm,.string r.name,.string r.file,.int .u8 r.it.p.kind,.string r.it.p.file,.string r.it.p.text,.int .i64 r.it.p.hunk.at_,.slice r.it.x.h.oA r.it.p.hunk.old.length r.it.x.h.oc,.slice r.it.x.h.nA r.it.p.hunk.new.length r.it.x.h.nc,.int .u8 r.it.p.edit.kind,.slice r.it.x.e.pA r.it.p.edit.path.length r.it.x.e.pc,.int .i64 r.it.p.edit.at_,.int .i64 r.it.p.edit.far,.string r.it.p.edit.frm,.string r.it.p.edit.to,.slice r.it.x.e.oA r.it.p.edit.old.len r.it.x.e.oc,.slice r.it.x.e.nA r.it.p.edit.new.len r.it.x.e.nc,.slice r.A r.n r.c]
def CB.rows(r:CB)(j:Nat):List Value:=r.it.rows j++(if j=5 then[.slice r.A r.n r.c]else[])
theorem xG:(Tryz.prog.info? 43).map (·.size)=some 14:=by kernel_rfl
theorem xH :∀j,j<21→tyB j≠46:=by decide
theorem xI(w:World)(pre mid post:List Value)(t:TypeId):(w.alloc (.cells (pre++(mid++post)).toArray t)).rangeAt w.heap.size pre.length mid:=fun j v hv=>by
 have hj:j<mid.length:=(List.getElem?_eq_some_iff.1 hv).1;rw[Lib.cell_of_heap (heap_alloc_new w _),List.getElem?_toArray,List.getElem?_append_right (Nat.le_add_right _ _),Nat.add_sub_cancel_left,List.getElem?_append_left hj];exact hv
theorem CB.rows_eq(X:Nat→List Value)(r:CB):addB (addAll X r.it.rows) 5 [.slice r.A r.n r.c]=addAll X r.rows:=by
 funext j;by_cases h:j=5
 ·subst h;simp[addB,addAll,CB.rows]
 ·simp[addB,addAll,CB.rows,h]
theorem PIt.rows_5(it:PIt):it.rows 5=[]:=by simp[PIt.rows]
theorem zfq{w:World}{bb B:Nat}{X:Nat→List Value}{r:CB}(hb:BagG w bb B X)(hi:r.it.ok w bb)(hn :∀j,(X j).length+(r.rows j).length≤1000000):
  Calls Tryz.prog 79 #[.pointer (some ⟨bb,0,none⟩),.agg r.cells.toArray] w fun e w'=>e = .returned (.tuple #[])∧BagG w' bb B (addAll X r.rows)∧HK bb w w':=by
 have hbl:=hb.bb_lt;have h5:=hn 5;simp only[CB.rows,PIt.rows_5,List.nil_append,if_true,List.length_cons,List.length_nil]at h5;have C1:Hid (∀o,Calls Tryz.prog 142 #[.pointer (some ⟨bb,0,none⟩),.agg r.pat.toArray] (w.alloc o) fun e w'=>e = .returned (.tuple #[])∧BagG w' bb B (addAll X r.it.rows)∧HK bb (w.alloc o) w'):=hide fun o =>
  We (hb.below (ag w o)) (hi.below ((ag w o).mono (Nat.le_of_lt hbl))) fun j=>by have:=hn j;simp only[CB.rows,aJ]at this;omega
 have C2:Hid (∀W,BagG W bb B (addAll X r.it.rows)→Calls Tryz.prog 143 #[.pointer (some ⟨bb,0,none⟩),.slice r.A r.n r.c] W fun e w'=>e = .returned (.tuple #[])∧BagG w' bb B (addB (addAll X r.it.rows) 5 [.slice r.A r.n r.c])∧HK bb W w'):=hide fun W hW=>V3 hW (by simp only[addAll,PIt.rows_5,List.append_nil];omega);have Jd:(w.alloc (.cells r.cells.toArray 46)).rangeAt w.heap.size 5 r.pat:=xI w [.int .u8 r.kind,.string r.repo,.string r.frm,.string r.name,.string r.file] r.pat [.slice r.A r.n r.c] _;clear hb hi hn;go_enter Tryz.func79,Tryz.ntmps79
 go_wp2_with(first
  | (refine wpList_load_mid rfl _ _ rfl w.heap.size 5 rfl r.pat _ Jd Tryz.underlying43 rfl xG ?_)
  | (go_at_call 142;(with_reducible refine(C1.out _).mono ?_);rintro e1 w1 ⟨rfl,hG,hK⟩;have hx:=Lib.cell_of_heap (IE hK hbl xH) 19;have x19:w1.cell? ⟨w.heap.size,19,none⟩=some (.slice r.A r.n r.c):=hx;clear hx;have zJ:=hide hG;have vJ:=hide ((HK.alloc w _ (Nat.le_of_lt hbl)).trans hK);clear hG hK)
  | (go_at_call 143;(with_reducible refine(C2.out _ zJ.out).mono ?_);rintro e2 w2 ⟨rfl,hG,hK⟩;have HG2:=hide hG;have yx:=hide (vJ.out.trans hK);clear hG hK))
 go_end0
 exact⟨rfl,by have:=HG2.out;rwa [CB.rows_eq]at this,yx.out⟩
def rowsC(v:Value)(l:List CB)(j:Nat):List Value:=(if j=19 then[v]else[])++l.flatMap (fun r=>r.rows j)
theorem nH(v:Value):rowsC v []=fun i=>if i=19 then[v]else[]:=by funext j;simp[rowsC]
theorem zkb(X:Nat→List Value)(v:Value)(l:List CB)(r:CB):addAll (addAll X (rowsC v l)) r.rows=addAll X (rowsC v (l++[r])):=by
 rw[V7];congr 1;funext j;simp[rowsC]
theorem zfr:(Tryz.prog.info? 23).map (fun i=>(i.zero,i.size,i.bytes))=some (some (.slice none 0 0),1,24):=by kernel_rfl
theorem zfa{w:World}{bb B m c:Nat}{A:Option Addr}{X:Nat→List Value}{l:List CB}(hm:l.length=m)(hb:BagG w bb B X)(hn :∀j,(X j).length+(rowsC (.slice A m c) l j).length≤1000000)(ho:w.ownsRow 0 46 20 (.slice A m c) m (l.flatMap CB.cells))(hi :∀r∈l,r.it.ok w bb)(hl :∀b∈ob (.slice A m c),b<bb):
  Calls Tryz.prog 35 #[.pointer (some ⟨bb,0,none⟩),.slice A m c] w fun e w'=>e = .returned (.tuple #[])∧BagG w' bb B (addAll X (rowsC (.slice A m c) l))∧HK bb w w':=by
 have Ho:=hide ho;have Hi:=hide hi;have Hl:=hide hl;have HN:=hide hn;have hn19:(X 19).length≤1000000:=by have:=hn 19;simp[rowsC]at this;omega
 have hmc:=vC ho rfl;clear ho hi hl hn;obtain⟨v,hv,_,hown⟩:=hb.hd 19 (by decide);obtain⟨Av,cv,rfl⟩:=bM hown;have HB:=hide hb;have aY:=hide hown;have hf:=hb.fz 19;have hbl:=hb.bb_lt;clear hb hown;go_enter Tryz.func35,Tryz.ntmps35
 go_wp2_with(at_builtin;refine fE rfl _ _ 31 rfl B 23 Tryz.underlying31 zfr rfl (by decide) _ (X 19).length (X 19) rfl (aY.out.alloc _) (some ⟨w.heap.size,0,none⟩) 1 1 [.slice A m c] rfl (by simp) rfl (fun ad e=>by injection e with e;subst e;exact cell_one_new w _ _) (by simp[Value.oneCell']) (by unfold maxLen;omega) (by omega) (aI HB.out.le (by simp)) ?_)
 intro v1 w1 h1 hg1 hw1;have hblk:w1.heap[bb]?=w.heap[bb]?:=(hg1.block bb (by simp;omega) (fun e=>by have:=(aY.out.lt bb e.symm).1;have:=HB.out.lt;omega)).trans (heap_alloc_old w _ hbl);have k0:w1.cell? ⟨bb,19,none⟩=some (.slice Av (X 19).length cv):=(World.cell?_of_block (a:=⟨bb,19,none⟩) hblk).trans hv;have k1:w1.frozen? ⟨bb,19,none⟩=false:=(World.frozen?_of_block (a:=⟨bb,19,none⟩) hblk).trans hf;have HB1:Hid (HK bb w (w1.setCell ⟨bb,19,none⟩ v1)):=hide (HB.out.putK (j:=19) (by decide) (fun b hb=>heap_alloc_old w _ hb) ((ag w _).mono (Nat.le_of_lt hbl)) aY.out hg1);have HG:=hide (HB.out.put (j:=19) (by decide) hv (fun b hb=>heap_alloc_old w _ hb) (by simp) aY.out h1 hg1);obtain⟨A1,c1,rfl⟩:=bM h1;clear h1 hg1 hw1 hblk hv hf HB aY
 go_wp2_with fail
 go_loopg [4] m (fun g i wx=>∃q:Nat,q≤m∧g=m-q∧i = .int .i64 q∧Hid (BagG wx bb B (addAll X (rowsC (.slice A m c) (l.take q))))∧Hid (HK bb w wx))
 case atStart=>exact⟨0,by omega,by omega,rfl,hide (by have:=HG.out;rw[qw]at this;simpa[nH]using this),HB1⟩
 case round =>
 clear HG HB1 k0 k1;obtain⟨q,hq,hg,rfl,HG,HB⟩:=hrel;by_cases hlt:q<m
 ·obtain⟨r,hit⟩:∃r,l[q]?=some r:=⟨_,List.getElem?_eq_getElem (by omega)⟩;have hcs:=QI (s:=20) CB.cells (fun _=>rfl) hit;have fU:=Ho.out;obtain⟨gb,rfl⟩:∃g,A=some ⟨g,0,none⟩:=by
   rcases fU.2 with⟨_,h0⟩|⟨g,cap,cur,e,_⟩
   ·omega
   ·injection e with e;exact⟨g,e⟩
  have hgl:gb<bb:=Hl.out gb (by simp[ob,Value.ownBlock]);have hcell:wr.rangeAt gb (q*20) r.cells:=fun t u hu=>by
   have h1:=fU.cells (g:=gb) rfl (q*20+t) u (by rw[hcs t (by have:=(List.getElem?_eq_some_iff.1 hu).1;exact this)];exact hu);rw[Addr.add_lit,Nat.zero_add]at h1;exact(World.cell?_of_block (a:=⟨gb,q*20+t,none⟩) (HB.out.1.block gb hgl)).trans h1
  have hone:Hid (Calls Tryz.prog 79 #[.pointer (some ⟨bb,0,none⟩),.agg r.cells.toArray] wr fun e w'=>e = .returned (.tuple #[])∧BagG w' bb B (addAll X (rowsC (.slice (some ⟨gb,0,none⟩) m c) (l.take (q+1))))∧HK bb wr w'):=hide (by
   rw[Lt hit,←zkb];refine zfq HG.out ((Hi.out r (List.mem_of_getElem? hit)).below HB.out.1) fun j=>?_;have h1:=HN.out j;have h2:=QJ (fun r:CB=>r.rows j) hit;simp only[addAll,rowsC,aJ]at h1⊢;omega)
  clear hcs fU hit
  go_wp2_with(first
   | (refine wpList_load_mid rfl _ _ rfl gb (q*20) rfl r.cells _ hcell Tryz.underlying46 rfl aZ ?_)
   | (go_at_call 79;(with_reducible refine hone.out.mono ?_);rintro e1 w1 ⟨rfl,hG1,hK1⟩))
  go_roundg (m-(q+1))
  case measure=>omega
  case rel=>exact⟨q+1,by omega,rfl,by go_num,hide hG1,hide (HB.out.trans hK1)⟩
 ·go_wp2_with fail
  go_end0
  have hqm:q=m:=by omega
  have:=HG.out;rw[List.take_of_length_le (by omega)]at this;exact⟨rfl,this,HB.out⟩
structure CRow where
 A:Option Addr
 c:Nat
 l:List CB
def CRow.v(r:CRow):Value:= .slice r.A r.l.length r.c
def rowsCs(ls:List CRow)(j:Nat):List Value:=ls.flatMap fun r=>rowsC r.v r.l j
theorem ziV(ls:List CRow)(r:CRow):addAll (rowsCs ls) (rowsC r.v r.l)=rowsCs (ls++[r]):=by funext j;simp[addAll,rowsCs]
theorem O5(ls:List CRow)(j:Nat)(h2:j≠2)(h4:j≠4)(h5:j≠5)(h9:j≠9)(h19:j≠19):rowsCs ls j=[]:=by
 simp[rowsCs,rowsC,h19,CB.rows,h5,PIt.rows,h2,h4,h9]
theorem tV(w:World):BagG (w.alloc (.cells #[.slice none 0 0,.slice none 0 0,.slice none 0 0,.slice none 0 0,.slice none 0 0,.slice none 0 0,.slice none 0 0,.slice none 0 0,.slice none 0 0,.slice none 0 0,.slice none 0 0,.slice none 0 0,.slice none 0 0,.slice none 0 0,.slice none 0 0,.slice none 0 0,.slice none 0 0,.slice none 0 0,.slice none 0 0,.slice none 0 0,.slice none 0 0] 91)) w.heap.size (w.heap.size+1) (rowsCs []):=by
 have hc:=Lib.cell_of_heap (heap_alloc_new w (.cells #[.slice none 0 0,.slice none 0 0,.slice none 0 0,.slice none 0 0,.slice none 0 0,.slice none 0 0,.slice none 0 0,.slice none 0 0,.slice none 0 0,.slice none 0 0,.slice none 0 0,.slice none 0 0,.slice none 0 0,.slice none 0 0,.slice none 0 0,.slice none 0 0,.slice none 0 0,.slice none 0 0,.slice none 0 0,.slice none 0 0,.slice none 0 0] 91));refine⟨fun j hj=>⟨.slice none 0 0,?_,fun _=>rfl,⟨rfl,.inl ⟨rfl,rfl⟩⟩⟩,fun j=>?_,Nat.lt_succ_self _,by simp⟩
 ·rw[hc];have :∀j,j<21→(#[.slice none 0 0,.slice none 0 0,.slice none 0 0,.slice none 0 0,.slice none 0 0,.slice none 0 0,.slice none 0 0,.slice none 0 0,.slice none 0 0,.slice none 0 0,.slice none 0 0,.slice none 0 0,.slice none 0 0,.slice none 0 0,.slice none 0 0,.slice none 0 0,.slice none 0 0,.slice none 0 0,.slice none 0 0,.slice none 0 0,.slice none 0 0]:Array Value)[j]?=some (.slice none 0 0):=by
   intro j hj;have:j=0∨j=1∨j=2∨j=3∨j=4∨j=5∨j=6∨j=7∨j=8∨j=9∨j=10∨j=11∨j=12∨j=13∨j=14∨j=15∨j=16∨j=17∨j=18∨j=19∨j=20:=by omega
   rcases this with rfl|rfl|rfl|rfl|rfl|rfl|rfl|rfl|rfl|rfl|rfl|rfl|rfl|rfl|rfl|rfl|rfl|rfl|rfl|rfl|rfl<;>rfl
  exact this j hj
 ·simp
theorem zdM{w:World}{LA K c B:Nat}{ls:List CRow}(hK:ls.length=K)(hls :∀k r,ls[k]?=some r→w.cell? ⟨LA,k,none⟩=some r.v)(hLA:LA<w.heap.size)
  (ho :∀r∈ls,w.ownsRow 0 46 20 r.v r.l.length (r.l.flatMap CB.cells)) (hi :∀r∈ls,∀x∈r.l,x.it.ok w w.heap.size)
  (h2:OwnL 3 1 B (rowsCs ls 2) w) (h4:OwnL 9 1 B (rowsCs ls 4) w) (h5:OwnL 5 1 B (rowsCs ls 5) w) (h9:OwnL 218 4 B (rowsCs ls 9) w) (h19:OwnL 46 20 B (rowsCs ls 19) w)
  (hd :∀j,((rowsCs ls j).flatMap ob).Nodup) (ne:rowsCs ls 19≠[]∧((rowsCs ls 2≠[]∧rowsCs ls 4≠[]∧rowsCs ls 5≠[]∧rowsCs ls 9≠[])∨(rowsCs ls 2=[]∧rowsCs ls 4=[]∧rowsCs ls 5=[]∧rowsCs ls 9=[])))
  (small :∀j i,i<(rowsCs ls j).length→nsOf (rowsCs ls j) i≤1073741824) (many :∀j,(rowsCs ls j).length≤1000000) (hB:B≤w.heap.size) (hcK:K≤c∧c≤9223372036854775807):
  Calls Tryz.prog 12 #[.slice (some ⟨LA,0,none⟩) K c] w fun e w'=>e = .returned (.bool true)∧Below B w w':=by
 have dm:=hide hls;have Ho:=hide ho;have Hi:=hide hi;have lo2:=hide h2.ltC;have Uu:=hide h4.ltC;have Uw:=hide h5.ltC;have Ux:=hide h9.ltC;have Be:=hide h19.ltC;have Hm:=hide many;have low:Hid (∀j,∀v∈rowsCs ls j,∀b∈ob v,b<w.heap.size):=hide fun j v hv b hb=>by
    by_cases e2:j=2
    ·subst e2;exact lo2.out v hv b hb
    ·by_cases e4:j=4
     ·subst e4;exact Uu.out v hv b hb
     ·by_cases e5:j=5
      ·subst e5;exact Uw.out v hv b hb
      ·by_cases e9:j=9
       ·subst e9;exact Ux.out v hv b hb
       ·by_cases e19:j=19
        ·subst e19;exact Be.out v hv b hb
        ·rw[O5 ls j e2 e4 e5 e9 e19]at hv;cases hv
 have HA:Hid (∀W,BagG W w.heap.size (w.heap.size+1) (rowsCs ls)→Below w.heap.size w W→Calls Tryz.prog 36 #[.pointer (some ⟨w.heap.size,0,none⟩)] W fun e w'=>e = .returned (.bool true)∧Below B W w'):=hide fun W hG hW=>by
  rcases ne.2 with⟨n2,n4,n5,n9⟩|⟨n2,n4,n5,n9⟩
  ·exact Z4 hG (h2.lowC lo2.out hW) (hd 2) n2 (h4.lowC Uu.out hW) (hd 4) n4 (h5.lowC Uw.out hW) (hd 5) n5 (h9.lowC Ux.out hW) (hd 9) n9 (h19.lowC Be.out hW) (hd 19) ne.1 low.out
    (fun j _ e2 e4 e5 e9 e19=>O5 ls j e2 e4 e5 e9 e19) small (fun j=>aI (Hm.out j) (by decide)) hB
  ·refine ZP hG (h19.lowC Be.out hW) (hd 19) ne.1 low.out (fun j _ e19=>?_) small (fun j=>aI (Hm.out j) (by decide)) hB;by_cases e2:j=2
   ·subst e2;exact n2
   by_cases e4:j=4
   ·subst e4;exact n4
   by_cases e5:j=5
   ·subst e5;exact n5
   by_cases e9:j=9
   ·subst e9;exact n9
   exact O5 ls j e2 e4 e5 e9 e19
 clear h2 h4 h5 h9 h19 hd ne small many hls ho hi;go_enter Tryz.func12,Tryz.ntmps12
 go_wp2_with fail
 go_loopg [4] K (fun g k wx=>∃q:Nat,q≤K∧g=K-q∧k = .int .i64 q∧Hid (BagG wx w.heap.size (w.heap.size+1) (rowsCs (ls.take q)))∧Hid (Below w.heap.size w wx))
 case atStart=>exact⟨0,by omega,by omega,rfl,hide (by simpa using tV w),hide (ag w _)⟩
 case round =>
 obtain⟨q,hq,hg,rfl,HG,HB⟩:=hrel;by_cases hlt:q<K
 ·obtain⟨r,hr⟩:∃r,ls[q]?=some r:=⟨_,List.getElem?_eq_getElem (by omega)⟩;have hx:=bQ (HB.out.block LA hLA) (dm.out q r hr);have hmem:=List.mem_of_getElem? hr;have hone:Hid (Calls Tryz.prog 35 #[.pointer (some ⟨w.heap.size,0,none⟩),r.v] wr fun e w'=>e = .returned (.tuple #[])∧BagG w' w.heap.size (w.heap.size+1) (rowsCs (ls.take (q+1)))∧HK w.heap.size wr w'):=hide (by
   rw[Lt hr,←ziV];refine zfa rfl HG.out (fun j=>?_) (oN (Ho.out r hmem) fun g hg=>HB.out.block g ((Ho.out r hmem).lt g hg).2) (fun x hx=>(Hi.out r hmem x hx).below HB.out) (fun b hb=>((Ho.out r hmem).lt b (fA.1 hb)).2);have h1:=Hm.out j;have h2:=QJ (fun r:CRow=>rowsC r.v r.l j) hr;simp only[rowsCs]at h1⊢;exact aI h2 h1)
  clear hr hmem;obtain⟨rv,O6⟩:∃rv,rv=r.v:=⟨_,rfl⟩;rw[←O6]at hx hone;have hrs :∃A n c,rv = .slice A n c:=⟨_,_,_,O6⟩;obtain⟨rA,rn,rc,rfl⟩:=hrs;clear O6
  go_wp2_with(go_at_call 35;(with_reducible refine hone.out.mono ?_);rintro e1 w1 ⟨rfl,hG1,hK1⟩)
  go_roundg (K-(q+1))
  case measure=>omega
  case rel=>exact⟨q+1,by omega,rfl,by go_num,hide hG1,hide (HB.out.trans hK1.1)⟩
 ·have sO:q=ls.length:=by omega
  have HG2:Hid (BagG wr w.heap.size (w.heap.size+1) (rowsCs ls)):=hide (by have:=HG.out;rwa [List.take_of_length_le (by omega)]at this);clear HG sO
  go_wp2_with(go_at_call 36;(with_reducible refine(HA.out _ HG2.out HB.out).mono ?_);rintro e1 w1 ⟨rfl,hB1⟩)
  go_ret;exact⟨rfl,(HB.out.mono hB).trans hB1⟩
end
section
open Go.RowKit
noncomputable def cmdM(c:Cmd):Nat:=if c.kind=2 then(ptB c.patch).length+200 else 0
theorem Uy(c:UInt8):∀l:List UInt8,((partsL c l).map List.length).sum≤l.length
 | []=>by simp[partsL]
 | b::r=>by
  have ih:=Uy c r;unfold partsL;split
  ·simp;omega
  ·rcases hp:partsL c r with _|⟨h,t⟩
   ·simp
   ·rw[hp]at ih;simp at ih⊢;omega
theorem Uz{α:Type}(f:α→Nat)(p:α→Bool):∀l:List α,((l.filter p).map f).sum≤(l.map f).sum
 | []=>by simp
 | a::l=>by
  have ih:=Uz f p l;rw[List.filter_cons];split
  ·simp only[List.map_cons,List.sum_cons];omega
  ·simp only[List.map_cons,List.sum_cons];omega
theorem nI(s:ByteArray):((linesOf (wordsOf 10 s)).map (·.size)).sum≤s.size:=by
 have h1:=Uy 10 s.data.toList;rw[←D9,List.map_map]at h1;have h2:=Uz (fun t:ByteArray=>t.size) (fun t=>decide (¬t.size=0)) (wordsOf 10 s);have e:(List.length∘fun x:ByteArray=>x.data.toList)=fun t:ByteArray=>t.size:=by funext t;simp[BJ]
 rw[e,BJ]at h1;exact aI h2 h1
theorem Bf(p:Pt):17≤(ptB p).length:=by
 unfold ptB;have h1:=uw p.file;simp only[List.length_cons,aJ,h1];split
 ·simp only[aJ,eY];omega
 ·split
  ·unfold edB;simp only[List.length_cons,aJ,eY,pathB];omega
  ·rw[uw];omega
theorem joinC_mem{c:UInt8}{x:List UInt8}:∀{l:List (List UInt8)},x∈l→x.length≤(joinC c l).length
 | y::r,h=>by
  simp only[joinC,aJ];rcases List.mem_cons.1 h with rfl|h
  ·omega
  ·obtain⟨a,b,rfl⟩:=List.append_of_mem h;simp only[List.flatMap_append,List.flatMap_cons,aJ,List.length_cons];omega
theorem UA{c:Cmd}(h:ShowOk c):1≤(showB c).size∧2*cmdM c+3≤13*(showB c).size∧c.bytes.length≤(showB c).size:=by
 have hd:(showB c).data.toList.length=(showB c).size:=BJ _;have h0:1≤(showB c).size:=by
  have:=wG h;rw[←hd];exact List.length_pos_iff.2 this
 have key :∀b:List UInt8,hexB b∈showWs c→2*b.length≤(showB c).size:=fun b hb=>by
  have h1:=joinC_mem (c:=32) (x:=(hexB b).data.toList) (l:=(showWs c).map (·.data.toList)) (List.mem_map_of_mem hb);have e:(joinC 32 ((showWs c).map (·.data.toList))).length=(showB c).size:=by rw[←hd];rfl
  rw[e,MX]at h1;by_cases hb0:b=[]
  ·subst hb0;simp
  ·rw[hexL,if_neg hb0,uX]at h1;exact h1
 refine⟨h0,?_,?_⟩
 ·unfold cmdM;split
  ·rename_i h2;have hp:=h.patch;rw[if_pos h2]at hp;have h3:=key (ptB c.patch) (by simp[showWs,showRest,h2,putB,hp]);have h4:=Bf c.patch;omega
  ·omega
 ·by_cases h9:c.kind=9
  ·have:=key c.bytes (by simp[showWs,showRest,h9]);omega
  ·rw[h.bytes h9];simp
def CmdSmall(c:Cmd):Prop:=c.patch.hunk.old.length≤cmdM c∧c.patch.hunk.new.length≤cmdM c∧c.patch.edit.path.length≤cmdM c∧c.patch.edit.old.cnt≤cmdM c∧c.patch.edit.new.cnt≤cmdM c
theorem nJ{p:Pt}(h:Bare p):ptAll p≤(ptB p).length+200:=by
 have e0:(edB Ed.zero).length=57:=rfl;have t0:(txtsB []).length=8:=rfl;unfold Bare at h;unfold ptAll ptB;split at h
 ·rename_i h3;obtain⟨h1,h2⟩:=h;rw[if_pos h3,h1,h2,e0];have:noTxt.size=0:=rfl;simp only[List.length_cons,aJ,D6,n8];omega
 ·rename_i h3;split at h
  ·rename_i h4;obtain⟨h1,h2⟩:=h;rw[if_neg h3,if_pos h4,h1,h2];have:noTxt.size=0:=rfl;simp only[Hk.zero,t0,List.length_cons,aJ,D6];omega
  ·rename_i h4;obtain⟨h1,h2⟩:=h;rw[if_neg h3,if_neg h4,h1,h2,e0];simp only[Hk.zero,t0,List.length_cons,aJ,D6];omega
theorem zkc{c:Cmd}(h:ShowOk c):CmdSmall c:=by
 have hp:=h.patch;by_cases h2:c.kind=2
 ·rw[if_pos h2]at hp;have:=nJ hp.bare;exact rE (aI this (by unfold cmdM;rw[if_pos h2];omega))
 ·rw[if_neg h2]at hp;unfold CmdSmall;rw[hp];exact⟨Nat.zero_le _,Nat.zero_le _,Nat.zero_le _,Nat.zero_le _,Nat.zero_le _⟩
section
variable {w : World} {B Mx : Nat}
structure CBs(l:List CIt)(L:List Nat)(lb:List CB)(B Mx:Nat)(w:World):Prop where
 cells:lb.flatMap CB.cells=l.flatMap CIt.cells
 len:lb.length=l.length
 ok :∀bb,(∀b∈L,b<bb)→∀r∈lb,r.it.ok w bb
 ints:OwnL 3 1 B (lb.flatMap fun r=>r.rows 2) w
 texts:OwnL 9 1 B (lb.flatMap fun r=>r.rows 4) w
 bytes:OwnL 5 1 B (lb.flatMap fun r=>r.rows 5) w
 nodes:OwnL 218 4 B (lb.flatMap fun r=>r.rows 9) w
 sub :∀j,((lb.flatMap fun r=>r.rows j).flatMap ob).Sublist L
 many :∀j,(lb.flatMap fun r=>r.rows j).length≤(l.map fun it=>2*cmdM it.c+3).sum
 small :∀j,∀v∈lb.flatMap (fun r=>r.rows j),lenV v≤Mx
 ne:l≠[]→(lb.flatMap fun r=>r.rows 2)≠[]∧(lb.flatMap fun r=>r.rows 4)≠[]∧(lb.flatMap fun r=>r.rows 5)≠[]∧(lb.flatMap fun r=>r.rows 9)≠[]
theorem Bg{it:CIt}{L:List Nat}(h:CmdO w it.c it.x it.A it.n L)(hB :∀b∈L,B≤b)(hs:CmdSmall it.c)(h1:cmdM it.c≤Mx)(h2:it.c.bytes.length≤Mx):∃r:CB,CBs [it] L [r] B Mx w:=by
 obtain⟨L1,L2,hp,⟨hb,rfl⟩,rfl⟩:=h;obtain⟨pi,e1,e2,hok,hown⟩:=hp.itemC (B:=B) (fun b hb'=>hB b (List.mem_append_left _ hb')) hs;refine⟨⟨it.c.kind,it.c.repo,it.c.frm,it.c.name,it.c.file,pi,it.A,it.c.bytes.length,it.n⟩,?_,rfl,?_,?_,?_,?_,?_,?_,?_,?_,?_⟩
 ·simp only[List.flatMap_singleton,CB.cells,CIt.cells,cmdVs,e1,e2]
 ·intro bb hbb r hr;rw[List.mem_singleton]at hr;subst hr;exact hok bb fun b hb'=>hbb b (List.mem_append_left _ hb')
 ·simpa[CB.rows]using hown.ints
 ·simpa[CB.rows]using hown.texts
 ·simp only[List.flatMap_singleton,CB.rows,PIt.rows_5,List.nil_append,if_true];intro v hv;rw[List.mem_singleton]at hv;subst hv;exact⟨_,_,_,_,rfl,uU hb fun b hb'=>hB b (List.mem_append_right _ hb')⟩
 ·simpa[CB.rows]using hown.nodes
 ·intro j;simp only[List.flatMap_singleton,CB.rows,List.flatMap_append];refine List.Sublist.append (hown.sub j) ?_;split
  ·simp
  ·simp
 ·intro j;have:=hown.len j;simp only[List.flatMap_singleton,CB.rows,aJ,List.map_cons,List.map_nil,List.sum_cons,List.sum_nil];split
  ·simp;omega
  ·simp;omega
 ·intro j v hv;simp only[List.flatMap_singleton,CB.rows,List.mem_append]at hv;rcases hv with hv|hv
  ·exact aI (hown.small j v hv) h1
  ·split at hv
   ·rw[List.mem_singleton]at hv;subst hv;exact h2
   ·cases hv
 ·intro _;simp[CB.rows,PIt.rows]
theorem CBs.nil:CBs [] [] [] B Mx w:=⟨rfl,rfl,fun _ _ _ h=>(by cases h),OwnL.voidC,OwnL.voidC,OwnL.voidC,OwnL.voidC,fun _=>List.Sublist.refl _,fun _=>aC _,fun _ _ h=>(by cases h),fun h=>absurd rfl h⟩
theorem CBs.app{l l':List CIt}{L L':List Nat}{lb lb':List CB}(h:CBs l L lb B Mx w)(h':CBs l' L' lb' B Mx w):CBs (l++l') (L++L') (lb++lb') B Mx w:=by
 refine⟨by rw[List.flatMap_append,List.flatMap_append,h.cells,h'.cells],by simp[h.len,h'.len],fun bb hb r hr=>?_,?_,?_,?_,?_,fun j=>?_,fun j=>?_,fun j v hv=>?_,fun hne=>?_⟩
 ·rcases List.mem_append.1 hr with hr|hr
  ·exact h.ok bb (fun b hb'=>hb b (List.mem_append_left _ hb')) r hr
  ·exact h'.ok bb (fun b hb'=>hb b (List.mem_append_right _ hb')) r hr
 ·rw[List.flatMap_append];exact h.ints.appC h'.ints
 ·rw[List.flatMap_append];exact h.texts.appC h'.texts
 ·rw[List.flatMap_append];exact h.bytes.appC h'.bytes
 ·rw[List.flatMap_append];exact h.nodes.appC h'.nodes
 ·rw[List.flatMap_append,List.flatMap_append];exact List.Sublist.append (h.sub j) (h'.sub j)
 ·have h1:=h.many j;have h2:=h'.many j;rw[List.flatMap_append,aJ,List.map_append,List.sum_append];omega
 ·rw[List.flatMap_append]at hv;exact(List.mem_append.1 hv).elim (h.small j v) (h'.small j v)
 ·simp only[List.flatMap_append];by_cases hl:l=[]
  ·have:=h'.ne (by intro e;exact hne (by rw[hl,e];rfl));simp[this]
  ·have:=h.ne hl;simp[this]
theorem O7 :∀{l:List CIt} {L:List Nat},CmdsO w l L→(∀b∈L,B≤b)→(∀it∈l,CmdSmall it.c∧cmdM it.c≤Mx∧it.c.bytes.length≤Mx)→∃lb,CBs l L lb B Mx w
 | [],_,h,_,_=>by
  rw[show _=[]from h];exact⟨[],CBs.nil⟩
 | it::r,_,⟨L1,L2,h1,h2,e⟩,hB,hs=>by
  subst e;obtain⟨s1,s2,s3⟩:=hs it List.mem_cons_self;obtain⟨x,hx⟩:=Bg (B:=B) (Mx:=Mx) h1.1 (fun b hb=>hB b (List.mem_append_left _ hb)) s1 s2 s3;obtain⟨lb,hl⟩:=O7 h2 (fun b hb=>hB b (List.mem_append_right _ hb)) fun y hy=>hs y (List.mem_cons_of_mem _ hy);exact⟨_,hx.app hl⟩
end
theorem nK(w:World)(u v:Value)(t:TypeId):(w.alloc (.cells #[u,v] t)).cell? ⟨w.heap.size,0,none⟩=some u∧(w.alloc (.cells #[u,v] t)).cell? ⟨w.heap.size,1,none⟩=some v:=by
 constructor<;>rw[Lib.cell_of_heap (heap_alloc_new w _)]<;>rfl
theorem zkd{w1 W:World}{M1 M2:Nat}{v1 v2:Value}{l1 l2:List CIt}{t:TypeId}(h1:RowC M1 w1 v1 l1)(hb:Below w1.heap.size w1 W)(h2:RowC M2 W v2 l2)(hM:w1.heap.size≤M2)(hM1:M1≤w1.heap.size)
  (hl:l1.map (·.c)=l2.map (·.c)) (hs :∀it∈l1,CmdSmall it.c∧cmdM it.c≤1000000∧it.c.bytes.length≤1000000) (hsum:(l1.map fun it=>2*cmdM it.c+3).sum≤400000) (hlen:l1.length≤1000000) (hM2:M2≤W.heap.size):
  Calls Tryz.prog 12 #[.slice (some ⟨W.heap.size,0,none⟩) 2 2] (W.alloc (.cells #[v1,v2] t)) fun e w'=>e = .returned (.bool true)∧Below M1 W w':=by
 have JR:=ag W (.cells #[v1,v2] t);obtain⟨c0,c1⟩:=nK W v1 v2 t;have hz:(W.alloc (.cells #[v1,v2] t)).heap.size=W.heap.size+1:=by simp
 have r1:=(h1.below hb).below JR;have r2:=h2.below JR;have u1 :∀b∈ob v1,b<w1.heap.size:=fun b hb'=>(gG h1.1 b hb').2;obtain⟨o1,L1,m1,n1,g1⟩:=h1;obtain⟨O8,_⟩:=r1;obtain⟨JS,L2,UB,n2,g2⟩:=r2;have UC:CmdsO (W.alloc (.cells #[v1,v2] t)) l1 L1:=(m1.keep fun b hb'=>hb.block b (m1.lt b hb')).keep fun b hb'=>JR.block b (aH (m1.lt b hb') hb.size);have q1 :∀b∈ob v1++L1,M1≤b∧b<M2:=fun b hb'=>by
  rcases List.mem_append.1 hb' with h|h
  ·exact⟨(gG o1 b h).1,aH (u1 b h) hM⟩
  ·exact⟨g1 b h,aH (m1.lt b h) hM⟩
 have q2 :∀b∈ob v2++L2,M2≤b:=fun b hb'=>by
  rcases List.mem_append.1 hb' with h|h
  ·exact(gG JS b h).1
  ·exact g2 b h
 have hcs :∀it∈l2,∃jt∈l1,jt.c=it.c:=fun it hi=>by
  have h:it.c∈l1.map (·.c):=by rw[hl];exact List.mem_map_of_mem hi
  obtain⟨jt,hj,e⟩:=List.mem_map.1 h;exact⟨jt,hj,e⟩
 have hs2 :∀it∈l2,CmdSmall it.c∧cmdM it.c≤1000000∧it.c.bytes.length≤1000000:=fun it hi=>by
  obtain⟨jt,hj,e⟩:=hcs it hi;rw[←e];exact hs jt hj
 have hll:l2.length=l1.length:=by have:=congrArg List.length hl;simpa using this.symm
 have GG:(l2.map fun it=>2*cmdM it.c+3).sum=(l1.map fun it=>2*cmdM it.c+3).sum:=by
  have e1:(l1.map fun it=>2*cmdM it.c+3)=(l1.map (·.c)).map fun c=>2*cmdM c+3:=by rw[List.map_map];rfl
  have e2:(l2.map fun it=>2*cmdM it.c+3)=(l2.map (·.c)).map fun c=>2*cmdM c+3:=by rw[List.map_map];rfl
  rw[e1,e2,hl]
 obtain⟨y5,k1⟩:=O7 (B:=M1) (Mx:=1000000) UC g1 hs;obtain⟨y8,k2⟩:=O7 (B:=M1) (Mx:=1000000) UB (fun b hb'=>aI (aI hM1 hM) (g2 b hb')) hs2;obtain⟨A1,c1',rfl⟩:=bM O8;obtain⟨A2,c2',rfl⟩:=bM JS;have ev1:(CRow.mk A1 c1' y5).v = .slice A1 l1.length c1':=by rw[CRow.v,k1.len]
 have O9:(CRow.mk A2 c2' y8).v = .slice A2 l2.length c2':=by rw[CRow.v,k2.len]
 have er :∀j,rowsCs [⟨A1,c1',y5⟩,⟨A2,c2',y8⟩] j=((if j=19 then[.slice A1 l1.length c1']else[])++y5.flatMap fun r=>r.rows j)++((if j=19 then[.slice A2 l2.length c2']else[])++y8.flatMap fun r=>r.rows j):=fun j=>by
  simp only[rowsCs,rowsC,List.flatMap_cons,List.flatMap_nil,List.append_nil,ev1,O9]
 have tX :∀j,j≠19→rowsCs [⟨A1,c1',y5⟩,⟨A2,c2',y8⟩] j=(y5.flatMap fun r=>r.rows j)++y8.flatMap fun r=>r.rows j:=fun j hj=>by rw[er,if_neg hj,if_neg hj,List.nil_append,List.nil_append]
 have e19 :∀lb:List CB,(lb.flatMap fun r=>r.rows 19)=[]:=fun lb=>by
  rw[List.flatMap_eq_nil_iff];intro r _;simp[CB.rows,PIt.rows]
 have tY:rowsCs [⟨A1,c1',y5⟩,⟨A2,c2',y8⟩] 19=[.slice A1 l1.length c1',.slice A2 l2.length c2']:=by rw[er,if_pos rfl,if_pos rfl,e19,e19];rfl
 have hnd:(((ob (.slice A1 l1.length c1')++L1)++(ob (.slice A2 l2.length c2')++L2))).Nodup:=BG n1 n2 (fun b hb'=>(q1 b hb').2) q2;refine(zdM (B:=M1) (ls:=[⟨A1,c1',y5⟩,⟨A2,c2',y8⟩]) rfl (fun k r hr=>?_) (by omega) (fun r hr=>?_) (fun r hr x hx=>?_) ?_ ?_ ?_ ?_ ?_ (fun j=>?_) ?_ (fun j i hi=>?_) (fun j=>?_) (by omega) ⟨aC _,show 2≤9223372036854775807 by decide⟩).mono fun e w' h=>⟨h.1,(JR.mono (by omega)).trans h.2⟩
 ·match k,hr with
  | 0,hr=>injection hr with hr;subst hr;rw[ev1];exact c0
  | 1,hr=>injection hr with hr;subst hr;rw[O9];exact c1
  | k+2,hr=>simp at hr
 ·simp only[List.mem_cons,List.not_mem_nil,or_false]at hr;rcases hr with rfl|rfl
  ·rw[ev1,k1.cells,k1.len];exact uM O8
  ·rw[O9,k2.cells,k2.len];exact uM JS
 ·simp only[List.mem_cons,List.not_mem_nil,or_false]at hr;rcases hr with rfl|rfl
  ·exact k1.ok _ (fun b hb'=>UC.lt b hb') x hx
  ·exact k2.ok _ (fun b hb'=>UB.lt b hb') x hx
 ·rw[tX 2 (by decide)];exact k1.ints.appC k2.ints
 ·rw[tX 4 (by decide)];exact k1.texts.appC k2.texts
 ·rw[tX 5 (by decide)];exact k1.bytes.appC k2.bytes
 ·rw[tX 9 (by decide)];exact k1.nodes.appC k2.nodes
 ·rw[tY];intro v hv;simp only[List.mem_cons,List.not_mem_nil,or_false]at hv;rcases hv with rfl|rfl
  ·exact⟨_,_,_,_,rfl,uU (uM O8) fun b hb'=>(q1 b (List.mem_append_left _ hb')).1⟩
  ·exact⟨_,_,_,_,rfl,uU (uM JS) fun b hb'=>aI (aI hM1 hM) (q2 b (List.mem_append_left _ hb'))⟩
 ·refine List.Sublist.nodup ?_ hnd;by_cases hj:j=19
  ·subst hj;rw[tY];simp only[List.flatMap_cons,List.flatMap_nil,List.append_nil];exact List.Sublist.append (List.sublist_append_left _ _) (List.sublist_append_left _ _)
  ·rw[tX j hj,List.flatMap_append];exact List.Sublist.append ((k1.sub j).trans (List.sublist_append_right _ _)) ((k2.sub j).trans (List.sublist_append_right _ _))
 ·refine⟨by rw[tY];simp,?_⟩;rw[tX 2 (by decide),tX 4 (by decide),tX 5 (by decide),tX 9 (by decide)];by_cases hn:l1=[]
  ·have hn2:l2=[]:=List.length_eq_zero_iff.1 (by rw[hll,hn];rfl);have z1:y5=[]:=List.length_eq_zero_iff.1 (by rw[k1.len,hn];rfl);have z2:y8=[]:=List.length_eq_zero_iff.1 (by rw[k2.len,hn2];rfl);rw[z1,z2];exact .inr ⟨rfl,rfl,rfl,rfl⟩
  ·have:=k1.ne hn;exact .inl (by simp[this])
 ·refine sN (M:=1073741824) (fun v hv=>?_) i hi;by_cases hj:j=19
  ·subst hj;rw[tY]at hv;simp only[List.mem_cons,List.not_mem_nil,or_false]at hv;rcases hv with rfl|rfl
   ·simp[lenV];omega
   ·simp[lenV];omega
  ·rw[tX j hj]at hv;rcases List.mem_append.1 hv with hv|hv
   ·exact aI (k1.small j v hv) (by decide)
   ·exact aI (k2.small j v hv) (by decide)
 ·by_cases hj:j=19
  ·subst hj;rw[tY];show 2≤1000000;decide
  ·have a1:=k1.many j;have a2:=k2.many j;rw[GG]at a2;rw[tX j hj,aJ];omega
end
section
open Go.RowKit
def awS1:ByteArray:={data:=#[110,101,119,32,114,10,112,117,108,108,32,114,32,115,32,112]}
def awS2:ByteArray:={data:=#[112,117,108,108,32,114,32,115]}
def awR:ByteArray:={data:=#[114]}
def awS:ByteArray:={data:=#[115]}
def awP:ByteArray:={data:=#[112]}
theorem Bh:isWord {data:=#[115]}=true:=by
 have h:(ByteArray.toList {data:=#[115]}).isEmpty=false:=by
  rw[Bool.eq_false_iff,ne_eq,List.isEmpty_iff,fH];decide
 unfold isWord;rw[h];decide
theorem Bi:isWord {data:=#[112]}=true:=by
 have h:(ByteArray.toList {data:=#[112]}).isEmpty=false:=by
  rw[Bool.eq_false_iff,ne_eq,List.isEmpty_iff,fH];decide
 unfold isWord;rw[h];decide
theorem tZ:lineOf (wordsOf 32 {data:=#[110,101,119,32,114]})=some ⟨1,awR,noTxt,noTxt,noTxt,Pt.zero,[]⟩:=by
 rw[show wordsOf 32 {data:=#[110,101,119,32,114]}=[kwNew,awR]from by decide +kernel,eP,zap (k:=1) (by simp[kwL]),Option.bind_some,if_pos (show isWord awR=true from Jz)];rfl
theorem uf:lineOf (wordsOf 32 {data:=#[112,117,108,108,32,114,32,115,32,112]})=some ⟨3,awR,awS,awP,noTxt,Pt.zero,[]⟩:=by
 rw[show wordsOf 32 {data:=#[112,117,108,108,32,114,32,115,32,112]}=[kwPull,awR,awS,awP]from by decide +kernel,eP,zap (k:=3) (by simp[kwL]),Option.bind_some,if_pos (show isWord awR=true from Jz)];have h:restOf 3 ⟨3,awR,noTxt,noTxt,noTxt,Pt.zero,[]⟩ [awS,awP]=some (⟨3,awR,awS,awP,noTxt,Pt.zero,[]⟩,[]):=by
  show(if isWord awS && isWord awP then _ else _)=_;rw[show isWord awS=true from Bh,show isWord awP=true from Bi];rfl
 rw[h]
theorem ug:lineOf (wordsOf 32 {data:=#[112,117,108,108,32,114,32,115]})=none:=by
 rw[show wordsOf 32 {data:=#[112,117,108,108,32,114,32,115]}=[kwPull,awR,awS]from by decide +kernel,eP,zap (k:=3) (by simp[kwL]),Option.bind_some,if_pos (show isWord awR=true from Jz)];rfl
theorem uh:rowsOf 0 (wordsOf 10 awS1) = .ok [⟨1,awR,noTxt,noTxt,noTxt,Pt.zero,[]⟩,⟨3,awR,awS,awP,noTxt,Pt.zero,[]⟩]:=by
 rw[show wordsOf 10 awS1=[{data:=#[110,101,119,32,114]},{data:=#[112,117,108,108,32,114,32,115,32,112]}]from by decide +kernel,EI (by decide) tZ,EI (by decide) uf];rfl
theorem ui:rowsOf 0 (wordsOf 10 awS2) = .error 1:=by
 rw[show wordsOf 10 awS2=[{data:=#[112,117,108,108,32,114,32,115]}]from by decide +kernel,Jj (by decide) ug]
theorem xJ :∀t∈wordsOf 10 awS1,∀r,wordsOf 32 t=kwRecord::r→RestOk 106 restRecord:=by
 rw[show wordsOf 10 awS1=[{data:=#[110,101,119,32,114]},{data:=#[112,117,108,108,32,114,32,115,32,112]}]from by decide +kernel];intro t ht r hr;simp only[List.mem_cons,List.not_mem_nil,or_false]at ht;rcases ht with rfl|rfl
 ·rw[show wordsOf 32 {data:=#[110,101,119,32,114]}=[kwNew,awR]from by decide +kernel]at hr;exact absurd (List.cons.inj hr).1 (by decide)
 ·rw[show wordsOf 32 {data:=#[112,117,108,108,32,114,32,115,32,112]}=[kwPull,awR,awS,awP]from by decide +kernel]at hr;exact absurd (List.cons.inj hr).1 (by decide)
theorem xK :∀t∈wordsOf 10 awS2,∀r,wordsOf 32 t=kwRecord::r→RestOk 106 restRecord:=by
 rw[show wordsOf 10 awS2=[{data:=#[112,117,108,108,32,114,32,115]}]from by decide +kernel];intro t ht r hr;simp only[List.mem_cons,List.not_mem_nil,or_false]at ht;subst ht;rw[show wordsOf 32 {data:=#[112,117,108,108,32,114,32,115]}=[kwPull,awR,awS]from by decide +kernel]at hr;exact absurd (List.cons.inj hr).1 (by decide)
theorem nM{w:World}(hmx:MaxOkS w)(htab:TabOk w):Calls Tryz.prog 10 #[.string {data:=#[110,101,119,32,114,10,112,117,108,108,32,114,32,115,32,112]}] w fun e w'=>∃g c,e = .returned (.tuple #[.slice (some ⟨g,0,none⟩) 2 c,.agg #[.int .i64 0,.int .i64 0]])∧w'.cell? ⟨g,23,none⟩=some (.string {data:=#[112]})∧Below w.heap.size w w':=by
 refine(Nq (s:=awS1) (by decide) hmx htab xJ).mono ?_;rintro e w' ⟨hB,_,h⟩;obtain⟨l,v,hl,he,hR⟩:=(h (by decide)).2 _ uh;obtain⟨i1,i2,hi⟩:∃i1 i2,l=[i1,i2]:=by
  have hl':=hl;clear hR he h;rcases l with _|⟨i1,_|⟨i2,_|⟨i3,r⟩⟩⟩
  ·cases hl'
  ·simp at hl'
  ·exact⟨i1,i2,rfl⟩
  ·simp at hl'
 subst hi;have h2:i2.c.name=awP:=by
  have h3:=congrArg (fun l:List Cmd=>l[1]?) hl;have h4:some i2.c=some ⟨3,awR,awS,awP,noTxt,Pt.zero,[]⟩:=h3;injection h4 with h4;rw[h4]
 have ho:w'.ownsRow w.heap.size 46 20 v 2 (List.flatMap CIt.cells [i1,i2]):=hR.1;rcases ho.2 with⟨_,e0⟩|⟨g,cap,cur,e1,_⟩
 ·cases e0
 ·subst e1;refine⟨g,cap,he,?_,hB⟩;have h5:=World.ownsRow.cellAt ho 23 (by decide);rw[h5];show some (Value.string i2.c.name)=_;rw[h2];rfl
theorem nN{w:World}(hmx:MaxOkS w)(htab:TabOk w):Calls Tryz.prog 10 #[.string {data:=#[112,117,108,108,32,114,32,115]}] w fun e w'=>e = .returned (.tuple #[.slice none 0 0,.agg #[.int .i64 210,.int .i64 1]])∧Below w.heap.size w w':=by
 refine(Nq (s:=awS2) (by decide) hmx htab xK).mono ?_;rintro e w' ⟨hB,_,h⟩;exact⟨(h (by decide)).1 _ ui,hB⟩
theorem uj{w:World}{b:Nat}(hr:Rd (fun _=>True) w (some ⟨b,0,none⟩) (([{data:=#[97]},{data:=#[98]}]:List ByteArray).map .string)):
  Calls Tryz.prog 20 #[.agg #[.int .i64 0,.slice (some ⟨b,0,none⟩) 2 2,.string {data:=#[]},.slice none 0 0]] w fun e w'=>e = .returned (.string {data:=#[111,107,32,110,97,109,101,115,32,97,32,98]})∧Below w.heap.size w w':=by
 have h:AnIn (fun _=>True) w ⟨some ⟨b,0,none⟩,2,none,0⟩ ⟨0,[{data:=#[97]},{data:=#[98]}],{data:=#[]},[]⟩:=
  ⟨⟨by decide,by decide⟩,⟨hr,fun s hs=>(by simp at hs;rcases hs with rfl|rfl<;>decide),by decide⟩,by decide,⟨.nil,by decide⟩,⟨by show 2≤2;decide,by show 2≤9223372036854775807;decide⟩,⟨by show 0≤0;decide,by show 0≤9223372036854775807;decide⟩⟩
 refine(kG h rfl (by decide +kernel)).mono ?_;rintro e w' ⟨rfl,hB⟩;exact⟨congrArg (fun x=>Ending.returned (.string x)) (by decide +kernel),hB⟩
theorem uk{w:World}(hp:PowTab w):
  Calls Tryz.prog 20 #[.agg #[.int .i64 6,.slice none 0 0,.string {data:=#[]},.slice none 0 0]] w fun e w'=>e = .returned (.string {data:=#[101,114,114,111,114,32,54]})∧Below w.heap.size w w':=by
 have h:AnIn (fun _=>True) w ⟨none,0,none,0⟩ ⟨6,[],{data:=#[]},[]⟩:=
  ⟨⟨by decide,by decide⟩,⟨.nil,fun s hs=>(by cases hs),by decide⟩,by decide,⟨.nil,by decide⟩,⟨by decide,by decide⟩,⟨by decide,by decide⟩⟩
 have h2:=rH h hp (by decide +kernel);refine h2.mono ?_;rintro e w' ⟨rfl,hB⟩;exact⟨congrArg (fun x=>Ending.returned (.string x)) (by decide +kernel),hB⟩
theorem um(w:World):Rd (fun _=>True) (w.alloc (.cells #[.string {data:=#[97]},.string {data:=#[98]}] 9)) (some ⟨w.heap.size,0,none⟩) (([{data:=#[97]},{data:=#[98]}]:List ByteArray).map .string):=
 .inr ⟨_,0,rfl,trivial,fun j u hu=>by rw[Nat.zero_add,Lib.cell_of_heap (heap_alloc_new w _)];simpa using hu⟩
theorem ziX{w:World}(hmx:MaxOkS w)(htab:TabOk w)(nO:PowTab w):Calls Tryz.prog 9 #[] w fun e w'=>e = .returned (.bool true)∧Below w.heap.size w w':=by
 have Jo:=hide hmx;have af:=hide htab;have Pe:=hide nO;clear hmx htab nO;go_enter Tryz.func9,Tryz.ntmps9
 go_upto_region 3 with(first
  | (go_at_call 10;(with_reducible refine(nM Jo.out af.out).mono ?_);rintro e1 w1 ⟨g,cg,rfl,hg,hB1⟩;have HB1:=hide hB1;have Hg:=hide hg;clear hB1 hg)
  | (go_at_call 10;(with_reducible refine(nN (Jo.out.below (HB1.out.trans ((ag w1 _).mono HB1.out.size))) (af.out.below (HB1.out.trans ((ag w1 _).mono HB1.out.size)))).mono ?_);rintro e2 w2 ⟨rfl,hB2⟩;have HB2:=hide hB2;clear hB2))
 have hb3:=ag w2 (.cells #[.int .i64 210,.int .i64 1] 26);have hb1:=ag w1 (.cells #[.int .i64 0,.int .i64 0] 26);have hgl:g<w1.heap.size:=block_lt_of_cell Hg.out;have hz1:w1.heap.size<w2.heap.size:=by have:=HB2.out.size;simp at this;omega
 have hz0:=HB1.out.size;have c0:(w2.alloc (.cells #[.int .i64 210,.int .i64 1] 26)).cell? ⟨w1.heap.size,0,none⟩=some (.int .i64 0):=(hb3.cell (p:=⟨w1.heap.size,0,none⟩) hz1).trans ((HB2.out.cell (p:=⟨w1.heap.size,0,none⟩) (by simp)).trans (by rw[Lib.cell_of_heap (heap_alloc_new w1 _)];rfl));have cn:(w2.alloc (.cells #[.int .i64 210,.int .i64 1] 26)).cell? ⟨g,23,none⟩=some (.string {data:=#[112]}):=(hb3.cell (p:=⟨g,23,none⟩) (by show g<_;omega)).trans ((HB2.out.cell (p:=⟨g,23,none⟩) (by simp;omega)).trans ((hb1.cell (p:=⟨g,23,none⟩) hgl).trans Hg.out));have d0:(w2.alloc (.cells #[.int .i64 210,.int .i64 1] 26)).cell? ⟨w2.heap.size,0,none⟩=some (.int .i64 210):=by rw[Lib.cell_of_heap (heap_alloc_new w2 _)];rfl
 have d1:(w2.alloc (.cells #[.int .i64 210,.int .i64 1] 26)).cell? ⟨w2.heap.size,1,none⟩=some (.int .i64 1):=by rw[Lib.cell_of_heap (heap_alloc_new w2 _)];rfl
 have hW3:Below w.heap.size w (w2.alloc (.cells #[.int .i64 210,.int .i64 1] 26)):=((HB1.out.trans (hb1.mono hz0)).trans (HB2.out.mono (by simp;omega))).trans (hb3.mono (by omega));have HW3:=hide hW3;clear hb3 hb1 hW3 hgl hz1 hz0 HB1 HB2 Hg;generalize w2.alloc (.cells #[.int .i64 210,.int .i64 1] 26)=W3 at c0 cn d0 d1 HW3⊢
 go_wp2_with(first
  | (go_at_call 15;(with_reducible refine(ZG _).mono ?_);rintro e4 w4 ⟨rfl,hB4⟩;have HB4:=hide (HW3.out.trans (hB4.mono HW3.out.size));clear hB4)
  | (go_at_call 20;(with_reducible refine(uj (um _)).mono ?_);rintro e5 w5 ⟨rfl,nV⟩;have dV:=hide ((HB4.out.alloc HB4.out.size _).trans (nV.mono (aI HB4.out.size (by simp))));clear nV)
  | (go_at_call 20;(with_reducible refine(uk (Pe.out.below dV.out)).mono ?_);rintro e6 w6 ⟨rfl,qg⟩;have aV:=hide (dV.out.trans (qg.mono dV.out.size));clear qg))
 go_ret;exact⟨rfl,aV.out⟩
end
end Go.Proofs.YtjjaojnglnpgaaaGreatDoor
