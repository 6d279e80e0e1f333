/- Part 37 of what scriptShows_cardUpto rests on. -/
import Derived.Deep.RegionHeld
import Derived.Test.YtjjaojnglnpgaaaGreatDoorZ35
import Derived.Test.YtjjaojnglnpgaaaGreatDoorZ03
import Derived.Test.YtjjaojnglnpgaaaGreatDoorZ00
set_option linter.unusedVariables false
set_option linter.unusedSimpArgs false
set_option maxHeartbeats 16000000
set_option maxRecDepth 1000000
namespace Go.Proofs.YtjjaojnglnpgaaaGreatDoor
section
open Go.RowKit
theorem GH{f:Nat}{args:Array Value}{w:World}{P:Prop}{Q:World→Prop}(h:Calls Tryz.prog f args w fun e w'=>ah P e∧Q w')(hp:P):Calls Tryz.prog f args w fun e w'=>e = .returned (.bool true)∧Q w' :=
 h.mono fun _ _ ⟨⟨_,e,hb⟩,hq⟩=>⟨by rw[e,hb.2 hp],hq⟩
theorem qE{f:Nat}{args:Array Value}{w:World}{P:Prop}{Q:World→Prop}(h:Calls Tryz.prog f args w fun e w'=>ah P e∧Q w')(hp :¬P):Calls Tryz.prog f args w fun e w'=>e = .returned (.bool false)∧Q w' :=
 h.mono fun _ _ ⟨⟨b,e,hb⟩,hq⟩=>⟨by cases b with|false=>exact e|true=>exact absurd (hb.1 rfl) hp,hq⟩
theorem rO{f:Fo}(h:bD f):∃k t n ks,f = .cons k t n ks .nil:=by
 match f,h with
 | .cons k t n ks .nil,_=>exact⟨k,t,n,ks,rfl⟩
theorem zg6{S:Nat→Prop}{x:Eh}{e:Ed}{w:World}(he:dm S w x e)(h0 :¬({e with kind:=4}:Ed)=⟨4,e.path,0,0,⟨#[]⟩,⟨#[]⟩,e.old,e.new⟩):
  Calls Tryz.prog 182 #[.agg #[.int .u8 4,.slice x.pA e.path.length x.pc,.int .i64 e.at_,.int .i64 e.far,.string e.frm,.string e.to,.slice x.oA e.old.len x.oc,.slice x.nA e.new.len x.nc]] w fun e1 w'=>ah (dC {e with kind:=4}) e1∧Below w.heap.size w w':=by
 have Hh:=hide (And.intro h0 trivial);clear h0;have H:=hide he;obtain⟨W0,hW0⟩:∃W0,W0=w.alloc (.cells #[.int .u8 4,.slice x.pA e.path.length x.pc,.int .i64 e.at_,.int .i64 e.far,.string e.frm,.string e.to,.slice x.oA e.old.len x.oc,.slice x.nA e.new.len x.nc] 41):=⟨_,rfl⟩;have hcl0:bP W0 w.heap.size [.int .u8 4,.slice x.pA e.path.length x.pc,.int .i64 e.at_,.int .i64 e.far,.string e.frm,.string e.to,.slice x.oA e.old.len x.oc,.slice x.nA e.new.len x.nc]:=fun j u hu=>by rw[hW0,Lib.cell_of_heap (heap_alloc_new w _)];simpa using hu
 have kQ:Below w.heap.size w W0:=by rw[hW0];exact az _ _
 have HB0:=hide kQ;have HW0:=hide hW0;have hlp:=aI he.pc.1 he.pc.2;have b0:=hcl0 0 _ rfl;have b1:=hcl0 1 _ rfl;have b2:=hcl0 2 _ rfl;have b3:=hcl0 3 _ rfl;have b4:=hcl0 4 _ rfl;have b5:=hcl0 5 _ rfl;have b6:=hcl0 6 _ rfl;have b7:=hcl0 7 _ rfl;clear he hW0 hcl0 kQ;go_enter Tryz.func182,Tryz.ntmps182
 go_upto_region 1 with fail
 change Code.wp _ _ _ _ (w.alloc (.cells #[.int .u8 4,.slice x.pA e.path.length x.pc,.int .i64 e.at_,.int .i64 e.far,.string e.frm,.string e.to,.slice x.oA e.old.len x.oc,.slice x.nA e.new.len x.nc] 41));rw[←HW0.out]
 go_wp2_with fail
 go_loopw [3] (fun i wr=>∃q:Nat,q≤e.path.length∧i = .int .i64 q∧wr=W0∧Hid (∀j,(h:j<e.path.length)→j<q→Number e.path[j])) (fun i _=>e.path.length-(intOf i).toNat)
 case atStart=>exact⟨0,Nat.zero_le _,rfl,rfl,hide (fun j _ h=>absurd h (by omega))⟩
 case round =>
 obtain⟨q,hq,rfl,rfl,aQ⟩:=hrel;by_cases hlt:q<e.path.length
 ·obtain⟨b,o,hpa,hc⟩:=(H.out.path.below HB0.out).1.at_ (j:=q) (by simpa using hlt);simp only[List.getElem_map]at hc;rw[hpa]at b1;have CY:=hide hpa;clear hpa;obtain⟨m,hm⟩:∃m,m=e.path[q]:=⟨_,rfl⟩;rw[←hm]at hc;have Hm:=hide hm;clear hm
  go_wp2_with(go_at_call 229;(with_reducible refine(qJ m _).mono ?_);rintro e1 w1 ⟨⟨_|_,rfl,hb⟩,rfl⟩<;>(have Hb:=hide hb;clear hb))
  ·go_ret;refine⟨ah.no (fun h=>?_),HB0.out⟩;have h1:=h.1 _ (List.getElem_mem hlt);rw[←Hm.out]at h1;exact absurd (Hb.out.2 h1) (by decide)
  ·go_roundw
   case rel=>exact⟨q+1,by omega,by go_num,by first|trivial|rfl,hide (fun j h hj=>by
    rcases Nat.lt_or_ge j q with h2|h2
    ·exact aQ.out j h h2
    ·obtain rfl:j=q:=by omega
     rw[←Hm.out];exact Hb.out.1 (by first|rfl|trivial))⟩
   case measure=>simp[intOf];omega
 have bC:Hid (∀n∈e.path,Number n):=hide (fun n hn=>by
  obtain⟨j,hj,rfl⟩:=List.getElem_of_mem hn;exact aQ.out j hj (by omega))
 clear aQ;obtain⟨W1,hW1⟩:∃W1,W1=World.alloc wr (.cells #[.int .u8 4,.slice x.pA e.path.length x.pc,.int .i64 0,.int .i64 0,.string ⟨#[]⟩,.string ⟨#[]⟩,.slice none 0 0,.slice none 0 0] 41):=⟨_,rfl⟩;have hB1:dw w W1 [.int .u8 4,.slice x.pA e.path.length x.pc,.int .i64 e.at_,.int .i64 e.far,.string e.frm,.string e.to,.slice x.oA e.old.len x.oc,.slice x.nA e.new.len x.nc] [.int .u8 4,.slice x.pA e.path.length x.pc,.int .i64 0,.int .i64 0,.string ⟨#[]⟩,.string ⟨#[]⟩,.slice none 0 0,.slice none 0 0]:=by rw[hW1,HW0.out];exact dw.start w #[.int .u8 4,.slice x.pA e.path.length x.pc,.int .i64 e.at_,.int .i64 e.far,.string e.frm,.string e.to,.slice x.oA e.old.len x.oc,.slice x.nA e.new.len x.nc] #[.int .u8 4,.slice x.pA e.path.length x.pc,.int .i64 0,.int .i64 0,.string ⟨#[]⟩,.string ⟨#[]⟩,.slice none 0 0,.slice none 0 0] _ _
 have hz0:wr.heap.size=w.heap.size+1:=by rw[HW0.out];simp
 have HW1:=hide hW1;clear hW1
 go_upto_region 7 with fail
 change Code.wp _ _ _ _ (World.alloc wr (.cells #[.int .u8 4,.slice x.pA e.path.length x.pc,.int .i64 0,.int .i64 0,.string ⟨#[]⟩,.string ⟨#[]⟩,.slice none 0 0,.slice none 0 0] 41));rw[←HW1.out];clear b0 b1 b2 b3 b4 b5 b6 b7 HW1 HW0;clear hz0;have b0:=hB1.c 0 _ rfl;have b1:=hB1.c 1 _ rfl;have b2:=hB1.c 2 _ rfl;have b3:=hB1.c 3 _ rfl;have b4:=hB1.c 4 _ rfl;have b5:=hB1.c 5 _ rfl;have b6:=hB1.c 6 _ rfl;have b7:=hB1.c 7 _ rfl;have r0:=hB1.r 0 _ rfl;have r1:=hB1.r 1 _ rfl;have r2:=hB1.r 2 _ rfl;have r3:=hB1.r 3 _ rfl;have r4:=hB1.r 4 _ rfl;have r5:=hB1.r 5 _ rfl;have r6:=hB1.r 6 _ rfl;have r7:=hB1.r 7 _ rfl;have fr:=hB1.fr;have HB1:=hide hB1;clear hB1 HB0
 go_upto_region 23 with fail
 have hBa:=HB1.out.putR 6 [.slice x.oA e.old.len x.oc] (by simp);obtain⟨wa,fH⟩:∃wa,wa=World.setCells W1 (w.heap.size+1) 6 [.slice x.oA e.old.len x.oc]:=⟨_,rfl⟩;rw[←fH]at hBa;simp only[World.setCells]at fH;rw[←fH];replace hBa:dw w wa [.int .u8 4,.slice x.pA e.path.length x.pc,.int .i64 e.at_,.int .i64 e.far,.string e.frm,.string e.to,.slice x.oA e.old.len x.oc,.slice x.nA e.new.len x.nc] [.int .u8 4,.slice x.pA e.path.length x.pc,.int .i64 0,.int .i64 0,.string ⟨#[]⟩,.string ⟨#[]⟩,.slice x.oA e.old.len x.oc,.slice none 0 0]:=hBa;have jT:=hide hBa;clear hBa fH;have hBb:=jT.out.putR 7 [.slice x.nA e.new.len x.nc] (by simp);obtain⟨wb,iT⟩:∃wb,wb=World.setCells wa (w.heap.size+1) 7 [.slice x.nA e.new.len x.nc]:=⟨_,rfl⟩;rw[←iT]at hBb;simp only[World.setCells]at iT;rw[←iT];replace hBb:dw w wb [.int .u8 4,.slice x.pA e.path.length x.pc,.int .i64 e.at_,.int .i64 e.far,.string e.frm,.string e.to,.slice x.oA e.old.len x.oc,.slice x.nA e.new.len x.nc] [.int .u8 4,.slice x.pA e.path.length x.pc,.int .i64 0,.int .i64 0,.string ⟨#[]⟩,.string ⟨#[]⟩,.slice x.oA e.old.len x.oc,.slice x.nA e.new.len x.nc]:=hBb;have lT:=hide hBb;clear hBb iT;clear b0 r0 b1 r1 b2 r2 b3 r3 b4 r4 b5 r5 b6 r6 b7 r7 fr HB1;clear jT;have cu:=lT;clear lT;have aU:=cu.out;have b0:=aU.c 0 _ rfl;have b1:=aU.c 1 _ rfl;have b2:=aU.c 2 _ rfl;have b3:=aU.c 3 _ rfl;have b4:=aU.c 4 _ rfl;have b5:=aU.c 5 _ rfl;have b6:=aU.c 6 _ rfl;have b7:=aU.c 7 _ rfl;have r0:=aU.r 0 _ rfl;have r1:=aU.r 1 _ rfl;have r2:=aU.r 2 _ rfl;have r3:=aU.r 3 _ rfl;have r4:=aU.r 4 _ rfl;have r5:=aU.r 5 _ rfl;have r6:=aU.r 6 _ rfl;have r7:=aU.r 7 _ rfl;have hNb:w.heap.size<wb.heap.size:=block_lt_of_cell b0;have iU:w.heap.size+1<wb.heap.size:=block_lt_of_cell r0;have dV:=aU.b;have kR:=hide dV;clear aU dV;have dV:=kR.out;clear kR cu;have jb:Hid (∀W,Below wb.heap.size wb W→Calls Tryz.prog 155 #[.agg #[.int .u8 4,.slice x.pA e.path.length x.pc,.int .i64 e.at_,.int .i64 e.far,.string e.frm,.string e.to,.slice x.oA e.old.len x.oc,.slice x.nA e.new.len x.nc],.agg #[.int .u8 4,.slice x.pA e.path.length x.pc,.int .i64 0,.int .i64 0,.string ⟨#[]⟩,.string ⟨#[]⟩,.slice x.oA e.old.len x.oc,.slice x.nA e.new.len x.nc]] W fun e1 w'=>e1 = .returned (.bool false)∧Below W.heap.size W w'):=
  hide fun W h9=>(fun hW=>qE (wI (a:={e with kind:=4}) (b:=⟨4,e.path,0,0,⟨#[]⟩,⟨#[]⟩,e.old,e.new⟩) (x:=x) (y:=⟨x.pA,x.pc,x.oA,x.oc,x.nA,x.nc⟩) ⟨(by show 4<256;omega),H.out.path.below hW,H.out.at_,H.out.far,H.out.frm,H.out.to,H.out.old.below hW,H.out.new.below hW,H.out.pc,H.out.oc,H.out.nc⟩ ⟨(by show 4<256;omega),H.out.path.below hW,(by show ai 0;unfold ai;omega),(by show ai 0;unfold ai;omega),(by show(0:Nat)≤_;omega),(by show(0:Nat)≤_;omega),(H.out.old.below hW),(H.out.new.below hW),H.out.pc,H.out.oc,H.out.nc⟩) Hh.out.1) (aW dV h9)
 have hd1:Below wb.heap.size wb wb.drew:=di (Below.refl _ _) 1;refine wp_region_held_drew (S:=Below wb.heap.size wb) (by kernel_rfl) hd1 (fun hHeld=>?_);generalize wb.drew=wD at hHeld⊢;refine tk (v:=?_) 0 hHeld ?_ ?_;rotate_left
 ·intro w' hSw;have f0:=(hSw.cell (p:=⟨w.heap.size,0,none⟩) hNb).trans b0;have f1:=(hSw.cell (p:=⟨w.heap.size,1,none⟩) hNb).trans b1;have f2:=(hSw.cell (p:=⟨w.heap.size,2,none⟩) hNb).trans b2;have f3:=(hSw.cell (p:=⟨w.heap.size,3,none⟩) hNb).trans b3;have f4:=(hSw.cell (p:=⟨w.heap.size,4,none⟩) hNb).trans b4;have f5:=(hSw.cell (p:=⟨w.heap.size,5,none⟩) hNb).trans b5;have f6:=(hSw.cell (p:=⟨w.heap.size,6,none⟩) hNb).trans b6;have f7:=(hSw.cell (p:=⟨w.heap.size,7,none⟩) hNb).trans b7
  first|(go_simp;done)|(go_simp;with_reducible rfl)
 try simp only[aA,aB]
 refine tk (v:=?_) 1 hHeld ?_ ?_;rotate_left
 ·intro w' hSw;have f0:=(hSw.cell (p:=⟨w.heap.size+1,0,none⟩) iU).trans r0;have f1:=(hSw.cell (p:=⟨w.heap.size+1,1,none⟩) iU).trans r1;have f2:=(hSw.cell (p:=⟨w.heap.size+1,2,none⟩) iU).trans r2;have f3:=(hSw.cell (p:=⟨w.heap.size+1,3,none⟩) iU).trans r3;have f4:=(hSw.cell (p:=⟨w.heap.size+1,4,none⟩) iU).trans r4;have f5:=(hSw.cell (p:=⟨w.heap.size+1,5,none⟩) iU).trans r5;have f6:=(hSw.cell (p:=⟨w.heap.size+1,6,none⟩) iU).trans r6;have f7:=(hSw.cell (p:=⟨w.heap.size+1,7,none⟩) iU).trans r7
  first|(go_simp;done)|(go_simp;with_reducible rfl)
 try simp only[aA,aB]
 refine wpAnyH_ready (rs:=[2]) (by kernel_rfl) (by simp) ?_;refine AllReadyH.cons rfl (fun K hK=>?_) AllReadyH.nil;go_simp
 go_wp2_with(go_at_call 155;(with_reducible refine(jb.out _ hHeld).mono ?_);rintro e1 w1 ⟨rfl,hB1⟩)
 replace hHeld:=hHeld.trans (hB1.mono hHeld.size);refine hK.out _ _ hHeld (fun _=>?_);clear hK K hB1
 try simp only[Act.put,aG,aE,aF,aD,aA,aB]
 refine aj 3 hHeld ?_;refine tn 4 hHeld ?_
 try simp only[aA,aB]
 refine tn 5 hHeld ?_
 try simp only[aA,aB]
 refine tn 6 hHeld ?_
 try simp only[aA,aB]
 refine tn 7 hHeld ?_
 try simp only[aA,aB]
 refine aj 8 hHeld ?_;refine aj 9 hHeld ?_;refine tn 10 hHeld ?_
 try simp only[aA,aB]
 refine tn 11 hHeld ?_
 try simp only[aA,aB]
 refine tn 12 hHeld ?_
 try simp only[aA,aB]
 refine aj 13 hHeld ?_;refine aj 14 hHeld ?_;refine tn 15 hHeld ?_
 try simp only[aA,aB]
 refine tn 16 hHeld ?_
 try simp only[aA,aB]
 refine tn 17 hHeld ?_
 try simp only[aA,aB]
 refine aj 18 hHeld ?_;refine aj 19 hHeld ?_;refine tn 20 hHeld ?_
 try simp only[aA,aB]
 refine tn 21 hHeld ?_
 try simp only[aA,aB]
 refine tn 22 hHeld ?_
 try simp only[aA,aB]
 refine tn 23 hHeld ?_
 try simp only[aA,aB]
 refine tn 24 hHeld ?_
 try simp only[aA,aB]
 refine tn 25 hHeld ?_
 try simp only[aA,aB]
 refine tn 26 hHeld ?_
 try simp only[aA,aB]
 refine tn 27 hHeld ?_
 try simp only[aA,aB]
 refine tn 28 hHeld ?_
 try simp only[aA,aB]
 refine tn 29 hHeld ?_
 try simp only[aA,aB]
 refine aj 30 hHeld ?_;refine aj 31 hHeld ?_;have mZ:Hid (Below w.heap.size w _):=hide (aW dV hHeld);refine wpAnyH_done (by kernel_rfl) ?_ _
 try simp only[Act.put,aG,aE,aF,aD,aA,aB]
 go_wp2_with fail
 go_ret;exact⟨ah.no (fun h=>by have h9:=KW.1 h;have h8:=Hh.out;exact h8.1 h9.2.1),mZ.out⟩
theorem zg7{S:Nat→Prop}{x:Eh}{e:Ed}{w:World}(he:dm S w x e)(h0:({e with kind:=4}:Ed)=⟨4,e.path,0,0,⟨#[]⟩,⟨#[]⟩,e.old,e.new⟩)(h1:e.path=[]):
  Calls Tryz.prog 182 #[.agg #[.int .u8 4,.slice x.pA e.path.length x.pc,.int .i64 e.at_,.int .i64 e.far,.string e.frm,.string e.to,.slice x.oA e.old.len x.oc,.slice x.nA e.new.len x.nc]] w fun e1 w'=>ah (dC {e with kind:=4}) e1∧Below w.heap.size w w':=by
 have Hh:=hide (And.intro h0 (And.intro h1 trivial));clear h0 h1;have H:=hide he;obtain⟨W0,hW0⟩:∃W0,W0=w.alloc (.cells #[.int .u8 4,.slice x.pA e.path.length x.pc,.int .i64 e.at_,.int .i64 e.far,.string e.frm,.string e.to,.slice x.oA e.old.len x.oc,.slice x.nA e.new.len x.nc] 41):=⟨_,rfl⟩;have hcl0:bP W0 w.heap.size [.int .u8 4,.slice x.pA e.path.length x.pc,.int .i64 e.at_,.int .i64 e.far,.string e.frm,.string e.to,.slice x.oA e.old.len x.oc,.slice x.nA e.new.len x.nc]:=fun j u hu=>by rw[hW0,Lib.cell_of_heap (heap_alloc_new w _)];simpa using hu
 have kQ:Below w.heap.size w W0:=by rw[hW0];exact az _ _
 have HB0:=hide kQ;have HW0:=hide hW0;have hlp:=aI he.pc.1 he.pc.2;have b0:=hcl0 0 _ rfl;have b1:=hcl0 1 _ rfl;have b2:=hcl0 2 _ rfl;have b3:=hcl0 3 _ rfl;have b4:=hcl0 4 _ rfl;have b5:=hcl0 5 _ rfl;have b6:=hcl0 6 _ rfl;have b7:=hcl0 7 _ rfl;clear he hW0 hcl0 kQ;go_enter Tryz.func182,Tryz.ntmps182
 go_upto_region 1 with fail
 change Code.wp _ _ _ _ (w.alloc (.cells #[.int .u8 4,.slice x.pA e.path.length x.pc,.int .i64 e.at_,.int .i64 e.far,.string e.frm,.string e.to,.slice x.oA e.old.len x.oc,.slice x.nA e.new.len x.nc] 41));rw[←HW0.out]
 go_wp2_with fail
 go_loopw [3] (fun i wr=>∃q:Nat,q≤e.path.length∧i = .int .i64 q∧wr=W0∧Hid (∀j,(h:j<e.path.length)→j<q→Number e.path[j])) (fun i _=>e.path.length-(intOf i).toNat)
 case atStart=>exact⟨0,Nat.zero_le _,rfl,rfl,hide (fun j _ h=>absurd h (by omega))⟩
 case round =>
 obtain⟨q,hq,rfl,rfl,aQ⟩:=hrel;by_cases hlt:q<e.path.length
 ·obtain⟨b,o,hpa,hc⟩:=(H.out.path.below HB0.out).1.at_ (j:=q) (by simpa using hlt);simp only[List.getElem_map]at hc;rw[hpa]at b1;have CY:=hide hpa;clear hpa;obtain⟨m,hm⟩:∃m,m=e.path[q]:=⟨_,rfl⟩;rw[←hm]at hc;have Hm:=hide hm;clear hm
  go_wp2_with(go_at_call 229;(with_reducible refine(qJ m _).mono ?_);rintro e1 w1 ⟨⟨_|_,rfl,hb⟩,rfl⟩<;>(have Hb:=hide hb;clear hb))
  ·go_ret;refine⟨ah.no (fun h=>?_),HB0.out⟩;have h1:=h.1 _ (List.getElem_mem hlt);rw[←Hm.out]at h1;exact absurd (Hb.out.2 h1) (by decide)
  ·go_roundw
   case rel=>exact⟨q+1,by omega,by go_num,by first|trivial|rfl,hide (fun j h hj=>by
    rcases Nat.lt_or_ge j q with h2|h2
    ·exact aQ.out j h h2
    ·obtain rfl:j=q:=by omega
     rw[←Hm.out];exact Hb.out.1 (by first|rfl|trivial))⟩
   case measure=>simp[intOf];omega
 have bC:Hid (∀n∈e.path,Number n):=hide (fun n hn=>by
  obtain⟨j,hj,rfl⟩:=List.getElem_of_mem hn;exact aQ.out j hj (by omega))
 clear aQ;obtain⟨W1,hW1⟩:∃W1,W1=World.alloc wr (.cells #[.int .u8 4,.slice x.pA e.path.length x.pc,.int .i64 0,.int .i64 0,.string ⟨#[]⟩,.string ⟨#[]⟩,.slice none 0 0,.slice none 0 0] 41):=⟨_,rfl⟩;have hB1:dw w W1 [.int .u8 4,.slice x.pA e.path.length x.pc,.int .i64 e.at_,.int .i64 e.far,.string e.frm,.string e.to,.slice x.oA e.old.len x.oc,.slice x.nA e.new.len x.nc] [.int .u8 4,.slice x.pA e.path.length x.pc,.int .i64 0,.int .i64 0,.string ⟨#[]⟩,.string ⟨#[]⟩,.slice none 0 0,.slice none 0 0]:=by rw[hW1,HW0.out];exact dw.start w #[.int .u8 4,.slice x.pA e.path.length x.pc,.int .i64 e.at_,.int .i64 e.far,.string e.frm,.string e.to,.slice x.oA e.old.len x.oc,.slice x.nA e.new.len x.nc] #[.int .u8 4,.slice x.pA e.path.length x.pc,.int .i64 0,.int .i64 0,.string ⟨#[]⟩,.string ⟨#[]⟩,.slice none 0 0,.slice none 0 0] _ _
 have hz0:wr.heap.size=w.heap.size+1:=by rw[HW0.out];simp
 have HW1:=hide hW1;clear hW1
 go_upto_region 7 with fail
 change Code.wp _ _ _ _ (World.alloc wr (.cells #[.int .u8 4,.slice x.pA e.path.length x.pc,.int .i64 0,.int .i64 0,.string ⟨#[]⟩,.string ⟨#[]⟩,.slice none 0 0,.slice none 0 0] 41));rw[←HW1.out];clear b0 b1 b2 b3 b4 b5 b6 b7 HW1 HW0;clear hz0;have b0:=hB1.c 0 _ rfl;have b1:=hB1.c 1 _ rfl;have b2:=hB1.c 2 _ rfl;have b3:=hB1.c 3 _ rfl;have b4:=hB1.c 4 _ rfl;have b5:=hB1.c 5 _ rfl;have b6:=hB1.c 6 _ rfl;have b7:=hB1.c 7 _ rfl;have r0:=hB1.r 0 _ rfl;have r1:=hB1.r 1 _ rfl;have r2:=hB1.r 2 _ rfl;have r3:=hB1.r 3 _ rfl;have r4:=hB1.r 4 _ rfl;have r5:=hB1.r 5 _ rfl;have r6:=hB1.r 6 _ rfl;have r7:=hB1.r 7 _ rfl;have fr:=hB1.fr;have HB1:=hide hB1;clear hB1 HB0
 go_upto_region 23 with fail
 have hBa:=HB1.out.putR 6 [.slice x.oA e.old.len x.oc] (by simp);obtain⟨wa,fH⟩:∃wa,wa=World.setCells W1 (w.heap.size+1) 6 [.slice x.oA e.old.len x.oc]:=⟨_,rfl⟩;rw[←fH]at hBa;simp only[World.setCells]at fH;rw[←fH];replace hBa:dw w wa [.int .u8 4,.slice x.pA e.path.length x.pc,.int .i64 e.at_,.int .i64 e.far,.string e.frm,.string e.to,.slice x.oA e.old.len x.oc,.slice x.nA e.new.len x.nc] [.int .u8 4,.slice x.pA e.path.length x.pc,.int .i64 0,.int .i64 0,.string ⟨#[]⟩,.string ⟨#[]⟩,.slice x.oA e.old.len x.oc,.slice none 0 0]:=hBa;have jT:=hide hBa;clear hBa fH;have hBb:=jT.out.putR 7 [.slice x.nA e.new.len x.nc] (by simp);obtain⟨wb,iT⟩:∃wb,wb=World.setCells wa (w.heap.size+1) 7 [.slice x.nA e.new.len x.nc]:=⟨_,rfl⟩;rw[←iT]at hBb;simp only[World.setCells]at iT;rw[←iT];replace hBb:dw w wb [.int .u8 4,.slice x.pA e.path.length x.pc,.int .i64 e.at_,.int .i64 e.far,.string e.frm,.string e.to,.slice x.oA e.old.len x.oc,.slice x.nA e.new.len x.nc] [.int .u8 4,.slice x.pA e.path.length x.pc,.int .i64 0,.int .i64 0,.string ⟨#[]⟩,.string ⟨#[]⟩,.slice x.oA e.old.len x.oc,.slice x.nA e.new.len x.nc]:=hBb;have lT:=hide hBb;clear hBb iT;clear b0 r0 b1 r1 b2 r2 b3 r3 b4 r4 b5 r5 b6 r6 b7 r7 fr HB1;clear jT;have cu:=lT;clear lT;have aU:=cu.out;have b0:=aU.c 0 _ rfl;have b1:=aU.c 1 _ rfl;have b2:=aU.c 2 _ rfl;have b3:=aU.c 3 _ rfl;have b4:=aU.c 4 _ rfl;have b5:=aU.c 5 _ rfl;have b6:=aU.c 6 _ rfl;have b7:=aU.c 7 _ rfl;have r0:=aU.r 0 _ rfl;have r1:=aU.r 1 _ rfl;have r2:=aU.r 2 _ rfl;have r3:=aU.r 3 _ rfl;have r4:=aU.r 4 _ rfl;have r5:=aU.r 5 _ rfl;have r6:=aU.r 6 _ rfl;have r7:=aU.r 7 _ rfl;have hNb:w.heap.size<wb.heap.size:=block_lt_of_cell b0;have iU:w.heap.size+1<wb.heap.size:=block_lt_of_cell r0;have dV:=aU.b;have kR:=hide dV;clear aU dV;have dV:=kR.out;clear kR cu;have jb:Hid (∀W,Below wb.heap.size wb W→Calls Tryz.prog 155 #[.agg #[.int .u8 4,.slice x.pA e.path.length x.pc,.int .i64 e.at_,.int .i64 e.far,.string e.frm,.string e.to,.slice x.oA e.old.len x.oc,.slice x.nA e.new.len x.nc],.agg #[.int .u8 4,.slice x.pA e.path.length x.pc,.int .i64 0,.int .i64 0,.string ⟨#[]⟩,.string ⟨#[]⟩,.slice x.oA e.old.len x.oc,.slice x.nA e.new.len x.nc]] W fun e1 w'=>e1 = .returned (.bool true)∧Below W.heap.size W w'):=
  hide fun W h9=>(fun hW=>GH (wI (a:={e with kind:=4}) (b:=⟨4,e.path,0,0,⟨#[]⟩,⟨#[]⟩,e.old,e.new⟩) (x:=x) (y:=⟨x.pA,x.pc,x.oA,x.oc,x.nA,x.nc⟩) ⟨(by show 4<256;omega),H.out.path.below hW,H.out.at_,H.out.far,H.out.frm,H.out.to,H.out.old.below hW,H.out.new.below hW,H.out.pc,H.out.oc,H.out.nc⟩ ⟨(by show 4<256;omega),H.out.path.below hW,(by show ai 0;unfold ai;omega),(by show ai 0;unfold ai;omega),(by show(0:Nat)≤_;omega),(by show(0:Nat)≤_;omega),(H.out.old.below hW),(H.out.new.below hW),H.out.pc,H.out.oc,H.out.nc⟩) Hh.out.1) (aW dV h9)
 have hgt:decide ((0:Int)<(e.path.length:Int))=false:=by rw[Hh.out.2.1];rfl
 have hgt2:decide (0<e.path.length)=false:=by rw[Hh.out.2.1];rfl
 have hd1:Below wb.heap.size wb wb.drew:=di (Below.refl _ _) 1;refine wp_region_held_drew (S:=Below wb.heap.size wb) (by kernel_rfl) hd1 (fun hHeld=>?_);generalize wb.drew=wD at hHeld⊢;refine tk (v:=?_) 0 hHeld ?_ ?_;rotate_left
 ·intro w' hSw;have f0:=(hSw.cell (p:=⟨w.heap.size,0,none⟩) hNb).trans b0;have f1:=(hSw.cell (p:=⟨w.heap.size,1,none⟩) hNb).trans b1;have f2:=(hSw.cell (p:=⟨w.heap.size,2,none⟩) hNb).trans b2;have f3:=(hSw.cell (p:=⟨w.heap.size,3,none⟩) hNb).trans b3;have f4:=(hSw.cell (p:=⟨w.heap.size,4,none⟩) hNb).trans b4;have f5:=(hSw.cell (p:=⟨w.heap.size,5,none⟩) hNb).trans b5;have f6:=(hSw.cell (p:=⟨w.heap.size,6,none⟩) hNb).trans b6;have f7:=(hSw.cell (p:=⟨w.heap.size,7,none⟩) hNb).trans b7
  first|(go_simp;done)|(go_simp;with_reducible rfl)
 try simp only[aA,aB]
 refine tk (v:=?_) 1 hHeld ?_ ?_;rotate_left
 ·intro w' hSw;have f0:=(hSw.cell (p:=⟨w.heap.size+1,0,none⟩) iU).trans r0;have f1:=(hSw.cell (p:=⟨w.heap.size+1,1,none⟩) iU).trans r1;have f2:=(hSw.cell (p:=⟨w.heap.size+1,2,none⟩) iU).trans r2;have f3:=(hSw.cell (p:=⟨w.heap.size+1,3,none⟩) iU).trans r3;have f4:=(hSw.cell (p:=⟨w.heap.size+1,4,none⟩) iU).trans r4;have f5:=(hSw.cell (p:=⟨w.heap.size+1,5,none⟩) iU).trans r5;have f6:=(hSw.cell (p:=⟨w.heap.size+1,6,none⟩) iU).trans r6;have f7:=(hSw.cell (p:=⟨w.heap.size+1,7,none⟩) iU).trans r7
  first|(go_simp;done)|(go_simp;with_reducible rfl)
 try simp only[aA,aB]
 refine wpAnyH_ready (rs:=[2]) (by kernel_rfl) (by simp) ?_;refine AllReadyH.cons rfl (fun K hK=>?_) AllReadyH.nil;go_simp
 go_wp2_with(go_at_call 155;(with_reducible refine(jb.out _ hHeld).mono ?_);rintro e1 w1 ⟨rfl,hB1⟩)
 replace hHeld:=hHeld.trans (hB1.mono hHeld.size);refine hK.out _ _ hHeld (fun _=>?_);clear hK K hB1
 try simp only[Act.put,aG,aE,aF,aD,aA,aB]
 refine aj 3 hHeld ?_;refine aj 4 hHeld ?_;refine tk (v:=?_) 5 hHeld ?_ ?_;rotate_left
 ·intro w' hSw;have f1:=(hSw.cell (p:=⟨w.heap.size,1,none⟩) hNb).trans b1
  first|(go_simp;done)|(go_simp;with_reducible rfl)
 try simp only[aA,aB]
 refine aj 6 hHeld ?_;refine aj 7 hHeld ?_;refine aj 8 hHeld ?_;refine aj 9 hHeld ?_;refine tn 10 hHeld ?_
 try simp only[aA,aB]
 refine tn 11 hHeld ?_
 try simp only[aA,aB]
 refine tn 12 hHeld ?_
 try simp only[aA,aB]
 refine aj 13 hHeld ?_;refine aj 14 hHeld ?_;refine tn 15 hHeld ?_
 try simp only[aA,aB]
 refine tn 16 hHeld ?_
 try simp only[aA,aB]
 refine tn 17 hHeld ?_
 try simp only[aA,aB]
 refine aj 18 hHeld ?_;refine aj 19 hHeld ?_;refine tn 20 hHeld ?_
 try simp only[aA,aB]
 refine tn 21 hHeld ?_
 try simp only[aA,aB]
 refine tn 22 hHeld ?_
 try simp only[aA,aB]
 refine tn 23 hHeld ?_
 try simp only[aA,aB]
 refine tn 24 hHeld ?_
 try simp only[aA,aB]
 refine tn 25 hHeld ?_
 try simp only[aA,aB]
 refine tn 26 hHeld ?_
 try simp only[aA,aB]
 refine tn 27 hHeld ?_
 try simp only[aA,aB]
 refine tn 28 hHeld ?_
 try simp only[aA,aB]
 refine tn 29 hHeld ?_
 try simp only[aA,aB]
 refine aj 30 hHeld ?_;refine aj 31 hHeld ?_;have mZ:Hid (Below w.heap.size w _):=hide (aW dV hHeld);refine wpAnyH_done (by kernel_rfl) ?_ _
 try simp only[Act.put,aG,aE,aF,aD,aA,aB]
 go_wp2_with fail
 go_ret;exact⟨ah.no (fun h=>by have h9:=KW.1 h;have h8:=Hh.out;exact h9.2.2.1 h8.2.1),mZ.out⟩
theorem zg8{S:Nat→Prop}{x:Eh}{e:Ed}{w:World}(he:dm S w x e)(h0:({e with kind:=4}:Ed)=⟨4,e.path,0,0,⟨#[]⟩,⟨#[]⟩,e.old,e.new⟩)(h1:e.path≠[])(h2 :¬bD e.old):
  Calls Tryz.prog 182 #[.agg #[.int .u8 4,.slice x.pA e.path.length x.pc,.int .i64 e.at_,.int .i64 e.far,.string e.frm,.string e.to,.slice x.oA e.old.len x.oc,.slice x.nA e.new.len x.nc]] w fun e1 w'=>ah (dC {e with kind:=4}) e1∧Below w.heap.size w w':=by
 have Hh:=hide (And.intro h0 (And.intro h1 (And.intro h2 trivial)));clear h0 h1 h2;have H:=hide he;obtain⟨W0,hW0⟩:∃W0,W0=w.alloc (.cells #[.int .u8 4,.slice x.pA e.path.length x.pc,.int .i64 e.at_,.int .i64 e.far,.string e.frm,.string e.to,.slice x.oA e.old.len x.oc,.slice x.nA e.new.len x.nc] 41):=⟨_,rfl⟩;have hcl0:bP W0 w.heap.size [.int .u8 4,.slice x.pA e.path.length x.pc,.int .i64 e.at_,.int .i64 e.far,.string e.frm,.string e.to,.slice x.oA e.old.len x.oc,.slice x.nA e.new.len x.nc]:=fun j u hu=>by rw[hW0,Lib.cell_of_heap (heap_alloc_new w _)];simpa using hu
 have kQ:Below w.heap.size w W0:=by rw[hW0];exact az _ _
 have HB0:=hide kQ;have HW0:=hide hW0;have hlp:=aI he.pc.1 he.pc.2;have b0:=hcl0 0 _ rfl;have b1:=hcl0 1 _ rfl;have b2:=hcl0 2 _ rfl;have b3:=hcl0 3 _ rfl;have b4:=hcl0 4 _ rfl;have b5:=hcl0 5 _ rfl;have b6:=hcl0 6 _ rfl;have b7:=hcl0 7 _ rfl;clear he hW0 hcl0 kQ;go_enter Tryz.func182,Tryz.ntmps182
 go_upto_region 1 with fail
 change Code.wp _ _ _ _ (w.alloc (.cells #[.int .u8 4,.slice x.pA e.path.length x.pc,.int .i64 e.at_,.int .i64 e.far,.string e.frm,.string e.to,.slice x.oA e.old.len x.oc,.slice x.nA e.new.len x.nc] 41));rw[←HW0.out]
 go_wp2_with fail
 go_loopw [3] (fun i wr=>∃q:Nat,q≤e.path.length∧i = .int .i64 q∧wr=W0∧Hid (∀j,(h:j<e.path.length)→j<q→Number e.path[j])) (fun i _=>e.path.length-(intOf i).toNat)
 case atStart=>exact⟨0,Nat.zero_le _,rfl,rfl,hide (fun j _ h=>absurd h (by omega))⟩
 case round =>
 obtain⟨q,hq,rfl,rfl,aQ⟩:=hrel;by_cases hlt:q<e.path.length
 ·obtain⟨b,o,hpa,hc⟩:=(H.out.path.below HB0.out).1.at_ (j:=q) (by simpa using hlt);simp only[List.getElem_map]at hc;rw[hpa]at b1;have CY:=hide hpa;clear hpa;obtain⟨m,hm⟩:∃m,m=e.path[q]:=⟨_,rfl⟩;rw[←hm]at hc;have Hm:=hide hm;clear hm
  go_wp2_with(go_at_call 229;(with_reducible refine(qJ m _).mono ?_);rintro e1 w1 ⟨⟨_|_,rfl,hb⟩,rfl⟩<;>(have Hb:=hide hb;clear hb))
  ·go_ret;refine⟨ah.no (fun h=>?_),HB0.out⟩;have h1:=h.1 _ (List.getElem_mem hlt);rw[←Hm.out]at h1;exact absurd (Hb.out.2 h1) (by decide)
  ·go_roundw
   case rel=>exact⟨q+1,by omega,by go_num,by first|trivial|rfl,hide (fun j h hj=>by
    rcases Nat.lt_or_ge j q with h2|h2
    ·exact aQ.out j h h2
    ·obtain rfl:j=q:=by omega
     rw[←Hm.out];exact Hb.out.1 (by first|rfl|trivial))⟩
   case measure=>simp[intOf];omega
 have bC:Hid (∀n∈e.path,Number n):=hide (fun n hn=>by
  obtain⟨j,hj,rfl⟩:=List.getElem_of_mem hn;exact aQ.out j hj (by omega))
 clear aQ;obtain⟨W1,hW1⟩:∃W1,W1=World.alloc wr (.cells #[.int .u8 4,.slice x.pA e.path.length x.pc,.int .i64 0,.int .i64 0,.string ⟨#[]⟩,.string ⟨#[]⟩,.slice none 0 0,.slice none 0 0] 41):=⟨_,rfl⟩;have hB1:dw w W1 [.int .u8 4,.slice x.pA e.path.length x.pc,.int .i64 e.at_,.int .i64 e.far,.string e.frm,.string e.to,.slice x.oA e.old.len x.oc,.slice x.nA e.new.len x.nc] [.int .u8 4,.slice x.pA e.path.length x.pc,.int .i64 0,.int .i64 0,.string ⟨#[]⟩,.string ⟨#[]⟩,.slice none 0 0,.slice none 0 0]:=by rw[hW1,HW0.out];exact dw.start w #[.int .u8 4,.slice x.pA e.path.length x.pc,.int .i64 e.at_,.int .i64 e.far,.string e.frm,.string e.to,.slice x.oA e.old.len x.oc,.slice x.nA e.new.len x.nc] #[.int .u8 4,.slice x.pA e.path.length x.pc,.int .i64 0,.int .i64 0,.string ⟨#[]⟩,.string ⟨#[]⟩,.slice none 0 0,.slice none 0 0] _ _
 have hz0:wr.heap.size=w.heap.size+1:=by rw[HW0.out];simp
 have HW1:=hide hW1;clear hW1
 go_upto_region 7 with fail
 change Code.wp _ _ _ _ (World.alloc wr (.cells #[.int .u8 4,.slice x.pA e.path.length x.pc,.int .i64 0,.int .i64 0,.string ⟨#[]⟩,.string ⟨#[]⟩,.slice none 0 0,.slice none 0 0] 41));rw[←HW1.out];clear b0 b1 b2 b3 b4 b5 b6 b7 HW1 HW0;clear hz0;have b0:=hB1.c 0 _ rfl;have b1:=hB1.c 1 _ rfl;have b2:=hB1.c 2 _ rfl;have b3:=hB1.c 3 _ rfl;have b4:=hB1.c 4 _ rfl;have b5:=hB1.c 5 _ rfl;have b6:=hB1.c 6 _ rfl;have b7:=hB1.c 7 _ rfl;have r0:=hB1.r 0 _ rfl;have r1:=hB1.r 1 _ rfl;have r2:=hB1.r 2 _ rfl;have r3:=hB1.r 3 _ rfl;have r4:=hB1.r 4 _ rfl;have r5:=hB1.r 5 _ rfl;have r6:=hB1.r 6 _ rfl;have r7:=hB1.r 7 _ rfl;have fr:=hB1.fr;have HB1:=hide hB1;clear hB1 HB0
 go_upto_region 23 with fail
 have hBa:=HB1.out.putR 6 [.slice x.oA e.old.len x.oc] (by simp);obtain⟨wa,fH⟩:∃wa,wa=World.setCells W1 (w.heap.size+1) 6 [.slice x.oA e.old.len x.oc]:=⟨_,rfl⟩;rw[←fH]at hBa;simp only[World.setCells]at fH;rw[←fH];replace hBa:dw w wa [.int .u8 4,.slice x.pA e.path.length x.pc,.int .i64 e.at_,.int .i64 e.far,.string e.frm,.string e.to,.slice x.oA e.old.len x.oc,.slice x.nA e.new.len x.nc] [.int .u8 4,.slice x.pA e.path.length x.pc,.int .i64 0,.int .i64 0,.string ⟨#[]⟩,.string ⟨#[]⟩,.slice x.oA e.old.len x.oc,.slice none 0 0]:=hBa;have jT:=hide hBa;clear hBa fH;have hBb:=jT.out.putR 7 [.slice x.nA e.new.len x.nc] (by simp);obtain⟨wb,iT⟩:∃wb,wb=World.setCells wa (w.heap.size+1) 7 [.slice x.nA e.new.len x.nc]:=⟨_,rfl⟩;rw[←iT]at hBb;simp only[World.setCells]at iT;rw[←iT];replace hBb:dw w wb [.int .u8 4,.slice x.pA e.path.length x.pc,.int .i64 e.at_,.int .i64 e.far,.string e.frm,.string e.to,.slice x.oA e.old.len x.oc,.slice x.nA e.new.len x.nc] [.int .u8 4,.slice x.pA e.path.length x.pc,.int .i64 0,.int .i64 0,.string ⟨#[]⟩,.string ⟨#[]⟩,.slice x.oA e.old.len x.oc,.slice x.nA e.new.len x.nc]:=hBb;have lT:=hide hBb;clear hBb iT;clear b0 r0 b1 r1 b2 r2 b3 r3 b4 r4 b5 r5 b6 r6 b7 r7 fr HB1;clear jT;have cu:=lT;clear lT;have aU:=cu.out;have b0:=aU.c 0 _ rfl;have b1:=aU.c 1 _ rfl;have b2:=aU.c 2 _ rfl;have b3:=aU.c 3 _ rfl;have b4:=aU.c 4 _ rfl;have b5:=aU.c 5 _ rfl;have b6:=aU.c 6 _ rfl;have b7:=aU.c 7 _ rfl;have r0:=aU.r 0 _ rfl;have r1:=aU.r 1 _ rfl;have r2:=aU.r 2 _ rfl;have r3:=aU.r 3 _ rfl;have r4:=aU.r 4 _ rfl;have r5:=aU.r 5 _ rfl;have r6:=aU.r 6 _ rfl;have r7:=aU.r 7 _ rfl;have hNb:w.heap.size<wb.heap.size:=block_lt_of_cell b0;have iU:w.heap.size+1<wb.heap.size:=block_lt_of_cell r0;have dV:=aU.b;have kR:=hide dV;clear aU dV;have dV:=kR.out;clear kR cu;have jb:Hid (∀W,Below wb.heap.size wb W→Calls Tryz.prog 155 #[.agg #[.int .u8 4,.slice x.pA e.path.length x.pc,.int .i64 e.at_,.int .i64 e.far,.string e.frm,.string e.to,.slice x.oA e.old.len x.oc,.slice x.nA e.new.len x.nc],.agg #[.int .u8 4,.slice x.pA e.path.length x.pc,.int .i64 0,.int .i64 0,.string ⟨#[]⟩,.string ⟨#[]⟩,.slice x.oA e.old.len x.oc,.slice x.nA e.new.len x.nc]] W fun e1 w'=>e1 = .returned (.bool true)∧Below W.heap.size W w'):=
  hide fun W h9=>(fun hW=>GH (wI (a:={e with kind:=4}) (b:=⟨4,e.path,0,0,⟨#[]⟩,⟨#[]⟩,e.old,e.new⟩) (x:=x) (y:=⟨x.pA,x.pc,x.oA,x.oc,x.nA,x.nc⟩) ⟨(by show 4<256;omega),H.out.path.below hW,H.out.at_,H.out.far,H.out.frm,H.out.to,H.out.old.below hW,H.out.new.below hW,H.out.pc,H.out.oc,H.out.nc⟩ ⟨(by show 4<256;omega),H.out.path.below hW,(by show ai 0;unfold ai;omega),(by show ai 0;unfold ai;omega),(by show(0:Nat)≤_;omega),(by show(0:Nat)≤_;omega),(H.out.old.below hW),(H.out.new.below hW),H.out.pc,H.out.oc,H.out.nc⟩) Hh.out.1) (aW dV h9)
 have hgt:decide ((0:Int)<(e.path.length:Int))=true:=by have:=AA.1 Hh.out.2.1;simpa using this
 have hgt2:decide (0<e.path.length)=true:=by have:=AA.1 Hh.out.2.1;simp;omega
 have Ew:Hid (∀W,Below wb.heap.size wb W→Calls Tryz.prog 231 #[.slice x.oA e.old.len x.oc] W fun e1 w'=>e1 = .returned (.bool false)∧Below W.heap.size W w'):=hide fun W h9=>qE (Eu (H.out.old.below (aW dV h9)) (aI H.out.oc.1 H.out.oc.2)) Hh.out.2.2.1;have hd1:Below wb.heap.size wb wb.drew:=di (Below.refl _ _) 1;refine wp_region_held_drew (S:=Below wb.heap.size wb) (by kernel_rfl) hd1 (fun hHeld=>?_);generalize wb.drew=wD at hHeld⊢;refine tk (v:=?_) 0 hHeld ?_ ?_;rotate_left
 ·intro w' hSw;have f0:=(hSw.cell (p:=⟨w.heap.size,0,none⟩) hNb).trans b0;have f1:=(hSw.cell (p:=⟨w.heap.size,1,none⟩) hNb).trans b1;have f2:=(hSw.cell (p:=⟨w.heap.size,2,none⟩) hNb).trans b2;have f3:=(hSw.cell (p:=⟨w.heap.size,3,none⟩) hNb).trans b3;have f4:=(hSw.cell (p:=⟨w.heap.size,4,none⟩) hNb).trans b4;have f5:=(hSw.cell (p:=⟨w.heap.size,5,none⟩) hNb).trans b5;have f6:=(hSw.cell (p:=⟨w.heap.size,6,none⟩) hNb).trans b6;have f7:=(hSw.cell (p:=⟨w.heap.size,7,none⟩) hNb).trans b7
  first|(go_simp;done)|(go_simp;with_reducible rfl)
 try simp only[aA,aB]
 refine tk (v:=?_) 1 hHeld ?_ ?_;rotate_left
 ·intro w' hSw;have f0:=(hSw.cell (p:=⟨w.heap.size+1,0,none⟩) iU).trans r0;have f1:=(hSw.cell (p:=⟨w.heap.size+1,1,none⟩) iU).trans r1;have f2:=(hSw.cell (p:=⟨w.heap.size+1,2,none⟩) iU).trans r2;have f3:=(hSw.cell (p:=⟨w.heap.size+1,3,none⟩) iU).trans r3;have f4:=(hSw.cell (p:=⟨w.heap.size+1,4,none⟩) iU).trans r4;have f5:=(hSw.cell (p:=⟨w.heap.size+1,5,none⟩) iU).trans r5;have f6:=(hSw.cell (p:=⟨w.heap.size+1,6,none⟩) iU).trans r6;have f7:=(hSw.cell (p:=⟨w.heap.size+1,7,none⟩) iU).trans r7
  first|(go_simp;done)|(go_simp;with_reducible rfl)
 try simp only[aA,aB]
 refine wpAnyH_ready (rs:=[2]) (by kernel_rfl) (by simp) ?_;refine AllReadyH.cons rfl (fun K hK=>?_) AllReadyH.nil;go_simp
 go_wp2_with(go_at_call 155;(with_reducible refine(jb.out _ hHeld).mono ?_);rintro e1 w1 ⟨rfl,hB1⟩)
 replace hHeld:=hHeld.trans (hB1.mono hHeld.size);refine hK.out _ _ hHeld (fun _=>?_);clear hK K hB1
 try simp only[Act.put,aG,aE,aF,aD,aA,aB]
 refine aj 3 hHeld ?_;refine aj 4 hHeld ?_;refine tk (v:=?_) 5 hHeld ?_ ?_;rotate_left
 ·intro w' hSw;have f1:=(hSw.cell (p:=⟨w.heap.size,1,none⟩) hNb).trans b1
  first|(go_simp;done)|(go_simp;with_reducible rfl)
 try simp only[aA,aB]
 refine aj 6 hHeld ?_;refine aj 7 hHeld ?_;refine aj 8 hHeld ?_;refine aj 9 hHeld ?_;refine aj 10 hHeld ?_;refine tk (v:=?_) 11 hHeld ?_ ?_;rotate_left
 ·intro w' hSw;have f6:=(hSw.cell (p:=⟨w.heap.size,6,none⟩) hNb).trans b6
  first|(go_simp;done)|(go_simp;with_reducible rfl)
 try simp only[aA,aB]
 refine wpAnyH_ready (rs:=[12]) (by kernel_rfl) (by simp) ?_;refine AllReadyH.cons rfl (fun K hK=>?_) AllReadyH.nil;go_simp
 go_wp2_with(go_at_call 231;(with_reducible refine(Ew.out _ hHeld).mono ?_);rintro e1 w2 ⟨rfl,hB1⟩)
 replace hHeld:=hHeld.trans (hB1.mono hHeld.size);refine hK.out _ _ hHeld (fun _=>?_);clear hK K hB1
 try simp only[Act.put,aG,aE,aF,aD,aA,aB]
 refine aj 13 hHeld ?_;refine aj 14 hHeld ?_;refine tn 15 hHeld ?_
 try simp only[aA,aB]
 refine tn 16 hHeld ?_
 try simp only[aA,aB]
 refine tn 17 hHeld ?_
 try simp only[aA,aB]
 refine aj 18 hHeld ?_;refine aj 19 hHeld ?_;refine tn 20 hHeld ?_
 try simp only[aA,aB]
 refine tn 21 hHeld ?_
 try simp only[aA,aB]
 refine tn 22 hHeld ?_
 try simp only[aA,aB]
 refine tn 23 hHeld ?_
 try simp only[aA,aB]
 refine tn 24 hHeld ?_
 try simp only[aA,aB]
 refine tn 25 hHeld ?_
 try simp only[aA,aB]
 refine tn 26 hHeld ?_
 try simp only[aA,aB]
 refine tn 27 hHeld ?_
 try simp only[aA,aB]
 refine tn 28 hHeld ?_
 try simp only[aA,aB]
 refine tn 29 hHeld ?_
 try simp only[aA,aB]
 refine aj 30 hHeld ?_;refine aj 31 hHeld ?_;have mZ:Hid (Below w.heap.size w _):=hide (aW dV hHeld);refine wpAnyH_done (by kernel_rfl) ?_ _
 try simp only[Act.put,aG,aE,aF,aD,aA,aB]
 go_wp2_with fail
 go_ret;exact⟨ah.no (fun h=>by have h9:=KW.1 h;have h8:=Hh.out;exact h8.2.2.1 h9.2.2.2.1),mZ.out⟩
theorem zg9{S:Nat→Prop}{x:Eh}{e:Ed}{w:World}(he:dm S w x e)(h0:({e with kind:=4}:Ed)=⟨4,e.path,0,0,⟨#[]⟩,⟨#[]⟩,e.old,e.new⟩)(h1:e.path≠[])(h2:bD e.old)(h3 :¬bD e.new):
  Calls Tryz.prog 182 #[.agg #[.int .u8 4,.slice x.pA e.path.length x.pc,.int .i64 e.at_,.int .i64 e.far,.string e.frm,.string e.to,.slice x.oA e.old.len x.oc,.slice x.nA e.new.len x.nc]] w fun e1 w'=>ah (dC {e with kind:=4}) e1∧Below w.heap.size w w':=by
 have Hh:=hide (And.intro h0 (And.intro h1 (And.intro h2 h3)));clear h0 h1 h2 h3;have H:=hide he;obtain⟨W0,hW0⟩:∃W0,W0=w.alloc (.cells #[.int .u8 4,.slice x.pA e.path.length x.pc,.int .i64 e.at_,.int .i64 e.far,.string e.frm,.string e.to,.slice x.oA e.old.len x.oc,.slice x.nA e.new.len x.nc] 41):=⟨_,rfl⟩;have hcl0:bP W0 w.heap.size [.int .u8 4,.slice x.pA e.path.length x.pc,.int .i64 e.at_,.int .i64 e.far,.string e.frm,.string e.to,.slice x.oA e.old.len x.oc,.slice x.nA e.new.len x.nc]:=fun j u hu=>by rw[hW0,Lib.cell_of_heap (heap_alloc_new w _)];simpa using hu
 have kQ:Below w.heap.size w W0:=by rw[hW0];exact az _ _
 have HB0:=hide kQ;have HW0:=hide hW0;have hlp:=aI he.pc.1 he.pc.2;have b0:=hcl0 0 _ rfl;have b1:=hcl0 1 _ rfl;have b2:=hcl0 2 _ rfl;have b3:=hcl0 3 _ rfl;have b4:=hcl0 4 _ rfl;have b5:=hcl0 5 _ rfl;have b6:=hcl0 6 _ rfl;have b7:=hcl0 7 _ rfl;clear he hW0 hcl0 kQ;go_enter Tryz.func182,Tryz.ntmps182
 go_upto_region 1 with fail
 change Code.wp _ _ _ _ (w.alloc (.cells #[.int .u8 4,.slice x.pA e.path.length x.pc,.int .i64 e.at_,.int .i64 e.far,.string e.frm,.string e.to,.slice x.oA e.old.len x.oc,.slice x.nA e.new.len x.nc] 41));rw[←HW0.out]
 go_wp2_with fail
 go_loopw [3] (fun i wr=>∃q:Nat,q≤e.path.length∧i = .int .i64 q∧wr=W0∧Hid (∀j,(h:j<e.path.length)→j<q→Number e.path[j])) (fun i _=>e.path.length-(intOf i).toNat)
 case atStart=>exact⟨0,Nat.zero_le _,rfl,rfl,hide (fun j _ h=>absurd h (by omega))⟩
 case round =>
 obtain⟨q,hq,rfl,rfl,aQ⟩:=hrel;by_cases hlt:q<e.path.length
 ·obtain⟨b,o,hpa,hc⟩:=(H.out.path.below HB0.out).1.at_ (j:=q) (by simpa using hlt);simp only[List.getElem_map]at hc;rw[hpa]at b1;have CY:=hide hpa;clear hpa;obtain⟨m,hm⟩:∃m,m=e.path[q]:=⟨_,rfl⟩;rw[←hm]at hc;have Hm:=hide hm;clear hm
  go_wp2_with(go_at_call 229;(with_reducible refine(qJ m _).mono ?_);rintro e1 w1 ⟨⟨_|_,rfl,hb⟩,rfl⟩<;>(have Hb:=hide hb;clear hb))
  ·go_ret;refine⟨ah.no (fun h=>?_),HB0.out⟩;have h1:=h.1 _ (List.getElem_mem hlt);rw[←Hm.out]at h1;exact absurd (Hb.out.2 h1) (by decide)
  ·go_roundw
   case rel=>exact⟨q+1,by omega,by go_num,by first|trivial|rfl,hide (fun j h hj=>by
    rcases Nat.lt_or_ge j q with h2|h2
    ·exact aQ.out j h h2
    ·obtain rfl:j=q:=by omega
     rw[←Hm.out];exact Hb.out.1 (by first|rfl|trivial))⟩
   case measure=>simp[intOf];omega
 have bC:Hid (∀n∈e.path,Number n):=hide (fun n hn=>by
  obtain⟨j,hj,rfl⟩:=List.getElem_of_mem hn;exact aQ.out j hj (by omega))
 clear aQ;obtain⟨W1,hW1⟩:∃W1,W1=World.alloc wr (.cells #[.int .u8 4,.slice x.pA e.path.length x.pc,.int .i64 0,.int .i64 0,.string ⟨#[]⟩,.string ⟨#[]⟩,.slice none 0 0,.slice none 0 0] 41):=⟨_,rfl⟩;have hB1:dw w W1 [.int .u8 4,.slice x.pA e.path.length x.pc,.int .i64 e.at_,.int .i64 e.far,.string e.frm,.string e.to,.slice x.oA e.old.len x.oc,.slice x.nA e.new.len x.nc] [.int .u8 4,.slice x.pA e.path.length x.pc,.int .i64 0,.int .i64 0,.string ⟨#[]⟩,.string ⟨#[]⟩,.slice none 0 0,.slice none 0 0]:=by rw[hW1,HW0.out];exact dw.start w #[.int .u8 4,.slice x.pA e.path.length x.pc,.int .i64 e.at_,.int .i64 e.far,.string e.frm,.string e.to,.slice x.oA e.old.len x.oc,.slice x.nA e.new.len x.nc] #[.int .u8 4,.slice x.pA e.path.length x.pc,.int .i64 0,.int .i64 0,.string ⟨#[]⟩,.string ⟨#[]⟩,.slice none 0 0,.slice none 0 0] _ _
 have hz0:wr.heap.size=w.heap.size+1:=by rw[HW0.out];simp
 have HW1:=hide hW1;clear hW1
 go_upto_region 7 with fail
 change Code.wp _ _ _ _ (World.alloc wr (.cells #[.int .u8 4,.slice x.pA e.path.length x.pc,.int .i64 0,.int .i64 0,.string ⟨#[]⟩,.string ⟨#[]⟩,.slice none 0 0,.slice none 0 0] 41));rw[←HW1.out];clear b0 b1 b2 b3 b4 b5 b6 b7 HW1 HW0;clear hz0;have b0:=hB1.c 0 _ rfl;have b1:=hB1.c 1 _ rfl;have b2:=hB1.c 2 _ rfl;have b3:=hB1.c 3 _ rfl;have b4:=hB1.c 4 _ rfl;have b5:=hB1.c 5 _ rfl;have b6:=hB1.c 6 _ rfl;have b7:=hB1.c 7 _ rfl;have r0:=hB1.r 0 _ rfl;have r1:=hB1.r 1 _ rfl;have r2:=hB1.r 2 _ rfl;have r3:=hB1.r 3 _ rfl;have r4:=hB1.r 4 _ rfl;have r5:=hB1.r 5 _ rfl;have r6:=hB1.r 6 _ rfl;have r7:=hB1.r 7 _ rfl;have fr:=hB1.fr;have HB1:=hide hB1;clear hB1 HB0
 go_upto_region 23 with fail
 have hBa:=HB1.out.putR 6 [.slice x.oA e.old.len x.oc] (by simp);obtain⟨wa,fH⟩:∃wa,wa=World.setCells W1 (w.heap.size+1) 6 [.slice x.oA e.old.len x.oc]:=⟨_,rfl⟩;rw[←fH]at hBa;simp only[World.setCells]at fH;rw[←fH];replace hBa:dw w wa [.int .u8 4,.slice x.pA e.path.length x.pc,.int .i64 e.at_,.int .i64 e.far,.string e.frm,.string e.to,.slice x.oA e.old.len x.oc,.slice x.nA e.new.len x.nc] [.int .u8 4,.slice x.pA e.path.length x.pc,.int .i64 0,.int .i64 0,.string ⟨#[]⟩,.string ⟨#[]⟩,.slice x.oA e.old.len x.oc,.slice none 0 0]:=hBa;have jT:=hide hBa;clear hBa fH;have hBb:=jT.out.putR 7 [.slice x.nA e.new.len x.nc] (by simp);obtain⟨wb,iT⟩:∃wb,wb=World.setCells wa (w.heap.size+1) 7 [.slice x.nA e.new.len x.nc]:=⟨_,rfl⟩;rw[←iT]at hBb;simp only[World.setCells]at iT;rw[←iT];replace hBb:dw w wb [.int .u8 4,.slice x.pA e.path.length x.pc,.int .i64 e.at_,.int .i64 e.far,.string e.frm,.string e.to,.slice x.oA e.old.len x.oc,.slice x.nA e.new.len x.nc] [.int .u8 4,.slice x.pA e.path.length x.pc,.int .i64 0,.int .i64 0,.string ⟨#[]⟩,.string ⟨#[]⟩,.slice x.oA e.old.len x.oc,.slice x.nA e.new.len x.nc]:=hBb;have lT:=hide hBb;clear hBb iT;clear b0 r0 b1 r1 b2 r2 b3 r3 b4 r4 b5 r5 b6 r6 b7 r7 fr HB1;clear jT;have cu:=lT;clear lT;have aU:=cu.out;have b0:=aU.c 0 _ rfl;have b1:=aU.c 1 _ rfl;have b2:=aU.c 2 _ rfl;have b3:=aU.c 3 _ rfl;have b4:=aU.c 4 _ rfl;have b5:=aU.c 5 _ rfl;have b6:=aU.c 6 _ rfl;have b7:=aU.c 7 _ rfl;have r0:=aU.r 0 _ rfl;have r1:=aU.r 1 _ rfl;have r2:=aU.r 2 _ rfl;have r3:=aU.r 3 _ rfl;have r4:=aU.r 4 _ rfl;have r5:=aU.r 5 _ rfl;have r6:=aU.r 6 _ rfl;have r7:=aU.r 7 _ rfl;have hNb:w.heap.size<wb.heap.size:=block_lt_of_cell b0;have iU:w.heap.size+1<wb.heap.size:=block_lt_of_cell r0;have dV:=aU.b;have kR:=hide dV;clear aU dV;have dV:=kR.out;clear kR cu;have jb:Hid (∀W,Below wb.heap.size wb W→Calls Tryz.prog 155 #[.agg #[.int .u8 4,.slice x.pA e.path.length x.pc,.int .i64 e.at_,.int .i64 e.far,.string e.frm,.string e.to,.slice x.oA e.old.len x.oc,.slice x.nA e.new.len x.nc],.agg #[.int .u8 4,.slice x.pA e.path.length x.pc,.int .i64 0,.int .i64 0,.string ⟨#[]⟩,.string ⟨#[]⟩,.slice x.oA e.old.len x.oc,.slice x.nA e.new.len x.nc]] W fun e1 w'=>e1 = .returned (.bool true)∧Below W.heap.size W w'):=
  hide fun W h9=>(fun hW=>GH (wI (a:={e with kind:=4}) (b:=⟨4,e.path,0,0,⟨#[]⟩,⟨#[]⟩,e.old,e.new⟩) (x:=x) (y:=⟨x.pA,x.pc,x.oA,x.oc,x.nA,x.nc⟩) ⟨(by show 4<256;omega),H.out.path.below hW,H.out.at_,H.out.far,H.out.frm,H.out.to,H.out.old.below hW,H.out.new.below hW,H.out.pc,H.out.oc,H.out.nc⟩ ⟨(by show 4<256;omega),H.out.path.below hW,(by show ai 0;unfold ai;omega),(by show ai 0;unfold ai;omega),(by show(0:Nat)≤_;omega),(by show(0:Nat)≤_;omega),(H.out.old.below hW),(H.out.new.below hW),H.out.pc,H.out.oc,H.out.nc⟩) Hh.out.1) (aW dV h9)
 have hgt:decide ((0:Int)<(e.path.length:Int))=true:=by have:=AA.1 Hh.out.2.1;simpa using this
 have hgt2:decide (0<e.path.length)=true:=by have:=AA.1 Hh.out.2.1;simp;omega
 have Ew:Hid (∀W,Below wb.heap.size wb W→Calls Tryz.prog 231 #[.slice x.oA e.old.len x.oc] W fun e1 w'=>e1 = .returned (.bool true)∧Below W.heap.size W w'):=hide fun W h9=>GH (Eu (H.out.old.below (aW dV h9)) (aI H.out.oc.1 H.out.oc.2)) Hh.out.2.2.1;have IX:Hid (∀W,Below wb.heap.size wb W→Calls Tryz.prog 231 #[.slice x.nA e.new.len x.nc] W fun e1 w'=>e1 = .returned (.bool false)∧Below W.heap.size W w'):=hide fun W h9=>qE (Eu (H.out.new.below (aW dV h9)) (aI H.out.nc.1 H.out.nc.2)) Hh.out.2.2.2;have hd1:Below wb.heap.size wb wb.drew:=di (Below.refl _ _) 1;refine wp_region_held_drew (S:=Below wb.heap.size wb) (by kernel_rfl) hd1 (fun hHeld=>?_);generalize wb.drew=wD at hHeld⊢;refine tk (v:=?_) 0 hHeld ?_ ?_;rotate_left
 ·intro w' hSw;have f0:=(hSw.cell (p:=⟨w.heap.size,0,none⟩) hNb).trans b0;have f1:=(hSw.cell (p:=⟨w.heap.size,1,none⟩) hNb).trans b1;have f2:=(hSw.cell (p:=⟨w.heap.size,2,none⟩) hNb).trans b2;have f3:=(hSw.cell (p:=⟨w.heap.size,3,none⟩) hNb).trans b3;have f4:=(hSw.cell (p:=⟨w.heap.size,4,none⟩) hNb).trans b4;have f5:=(hSw.cell (p:=⟨w.heap.size,5,none⟩) hNb).trans b5;have f6:=(hSw.cell (p:=⟨w.heap.size,6,none⟩) hNb).trans b6;have f7:=(hSw.cell (p:=⟨w.heap.size,7,none⟩) hNb).trans b7
  first|(go_simp;done)|(go_simp;with_reducible rfl)
 try simp only[aA,aB]
 refine tk (v:=?_) 1 hHeld ?_ ?_;rotate_left
 ·intro w' hSw;have f0:=(hSw.cell (p:=⟨w.heap.size+1,0,none⟩) iU).trans r0;have f1:=(hSw.cell (p:=⟨w.heap.size+1,1,none⟩) iU).trans r1;have f2:=(hSw.cell (p:=⟨w.heap.size+1,2,none⟩) iU).trans r2;have f3:=(hSw.cell (p:=⟨w.heap.size+1,3,none⟩) iU).trans r3;have f4:=(hSw.cell (p:=⟨w.heap.size+1,4,none⟩) iU).trans r4;have f5:=(hSw.cell (p:=⟨w.heap.size+1,5,none⟩) iU).trans r5;have f6:=(hSw.cell (p:=⟨w.heap.size+1,6,none⟩) iU).trans r6;have f7:=(hSw.cell (p:=⟨w.heap.size+1,7,none⟩) iU).trans r7
  first|(go_simp;done)|(go_simp;with_reducible rfl)
 try simp only[aA,aB]
 refine wpAnyH_ready (rs:=[2]) (by kernel_rfl) (by simp) ?_;refine AllReadyH.cons rfl (fun K hK=>?_) AllReadyH.nil;go_simp
 go_wp2_with(go_at_call 155;(with_reducible refine(jb.out _ hHeld).mono ?_);rintro e1 w1 ⟨rfl,hB1⟩)
 replace hHeld:=hHeld.trans (hB1.mono hHeld.size);refine hK.out _ _ hHeld (fun _=>?_);clear hK K hB1
 try simp only[Act.put,aG,aE,aF,aD,aA,aB]
 refine aj 3 hHeld ?_;refine aj 4 hHeld ?_;refine tk (v:=?_) 5 hHeld ?_ ?_;rotate_left
 ·intro w' hSw;have f1:=(hSw.cell (p:=⟨w.heap.size,1,none⟩) hNb).trans b1
  first|(go_simp;done)|(go_simp;with_reducible rfl)
 try simp only[aA,aB]
 refine aj 6 hHeld ?_;refine aj 7 hHeld ?_;refine aj 8 hHeld ?_;refine aj 9 hHeld ?_;refine aj 10 hHeld ?_;refine tk (v:=?_) 11 hHeld ?_ ?_;rotate_left
 ·intro w' hSw;have f6:=(hSw.cell (p:=⟨w.heap.size,6,none⟩) hNb).trans b6
  first|(go_simp;done)|(go_simp;with_reducible rfl)
 try simp only[aA,aB]
 refine wpAnyH_ready (rs:=[12]) (by kernel_rfl) (by simp) ?_;refine AllReadyH.cons rfl (fun K hK=>?_) AllReadyH.nil;go_simp
 go_wp2_with(go_at_call 231;(with_reducible refine(Ew.out _ hHeld).mono ?_);rintro e1 w2 ⟨rfl,hB1⟩)
 replace hHeld:=hHeld.trans (hB1.mono hHeld.size);refine hK.out _ _ hHeld (fun _=>?_);clear hK K hB1
 try simp only[Act.put,aG,aE,aF,aD,aA,aB]
 refine aj 13 hHeld ?_;refine aj 14 hHeld ?_;refine aj 15 hHeld ?_;refine tk (v:=?_) 16 hHeld ?_ ?_;rotate_left
 ·intro w' hSw;have f7:=(hSw.cell (p:=⟨w.heap.size,7,none⟩) hNb).trans b7
  first|(go_simp;done)|(go_simp;with_reducible rfl)
 try simp only[aA,aB]
 refine wpAnyH_ready (rs:=[17]) (by kernel_rfl) (by simp) ?_;refine AllReadyH.cons rfl (fun K hK=>?_) AllReadyH.nil;go_simp
 go_wp2_with(go_at_call 231;(with_reducible refine(IX.out _ hHeld).mono ?_);rintro e1 w3 ⟨rfl,hB1⟩)
 replace hHeld:=hHeld.trans (hB1.mono hHeld.size);refine hK.out _ _ hHeld (fun _=>?_);clear hK K hB1
 try simp only[Act.put,aG,aE,aF,aD,aA,aB]
 refine aj 18 hHeld ?_;refine aj 19 hHeld ?_;refine tn 20 hHeld ?_
 try simp only[aA,aB]
 refine tn 21 hHeld ?_
 try simp only[aA,aB]
 refine tn 22 hHeld ?_
 try simp only[aA,aB]
 refine tn 23 hHeld ?_
 try simp only[aA,aB]
 refine tn 24 hHeld ?_
 try simp only[aA,aB]
 refine tn 25 hHeld ?_
 try simp only[aA,aB]
 refine tn 26 hHeld ?_
 try simp only[aA,aB]
 refine tn 27 hHeld ?_
 try simp only[aA,aB]
 refine tn 28 hHeld ?_
 try simp only[aA,aB]
 refine tn 29 hHeld ?_
 try simp only[aA,aB]
 refine aj 30 hHeld ?_;refine aj 31 hHeld ?_;have mZ:Hid (Below w.heap.size w _):=hide (aW dV hHeld);refine wpAnyH_done (by kernel_rfl) ?_ _
 try simp only[Act.put,aG,aE,aF,aD,aA,aB]
 go_wp2_with fail
 go_ret;exact⟨ah.no (fun h=>by have h9:=KW.1 h;have h8:=Hh.out;exact h8.2.2.2 h9.2.2.2.2.1),mZ.out⟩
theorem zha{S:Nat→Prop}{x:Eh}{e:Ed}{w:World}(he:dm S w x e)(h0:({e with kind:=4}:Ed)=⟨4,e.path,0,0,⟨#[]⟩,⟨#[]⟩,e.old,e.new⟩)(h1:e.path≠[])(h2:bD e.old)(h3:bD e.new):
  Calls Tryz.prog 182 #[.agg #[.int .u8 4,.slice x.pA e.path.length x.pc,.int .i64 e.at_,.int .i64 e.far,.string e.frm,.string e.to,.slice x.oA e.old.len x.oc,.slice x.nA e.new.len x.nc]] w fun e1 w'=>ah (dC {e with kind:=4}) e1∧Below w.heap.size w w':=by
 have Hh:=hide (And.intro h0 (And.intro h1 (And.intro h2 h3)));clear h0 h1 h2 h3;have H:=hide he;obtain⟨W0,hW0⟩:∃W0,W0=w.alloc (.cells #[.int .u8 4,.slice x.pA e.path.length x.pc,.int .i64 e.at_,.int .i64 e.far,.string e.frm,.string e.to,.slice x.oA e.old.len x.oc,.slice x.nA e.new.len x.nc] 41):=⟨_,rfl⟩;have hcl0:bP W0 w.heap.size [.int .u8 4,.slice x.pA e.path.length x.pc,.int .i64 e.at_,.int .i64 e.far,.string e.frm,.string e.to,.slice x.oA e.old.len x.oc,.slice x.nA e.new.len x.nc]:=fun j u hu=>by rw[hW0,Lib.cell_of_heap (heap_alloc_new w _)];simpa using hu
 have kQ:Below w.heap.size w W0:=by rw[hW0];exact az _ _
 have HB0:=hide kQ;have HW0:=hide hW0;have hlp:=aI he.pc.1 he.pc.2;have b0:=hcl0 0 _ rfl;have b1:=hcl0 1 _ rfl;have b2:=hcl0 2 _ rfl;have b3:=hcl0 3 _ rfl;have b4:=hcl0 4 _ rfl;have b5:=hcl0 5 _ rfl;have b6:=hcl0 6 _ rfl;have b7:=hcl0 7 _ rfl;clear he hW0 hcl0 kQ;go_enter Tryz.func182,Tryz.ntmps182
 go_upto_region 1 with fail
 change Code.wp _ _ _ _ (w.alloc (.cells #[.int .u8 4,.slice x.pA e.path.length x.pc,.int .i64 e.at_,.int .i64 e.far,.string e.frm,.string e.to,.slice x.oA e.old.len x.oc,.slice x.nA e.new.len x.nc] 41));rw[←HW0.out]
 go_wp2_with fail
 go_loopw [3] (fun i wr=>∃q:Nat,q≤e.path.length∧i = .int .i64 q∧wr=W0∧Hid (∀j,(h:j<e.path.length)→j<q→Number e.path[j])) (fun i _=>e.path.length-(intOf i).toNat)
 case atStart=>exact⟨0,Nat.zero_le _,rfl,rfl,hide (fun j _ h=>absurd h (by omega))⟩
 case round =>
 obtain⟨q,hq,rfl,rfl,aQ⟩:=hrel;by_cases hlt:q<e.path.length
 ·obtain⟨b,o,hpa,hc⟩:=(H.out.path.below HB0.out).1.at_ (j:=q) (by simpa using hlt);simp only[List.getElem_map]at hc;rw[hpa]at b1;have CY:=hide hpa;clear hpa;obtain⟨m,hm⟩:∃m,m=e.path[q]:=⟨_,rfl⟩;rw[←hm]at hc;have Hm:=hide hm;clear hm
  go_wp2_with(go_at_call 229;(with_reducible refine(qJ m _).mono ?_);rintro e1 w1 ⟨⟨_|_,rfl,hb⟩,rfl⟩<;>(have Hb:=hide hb;clear hb))
  ·go_ret;refine⟨ah.no (fun h=>?_),HB0.out⟩;have h1:=h.1 _ (List.getElem_mem hlt);rw[←Hm.out]at h1;exact absurd (Hb.out.2 h1) (by decide)
  ·go_roundw
   case rel=>exact⟨q+1,by omega,by go_num,by first|trivial|rfl,hide (fun j h hj=>by
    rcases Nat.lt_or_ge j q with h2|h2
    ·exact aQ.out j h h2
    ·obtain rfl:j=q:=by omega
     rw[←Hm.out];exact Hb.out.1 (by first|rfl|trivial))⟩
   case measure=>simp[intOf];omega
 have bC:Hid (∀n∈e.path,Number n):=hide (fun n hn=>by
  obtain⟨j,hj,rfl⟩:=List.getElem_of_mem hn;exact aQ.out j hj (by omega))
 clear aQ;obtain⟨W1,hW1⟩:∃W1,W1=World.alloc wr (.cells #[.int .u8 4,.slice x.pA e.path.length x.pc,.int .i64 0,.int .i64 0,.string ⟨#[]⟩,.string ⟨#[]⟩,.slice none 0 0,.slice none 0 0] 41):=⟨_,rfl⟩;have hB1:dw w W1 [.int .u8 4,.slice x.pA e.path.length x.pc,.int .i64 e.at_,.int .i64 e.far,.string e.frm,.string e.to,.slice x.oA e.old.len x.oc,.slice x.nA e.new.len x.nc] [.int .u8 4,.slice x.pA e.path.length x.pc,.int .i64 0,.int .i64 0,.string ⟨#[]⟩,.string ⟨#[]⟩,.slice none 0 0,.slice none 0 0]:=by rw[hW1,HW0.out];exact dw.start w #[.int .u8 4,.slice x.pA e.path.length x.pc,.int .i64 e.at_,.int .i64 e.far,.string e.frm,.string e.to,.slice x.oA e.old.len x.oc,.slice x.nA e.new.len x.nc] #[.int .u8 4,.slice x.pA e.path.length x.pc,.int .i64 0,.int .i64 0,.string ⟨#[]⟩,.string ⟨#[]⟩,.slice none 0 0,.slice none 0 0] _ _
 have hz0:wr.heap.size=w.heap.size+1:=by rw[HW0.out];simp
 have HW1:=hide hW1;clear hW1
 go_upto_region 7 with fail
 change Code.wp _ _ _ _ (World.alloc wr (.cells #[.int .u8 4,.slice x.pA e.path.length x.pc,.int .i64 0,.int .i64 0,.string ⟨#[]⟩,.string ⟨#[]⟩,.slice none 0 0,.slice none 0 0] 41));rw[←HW1.out];clear b0 b1 b2 b3 b4 b5 b6 b7 HW1 HW0;clear hz0;have b0:=hB1.c 0 _ rfl;have b1:=hB1.c 1 _ rfl;have b2:=hB1.c 2 _ rfl;have b3:=hB1.c 3 _ rfl;have b4:=hB1.c 4 _ rfl;have b5:=hB1.c 5 _ rfl;have b6:=hB1.c 6 _ rfl;have b7:=hB1.c 7 _ rfl;have r0:=hB1.r 0 _ rfl;have r1:=hB1.r 1 _ rfl;have r2:=hB1.r 2 _ rfl;have r3:=hB1.r 3 _ rfl;have r4:=hB1.r 4 _ rfl;have r5:=hB1.r 5 _ rfl;have r6:=hB1.r 6 _ rfl;have r7:=hB1.r 7 _ rfl;have fr:=hB1.fr;have HB1:=hide hB1;clear hB1 HB0
 go_upto_region 23 with fail
 have hBa:=HB1.out.putR 6 [.slice x.oA e.old.len x.oc] (by simp);obtain⟨wa,fH⟩:∃wa,wa=World.setCells W1 (w.heap.size+1) 6 [.slice x.oA e.old.len x.oc]:=⟨_,rfl⟩;rw[←fH]at hBa;simp only[World.setCells]at fH;rw[←fH];replace hBa:dw w wa [.int .u8 4,.slice x.pA e.path.length x.pc,.int .i64 e.at_,.int .i64 e.far,.string e.frm,.string e.to,.slice x.oA e.old.len x.oc,.slice x.nA e.new.len x.nc] [.int .u8 4,.slice x.pA e.path.length x.pc,.int .i64 0,.int .i64 0,.string ⟨#[]⟩,.string ⟨#[]⟩,.slice x.oA e.old.len x.oc,.slice none 0 0]:=hBa;have jT:=hide hBa;clear hBa fH;have hBb:=jT.out.putR 7 [.slice x.nA e.new.len x.nc] (by simp);obtain⟨wb,iT⟩:∃wb,wb=World.setCells wa (w.heap.size+1) 7 [.slice x.nA e.new.len x.nc]:=⟨_,rfl⟩;rw[←iT]at hBb;simp only[World.setCells]at iT;rw[←iT];replace hBb:dw w wb [.int .u8 4,.slice x.pA e.path.length x.pc,.int .i64 e.at_,.int .i64 e.far,.string e.frm,.string e.to,.slice x.oA e.old.len x.oc,.slice x.nA e.new.len x.nc] [.int .u8 4,.slice x.pA e.path.length x.pc,.int .i64 0,.int .i64 0,.string ⟨#[]⟩,.string ⟨#[]⟩,.slice x.oA e.old.len x.oc,.slice x.nA e.new.len x.nc]:=hBb;have lT:=hide hBb;clear hBb iT;clear b0 r0 b1 r1 b2 r2 b3 r3 b4 r4 b5 r5 b6 r6 b7 r7 fr HB1;clear jT;have cu:=lT;clear lT;have aU:=cu.out;have b0:=aU.c 0 _ rfl;have b1:=aU.c 1 _ rfl;have b2:=aU.c 2 _ rfl;have b3:=aU.c 3 _ rfl;have b4:=aU.c 4 _ rfl;have b5:=aU.c 5 _ rfl;have b6:=aU.c 6 _ rfl;have b7:=aU.c 7 _ rfl;have r0:=aU.r 0 _ rfl;have r1:=aU.r 1 _ rfl;have r2:=aU.r 2 _ rfl;have r3:=aU.r 3 _ rfl;have r4:=aU.r 4 _ rfl;have r5:=aU.r 5 _ rfl;have r6:=aU.r 6 _ rfl;have r7:=aU.r 7 _ rfl;have hNb:w.heap.size<wb.heap.size:=block_lt_of_cell b0;have iU:w.heap.size+1<wb.heap.size:=block_lt_of_cell r0;have dV:=aU.b;have kR:=hide dV;clear aU dV;have dV:=kR.out;clear kR cu;have jb:Hid (∀W,Below wb.heap.size wb W→Calls Tryz.prog 155 #[.agg #[.int .u8 4,.slice x.pA e.path.length x.pc,.int .i64 e.at_,.int .i64 e.far,.string e.frm,.string e.to,.slice x.oA e.old.len x.oc,.slice x.nA e.new.len x.nc],.agg #[.int .u8 4,.slice x.pA e.path.length x.pc,.int .i64 0,.int .i64 0,.string ⟨#[]⟩,.string ⟨#[]⟩,.slice x.oA e.old.len x.oc,.slice x.nA e.new.len x.nc]] W fun e1 w'=>e1 = .returned (.bool true)∧Below W.heap.size W w'):=
  hide fun W h9=>(fun hW=>GH (wI (a:={e with kind:=4}) (b:=⟨4,e.path,0,0,⟨#[]⟩,⟨#[]⟩,e.old,e.new⟩) (x:=x) (y:=⟨x.pA,x.pc,x.oA,x.oc,x.nA,x.nc⟩) ⟨(by show 4<256;omega),H.out.path.below hW,H.out.at_,H.out.far,H.out.frm,H.out.to,H.out.old.below hW,H.out.new.below hW,H.out.pc,H.out.oc,H.out.nc⟩ ⟨(by show 4<256;omega),H.out.path.below hW,(by show ai 0;unfold ai;omega),(by show ai 0;unfold ai;omega),(by show(0:Nat)≤_;omega),(by show(0:Nat)≤_;omega),(H.out.old.below hW),(H.out.new.below hW),H.out.pc,H.out.oc,H.out.nc⟩) Hh.out.1) (aW dV h9)
 have hgt:decide ((0:Int)<(e.path.length:Int))=true:=by have:=AA.1 Hh.out.2.1;simpa using this
 have hgt2:decide (0<e.path.length)=true:=by have:=AA.1 Hh.out.2.1;simp;omega
 have Ew:Hid (∀W,Below wb.heap.size wb W→Calls Tryz.prog 231 #[.slice x.oA e.old.len x.oc] W fun e1 w'=>e1 = .returned (.bool true)∧Below W.heap.size W w'):=hide fun W h9=>GH (Eu (H.out.old.below (aW dV h9)) (aI H.out.oc.1 H.out.oc.2)) Hh.out.2.2.1;have IX:Hid (∀W,Below wb.heap.size wb W→Calls Tryz.prog 231 #[.slice x.nA e.new.len x.nc] W fun e1 w'=>e1 = .returned (.bool true)∧Below W.heap.size W w'):=hide fun W h9=>GH (Eu (H.out.new.below (aW dV h9)) (aI H.out.nc.1 H.out.nc.2)) Hh.out.2.2.2;obtain⟨ko,t1,m1,qm,eo⟩:=rO Hh.out.2.2.1;obtain⟨kn,t2,m2,BN,en⟩:=rO Hh.out.2.2.2;have ho:=H.out.old.below dV;have hn:=H.out.new.below dV;rw[eo]at ho;rw[en]at hn;obtain⟨ob,oo,NL,kc1,KY,_,o0,o1,o2,o3,p1,p2,p3,p4,p5,hk1,_⟩:=ho;obtain⟨nb,no,KA2,OE,KZ,_,n0,n1,n2,n3,q1,q2,q3,q4,q5,hk2,_⟩:=hn;have hlo:e.old.len=1:=by rw[eo];rfl
 have hln:e.new.len=1:=by rw[en];rfl
 obtain⟨bb,hbb⟩:∃bb:Bool,bb=true↔e.old=e.new:=by
  by_cases h:e.old=e.new
  ·exact⟨true,by simp[h]⟩
  ·exact⟨false,by simp[h]⟩
 have Xl:=hide hbb;have Xm:Hid (∀W,Below wb.heap.size wb W→Calls Tryz.prog 148 #[.agg #[.int .u8 ko,.string t1,.int .i64 m1,.slice NL qm.len kc1],.agg #[.int .u8 kn,.string t2,.int .i64 m2,.slice KA2 BN.len OE]] W fun e1 w'=>e1 = .returned (.bool bb)∧Below W.heap.size W w'):=
  hide fun W h9=>(Uc (hk1.below h9) (hk2.below h9) (by omega) (by omega)).mono fun _ _ ⟨⟨b,e1,hb⟩,hq⟩=>⟨by
   have:b=bb:=by
    rw[Bool.eq_iff_iff,hb,hbb,eo,en];simp
   rw[e1,this],hq⟩
 have hNo:=block_lt_of_cell o0;have OG:=block_lt_of_cell n0;have Hx:=hide (And.intro KY KZ);rw[hlo,KY]at b6;rw[hln,KZ]at b7;rw[hlo]at Ew jb;rw[hln]at IX jb;rw[KY]at Ew jb;rw[KZ]at IX jb;rw[KY,hlo]at r6;rw[KZ,hln]at r7;have Hle:=hide (And.intro hlo hln);have Heo:=hide (And.intro eo en);clear hbb hk1 hk2 p3 q3 KY KZ hlo hln eo en;have hd1:Below wb.heap.size wb wb.drew:=di (Below.refl _ _) 1;refine wp_region_held_drew (S:=Below wb.heap.size wb) (by kernel_rfl) hd1 (fun hHeld=>?_);generalize wb.drew=wD at hHeld⊢;refine tk (v:=?_) 0 hHeld ?_ ?_;rotate_left
 ·intro w' hSw;have f0:=(hSw.cell (p:=⟨w.heap.size,0,none⟩) hNb).trans b0;have f1:=(hSw.cell (p:=⟨w.heap.size,1,none⟩) hNb).trans b1;have f2:=(hSw.cell (p:=⟨w.heap.size,2,none⟩) hNb).trans b2;have f3:=(hSw.cell (p:=⟨w.heap.size,3,none⟩) hNb).trans b3;have f4:=(hSw.cell (p:=⟨w.heap.size,4,none⟩) hNb).trans b4;have f5:=(hSw.cell (p:=⟨w.heap.size,5,none⟩) hNb).trans b5;have f6:=(hSw.cell (p:=⟨w.heap.size,6,none⟩) hNb).trans b6;have f7:=(hSw.cell (p:=⟨w.heap.size,7,none⟩) hNb).trans b7
  first|(go_simp;done)|(go_simp;with_reducible rfl)
 try simp only[aA,aB]
 refine tk (v:=?_) 1 hHeld ?_ ?_;rotate_left
 ·intro w' hSw;have f0:=(hSw.cell (p:=⟨w.heap.size+1,0,none⟩) iU).trans r0;have f1:=(hSw.cell (p:=⟨w.heap.size+1,1,none⟩) iU).trans r1;have f2:=(hSw.cell (p:=⟨w.heap.size+1,2,none⟩) iU).trans r2;have f3:=(hSw.cell (p:=⟨w.heap.size+1,3,none⟩) iU).trans r3;have f4:=(hSw.cell (p:=⟨w.heap.size+1,4,none⟩) iU).trans r4;have f5:=(hSw.cell (p:=⟨w.heap.size+1,5,none⟩) iU).trans r5;have f6:=(hSw.cell (p:=⟨w.heap.size+1,6,none⟩) iU).trans r6;have f7:=(hSw.cell (p:=⟨w.heap.size+1,7,none⟩) iU).trans r7
  first|(go_simp;done)|(go_simp;with_reducible rfl)
 try simp only[aA,aB]
 refine wpAnyH_ready (rs:=[2]) (by kernel_rfl) (by simp) ?_;refine AllReadyH.cons rfl (fun K hK=>?_) AllReadyH.nil;go_simp
 go_wp2_with(go_at_call 155;(with_reducible refine(jb.out _ hHeld).mono ?_);rintro e1 w1 ⟨rfl,hB1⟩)
 replace hHeld:=hHeld.trans (hB1.mono hHeld.size);refine hK.out _ _ hHeld (fun _=>?_);clear hK K hB1
 try simp only[Act.put,aG,aE,aF,aD,aA,aB]
 refine aj 3 hHeld ?_;refine aj 4 hHeld ?_;refine tk (v:=?_) 5 hHeld ?_ ?_;rotate_left
 ·intro w' hSw;have f1:=(hSw.cell (p:=⟨w.heap.size,1,none⟩) hNb).trans b1
  first|(go_simp;done)|(go_simp;with_reducible rfl)
 try simp only[aA,aB]
 refine aj 6 hHeld ?_;refine aj 7 hHeld ?_;refine aj 8 hHeld ?_;refine aj 9 hHeld ?_;refine aj 10 hHeld ?_;refine tk (v:=?_) 11 hHeld ?_ ?_;rotate_left
 ·intro w' hSw;have f6:=(hSw.cell (p:=⟨w.heap.size,6,none⟩) hNb).trans b6
  first|(go_simp;done)|(go_simp;with_reducible rfl)
 try simp only[aA,aB]
 refine wpAnyH_ready (rs:=[12]) (by kernel_rfl) (by simp) ?_;refine AllReadyH.cons rfl (fun K hK=>?_) AllReadyH.nil;go_simp
 go_wp2_with(go_at_call 231;(with_reducible refine(Ew.out _ hHeld).mono ?_);rintro e1 w2 ⟨rfl,hB1⟩)
 replace hHeld:=hHeld.trans (hB1.mono hHeld.size);refine hK.out _ _ hHeld (fun _=>?_);clear hK K hB1
 try simp only[Act.put,aG,aE,aF,aD,aA,aB]
 refine aj 13 hHeld ?_;refine aj 14 hHeld ?_;refine aj 15 hHeld ?_;refine tk (v:=?_) 16 hHeld ?_ ?_;rotate_left
 ·intro w' hSw;have f7:=(hSw.cell (p:=⟨w.heap.size,7,none⟩) hNb).trans b7
  first|(go_simp;done)|(go_simp;with_reducible rfl)
 try simp only[aA,aB]
 refine wpAnyH_ready (rs:=[17]) (by kernel_rfl) (by simp) ?_;refine AllReadyH.cons rfl (fun K hK=>?_) AllReadyH.nil;go_simp
 go_wp2_with(go_at_call 231;(with_reducible refine(IX.out _ hHeld).mono ?_);rintro e1 w3 ⟨rfl,hB1⟩)
 replace hHeld:=hHeld.trans (hB1.mono hHeld.size);refine hK.out _ _ hHeld (fun _=>?_);clear hK K hB1
 try simp only[Act.put,aG,aE,aF,aD,aA,aB]
 refine aj 18 hHeld ?_;refine aj 19 hHeld ?_;refine aj 20 hHeld ?_;refine tk (v:=?_) 21 hHeld ?_ ?_;rotate_left
 ·intro w' hSw;have f6:=(hSw.cell (p:=⟨w.heap.size,6,none⟩) hNb).trans b6
  first|(go_simp;done)|(go_simp;with_reducible rfl)
 try simp only[aA,aB]
 refine aj 22 hHeld ?_;refine tk (v:=?_) 23 hHeld ?_ ?_;rotate_left
 ·intro w' hSw;have g0:=(hSw.cell (p:=⟨ob,oo,none⟩) hNo).trans o0;have g1:=(hSw.cell (p:=⟨ob,oo+1,none⟩) hNo).trans o1;have g2:=(hSw.cell (p:=⟨ob,oo+2,none⟩) hNo).trans o2;have g3:=(hSw.cell (p:=⟨ob,oo+3,none⟩) hNo).trans o3
  first|(go_simp;done)|(go_simp;with_reducible rfl)
 try simp only[aA,aB]
 refine aj 24 hHeld ?_;refine tk (v:=?_) 25 hHeld ?_ ?_;rotate_left
 ·intro w' hSw;have f7:=(hSw.cell (p:=⟨w.heap.size,7,none⟩) hNb).trans b7
  first|(go_simp;done)|(go_simp;with_reducible rfl)
 try simp only[aA,aB]
 refine aj 26 hHeld ?_;refine tk (v:=?_) 27 hHeld ?_ ?_;rotate_left
 ·intro w' hSw;have g0:=(hSw.cell (p:=⟨nb,no,none⟩) OG).trans n0;have g1:=(hSw.cell (p:=⟨nb,no+1,none⟩) OG).trans n1;have g2:=(hSw.cell (p:=⟨nb,no+2,none⟩) OG).trans n2;have g3:=(hSw.cell (p:=⟨nb,no+3,none⟩) OG).trans n3
  first|(go_simp;done)|(go_simp;with_reducible rfl)
 try simp only[aA,aB]
 refine wpAnyH_ready (rs:=[28]) (by kernel_rfl) (by simp) ?_;refine AllReadyH.cons rfl (fun K hK=>?_) AllReadyH.nil;go_simp
 go_wp2_with(go_at_call 148;(with_reducible refine(Xm.out _ hHeld).mono ?_);rintro e1 w4 ⟨rfl,hB1⟩)
 replace hHeld:=hHeld.trans (hB1.mono hHeld.size);refine hK.out _ _ hHeld (fun _=>?_);clear hK K hB1
 try simp only[Act.put,aG,aE,aF,aD,aA,aB]
 refine aj 29 hHeld ?_;refine aj 30 hHeld ?_;refine aj 31 hHeld ?_;have mZ:Hid (Below w.heap.size w _):=hide (aW dV hHeld);refine wpAnyH_done (by kernel_rfl) ?_ _
 try simp only[Act.put,aG,aE,aF,aD,aA,aB]
 go_wp2_with fail
 go_ret;refine⟨ah.mk ?_,mZ.out⟩;rw[KW];have h8:=Hh.out;have h7:=bC.out;clear jb Ew IX Xm H Hx;rcases nM:bb with _|_
 ·exact⟨fun _=>⟨h7,h8.1,h8.2.1,h8.2.2.1,h8.2.2.2,fun h=>by have h9:=Xl.out.2 h;rw[nM]at h9;cases h9⟩,fun _=>rfl⟩
 ·exact⟨fun h=>(by cases h),fun h=>absurd (Xl.out.1 nM) h.2.2.2.2.2⟩
theorem zfT{S:Nat→Prop}{x:Eh}{e:Ed}{w:World}(he:dm S w x e):
  Calls Tryz.prog 182 #[.agg #[.int .u8 e.kind,.slice x.pA e.path.length x.pc,.int .i64 e.at_,.int .i64 e.far,.string e.frm,.string e.to,.slice x.oA e.old.len x.oc,.slice x.nA e.new.len x.nc]] w fun e1 w'=>ah (dC e) e1∧Below w.heap.size w w':=by
 obtain⟨kd,path,at_,far,frm,qY,old,new⟩:=e;by_cases h1:kd=1
 ·subst h1;exact zhY he
 by_cases h2:kd=2
 ·subst h2;exact zhZ he
 by_cases h3:kd=3
 ·subst h3;exact zh0 he
 by_cases h5:kd=5
 ·subst h5;exact zh1 he
 by_cases h4:kd=4
 ·subst h4;by_cases g0:(⟨4,path,at_,far,frm,qY,old,new⟩:Ed)=⟨4,path,0,0,⟨#[]⟩,⟨#[]⟩,old,new⟩
  ·by_cases g1:path=[]
   ·exact zg7 he g0 g1
   by_cases g2:bD old
   ·by_cases g3:bD new
    ·exact zha he g0 g1 g2 g3
    ·exact zg9 he g0 g1 g2 g3
   ·exact zg8 he g0 g1 g2
  ·exact zg6 he g0
 exact zh2 he h1 h2 h3 h4 h5
end
end Go.Proofs.YtjjaojnglnpgaaaGreatDoor
