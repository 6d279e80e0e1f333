/- Part 35. -/
import Derived.Deep.RegionHeld
import Derived.Test.YtjjaojnglnpgaaaGreatDoorZ33
import Derived.Test.YtjjaojnglnpgaaaGreatDoorZ03
import Derived.Test.YtjjaojnglnpgaaaGreatDoorZ00
set_option linter.unusedVariables false
set_option linter.unusedSimpArgs false
set_option maxHeartbeats 16000000
set_option maxRecDepth 1000000
namespace Go.Proofs.YtjjaojnglnpgaaaGreatDoor
section
open Go.RowKit
theorem Ap{f:Nat}{args:Array Value}{w:World}{P:Prop}{Q:World→Prop}(h:Calls Tryz.prog f args w fun e w'=>RetB P e∧Q w')(hp:P):Calls Tryz.prog f args w fun e w'=>e = .returned (.bool true)∧Q w' :=
 h.mono fun _ _ ⟨⟨_,e,hb⟩,hq⟩=>⟨by rw[e,hb.2 hp],hq⟩
theorem ret_no{f:Nat}{args:Array Value}{w:World}{P:Prop}{Q:World→Prop}(h:Calls Tryz.prog f args w fun e w'=>RetB P e∧Q w')(hp :¬P):Calls Tryz.prog f args w fun e w'=>e = .returned (.bool false)∧Q w' :=
 h.mono fun _ _ ⟨⟨b,e,hb⟩,hq⟩=>⟨by cases b with|false=>exact e|true=>exact absurd (hb.1 rfl) hp,hq⟩
theorem part_is{f:Fo}(h:PartOk f):∃k t n ks,f = .cons k t n ks .nil:=by
 match f,h with
 | .cons k t n ks .nil,_=>exact⟨k,t,n,ks,rfl⟩
theorem Y8{S:Nat→Prop}{x:Eh}{e:Ed}{w:World}(he:EdIn S w x e)(h0 :¬({e with kind:=4}:Ed)=⟨4,e.path,0,0,⟨#[]⟩,⟨#[]⟩,e.old,e.new⟩):
  Calls Tryz.prog 182 #[.agg #[.int .u8 4,.slice x.pA e.path.length x.pc,.int .i64 e.at_,.int .i64 e.far,.string e.frm,.string e.to,.slice x.oA e.old.len x.oc,.slice x.nA e.new.len x.nc]] w fun e1 w'=>RetB (EdOk {e with kind:=4}) e1∧Below w.heap.size w w':=by
 have Hh:=hide (And.intro h0 trivial);clear h0;have H:=hide he;obtain⟨W0,hW0⟩:∃W0,W0=w.alloc (.cells #[.int .u8 4,.slice x.pA e.path.length x.pc,.int .i64 e.at_,.int .i64 e.far,.string e.frm,.string e.to,.slice x.oA e.old.len x.oc,.slice x.nA e.new.len x.nc] 41):=⟨_,rfl⟩;have hcl0:CellsL W0 w.heap.size [.int .u8 4,.slice x.pA e.path.length x.pc,.int .i64 e.at_,.int .i64 e.far,.string e.frm,.string e.to,.slice x.oA e.old.len x.oc,.slice x.nA e.new.len x.nc]:=fun j u hu=>by rw[hW0,Lib.cell_of_heap (heap_alloc_new w _)];simpa using hu
 have dH:Below w.heap.size w W0:=by rw[hW0];exact ag _ _
 have HB0:=hide dH;have HW0:=hide hW0;have hlp:=aI he.pc.1 he.pc.2;have b0:=hcl0 0 _ rfl;have b1:=hcl0 1 _ rfl;have b2:=hcl0 2 _ rfl;have b3:=hcl0 3 _ rfl;have b4:=hcl0 4 _ rfl;have b5:=hcl0 5 _ rfl;have b6:=hcl0 6 _ rfl;have b7:=hcl0 7 _ rfl;clear he hW0 hcl0 dH;go_enter Tryz.func182,Tryz.ntmps182
 go_upto_region 1 with fail
 change Code.wp _ _ _ _ (w.alloc (.cells #[.int .u8 4,.slice x.pA e.path.length x.pc,.int .i64 e.at_,.int .i64 e.far,.string e.frm,.string e.to,.slice x.oA e.old.len x.oc,.slice x.nA e.new.len x.nc] 41));rw[←HW0.out]
 go_wp2_with fail
 go_loopw [3] (fun i wr=>∃q:Nat,q≤e.path.length∧i = .int .i64 q∧wr=W0∧Hid (∀j,(h:j<e.path.length)→j<q→Number e.path[j])) (fun i _=>e.path.length-(intOf i).toNat)
 case atStart=>exact⟨0,Nat.zero_le _,rfl,rfl,hide (fun j _ h=>absurd h (by omega))⟩
 case round =>
 obtain⟨q,hq,rfl,rfl,ah⟩:=hrel;by_cases hlt:q<e.path.length
 ·obtain⟨b,o,hpa,hc⟩:=(H.out.path.below HB0.out).1.at_ (j:=q) (by simpa using hlt);simp only[List.getElem_map]at hc;rw[hpa]at b1;have wW:=hide hpa;clear hpa;obtain⟨m,hm⟩:∃m,m=e.path[q]:=⟨_,rfl⟩;rw[←hm]at hc;have Hm:=hide hm;clear hm
  go_wp2_with(go_at_call 229;(with_reducible refine(kM m _).mono ?_);rintro e1 w1 ⟨⟨_|_,rfl,hb⟩,rfl⟩<;>(have Hb:=hide hb;clear hb))
  ·go_ret;refine⟨RetB.no (fun h=>?_),HB0.out⟩;have h1:=h.1 _ (List.getElem_mem hlt);rw[←Hm.out]at h1;exact absurd (Hb.out.2 h1) (by decide)
  ·go_roundw
   case rel=>exact⟨q+1,by omega,by go_num,by first|trivial|rfl,hide (fun j h hj=>by
    rcases Nat.lt_or_ge j q with h2|h2
    ·exact ah.out j h h2
    ·obtain rfl:j=q:=by omega
     rw[←Hm.out];exact Hb.out.1 (by first|rfl|trivial))⟩
   case measure=>simp[intOf];omega
 have au:Hid (∀n∈e.path,Number n):=hide (fun n hn=>by
  obtain⟨j,hj,rfl⟩:=List.getElem_of_mem hn;exact ah.out j hj (by omega))
 clear ah;obtain⟨W1,hW1⟩:∃W1,W1=World.alloc wr (.cells #[.int .u8 4,.slice x.pA e.path.length x.pc,.int .i64 0,.int .i64 0,.string ⟨#[]⟩,.string ⟨#[]⟩,.slice none 0 0,.slice none 0 0] 41):=⟨_,rfl⟩;have hB1:BxL w W1 [.int .u8 4,.slice x.pA e.path.length x.pc,.int .i64 e.at_,.int .i64 e.far,.string e.frm,.string e.to,.slice x.oA e.old.len x.oc,.slice x.nA e.new.len x.nc] [.int .u8 4,.slice x.pA e.path.length x.pc,.int .i64 0,.int .i64 0,.string ⟨#[]⟩,.string ⟨#[]⟩,.slice none 0 0,.slice none 0 0]:=by rw[hW1,HW0.out];exact BxL.start w #[.int .u8 4,.slice x.pA e.path.length x.pc,.int .i64 e.at_,.int .i64 e.far,.string e.frm,.string e.to,.slice x.oA e.old.len x.oc,.slice x.nA e.new.len x.nc] #[.int .u8 4,.slice x.pA e.path.length x.pc,.int .i64 0,.int .i64 0,.string ⟨#[]⟩,.string ⟨#[]⟩,.slice none 0 0,.slice none 0 0] _ _
 have hz0:wr.heap.size=w.heap.size+1:=by rw[HW0.out];simp
 have HW1:=hide hW1;clear hW1
 go_upto_region 7 with fail
 change Code.wp _ _ _ _ (World.alloc wr (.cells #[.int .u8 4,.slice x.pA e.path.length x.pc,.int .i64 0,.int .i64 0,.string ⟨#[]⟩,.string ⟨#[]⟩,.slice none 0 0,.slice none 0 0] 41));rw[←HW1.out];clear b0 b1 b2 b3 b4 b5 b6 b7 HW1 HW0;clear hz0;have b0:=hB1.c 0 _ rfl;have b1:=hB1.c 1 _ rfl;have b2:=hB1.c 2 _ rfl;have b3:=hB1.c 3 _ rfl;have b4:=hB1.c 4 _ rfl;have b5:=hB1.c 5 _ rfl;have b6:=hB1.c 6 _ rfl;have b7:=hB1.c 7 _ rfl;have r0:=hB1.r 0 _ rfl;have r1:=hB1.r 1 _ rfl;have r2:=hB1.r 2 _ rfl;have r3:=hB1.r 3 _ rfl;have r4:=hB1.r 4 _ rfl;have r5:=hB1.r 5 _ rfl;have r6:=hB1.r 6 _ rfl;have r7:=hB1.r 7 _ rfl;have fr:=hB1.fr;have HB1:=hide hB1;clear hB1 HB0
 go_upto_region 23 with fail
 have hBa:=HB1.out.putR 6 [.slice x.oA e.old.len x.oc] (by simp);obtain⟨wa,bD⟩:∃wa,wa=World.setCells W1 (w.heap.size+1) 6 [.slice x.oA e.old.len x.oc]:=⟨_,rfl⟩;rw[←bD]at hBa;simp only[World.setCells]at bD;rw[←bD];replace hBa:BxL w wa [.int .u8 4,.slice x.pA e.path.length x.pc,.int .i64 e.at_,.int .i64 e.far,.string e.frm,.string e.to,.slice x.oA e.old.len x.oc,.slice x.nA e.new.len x.nc] [.int .u8 4,.slice x.pA e.path.length x.pc,.int .i64 0,.int .i64 0,.string ⟨#[]⟩,.string ⟨#[]⟩,.slice x.oA e.old.len x.oc,.slice none 0 0]:=hBa;have dI:=hide hBa;clear hBa bD;have hBb:=dI.out.putR 7 [.slice x.nA e.new.len x.nc] (by simp);obtain⟨wb,bY⟩:∃wb,wb=World.setCells wa (w.heap.size+1) 7 [.slice x.nA e.new.len x.nc]:=⟨_,rfl⟩;rw[←bY]at hBb;simp only[World.setCells]at bY;rw[←bY];replace hBb:BxL w wb [.int .u8 4,.slice x.pA e.path.length x.pc,.int .i64 e.at_,.int .i64 e.far,.string e.frm,.string e.to,.slice x.oA e.old.len x.oc,.slice x.nA e.new.len x.nc] [.int .u8 4,.slice x.pA e.path.length x.pc,.int .i64 0,.int .i64 0,.string ⟨#[]⟩,.string ⟨#[]⟩,.slice x.oA e.old.len x.oc,.slice x.nA e.new.len x.nc]:=hBb;have eX:=hide hBb;clear hBb bY;clear b0 r0 b1 r1 b2 r2 b3 r3 b4 r4 b5 r5 b6 r6 b7 r7 fr HB1;clear dI;have ay:=eX;clear eX;have ai:=ay.out;have b0:=ai.c 0 _ rfl;have b1:=ai.c 1 _ rfl;have b2:=ai.c 2 _ rfl;have b3:=ai.c 3 _ rfl;have b4:=ai.c 4 _ rfl;have b5:=ai.c 5 _ rfl;have b6:=ai.c 6 _ rfl;have b7:=ai.c 7 _ rfl;have r0:=ai.r 0 _ rfl;have r1:=ai.r 1 _ rfl;have r2:=ai.r 2 _ rfl;have r3:=ai.r 3 _ rfl;have r4:=ai.r 4 _ rfl;have r5:=ai.r 5 _ rfl;have r6:=ai.r 6 _ rfl;have r7:=ai.r 7 _ rfl;have hNb:w.heap.size<wb.heap.size:=block_lt_of_cell b0;have bZ:w.heap.size+1<wb.heap.size:=block_lt_of_cell r0;have aW:=ai.b;have dR:=hide aW;clear ai aW;have aW:=dR.out;clear dR ay;have dC:Hid (∀W,Below wb.heap.size wb W→Calls Tryz.prog 155 #[.agg #[.int .u8 4,.slice x.pA e.path.length x.pc,.int .i64 e.at_,.int .i64 e.far,.string e.frm,.string e.to,.slice x.oA e.old.len x.oc,.slice x.nA e.new.len x.nc],.agg #[.int .u8 4,.slice x.pA e.path.length x.pc,.int .i64 0,.int .i64 0,.string ⟨#[]⟩,.string ⟨#[]⟩,.slice x.oA e.old.len x.oc,.slice x.nA e.new.len x.nc]] W fun e1 w'=>e1 = .returned (.bool false)∧Below W.heap.size W w'):=
  hide fun W h9=>(fun hW=>ret_no (uC (a:={e with kind:=4}) (b:=⟨4,e.path,0,0,⟨#[]⟩,⟨#[]⟩,e.old,e.new⟩) (x:=x) (y:=⟨x.pA,x.pc,x.oA,x.oc,x.nA,x.nc⟩) ⟨(by show 4<256;omega),H.out.path.below hW,H.out.at_,H.out.far,H.out.frm,H.out.to,H.out.old.below hW,H.out.new.below hW,H.out.pc,H.out.oc,H.out.nc⟩ ⟨(by show 4<256;omega),H.out.path.below hW,(by show isInt64 0;unfold isInt64;omega),(by show isInt64 0;unfold isInt64;omega),(by show(0:Nat)≤_;omega),(by show(0:Nat)≤_;omega),(H.out.old.below hW),(H.out.new.below hW),H.out.pc,H.out.oc,H.out.nc⟩) Hh.out.1) (ak aW h9)
 have hd1:Below wb.heap.size wb wb.drew:=aO (Below.refl _ _) 1;refine wp_region_held_drew (S:=Below wb.heap.size wb) (by kernel_rfl) hd1 (fun hHeld=>?_);generalize wb.drew=wD at hHeld⊢;refine tk (v:=?_) 0 hHeld ?_ ?_;rotate_left
 ·intro w' hSw;have f0:=(hSw.cell (p:=⟨w.heap.size,0,none⟩) hNb).trans b0;have f1:=(hSw.cell (p:=⟨w.heap.size,1,none⟩) hNb).trans b1;have f2:=(hSw.cell (p:=⟨w.heap.size,2,none⟩) hNb).trans b2;have f3:=(hSw.cell (p:=⟨w.heap.size,3,none⟩) hNb).trans b3;have f4:=(hSw.cell (p:=⟨w.heap.size,4,none⟩) hNb).trans b4;have f5:=(hSw.cell (p:=⟨w.heap.size,5,none⟩) hNb).trans b5;have f6:=(hSw.cell (p:=⟨w.heap.size,6,none⟩) hNb).trans b6;have f7:=(hSw.cell (p:=⟨w.heap.size,7,none⟩) hNb).trans b7
  first|(go_simp;done)|(go_simp;with_reducible rfl)
 try simp only[aA,aB]
 refine tk (v:=?_) 1 hHeld ?_ ?_;rotate_left
 ·intro w' hSw;have f0:=(hSw.cell (p:=⟨w.heap.size+1,0,none⟩) bZ).trans r0;have f1:=(hSw.cell (p:=⟨w.heap.size+1,1,none⟩) bZ).trans r1;have f2:=(hSw.cell (p:=⟨w.heap.size+1,2,none⟩) bZ).trans r2;have f3:=(hSw.cell (p:=⟨w.heap.size+1,3,none⟩) bZ).trans r3;have f4:=(hSw.cell (p:=⟨w.heap.size+1,4,none⟩) bZ).trans r4;have f5:=(hSw.cell (p:=⟨w.heap.size+1,5,none⟩) bZ).trans r5;have f6:=(hSw.cell (p:=⟨w.heap.size+1,6,none⟩) bZ).trans r6;have f7:=(hSw.cell (p:=⟨w.heap.size+1,7,none⟩) bZ).trans r7
  first|(go_simp;done)|(go_simp;with_reducible rfl)
 try simp only[aA,aB]
 refine wpAnyH_ready (rs:=[2]) (by kernel_rfl) (by simp) ?_;refine AllReadyH.cons rfl (fun K hK=>?_) AllReadyH.nil;go_simp
 go_wp2_with(go_at_call 155;(with_reducible refine(dC.out _ hHeld).mono ?_);rintro e1 w1 ⟨rfl,hB1⟩)
 replace hHeld:=hHeld.trans (hB1.mono hHeld.size);refine hK.out _ _ hHeld (fun _=>?_);clear hK K hB1
 try simp only[Act.put,aG,aE,aF,aD,aA,aB]
 refine ae 3 hHeld ?_;refine tn 4 hHeld ?_
 try simp only[aA,aB]
 refine tn 5 hHeld ?_
 try simp only[aA,aB]
 refine tn 6 hHeld ?_
 try simp only[aA,aB]
 refine tn 7 hHeld ?_
 try simp only[aA,aB]
 refine ae 8 hHeld ?_;refine ae 9 hHeld ?_;refine tn 10 hHeld ?_
 try simp only[aA,aB]
 refine tn 11 hHeld ?_
 try simp only[aA,aB]
 refine tn 12 hHeld ?_
 try simp only[aA,aB]
 refine ae 13 hHeld ?_;refine ae 14 hHeld ?_;refine tn 15 hHeld ?_
 try simp only[aA,aB]
 refine tn 16 hHeld ?_
 try simp only[aA,aB]
 refine tn 17 hHeld ?_
 try simp only[aA,aB]
 refine ae 18 hHeld ?_;refine ae 19 hHeld ?_;refine tn 20 hHeld ?_
 try simp only[aA,aB]
 refine tn 21 hHeld ?_
 try simp only[aA,aB]
 refine tn 22 hHeld ?_
 try simp only[aA,aB]
 refine tn 23 hHeld ?_
 try simp only[aA,aB]
 refine tn 24 hHeld ?_
 try simp only[aA,aB]
 refine tn 25 hHeld ?_
 try simp only[aA,aB]
 refine tn 26 hHeld ?_
 try simp only[aA,aB]
 refine tn 27 hHeld ?_
 try simp only[aA,aB]
 refine tn 28 hHeld ?_
 try simp only[aA,aB]
 refine tn 29 hHeld ?_
 try simp only[aA,aB]
 refine ae 30 hHeld ?_;refine ae 31 hHeld ?_;have wX:Hid (Below w.heap.size w _):=hide (ak aW hHeld);refine wpAnyH_done (by kernel_rfl) ?_ _
 try simp only[Act.put,aG,aE,aF,aD,aA,aB]
 go_wp2_with fail
 go_ret;exact⟨RetB.no (fun h=>by have h9:=E5.1 h;have h8:=Hh.out;exact h8.1 h9.2.1),wX.out⟩
theorem Y9{S:Nat→Prop}{x:Eh}{e:Ed}{w:World}(he:EdIn S w x e)(h0:({e with kind:=4}:Ed)=⟨4,e.path,0,0,⟨#[]⟩,⟨#[]⟩,e.old,e.new⟩)(h1:e.path=[]):
  Calls Tryz.prog 182 #[.agg #[.int .u8 4,.slice x.pA e.path.length x.pc,.int .i64 e.at_,.int .i64 e.far,.string e.frm,.string e.to,.slice x.oA e.old.len x.oc,.slice x.nA e.new.len x.nc]] w fun e1 w'=>RetB (EdOk {e with kind:=4}) e1∧Below w.heap.size w w':=by
 have Hh:=hide (And.intro h0 (And.intro h1 trivial));clear h0 h1;have H:=hide he;obtain⟨W0,hW0⟩:∃W0,W0=w.alloc (.cells #[.int .u8 4,.slice x.pA e.path.length x.pc,.int .i64 e.at_,.int .i64 e.far,.string e.frm,.string e.to,.slice x.oA e.old.len x.oc,.slice x.nA e.new.len x.nc] 41):=⟨_,rfl⟩;have hcl0:CellsL W0 w.heap.size [.int .u8 4,.slice x.pA e.path.length x.pc,.int .i64 e.at_,.int .i64 e.far,.string e.frm,.string e.to,.slice x.oA e.old.len x.oc,.slice x.nA e.new.len x.nc]:=fun j u hu=>by rw[hW0,Lib.cell_of_heap (heap_alloc_new w _)];simpa using hu
 have dH:Below w.heap.size w W0:=by rw[hW0];exact ag _ _
 have HB0:=hide dH;have HW0:=hide hW0;have hlp:=aI he.pc.1 he.pc.2;have b0:=hcl0 0 _ rfl;have b1:=hcl0 1 _ rfl;have b2:=hcl0 2 _ rfl;have b3:=hcl0 3 _ rfl;have b4:=hcl0 4 _ rfl;have b5:=hcl0 5 _ rfl;have b6:=hcl0 6 _ rfl;have b7:=hcl0 7 _ rfl;clear he hW0 hcl0 dH;go_enter Tryz.func182,Tryz.ntmps182
 go_upto_region 1 with fail
 change Code.wp _ _ _ _ (w.alloc (.cells #[.int .u8 4,.slice x.pA e.path.length x.pc,.int .i64 e.at_,.int .i64 e.far,.string e.frm,.string e.to,.slice x.oA e.old.len x.oc,.slice x.nA e.new.len x.nc] 41));rw[←HW0.out]
 go_wp2_with fail
 go_loopw [3] (fun i wr=>∃q:Nat,q≤e.path.length∧i = .int .i64 q∧wr=W0∧Hid (∀j,(h:j<e.path.length)→j<q→Number e.path[j])) (fun i _=>e.path.length-(intOf i).toNat)
 case atStart=>exact⟨0,Nat.zero_le _,rfl,rfl,hide (fun j _ h=>absurd h (by omega))⟩
 case round =>
 obtain⟨q,hq,rfl,rfl,ah⟩:=hrel;by_cases hlt:q<e.path.length
 ·obtain⟨b,o,hpa,hc⟩:=(H.out.path.below HB0.out).1.at_ (j:=q) (by simpa using hlt);simp only[List.getElem_map]at hc;rw[hpa]at b1;have wW:=hide hpa;clear hpa;obtain⟨m,hm⟩:∃m,m=e.path[q]:=⟨_,rfl⟩;rw[←hm]at hc;have Hm:=hide hm;clear hm
  go_wp2_with(go_at_call 229;(with_reducible refine(kM m _).mono ?_);rintro e1 w1 ⟨⟨_|_,rfl,hb⟩,rfl⟩<;>(have Hb:=hide hb;clear hb))
  ·go_ret;refine⟨RetB.no (fun h=>?_),HB0.out⟩;have h1:=h.1 _ (List.getElem_mem hlt);rw[←Hm.out]at h1;exact absurd (Hb.out.2 h1) (by decide)
  ·go_roundw
   case rel=>exact⟨q+1,by omega,by go_num,by first|trivial|rfl,hide (fun j h hj=>by
    rcases Nat.lt_or_ge j q with h2|h2
    ·exact ah.out j h h2
    ·obtain rfl:j=q:=by omega
     rw[←Hm.out];exact Hb.out.1 (by first|rfl|trivial))⟩
   case measure=>simp[intOf];omega
 have au:Hid (∀n∈e.path,Number n):=hide (fun n hn=>by
  obtain⟨j,hj,rfl⟩:=List.getElem_of_mem hn;exact ah.out j hj (by omega))
 clear ah;obtain⟨W1,hW1⟩:∃W1,W1=World.alloc wr (.cells #[.int .u8 4,.slice x.pA e.path.length x.pc,.int .i64 0,.int .i64 0,.string ⟨#[]⟩,.string ⟨#[]⟩,.slice none 0 0,.slice none 0 0] 41):=⟨_,rfl⟩;have hB1:BxL w W1 [.int .u8 4,.slice x.pA e.path.length x.pc,.int .i64 e.at_,.int .i64 e.far,.string e.frm,.string e.to,.slice x.oA e.old.len x.oc,.slice x.nA e.new.len x.nc] [.int .u8 4,.slice x.pA e.path.length x.pc,.int .i64 0,.int .i64 0,.string ⟨#[]⟩,.string ⟨#[]⟩,.slice none 0 0,.slice none 0 0]:=by rw[hW1,HW0.out];exact BxL.start w #[.int .u8 4,.slice x.pA e.path.length x.pc,.int .i64 e.at_,.int .i64 e.far,.string e.frm,.string e.to,.slice x.oA e.old.len x.oc,.slice x.nA e.new.len x.nc] #[.int .u8 4,.slice x.pA e.path.length x.pc,.int .i64 0,.int .i64 0,.string ⟨#[]⟩,.string ⟨#[]⟩,.slice none 0 0,.slice none 0 0] _ _
 have hz0:wr.heap.size=w.heap.size+1:=by rw[HW0.out];simp
 have HW1:=hide hW1;clear hW1
 go_upto_region 7 with fail
 change Code.wp _ _ _ _ (World.alloc wr (.cells #[.int .u8 4,.slice x.pA e.path.length x.pc,.int .i64 0,.int .i64 0,.string ⟨#[]⟩,.string ⟨#[]⟩,.slice none 0 0,.slice none 0 0] 41));rw[←HW1.out];clear b0 b1 b2 b3 b4 b5 b6 b7 HW1 HW0;clear hz0;have b0:=hB1.c 0 _ rfl;have b1:=hB1.c 1 _ rfl;have b2:=hB1.c 2 _ rfl;have b3:=hB1.c 3 _ rfl;have b4:=hB1.c 4 _ rfl;have b5:=hB1.c 5 _ rfl;have b6:=hB1.c 6 _ rfl;have b7:=hB1.c 7 _ rfl;have r0:=hB1.r 0 _ rfl;have r1:=hB1.r 1 _ rfl;have r2:=hB1.r 2 _ rfl;have r3:=hB1.r 3 _ rfl;have r4:=hB1.r 4 _ rfl;have r5:=hB1.r 5 _ rfl;have r6:=hB1.r 6 _ rfl;have r7:=hB1.r 7 _ rfl;have fr:=hB1.fr;have HB1:=hide hB1;clear hB1 HB0
 go_upto_region 23 with fail
 have hBa:=HB1.out.putR 6 [.slice x.oA e.old.len x.oc] (by simp);obtain⟨wa,bD⟩:∃wa,wa=World.setCells W1 (w.heap.size+1) 6 [.slice x.oA e.old.len x.oc]:=⟨_,rfl⟩;rw[←bD]at hBa;simp only[World.setCells]at bD;rw[←bD];replace hBa:BxL w wa [.int .u8 4,.slice x.pA e.path.length x.pc,.int .i64 e.at_,.int .i64 e.far,.string e.frm,.string e.to,.slice x.oA e.old.len x.oc,.slice x.nA e.new.len x.nc] [.int .u8 4,.slice x.pA e.path.length x.pc,.int .i64 0,.int .i64 0,.string ⟨#[]⟩,.string ⟨#[]⟩,.slice x.oA e.old.len x.oc,.slice none 0 0]:=hBa;have dI:=hide hBa;clear hBa bD;have hBb:=dI.out.putR 7 [.slice x.nA e.new.len x.nc] (by simp);obtain⟨wb,bY⟩:∃wb,wb=World.setCells wa (w.heap.size+1) 7 [.slice x.nA e.new.len x.nc]:=⟨_,rfl⟩;rw[←bY]at hBb;simp only[World.setCells]at bY;rw[←bY];replace hBb:BxL w wb [.int .u8 4,.slice x.pA e.path.length x.pc,.int .i64 e.at_,.int .i64 e.far,.string e.frm,.string e.to,.slice x.oA e.old.len x.oc,.slice x.nA e.new.len x.nc] [.int .u8 4,.slice x.pA e.path.length x.pc,.int .i64 0,.int .i64 0,.string ⟨#[]⟩,.string ⟨#[]⟩,.slice x.oA e.old.len x.oc,.slice x.nA e.new.len x.nc]:=hBb;have eX:=hide hBb;clear hBb bY;clear b0 r0 b1 r1 b2 r2 b3 r3 b4 r4 b5 r5 b6 r6 b7 r7 fr HB1;clear dI;have ay:=eX;clear eX;have ai:=ay.out;have b0:=ai.c 0 _ rfl;have b1:=ai.c 1 _ rfl;have b2:=ai.c 2 _ rfl;have b3:=ai.c 3 _ rfl;have b4:=ai.c 4 _ rfl;have b5:=ai.c 5 _ rfl;have b6:=ai.c 6 _ rfl;have b7:=ai.c 7 _ rfl;have r0:=ai.r 0 _ rfl;have r1:=ai.r 1 _ rfl;have r2:=ai.r 2 _ rfl;have r3:=ai.r 3 _ rfl;have r4:=ai.r 4 _ rfl;have r5:=ai.r 5 _ rfl;have r6:=ai.r 6 _ rfl;have r7:=ai.r 7 _ rfl;have hNb:w.heap.size<wb.heap.size:=block_lt_of_cell b0;have bZ:w.heap.size+1<wb.heap.size:=block_lt_of_cell r0;have aW:=ai.b;have dR:=hide aW;clear ai aW;have aW:=dR.out;clear dR ay;have dC:Hid (∀W,Below wb.heap.size wb W→Calls Tryz.prog 155 #[.agg #[.int .u8 4,.slice x.pA e.path.length x.pc,.int .i64 e.at_,.int .i64 e.far,.string e.frm,.string e.to,.slice x.oA e.old.len x.oc,.slice x.nA e.new.len x.nc],.agg #[.int .u8 4,.slice x.pA e.path.length x.pc,.int .i64 0,.int .i64 0,.string ⟨#[]⟩,.string ⟨#[]⟩,.slice x.oA e.old.len x.oc,.slice x.nA e.new.len x.nc]] W fun e1 w'=>e1 = .returned (.bool true)∧Below W.heap.size W w'):=
  hide fun W h9=>(fun hW=>Ap (uC (a:={e with kind:=4}) (b:=⟨4,e.path,0,0,⟨#[]⟩,⟨#[]⟩,e.old,e.new⟩) (x:=x) (y:=⟨x.pA,x.pc,x.oA,x.oc,x.nA,x.nc⟩) ⟨(by show 4<256;omega),H.out.path.below hW,H.out.at_,H.out.far,H.out.frm,H.out.to,H.out.old.below hW,H.out.new.below hW,H.out.pc,H.out.oc,H.out.nc⟩ ⟨(by show 4<256;omega),H.out.path.below hW,(by show isInt64 0;unfold isInt64;omega),(by show isInt64 0;unfold isInt64;omega),(by show(0:Nat)≤_;omega),(by show(0:Nat)≤_;omega),(H.out.old.below hW),(H.out.new.below hW),H.out.pc,H.out.oc,H.out.nc⟩) Hh.out.1) (ak aW h9)
 have hgt:decide ((0:Int)<(e.path.length:Int))=false:=by rw[Hh.out.2.1];rfl
 have hgt2:decide (0<e.path.length)=false:=by rw[Hh.out.2.1];rfl
 have hd1:Below wb.heap.size wb wb.drew:=aO (Below.refl _ _) 1;refine wp_region_held_drew (S:=Below wb.heap.size wb) (by kernel_rfl) hd1 (fun hHeld=>?_);generalize wb.drew=wD at hHeld⊢;refine tk (v:=?_) 0 hHeld ?_ ?_;rotate_left
 ·intro w' hSw;have f0:=(hSw.cell (p:=⟨w.heap.size,0,none⟩) hNb).trans b0;have f1:=(hSw.cell (p:=⟨w.heap.size,1,none⟩) hNb).trans b1;have f2:=(hSw.cell (p:=⟨w.heap.size,2,none⟩) hNb).trans b2;have f3:=(hSw.cell (p:=⟨w.heap.size,3,none⟩) hNb).trans b3;have f4:=(hSw.cell (p:=⟨w.heap.size,4,none⟩) hNb).trans b4;have f5:=(hSw.cell (p:=⟨w.heap.size,5,none⟩) hNb).trans b5;have f6:=(hSw.cell (p:=⟨w.heap.size,6,none⟩) hNb).trans b6;have f7:=(hSw.cell (p:=⟨w.heap.size,7,none⟩) hNb).trans b7
  first|(go_simp;done)|(go_simp;with_reducible rfl)
 try simp only[aA,aB]
 refine tk (v:=?_) 1 hHeld ?_ ?_;rotate_left
 ·intro w' hSw;have f0:=(hSw.cell (p:=⟨w.heap.size+1,0,none⟩) bZ).trans r0;have f1:=(hSw.cell (p:=⟨w.heap.size+1,1,none⟩) bZ).trans r1;have f2:=(hSw.cell (p:=⟨w.heap.size+1,2,none⟩) bZ).trans r2;have f3:=(hSw.cell (p:=⟨w.heap.size+1,3,none⟩) bZ).trans r3;have f4:=(hSw.cell (p:=⟨w.heap.size+1,4,none⟩) bZ).trans r4;have f5:=(hSw.cell (p:=⟨w.heap.size+1,5,none⟩) bZ).trans r5;have f6:=(hSw.cell (p:=⟨w.heap.size+1,6,none⟩) bZ).trans r6;have f7:=(hSw.cell (p:=⟨w.heap.size+1,7,none⟩) bZ).trans r7
  first|(go_simp;done)|(go_simp;with_reducible rfl)
 try simp only[aA,aB]
 refine wpAnyH_ready (rs:=[2]) (by kernel_rfl) (by simp) ?_;refine AllReadyH.cons rfl (fun K hK=>?_) AllReadyH.nil;go_simp
 go_wp2_with(go_at_call 155;(with_reducible refine(dC.out _ hHeld).mono ?_);rintro e1 w1 ⟨rfl,hB1⟩)
 replace hHeld:=hHeld.trans (hB1.mono hHeld.size);refine hK.out _ _ hHeld (fun _=>?_);clear hK K hB1
 try simp only[Act.put,aG,aE,aF,aD,aA,aB]
 refine ae 3 hHeld ?_;refine ae 4 hHeld ?_;refine tk (v:=?_) 5 hHeld ?_ ?_;rotate_left
 ·intro w' hSw;have f1:=(hSw.cell (p:=⟨w.heap.size,1,none⟩) hNb).trans b1
  first|(go_simp;done)|(go_simp;with_reducible rfl)
 try simp only[aA,aB]
 refine ae 6 hHeld ?_;refine ae 7 hHeld ?_;refine ae 8 hHeld ?_;refine ae 9 hHeld ?_;refine tn 10 hHeld ?_
 try simp only[aA,aB]
 refine tn 11 hHeld ?_
 try simp only[aA,aB]
 refine tn 12 hHeld ?_
 try simp only[aA,aB]
 refine ae 13 hHeld ?_;refine ae 14 hHeld ?_;refine tn 15 hHeld ?_
 try simp only[aA,aB]
 refine tn 16 hHeld ?_
 try simp only[aA,aB]
 refine tn 17 hHeld ?_
 try simp only[aA,aB]
 refine ae 18 hHeld ?_;refine ae 19 hHeld ?_;refine tn 20 hHeld ?_
 try simp only[aA,aB]
 refine tn 21 hHeld ?_
 try simp only[aA,aB]
 refine tn 22 hHeld ?_
 try simp only[aA,aB]
 refine tn 23 hHeld ?_
 try simp only[aA,aB]
 refine tn 24 hHeld ?_
 try simp only[aA,aB]
 refine tn 25 hHeld ?_
 try simp only[aA,aB]
 refine tn 26 hHeld ?_
 try simp only[aA,aB]
 refine tn 27 hHeld ?_
 try simp only[aA,aB]
 refine tn 28 hHeld ?_
 try simp only[aA,aB]
 refine tn 29 hHeld ?_
 try simp only[aA,aB]
 refine ae 30 hHeld ?_;refine ae 31 hHeld ?_;have wX:Hid (Below w.heap.size w _):=hide (ak aW hHeld);refine wpAnyH_done (by kernel_rfl) ?_ _
 try simp only[Act.put,aG,aE,aF,aD,aA,aB]
 go_wp2_with fail
 go_ret;exact⟨RetB.no (fun h=>by have h9:=E5.1 h;have h8:=Hh.out;exact h9.2.2.1 h8.2.1),wX.out⟩
theorem Za{S:Nat→Prop}{x:Eh}{e:Ed}{w:World}(he:EdIn S w x e)(h0:({e with kind:=4}:Ed)=⟨4,e.path,0,0,⟨#[]⟩,⟨#[]⟩,e.old,e.new⟩)(h1:e.path≠[])(h2 :¬PartOk e.old):
  Calls Tryz.prog 182 #[.agg #[.int .u8 4,.slice x.pA e.path.length x.pc,.int .i64 e.at_,.int .i64 e.far,.string e.frm,.string e.to,.slice x.oA e.old.len x.oc,.slice x.nA e.new.len x.nc]] w fun e1 w'=>RetB (EdOk {e with kind:=4}) e1∧Below w.heap.size w w':=by
 have Hh:=hide (And.intro h0 (And.intro h1 (And.intro h2 trivial)));clear h0 h1 h2;have H:=hide he;obtain⟨W0,hW0⟩:∃W0,W0=w.alloc (.cells #[.int .u8 4,.slice x.pA e.path.length x.pc,.int .i64 e.at_,.int .i64 e.far,.string e.frm,.string e.to,.slice x.oA e.old.len x.oc,.slice x.nA e.new.len x.nc] 41):=⟨_,rfl⟩;have hcl0:CellsL W0 w.heap.size [.int .u8 4,.slice x.pA e.path.length x.pc,.int .i64 e.at_,.int .i64 e.far,.string e.frm,.string e.to,.slice x.oA e.old.len x.oc,.slice x.nA e.new.len x.nc]:=fun j u hu=>by rw[hW0,Lib.cell_of_heap (heap_alloc_new w _)];simpa using hu
 have dH:Below w.heap.size w W0:=by rw[hW0];exact ag _ _
 have HB0:=hide dH;have HW0:=hide hW0;have hlp:=aI he.pc.1 he.pc.2;have b0:=hcl0 0 _ rfl;have b1:=hcl0 1 _ rfl;have b2:=hcl0 2 _ rfl;have b3:=hcl0 3 _ rfl;have b4:=hcl0 4 _ rfl;have b5:=hcl0 5 _ rfl;have b6:=hcl0 6 _ rfl;have b7:=hcl0 7 _ rfl;clear he hW0 hcl0 dH;go_enter Tryz.func182,Tryz.ntmps182
 go_upto_region 1 with fail
 change Code.wp _ _ _ _ (w.alloc (.cells #[.int .u8 4,.slice x.pA e.path.length x.pc,.int .i64 e.at_,.int .i64 e.far,.string e.frm,.string e.to,.slice x.oA e.old.len x.oc,.slice x.nA e.new.len x.nc] 41));rw[←HW0.out]
 go_wp2_with fail
 go_loopw [3] (fun i wr=>∃q:Nat,q≤e.path.length∧i = .int .i64 q∧wr=W0∧Hid (∀j,(h:j<e.path.length)→j<q→Number e.path[j])) (fun i _=>e.path.length-(intOf i).toNat)
 case atStart=>exact⟨0,Nat.zero_le _,rfl,rfl,hide (fun j _ h=>absurd h (by omega))⟩
 case round =>
 obtain⟨q,hq,rfl,rfl,ah⟩:=hrel;by_cases hlt:q<e.path.length
 ·obtain⟨b,o,hpa,hc⟩:=(H.out.path.below HB0.out).1.at_ (j:=q) (by simpa using hlt);simp only[List.getElem_map]at hc;rw[hpa]at b1;have wW:=hide hpa;clear hpa;obtain⟨m,hm⟩:∃m,m=e.path[q]:=⟨_,rfl⟩;rw[←hm]at hc;have Hm:=hide hm;clear hm
  go_wp2_with(go_at_call 229;(with_reducible refine(kM m _).mono ?_);rintro e1 w1 ⟨⟨_|_,rfl,hb⟩,rfl⟩<;>(have Hb:=hide hb;clear hb))
  ·go_ret;refine⟨RetB.no (fun h=>?_),HB0.out⟩;have h1:=h.1 _ (List.getElem_mem hlt);rw[←Hm.out]at h1;exact absurd (Hb.out.2 h1) (by decide)
  ·go_roundw
   case rel=>exact⟨q+1,by omega,by go_num,by first|trivial|rfl,hide (fun j h hj=>by
    rcases Nat.lt_or_ge j q with h2|h2
    ·exact ah.out j h h2
    ·obtain rfl:j=q:=by omega
     rw[←Hm.out];exact Hb.out.1 (by first|rfl|trivial))⟩
   case measure=>simp[intOf];omega
 have au:Hid (∀n∈e.path,Number n):=hide (fun n hn=>by
  obtain⟨j,hj,rfl⟩:=List.getElem_of_mem hn;exact ah.out j hj (by omega))
 clear ah;obtain⟨W1,hW1⟩:∃W1,W1=World.alloc wr (.cells #[.int .u8 4,.slice x.pA e.path.length x.pc,.int .i64 0,.int .i64 0,.string ⟨#[]⟩,.string ⟨#[]⟩,.slice none 0 0,.slice none 0 0] 41):=⟨_,rfl⟩;have hB1:BxL w W1 [.int .u8 4,.slice x.pA e.path.length x.pc,.int .i64 e.at_,.int .i64 e.far,.string e.frm,.string e.to,.slice x.oA e.old.len x.oc,.slice x.nA e.new.len x.nc] [.int .u8 4,.slice x.pA e.path.length x.pc,.int .i64 0,.int .i64 0,.string ⟨#[]⟩,.string ⟨#[]⟩,.slice none 0 0,.slice none 0 0]:=by rw[hW1,HW0.out];exact BxL.start w #[.int .u8 4,.slice x.pA e.path.length x.pc,.int .i64 e.at_,.int .i64 e.far,.string e.frm,.string e.to,.slice x.oA e.old.len x.oc,.slice x.nA e.new.len x.nc] #[.int .u8 4,.slice x.pA e.path.length x.pc,.int .i64 0,.int .i64 0,.string ⟨#[]⟩,.string ⟨#[]⟩,.slice none 0 0,.slice none 0 0] _ _
 have hz0:wr.heap.size=w.heap.size+1:=by rw[HW0.out];simp
 have HW1:=hide hW1;clear hW1
 go_upto_region 7 with fail
 change Code.wp _ _ _ _ (World.alloc wr (.cells #[.int .u8 4,.slice x.pA e.path.length x.pc,.int .i64 0,.int .i64 0,.string ⟨#[]⟩,.string ⟨#[]⟩,.slice none 0 0,.slice none 0 0] 41));rw[←HW1.out];clear b0 b1 b2 b3 b4 b5 b6 b7 HW1 HW0;clear hz0;have b0:=hB1.c 0 _ rfl;have b1:=hB1.c 1 _ rfl;have b2:=hB1.c 2 _ rfl;have b3:=hB1.c 3 _ rfl;have b4:=hB1.c 4 _ rfl;have b5:=hB1.c 5 _ rfl;have b6:=hB1.c 6 _ rfl;have b7:=hB1.c 7 _ rfl;have r0:=hB1.r 0 _ rfl;have r1:=hB1.r 1 _ rfl;have r2:=hB1.r 2 _ rfl;have r3:=hB1.r 3 _ rfl;have r4:=hB1.r 4 _ rfl;have r5:=hB1.r 5 _ rfl;have r6:=hB1.r 6 _ rfl;have r7:=hB1.r 7 _ rfl;have fr:=hB1.fr;have HB1:=hide hB1;clear hB1 HB0
 go_upto_region 23 with fail
 have hBa:=HB1.out.putR 6 [.slice x.oA e.old.len x.oc] (by simp);obtain⟨wa,bD⟩:∃wa,wa=World.setCells W1 (w.heap.size+1) 6 [.slice x.oA e.old.len x.oc]:=⟨_,rfl⟩;rw[←bD]at hBa;simp only[World.setCells]at bD;rw[←bD];replace hBa:BxL w wa [.int .u8 4,.slice x.pA e.path.length x.pc,.int .i64 e.at_,.int .i64 e.far,.string e.frm,.string e.to,.slice x.oA e.old.len x.oc,.slice x.nA e.new.len x.nc] [.int .u8 4,.slice x.pA e.path.length x.pc,.int .i64 0,.int .i64 0,.string ⟨#[]⟩,.string ⟨#[]⟩,.slice x.oA e.old.len x.oc,.slice none 0 0]:=hBa;have dI:=hide hBa;clear hBa bD;have hBb:=dI.out.putR 7 [.slice x.nA e.new.len x.nc] (by simp);obtain⟨wb,bY⟩:∃wb,wb=World.setCells wa (w.heap.size+1) 7 [.slice x.nA e.new.len x.nc]:=⟨_,rfl⟩;rw[←bY]at hBb;simp only[World.setCells]at bY;rw[←bY];replace hBb:BxL w wb [.int .u8 4,.slice x.pA e.path.length x.pc,.int .i64 e.at_,.int .i64 e.far,.string e.frm,.string e.to,.slice x.oA e.old.len x.oc,.slice x.nA e.new.len x.nc] [.int .u8 4,.slice x.pA e.path.length x.pc,.int .i64 0,.int .i64 0,.string ⟨#[]⟩,.string ⟨#[]⟩,.slice x.oA e.old.len x.oc,.slice x.nA e.new.len x.nc]:=hBb;have eX:=hide hBb;clear hBb bY;clear b0 r0 b1 r1 b2 r2 b3 r3 b4 r4 b5 r5 b6 r6 b7 r7 fr HB1;clear dI;have ay:=eX;clear eX;have ai:=ay.out;have b0:=ai.c 0 _ rfl;have b1:=ai.c 1 _ rfl;have b2:=ai.c 2 _ rfl;have b3:=ai.c 3 _ rfl;have b4:=ai.c 4 _ rfl;have b5:=ai.c 5 _ rfl;have b6:=ai.c 6 _ rfl;have b7:=ai.c 7 _ rfl;have r0:=ai.r 0 _ rfl;have r1:=ai.r 1 _ rfl;have r2:=ai.r 2 _ rfl;have r3:=ai.r 3 _ rfl;have r4:=ai.r 4 _ rfl;have r5:=ai.r 5 _ rfl;have r6:=ai.r 6 _ rfl;have r7:=ai.r 7 _ rfl;have hNb:w.heap.size<wb.heap.size:=block_lt_of_cell b0;have bZ:w.heap.size+1<wb.heap.size:=block_lt_of_cell r0;have aW:=ai.b;have dR:=hide aW;clear ai aW;have aW:=dR.out;clear dR ay;have dC:Hid (∀W,Below wb.heap.size wb W→Calls Tryz.prog 155 #[.agg #[.int .u8 4,.slice x.pA e.path.length x.pc,.int .i64 e.at_,.int .i64 e.far,.string e.frm,.string e.to,.slice x.oA e.old.len x.oc,.slice x.nA e.new.len x.nc],.agg #[.int .u8 4,.slice x.pA e.path.length x.pc,.int .i64 0,.int .i64 0,.string ⟨#[]⟩,.string ⟨#[]⟩,.slice x.oA e.old.len x.oc,.slice x.nA e.new.len x.nc]] W fun e1 w'=>e1 = .returned (.bool true)∧Below W.heap.size W w'):=
  hide fun W h9=>(fun hW=>Ap (uC (a:={e with kind:=4}) (b:=⟨4,e.path,0,0,⟨#[]⟩,⟨#[]⟩,e.old,e.new⟩) (x:=x) (y:=⟨x.pA,x.pc,x.oA,x.oc,x.nA,x.nc⟩) ⟨(by show 4<256;omega),H.out.path.below hW,H.out.at_,H.out.far,H.out.frm,H.out.to,H.out.old.below hW,H.out.new.below hW,H.out.pc,H.out.oc,H.out.nc⟩ ⟨(by show 4<256;omega),H.out.path.below hW,(by show isInt64 0;unfold isInt64;omega),(by show isInt64 0;unfold isInt64;omega),(by show(0:Nat)≤_;omega),(by show(0:Nat)≤_;omega),(H.out.old.below hW),(H.out.new.below hW),H.out.pc,H.out.oc,H.out.nc⟩) Hh.out.1) (ak aW h9)
 have hgt:decide ((0:Int)<(e.path.length:Int))=true:=by have:=uS.1 Hh.out.2.1;simpa using this
 have hgt2:decide (0<e.path.length)=true:=by have:=uS.1 Hh.out.2.1;simp;omega
 have yR:Hid (∀W,Below wb.heap.size wb W→Calls Tryz.prog 231 #[.slice x.oA e.old.len x.oc] W fun e1 w'=>e1 = .returned (.bool false)∧Below W.heap.size W w'):=hide fun W h9=>ret_no (yQ (H.out.old.below (ak aW h9)) (aI H.out.oc.1 H.out.oc.2)) Hh.out.2.2.1;have hd1:Below wb.heap.size wb wb.drew:=aO (Below.refl _ _) 1;refine wp_region_held_drew (S:=Below wb.heap.size wb) (by kernel_rfl) hd1 (fun hHeld=>?_);generalize wb.drew=wD at hHeld⊢;refine tk (v:=?_) 0 hHeld ?_ ?_;rotate_left
 ·intro w' hSw;have f0:=(hSw.cell (p:=⟨w.heap.size,0,none⟩) hNb).trans b0;have f1:=(hSw.cell (p:=⟨w.heap.size,1,none⟩) hNb).trans b1;have f2:=(hSw.cell (p:=⟨w.heap.size,2,none⟩) hNb).trans b2;have f3:=(hSw.cell (p:=⟨w.heap.size,3,none⟩) hNb).trans b3;have f4:=(hSw.cell (p:=⟨w.heap.size,4,none⟩) hNb).trans b4;have f5:=(hSw.cell (p:=⟨w.heap.size,5,none⟩) hNb).trans b5;have f6:=(hSw.cell (p:=⟨w.heap.size,6,none⟩) hNb).trans b6;have f7:=(hSw.cell (p:=⟨w.heap.size,7,none⟩) hNb).trans b7
  first|(go_simp;done)|(go_simp;with_reducible rfl)
 try simp only[aA,aB]
 refine tk (v:=?_) 1 hHeld ?_ ?_;rotate_left
 ·intro w' hSw;have f0:=(hSw.cell (p:=⟨w.heap.size+1,0,none⟩) bZ).trans r0;have f1:=(hSw.cell (p:=⟨w.heap.size+1,1,none⟩) bZ).trans r1;have f2:=(hSw.cell (p:=⟨w.heap.size+1,2,none⟩) bZ).trans r2;have f3:=(hSw.cell (p:=⟨w.heap.size+1,3,none⟩) bZ).trans r3;have f4:=(hSw.cell (p:=⟨w.heap.size+1,4,none⟩) bZ).trans r4;have f5:=(hSw.cell (p:=⟨w.heap.size+1,5,none⟩) bZ).trans r5;have f6:=(hSw.cell (p:=⟨w.heap.size+1,6,none⟩) bZ).trans r6;have f7:=(hSw.cell (p:=⟨w.heap.size+1,7,none⟩) bZ).trans r7
  first|(go_simp;done)|(go_simp;with_reducible rfl)
 try simp only[aA,aB]
 refine wpAnyH_ready (rs:=[2]) (by kernel_rfl) (by simp) ?_;refine AllReadyH.cons rfl (fun K hK=>?_) AllReadyH.nil;go_simp
 go_wp2_with(go_at_call 155;(with_reducible refine(dC.out _ hHeld).mono ?_);rintro e1 w1 ⟨rfl,hB1⟩)
 replace hHeld:=hHeld.trans (hB1.mono hHeld.size);refine hK.out _ _ hHeld (fun _=>?_);clear hK K hB1
 try simp only[Act.put,aG,aE,aF,aD,aA,aB]
 refine ae 3 hHeld ?_;refine ae 4 hHeld ?_;refine tk (v:=?_) 5 hHeld ?_ ?_;rotate_left
 ·intro w' hSw;have f1:=(hSw.cell (p:=⟨w.heap.size,1,none⟩) hNb).trans b1
  first|(go_simp;done)|(go_simp;with_reducible rfl)
 try simp only[aA,aB]
 refine ae 6 hHeld ?_;refine ae 7 hHeld ?_;refine ae 8 hHeld ?_;refine ae 9 hHeld ?_;refine ae 10 hHeld ?_;refine tk (v:=?_) 11 hHeld ?_ ?_;rotate_left
 ·intro w' hSw;have f6:=(hSw.cell (p:=⟨w.heap.size,6,none⟩) hNb).trans b6
  first|(go_simp;done)|(go_simp;with_reducible rfl)
 try simp only[aA,aB]
 refine wpAnyH_ready (rs:=[12]) (by kernel_rfl) (by simp) ?_;refine AllReadyH.cons rfl (fun K hK=>?_) AllReadyH.nil;go_simp
 go_wp2_with(go_at_call 231;(with_reducible refine(yR.out _ hHeld).mono ?_);rintro e1 w2 ⟨rfl,hB1⟩)
 replace hHeld:=hHeld.trans (hB1.mono hHeld.size);refine hK.out _ _ hHeld (fun _=>?_);clear hK K hB1
 try simp only[Act.put,aG,aE,aF,aD,aA,aB]
 refine ae 13 hHeld ?_;refine ae 14 hHeld ?_;refine tn 15 hHeld ?_
 try simp only[aA,aB]
 refine tn 16 hHeld ?_
 try simp only[aA,aB]
 refine tn 17 hHeld ?_
 try simp only[aA,aB]
 refine ae 18 hHeld ?_;refine ae 19 hHeld ?_;refine tn 20 hHeld ?_
 try simp only[aA,aB]
 refine tn 21 hHeld ?_
 try simp only[aA,aB]
 refine tn 22 hHeld ?_
 try simp only[aA,aB]
 refine tn 23 hHeld ?_
 try simp only[aA,aB]
 refine tn 24 hHeld ?_
 try simp only[aA,aB]
 refine tn 25 hHeld ?_
 try simp only[aA,aB]
 refine tn 26 hHeld ?_
 try simp only[aA,aB]
 refine tn 27 hHeld ?_
 try simp only[aA,aB]
 refine tn 28 hHeld ?_
 try simp only[aA,aB]
 refine tn 29 hHeld ?_
 try simp only[aA,aB]
 refine ae 30 hHeld ?_;refine ae 31 hHeld ?_;have wX:Hid (Below w.heap.size w _):=hide (ak aW hHeld);refine wpAnyH_done (by kernel_rfl) ?_ _
 try simp only[Act.put,aG,aE,aF,aD,aA,aB]
 go_wp2_with fail
 go_ret;exact⟨RetB.no (fun h=>by have h9:=E5.1 h;have h8:=Hh.out;exact h8.2.2.1 h9.2.2.2.1),wX.out⟩
theorem Zb{S:Nat→Prop}{x:Eh}{e:Ed}{w:World}(he:EdIn S w x e)(h0:({e with kind:=4}:Ed)=⟨4,e.path,0,0,⟨#[]⟩,⟨#[]⟩,e.old,e.new⟩)(h1:e.path≠[])(h2:PartOk e.old)(h3 :¬PartOk e.new):
  Calls Tryz.prog 182 #[.agg #[.int .u8 4,.slice x.pA e.path.length x.pc,.int .i64 e.at_,.int .i64 e.far,.string e.frm,.string e.to,.slice x.oA e.old.len x.oc,.slice x.nA e.new.len x.nc]] w fun e1 w'=>RetB (EdOk {e with kind:=4}) e1∧Below w.heap.size w w':=by
 have Hh:=hide (And.intro h0 (And.intro h1 (And.intro h2 h3)));clear h0 h1 h2 h3;have H:=hide he;obtain⟨W0,hW0⟩:∃W0,W0=w.alloc (.cells #[.int .u8 4,.slice x.pA e.path.length x.pc,.int .i64 e.at_,.int .i64 e.far,.string e.frm,.string e.to,.slice x.oA e.old.len x.oc,.slice x.nA e.new.len x.nc] 41):=⟨_,rfl⟩;have hcl0:CellsL W0 w.heap.size [.int .u8 4,.slice x.pA e.path.length x.pc,.int .i64 e.at_,.int .i64 e.far,.string e.frm,.string e.to,.slice x.oA e.old.len x.oc,.slice x.nA e.new.len x.nc]:=fun j u hu=>by rw[hW0,Lib.cell_of_heap (heap_alloc_new w _)];simpa using hu
 have dH:Below w.heap.size w W0:=by rw[hW0];exact ag _ _
 have HB0:=hide dH;have HW0:=hide hW0;have hlp:=aI he.pc.1 he.pc.2;have b0:=hcl0 0 _ rfl;have b1:=hcl0 1 _ rfl;have b2:=hcl0 2 _ rfl;have b3:=hcl0 3 _ rfl;have b4:=hcl0 4 _ rfl;have b5:=hcl0 5 _ rfl;have b6:=hcl0 6 _ rfl;have b7:=hcl0 7 _ rfl;clear he hW0 hcl0 dH;go_enter Tryz.func182,Tryz.ntmps182
 go_upto_region 1 with fail
 change Code.wp _ _ _ _ (w.alloc (.cells #[.int .u8 4,.slice x.pA e.path.length x.pc,.int .i64 e.at_,.int .i64 e.far,.string e.frm,.string e.to,.slice x.oA e.old.len x.oc,.slice x.nA e.new.len x.nc] 41));rw[←HW0.out]
 go_wp2_with fail
 go_loopw [3] (fun i wr=>∃q:Nat,q≤e.path.length∧i = .int .i64 q∧wr=W0∧Hid (∀j,(h:j<e.path.length)→j<q→Number e.path[j])) (fun i _=>e.path.length-(intOf i).toNat)
 case atStart=>exact⟨0,Nat.zero_le _,rfl,rfl,hide (fun j _ h=>absurd h (by omega))⟩
 case round =>
 obtain⟨q,hq,rfl,rfl,ah⟩:=hrel;by_cases hlt:q<e.path.length
 ·obtain⟨b,o,hpa,hc⟩:=(H.out.path.below HB0.out).1.at_ (j:=q) (by simpa using hlt);simp only[List.getElem_map]at hc;rw[hpa]at b1;have wW:=hide hpa;clear hpa;obtain⟨m,hm⟩:∃m,m=e.path[q]:=⟨_,rfl⟩;rw[←hm]at hc;have Hm:=hide hm;clear hm
  go_wp2_with(go_at_call 229;(with_reducible refine(kM m _).mono ?_);rintro e1 w1 ⟨⟨_|_,rfl,hb⟩,rfl⟩<;>(have Hb:=hide hb;clear hb))
  ·go_ret;refine⟨RetB.no (fun h=>?_),HB0.out⟩;have h1:=h.1 _ (List.getElem_mem hlt);rw[←Hm.out]at h1;exact absurd (Hb.out.2 h1) (by decide)
  ·go_roundw
   case rel=>exact⟨q+1,by omega,by go_num,by first|trivial|rfl,hide (fun j h hj=>by
    rcases Nat.lt_or_ge j q with h2|h2
    ·exact ah.out j h h2
    ·obtain rfl:j=q:=by omega
     rw[←Hm.out];exact Hb.out.1 (by first|rfl|trivial))⟩
   case measure=>simp[intOf];omega
 have au:Hid (∀n∈e.path,Number n):=hide (fun n hn=>by
  obtain⟨j,hj,rfl⟩:=List.getElem_of_mem hn;exact ah.out j hj (by omega))
 clear ah;obtain⟨W1,hW1⟩:∃W1,W1=World.alloc wr (.cells #[.int .u8 4,.slice x.pA e.path.length x.pc,.int .i64 0,.int .i64 0,.string ⟨#[]⟩,.string ⟨#[]⟩,.slice none 0 0,.slice none 0 0] 41):=⟨_,rfl⟩;have hB1:BxL w W1 [.int .u8 4,.slice x.pA e.path.length x.pc,.int .i64 e.at_,.int .i64 e.far,.string e.frm,.string e.to,.slice x.oA e.old.len x.oc,.slice x.nA e.new.len x.nc] [.int .u8 4,.slice x.pA e.path.length x.pc,.int .i64 0,.int .i64 0,.string ⟨#[]⟩,.string ⟨#[]⟩,.slice none 0 0,.slice none 0 0]:=by rw[hW1,HW0.out];exact BxL.start w #[.int .u8 4,.slice x.pA e.path.length x.pc,.int .i64 e.at_,.int .i64 e.far,.string e.frm,.string e.to,.slice x.oA e.old.len x.oc,.slice x.nA e.new.len x.nc] #[.int .u8 4,.slice x.pA e.path.length x.pc,.int .i64 0,.int .i64 0,.string ⟨#[]⟩,.string ⟨#[]⟩,.slice none 0 0,.slice none 0 0] _ _
 have hz0:wr.heap.size=w.heap.size+1:=by rw[HW0.out];simp
 have HW1:=hide hW1;clear hW1
 go_upto_region 7 with fail
 change Code.wp _ _ _ _ (World.alloc wr (.cells #[.int .u8 4,.slice x.pA e.path.length x.pc,.int .i64 0,.int .i64 0,.string ⟨#[]⟩,.string ⟨#[]⟩,.slice none 0 0,.slice none 0 0] 41));rw[←HW1.out];clear b0 b1 b2 b3 b4 b5 b6 b7 HW1 HW0;clear hz0;have b0:=hB1.c 0 _ rfl;have b1:=hB1.c 1 _ rfl;have b2:=hB1.c 2 _ rfl;have b3:=hB1.c 3 _ rfl;have b4:=hB1.c 4 _ rfl;have b5:=hB1.c 5 _ rfl;have b6:=hB1.c 6 _ rfl;have b7:=hB1.c 7 _ rfl;have r0:=hB1.r 0 _ rfl;have r1:=hB1.r 1 _ rfl;have r2:=hB1.r 2 _ rfl;have r3:=hB1.r 3 _ rfl;have r4:=hB1.r 4 _ rfl;have r5:=hB1.r 5 _ rfl;have r6:=hB1.r 6 _ rfl;have r7:=hB1.r 7 _ rfl;have fr:=hB1.fr;have HB1:=hide hB1;clear hB1 HB0
 go_upto_region 23 with fail
 have hBa:=HB1.out.putR 6 [.slice x.oA e.old.len x.oc] (by simp);obtain⟨wa,bD⟩:∃wa,wa=World.setCells W1 (w.heap.size+1) 6 [.slice x.oA e.old.len x.oc]:=⟨_,rfl⟩;rw[←bD]at hBa;simp only[World.setCells]at bD;rw[←bD];replace hBa:BxL w wa [.int .u8 4,.slice x.pA e.path.length x.pc,.int .i64 e.at_,.int .i64 e.far,.string e.frm,.string e.to,.slice x.oA e.old.len x.oc,.slice x.nA e.new.len x.nc] [.int .u8 4,.slice x.pA e.path.length x.pc,.int .i64 0,.int .i64 0,.string ⟨#[]⟩,.string ⟨#[]⟩,.slice x.oA e.old.len x.oc,.slice none 0 0]:=hBa;have dI:=hide hBa;clear hBa bD;have hBb:=dI.out.putR 7 [.slice x.nA e.new.len x.nc] (by simp);obtain⟨wb,bY⟩:∃wb,wb=World.setCells wa (w.heap.size+1) 7 [.slice x.nA e.new.len x.nc]:=⟨_,rfl⟩;rw[←bY]at hBb;simp only[World.setCells]at bY;rw[←bY];replace hBb:BxL w wb [.int .u8 4,.slice x.pA e.path.length x.pc,.int .i64 e.at_,.int .i64 e.far,.string e.frm,.string e.to,.slice x.oA e.old.len x.oc,.slice x.nA e.new.len x.nc] [.int .u8 4,.slice x.pA e.path.length x.pc,.int .i64 0,.int .i64 0,.string ⟨#[]⟩,.string ⟨#[]⟩,.slice x.oA e.old.len x.oc,.slice x.nA e.new.len x.nc]:=hBb;have eX:=hide hBb;clear hBb bY;clear b0 r0 b1 r1 b2 r2 b3 r3 b4 r4 b5 r5 b6 r6 b7 r7 fr HB1;clear dI;have ay:=eX;clear eX;have ai:=ay.out;have b0:=ai.c 0 _ rfl;have b1:=ai.c 1 _ rfl;have b2:=ai.c 2 _ rfl;have b3:=ai.c 3 _ rfl;have b4:=ai.c 4 _ rfl;have b5:=ai.c 5 _ rfl;have b6:=ai.c 6 _ rfl;have b7:=ai.c 7 _ rfl;have r0:=ai.r 0 _ rfl;have r1:=ai.r 1 _ rfl;have r2:=ai.r 2 _ rfl;have r3:=ai.r 3 _ rfl;have r4:=ai.r 4 _ rfl;have r5:=ai.r 5 _ rfl;have r6:=ai.r 6 _ rfl;have r7:=ai.r 7 _ rfl;have hNb:w.heap.size<wb.heap.size:=block_lt_of_cell b0;have bZ:w.heap.size+1<wb.heap.size:=block_lt_of_cell r0;have aW:=ai.b;have dR:=hide aW;clear ai aW;have aW:=dR.out;clear dR ay;have dC:Hid (∀W,Below wb.heap.size wb W→Calls Tryz.prog 155 #[.agg #[.int .u8 4,.slice x.pA e.path.length x.pc,.int .i64 e.at_,.int .i64 e.far,.string e.frm,.string e.to,.slice x.oA e.old.len x.oc,.slice x.nA e.new.len x.nc],.agg #[.int .u8 4,.slice x.pA e.path.length x.pc,.int .i64 0,.int .i64 0,.string ⟨#[]⟩,.string ⟨#[]⟩,.slice x.oA e.old.len x.oc,.slice x.nA e.new.len x.nc]] W fun e1 w'=>e1 = .returned (.bool true)∧Below W.heap.size W w'):=
  hide fun W h9=>(fun hW=>Ap (uC (a:={e with kind:=4}) (b:=⟨4,e.path,0,0,⟨#[]⟩,⟨#[]⟩,e.old,e.new⟩) (x:=x) (y:=⟨x.pA,x.pc,x.oA,x.oc,x.nA,x.nc⟩) ⟨(by show 4<256;omega),H.out.path.below hW,H.out.at_,H.out.far,H.out.frm,H.out.to,H.out.old.below hW,H.out.new.below hW,H.out.pc,H.out.oc,H.out.nc⟩ ⟨(by show 4<256;omega),H.out.path.below hW,(by show isInt64 0;unfold isInt64;omega),(by show isInt64 0;unfold isInt64;omega),(by show(0:Nat)≤_;omega),(by show(0:Nat)≤_;omega),(H.out.old.below hW),(H.out.new.below hW),H.out.pc,H.out.oc,H.out.nc⟩) Hh.out.1) (ak aW h9)
 have hgt:decide ((0:Int)<(e.path.length:Int))=true:=by have:=uS.1 Hh.out.2.1;simpa using this
 have hgt2:decide (0<e.path.length)=true:=by have:=uS.1 Hh.out.2.1;simp;omega
 have yR:Hid (∀W,Below wb.heap.size wb W→Calls Tryz.prog 231 #[.slice x.oA e.old.len x.oc] W fun e1 w'=>e1 = .returned (.bool true)∧Below W.heap.size W w'):=hide fun W h9=>Ap (yQ (H.out.old.below (ak aW h9)) (aI H.out.oc.1 H.out.oc.2)) Hh.out.2.2.1;have CO:Hid (∀W,Below wb.heap.size wb W→Calls Tryz.prog 231 #[.slice x.nA e.new.len x.nc] W fun e1 w'=>e1 = .returned (.bool false)∧Below W.heap.size W w'):=hide fun W h9=>ret_no (yQ (H.out.new.below (ak aW h9)) (aI H.out.nc.1 H.out.nc.2)) Hh.out.2.2.2;have hd1:Below wb.heap.size wb wb.drew:=aO (Below.refl _ _) 1;refine wp_region_held_drew (S:=Below wb.heap.size wb) (by kernel_rfl) hd1 (fun hHeld=>?_);generalize wb.drew=wD at hHeld⊢;refine tk (v:=?_) 0 hHeld ?_ ?_;rotate_left
 ·intro w' hSw;have f0:=(hSw.cell (p:=⟨w.heap.size,0,none⟩) hNb).trans b0;have f1:=(hSw.cell (p:=⟨w.heap.size,1,none⟩) hNb).trans b1;have f2:=(hSw.cell (p:=⟨w.heap.size,2,none⟩) hNb).trans b2;have f3:=(hSw.cell (p:=⟨w.heap.size,3,none⟩) hNb).trans b3;have f4:=(hSw.cell (p:=⟨w.heap.size,4,none⟩) hNb).trans b4;have f5:=(hSw.cell (p:=⟨w.heap.size,5,none⟩) hNb).trans b5;have f6:=(hSw.cell (p:=⟨w.heap.size,6,none⟩) hNb).trans b6;have f7:=(hSw.cell (p:=⟨w.heap.size,7,none⟩) hNb).trans b7
  first|(go_simp;done)|(go_simp;with_reducible rfl)
 try simp only[aA,aB]
 refine tk (v:=?_) 1 hHeld ?_ ?_;rotate_left
 ·intro w' hSw;have f0:=(hSw.cell (p:=⟨w.heap.size+1,0,none⟩) bZ).trans r0;have f1:=(hSw.cell (p:=⟨w.heap.size+1,1,none⟩) bZ).trans r1;have f2:=(hSw.cell (p:=⟨w.heap.size+1,2,none⟩) bZ).trans r2;have f3:=(hSw.cell (p:=⟨w.heap.size+1,3,none⟩) bZ).trans r3;have f4:=(hSw.cell (p:=⟨w.heap.size+1,4,none⟩) bZ).trans r4;have f5:=(hSw.cell (p:=⟨w.heap.size+1,5,none⟩) bZ).trans r5;have f6:=(hSw.cell (p:=⟨w.heap.size+1,6,none⟩) bZ).trans r6;have f7:=(hSw.cell (p:=⟨w.heap.size+1,7,none⟩) bZ).trans r7
  first|(go_simp;done)|(go_simp;with_reducible rfl)
 try simp only[aA,aB]
 refine wpAnyH_ready (rs:=[2]) (by kernel_rfl) (by simp) ?_;refine AllReadyH.cons rfl (fun K hK=>?_) AllReadyH.nil;go_simp
 go_wp2_with(go_at_call 155;(with_reducible refine(dC.out _ hHeld).mono ?_);rintro e1 w1 ⟨rfl,hB1⟩)
 replace hHeld:=hHeld.trans (hB1.mono hHeld.size);refine hK.out _ _ hHeld (fun _=>?_);clear hK K hB1
 try simp only[Act.put,aG,aE,aF,aD,aA,aB]
 refine ae 3 hHeld ?_;refine ae 4 hHeld ?_;refine tk (v:=?_) 5 hHeld ?_ ?_;rotate_left
 ·intro w' hSw;have f1:=(hSw.cell (p:=⟨w.heap.size,1,none⟩) hNb).trans b1
  first|(go_simp;done)|(go_simp;with_reducible rfl)
 try simp only[aA,aB]
 refine ae 6 hHeld ?_;refine ae 7 hHeld ?_;refine ae 8 hHeld ?_;refine ae 9 hHeld ?_;refine ae 10 hHeld ?_;refine tk (v:=?_) 11 hHeld ?_ ?_;rotate_left
 ·intro w' hSw;have f6:=(hSw.cell (p:=⟨w.heap.size,6,none⟩) hNb).trans b6
  first|(go_simp;done)|(go_simp;with_reducible rfl)
 try simp only[aA,aB]
 refine wpAnyH_ready (rs:=[12]) (by kernel_rfl) (by simp) ?_;refine AllReadyH.cons rfl (fun K hK=>?_) AllReadyH.nil;go_simp
 go_wp2_with(go_at_call 231;(with_reducible refine(yR.out _ hHeld).mono ?_);rintro e1 w2 ⟨rfl,hB1⟩)
 replace hHeld:=hHeld.trans (hB1.mono hHeld.size);refine hK.out _ _ hHeld (fun _=>?_);clear hK K hB1
 try simp only[Act.put,aG,aE,aF,aD,aA,aB]
 refine ae 13 hHeld ?_;refine ae 14 hHeld ?_;refine ae 15 hHeld ?_;refine tk (v:=?_) 16 hHeld ?_ ?_;rotate_left
 ·intro w' hSw;have f7:=(hSw.cell (p:=⟨w.heap.size,7,none⟩) hNb).trans b7
  first|(go_simp;done)|(go_simp;with_reducible rfl)
 try simp only[aA,aB]
 refine wpAnyH_ready (rs:=[17]) (by kernel_rfl) (by simp) ?_;refine AllReadyH.cons rfl (fun K hK=>?_) AllReadyH.nil;go_simp
 go_wp2_with(go_at_call 231;(with_reducible refine(CO.out _ hHeld).mono ?_);rintro e1 w3 ⟨rfl,hB1⟩)
 replace hHeld:=hHeld.trans (hB1.mono hHeld.size);refine hK.out _ _ hHeld (fun _=>?_);clear hK K hB1
 try simp only[Act.put,aG,aE,aF,aD,aA,aB]
 refine ae 18 hHeld ?_;refine ae 19 hHeld ?_;refine tn 20 hHeld ?_
 try simp only[aA,aB]
 refine tn 21 hHeld ?_
 try simp only[aA,aB]
 refine tn 22 hHeld ?_
 try simp only[aA,aB]
 refine tn 23 hHeld ?_
 try simp only[aA,aB]
 refine tn 24 hHeld ?_
 try simp only[aA,aB]
 refine tn 25 hHeld ?_
 try simp only[aA,aB]
 refine tn 26 hHeld ?_
 try simp only[aA,aB]
 refine tn 27 hHeld ?_
 try simp only[aA,aB]
 refine tn 28 hHeld ?_
 try simp only[aA,aB]
 refine tn 29 hHeld ?_
 try simp only[aA,aB]
 refine ae 30 hHeld ?_;refine ae 31 hHeld ?_;have wX:Hid (Below w.heap.size w _):=hide (ak aW hHeld);refine wpAnyH_done (by kernel_rfl) ?_ _
 try simp only[Act.put,aG,aE,aF,aD,aA,aB]
 go_wp2_with fail
 go_ret;exact⟨RetB.no (fun h=>by have h9:=E5.1 h;have h8:=Hh.out;exact h8.2.2.2 h9.2.2.2.2.1),wX.out⟩
theorem Zc{S:Nat→Prop}{x:Eh}{e:Ed}{w:World}(he:EdIn S w x e)(h0:({e with kind:=4}:Ed)=⟨4,e.path,0,0,⟨#[]⟩,⟨#[]⟩,e.old,e.new⟩)(h1:e.path≠[])(h2:PartOk e.old)(h3:PartOk e.new):
  Calls Tryz.prog 182 #[.agg #[.int .u8 4,.slice x.pA e.path.length x.pc,.int .i64 e.at_,.int .i64 e.far,.string e.frm,.string e.to,.slice x.oA e.old.len x.oc,.slice x.nA e.new.len x.nc]] w fun e1 w'=>RetB (EdOk {e with kind:=4}) e1∧Below w.heap.size w w':=by
 have Hh:=hide (And.intro h0 (And.intro h1 (And.intro h2 h3)));clear h0 h1 h2 h3;have H:=hide he;obtain⟨W0,hW0⟩:∃W0,W0=w.alloc (.cells #[.int .u8 4,.slice x.pA e.path.length x.pc,.int .i64 e.at_,.int .i64 e.far,.string e.frm,.string e.to,.slice x.oA e.old.len x.oc,.slice x.nA e.new.len x.nc] 41):=⟨_,rfl⟩;have hcl0:CellsL W0 w.heap.size [.int .u8 4,.slice x.pA e.path.length x.pc,.int .i64 e.at_,.int .i64 e.far,.string e.frm,.string e.to,.slice x.oA e.old.len x.oc,.slice x.nA e.new.len x.nc]:=fun j u hu=>by rw[hW0,Lib.cell_of_heap (heap_alloc_new w _)];simpa using hu
 have dH:Below w.heap.size w W0:=by rw[hW0];exact ag _ _
 have HB0:=hide dH;have HW0:=hide hW0;have hlp:=aI he.pc.1 he.pc.2;have b0:=hcl0 0 _ rfl;have b1:=hcl0 1 _ rfl;have b2:=hcl0 2 _ rfl;have b3:=hcl0 3 _ rfl;have b4:=hcl0 4 _ rfl;have b5:=hcl0 5 _ rfl;have b6:=hcl0 6 _ rfl;have b7:=hcl0 7 _ rfl;clear he hW0 hcl0 dH;go_enter Tryz.func182,Tryz.ntmps182
 go_upto_region 1 with fail
 change Code.wp _ _ _ _ (w.alloc (.cells #[.int .u8 4,.slice x.pA e.path.length x.pc,.int .i64 e.at_,.int .i64 e.far,.string e.frm,.string e.to,.slice x.oA e.old.len x.oc,.slice x.nA e.new.len x.nc] 41));rw[←HW0.out]
 go_wp2_with fail
 go_loopw [3] (fun i wr=>∃q:Nat,q≤e.path.length∧i = .int .i64 q∧wr=W0∧Hid (∀j,(h:j<e.path.length)→j<q→Number e.path[j])) (fun i _=>e.path.length-(intOf i).toNat)
 case atStart=>exact⟨0,Nat.zero_le _,rfl,rfl,hide (fun j _ h=>absurd h (by omega))⟩
 case round =>
 obtain⟨q,hq,rfl,rfl,ah⟩:=hrel;by_cases hlt:q<e.path.length
 ·obtain⟨b,o,hpa,hc⟩:=(H.out.path.below HB0.out).1.at_ (j:=q) (by simpa using hlt);simp only[List.getElem_map]at hc;rw[hpa]at b1;have wW:=hide hpa;clear hpa;obtain⟨m,hm⟩:∃m,m=e.path[q]:=⟨_,rfl⟩;rw[←hm]at hc;have Hm:=hide hm;clear hm
  go_wp2_with(go_at_call 229;(with_reducible refine(kM m _).mono ?_);rintro e1 w1 ⟨⟨_|_,rfl,hb⟩,rfl⟩<;>(have Hb:=hide hb;clear hb))
  ·go_ret;refine⟨RetB.no (fun h=>?_),HB0.out⟩;have h1:=h.1 _ (List.getElem_mem hlt);rw[←Hm.out]at h1;exact absurd (Hb.out.2 h1) (by decide)
  ·go_roundw
   case rel=>exact⟨q+1,by omega,by go_num,by first|trivial|rfl,hide (fun j h hj=>by
    rcases Nat.lt_or_ge j q with h2|h2
    ·exact ah.out j h h2
    ·obtain rfl:j=q:=by omega
     rw[←Hm.out];exact Hb.out.1 (by first|rfl|trivial))⟩
   case measure=>simp[intOf];omega
 have au:Hid (∀n∈e.path,Number n):=hide (fun n hn=>by
  obtain⟨j,hj,rfl⟩:=List.getElem_of_mem hn;exact ah.out j hj (by omega))
 clear ah;obtain⟨W1,hW1⟩:∃W1,W1=World.alloc wr (.cells #[.int .u8 4,.slice x.pA e.path.length x.pc,.int .i64 0,.int .i64 0,.string ⟨#[]⟩,.string ⟨#[]⟩,.slice none 0 0,.slice none 0 0] 41):=⟨_,rfl⟩;have hB1:BxL w W1 [.int .u8 4,.slice x.pA e.path.length x.pc,.int .i64 e.at_,.int .i64 e.far,.string e.frm,.string e.to,.slice x.oA e.old.len x.oc,.slice x.nA e.new.len x.nc] [.int .u8 4,.slice x.pA e.path.length x.pc,.int .i64 0,.int .i64 0,.string ⟨#[]⟩,.string ⟨#[]⟩,.slice none 0 0,.slice none 0 0]:=by rw[hW1,HW0.out];exact BxL.start w #[.int .u8 4,.slice x.pA e.path.length x.pc,.int .i64 e.at_,.int .i64 e.far,.string e.frm,.string e.to,.slice x.oA e.old.len x.oc,.slice x.nA e.new.len x.nc] #[.int .u8 4,.slice x.pA e.path.length x.pc,.int .i64 0,.int .i64 0,.string ⟨#[]⟩,.string ⟨#[]⟩,.slice none 0 0,.slice none 0 0] _ _
 have hz0:wr.heap.size=w.heap.size+1:=by rw[HW0.out];simp
 have HW1:=hide hW1;clear hW1
 go_upto_region 7 with fail
 change Code.wp _ _ _ _ (World.alloc wr (.cells #[.int .u8 4,.slice x.pA e.path.length x.pc,.int .i64 0,.int .i64 0,.string ⟨#[]⟩,.string ⟨#[]⟩,.slice none 0 0,.slice none 0 0] 41));rw[←HW1.out];clear b0 b1 b2 b3 b4 b5 b6 b7 HW1 HW0;clear hz0;have b0:=hB1.c 0 _ rfl;have b1:=hB1.c 1 _ rfl;have b2:=hB1.c 2 _ rfl;have b3:=hB1.c 3 _ rfl;have b4:=hB1.c 4 _ rfl;have b5:=hB1.c 5 _ rfl;have b6:=hB1.c 6 _ rfl;have b7:=hB1.c 7 _ rfl;have r0:=hB1.r 0 _ rfl;have r1:=hB1.r 1 _ rfl;have r2:=hB1.r 2 _ rfl;have r3:=hB1.r 3 _ rfl;have r4:=hB1.r 4 _ rfl;have r5:=hB1.r 5 _ rfl;have r6:=hB1.r 6 _ rfl;have r7:=hB1.r 7 _ rfl;have fr:=hB1.fr;have HB1:=hide hB1;clear hB1 HB0
 go_upto_region 23 with fail
 have hBa:=HB1.out.putR 6 [.slice x.oA e.old.len x.oc] (by simp);obtain⟨wa,bD⟩:∃wa,wa=World.setCells W1 (w.heap.size+1) 6 [.slice x.oA e.old.len x.oc]:=⟨_,rfl⟩;rw[←bD]at hBa;simp only[World.setCells]at bD;rw[←bD];replace hBa:BxL w wa [.int .u8 4,.slice x.pA e.path.length x.pc,.int .i64 e.at_,.int .i64 e.far,.string e.frm,.string e.to,.slice x.oA e.old.len x.oc,.slice x.nA e.new.len x.nc] [.int .u8 4,.slice x.pA e.path.length x.pc,.int .i64 0,.int .i64 0,.string ⟨#[]⟩,.string ⟨#[]⟩,.slice x.oA e.old.len x.oc,.slice none 0 0]:=hBa;have dI:=hide hBa;clear hBa bD;have hBb:=dI.out.putR 7 [.slice x.nA e.new.len x.nc] (by simp);obtain⟨wb,bY⟩:∃wb,wb=World.setCells wa (w.heap.size+1) 7 [.slice x.nA e.new.len x.nc]:=⟨_,rfl⟩;rw[←bY]at hBb;simp only[World.setCells]at bY;rw[←bY];replace hBb:BxL w wb [.int .u8 4,.slice x.pA e.path.length x.pc,.int .i64 e.at_,.int .i64 e.far,.string e.frm,.string e.to,.slice x.oA e.old.len x.oc,.slice x.nA e.new.len x.nc] [.int .u8 4,.slice x.pA e.path.length x.pc,.int .i64 0,.int .i64 0,.string ⟨#[]⟩,.string ⟨#[]⟩,.slice x.oA e.old.len x.oc,.slice x.nA e.new.len x.nc]:=hBb;have eX:=hide hBb;clear hBb bY;clear b0 r0 b1 r1 b2 r2 b3 r3 b4 r4 b5 r5 b6 r6 b7 r7 fr HB1;clear dI;have ay:=eX;clear eX;have ai:=ay.out;have b0:=ai.c 0 _ rfl;have b1:=ai.c 1 _ rfl;have b2:=ai.c 2 _ rfl;have b3:=ai.c 3 _ rfl;have b4:=ai.c 4 _ rfl;have b5:=ai.c 5 _ rfl;have b6:=ai.c 6 _ rfl;have b7:=ai.c 7 _ rfl;have r0:=ai.r 0 _ rfl;have r1:=ai.r 1 _ rfl;have r2:=ai.r 2 _ rfl;have r3:=ai.r 3 _ rfl;have r4:=ai.r 4 _ rfl;have r5:=ai.r 5 _ rfl;have r6:=ai.r 6 _ rfl;have r7:=ai.r 7 _ rfl;have hNb:w.heap.size<wb.heap.size:=block_lt_of_cell b0;have bZ:w.heap.size+1<wb.heap.size:=block_lt_of_cell r0;have aW:=ai.b;have dR:=hide aW;clear ai aW;have aW:=dR.out;clear dR ay;have dC:Hid (∀W,Below wb.heap.size wb W→Calls Tryz.prog 155 #[.agg #[.int .u8 4,.slice x.pA e.path.length x.pc,.int .i64 e.at_,.int .i64 e.far,.string e.frm,.string e.to,.slice x.oA e.old.len x.oc,.slice x.nA e.new.len x.nc],.agg #[.int .u8 4,.slice x.pA e.path.length x.pc,.int .i64 0,.int .i64 0,.string ⟨#[]⟩,.string ⟨#[]⟩,.slice x.oA e.old.len x.oc,.slice x.nA e.new.len x.nc]] W fun e1 w'=>e1 = .returned (.bool true)∧Below W.heap.size W w'):=
  hide fun W h9=>(fun hW=>Ap (uC (a:={e with kind:=4}) (b:=⟨4,e.path,0,0,⟨#[]⟩,⟨#[]⟩,e.old,e.new⟩) (x:=x) (y:=⟨x.pA,x.pc,x.oA,x.oc,x.nA,x.nc⟩) ⟨(by show 4<256;omega),H.out.path.below hW,H.out.at_,H.out.far,H.out.frm,H.out.to,H.out.old.below hW,H.out.new.below hW,H.out.pc,H.out.oc,H.out.nc⟩ ⟨(by show 4<256;omega),H.out.path.below hW,(by show isInt64 0;unfold isInt64;omega),(by show isInt64 0;unfold isInt64;omega),(by show(0:Nat)≤_;omega),(by show(0:Nat)≤_;omega),(H.out.old.below hW),(H.out.new.below hW),H.out.pc,H.out.oc,H.out.nc⟩) Hh.out.1) (ak aW h9)
 have hgt:decide ((0:Int)<(e.path.length:Int))=true:=by have:=uS.1 Hh.out.2.1;simpa using this
 have hgt2:decide (0<e.path.length)=true:=by have:=uS.1 Hh.out.2.1;simp;omega
 have yR:Hid (∀W,Below wb.heap.size wb W→Calls Tryz.prog 231 #[.slice x.oA e.old.len x.oc] W fun e1 w'=>e1 = .returned (.bool true)∧Below W.heap.size W w'):=hide fun W h9=>Ap (yQ (H.out.old.below (ak aW h9)) (aI H.out.oc.1 H.out.oc.2)) Hh.out.2.2.1;have CO:Hid (∀W,Below wb.heap.size wb W→Calls Tryz.prog 231 #[.slice x.nA e.new.len x.nc] W fun e1 w'=>e1 = .returned (.bool true)∧Below W.heap.size W w'):=hide fun W h9=>Ap (yQ (H.out.new.below (ak aW h9)) (aI H.out.nc.1 H.out.nc.2)) Hh.out.2.2.2;obtain⟨ko,t1,m1,jq,eo⟩:=part_is Hh.out.2.2.1;obtain⟨kn,t2,m2,wC,en⟩:=part_is Hh.out.2.2.2;have ho:=H.out.old.below aW;have hn:=H.out.new.below aW;rw[eo]at ho;rw[en]at hn;obtain⟨ob,oo,I9,Zd,Fa,_,o0,o1,o2,o3,p1,p2,p3,p4,p5,hk1,_⟩:=ho;obtain⟨nb,no,Ze,Zf,Fb,_,n0,n1,n2,n3,q1,q2,q3,q4,q5,hk2,_⟩:=hn;have hlo:e.old.len=1:=by rw[eo];rfl
 have hln:e.new.len=1:=by rw[en];rfl
 obtain⟨bb,hbb⟩:∃bb:Bool,bb=true↔e.old=e.new:=by
  by_cases h:e.old=e.new
  ·exact⟨true,by simp[h]⟩
  ·exact⟨false,by simp[h]⟩
 have TM:=hide hbb;have TN:Hid (∀W,Below wb.heap.size wb W→Calls Tryz.prog 148 #[.agg #[.int .u8 ko,.string t1,.int .i64 m1,.slice I9 jq.len Zd],.agg #[.int .u8 kn,.string t2,.int .i64 m2,.slice Ze wC.len Zf]] W fun e1 w'=>e1 = .returned (.bool bb)∧Below W.heap.size W w'):=
  hide fun W h9=>(Qa (hk1.below h9) (hk2.below h9) (by omega) (by omega)).mono fun _ _ ⟨⟨b,e1,hb⟩,hq⟩=>⟨by
   have:b=bb:=by
    rw[Bool.eq_iff_iff,hb,hbb,eo,en];simp
   rw[e1,this],hq⟩
 have hNo:=block_lt_of_cell o0;have Ju:=block_lt_of_cell n0;have Hx:=hide (And.intro Fa Fb);rw[hlo,Fa]at b6;rw[hln,Fb]at b7;rw[hlo]at yR dC;rw[hln]at CO dC;rw[Fa]at yR dC;rw[Fb]at CO dC;rw[Fa,hlo]at r6;rw[Fb,hln]at r7;have Hle:=hide (And.intro hlo hln);have Heo:=hide (And.intro eo en);clear hbb hk1 hk2 p3 q3 Fa Fb hlo hln eo en;have hd1:Below wb.heap.size wb wb.drew:=aO (Below.refl _ _) 1;refine wp_region_held_drew (S:=Below wb.heap.size wb) (by kernel_rfl) hd1 (fun hHeld=>?_);generalize wb.drew=wD at hHeld⊢;refine tk (v:=?_) 0 hHeld ?_ ?_;rotate_left
 ·intro w' hSw;have f0:=(hSw.cell (p:=⟨w.heap.size,0,none⟩) hNb).trans b0;have f1:=(hSw.cell (p:=⟨w.heap.size,1,none⟩) hNb).trans b1;have f2:=(hSw.cell (p:=⟨w.heap.size,2,none⟩) hNb).trans b2;have f3:=(hSw.cell (p:=⟨w.heap.size,3,none⟩) hNb).trans b3;have f4:=(hSw.cell (p:=⟨w.heap.size,4,none⟩) hNb).trans b4;have f5:=(hSw.cell (p:=⟨w.heap.size,5,none⟩) hNb).trans b5;have f6:=(hSw.cell (p:=⟨w.heap.size,6,none⟩) hNb).trans b6;have f7:=(hSw.cell (p:=⟨w.heap.size,7,none⟩) hNb).trans b7
  first|(go_simp;done)|(go_simp;with_reducible rfl)
 try simp only[aA,aB]
 refine tk (v:=?_) 1 hHeld ?_ ?_;rotate_left
 ·intro w' hSw;have f0:=(hSw.cell (p:=⟨w.heap.size+1,0,none⟩) bZ).trans r0;have f1:=(hSw.cell (p:=⟨w.heap.size+1,1,none⟩) bZ).trans r1;have f2:=(hSw.cell (p:=⟨w.heap.size+1,2,none⟩) bZ).trans r2;have f3:=(hSw.cell (p:=⟨w.heap.size+1,3,none⟩) bZ).trans r3;have f4:=(hSw.cell (p:=⟨w.heap.size+1,4,none⟩) bZ).trans r4;have f5:=(hSw.cell (p:=⟨w.heap.size+1,5,none⟩) bZ).trans r5;have f6:=(hSw.cell (p:=⟨w.heap.size+1,6,none⟩) bZ).trans r6;have f7:=(hSw.cell (p:=⟨w.heap.size+1,7,none⟩) bZ).trans r7
  first|(go_simp;done)|(go_simp;with_reducible rfl)
 try simp only[aA,aB]
 refine wpAnyH_ready (rs:=[2]) (by kernel_rfl) (by simp) ?_;refine AllReadyH.cons rfl (fun K hK=>?_) AllReadyH.nil;go_simp
 go_wp2_with(go_at_call 155;(with_reducible refine(dC.out _ hHeld).mono ?_);rintro e1 w1 ⟨rfl,hB1⟩)
 replace hHeld:=hHeld.trans (hB1.mono hHeld.size);refine hK.out _ _ hHeld (fun _=>?_);clear hK K hB1
 try simp only[Act.put,aG,aE,aF,aD,aA,aB]
 refine ae 3 hHeld ?_;refine ae 4 hHeld ?_;refine tk (v:=?_) 5 hHeld ?_ ?_;rotate_left
 ·intro w' hSw;have f1:=(hSw.cell (p:=⟨w.heap.size,1,none⟩) hNb).trans b1
  first|(go_simp;done)|(go_simp;with_reducible rfl)
 try simp only[aA,aB]
 refine ae 6 hHeld ?_;refine ae 7 hHeld ?_;refine ae 8 hHeld ?_;refine ae 9 hHeld ?_;refine ae 10 hHeld ?_;refine tk (v:=?_) 11 hHeld ?_ ?_;rotate_left
 ·intro w' hSw;have f6:=(hSw.cell (p:=⟨w.heap.size,6,none⟩) hNb).trans b6
  first|(go_simp;done)|(go_simp;with_reducible rfl)
 try simp only[aA,aB]
 refine wpAnyH_ready (rs:=[12]) (by kernel_rfl) (by simp) ?_;refine AllReadyH.cons rfl (fun K hK=>?_) AllReadyH.nil;go_simp
 go_wp2_with(go_at_call 231;(with_reducible refine(yR.out _ hHeld).mono ?_);rintro e1 w2 ⟨rfl,hB1⟩)
 replace hHeld:=hHeld.trans (hB1.mono hHeld.size);refine hK.out _ _ hHeld (fun _=>?_);clear hK K hB1
 try simp only[Act.put,aG,aE,aF,aD,aA,aB]
 refine ae 13 hHeld ?_;refine ae 14 hHeld ?_;refine ae 15 hHeld ?_;refine tk (v:=?_) 16 hHeld ?_ ?_;rotate_left
 ·intro w' hSw;have f7:=(hSw.cell (p:=⟨w.heap.size,7,none⟩) hNb).trans b7
  first|(go_simp;done)|(go_simp;with_reducible rfl)
 try simp only[aA,aB]
 refine wpAnyH_ready (rs:=[17]) (by kernel_rfl) (by simp) ?_;refine AllReadyH.cons rfl (fun K hK=>?_) AllReadyH.nil;go_simp
 go_wp2_with(go_at_call 231;(with_reducible refine(CO.out _ hHeld).mono ?_);rintro e1 w3 ⟨rfl,hB1⟩)
 replace hHeld:=hHeld.trans (hB1.mono hHeld.size);refine hK.out _ _ hHeld (fun _=>?_);clear hK K hB1
 try simp only[Act.put,aG,aE,aF,aD,aA,aB]
 refine ae 18 hHeld ?_;refine ae 19 hHeld ?_;refine ae 20 hHeld ?_;refine tk (v:=?_) 21 hHeld ?_ ?_;rotate_left
 ·intro w' hSw;have f6:=(hSw.cell (p:=⟨w.heap.size,6,none⟩) hNb).trans b6
  first|(go_simp;done)|(go_simp;with_reducible rfl)
 try simp only[aA,aB]
 refine ae 22 hHeld ?_;refine tk (v:=?_) 23 hHeld ?_ ?_;rotate_left
 ·intro w' hSw;have g0:=(hSw.cell (p:=⟨ob,oo,none⟩) hNo).trans o0;have g1:=(hSw.cell (p:=⟨ob,oo+1,none⟩) hNo).trans o1;have g2:=(hSw.cell (p:=⟨ob,oo+2,none⟩) hNo).trans o2;have g3:=(hSw.cell (p:=⟨ob,oo+3,none⟩) hNo).trans o3
  first|(go_simp;done)|(go_simp;with_reducible rfl)
 try simp only[aA,aB]
 refine ae 24 hHeld ?_;refine tk (v:=?_) 25 hHeld ?_ ?_;rotate_left
 ·intro w' hSw;have f7:=(hSw.cell (p:=⟨w.heap.size,7,none⟩) hNb).trans b7
  first|(go_simp;done)|(go_simp;with_reducible rfl)
 try simp only[aA,aB]
 refine ae 26 hHeld ?_;refine tk (v:=?_) 27 hHeld ?_ ?_;rotate_left
 ·intro w' hSw;have g0:=(hSw.cell (p:=⟨nb,no,none⟩) Ju).trans n0;have g1:=(hSw.cell (p:=⟨nb,no+1,none⟩) Ju).trans n1;have g2:=(hSw.cell (p:=⟨nb,no+2,none⟩) Ju).trans n2;have g3:=(hSw.cell (p:=⟨nb,no+3,none⟩) Ju).trans n3
  first|(go_simp;done)|(go_simp;with_reducible rfl)
 try simp only[aA,aB]
 refine wpAnyH_ready (rs:=[28]) (by kernel_rfl) (by simp) ?_;refine AllReadyH.cons rfl (fun K hK=>?_) AllReadyH.nil;go_simp
 go_wp2_with(go_at_call 148;(with_reducible refine(TN.out _ hHeld).mono ?_);rintro e1 w4 ⟨rfl,hB1⟩)
 replace hHeld:=hHeld.trans (hB1.mono hHeld.size);refine hK.out _ _ hHeld (fun _=>?_);clear hK K hB1
 try simp only[Act.put,aG,aE,aF,aD,aA,aB]
 refine ae 29 hHeld ?_;refine ae 30 hHeld ?_;refine ae 31 hHeld ?_;have wX:Hid (Below w.heap.size w _):=hide (ak aW hHeld);refine wpAnyH_done (by kernel_rfl) ?_ _
 try simp only[Act.put,aG,aE,aF,aD,aA,aB]
 go_wp2_with fail
 go_ret;refine⟨RetB.mk ?_,wX.out⟩;rw[E5];have h8:=Hh.out;have h7:=au.out;clear dC yR CO TN H Hx;rcases Mc:bb with _|_
 ·exact⟨fun _=>⟨h7,h8.1,h8.2.1,h8.2.2.1,h8.2.2.2,fun h=>by have h9:=TM.out.2 h;rw[Mc]at h9;cases h9⟩,fun _=>rfl⟩
 ·exact⟨fun h=>(by cases h),fun h=>absurd (TM.out.1 Mc) h.2.2.2.2.2⟩
theorem Zg{S:Nat→Prop}{x:Eh}{e:Ed}{w:World}(he:EdIn S w x e):
  Calls Tryz.prog 182 #[.agg #[.int .u8 e.kind,.slice x.pA e.path.length x.pc,.int .i64 e.at_,.int .i64 e.far,.string e.frm,.string e.to,.slice x.oA e.old.len x.oc,.slice x.nA e.new.len x.nc]] w fun e1 w'=>RetB (EdOk e) e1∧Below w.heap.size w w':=by
 obtain⟨kd,path,at_,far,frm,gz,old,new⟩:=e;by_cases h1:kd=1
 ·subst h1;exact YZ he
 by_cases h2:kd=2
 ·subst h2;exact Y4 he
 by_cases h3:kd=3
 ·subst h3;exact Y5 he
 by_cases h5:kd=5
 ·subst h5;exact Y6 he
 by_cases h4:kd=4
 ·subst h4;by_cases g0:(⟨4,path,at_,far,frm,gz,old,new⟩:Ed)=⟨4,path,0,0,⟨#[]⟩,⟨#[]⟩,old,new⟩
  ·by_cases g1:path=[]
   ·exact Y9 he g0 g1
   by_cases g2:PartOk old
   ·by_cases g3:PartOk new
    ·exact Zc he g0 g1 g2 g3
    ·exact Zb he g0 g1 g2 g3
   ·exact Za he g0 g1 g2
  ·exact Y8 he g0
 exact Y7 he h1 h2 h3 h4 h5
end
end Go.Proofs.YtjjaojnglnpgaaaGreatDoor
