/- Part 36 of what scriptShows_cardUpto rests on. -/
import Derived.Test.YtjjaojnglnpgaaaGreatDoorZ34
import Derived.Test.YtjjaojnglnpgaaaGreatDoorZ06
import Derived.Test.YtjjaojnglnpgaaaGreatDoorZ02
import Derived.Test.YtjjaojnglnpgaaaGreatDoorZ07
import Derived.Test.YtjjaojnglnpgaaaGreatDoorZ11
import Derived.Test.YtjjaojnglnpgaaaGreatDoorZ00
set_option linter.unusedVariables false
set_option linter.unusedSimpArgs false
set_option maxHeartbeats 16000000
set_option maxRecDepth 1000000
namespace Go.Proofs.YtjjaojnglnpgaaaGreatDoor
section
open Go.RowKit
theorem y9{e:Ed}:dC {e with kind:=1}↔(∀n∈e.path,Number n)∧({e with kind:=1}:Ed)=⟨1,e.path,0,0,e.frm,e.to,.nil,.nil⟩∧e.path≠[]∧dM e.frm∧dM e.to∧e.frm≠e.to:=by
 obtain⟨kd,path,at_,far,frm,qY,old,new⟩:=e;have hn:ae=⟨#[]⟩:=rfl;unfold dC;simp only[Ed.mk.injEq,hn];simp
 try grind
theorem zf{e:Ed}:dC {e with kind:=2}↔(∀n∈e.path,Number n)∧({e with kind:=2}:Ed)=⟨2,e.path,e.at_,0,⟨#[]⟩,⟨#[]⟩,.nil,e.new⟩∧Number e.at_∧bD e.new:=by
 obtain⟨kd,path,at_,far,frm,qY,old,new⟩:=e;have hn:ae=⟨#[]⟩:=rfl;unfold dC;simp only[Ed.mk.injEq,hn];simp
 try grind
theorem zg{e:Ed}:dC {e with kind:=3}↔(∀n∈e.path,Number n)∧({e with kind:=3}:Ed)=⟨3,e.path,e.at_,0,⟨#[]⟩,⟨#[]⟩,e.old,.nil⟩∧Number e.at_∧bD e.old:=by
 obtain⟨kd,path,at_,far,frm,qY,old,new⟩:=e;have hn:ae=⟨#[]⟩:=rfl;unfold dC;simp only[Ed.mk.injEq,hn];simp
 try grind
theorem KW{e:Ed}:dC {e with kind:=4}↔(∀n∈e.path,Number n)∧({e with kind:=4}:Ed)=⟨4,e.path,0,0,⟨#[]⟩,⟨#[]⟩,e.old,e.new⟩∧e.path≠[]∧bD e.old∧bD e.new∧e.old≠e.new:=by
 obtain⟨kd,path,at_,far,frm,qY,old,new⟩:=e;have hn:ae=⟨#[]⟩:=rfl;unfold dC;simp only[Ed.mk.injEq,hn];simp
 try grind
theorem zh{e:Ed}:dC {e with kind:=5}↔(∀n∈e.path,Number n)∧({e with kind:=5}:Ed)=⟨5,e.path,e.at_,e.far,⟨#[]⟩,⟨#[]⟩,e.old,.nil⟩∧Number e.at_∧Number e.far∧e.at_≠e.far∧bD e.old:=by
 obtain⟨kd,path,at_,far,frm,qY,old,new⟩:=e;have hn:ae=⟨#[]⟩:=rfl;unfold dC;simp only[Ed.mk.injEq,hn];simp
 try grind
theorem zi{e:Ed}(h1:e.kind≠1)(h2:e.kind≠2)(h3:e.kind≠3)(h4:e.kind≠4)(h5:e.kind≠5):¬dC e:=by
 unfold dC;omega
theorem AA{l:List Int}:l≠[]↔(0:Int)<(l.length:Int):=by
 cases l with
 | nil=>simp
 | cons a r=>simp only[List.length_cons];constructor<;>(intro _;first|omega|simp)
theorem zhY{S:Nat→Prop}{x:Eh}{e:Ed}{w:World}(he:dm S w x e):
  Calls Tryz.prog 182 #[.agg #[.int .u8 1,.slice x.pA e.path.length x.pc,.int .i64 e.at_,.int .i64 e.far,.string e.frm,.string e.to,.slice x.oA e.old.len x.oc,.slice x.nA e.new.len x.nc]] w fun e1 w'=>ah (dC {e with kind:=1}) e1∧Below w.heap.size w w':=by
 have hfs:=he.frm;have hts:=he.to;have H:=hide he;obtain⟨W0,hW0⟩:∃W0,W0=w.alloc (.cells #[.int .u8 1,.slice x.pA e.path.length x.pc,.int .i64 e.at_,.int .i64 e.far,.string e.frm,.string e.to,.slice x.oA e.old.len x.oc,.slice x.nA e.new.len x.nc] 41):=⟨_,rfl⟩;have hcl0:bP W0 w.heap.size [.int .u8 1,.slice x.pA e.path.length x.pc,.int .i64 e.at_,.int .i64 e.far,.string e.frm,.string e.to,.slice x.oA e.old.len x.oc,.slice x.nA e.new.len x.nc]:=fun j u hu=>by rw[hW0,Lib.cell_of_heap (heap_alloc_new w _)];simpa using hu
 have kQ:Below w.heap.size w W0:=by rw[hW0];exact az _ _
 have HB0:=hide kQ;have HW0:=hide hW0;have hlp:=aI he.pc.1 he.pc.2;have b0:=hcl0 0 _ rfl;have b1:=hcl0 1 _ rfl;have b2:=hcl0 2 _ rfl;have b3:=hcl0 3 _ rfl;have b4:=hcl0 4 _ rfl;have b5:=hcl0 5 _ rfl;have b6:=hcl0 6 _ rfl;have b7:=hcl0 7 _ rfl;clear he hW0 hcl0 kQ;go_enter Tryz.func182,Tryz.ntmps182
 go_upto_region 1 with fail
 change Code.wp _ _ _ _ (w.alloc (.cells #[.int .u8 1,.slice x.pA e.path.length x.pc,.int .i64 e.at_,.int .i64 e.far,.string e.frm,.string e.to,.slice x.oA e.old.len x.oc,.slice x.nA e.new.len x.nc] 41));rw[←HW0.out]
 go_wp2_with fail
 go_loopw [3] (fun i wr=>∃q:Nat,q≤e.path.length∧i = .int .i64 q∧wr=W0∧Hid (∀j,(h:j<e.path.length)→j<q→Number e.path[j])) (fun i _=>e.path.length-(intOf i).toNat)
 case atStart=>exact⟨0,Nat.zero_le _,rfl,rfl,hide (fun j _ h=>absurd h (by omega))⟩
 case round =>
 obtain⟨q,hq,rfl,rfl,aQ⟩:=hrel;by_cases hlt:q<e.path.length
 ·obtain⟨b,o,hpa,hc⟩:=(H.out.path.below HB0.out).1.at_ (j:=q) (by simpa using hlt);simp only[List.getElem_map]at hc;rw[hpa]at b1;have CY:=hide hpa;clear hpa;obtain⟨m,hm⟩:∃m,m=e.path[q]:=⟨_,rfl⟩;rw[←hm]at hc;have Hm:=hide hm;clear hm
  go_wp2_with(go_at_call 229;(with_reducible refine(qJ m _).mono ?_);rintro e1 w1 ⟨⟨_|_,rfl,hb⟩,rfl⟩<;>(have Hb:=hide hb;clear hb))
  ·go_ret;refine⟨ah.no (fun h=>?_),HB0.out⟩;have h1:=h.1 _ (List.getElem_mem hlt);rw[←Hm.out]at h1;exact absurd (Hb.out.2 h1) (by decide)
  ·go_roundw
   case rel=>exact⟨q+1,by omega,by go_num,by first|trivial|rfl,hide (fun j h hj=>by
    rcases Nat.lt_or_ge j q with h2|h2
    ·exact aQ.out j h h2
    ·obtain rfl:j=q:=by omega
     rw[←Hm.out];exact Hb.out.1 (by first|rfl|trivial))⟩
   case measure=>simp[intOf];omega
 have bC:Hid (∀n∈e.path,Number n):=hide (fun n hn=>by
  obtain⟨j,hj,rfl⟩:=List.getElem_of_mem hn;exact aQ.out j hj (by omega))
 clear aQ;obtain⟨W1,hW1⟩:∃W1,W1=World.alloc wr (.cells #[.int .u8 1,.slice x.pA e.path.length x.pc,.int .i64 0,.int .i64 0,.string ⟨#[]⟩,.string ⟨#[]⟩,.slice none 0 0,.slice none 0 0] 41):=⟨_,rfl⟩;have hB1:dw w W1 [.int .u8 1,.slice x.pA e.path.length x.pc,.int .i64 e.at_,.int .i64 e.far,.string e.frm,.string e.to,.slice x.oA e.old.len x.oc,.slice x.nA e.new.len x.nc] [.int .u8 1,.slice x.pA e.path.length x.pc,.int .i64 0,.int .i64 0,.string ⟨#[]⟩,.string ⟨#[]⟩,.slice none 0 0,.slice none 0 0]:=by rw[hW1,HW0.out];exact dw.start w #[.int .u8 1,.slice x.pA e.path.length x.pc,.int .i64 e.at_,.int .i64 e.far,.string e.frm,.string e.to,.slice x.oA e.old.len x.oc,.slice x.nA e.new.len x.nc] #[.int .u8 1,.slice x.pA e.path.length x.pc,.int .i64 0,.int .i64 0,.string ⟨#[]⟩,.string ⟨#[]⟩,.slice none 0 0,.slice none 0 0] _ _
 have hz0:wr.heap.size=w.heap.size+1:=by rw[HW0.out];simp
 have HW1:=hide hW1;clear hW1
 go_upto_region 7 with fail
 change Code.wp _ _ _ _ (World.alloc wr (.cells #[.int .u8 1,.slice x.pA e.path.length x.pc,.int .i64 0,.int .i64 0,.string ⟨#[]⟩,.string ⟨#[]⟩,.slice none 0 0,.slice none 0 0] 41));rw[←HW1.out];clear b0 b1 b2 b3 b4 b5 b6 b7 HW1 HW0;clear hz0;have b0:=hB1.c 0 _ rfl;have b1:=hB1.c 1 _ rfl;have b2:=hB1.c 2 _ rfl;have b3:=hB1.c 3 _ rfl;have b4:=hB1.c 4 _ rfl;have b5:=hB1.c 5 _ rfl;have b6:=hB1.c 6 _ rfl;have b7:=hB1.c 7 _ rfl;have r0:=hB1.r 0 _ rfl;have r1:=hB1.r 1 _ rfl;have r2:=hB1.r 2 _ rfl;have r3:=hB1.r 3 _ rfl;have r4:=hB1.r 4 _ rfl;have r5:=hB1.r 5 _ rfl;have r6:=hB1.r 6 _ rfl;have r7:=hB1.r 7 _ rfl;have fr:=hB1.fr;have HB1:=hide hB1;clear hB1 HB0
 go_upto_region 11 with fail
 have hBa:=HB1.out.putR 4 [.string e.frm] (by simp);obtain⟨wa,fH⟩:∃wa,wa=World.setCells W1 (w.heap.size+1) 4 [.string e.frm]:=⟨_,rfl⟩;rw[←fH]at hBa;simp only[World.setCells]at fH;rw[←fH];replace hBa:dw w wa [.int .u8 1,.slice x.pA e.path.length x.pc,.int .i64 e.at_,.int .i64 e.far,.string e.frm,.string e.to,.slice x.oA e.old.len x.oc,.slice x.nA e.new.len x.nc] [.int .u8 1,.slice x.pA e.path.length x.pc,.int .i64 0,.int .i64 0,.string e.frm,.string ⟨#[]⟩,.slice none 0 0,.slice none 0 0]:=hBa;have jT:=hide hBa;clear hBa fH;have hBb:=jT.out.putR 5 [.string e.to] (by simp);obtain⟨wb,iT⟩:∃wb,wb=World.setCells wa (w.heap.size+1) 5 [.string e.to]:=⟨_,rfl⟩;rw[←iT]at hBb;simp only[World.setCells]at iT;rw[←iT];replace hBb:dw w wb [.int .u8 1,.slice x.pA e.path.length x.pc,.int .i64 e.at_,.int .i64 e.far,.string e.frm,.string e.to,.slice x.oA e.old.len x.oc,.slice x.nA e.new.len x.nc] [.int .u8 1,.slice x.pA e.path.length x.pc,.int .i64 0,.int .i64 0,.string e.frm,.string e.to,.slice none 0 0,.slice none 0 0]:=hBb;have lT:=hide hBb;clear hBb iT;clear b0 r0 b1 r1 b2 r2 b3 r3 b4 r4 b5 r5 b6 r6 b7 r7 fr HB1;clear jT;have cu:=lT;clear lT;have jb:Hid (∀W,Below w.heap.size w W→Calls Tryz.prog 155 #[.agg #[.int .u8 1,.slice x.pA e.path.length x.pc,.int .i64 e.at_,.int .i64 e.far,.string e.frm,.string e.to,.slice x.oA e.old.len x.oc,.slice x.nA e.new.len x.nc],.agg #[.int .u8 1,.slice x.pA e.path.length x.pc,.int .i64 0,.int .i64 0,.string e.frm,.string e.to,.slice none 0 0,.slice none 0 0]] W fun e1 w'=>ah (({e with kind:=1}:Ed)=⟨1,e.path,0,0,e.frm,e.to,.nil,.nil⟩) e1∧Below W.heap.size W w'):=
  hide fun W hW=>wI (a:={e with kind:=1}) (b:=⟨1,e.path,0,0,e.frm,e.to,.nil,.nil⟩) (x:=x) (y:=⟨x.pA,x.pc,none,0,none,0⟩) ⟨(by show 1<256;omega),H.out.path.below hW,H.out.at_,H.out.far,H.out.frm,H.out.to,H.out.old.below hW,H.out.new.below hW,H.out.pc,H.out.oc,H.out.nc⟩ ⟨(by show 1<256;omega),H.out.path.below hW,(by show ai 0;unfold ai;omega),(by show ai 0;unfold ai;omega),H.out.frm,H.out.to,trivial,trivial,H.out.pc,⟨by simp[Fo.len],by simp⟩,⟨by simp[Fo.len],by simp⟩⟩
 have aU:=cu.out;have b0:=aU.c 0 _ rfl;have b1:=aU.c 1 _ rfl;have b2:=aU.c 2 _ rfl;have b3:=aU.c 3 _ rfl;have b4:=aU.c 4 _ rfl;have b5:=aU.c 5 _ rfl;have b6:=aU.c 6 _ rfl;have b7:=aU.c 7 _ rfl;have r0:=aU.r 0 _ rfl;have r1:=aU.r 1 _ rfl;have r2:=aU.r 2 _ rfl;have r3:=aU.r 3 _ rfl;have r4:=aU.r 4 _ rfl;have r5:=aU.r 5 _ rfl;have r6:=aU.r 6 _ rfl;have r7:=aU.r 7 _ rfl;clear aU
 go_wp2_with(first
  | (go_at_call 155;(with_reducible refine(jb.out _ cu.out.b).mono ?_);rintro e1 w1 ⟨⟨c1,rfl,hb⟩,hB⟩;have hC:=cu.out.call hB;clear b0 r0 b1 r1 b2 r2 b3 r3 b4 r4 b5 r5 b6 r6 b7 r7;have b0:=hC.c 0 _ rfl;have b1:=hC.c 1 _ rfl;have b2:=hC.c 2 _ rfl;have b3:=hC.c 3 _ rfl;have b4:=hC.c 4 _ rfl;have b5:=hC.c 5 _ rfl;have b6:=hC.c 6 _ rfl;have b7:=hC.c 7 _ rfl;have r0:=hC.r 0 _ rfl;have r1:=hC.r 1 _ rfl;have r2:=hC.r 2 _ rfl;have r3:=hC.r 3 _ rfl;have r4:=hC.r 4 _ rfl;have r5:=hC.r 5 _ rfl;have r6:=hC.r 6 _ rfl;have r7:=hC.r 7 _ rfl;have eQ:=hide hC;have Hb1:=hide hb;clear hb hB hC)
  | (go_at_call 230;(with_reducible refine(PT e.frm _ hfs).mono ?_);rintro e2 w2 ⟨⟨c2,rfl,hb⟩,hB⟩;have hC:=eQ.out.call hB;clear b0 r0 b1 r1 b2 r2 b3 r3 b4 r4 b5 r5 b6 r6 b7 r7;have b0:=hC.c 0 _ rfl;have b1:=hC.c 1 _ rfl;have b2:=hC.c 2 _ rfl;have b3:=hC.c 3 _ rfl;have b4:=hC.c 4 _ rfl;have b5:=hC.c 5 _ rfl;have b6:=hC.c 6 _ rfl;have b7:=hC.c 7 _ rfl;have r0:=hC.r 0 _ rfl;have r1:=hC.r 1 _ rfl;have r2:=hC.r 2 _ rfl;have r3:=hC.r 3 _ rfl;have r4:=hC.r 4 _ rfl;have r5:=hC.r 5 _ rfl;have r6:=hC.r 6 _ rfl;have r7:=hC.r 7 _ rfl;have fO:=hide hC;have Hb2:=hide hb;clear hb hB hC)
  | (go_at_call 230;(with_reducible refine(PT e.to _ hts).mono ?_);rintro e3 w3 ⟨⟨c3,rfl,hb⟩,hB⟩;have hC:=fO.out.call hB;clear b0 r0 b1 r1 b2 r2 b3 r3 b4 r4 b5 r5 b6 r6 b7 r7;have b0:=hC.c 0 _ rfl;have b1:=hC.c 1 _ rfl;have b2:=hC.c 2 _ rfl;have b3:=hC.c 3 _ rfl;have b4:=hC.c 4 _ rfl;have b5:=hC.c 5 _ rfl;have b6:=hC.c 6 _ rfl;have b7:=hC.c 7 _ rfl;have r0:=hC.r 0 _ rfl;have r1:=hC.r 1 _ rfl;have r2:=hC.r 2 _ rfl;have r3:=hC.r 3 _ rfl;have r4:=hC.r 4 _ rfl;have r5:=hC.r 5 _ rfl;have r6:=hC.r 6 _ rfl;have r7:=hC.r 7 _ rfl;have jl:=hide hC;have Hb3:=hide hb;clear hb hB hC))
 all_goals
  go_ret;go_tidy;have hok:=@y9 e;have hpp:=bC.out;have GG:=@AA e.path;have htt:=dZ (s:=e.frm) (t:=e.to)
  try have q1:=Hb1.out
  try have q2:=Hb2.out
  try have q3:=Hb3.out
  refine⟨ah.mk ?_,by first|exact jl.out.b|exact fO.out.b|exact eQ.out.b|exact cu.out.b⟩;rw[hok];clear hok jb H bC
  try clear Hb1 eQ
  try clear Hb2 fO
  try clear Hb3 jl
  first
   | grind
theorem zhZ{S:Nat→Prop}{x:Eh}{e:Ed}{w:World}(he:dm S w x e):
  Calls Tryz.prog 182 #[.agg #[.int .u8 2,.slice x.pA e.path.length x.pc,.int .i64 e.at_,.int .i64 e.far,.string e.frm,.string e.to,.slice x.oA e.old.len x.oc,.slice x.nA e.new.len x.nc]] w fun e1 w'=>ah (dC {e with kind:=2}) e1∧Below w.heap.size w w':=by
 have H:=hide he;obtain⟨W0,hW0⟩:∃W0,W0=w.alloc (.cells #[.int .u8 2,.slice x.pA e.path.length x.pc,.int .i64 e.at_,.int .i64 e.far,.string e.frm,.string e.to,.slice x.oA e.old.len x.oc,.slice x.nA e.new.len x.nc] 41):=⟨_,rfl⟩;have hcl0:bP W0 w.heap.size [.int .u8 2,.slice x.pA e.path.length x.pc,.int .i64 e.at_,.int .i64 e.far,.string e.frm,.string e.to,.slice x.oA e.old.len x.oc,.slice x.nA e.new.len x.nc]:=fun j u hu=>by rw[hW0,Lib.cell_of_heap (heap_alloc_new w _)];simpa using hu
 have kQ:Below w.heap.size w W0:=by rw[hW0];exact az _ _
 have HB0:=hide kQ;have HW0:=hide hW0;have hlp:=aI he.pc.1 he.pc.2;have b0:=hcl0 0 _ rfl;have b1:=hcl0 1 _ rfl;have b2:=hcl0 2 _ rfl;have b3:=hcl0 3 _ rfl;have b4:=hcl0 4 _ rfl;have b5:=hcl0 5 _ rfl;have b6:=hcl0 6 _ rfl;have b7:=hcl0 7 _ rfl;clear he hW0 hcl0 kQ;go_enter Tryz.func182,Tryz.ntmps182
 go_upto_region 1 with fail
 change Code.wp _ _ _ _ (w.alloc (.cells #[.int .u8 2,.slice x.pA e.path.length x.pc,.int .i64 e.at_,.int .i64 e.far,.string e.frm,.string e.to,.slice x.oA e.old.len x.oc,.slice x.nA e.new.len x.nc] 41));rw[←HW0.out]
 go_wp2_with fail
 go_loopw [3] (fun i wr=>∃q:Nat,q≤e.path.length∧i = .int .i64 q∧wr=W0∧Hid (∀j,(h:j<e.path.length)→j<q→Number e.path[j])) (fun i _=>e.path.length-(intOf i).toNat)
 case atStart=>exact⟨0,Nat.zero_le _,rfl,rfl,hide (fun j _ h=>absurd h (by omega))⟩
 case round =>
 obtain⟨q,hq,rfl,rfl,aQ⟩:=hrel;by_cases hlt:q<e.path.length
 ·obtain⟨b,o,hpa,hc⟩:=(H.out.path.below HB0.out).1.at_ (j:=q) (by simpa using hlt);simp only[List.getElem_map]at hc;rw[hpa]at b1;have CY:=hide hpa;clear hpa;obtain⟨m,hm⟩:∃m,m=e.path[q]:=⟨_,rfl⟩;rw[←hm]at hc;have Hm:=hide hm;clear hm
  go_wp2_with(go_at_call 229;(with_reducible refine(qJ m _).mono ?_);rintro e1 w1 ⟨⟨_|_,rfl,hb⟩,rfl⟩<;>(have Hb:=hide hb;clear hb))
  ·go_ret;refine⟨ah.no (fun h=>?_),HB0.out⟩;have h1:=h.1 _ (List.getElem_mem hlt);rw[←Hm.out]at h1;exact absurd (Hb.out.2 h1) (by decide)
  ·go_roundw
   case rel=>exact⟨q+1,by omega,by go_num,by first|trivial|rfl,hide (fun j h hj=>by
    rcases Nat.lt_or_ge j q with h2|h2
    ·exact aQ.out j h h2
    ·obtain rfl:j=q:=by omega
     rw[←Hm.out];exact Hb.out.1 (by first|rfl|trivial))⟩
   case measure=>simp[intOf];omega
 have bC:Hid (∀n∈e.path,Number n):=hide (fun n hn=>by
  obtain⟨j,hj,rfl⟩:=List.getElem_of_mem hn;exact aQ.out j hj (by omega))
 clear aQ;obtain⟨W1,hW1⟩:∃W1,W1=World.alloc wr (.cells #[.int .u8 2,.slice x.pA e.path.length x.pc,.int .i64 0,.int .i64 0,.string ⟨#[]⟩,.string ⟨#[]⟩,.slice none 0 0,.slice none 0 0] 41):=⟨_,rfl⟩;have hB1:dw w W1 [.int .u8 2,.slice x.pA e.path.length x.pc,.int .i64 e.at_,.int .i64 e.far,.string e.frm,.string e.to,.slice x.oA e.old.len x.oc,.slice x.nA e.new.len x.nc] [.int .u8 2,.slice x.pA e.path.length x.pc,.int .i64 0,.int .i64 0,.string ⟨#[]⟩,.string ⟨#[]⟩,.slice none 0 0,.slice none 0 0]:=by rw[hW1,HW0.out];exact dw.start w #[.int .u8 2,.slice x.pA e.path.length x.pc,.int .i64 e.at_,.int .i64 e.far,.string e.frm,.string e.to,.slice x.oA e.old.len x.oc,.slice x.nA e.new.len x.nc] #[.int .u8 2,.slice x.pA e.path.length x.pc,.int .i64 0,.int .i64 0,.string ⟨#[]⟩,.string ⟨#[]⟩,.slice none 0 0,.slice none 0 0] _ _
 have hz0:wr.heap.size=w.heap.size+1:=by rw[HW0.out];simp
 have HW1:=hide hW1;clear hW1
 go_upto_region 7 with fail
 change Code.wp _ _ _ _ (World.alloc wr (.cells #[.int .u8 2,.slice x.pA e.path.length x.pc,.int .i64 0,.int .i64 0,.string ⟨#[]⟩,.string ⟨#[]⟩,.slice none 0 0,.slice none 0 0] 41));rw[←HW1.out];clear b0 b1 b2 b3 b4 b5 b6 b7 HW1 HW0;clear hz0;have b0:=hB1.c 0 _ rfl;have b1:=hB1.c 1 _ rfl;have b2:=hB1.c 2 _ rfl;have b3:=hB1.c 3 _ rfl;have b4:=hB1.c 4 _ rfl;have b5:=hB1.c 5 _ rfl;have b6:=hB1.c 6 _ rfl;have b7:=hB1.c 7 _ rfl;have r0:=hB1.r 0 _ rfl;have r1:=hB1.r 1 _ rfl;have r2:=hB1.r 2 _ rfl;have r3:=hB1.r 3 _ rfl;have r4:=hB1.r 4 _ rfl;have r5:=hB1.r 5 _ rfl;have r6:=hB1.r 6 _ rfl;have r7:=hB1.r 7 _ rfl;have fr:=hB1.fr;have HB1:=hide hB1;clear hB1 HB0
 go_upto_region 15 with fail
 have hBa:=HB1.out.putR 2 [.int .i64 e.at_] (by simp);obtain⟨wa,fH⟩:∃wa,wa=World.setCells W1 (w.heap.size+1) 2 [.int .i64 e.at_]:=⟨_,rfl⟩;rw[←fH]at hBa;simp only[World.setCells]at fH;rw[←fH];replace hBa:dw w wa [.int .u8 2,.slice x.pA e.path.length x.pc,.int .i64 e.at_,.int .i64 e.far,.string e.frm,.string e.to,.slice x.oA e.old.len x.oc,.slice x.nA e.new.len x.nc] [.int .u8 2,.slice x.pA e.path.length x.pc,.int .i64 e.at_,.int .i64 0,.string ⟨#[]⟩,.string ⟨#[]⟩,.slice none 0 0,.slice none 0 0]:=hBa;have jT:=hide hBa;clear hBa fH;have hBb:=jT.out.putR 7 [.slice x.nA e.new.len x.nc] (by simp);obtain⟨wb,iT⟩:∃wb,wb=World.setCells wa (w.heap.size+1) 7 [.slice x.nA e.new.len x.nc]:=⟨_,rfl⟩;rw[←iT]at hBb;simp only[World.setCells]at iT;rw[←iT];replace hBb:dw w wb [.int .u8 2,.slice x.pA e.path.length x.pc,.int .i64 e.at_,.int .i64 e.far,.string e.frm,.string e.to,.slice x.oA e.old.len x.oc,.slice x.nA e.new.len x.nc] [.int .u8 2,.slice x.pA e.path.length x.pc,.int .i64 e.at_,.int .i64 0,.string ⟨#[]⟩,.string ⟨#[]⟩,.slice none 0 0,.slice x.nA e.new.len x.nc]:=hBb;have lT:=hide hBb;clear hBb iT;clear b0 r0 b1 r1 b2 r2 b3 r3 b4 r4 b5 r5 b6 r6 b7 r7 fr HB1;clear jT;have cu:=lT;clear lT;have jb:Hid (∀W,Below w.heap.size w W→Calls Tryz.prog 155 #[.agg #[.int .u8 2,.slice x.pA e.path.length x.pc,.int .i64 e.at_,.int .i64 e.far,.string e.frm,.string e.to,.slice x.oA e.old.len x.oc,.slice x.nA e.new.len x.nc],.agg #[.int .u8 2,.slice x.pA e.path.length x.pc,.int .i64 e.at_,.int .i64 0,.string ⟨#[]⟩,.string ⟨#[]⟩,.slice none 0 0,.slice x.nA e.new.len x.nc]] W fun e1 w'=>ah (({e with kind:=2}:Ed)=⟨2,e.path,e.at_,0,⟨#[]⟩,⟨#[]⟩,.nil,e.new⟩) e1∧Below W.heap.size W w'):=
  hide fun W hW=>wI (a:={e with kind:=2}) (b:=⟨2,e.path,e.at_,0,⟨#[]⟩,⟨#[]⟩,.nil,e.new⟩) (x:=x) (y:=⟨x.pA,x.pc,none,0,x.nA,x.nc⟩) ⟨(by show 2<256;omega),H.out.path.below hW,H.out.at_,H.out.far,H.out.frm,H.out.to,H.out.old.below hW,H.out.new.below hW,H.out.pc,H.out.oc,H.out.nc⟩ ⟨(by show 2<256;omega),H.out.path.below hW,H.out.at_,(by show ai 0;unfold ai;omega),(by show(0:Nat)≤_;omega),(by show(0:Nat)≤_;omega),trivial,(H.out.new.below hW),H.out.pc,⟨by simp[Fo.len],by simp⟩,H.out.nc⟩
 have aU:=cu.out;have b0:=aU.c 0 _ rfl;have b1:=aU.c 1 _ rfl;have b2:=aU.c 2 _ rfl;have b3:=aU.c 3 _ rfl;have b4:=aU.c 4 _ rfl;have b5:=aU.c 5 _ rfl;have b6:=aU.c 6 _ rfl;have b7:=aU.c 7 _ rfl;have r0:=aU.r 0 _ rfl;have r1:=aU.r 1 _ rfl;have r2:=aU.r 2 _ rfl;have r3:=aU.r 3 _ rfl;have r4:=aU.r 4 _ rfl;have r5:=aU.r 5 _ rfl;have r6:=aU.r 6 _ rfl;have r7:=aU.r 7 _ rfl;clear aU
 go_wp2_with(first
  | (go_at_call 155;(with_reducible refine(jb.out _ cu.out.b).mono ?_);rintro e1 w1 ⟨⟨c1,rfl,hb⟩,hB⟩;have hC:=cu.out.call hB;clear b0 r0 b1 r1 b2 r2 b3 r3 b4 r4 b5 r5 b6 r6 b7 r7;have b0:=hC.c 0 _ rfl;have b1:=hC.c 1 _ rfl;have b2:=hC.c 2 _ rfl;have b3:=hC.c 3 _ rfl;have b4:=hC.c 4 _ rfl;have b5:=hC.c 5 _ rfl;have b6:=hC.c 6 _ rfl;have b7:=hC.c 7 _ rfl;have r0:=hC.r 0 _ rfl;have r1:=hC.r 1 _ rfl;have r2:=hC.r 2 _ rfl;have r3:=hC.r 3 _ rfl;have r4:=hC.r 4 _ rfl;have r5:=hC.r 5 _ rfl;have r6:=hC.r 6 _ rfl;have r7:=hC.r 7 _ rfl;have eQ:=hide hC;have Hb1:=hide hb;clear hb hB hC)
  | (go_at_call 229;(with_reducible refine(qJ e.at_ _).mono ?_);rintro e2 w2 ⟨⟨c2,rfl,hb⟩,rfl⟩;have fO:=eQ;have Hb2:=hide hb;clear hb)
  | (go_at_call 231;(with_reducible refine(Eu (H.out.new.below fO.out.b) (aI H.out.nc.1 H.out.nc.2)).mono ?_);rintro e3 w3 ⟨⟨c3,rfl,hb⟩,hB⟩;have hC:=fO.out.call hB;clear b0 r0 b1 r1 b2 r2 b3 r3 b4 r4 b5 r5 b6 r6 b7 r7;have b0:=hC.c 0 _ rfl;have b1:=hC.c 1 _ rfl;have b2:=hC.c 2 _ rfl;have b3:=hC.c 3 _ rfl;have b4:=hC.c 4 _ rfl;have b5:=hC.c 5 _ rfl;have b6:=hC.c 6 _ rfl;have b7:=hC.c 7 _ rfl;have r0:=hC.r 0 _ rfl;have r1:=hC.r 1 _ rfl;have r2:=hC.r 2 _ rfl;have r3:=hC.r 3 _ rfl;have r4:=hC.r 4 _ rfl;have r5:=hC.r 5 _ rfl;have r6:=hC.r 6 _ rfl;have r7:=hC.r 7 _ rfl;have jl:=hide hC;have Hb3:=hide hb;clear hb hB hC))
 all_goals
  go_ret;go_tidy;have hok:=@zf e;have hpp:=bC.out;have GG:=@AA e.path;have htt:=dZ (s:=e.frm) (t:=e.to)
  try have q1:=Hb1.out
  try have q2:=Hb2.out
  try have q3:=Hb3.out
  refine⟨ah.mk ?_,by first|exact jl.out.b|exact fO.out.b|exact eQ.out.b|exact cu.out.b⟩;rw[hok];clear hok jb H bC
  try clear Hb1 eQ
  try clear Hb2 fO
  try clear Hb3 jl
  first
   | grind
theorem zh0{S:Nat→Prop}{x:Eh}{e:Ed}{w:World}(he:dm S w x e):
  Calls Tryz.prog 182 #[.agg #[.int .u8 3,.slice x.pA e.path.length x.pc,.int .i64 e.at_,.int .i64 e.far,.string e.frm,.string e.to,.slice x.oA e.old.len x.oc,.slice x.nA e.new.len x.nc]] w fun e1 w'=>ah (dC {e with kind:=3}) e1∧Below w.heap.size w w':=by
 have H:=hide he;obtain⟨W0,hW0⟩:∃W0,W0=w.alloc (.cells #[.int .u8 3,.slice x.pA e.path.length x.pc,.int .i64 e.at_,.int .i64 e.far,.string e.frm,.string e.to,.slice x.oA e.old.len x.oc,.slice x.nA e.new.len x.nc] 41):=⟨_,rfl⟩;have hcl0:bP W0 w.heap.size [.int .u8 3,.slice x.pA e.path.length x.pc,.int .i64 e.at_,.int .i64 e.far,.string e.frm,.string e.to,.slice x.oA e.old.len x.oc,.slice x.nA e.new.len x.nc]:=fun j u hu=>by rw[hW0,Lib.cell_of_heap (heap_alloc_new w _)];simpa using hu
 have kQ:Below w.heap.size w W0:=by rw[hW0];exact az _ _
 have HB0:=hide kQ;have HW0:=hide hW0;have hlp:=aI he.pc.1 he.pc.2;have b0:=hcl0 0 _ rfl;have b1:=hcl0 1 _ rfl;have b2:=hcl0 2 _ rfl;have b3:=hcl0 3 _ rfl;have b4:=hcl0 4 _ rfl;have b5:=hcl0 5 _ rfl;have b6:=hcl0 6 _ rfl;have b7:=hcl0 7 _ rfl;clear he hW0 hcl0 kQ;go_enter Tryz.func182,Tryz.ntmps182
 go_upto_region 1 with fail
 change Code.wp _ _ _ _ (w.alloc (.cells #[.int .u8 3,.slice x.pA e.path.length x.pc,.int .i64 e.at_,.int .i64 e.far,.string e.frm,.string e.to,.slice x.oA e.old.len x.oc,.slice x.nA e.new.len x.nc] 41));rw[←HW0.out]
 go_wp2_with fail
 go_loopw [3] (fun i wr=>∃q:Nat,q≤e.path.length∧i = .int .i64 q∧wr=W0∧Hid (∀j,(h:j<e.path.length)→j<q→Number e.path[j])) (fun i _=>e.path.length-(intOf i).toNat)
 case atStart=>exact⟨0,Nat.zero_le _,rfl,rfl,hide (fun j _ h=>absurd h (by omega))⟩
 case round =>
 obtain⟨q,hq,rfl,rfl,aQ⟩:=hrel;by_cases hlt:q<e.path.length
 ·obtain⟨b,o,hpa,hc⟩:=(H.out.path.below HB0.out).1.at_ (j:=q) (by simpa using hlt);simp only[List.getElem_map]at hc;rw[hpa]at b1;have CY:=hide hpa;clear hpa;obtain⟨m,hm⟩:∃m,m=e.path[q]:=⟨_,rfl⟩;rw[←hm]at hc;have Hm:=hide hm;clear hm
  go_wp2_with(go_at_call 229;(with_reducible refine(qJ m _).mono ?_);rintro e1 w1 ⟨⟨_|_,rfl,hb⟩,rfl⟩<;>(have Hb:=hide hb;clear hb))
  ·go_ret;refine⟨ah.no (fun h=>?_),HB0.out⟩;have h1:=h.1 _ (List.getElem_mem hlt);rw[←Hm.out]at h1;exact absurd (Hb.out.2 h1) (by decide)
  ·go_roundw
   case rel=>exact⟨q+1,by omega,by go_num,by first|trivial|rfl,hide (fun j h hj=>by
    rcases Nat.lt_or_ge j q with h2|h2
    ·exact aQ.out j h h2
    ·obtain rfl:j=q:=by omega
     rw[←Hm.out];exact Hb.out.1 (by first|rfl|trivial))⟩
   case measure=>simp[intOf];omega
 have bC:Hid (∀n∈e.path,Number n):=hide (fun n hn=>by
  obtain⟨j,hj,rfl⟩:=List.getElem_of_mem hn;exact aQ.out j hj (by omega))
 clear aQ;obtain⟨W1,hW1⟩:∃W1,W1=World.alloc wr (.cells #[.int .u8 3,.slice x.pA e.path.length x.pc,.int .i64 0,.int .i64 0,.string ⟨#[]⟩,.string ⟨#[]⟩,.slice none 0 0,.slice none 0 0] 41):=⟨_,rfl⟩;have hB1:dw w W1 [.int .u8 3,.slice x.pA e.path.length x.pc,.int .i64 e.at_,.int .i64 e.far,.string e.frm,.string e.to,.slice x.oA e.old.len x.oc,.slice x.nA e.new.len x.nc] [.int .u8 3,.slice x.pA e.path.length x.pc,.int .i64 0,.int .i64 0,.string ⟨#[]⟩,.string ⟨#[]⟩,.slice none 0 0,.slice none 0 0]:=by rw[hW1,HW0.out];exact dw.start w #[.int .u8 3,.slice x.pA e.path.length x.pc,.int .i64 e.at_,.int .i64 e.far,.string e.frm,.string e.to,.slice x.oA e.old.len x.oc,.slice x.nA e.new.len x.nc] #[.int .u8 3,.slice x.pA e.path.length x.pc,.int .i64 0,.int .i64 0,.string ⟨#[]⟩,.string ⟨#[]⟩,.slice none 0 0,.slice none 0 0] _ _
 have hz0:wr.heap.size=w.heap.size+1:=by rw[HW0.out];simp
 have HW1:=hide hW1;clear hW1
 go_upto_region 7 with fail
 change Code.wp _ _ _ _ (World.alloc wr (.cells #[.int .u8 3,.slice x.pA e.path.length x.pc,.int .i64 0,.int .i64 0,.string ⟨#[]⟩,.string ⟨#[]⟩,.slice none 0 0,.slice none 0 0] 41));rw[←HW1.out];clear b0 b1 b2 b3 b4 b5 b6 b7 HW1 HW0;clear hz0;have b0:=hB1.c 0 _ rfl;have b1:=hB1.c 1 _ rfl;have b2:=hB1.c 2 _ rfl;have b3:=hB1.c 3 _ rfl;have b4:=hB1.c 4 _ rfl;have b5:=hB1.c 5 _ rfl;have b6:=hB1.c 6 _ rfl;have b7:=hB1.c 7 _ rfl;have r0:=hB1.r 0 _ rfl;have r1:=hB1.r 1 _ rfl;have r2:=hB1.r 2 _ rfl;have r3:=hB1.r 3 _ rfl;have r4:=hB1.r 4 _ rfl;have r5:=hB1.r 5 _ rfl;have r6:=hB1.r 6 _ rfl;have r7:=hB1.r 7 _ rfl;have fr:=hB1.fr;have HB1:=hide hB1;clear hB1 HB0
 go_upto_region 19 with fail
 have hBa:=HB1.out.putR 2 [.int .i64 e.at_] (by simp);obtain⟨wa,fH⟩:∃wa,wa=World.setCells W1 (w.heap.size+1) 2 [.int .i64 e.at_]:=⟨_,rfl⟩;rw[←fH]at hBa;simp only[World.setCells]at fH;rw[←fH];replace hBa:dw w wa [.int .u8 3,.slice x.pA e.path.length x.pc,.int .i64 e.at_,.int .i64 e.far,.string e.frm,.string e.to,.slice x.oA e.old.len x.oc,.slice x.nA e.new.len x.nc] [.int .u8 3,.slice x.pA e.path.length x.pc,.int .i64 e.at_,.int .i64 0,.string ⟨#[]⟩,.string ⟨#[]⟩,.slice none 0 0,.slice none 0 0]:=hBa;have jT:=hide hBa;clear hBa fH;have hBb:=jT.out.putR 6 [.slice x.oA e.old.len x.oc] (by simp);obtain⟨wb,iT⟩:∃wb,wb=World.setCells wa (w.heap.size+1) 6 [.slice x.oA e.old.len x.oc]:=⟨_,rfl⟩;rw[←iT]at hBb;simp only[World.setCells]at iT;rw[←iT];replace hBb:dw w wb [.int .u8 3,.slice x.pA e.path.length x.pc,.int .i64 e.at_,.int .i64 e.far,.string e.frm,.string e.to,.slice x.oA e.old.len x.oc,.slice x.nA e.new.len x.nc] [.int .u8 3,.slice x.pA e.path.length x.pc,.int .i64 e.at_,.int .i64 0,.string ⟨#[]⟩,.string ⟨#[]⟩,.slice x.oA e.old.len x.oc,.slice none 0 0]:=hBb;have lT:=hide hBb;clear hBb iT;clear b0 r0 b1 r1 b2 r2 b3 r3 b4 r4 b5 r5 b6 r6 b7 r7 fr HB1;clear jT;have cu:=lT;clear lT;have jb:Hid (∀W,Below w.heap.size w W→Calls Tryz.prog 155 #[.agg #[.int .u8 3,.slice x.pA e.path.length x.pc,.int .i64 e.at_,.int .i64 e.far,.string e.frm,.string e.to,.slice x.oA e.old.len x.oc,.slice x.nA e.new.len x.nc],.agg #[.int .u8 3,.slice x.pA e.path.length x.pc,.int .i64 e.at_,.int .i64 0,.string ⟨#[]⟩,.string ⟨#[]⟩,.slice x.oA e.old.len x.oc,.slice none 0 0]] W fun e1 w'=>ah (({e with kind:=3}:Ed)=⟨3,e.path,e.at_,0,⟨#[]⟩,⟨#[]⟩,e.old,.nil⟩) e1∧Below W.heap.size W w'):=
  hide fun W hW=>wI (a:={e with kind:=3}) (b:=⟨3,e.path,e.at_,0,⟨#[]⟩,⟨#[]⟩,e.old,.nil⟩) (x:=x) (y:=⟨x.pA,x.pc,x.oA,x.oc,none,0⟩) ⟨(by show 3<256;omega),H.out.path.below hW,H.out.at_,H.out.far,H.out.frm,H.out.to,H.out.old.below hW,H.out.new.below hW,H.out.pc,H.out.oc,H.out.nc⟩ ⟨(by show 3<256;omega),H.out.path.below hW,H.out.at_,(by show ai 0;unfold ai;omega),(by show(0:Nat)≤_;omega),(by show(0:Nat)≤_;omega),(H.out.old.below hW),trivial,H.out.pc,H.out.oc,⟨by simp[Fo.len],by simp⟩⟩
 have aU:=cu.out;have b0:=aU.c 0 _ rfl;have b1:=aU.c 1 _ rfl;have b2:=aU.c 2 _ rfl;have b3:=aU.c 3 _ rfl;have b4:=aU.c 4 _ rfl;have b5:=aU.c 5 _ rfl;have b6:=aU.c 6 _ rfl;have b7:=aU.c 7 _ rfl;have r0:=aU.r 0 _ rfl;have r1:=aU.r 1 _ rfl;have r2:=aU.r 2 _ rfl;have r3:=aU.r 3 _ rfl;have r4:=aU.r 4 _ rfl;have r5:=aU.r 5 _ rfl;have r6:=aU.r 6 _ rfl;have r7:=aU.r 7 _ rfl;clear aU
 go_wp2_with(first
  | (go_at_call 155;(with_reducible refine(jb.out _ cu.out.b).mono ?_);rintro e1 w1 ⟨⟨c1,rfl,hb⟩,hB⟩;have hC:=cu.out.call hB;clear b0 r0 b1 r1 b2 r2 b3 r3 b4 r4 b5 r5 b6 r6 b7 r7;have b0:=hC.c 0 _ rfl;have b1:=hC.c 1 _ rfl;have b2:=hC.c 2 _ rfl;have b3:=hC.c 3 _ rfl;have b4:=hC.c 4 _ rfl;have b5:=hC.c 5 _ rfl;have b6:=hC.c 6 _ rfl;have b7:=hC.c 7 _ rfl;have r0:=hC.r 0 _ rfl;have r1:=hC.r 1 _ rfl;have r2:=hC.r 2 _ rfl;have r3:=hC.r 3 _ rfl;have r4:=hC.r 4 _ rfl;have r5:=hC.r 5 _ rfl;have r6:=hC.r 6 _ rfl;have r7:=hC.r 7 _ rfl;have eQ:=hide hC;have Hb1:=hide hb;clear hb hB hC)
  | (go_at_call 229;(with_reducible refine(qJ e.at_ _).mono ?_);rintro e2 w2 ⟨⟨c2,rfl,hb⟩,rfl⟩;have fO:=eQ;have Hb2:=hide hb;clear hb)
  | (go_at_call 231;(with_reducible refine(Eu (H.out.old.below fO.out.b) (aI H.out.oc.1 H.out.oc.2)).mono ?_);rintro e3 w3 ⟨⟨c3,rfl,hb⟩,hB⟩;have hC:=fO.out.call hB;clear b0 r0 b1 r1 b2 r2 b3 r3 b4 r4 b5 r5 b6 r6 b7 r7;have b0:=hC.c 0 _ rfl;have b1:=hC.c 1 _ rfl;have b2:=hC.c 2 _ rfl;have b3:=hC.c 3 _ rfl;have b4:=hC.c 4 _ rfl;have b5:=hC.c 5 _ rfl;have b6:=hC.c 6 _ rfl;have b7:=hC.c 7 _ rfl;have r0:=hC.r 0 _ rfl;have r1:=hC.r 1 _ rfl;have r2:=hC.r 2 _ rfl;have r3:=hC.r 3 _ rfl;have r4:=hC.r 4 _ rfl;have r5:=hC.r 5 _ rfl;have r6:=hC.r 6 _ rfl;have r7:=hC.r 7 _ rfl;have jl:=hide hC;have Hb3:=hide hb;clear hb hB hC))
 all_goals
  go_ret;go_tidy;have hok:=@zg e;have hpp:=bC.out;have GG:=@AA e.path;have htt:=dZ (s:=e.frm) (t:=e.to)
  try have q1:=Hb1.out
  try have q2:=Hb2.out
  try have q3:=Hb3.out
  refine⟨ah.mk ?_,by first|exact jl.out.b|exact fO.out.b|exact eQ.out.b|exact cu.out.b⟩;rw[hok];clear hok jb H bC
  try clear Hb1 eQ
  try clear Hb2 fO
  try clear Hb3 jl
  first
   | grind
theorem zh1{S:Nat→Prop}{x:Eh}{e:Ed}{w:World}(he:dm S w x e):
  Calls Tryz.prog 182 #[.agg #[.int .u8 5,.slice x.pA e.path.length x.pc,.int .i64 e.at_,.int .i64 e.far,.string e.frm,.string e.to,.slice x.oA e.old.len x.oc,.slice x.nA e.new.len x.nc]] w fun e1 w'=>ah (dC {e with kind:=5}) e1∧Below w.heap.size w w':=by
 have H:=hide he;obtain⟨W0,hW0⟩:∃W0,W0=w.alloc (.cells #[.int .u8 5,.slice x.pA e.path.length x.pc,.int .i64 e.at_,.int .i64 e.far,.string e.frm,.string e.to,.slice x.oA e.old.len x.oc,.slice x.nA e.new.len x.nc] 41):=⟨_,rfl⟩;have hcl0:bP W0 w.heap.size [.int .u8 5,.slice x.pA e.path.length x.pc,.int .i64 e.at_,.int .i64 e.far,.string e.frm,.string e.to,.slice x.oA e.old.len x.oc,.slice x.nA e.new.len x.nc]:=fun j u hu=>by rw[hW0,Lib.cell_of_heap (heap_alloc_new w _)];simpa using hu
 have kQ:Below w.heap.size w W0:=by rw[hW0];exact az _ _
 have HB0:=hide kQ;have HW0:=hide hW0;have hlp:=aI he.pc.1 he.pc.2;have b0:=hcl0 0 _ rfl;have b1:=hcl0 1 _ rfl;have b2:=hcl0 2 _ rfl;have b3:=hcl0 3 _ rfl;have b4:=hcl0 4 _ rfl;have b5:=hcl0 5 _ rfl;have b6:=hcl0 6 _ rfl;have b7:=hcl0 7 _ rfl;clear he hW0 hcl0 kQ;go_enter Tryz.func182,Tryz.ntmps182
 go_upto_region 1 with fail
 change Code.wp _ _ _ _ (w.alloc (.cells #[.int .u8 5,.slice x.pA e.path.length x.pc,.int .i64 e.at_,.int .i64 e.far,.string e.frm,.string e.to,.slice x.oA e.old.len x.oc,.slice x.nA e.new.len x.nc] 41));rw[←HW0.out]
 go_wp2_with fail
 go_loopw [3] (fun i wr=>∃q:Nat,q≤e.path.length∧i = .int .i64 q∧wr=W0∧Hid (∀j,(h:j<e.path.length)→j<q→Number e.path[j])) (fun i _=>e.path.length-(intOf i).toNat)
 case atStart=>exact⟨0,Nat.zero_le _,rfl,rfl,hide (fun j _ h=>absurd h (by omega))⟩
 case round =>
 obtain⟨q,hq,rfl,rfl,aQ⟩:=hrel;by_cases hlt:q<e.path.length
 ·obtain⟨b,o,hpa,hc⟩:=(H.out.path.below HB0.out).1.at_ (j:=q) (by simpa using hlt);simp only[List.getElem_map]at hc;rw[hpa]at b1;have CY:=hide hpa;clear hpa;obtain⟨m,hm⟩:∃m,m=e.path[q]:=⟨_,rfl⟩;rw[←hm]at hc;have Hm:=hide hm;clear hm
  go_wp2_with(go_at_call 229;(with_reducible refine(qJ m _).mono ?_);rintro e1 w1 ⟨⟨_|_,rfl,hb⟩,rfl⟩<;>(have Hb:=hide hb;clear hb))
  ·go_ret;refine⟨ah.no (fun h=>?_),HB0.out⟩;have h1:=h.1 _ (List.getElem_mem hlt);rw[←Hm.out]at h1;exact absurd (Hb.out.2 h1) (by decide)
  ·go_roundw
   case rel=>exact⟨q+1,by omega,by go_num,by first|trivial|rfl,hide (fun j h hj=>by
    rcases Nat.lt_or_ge j q with h2|h2
    ·exact aQ.out j h h2
    ·obtain rfl:j=q:=by omega
     rw[←Hm.out];exact Hb.out.1 (by first|rfl|trivial))⟩
   case measure=>simp[intOf];omega
 have bC:Hid (∀n∈e.path,Number n):=hide (fun n hn=>by
  obtain⟨j,hj,rfl⟩:=List.getElem_of_mem hn;exact aQ.out j hj (by omega))
 clear aQ;obtain⟨W1,hW1⟩:∃W1,W1=World.alloc wr (.cells #[.int .u8 5,.slice x.pA e.path.length x.pc,.int .i64 0,.int .i64 0,.string ⟨#[]⟩,.string ⟨#[]⟩,.slice none 0 0,.slice none 0 0] 41):=⟨_,rfl⟩;have hB1:dw w W1 [.int .u8 5,.slice x.pA e.path.length x.pc,.int .i64 e.at_,.int .i64 e.far,.string e.frm,.string e.to,.slice x.oA e.old.len x.oc,.slice x.nA e.new.len x.nc] [.int .u8 5,.slice x.pA e.path.length x.pc,.int .i64 0,.int .i64 0,.string ⟨#[]⟩,.string ⟨#[]⟩,.slice none 0 0,.slice none 0 0]:=by rw[hW1,HW0.out];exact dw.start w #[.int .u8 5,.slice x.pA e.path.length x.pc,.int .i64 e.at_,.int .i64 e.far,.string e.frm,.string e.to,.slice x.oA e.old.len x.oc,.slice x.nA e.new.len x.nc] #[.int .u8 5,.slice x.pA e.path.length x.pc,.int .i64 0,.int .i64 0,.string ⟨#[]⟩,.string ⟨#[]⟩,.slice none 0 0,.slice none 0 0] _ _
 have hz0:wr.heap.size=w.heap.size+1:=by rw[HW0.out];simp
 have HW1:=hide hW1;clear hW1
 go_upto_region 7 with fail
 change Code.wp _ _ _ _ (World.alloc wr (.cells #[.int .u8 5,.slice x.pA e.path.length x.pc,.int .i64 0,.int .i64 0,.string ⟨#[]⟩,.string ⟨#[]⟩,.slice none 0 0,.slice none 0 0] 41));rw[←HW1.out];clear b0 b1 b2 b3 b4 b5 b6 b7 HW1 HW0;clear hz0;have b0:=hB1.c 0 _ rfl;have b1:=hB1.c 1 _ rfl;have b2:=hB1.c 2 _ rfl;have b3:=hB1.c 3 _ rfl;have b4:=hB1.c 4 _ rfl;have b5:=hB1.c 5 _ rfl;have b6:=hB1.c 6 _ rfl;have b7:=hB1.c 7 _ rfl;have r0:=hB1.r 0 _ rfl;have r1:=hB1.r 1 _ rfl;have r2:=hB1.r 2 _ rfl;have r3:=hB1.r 3 _ rfl;have r4:=hB1.r 4 _ rfl;have r5:=hB1.r 5 _ rfl;have r6:=hB1.r 6 _ rfl;have r7:=hB1.r 7 _ rfl;have fr:=hB1.fr;have HB1:=hide hB1;clear hB1 HB0
 go_upto_region 28 with fail
 have hBa:=HB1.out.putR 2 [.int .i64 e.at_] (by simp);obtain⟨wa,fH⟩:∃wa,wa=World.setCells W1 (w.heap.size+1) 2 [.int .i64 e.at_]:=⟨_,rfl⟩;rw[←fH]at hBa;simp only[World.setCells]at fH;rw[←fH];replace hBa:dw w wa [.int .u8 5,.slice x.pA e.path.length x.pc,.int .i64 e.at_,.int .i64 e.far,.string e.frm,.string e.to,.slice x.oA e.old.len x.oc,.slice x.nA e.new.len x.nc] [.int .u8 5,.slice x.pA e.path.length x.pc,.int .i64 e.at_,.int .i64 0,.string ⟨#[]⟩,.string ⟨#[]⟩,.slice none 0 0,.slice none 0 0]:=hBa;have jT:=hide hBa;clear hBa fH;have hBb:=jT.out.putR 3 [.int .i64 e.far] (by simp);obtain⟨wb,iT⟩:∃wb,wb=World.setCells wa (w.heap.size+1) 3 [.int .i64 e.far]:=⟨_,rfl⟩;rw[←iT]at hBb;simp only[World.setCells]at iT;rw[←iT];replace hBb:dw w wb [.int .u8 5,.slice x.pA e.path.length x.pc,.int .i64 e.at_,.int .i64 e.far,.string e.frm,.string e.to,.slice x.oA e.old.len x.oc,.slice x.nA e.new.len x.nc] [.int .u8 5,.slice x.pA e.path.length x.pc,.int .i64 e.at_,.int .i64 e.far,.string ⟨#[]⟩,.string ⟨#[]⟩,.slice none 0 0,.slice none 0 0]:=hBb;have lT:=hide hBb;clear hBb iT;have hBc:=lT.out.putR 6 [.slice x.oA e.old.len x.oc] (by simp);obtain⟨wc,hFc⟩:∃wc,wc=World.setCells wb (w.heap.size+1) 6 [.slice x.oA e.old.len x.oc]:=⟨_,rfl⟩;rw[←hFc]at hBc;simp only[World.setCells]at hFc;rw[←hFc];replace hBc:dw w wc [.int .u8 5,.slice x.pA e.path.length x.pc,.int .i64 e.at_,.int .i64 e.far,.string e.frm,.string e.to,.slice x.oA e.old.len x.oc,.slice x.nA e.new.len x.nc] [.int .u8 5,.slice x.pA e.path.length x.pc,.int .i64 e.at_,.int .i64 e.far,.string ⟨#[]⟩,.string ⟨#[]⟩,.slice x.oA e.old.len x.oc,.slice none 0 0]:=hBc;have HBc:=hide hBc;clear hBc hFc;clear b0 r0 b1 r1 b2 r2 b3 r3 b4 r4 b5 r5 b6 r6 b7 r7 fr HB1;clear jT;clear lT;have cu:=HBc;clear HBc;have jb:Hid (∀W,Below w.heap.size w W→Calls Tryz.prog 155 #[.agg #[.int .u8 5,.slice x.pA e.path.length x.pc,.int .i64 e.at_,.int .i64 e.far,.string e.frm,.string e.to,.slice x.oA e.old.len x.oc,.slice x.nA e.new.len x.nc],.agg #[.int .u8 5,.slice x.pA e.path.length x.pc,.int .i64 e.at_,.int .i64 e.far,.string ⟨#[]⟩,.string ⟨#[]⟩,.slice x.oA e.old.len x.oc,.slice none 0 0]] W fun e1 w'=>ah (({e with kind:=5}:Ed)=⟨5,e.path,e.at_,e.far,⟨#[]⟩,⟨#[]⟩,e.old,.nil⟩) e1∧Below W.heap.size W w'):=
  hide fun W hW=>wI (a:={e with kind:=5}) (b:=⟨5,e.path,e.at_,e.far,⟨#[]⟩,⟨#[]⟩,e.old,.nil⟩) (x:=x) (y:=⟨x.pA,x.pc,x.oA,x.oc,none,0⟩) ⟨(by show 5<256;omega),H.out.path.below hW,H.out.at_,H.out.far,H.out.frm,H.out.to,H.out.old.below hW,H.out.new.below hW,H.out.pc,H.out.oc,H.out.nc⟩ ⟨(by show 5<256;omega),H.out.path.below hW,H.out.at_,H.out.far,(by show(0:Nat)≤_;omega),(by show(0:Nat)≤_;omega),(H.out.old.below hW),trivial,H.out.pc,H.out.oc,⟨by simp[Fo.len],by simp⟩⟩
 have aU:=cu.out;have b0:=aU.c 0 _ rfl;have b1:=aU.c 1 _ rfl;have b2:=aU.c 2 _ rfl;have b3:=aU.c 3 _ rfl;have b4:=aU.c 4 _ rfl;have b5:=aU.c 5 _ rfl;have b6:=aU.c 6 _ rfl;have b7:=aU.c 7 _ rfl;have r0:=aU.r 0 _ rfl;have r1:=aU.r 1 _ rfl;have r2:=aU.r 2 _ rfl;have r3:=aU.r 3 _ rfl;have r4:=aU.r 4 _ rfl;have r5:=aU.r 5 _ rfl;have r6:=aU.r 6 _ rfl;have r7:=aU.r 7 _ rfl;clear aU
 go_wp2_with(first
  | (go_at_call 155;(with_reducible refine(jb.out _ cu.out.b).mono ?_);rintro e1 w1 ⟨⟨c1,rfl,hb⟩,hB⟩;have hC:=cu.out.call hB;clear b0 r0 b1 r1 b2 r2 b3 r3 b4 r4 b5 r5 b6 r6 b7 r7;have b0:=hC.c 0 _ rfl;have b1:=hC.c 1 _ rfl;have b2:=hC.c 2 _ rfl;have b3:=hC.c 3 _ rfl;have b4:=hC.c 4 _ rfl;have b5:=hC.c 5 _ rfl;have b6:=hC.c 6 _ rfl;have b7:=hC.c 7 _ rfl;have r0:=hC.r 0 _ rfl;have r1:=hC.r 1 _ rfl;have r2:=hC.r 2 _ rfl;have r3:=hC.r 3 _ rfl;have r4:=hC.r 4 _ rfl;have r5:=hC.r 5 _ rfl;have r6:=hC.r 6 _ rfl;have r7:=hC.r 7 _ rfl;have eQ:=hide hC;have Hb1:=hide hb;clear hb hB hC)
  | (go_at_call 229;(with_reducible refine(qJ e.at_ _).mono ?_);rintro e2 w2 ⟨⟨c2,rfl,hb⟩,rfl⟩;have fO:=eQ;have Hb2:=hide hb;clear hb)
  | (go_at_call 229;(with_reducible refine(qJ e.far _).mono ?_);rintro e3 w3 ⟨⟨c3,rfl,hb⟩,rfl⟩;have jl:=fO;have Hb3:=hide hb;clear hb)
  | (go_at_call 231;(with_reducible refine(Eu (H.out.old.below jl.out.b) (aI H.out.oc.1 H.out.oc.2)).mono ?_);rintro e4 w4 ⟨⟨c4,rfl,hb⟩,hB⟩;have hC:=jl.out.call hB;clear b0 r0 b1 r1 b2 r2 b3 r3 b4 r4 b5 r5 b6 r6 b7 r7;have b0:=hC.c 0 _ rfl;have b1:=hC.c 1 _ rfl;have b2:=hC.c 2 _ rfl;have b3:=hC.c 3 _ rfl;have b4:=hC.c 4 _ rfl;have b5:=hC.c 5 _ rfl;have b6:=hC.c 6 _ rfl;have b7:=hC.c 7 _ rfl;have r0:=hC.r 0 _ rfl;have r1:=hC.r 1 _ rfl;have r2:=hC.r 2 _ rfl;have r3:=hC.r 3 _ rfl;have r4:=hC.r 4 _ rfl;have r5:=hC.r 5 _ rfl;have r6:=hC.r 6 _ rfl;have r7:=hC.r 7 _ rfl;have KX:=hide hC;have Hb4:=hide hb;clear hb hB hC))
 all_goals
  go_ret;go_tidy;have hok:=@zh e;have hpp:=bC.out;have GG:=@AA e.path;have htt:=dZ (s:=e.frm) (t:=e.to)
  try have q1:=Hb1.out
  try have q2:=Hb2.out
  try have q3:=Hb3.out
  try have q4:=Hb4.out
  refine⟨ah.mk ?_,by first|exact KX.out.b|exact jl.out.b|exact fO.out.b|exact eQ.out.b|exact cu.out.b⟩;rw[hok];clear hok jb H bC
  try clear Hb1 eQ
  try clear Hb2 fO
  try clear Hb3 jl
  try clear Hb4 KX
  first
   | grind
theorem zh2{S:Nat→Prop}{x:Eh}{e:Ed}{w:World}(he:dm S w x e)(h1:e.kind≠1)(h2:e.kind≠2)(h3:e.kind≠3)(h4:e.kind≠4)(h5:e.kind≠5):
  Calls Tryz.prog 182 #[.agg #[.int .u8 e.kind,.slice x.pA e.path.length x.pc,.int .i64 e.at_,.int .i64 e.far,.string e.frm,.string e.to,.slice x.oA e.old.len x.oc,.slice x.nA e.new.len x.nc]] w fun e1 w'=>ah (dC e) e1∧Below w.heap.size w w':=by
 have hno:=hide (zi h1 h2 h3 h4 h5);have n1:((e.kind:Int) == 1)=false:=by rw[aK];omega
 have n2:((e.kind:Int) == 2)=false:=by rw[aK];omega
 have n3:((e.kind:Int) == 3)=false:=by rw[aK];omega
 have n4:((e.kind:Int) == 4)=false:=by rw[aK];omega
 have n5:((e.kind:Int) == 5)=false:=by rw[aK];omega
 clear h1 h2 h3 h4 h5;have H:=hide he;obtain⟨W0,hW0⟩:∃W0,W0=w.alloc (.cells #[.int .u8 e.kind,.slice x.pA e.path.length x.pc,.int .i64 e.at_,.int .i64 e.far,.string e.frm,.string e.to,.slice x.oA e.old.len x.oc,.slice x.nA e.new.len x.nc] 41):=⟨_,rfl⟩;have hcl0:bP W0 w.heap.size [.int .u8 e.kind,.slice x.pA e.path.length x.pc,.int .i64 e.at_,.int .i64 e.far,.string e.frm,.string e.to,.slice x.oA e.old.len x.oc,.slice x.nA e.new.len x.nc]:=fun j u hu=>by rw[hW0,Lib.cell_of_heap (heap_alloc_new w _)];simpa using hu
 have kQ:Below w.heap.size w W0:=by rw[hW0];exact az _ _
 have HB0:=hide kQ;have HW0:=hide hW0;have hlp:=aI he.pc.1 he.pc.2;have b0:=hcl0 0 _ rfl;have b1:=hcl0 1 _ rfl;have b2:=hcl0 2 _ rfl;have b3:=hcl0 3 _ rfl;have b4:=hcl0 4 _ rfl;have b5:=hcl0 5 _ rfl;have b6:=hcl0 6 _ rfl;have b7:=hcl0 7 _ rfl;clear he hW0 hcl0 kQ;go_enter Tryz.func182,Tryz.ntmps182
 go_upto_region 1 with fail
 change Code.wp _ _ _ _ (w.alloc (.cells #[.int .u8 e.kind,.slice x.pA e.path.length x.pc,.int .i64 e.at_,.int .i64 e.far,.string e.frm,.string e.to,.slice x.oA e.old.len x.oc,.slice x.nA e.new.len x.nc] 41));rw[←HW0.out]
 go_wp2_with fail
 go_loopw [3] (fun i wr=>∃q:Nat,q≤e.path.length∧i = .int .i64 q∧wr=W0∧Hid (∀j,(h:j<e.path.length)→j<q→Number e.path[j])) (fun i _=>e.path.length-(intOf i).toNat)
 case atStart=>exact⟨0,Nat.zero_le _,rfl,rfl,hide (fun j _ h=>absurd h (by omega))⟩
 case round =>
 obtain⟨q,hq,rfl,rfl,aQ⟩:=hrel;by_cases hlt:q<e.path.length
 ·obtain⟨b,o,hpa,hc⟩:=(H.out.path.below HB0.out).1.at_ (j:=q) (by simpa using hlt);simp only[List.getElem_map]at hc;rw[hpa]at b1;have CY:=hide hpa;clear hpa;obtain⟨m,hm⟩:∃m,m=e.path[q]:=⟨_,rfl⟩;rw[←hm]at hc;have Hm:=hide hm;clear hm
  go_wp2_with(go_at_call 229;(with_reducible refine(qJ m _).mono ?_);rintro e1 w1 ⟨⟨_|_,rfl,hb⟩,rfl⟩<;>(have Hb:=hide hb;clear hb))
  ·go_ret;exact⟨ah.no hno.out,HB0.out⟩
  ·go_roundw
   case rel=>exact⟨q+1,by omega,by go_num,by first|trivial|rfl,hide (fun j h hj=>by
    rcases Nat.lt_or_ge j q with h2|h2
    ·exact aQ.out j h h2
    ·obtain rfl:j=q:=by omega
     rw[←Hm.out];exact Hb.out.1 (by first|rfl|trivial))⟩
   case measure=>simp[intOf];omega
 have bC:Hid (∀n∈e.path,Number n):=hide (fun n hn=>by
  obtain⟨j,hj,rfl⟩:=List.getElem_of_mem hn;exact aQ.out j hj (by omega))
 clear aQ;have hz0:wr.heap.size=w.heap.size+1:=by rw[HW0.out];simp
 clear HW0
 go_wp2_with fail
 go_ret;exact⟨ah.no hno.out,HB0.out.alloc HB0.out.size _⟩
end
end Go.Proofs.YtjjaojnglnpgaaaGreatDoor
