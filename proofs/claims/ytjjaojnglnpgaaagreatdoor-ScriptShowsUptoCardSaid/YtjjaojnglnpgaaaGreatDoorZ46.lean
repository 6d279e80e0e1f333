/- Part 47 of what scriptShows_cardUpto rests on. -/
import Derived.Deep.CutBlock
import Derived.Deep.DeepCutAuto
import Derived.Test.YtjjaojnglnpgaaaGreatDoorZ23
import Derived.Test.YtjjaojnglnpgaaaGreatDoorZ28
import Derived.Test.YtjjaojnglnpgaaaGreatDoorZ26
import Derived.Test.YtjjaojnglnpgaaaGreatDoorZ42
import Derived.Test.YtjjaojnglnpgaaaGreatDoorZ21
import Derived.Test.YtjjaojnglnpgaaaGreatDoorZ45
import Derived.Test.YtjjaojnglnpgaaaGreatDoorZ00
set_option linter.unusedVariables false
set_option linter.unusedSimpArgs false
set_option maxHeartbeats 16000000
set_option maxRecDepth 1000000
namespace Go.Proofs.YtjjaojnglnpgaaaGreatDoor
section
open Go.RowKit
theorem zf1{S:Nat→Prop}{x:Ph}{p:Pt}{w:World}(a:bM S w x p)(h1:p.hunk.old.length≤1099511627776)(h2:p.hunk.new.length≤1099511627776)(h3:p.edit.path.length≤1099511627776)(h4:p.edit.old.cnt≤1099511627776)(h5:p.edit.new.cnt≤1099511627776):
  Calls Tryz.prog 38 #[.agg #[.int .u8 p.kind,.string p.file,.string p.text,.int .i64 p.hunk.at_,.slice x.h.oA p.hunk.old.length x.h.oc,.slice x.h.nA p.hunk.new.length x.h.nc,.int .u8 p.edit.kind,.slice x.e.pA p.edit.path.length x.e.pc,.int .i64 p.edit.at_,.int .i64 p.edit.far,.string p.edit.frm,.string p.edit.to,.slice x.e.oA p.edit.old.len x.e.oc,.slice x.e.nA p.edit.new.len x.e.nc]] w fun e w'=>∃y:Ph,e = .returned (.agg #[.int .u8 p.kind,.string p.file,.string p.text,.int .i64 p.hunk.at_,.slice y.h.oA p.hunk.old.length y.h.oc,.slice y.h.nA p.hunk.new.length y.h.nc,.int .u8 p.edit.kind,.slice y.e.pA p.edit.path.length y.e.pc,.int .i64 p.edit.at_,.int .i64 p.edit.far,.string p.edit.frm,.string p.edit.to,.slice y.e.oA p.edit.old.len y.e.oc,.slice y.e.nA p.edit.new.len y.e.nc])∧eH (fun b=>w.heap.size≤b) w' y p∧Below w.heap.size w w':=by
 have H:=hide a;clear a;obtain⟨W0,hW0⟩:∃W0,W0=(w.alloc (.cells #[.int .u8 p.kind,.string p.file,.string p.text,.int .i64 p.hunk.at_,.slice x.h.oA p.hunk.old.length x.h.oc,.slice x.h.nA p.hunk.new.length x.h.nc,.int .u8 p.edit.kind,.slice x.e.pA p.edit.path.length x.e.pc,.int .i64 p.edit.at_,.int .i64 p.edit.far,.string p.edit.frm,.string p.edit.to,.slice x.e.oA p.edit.old.len x.e.oc,.slice x.e.nA p.edit.new.len x.e.nc] 43)).alloc (.cells #[.int .u8 0,.string ⟨#[]⟩,.string ⟨#[]⟩,.int .i64 0,.slice none 0 0,.slice none 0 0,.int .u8 0,.slice none 0 0,.int .i64 0,.int .i64 0,.string ⟨#[]⟩,.string ⟨#[]⟩,.slice none 0 0,.slice none 0 0] 43):=⟨_,rfl⟩;have hB0:dw w W0 [.int .u8 p.kind,.string p.file,.string p.text,.int .i64 p.hunk.at_,.slice x.h.oA p.hunk.old.length x.h.oc,.slice x.h.nA p.hunk.new.length x.h.nc,.int .u8 p.edit.kind,.slice x.e.pA p.edit.path.length x.e.pc,.int .i64 p.edit.at_,.int .i64 p.edit.far,.string p.edit.frm,.string p.edit.to,.slice x.e.oA p.edit.old.len x.e.oc,.slice x.e.nA p.edit.new.len x.e.nc] [.int .u8 0,.string ⟨#[]⟩,.string ⟨#[]⟩,.int .i64 0,.slice none 0 0,.slice none 0 0,.int .u8 0,.slice none 0 0,.int .i64 0,.int .i64 0,.string ⟨#[]⟩,.string ⟨#[]⟩,.slice none 0 0,.slice none 0 0]:=by rw[hW0];exact dw.start w #[.int .u8 p.kind,.string p.file,.string p.text,.int .i64 p.hunk.at_,.slice x.h.oA p.hunk.old.length x.h.oc,.slice x.h.nA p.hunk.new.length x.h.nc,.int .u8 p.edit.kind,.slice x.e.pA p.edit.path.length x.e.pc,.int .i64 p.edit.at_,.int .i64 p.edit.far,.string p.edit.frm,.string p.edit.to,.slice x.e.oA p.edit.old.len x.e.oc,.slice x.e.nA p.edit.new.len x.e.nc] #[.int .u8 0,.string ⟨#[]⟩,.string ⟨#[]⟩,.int .i64 0,.slice none 0 0,.slice none 0 0,.int .u8 0,.slice none 0 0,.int .i64 0,.int .i64 0,.string ⟨#[]⟩,.string ⟨#[]⟩,.slice none 0 0,.slice none 0 0] _ _
 have HW0:=hide hW0;clear hW0;go_enter Tryz.func38,Tryz.ntmps38
 go_upto_region 1 with fail
 change Code.wp _ _ _ _ ((w.alloc (.cells #[.int .u8 p.kind,.string p.file,.string p.text,.int .i64 p.hunk.at_,.slice x.h.oA p.hunk.old.length x.h.oc,.slice x.h.nA p.hunk.new.length x.h.nc,.int .u8 p.edit.kind,.slice x.e.pA p.edit.path.length x.e.pc,.int .i64 p.edit.at_,.int .i64 p.edit.far,.string p.edit.frm,.string p.edit.to,.slice x.e.oA p.edit.old.len x.e.oc,.slice x.e.nA p.edit.new.len x.e.nc] 43)).alloc (.cells #[.int .u8 0,.string ⟨#[]⟩,.string ⟨#[]⟩,.int .i64 0,.slice none 0 0,.slice none 0 0,.int .u8 0,.slice none 0 0,.int .i64 0,.int .i64 0,.string ⟨#[]⟩,.string ⟨#[]⟩,.slice none 0 0,.slice none 0 0] 43));rw[←HW0.out];clear HW0;have b0:=hB0.c 0 _ rfl;have b1:=hB0.c 1 _ rfl;have b2:=hB0.c 2 _ rfl;have b3:=hB0.c 3 _ rfl;have b4:=hB0.c 4 _ rfl;have b5:=hB0.c 5 _ rfl;have b6:=hB0.c 6 _ rfl;have b7:=hB0.c 7 _ rfl;have b8:=hB0.c 8 _ rfl;have b9:=hB0.c 9 _ rfl;have b10:=hB0.c 10 _ rfl;have b11:=hB0.c 11 _ rfl;have b12:=hB0.c 12 _ rfl;have b13:=hB0.c 13 _ rfl;have HB0:=hide hB0;clear hB0
 go_cut [] (fun wx=>∃y1,dw w wx [.int .u8 p.kind,.string p.file,.string p.text,.int .i64 p.hunk.at_,.slice y1.oA p.hunk.old.length y1.oc,.slice y1.nA p.hunk.new.length y1.nc,.int .u8 p.edit.kind,.slice x.e.pA p.edit.path.length x.e.pc,.int .i64 p.edit.at_,.int .i64 p.edit.far,.string p.edit.frm,.string p.edit.to,.slice x.e.oA p.edit.old.len x.e.oc,.slice x.e.nA p.edit.new.len x.e.nc] [.int .u8 0,.string ⟨#[]⟩,.string ⟨#[]⟩,.int .i64 0,.slice none 0 0,.slice none 0 0,.int .u8 0,.slice none 0 0,.int .i64 0,.int .i64 0,.string ⟨#[]⟩,.string ⟨#[]⟩,.slice none 0 0,.slice none 0 0]∧eG (fun b=>w.heap.size+2≤b) wx y1 p.hunk)
 case first =>
  go_wp2_with(go_at_call 102;(with_reducible refine(zgT (H.out.hunk.below HB0.out.b) h1 h2).mono ?_);rintro e1 w1 ⟨y1,rfl,hL,hB⟩;have hC:=HB0.out.call hB;have hz:=hC.z;have d0:=hC.c 0 _ rfl;have d1:=hC.c 1 _ rfl;have d2:=hC.c 2 _ rfl;have d3:=hC.c 3 _ rfl;have d4:=hC.c 4 _ rfl;have d5:=hC.c 5 _ rfl;have d6:=hC.c 6 _ rfl;have d7:=hC.c 7 _ rfl;have d8:=hC.c 8 _ rfl;have d9:=hC.c 9 _ rfl;have d10:=hC.c 10 _ rfl;have d11:=hC.c 11 _ rfl;have d12:=hC.c 12 _ rfl;have d13:=hC.c 13 _ rfl;have hf:=hC.fc;have HC:=hide hC;have HL:=hide hL;have vz:=hide hB;clear hC hL hB)
  go_meet
  exact⟨_,HC.out.put 3 [.int .i64 p.hunk.at_,.slice y1.oA p.hunk.old.length y1.oc,.slice y1.nA p.hunk.new.length y1.nc] (by simp),((HL.out.mono (S':=fun b=>w.heap.size+2≤b) (fun b hb=>aI HB0.out.z hb)).keep fun b hb=>jG w.heap.size (by omega) [.int .i64 p.hunk.at_,.slice y1.oA p.hunk.old.length y1.oc,.slice y1.nA p.hunk.new.length y1.nc] 3 w1)⟩
 case rest =>
 obtain⟨y1,hB1,hl⟩:=hcut;clear HB0 b0 b1 b2 b3 b4 b5 b6 b7 b8 b9 b10 b11 b12 b13;have jJ:=hide hl;clear hl
 go_upto_region 2 with fail
 have hl:=jJ.out;clear jJ;have b0:=hB1.c 0 _ rfl;have b1:=hB1.c 1 _ rfl;have b2:=hB1.c 2 _ rfl;have b3:=hB1.c 3 _ rfl;have b4:=hB1.c 4 _ rfl;have b5:=hB1.c 5 _ rfl;have b6:=hB1.c 6 _ rfl;have b7:=hB1.c 7 _ rfl;have b8:=hB1.c 8 _ rfl;have b9:=hB1.c 9 _ rfl;have b10:=hB1.c 10 _ rfl;have b11:=hB1.c 11 _ rfl;have b12:=hB1.c 12 _ rfl;have b13:=hB1.c 13 _ rfl;have HB1:=hide hB1;clear hB1
 go_cut [] (fun wx=>∃y2,dw w wx [.int .u8 p.kind,.string p.file,.string p.text,.int .i64 p.hunk.at_,.slice y1.oA p.hunk.old.length y1.oc,.slice y1.nA p.hunk.new.length y1.nc,.int .u8 p.edit.kind,.slice y2.pA p.edit.path.length y2.pc,.int .i64 p.edit.at_,.int .i64 p.edit.far,.string p.edit.frm,.string p.edit.to,.slice y2.oA p.edit.old.len y2.oc,.slice y2.nA p.edit.new.len y2.nc] [.int .u8 0,.string ⟨#[]⟩,.string ⟨#[]⟩,.int .i64 0,.slice none 0 0,.slice none 0 0,.int .u8 0,.slice none 0 0,.int .i64 0,.int .i64 0,.string ⟨#[]⟩,.string ⟨#[]⟩,.slice none 0 0,.slice none 0 0]∧eG (fun b=>w.heap.size+2≤b) wx y1 p.hunk∧fK (fun b=>w.heap.size+2≤b) wx y2 p.edit)
 case first =>
  go_wp2_with(go_at_call 103;(with_reducible refine(zgU (H.out.edit.below HB1.out.b) h3 h4 h5).mono ?_);rintro e1 w1 ⟨y2,rfl,hL,hB⟩;have hC:=HB1.out.call hB;have hz:=hC.z;have d0:=hC.c 0 _ rfl;have d1:=hC.c 1 _ rfl;have d2:=hC.c 2 _ rfl;have d3:=hC.c 3 _ rfl;have d4:=hC.c 4 _ rfl;have d5:=hC.c 5 _ rfl;have d6:=hC.c 6 _ rfl;have d7:=hC.c 7 _ rfl;have d8:=hC.c 8 _ rfl;have d9:=hC.c 9 _ rfl;have d10:=hC.c 10 _ rfl;have d11:=hC.c 11 _ rfl;have d12:=hC.c 12 _ rfl;have d13:=hC.c 13 _ rfl;have hf:=hC.fc;have HC:=hide hC;have HL:=hide hL;have vz:=hide hB;clear hC hL hB)
  go_meet
  exact⟨_,HC.out.put 6 [.int .u8 p.edit.kind,.slice y2.pA p.edit.path.length y2.pc,.int .i64 p.edit.at_,.int .i64 p.edit.far,.string p.edit.frm,.string p.edit.to,.slice y2.oA p.edit.old.len y2.oc,.slice y2.nA p.edit.new.len y2.nc] (by simp),((hl.below vz.out).keep fun b hb=>jG w.heap.size (by omega) [.int .u8 p.edit.kind,.slice y2.pA p.edit.path.length y2.pc,.int .i64 p.edit.at_,.int .i64 p.edit.far,.string p.edit.frm,.string p.edit.to,.slice y2.oA p.edit.old.len y2.oc,.slice y2.nA p.edit.new.len y2.nc] 6 w1),((HL.out.mono (S':=fun b=>w.heap.size+2≤b) (fun b hb=>aI HB1.out.z hb)).keep fun b hb=>jG w.heap.size (by omega) [.int .u8 p.edit.kind,.slice y2.pA p.edit.path.length y2.pc,.int .i64 p.edit.at_,.int .i64 p.edit.far,.string p.edit.frm,.string p.edit.to,.slice y2.oA p.edit.old.len y2.oc,.slice y2.nA p.edit.new.len y2.nc] 6 w1)⟩
 case rest =>
 obtain⟨y2,hB2,hl,hm⟩:=hcut;clear HB1 b0 b1 b2 b3 b4 b5 b6 b7 b8 b9 b10 b11 b12 b13;have jJ:=hide hl;clear hl;have nK:=hide hm;clear hm
 go_upto_region 3 with fail
 have hl:=jJ.out;clear jJ;have hm:=nK.out;clear nK;have b0:=hB2.c 0 _ rfl;have b1:=hB2.c 1 _ rfl;have b2:=hB2.c 2 _ rfl;have b3:=hB2.c 3 _ rfl;have b4:=hB2.c 4 _ rfl;have b5:=hB2.c 5 _ rfl;have b6:=hB2.c 6 _ rfl;have b7:=hB2.c 7 _ rfl;have b8:=hB2.c 8 _ rfl;have b9:=hB2.c 9 _ rfl;have b10:=hB2.c 10 _ rfl;have b11:=hB2.c 11 _ rfl;have b12:=hB2.c 12 _ rfl;have b13:=hB2.c 13 _ rfl;have r0:=hB2.r 0 _ rfl;have r1:=hB2.r 1 _ rfl;have r2:=hB2.r 2 _ rfl;have r3:=hB2.r 3 _ rfl;have r4:=hB2.r 4 _ rfl;have r5:=hB2.r 5 _ rfl;have r6:=hB2.r 6 _ rfl;have r7:=hB2.r 7 _ rfl;have r8:=hB2.r 8 _ rfl;have r9:=hB2.r 9 _ rfl;have r10:=hB2.r 10 _ rfl;have r11:=hB2.r 11 _ rfl;have r12:=hB2.r 12 _ rfl;have r13:=hB2.r 13 _ rfl;have hfr:=hB2.fr;obtain⟨hR,uh⟩:=hB2.res [.int .u8 p.kind,.string p.file,.string p.text,.int .i64 p.hunk.at_,.slice y1.oA p.hunk.old.length y1.oc,.slice y1.nA p.hunk.new.length y1.nc,.int .u8 p.edit.kind,.slice y2.pA p.edit.path.length y2.pc,.int .i64 p.edit.at_,.int .i64 p.edit.far,.string p.edit.frm,.string p.edit.to,.slice y2.oA p.edit.old.len y2.oc,.slice y2.nA p.edit.new.len y2.nc] rfl;have hz:=hB2.z;have hlr:=(hl.keep (w':=World.setCells wc (w.heap.size+1) 0 [.int .u8 p.kind,.string p.file,.string p.text,.int .i64 p.hunk.at_,.slice y1.oA p.hunk.old.length y1.oc,.slice y1.nA p.hunk.new.length y1.nc,.int .u8 p.edit.kind,.slice y2.pA p.edit.path.length y2.pc,.int .i64 p.edit.at_,.int .i64 p.edit.far,.string p.edit.frm,.string p.edit.to,.slice y2.oA p.edit.old.len y2.oc,.slice y2.nA p.edit.new.len y2.nc]) fun b hb=>jG (w.heap.size+1) (by omega) _ _ _);have jJ:=hide hlr;clear hl hlr;have hmr:=(hm.keep (w':=World.setCells wc (w.heap.size+1) 0 [.int .u8 p.kind,.string p.file,.string p.text,.int .i64 p.hunk.at_,.slice y1.oA p.hunk.old.length y1.oc,.slice y1.nA p.hunk.new.length y1.nc,.int .u8 p.edit.kind,.slice y2.pA p.edit.path.length y2.pc,.int .i64 p.edit.at_,.int .i64 p.edit.far,.string p.edit.frm,.string p.edit.to,.slice y2.oA p.edit.old.len y2.oc,.slice y2.nA p.edit.new.len y2.nc]) fun b hb=>jG (w.heap.size+1) (by omega) _ _ _);have nK:=hide hmr;clear hm hmr;have mZ:=hide uh;clear hB2 uh;obtain⟨wF,hF⟩:∃wF,wF=World.setCells wc (w.heap.size+1) 0 [.int .u8 p.kind,.string p.file,.string p.text,.int .i64 p.hunk.at_,.slice y1.oA p.hunk.old.length y1.oc,.slice y1.nA p.hunk.new.length y1.nc,.int .u8 p.edit.kind,.slice y2.pA p.edit.path.length y2.pc,.int .i64 p.edit.at_,.int .i64 p.edit.far,.string p.edit.frm,.string p.edit.to,.slice y2.oA p.edit.old.len y2.oc,.slice y2.nA p.edit.new.len y2.nc]:=⟨_,rfl⟩;rw[←hF]at hR;rw[←hF]at jJ;rw[←hF]at nK;rw[←hF]at mZ;simp only[World.setCells,Nat.reduceAdd]at hF;have HR:=hide hR;have HF:=hide hF;clear hR hF
 go_wp2_with fail
 rw[←HF.out];clear HF;have q0:=HR.out 0 _ rfl;have q1:=HR.out 1 _ rfl;have q2:=HR.out 2 _ rfl;have q3:=HR.out 3 _ rfl;have q4:=HR.out 4 _ rfl;have q5:=HR.out 5 _ rfl;have q6:=HR.out 6 _ rfl;have q7:=HR.out 7 _ rfl;have q8:=HR.out 8 _ rfl;have q9:=HR.out 9 _ rfl;have q10:=HR.out 10 _ rfl;have q11:=HR.out 11 _ rfl;have q12:=HR.out 12 _ rfl;have q13:=HR.out 13 _ rfl;refine bodyPost_ret (v:= .agg #[.int .u8 p.kind,.string p.file,.string p.text,.int .i64 p.hunk.at_,.slice y1.oA p.hunk.old.length y1.oc,.slice y1.nA p.hunk.new.length y1.nc,.int .u8 p.edit.kind,.slice y2.pA p.edit.path.length y2.pc,.int .i64 p.edit.at_,.int .i64 p.edit.far,.string p.edit.frm,.string p.edit.to,.slice y2.oA p.edit.old.len y2.oc,.slice y2.nA p.edit.new.len y2.nc]) ?_ rfl ⟨⟨y1,y2⟩,rfl,⟨H.out.kind,H.out.file,H.out.text,jJ.mono fun b hb=>by omega,nK.mono fun b hb=>by omega⟩,mZ⟩;simp only[results,Tryz.results38];go_simp
end
section
open Go.RowKit
theorem Mc:(Tryz.prog.info? 43).map (·.size)=some 14:=by kernel_rfl
theorem Dt(p:Pt)(x:Ph):(bU p x).toArray.all (·.oneCell')=true:=all_oneCell_toArray (cs:=bU p x) (by
 intro v hv;simp only[bU,List.mem_cons,List.not_mem_nil,or_false]at hv;rcases hv with rfl|rfl|rfl|rfl|rfl|rfl|rfl|rfl|rfl|rfl|rfl|rfl|rfl|rfl<;>rfl)
section
variable {w wx : World} {us zs : List Value}
theorem dw.rg(h:dw w wx us zs):wx.rangeAt w.heap.size 0 us:=fun j v hv=>by rw[Nat.zero_add];exact h.c j v hv
theorem dw.rg2(h:dw w wx us zs):wx.rangeAt (w.heap.size+1) 0 zs:=fun j v hv=>by rw[Nat.zero_add];exact h.r j v hv
theorem dw.th(h:dw w wx us zs){o n:Nat}(hn:o+n≤us.length):wx.there w.heap.size o n:=fun j hj=>by
 have hv:us[o+j]?=some (us[o+j]'(by omega)):=List.getElem?_eq_getElem (by omega);exact⟨by rw[h.c _ _ hv];rfl,h.fc _⟩
theorem dw.thr(h:dw w wx us zs):wx.there (w.heap.size+1) 0 zs.length:=fun j hj=>by
 have hv:zs[0+j]?=some (zs[0+j]'(by omega)):=List.getElem?_eq_getElem (by omega);exact⟨by rw[h.r _ _ hv];rfl,h.fr _⟩
end
structure iV(S:Nat→Prop)(w:World)(x:Ph)(A:Option Addr)(n:Nat)(c:aY):Prop where
 kind:c.kind<256
 repo:c.repo.size≤9223372036854775807
 frm:c.frm.size≤9223372036854775807
 name:c.name.size≤9223372036854775807
 file:c.file.size≤9223372036854775807
 patch:eH S w x c.patch
 bytes:bY S w A n c.bytes
theorem iV.below{S:Nat→Prop}{w w':World}{x:Ph}{A:Option Addr}{n:Nat}{c:aY}(h:iV S w x A n c)(hB:Below w.heap.size w w'):iV S w' x A n c:=⟨h.kind,h.repo,h.frm,h.name,h.file,h.patch.below hB,h.bytes.below hB⟩
theorem iV.cmd{S:Nat→Prop}{w:World}{x:Ph}{A:Option Addr}{n:Nat}{c:aY}(h:iV S w x A n c):dF S w c x A n:=⟨h.kind,h.repo,h.frm,h.name,h.file,h.patch.pt,h.bytes.bytes,h.bytes.1.cap⟩
structure EI(c:aY):Prop where
 old:c.patch.hunk.old.length≤1099511627776
 new:c.patch.hunk.new.length≤1099511627776
 path:c.patch.edit.path.length≤1099511627776
 eold:c.patch.edit.old.cnt≤1099511627776
 enew:c.patch.edit.new.cnt≤1099511627776
 bytes:c.bytes.length≤1099511627776
theorem zep{S:Nat→Prop}{x:Ph}{A:Option Addr}{n:Nat}{c:aY}{w:World}(h:dF S w c x A n)(hz:EI c):
  Calls Tryz.prog 14 #[.agg (ag c x A n).toArray] w fun e w'=>∃y A' n',e = .returned (.agg (ag c y A' n').toArray)∧iV (fun b=>w.heap.size≤b) w' y A' n' c∧Below w.heap.size w w':=by
 obtain⟨W0,hW0⟩:∃W0,W0=(w.alloc (.cells (ag c x A n).toArray 46)).alloc (.cells ak.toArray 46):=⟨_,rfl⟩;have hB0:dw w W0 (ag c x A n) ak:=by rw[hW0];exact dw.start w (ag c x A n).toArray ak.toArray _ _
 have HW0:=hide hW0;have HB0:=hide hB0;have H:=hide h;clear hW0 hB0 h;go_enter Tryz.func14,Tryz.ntmps14
 go_upto_region 1 with fail
 change Code.wp _ _ _ _ ((w.alloc (.cells (ag c x A n).toArray 46)).alloc (.cells ak.toArray 46));rw[←HW0.out];clear HW0;refine wp_region_lit ?_;refine sk ?_;refine sl ?_ (Gt HB0.out.rg) Tryz.underlying43 Mc;refine sc (zf1 (H.out.below HB0.out.b).patch hz.old hz.new hz.path hz.eold hz.enew) ?_;rintro e w1 ⟨y,rfl,hL1,hB1⟩;refine⟨_,rfl,?_⟩;have fE:=hide (HB0.out.call hB1);refine sk ?_;refine st (cells:=(bU c.patch y).toArray) ?_ (fE.out.th (o:=5) (by simp)) Mc (Dt _ _);have iG:Hid (dw w (w1.setCells w.heap.size 5 (bU c.patch y)) (ag c y A n) ak):=hide (fE.out.put 5 (bU c.patch y) (by simp));have HL2:Hid (eH (fun b=>w.heap.size+2≤b) (w1.setCells w.heap.size 5 (bU c.patch y)) y c.patch):=hide ((hL1.mono (S':=fun b=>w.heap.size+2≤b) fun b hb=>aI HB0.out.z hb).keep fun b hb=>jG w.heap.size (by omega) (bU c.patch y) 5 w1);clear hL1 hB1;refine wpList_nil ?_;rename_i hK;refine hK _ _ ?_;clear hK;generalize w1.setCells w.heap.size 5 (bU c.patch y)=W2 at iG HL2⊢;have k19:W2.cell? ⟨w.heap.size,19,none⟩=some (.slice A c.bytes.length n):=iG.out.c 19 _ rfl
 go_upto_region 2 with fail
 refine wp_region_lit ?_;refine sk ?_;refine sk ?_;refine sc (zfR (H.out.below iG.out.b).bytes hz.bytes) ?_;rintro e w3 ⟨A3,c3,rfl,hL3,hB3⟩;refine⟨_,rfl,?_⟩;have fD:=hide (iG.out.call hB3);have ny:w3.cell? ⟨w.heap.size,19,none⟩=some (.slice A c.bytes.length n):=fD.out.c 19 _ rfl;have f19:=fD.out.fc 19;refine sk ?_;refine ss ?_;have qy:Hid (dw w (w3.setCells w.heap.size 19 [.slice A3 c.bytes.length c3]) (ag c y A3 c3) ak):=hide (fD.out.put 19 [.slice A3 c.bytes.length c3] (by simp));have fF:Hid (eH (fun b=>w.heap.size+2≤b) (w3.setCells w.heap.size 19 [.slice A3 c.bytes.length c3]) y c.patch):=hide ((HL2.out.below hB3).keep fun b hb=>jG w.heap.size (by omega) [.slice A3 c.bytes.length c3] 19 w3);have HB4:Hid (bY (fun b=>w.heap.size+2≤b) (w3.setCells w.heap.size 19 [.slice A3 c.bytes.length c3]) A3 c3 c.bytes):=hide ((hL3.mono (S':=fun b=>w.heap.size+2≤b) fun b hb=>aI iG.out.z hb).keep fun b hb=>jG w.heap.size (by omega) [.slice A3 c.bytes.length c3] 19 w3);simp only[World.setCells]at qy fF HB4;clear hL3 hB3 k19 ny f19 fD;refine wpList_nil ?_;rename_i hK;refine hK _ _ ?_;clear hK;generalize w3.setCell ⟨w.heap.size,19,none⟩ (.slice A3 c.bytes.length c3)=W4 at qy fF HB4⊢
 go_upto_region 3 with fail
 refine wp_region_lit ?_;refine sl ?_ qy.out.rg Tryz.underlying46 zag;refine st (cells:=(ag c y A3 c3).toArray) ?_ qy.out.thr zag (jQ _ _ _ _);refine wpList_nil ?_;rename_i hK;refine hK _ _ ?_;clear hK;refine wp_ret ?_;obtain⟨hR,uh⟩:=qy.out.res (ag c y A3 c3) rfl;have hk :∀b,w.heap.size+2≤b→(World.setCells W4 (w.heap.size+1) 0 (ag c y A3 c3)).heap[b]?=W4.heap[b]?:=fun b hb=>jG (w.heap.size+1) (by omega) _ _ _;refine bodyPost_ret (v:= .agg (ag c y A3 c3).toArray) (ZZ Tryz.results14 rfl (fun j v hv=>by rw[Nat.zero_add];exact hR j v hv) rfl) rfl ⟨y,A3,c3,rfl,⟨H.out.kind,H.out.repo,H.out.frm,H.out.name,H.out.file,(fF.out.keep hk).mono fun b hb=>by omega,(HB4.out.keep hk).mono fun b hb=>by omega⟩,uh⟩
theorem zeq{S S':Nat→Prop}{x y:Ph}{A A':Option Addr}{n n':Nat}{c:aY}{w:World}(ho:iV S w x A n c)(hl:dF S' w c y A' n'):
  Calls Tryz.prog 17 #[.agg (ag c x A n).toArray,.agg (ag c y A' n').toArray] w fun e w'=>e = .returned (.bool true)∧Below w.heap.size w w':=by
 obtain⟨W0,hW0⟩:∃W0,W0=(w.alloc (.cells (ag c x A n).toArray 46)).alloc (.cells (ag c y A' n').toArray 46):=⟨_,rfl⟩;have hB0:dw w W0 (ag c x A n) (ag c y A' n'):=by rw[hW0];exact dw.start w (ag c x A n).toArray (ag c y A' n').toArray _ _
 have HW0:=hide hW0;have HB0:=hide hB0;have Ho:=hide ho;have Hl:=hide hl;clear hW0 hB0 ho hl;go_enter Tryz.func17,Tryz.ntmps17
 go_upto_region 1 with fail
 change Code.wp _ _ _ _ ((w.alloc (.cells (ag c x A n).toArray 46)).alloc (.cells (ag c y A' n').toArray 46));rw[←HW0.out];clear HW0;refine wp_region_lit ?_;refine sl ?_ HB0.out.rg Tryz.underlying46 zag;refine sl ?_ HB0.out.rg2 Tryz.underlying46 zag;refine sc (zel (Ho.out.below HB0.out.b).cmd (Hl.out.below HB0.out.b)) ?_;rintro e w1 ⟨rfl,hB1⟩;refine⟨_,rfl,?_⟩;have fE:=hide (HB0.out.call hB1);refine sk ?_;refine sk ?_;refine sl ?_ (Gt fE.out.rg) Tryz.underlying43 Mc;refine sk ?_;refine sl ?_ (Gt fE.out.rg2) Tryz.underlying43 Mc;refine sc (zfZ (Ho.out.below fE.out.b).patch (Hl.out.below fE.out.b).patch) ?_;rintro e w2 ⟨rfl,hB2⟩;refine⟨_,rfl,?_⟩;have iG:=hide (fE.out.call hB2);have k19:w2.cell? ⟨w.heap.size,19,none⟩=some (.slice A c.bytes.length n):=iG.out.c 19 _ rfl;have r19:w2.cell? ⟨w.heap.size+1,19,none⟩=some (.slice A' c.bytes.length n'):=iG.out.r 19 _ rfl;refine sk ?_;refine sk ?_;refine sk ?_;refine sk ?_;refine sk ?_;refine sk ?_;refine sc (zfS (Ho.out.below iG.out.b).bytes (Hl.out.below iG.out.b).bytes) ?_;rintro e w3 ⟨rfl,hB3⟩;refine⟨_,rfl,?_⟩;have fD:=hide (iG.out.call hB3);refine sk ?_;refine sk ?_;refine wpList_nil ?_;rename_i hK;refine hK _ _ ?_;clear hK;refine wp_ret ?_;go_ret;exact⟨rfl,fD.out.b⟩
end
section
open Go.RowKit
def zH:ByteArray:={data:=#[110,101,119,32,114,10,112,117,108,108,32,114,32,115,32,112]}
def zI:ByteArray:={data:=#[112,117,108,108,32,114,32,115]}
def pM:ByteArray:={data:=#[114]}
def zJ:ByteArray:={data:=#[115]}
def AL:ByteArray:={data:=#[112]}
theorem Ia:isWord {data:=#[115]}=true:=by
 have h:(ByteArray.toList {data:=#[115]}).isEmpty=false:=by
  rw[Bool.eq_false_iff,ne_eq,List.isEmpty_iff,mg];decide
 unfold isWord;rw[h];decide
theorem Ib:isWord {data:=#[112]}=true:=by
 have h:(ByteArray.toList {data:=#[112]}).isEmpty=false:=by
  rw[Bool.eq_false_iff,ne_eq,List.isEmpty_iff,mg];decide
 unfold isWord;rw[h];decide
theorem zK:lineOf (wordsOf 32 {data:=#[110,101,119,32,114]})=some ⟨1,pM,ae,ae,ae,Pt.zero,[]⟩:=by
 rw[show wordsOf 32 {data:=#[110,101,119,32,114]}=[jo,pM]from by decide +kernel,kY,jP (k:=1) (by simp[dP]),Option.bind_some,if_pos (show isWord pM=true from OW)];rfl
theorem zL:lineOf (wordsOf 32 {data:=#[112,117,108,108,32,114,32,115,32,112]})=some ⟨3,pM,zJ,AL,ae,Pt.zero,[]⟩:=by
 rw[show wordsOf 32 {data:=#[112,117,108,108,32,114,32,115,32,112]}=[eP,pM,zJ,AL]from by decide +kernel,kY,jP (k:=3) (by simp[dP]),Option.bind_some,if_pos (show isWord pM=true from OW)];have h:restOf 3 ⟨3,pM,ae,ae,ae,Pt.zero,[]⟩ [zJ,AL]=some (⟨3,pM,zJ,AL,ae,Pt.zero,[]⟩,[]):=by
  show(if isWord zJ && isWord AL then _ else _)=_;rw[show isWord zJ=true from Ia,show isWord AL=true from Ib];rfl
 rw[h]
theorem zM:lineOf (wordsOf 32 {data:=#[112,117,108,108,32,114,32,115]})=none:=by
 rw[show wordsOf 32 {data:=#[112,117,108,108,32,114,32,115]}=[eP,pM,zJ]from by decide +kernel,kY,jP (k:=3) (by simp[dP]),Option.bind_some,if_pos (show isWord pM=true from OW)];rfl
theorem zN:rowsOf 0 (wordsOf 10 zH) = .ok [⟨1,pM,ae,ae,ae,Pt.zero,[]⟩,⟨3,pM,zJ,AL,ae,Pt.zero,[]⟩]:=by
 rw[show wordsOf 10 zH=[{data:=#[110,101,119,32,114]},{data:=#[112,117,108,108,32,114,32,115,32,112]}]from by decide +kernel,QU (by decide) zK,QU (by decide) zL];rfl
theorem zO:rowsOf 0 (wordsOf 10 zI) = .error 1:=by
 rw[show wordsOf 10 zI=[{data:=#[112,117,108,108,32,114,32,115]}]from by decide +kernel,Wh (by decide) zM]
theorem Du :∀t∈wordsOf 10 zH,∀r,wordsOf 32 t=ay::r→gU 106 restRecord:=by
 rw[show wordsOf 10 zH=[{data:=#[110,101,119,32,114]},{data:=#[112,117,108,108,32,114,32,115,32,112]}]from by decide +kernel];intro t ht r hr;simp only[List.mem_cons,List.not_mem_nil,or_false]at ht;rcases ht with rfl|rfl
 ·rw[show wordsOf 32 {data:=#[110,101,119,32,114]}=[jo,pM]from by decide +kernel]at hr;exact absurd (List.cons.inj hr).1 (by decide)
 ·rw[show wordsOf 32 {data:=#[112,117,108,108,32,114,32,115,32,112]}=[eP,pM,zJ,AL]from by decide +kernel]at hr;exact absurd (List.cons.inj hr).1 (by decide)
theorem Dv :∀t∈wordsOf 10 zI,∀r,wordsOf 32 t=ay::r→gU 106 restRecord:=by
 rw[show wordsOf 10 zI=[{data:=#[112,117,108,108,32,114,32,115]}]from by decide +kernel];intro t ht r hr;simp only[List.mem_cons,List.not_mem_nil,or_false]at ht;subst ht;rw[show wordsOf 32 {data:=#[112,117,108,108,32,114,32,115]}=[eP,pM,zJ]from by decide +kernel]at hr;exact absurd (List.cons.inj hr).1 (by decide)
theorem uT{w:World}(hmx:ja w)(htab:bF w):Calls Tryz.prog 10 #[.string {data:=#[110,101,119,32,114,10,112,117,108,108,32,114,32,115,32,112]}] w fun e w'=>∃g c,e = .returned (.tuple #[.slice (some ⟨g,0,none⟩) 2 c,.agg #[.int .i64 0,.int .i64 0]])∧w'.cell? ⟨g,23,none⟩=some (.string {data:=#[112]})∧Below w.heap.size w w':=by
 refine(Wn (s:=zH) (by decide) hmx htab Du).mono ?_;rintro e w' ⟨hB,_,h⟩;obtain⟨l,v,hl,he,hR⟩:=(h (by decide)).2 _ zN;obtain⟨i1,i2,hi⟩:∃i1 i2,l=[i1,i2]:=by
  have hl':=hl;clear hR he h;rcases l with _|⟨i1,_|⟨i2,_|⟨i3,r⟩⟩⟩
  ·cases hl'
  ·simp at hl'
  ·exact⟨i1,i2,rfl⟩
  ·simp at hl'
 subst hi;have h2:i2.c.name=AL:=by
  have h3:=congrArg (fun l:List aY=>l[1]?) hl;have h4:some i2.c=some ⟨3,pM,zJ,AL,ae,Pt.zero,[]⟩:=h3;injection h4 with h4;rw[h4]
 have ho:w'.ownsRow w.heap.size 46 20 v 2 (List.flatMap kD.cells [i1,i2]):=hR.1;rcases ho.2 with⟨_,e0⟩|⟨g,cap,cur,e1,_⟩
 ·cases e0
 ·subst e1;refine⟨g,cap,he,?_,hB⟩;have h5:=World.ownsRow.cellAt ho 23 (by decide);rw[h5];show some (Value.string i2.c.name)=_;rw[h2];rfl
theorem uU{w:World}(hmx:ja w)(htab:bF w):Calls Tryz.prog 10 #[.string {data:=#[112,117,108,108,32,114,32,115]}] w fun e w'=>e = .returned (.tuple #[.slice none 0 0,.agg #[.int .i64 210,.int .i64 1]])∧Below w.heap.size w w':=by
 refine(Wn (s:=zI) (by decide) hmx htab Dv).mono ?_;rintro e w' ⟨hB,_,h⟩;exact⟨(h (by decide)).1 _ zO,hB⟩
theorem zQ{w:World}{b:Nat}(hr:Rd (fun _=>True) w (some ⟨b,0,none⟩) (([{data:=#[97]},{data:=#[98]}]:List ByteArray).map .string)):
  Calls Tryz.prog 20 #[.agg #[.int .i64 0,.slice (some ⟨b,0,none⟩) 2 2,.string {data:=#[]},.slice none 0 0]] w fun e w'=>e = .returned (.string {data:=#[111,107,32,110,97,109,101,115,32,97,32,98]})∧Below w.heap.size w w':=by
 have h:oO (fun _=>True) w ⟨some ⟨b,0,none⟩,2,none,0⟩ ⟨0,[{data:=#[97]},{data:=#[98]}],{data:=#[]},[]⟩:=
  ⟨⟨by decide,by decide⟩,⟨hr,fun s hs=>(by simp at hs;rcases hs with rfl|rfl<;>decide),by decide⟩,by decide,⟨.nil,by decide⟩,⟨by show 2≤2;decide,by show 2≤9223372036854775807;decide⟩,⟨by show 0≤0;decide,by show 0≤9223372036854775807;decide⟩⟩
 refine(qK h rfl (by decide +kernel)).mono ?_;rintro e w' ⟨rfl,hB⟩;exact⟨congrArg (fun x=>Ending.returned (.string x)) (by decide +kernel),hB⟩
theorem zS{w:World}(hp:ik w):
  Calls Tryz.prog 20 #[.agg #[.int .i64 6,.slice none 0 0,.string {data:=#[]},.slice none 0 0]] w fun e w'=>e = .returned (.string {data:=#[101,114,114,111,114,32,54]})∧Below w.heap.size w w':=by
 have h:oO (fun _=>True) w ⟨none,0,none,0⟩ ⟨6,[],{data:=#[]},[]⟩:=
  ⟨⟨by decide,by decide⟩,⟨.nil,fun s hs=>(by cases hs),by decide⟩,by decide,⟨.nil,by decide⟩,⟨by decide,by decide⟩,⟨by decide,by decide⟩⟩
 have h2:=wW h hp (by decide +kernel);refine h2.mono ?_;rintro e w' ⟨rfl,hB⟩;exact⟨congrArg (fun x=>Ending.returned (.string x)) (by decide +kernel),hB⟩
theorem zT(w:World):Rd (fun _=>True) (w.alloc (.cells #[.string {data:=#[97]},.string {data:=#[98]}] 9)) (some ⟨w.heap.size,0,none⟩) (([{data:=#[97]},{data:=#[98]}]:List ByteArray).map .string):=
 .inr ⟨_,0,rfl,trivial,fun j u hu=>by rw[Nat.zero_add,Lib.cell_of_heap (heap_alloc_new w _)];simpa using hu⟩
theorem zic{w:World}(hmx:ja w)(htab:bF w)(Md:ik w):Calls Tryz.prog 9 #[] w fun e w'=>e = .returned (.bool true)∧Below w.heap.size w w':=by
 have Oe:=hide hmx;have aN:=hide htab;have TQ:=hide Md;clear hmx htab Md;go_enter Tryz.func9,Tryz.ntmps9
 go_upto_region 3 with(first
  | (go_at_call 10;(with_reducible refine(uT Oe.out aN.out).mono ?_);rintro e1 w1 ⟨g,cg,rfl,hg,hB1⟩;have HB1:=hide hB1;have Hg:=hide hg;clear hB1 hg)
  | (go_at_call 10;(with_reducible refine(uU (Oe.out.below (HB1.out.trans ((az w1 _).mono HB1.out.size))) (aN.out.below (HB1.out.trans ((az w1 _).mono HB1.out.size)))).mono ?_);rintro e2 w2 ⟨rfl,hB2⟩;have HB2:=hide hB2;clear hB2))
 have hb3:=az w2 (.cells #[.int .i64 210,.int .i64 1] 26);have hb1:=az w1 (.cells #[.int .i64 0,.int .i64 0] 26);have hgl:g<w1.heap.size:=block_lt_of_cell Hg.out;have hz1:w1.heap.size<w2.heap.size:=by have:=HB2.out.size;simp at this;omega
 have hz0:=HB1.out.size;have c0:(w2.alloc (.cells #[.int .i64 210,.int .i64 1] 26)).cell? ⟨w1.heap.size,0,none⟩=some (.int .i64 0):=(hb3.cell (p:=⟨w1.heap.size,0,none⟩) hz1).trans ((HB2.out.cell (p:=⟨w1.heap.size,0,none⟩) (by simp)).trans (by rw[Lib.cell_of_heap (heap_alloc_new w1 _)];rfl));have cn:(w2.alloc (.cells #[.int .i64 210,.int .i64 1] 26)).cell? ⟨g,23,none⟩=some (.string {data:=#[112]}):=(hb3.cell (p:=⟨g,23,none⟩) (by show g<_;omega)).trans ((HB2.out.cell (p:=⟨g,23,none⟩) (by simp;omega)).trans ((hb1.cell (p:=⟨g,23,none⟩) hgl).trans Hg.out));have d0:(w2.alloc (.cells #[.int .i64 210,.int .i64 1] 26)).cell? ⟨w2.heap.size,0,none⟩=some (.int .i64 210):=by rw[Lib.cell_of_heap (heap_alloc_new w2 _)];rfl
 have d1:(w2.alloc (.cells #[.int .i64 210,.int .i64 1] 26)).cell? ⟨w2.heap.size,1,none⟩=some (.int .i64 1):=by rw[Lib.cell_of_heap (heap_alloc_new w2 _)];rfl
 have hW3:Below w.heap.size w (w2.alloc (.cells #[.int .i64 210,.int .i64 1] 26)):=((HB1.out.trans (hb1.mono hz0)).trans (HB2.out.mono (by simp;omega))).trans (hb3.mono (by omega));have HW3:=hide hW3;clear hb3 hb1 hW3 hgl hz1 hz0 HB1 HB2 Hg;generalize w2.alloc (.cells #[.int .i64 210,.int .i64 1] 26)=W3 at c0 cn d0 d1 HW3⊢
 go_wp2_with(first
  | (go_at_call 15;(with_reducible refine(zib _).mono ?_);rintro e4 w4 ⟨rfl,hB4⟩;have HB4:=hide (HW3.out.trans (hB4.mono HW3.out.size));clear hB4)
  | (go_at_call 20;(with_reducible refine(zQ (zT _)).mono ?_);rintro e5 w5 ⟨rfl,gy⟩;have iE:=hide ((HB4.out.alloc HB4.out.size _).trans (gy.mono (aI HB4.out.size (by simp))));clear gy)
  | (go_at_call 20;(with_reducible refine(zS (TQ.out.below iE.out)).mono ?_);rintro e6 w6 ⟨rfl,nT⟩;have Ae:=hide (iE.out.trans (nT.mono iE.out.size));clear nT))
 go_ret;exact⟨rfl,Ae.out⟩
end
end Go.Proofs.YtjjaojnglnpgaaaGreatDoor
