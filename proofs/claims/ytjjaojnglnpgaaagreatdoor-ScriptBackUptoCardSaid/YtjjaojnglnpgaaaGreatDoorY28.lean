/- Part 29 of what scriptBack_cardUpto rests on. -/
import Derived.Test.YtjjaojnglnpgaaaGreatDoorY14
import Derived.Test.YtjjaojnglnpgaaaGreatDoorY00
set_option linter.unusedVariables false
set_option linter.unusedSimpArgs false
set_option maxHeartbeats 16000000
set_option maxRecDepth 1000000
namespace Go.Proofs.YtjjaojnglnpgaaaGreatDoor
section
open Go.RowKit
theorem ES{S:Nat→Prop}{A:Option Addr}{c k:Nat}{t:ByteArray}{n:Int}{ks:Fo}{w:World}(hf:bz S w A (.cons k t n ks .nil))(hl:1≤c)(hc:c≤9223372036854775807)(htab:ax w):
  Calls Tryz.prog 220 #[.slice A 1 c] w fun e w'=>ag (fE 40 k t n ks) e∧Below w.heap.size w w':=gY hf hl hc htab
theorem Yx{S:Nat→Prop}{pA A A2:Option Addr}{path:List Int}{n n2:Int}{k k2 pc c c2:Nat}{t t2:ByteArray}{ks DF:Fo}{w:World}(Bz:IntsIn S w pA path)
  (hc:1≤c∧c≤9223372036854775807) (hc2:1≤c2∧c2≤9223372036854775807) (ho:bz S w A (.cons k t n ks .nil)) (hn:bz S w A2 (.cons k2 t2 n2 DF .nil)) (h1:fE 40 k t n ks) (h2:fE 40 k2 t2 n2 DF) (htab:ax w):
  Calls Tryz.prog 173 #[.agg #[.int .u8 4,.slice pA path.length pc,.int .i64 0,.int .i64 0,.string {data:=#[]},.string {data:=#[]},.slice A 1 c,.slice A2 1 c2]] w fun e1 w' =>
   ag (eY ⟨4,path,0,0,ae,ae,.cons k t n ks .nil,.cons k2 t2 n2 DF .nil⟩) e1∧Below w.heap.size w w':=by
 have ai:Hid (ax w):=htab;have bK:=hide Bz;have iH:Hid (ay 0):=hide (by unfold ay;omega);have dP:Hid (ay 0):=iH;have bT:=hide ho;have dQ:=hide hn;have zu:=hide h1;have sJ:=hide h2;have fU:=hide (@Oa ⟨4,path,0,0,ae,ae,.cons k t n ks .nil,.cons k2 t2 n2 DF .nil⟩);obtain⟨b,o,KA,c',rfl,hS,x0,x1,x2,x3,e1,e2,e3,e4,e5,hks,_⟩:=ho;obtain⟨b',o',nU,c'',rfl,hS',y0,y1,y2,y3,f1,f2,f3,f4,f5,dR,_⟩:=hn;have kS:=hide hks;have Ia:=hide dR;have hb0:=block_lt_of_cell x0;have hb':=block_lt_of_cell y0;have X0:=hide x0;have X1:=hide x1;have X2:=hide x2;have X3:=hide x3;have Y0:=hide y0;have Y1:=hide y1;have Y2:=hide y2;have Y3:=hide y3;have hle:=aI e4 e5;have hle2:=aI f4 f5;clear Bz htab h1 h2 hks dR x0 x1 x2 x3 y0 y1 y2 y3 hS hS' e1 e2 e3 e4 e5 f1 f2 f3 f4 f5;go_enter Tryz.func173,Tryz.ntmps173
 go_wp2_with(first
  | (go_at_call 216;(with_reducible refine(pJ (l:=path) (bK.out.below (bW (az _ _) _))).mono ?_);rintro e1 w1 ⟨⟨_|_,rfl,hb⟩,rfl⟩<;>(have Hp:=hide hb;clear hb))
  | (go_at_call 218;(with_reducible refine(jc 0 _ iH.out).mono ?_);rintro e1 w1 ⟨⟨_|_,rfl,hb⟩,rfl⟩<;>(have Ha:=hide hb;clear hb))
  | (go_at_call 218;(with_reducible refine(jc 0 _ dP.out).mono ?_);rintro e1 w1 ⟨⟨_|_,rfl,hb⟩,rfl⟩<;>(have Hf:=hide hb;clear hb))
  | (go_at_call 219;(with_reducible refine(iZ {data:=#[]} _ (by decide) (ai.out.below (bW (az _ _) _))).mono ?_);rintro e1 w1 ⟨⟨_|_,rfl,hb⟩,hB⟩<;>first|(exact absurd (hb.mp (by first|rfl|trivial)) mD)|(have Hn:=hide hb;have HB:=hide (aZ (bW (az _ _) _) hB);obtain⟨hc1,hf1,hz1⟩:=aO (N:=w.heap.size) hB (by simp);clear hb hB))
  | (go_at_call 219;(with_reducible refine(iZ {data:=#[]} _ (by decide) (ai.out.below HB.out)).mono ?_);rintro e1 w2 ⟨⟨_|_,rfl,hb⟩,hB⟩<;>first|(exact absurd (hb.mp (by first|rfl|trivial)) mD)|(have Hm:=hide hb;have HB2:=hide (aZ HB.out hB);obtain⟨hc2,hf2,hz2⟩:=aO (N:=w.heap.size) hB hz1;clear hb hB))
  | (go_at_call 220;(with_reducible refine(ES (bT.out.below HB2.out) hc.1 hc.2 (ai.out.below HB2.out)).mono ?_);rintro e1 w3 ⟨⟨_|_,rfl,hb⟩,hB⟩<;>first|(exact absurd (hb.mpr zu.out) (by decide))|(have gq:=hide hb;have HB3:=hide (aZ HB2.out hB);obtain⟨hc3,hf3,hz3⟩:=aO (N:=w.heap.size) hB hz2;clear hb hB))
  | (go_at_call 220;(with_reducible refine(ES (bT.out.below HB.out) hc.1 hc.2 (ai.out.below HB.out)).mono ?_);rintro e1 w3 ⟨⟨_|_,rfl,hb⟩,hB⟩<;>first|(exact absurd (hb.mpr zu.out) (by decide))|(have gq:=hide hb;have HB3:=hide (aZ HB.out hB);obtain⟨hc3,hf3,hz3⟩:=aO (N:=w.heap.size) hB hz1;clear hb hB))
  | (go_at_call 220;(with_reducible refine(ES (dQ.out.below HB3.out) hc2.1 hc2.2 (ai.out.below HB3.out)).mono ?_);rintro e1 w4 ⟨⟨_|_,rfl,hb⟩,hB⟩<;>first|(exact absurd (hb.mpr sJ.out) (by decide))|(have jP:=hide hb;have HB4:=hide (aZ HB3.out hB);have gI:=fun(p:Addr) (h:p.block<w.heap.size)=>HB4.out.cell (p:=p) h;have Ua:=(gI ⟨b,o,none⟩ hb0).trans X0.out;have Ub:=(gI ⟨b,o+1,none⟩ hb0).trans X1.out;have Uc:=(gI ⟨b,o+2,none⟩ hb0).trans X2.out;have Ud:=(gI ⟨b,o+3,none⟩ hb0).trans X3.out;have Ue:=(gI ⟨b',o',none⟩ hb').trans Y0.out;have Uf:=(gI ⟨b',o'+1,none⟩ hb').trans Y1.out;have Ug:=(gI ⟨b',o'+2,none⟩ hb').trans Y2.out;have Uh:=(gI ⟨b',o'+3,none⟩ hb').trans Y3.out;clear gI;obtain⟨hc4,hf4,jH⟩:=aO (N:=w.heap.size) hB hz3;clear hb hB)))
 go_quiet (fail)
 go_upto_region 20 with(first
  | (go_at_call 216;(with_reducible refine(pJ (l:=path) (bK.out.below (bW (az _ _) _))).mono ?_);rintro e1 w1 ⟨⟨_|_,rfl,hb⟩,rfl⟩<;>(have Hp:=hide hb;clear hb))
  | (go_at_call 218;(with_reducible refine(jc 0 _ iH.out).mono ?_);rintro e1 w1 ⟨⟨_|_,rfl,hb⟩,rfl⟩<;>(have Ha:=hide hb;clear hb))
  | (go_at_call 218;(with_reducible refine(jc 0 _ dP.out).mono ?_);rintro e1 w1 ⟨⟨_|_,rfl,hb⟩,rfl⟩<;>(have Hf:=hide hb;clear hb))
  | (go_at_call 219;(with_reducible refine(iZ {data:=#[]} _ (by decide) (ai.out.below (bW (az _ _) _))).mono ?_);rintro e1 w1 ⟨⟨_|_,rfl,hb⟩,hB⟩<;>first|(exact absurd (hb.mp (by first|rfl|trivial)) mD)|(have Hn:=hide hb;have HB:=hide (aZ (bW (az _ _) _) hB);obtain⟨hc1,hf1,hz1⟩:=aO (N:=w.heap.size) hB (by simp);clear hb hB))
  | (go_at_call 219;(with_reducible refine(iZ {data:=#[]} _ (by decide) (ai.out.below HB.out)).mono ?_);rintro e1 w2 ⟨⟨_|_,rfl,hb⟩,hB⟩<;>first|(exact absurd (hb.mp (by first|rfl|trivial)) mD)|(have Hm:=hide hb;have HB2:=hide (aZ HB.out hB);obtain⟨hc2,hf2,hz2⟩:=aO (N:=w.heap.size) hB hz1;clear hb hB))
  | (go_at_call 220;(with_reducible refine(ES (bT.out.below HB2.out) hc.1 hc.2 (ai.out.below HB2.out)).mono ?_);rintro e1 w3 ⟨⟨_|_,rfl,hb⟩,hB⟩<;>first|(exact absurd (hb.mpr zu.out) (by decide))|(have gq:=hide hb;have HB3:=hide (aZ HB2.out hB);obtain⟨hc3,hf3,hz3⟩:=aO (N:=w.heap.size) hB hz2;clear hb hB))
  | (go_at_call 220;(with_reducible refine(ES (bT.out.below HB.out) hc.1 hc.2 (ai.out.below HB.out)).mono ?_);rintro e1 w3 ⟨⟨_|_,rfl,hb⟩,hB⟩<;>first|(exact absurd (hb.mpr zu.out) (by decide))|(have gq:=hide hb;have HB3:=hide (aZ HB.out hB);obtain⟨hc3,hf3,hz3⟩:=aO (N:=w.heap.size) hB hz1;clear hb hB))
  | (go_at_call 220;(with_reducible refine(ES (dQ.out.below HB3.out) hc2.1 hc2.2 (ai.out.below HB3.out)).mono ?_);rintro e1 w4 ⟨⟨_|_,rfl,hb⟩,hB⟩<;>first|(exact absurd (hb.mpr sJ.out) (by decide))|(have jP:=hide hb;have HB4:=hide (aZ HB3.out hB);have gI:=fun(p:Addr) (h:p.block<w.heap.size)=>HB4.out.cell (p:=p) h;have Ua:=(gI ⟨b,o,none⟩ hb0).trans X0.out;have Ub:=(gI ⟨b,o+1,none⟩ hb0).trans X1.out;have Uc:=(gI ⟨b,o+2,none⟩ hb0).trans X2.out;have Ud:=(gI ⟨b,o+3,none⟩ hb0).trans X3.out;have Ue:=(gI ⟨b',o',none⟩ hb').trans Y0.out;have Uf:=(gI ⟨b',o'+1,none⟩ hb').trans Y1.out;have Ug:=(gI ⟨b',o'+2,none⟩ hb').trans Y2.out;have Uh:=(gI ⟨b',o'+3,none⟩ hb').trans Y3.out;clear gI;obtain⟨hc4,hf4,jH⟩:=aO (N:=w.heap.size) hB hz3;clear hb hB)))
 all_goals(first|go_ret|(go_region_with (go_at_call 221;refine(WC (f:=ks) (g:=DF) (kS.out.below HB4.out.drew) (Ia.out.below HB4.out.drew) hle hle2).mono ?_;rintro e5 w5 ⟨⟨b5,rfl,hb⟩,hB⟩;have Hs:=hide hb;have dV:Hid (Below w.heap.size w w5):=hide (aZ (w:=w) HB4.out.drew hB);clear hb hB);all_goals(go_wp2_with fail;go_ret)))
 all_goals go_tidy
 all_goals(try have hp:=Hp.out)
 all_goals(try have ha:=Ha.out)
 all_goals(try have hs:=Hs.out)
 all_goals refine⟨ag.mk ?_,(by first|exact dV.out|exact Ak HB4.out _|exact HB4.out|exact HB3.out|exact HB2.out|exact HB.out|exact bW (az _ _) _)⟩
 all_goals rw[fU.out]
 all_goals have g1:bU (.cons k t n ks .nil):=zu.out
 all_goals have g2:bU (.cons k2 t2 n2 DF .nil):=sJ.out
 all_goals clear fU ai bK iH dP bT dQ kS Ia X0 X1 X2 X3 Y0 Y1 Y2 Y3 zu sJ
 all_goals(try clear HB4 Ua Ub Uc Ud Ue Uf Ug Uh)
 all_goals have n0:=Du
 all_goals simp
 all_goals have te:=yg
 all_goals have tp:path=[]↔((path.length:Int) == 0)=true:=by cases path<;>simp<;>omega
 all_goals grind
end
end Go.Proofs.YtjjaojnglnpgaaaGreatDoor
