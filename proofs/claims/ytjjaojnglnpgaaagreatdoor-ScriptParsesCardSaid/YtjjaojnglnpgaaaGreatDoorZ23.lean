/- Part 24. -/
import Derived.Test.YtjjaojnglnpgaaaGreatDoorZ14
import Derived.Test.YtjjaojnglnpgaaaGreatDoorZ00
set_option linter.unusedVariables false
set_option linter.unusedSimpArgs false
set_option maxHeartbeats 16000000
set_option maxRecDepth 1000000
namespace Go.Proofs.YtjjaojnglnpgaaaGreatDoor
section
open Go.RowKit
theorem Ci{S:Nat→Prop}{A:Option Addr}{c k:Nat}{t:ByteArray}{n:Int}{ks:Fo}{w:World}(hf:FoIn S w A (.cons k t n ks .nil))(hl:1≤c)(hc:c≤9223372036854775807)(htab:TabOk w):
  Calls Tryz.prog 220 #[.slice A 1 c] w fun e w'=>RetB (NodeOk 40 k t n ks) e∧Below w.heap.size w w':=dD hf hl hc htab
theorem Yg{S:Nat→Prop}{pA A A2:Option Addr}{path:List Int}{n n2:Int}{k k2 pc c c2:Nat}{t t2:ByteArray}{ks wC:Fo}{w:World}(yJ:IntsIn S w pA path)
  (hc:1≤c∧c≤9223372036854775807) (hc2:1≤c2∧c2≤9223372036854775807) (ho:FoIn S w A (.cons k t n ks .nil)) (hn:FoIn S w A2 (.cons k2 t2 n2 wC .nil)) (h1:NodeOk 40 k t n ks) (h2:NodeOk 40 k2 t2 n2 wC) (htab:TabOk w):
  Calls Tryz.prog 173 #[.agg #[.int .u8 4,.slice pA path.length pc,.int .i64 0,.int .i64 0,.string {data:=#[]},.string {data:=#[]},.slice A 1 c,.slice A2 1 c2]] w fun e1 w' =>
   RetB (EdOk ⟨4,path,0,0,noTxt,noTxt,.cons k t n ks .nil,.cons k2 t2 n2 wC .nil⟩) e1∧Below w.heap.size w w':=by
 have af:Hid (TabOk w):=htab;have au:=hide yJ;have dW:Hid (isInt64 0):=hide (by unfold isInt64;omega);have bH:Hid (isInt64 0):=dW;have aU:=hide ho;have bI:=hide hn;have wE:=hide h1;have nY:=hide h2;have bK:=hide (@MI ⟨4,path,0,0,noTxt,noTxt,.cons k t n ks .nil,.cons k2 t2 n2 wC .nil⟩);obtain⟨b,o,KA,c',rfl,hS,x0,x1,x2,x3,e1,e2,e3,e4,e5,hks,_⟩:=ho;obtain⟨b',o',gp,c'',rfl,hS',y0,y1,y2,y3,f1,f2,f3,f4,f5,dn,_⟩:=hn;have fO:=hide hks;have EG:=hide dn;have hb0:=block_lt_of_cell x0;have hb':=block_lt_of_cell y0;have X0:=hide x0;have X1:=hide x1;have X2:=hide x2;have X3:=hide x3;have Y0:=hide y0;have Y1:=hide y1;have Y2:=hide y2;have Y3:=hide y3;have hle:=aI e4 e5;have hle2:=aI f4 f5;clear yJ htab h1 h2 hks dn x0 x1 x2 x3 y0 y1 y2 y3 hS hS' e1 e2 e3 e4 e5 f1 f2 f3 f4 f5;go_enter Tryz.func173,Tryz.ntmps173
 go_wp2_with(first
  | (go_at_call 216;(with_reducible refine(kP (l:=path) (au.out.below (aO (ag _ _) _))).mono ?_);rintro e1 w1 ⟨⟨_|_,rfl,hb⟩,rfl⟩<;>(have Hp:=hide hb;clear hb))
  | (go_at_call 218;(with_reducible refine(dO 0 _ dW.out).mono ?_);rintro e1 w1 ⟨⟨_|_,rfl,hb⟩,rfl⟩<;>(have Ha:=hide hb;clear hb))
  | (go_at_call 218;(with_reducible refine(dO 0 _ bH.out).mono ?_);rintro e1 w1 ⟨⟨_|_,rfl,hb⟩,rfl⟩<;>(have Hf:=hide hb;clear hb))
  | (go_at_call 219;(with_reducible refine(dN {data:=#[]} _ (by decide) (af.out.below (aO (ag _ _) _))).mono ?_);rintro e1 w1 ⟨⟨_|_,rfl,hb⟩,hB⟩<;>first|(exact absurd (hb.mp (by first|rfl|trivial)) je)|(have Hn:=hide hb;have HB:=hide (ak (aO (ag _ _) _) hB);obtain⟨hc1,hf1,hz1⟩:=aj (N:=w.heap.size) hB (by simp);clear hb hB))
  | (go_at_call 219;(with_reducible refine(dN {data:=#[]} _ (by decide) (af.out.below HB.out)).mono ?_);rintro e1 w2 ⟨⟨_|_,rfl,hb⟩,hB⟩<;>first|(exact absurd (hb.mp (by first|rfl|trivial)) je)|(have Hm:=hide hb;have HB2:=hide (ak HB.out hB);obtain⟨hc2,hf2,hz2⟩:=aj (N:=w.heap.size) hB hz1;clear hb hB))
  | (go_at_call 220;(with_reducible refine(Ci (aU.out.below HB2.out) hc.1 hc.2 (af.out.below HB2.out)).mono ?_);rintro e1 w3 ⟨⟨_|_,rfl,hb⟩,hB⟩<;>first|(exact absurd (hb.mpr wE.out) (by decide))|(have di:=hide hb;have HB3:=hide (ak HB2.out hB);obtain⟨hc3,hf3,hz3⟩:=aj (N:=w.heap.size) hB hz2;clear hb hB))
  | (go_at_call 220;(with_reducible refine(Ci (aU.out.below HB.out) hc.1 hc.2 (af.out.below HB.out)).mono ?_);rintro e1 w3 ⟨⟨_|_,rfl,hb⟩,hB⟩<;>first|(exact absurd (hb.mpr wE.out) (by decide))|(have di:=hide hb;have HB3:=hide (ak HB.out hB);obtain⟨hc3,hf3,hz3⟩:=aj (N:=w.heap.size) hB hz1;clear hb hB))
  | (go_at_call 220;(with_reducible refine(Ci (bI.out.below HB3.out) hc2.1 hc2.2 (af.out.below HB3.out)).mono ?_);rintro e1 w4 ⟨⟨_|_,rfl,hb⟩,hB⟩<;>first|(exact absurd (hb.mpr nY.out) (by decide))|(have fD:=hide hb;have HB4:=hide (ak HB3.out hB);have dw:=fun(p:Addr) (h:p.block<w.heap.size)=>HB4.out.cell (p:=p) h;have SY:=(dw ⟨b,o,none⟩ hb0).trans X0.out;have Tc:=(dw ⟨b,o+1,none⟩ hb0).trans X1.out;have Td:=(dw ⟨b,o+2,none⟩ hb0).trans X2.out;have Tf:=(dw ⟨b,o+3,none⟩ hb0).trans X3.out;have Ti:=(dw ⟨b',o',none⟩ hb').trans Y0.out;have Tj:=(dw ⟨b',o'+1,none⟩ hb').trans Y1.out;have Tm:=(dw ⟨b',o'+2,none⟩ hb').trans Y2.out;have Tn:=(dw ⟨b',o'+3,none⟩ hb').trans Y3.out;clear dw;obtain⟨hc4,hf4,eQ⟩:=aj (N:=w.heap.size) hB hz3;clear hb hB)))
 go_quiet (fail)
 go_upto_region 20 with(first
  | (go_at_call 216;(with_reducible refine(kP (l:=path) (au.out.below (aO (ag _ _) _))).mono ?_);rintro e1 w1 ⟨⟨_|_,rfl,hb⟩,rfl⟩<;>(have Hp:=hide hb;clear hb))
  | (go_at_call 218;(with_reducible refine(dO 0 _ dW.out).mono ?_);rintro e1 w1 ⟨⟨_|_,rfl,hb⟩,rfl⟩<;>(have Ha:=hide hb;clear hb))
  | (go_at_call 218;(with_reducible refine(dO 0 _ bH.out).mono ?_);rintro e1 w1 ⟨⟨_|_,rfl,hb⟩,rfl⟩<;>(have Hf:=hide hb;clear hb))
  | (go_at_call 219;(with_reducible refine(dN {data:=#[]} _ (by decide) (af.out.below (aO (ag _ _) _))).mono ?_);rintro e1 w1 ⟨⟨_|_,rfl,hb⟩,hB⟩<;>first|(exact absurd (hb.mp (by first|rfl|trivial)) je)|(have Hn:=hide hb;have HB:=hide (ak (aO (ag _ _) _) hB);obtain⟨hc1,hf1,hz1⟩:=aj (N:=w.heap.size) hB (by simp);clear hb hB))
  | (go_at_call 219;(with_reducible refine(dN {data:=#[]} _ (by decide) (af.out.below HB.out)).mono ?_);rintro e1 w2 ⟨⟨_|_,rfl,hb⟩,hB⟩<;>first|(exact absurd (hb.mp (by first|rfl|trivial)) je)|(have Hm:=hide hb;have HB2:=hide (ak HB.out hB);obtain⟨hc2,hf2,hz2⟩:=aj (N:=w.heap.size) hB hz1;clear hb hB))
  | (go_at_call 220;(with_reducible refine(Ci (aU.out.below HB2.out) hc.1 hc.2 (af.out.below HB2.out)).mono ?_);rintro e1 w3 ⟨⟨_|_,rfl,hb⟩,hB⟩<;>first|(exact absurd (hb.mpr wE.out) (by decide))|(have di:=hide hb;have HB3:=hide (ak HB2.out hB);obtain⟨hc3,hf3,hz3⟩:=aj (N:=w.heap.size) hB hz2;clear hb hB))
  | (go_at_call 220;(with_reducible refine(Ci (aU.out.below HB.out) hc.1 hc.2 (af.out.below HB.out)).mono ?_);rintro e1 w3 ⟨⟨_|_,rfl,hb⟩,hB⟩<;>first|(exact absurd (hb.mpr wE.out) (by decide))|(have di:=hide hb;have HB3:=hide (ak HB.out hB);obtain⟨hc3,hf3,hz3⟩:=aj (N:=w.heap.size) hB hz1;clear hb hB))
  | (go_at_call 220;(with_reducible refine(Ci (bI.out.below HB3.out) hc2.1 hc2.2 (af.out.below HB3.out)).mono ?_);rintro e1 w4 ⟨⟨_|_,rfl,hb⟩,hB⟩<;>first|(exact absurd (hb.mpr nY.out) (by decide))|(have fD:=hide hb;have HB4:=hide (ak HB3.out hB);have dw:=fun(p:Addr) (h:p.block<w.heap.size)=>HB4.out.cell (p:=p) h;have SY:=(dw ⟨b,o,none⟩ hb0).trans X0.out;have Tc:=(dw ⟨b,o+1,none⟩ hb0).trans X1.out;have Td:=(dw ⟨b,o+2,none⟩ hb0).trans X2.out;have Tf:=(dw ⟨b,o+3,none⟩ hb0).trans X3.out;have Ti:=(dw ⟨b',o',none⟩ hb').trans Y0.out;have Tj:=(dw ⟨b',o'+1,none⟩ hb').trans Y1.out;have Tm:=(dw ⟨b',o'+2,none⟩ hb').trans Y2.out;have Tn:=(dw ⟨b',o'+3,none⟩ hb').trans Y3.out;clear dw;obtain⟨hc4,hf4,eQ⟩:=aj (N:=w.heap.size) hB hz3;clear hb hB)))
 all_goals(first|go_ret|(go_region_with (go_at_call 221;refine(Vr (f:=ks) (g:=wC) (fO.out.below HB4.out.drew) (EG.out.below HB4.out.drew) hle hle2).mono ?_;rintro e5 w5 ⟨⟨b5,rfl,hb⟩,hB⟩;have Hs:=hide hb;have dV:Hid (Below w.heap.size w w5):=hide (ak (w:=w) HB4.out.drew hB);clear hb hB);all_goals(go_wp2_with fail;go_ret)))
 all_goals go_tidy
 all_goals(try have hp:=Hp.out)
 all_goals(try have ha:=Ha.out)
 all_goals(try have hs:=Hs.out)
 all_goals refine⟨RetB.mk ?_,(by first|exact dV.out|exact xP HB4.out _|exact HB4.out|exact HB3.out|exact HB2.out|exact HB.out|exact aO (ag _ _) _)⟩
 all_goals rw[bK.out]
 all_goals have g1:PartOk (.cons k t n ks .nil):=wE.out
 all_goals have g2:PartOk (.cons k2 t2 n2 wC .nil):=nY.out
 all_goals clear bK af au dW bH aU bI fO EG X0 X1 X2 X3 Y0 Y1 Y2 Y3 wE nY
 all_goals(try clear HB4 SY Tc Td Tf Ti Tj Tm Tn)
 all_goals have n0:=zN
 all_goals simp
 all_goals have te:=uO
 all_goals have tp:path=[]↔((path.length:Int) == 0)=true:=by cases path<;>simp<;>omega
 all_goals grind
end
end Go.Proofs.YtjjaojnglnpgaaaGreatDoor
