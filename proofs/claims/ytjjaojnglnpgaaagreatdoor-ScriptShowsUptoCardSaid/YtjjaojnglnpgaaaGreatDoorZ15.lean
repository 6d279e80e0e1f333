/- Part 16 of what scriptShows_cardUpto rests on. -/
import Derived.Test.YtjjaojnglnpgaaaGreatDoorZ12
import Derived.Test.YtjjaojnglnpgaaaGreatDoorZ00
set_option linter.unusedVariables false
set_option linter.unusedSimpArgs false
set_option maxHeartbeats 16000000
set_option maxRecDepth 1000000
namespace Go.Proofs.YtjjaojnglnpgaaaGreatDoor
section
open Go.RowKit
theorem Iz{S:Nat→Prop}{A:Option Addr}{c k:Nat}{t:ByteArray}{n:Int}{ks:Fo}{w:World}(hf:bG S w A (.cons k t n ks .nil))(hl:1≤c)(hc:c≤9223372036854775807)(htab:bF w):
  Calls Tryz.prog 220 #[.slice A 1 c] w fun e w'=>ah (dR 40 k t n ks) e∧Below w.heap.size w w':=jy hf hl hc htab
theorem Zq{S:Nat→Prop}{pA A A2:Option Addr}{path:List Int}{n n2:Int}{k k2 pc c c2:Nat}{t t2:ByteArray}{ks BN:Fo}{w:World}(D8:IntsIn S w pA path)
  (hc:1≤c∧c≤9223372036854775807) (hc2:1≤c2∧c2≤9223372036854775807) (ho:bG S w A (.cons k t n ks .nil)) (hn:bG S w A2 (.cons k2 t2 n2 BN .nil)) (h1:dR 40 k t n ks) (h2:dR 40 k2 t2 n2 BN) (htab:bF w):
  Calls Tryz.prog 173 #[.agg #[.int .u8 4,.slice pA path.length pc,.int .i64 0,.int .i64 0,.string {data:=#[]},.string {data:=#[]},.slice A 1 c,.slice A2 1 c2]] w fun e1 w' =>
   ah (dC ⟨4,path,0,0,ae,ae,.cons k t n ks .nil,.cons k2 t2 n2 BN .nil⟩) e1∧Below w.heap.size w w':=by
 have aN:Hid (bF w):=htab;have bC:=hide D8;have jO:Hid (ai 0):=hide (by unfold ai;omega);have gq:Hid (ai 0):=jO;have dH:=hide ho;have gu:=hide hn;have IA:=hide h1;have NP:=hide h2;have gK:=hide (@Qu ⟨4,path,0,0,ae,ae,.cons k t n ks .nil,.cons k2 t2 n2 BN .nil⟩);obtain⟨b,o,KA,c',rfl,hS,x0,x1,x2,x3,e1,e2,e3,e4,e5,hks,_⟩:=ho;obtain⟨b',o',nD,c'',rfl,hS',y0,y1,y2,y3,f1,f2,f3,f4,f5,fJ,_⟩:=hn;have kT:=hide hks;have JP:=hide fJ;have hb0:=block_lt_of_cell x0;have hb':=block_lt_of_cell y0;have X0:=hide x0;have X1:=hide x1;have X2:=hide x2;have X3:=hide x3;have Y0:=hide y0;have Y1:=hide y1;have Y2:=hide y2;have Y3:=hide y3;have hle:=aI e4 e5;have hle2:=aI f4 f5;clear D8 htab h1 h2 hks fJ x0 x1 x2 x3 y0 y1 y2 y3 hS hS' e1 e2 e3 e4 e5 f1 f2 f3 f4 f5;go_enter Tryz.func173,Tryz.ntmps173
 go_wp2_with(first
  | (go_at_call 216;(with_reducible refine(qR (l:=path) (bC.out.below (di (az _ _) _))).mono ?_);rintro e1 w1 ⟨⟨_|_,rfl,hb⟩,rfl⟩<;>(have Hp:=hide hb;clear hb))
  | (go_at_call 218;(with_reducible refine(kJ 0 _ jO.out).mono ?_);rintro e1 w1 ⟨⟨_|_,rfl,hb⟩,rfl⟩<;>(have Ha:=hide hb;clear hb))
  | (go_at_call 218;(with_reducible refine(kJ 0 _ gq.out).mono ?_);rintro e1 w1 ⟨⟨_|_,rfl,hb⟩,rfl⟩<;>(have Hf:=hide hb;clear hb))
  | (go_at_call 219;(with_reducible refine(kH {data:=#[]} _ (by decide) (aN.out.below (di (az _ _) _))).mono ?_);rintro e1 w1 ⟨⟨_|_,rfl,hb⟩,hB⟩<;>first|(exact absurd (hb.mp (by first|rfl|trivial)) zap)|(have Hn:=hide hb;have HB:=hide (aW (di (az _ _) _) hB);obtain⟨hc1,hf1,hz1⟩:=bz (N:=w.heap.size) hB (by simp);clear hb hB))
  | (go_at_call 219;(with_reducible refine(kH {data:=#[]} _ (by decide) (aN.out.below HB.out)).mono ?_);rintro e1 w2 ⟨⟨_|_,rfl,hb⟩,hB⟩<;>first|(exact absurd (hb.mp (by first|rfl|trivial)) zap)|(have Hm:=hide hb;have HB2:=hide (aW HB.out hB);obtain⟨hc2,hf2,hz2⟩:=bz (N:=w.heap.size) hB hz1;clear hb hB))
  | (go_at_call 220;(with_reducible refine(Iz (dH.out.below HB2.out) hc.1 hc.2 (aN.out.below HB2.out)).mono ?_);rintro e1 w3 ⟨⟨_|_,rfl,hb⟩,hB⟩<;>first|(exact absurd (hb.mpr IA.out) (by decide))|(have jd:=hide hb;have HB3:=hide (aW HB2.out hB);obtain⟨hc3,hf3,hz3⟩:=bz (N:=w.heap.size) hB hz2;clear hb hB))
  | (go_at_call 220;(with_reducible refine(Iz (dH.out.below HB.out) hc.1 hc.2 (aN.out.below HB.out)).mono ?_);rintro e1 w3 ⟨⟨_|_,rfl,hb⟩,hB⟩<;>first|(exact absurd (hb.mpr IA.out) (by decide))|(have jd:=hide hb;have HB3:=hide (aW HB.out hB);obtain⟨hc3,hf3,hz3⟩:=bz (N:=w.heap.size) hB hz1;clear hb hB))
  | (go_at_call 220;(with_reducible refine(Iz (gu.out.below HB3.out) hc2.1 hc2.2 (aN.out.below HB3.out)).mono ?_);rintro e1 w4 ⟨⟨_|_,rfl,hb⟩,hB⟩<;>first|(exact absurd (hb.mpr NP.out) (by decide))|(have lY:=hide hb;have HB4:=hide (aW HB3.out hB);have ji:=fun(p:Addr) (h:p.block<w.heap.size)=>HB4.out.cell (p:=p) h;have VJ:=(ji ⟨b,o,none⟩ hb0).trans X0.out;have VK:=(ji ⟨b,o+1,none⟩ hb0).trans X1.out;have VL:=(ji ⟨b,o+2,none⟩ hb0).trans X2.out;have VM:=(ji ⟨b,o+3,none⟩ hb0).trans X3.out;have VN:=(ji ⟨b',o',none⟩ hb').trans Y0.out;have VO:=(ji ⟨b',o'+1,none⟩ hb').trans Y1.out;have VP:=(ji ⟨b',o'+2,none⟩ hb').trans Y2.out;have VQ:=(ji ⟨b',o'+3,none⟩ hb').trans Y3.out;clear ji;obtain⟨hc4,hf4,kU⟩:=bz (N:=w.heap.size) hB hz3;clear hb hB)))
 go_quiet (fail)
 go_upto_region 20 with(first
  | (go_at_call 216;(with_reducible refine(qR (l:=path) (bC.out.below (di (az _ _) _))).mono ?_);rintro e1 w1 ⟨⟨_|_,rfl,hb⟩,rfl⟩<;>(have Hp:=hide hb;clear hb))
  | (go_at_call 218;(with_reducible refine(kJ 0 _ jO.out).mono ?_);rintro e1 w1 ⟨⟨_|_,rfl,hb⟩,rfl⟩<;>(have Ha:=hide hb;clear hb))
  | (go_at_call 218;(with_reducible refine(kJ 0 _ gq.out).mono ?_);rintro e1 w1 ⟨⟨_|_,rfl,hb⟩,rfl⟩<;>(have Hf:=hide hb;clear hb))
  | (go_at_call 219;(with_reducible refine(kH {data:=#[]} _ (by decide) (aN.out.below (di (az _ _) _))).mono ?_);rintro e1 w1 ⟨⟨_|_,rfl,hb⟩,hB⟩<;>first|(exact absurd (hb.mp (by first|rfl|trivial)) zap)|(have Hn:=hide hb;have HB:=hide (aW (di (az _ _) _) hB);obtain⟨hc1,hf1,hz1⟩:=bz (N:=w.heap.size) hB (by simp);clear hb hB))
  | (go_at_call 219;(with_reducible refine(kH {data:=#[]} _ (by decide) (aN.out.below HB.out)).mono ?_);rintro e1 w2 ⟨⟨_|_,rfl,hb⟩,hB⟩<;>first|(exact absurd (hb.mp (by first|rfl|trivial)) zap)|(have Hm:=hide hb;have HB2:=hide (aW HB.out hB);obtain⟨hc2,hf2,hz2⟩:=bz (N:=w.heap.size) hB hz1;clear hb hB))
  | (go_at_call 220;(with_reducible refine(Iz (dH.out.below HB2.out) hc.1 hc.2 (aN.out.below HB2.out)).mono ?_);rintro e1 w3 ⟨⟨_|_,rfl,hb⟩,hB⟩<;>first|(exact absurd (hb.mpr IA.out) (by decide))|(have jd:=hide hb;have HB3:=hide (aW HB2.out hB);obtain⟨hc3,hf3,hz3⟩:=bz (N:=w.heap.size) hB hz2;clear hb hB))
  | (go_at_call 220;(with_reducible refine(Iz (dH.out.below HB.out) hc.1 hc.2 (aN.out.below HB.out)).mono ?_);rintro e1 w3 ⟨⟨_|_,rfl,hb⟩,hB⟩<;>first|(exact absurd (hb.mpr IA.out) (by decide))|(have jd:=hide hb;have HB3:=hide (aW HB.out hB);obtain⟨hc3,hf3,hz3⟩:=bz (N:=w.heap.size) hB hz1;clear hb hB))
  | (go_at_call 220;(with_reducible refine(Iz (gu.out.below HB3.out) hc2.1 hc2.2 (aN.out.below HB3.out)).mono ?_);rintro e1 w4 ⟨⟨_|_,rfl,hb⟩,hB⟩<;>first|(exact absurd (hb.mpr NP.out) (by decide))|(have lY:=hide hb;have HB4:=hide (aW HB3.out hB);have ji:=fun(p:Addr) (h:p.block<w.heap.size)=>HB4.out.cell (p:=p) h;have VJ:=(ji ⟨b,o,none⟩ hb0).trans X0.out;have VK:=(ji ⟨b,o+1,none⟩ hb0).trans X1.out;have VL:=(ji ⟨b,o+2,none⟩ hb0).trans X2.out;have VM:=(ji ⟨b,o+3,none⟩ hb0).trans X3.out;have VN:=(ji ⟨b',o',none⟩ hb').trans Y0.out;have VO:=(ji ⟨b',o'+1,none⟩ hb').trans Y1.out;have VP:=(ji ⟨b',o'+2,none⟩ hb').trans Y2.out;have VQ:=(ji ⟨b',o'+3,none⟩ hb').trans Y3.out;clear ji;obtain⟨hc4,hf4,kU⟩:=bz (N:=w.heap.size) hB hz3;clear hb hB)))
 all_goals(first|go_ret|(go_region_with (go_at_call 221;refine(XV (f:=ks) (g:=BN) (kT.out.below HB4.out.drew) (JP.out.below HB4.out.drew) hle hle2).mono ?_;rintro e5 w5 ⟨⟨b5,rfl,hb⟩,hB⟩;have Hs:=hide hb;have iE:Hid (Below w.heap.size w w5):=hide (aW (w:=w) HB4.out.drew hB);clear hb hB);all_goals(go_wp2_with fail;go_ret)))
 all_goals go_tidy
 all_goals(try have hp:=Hp.out)
 all_goals(try have ha:=Ha.out)
 all_goals(try have hs:=Hs.out)
 all_goals refine⟨ah.mk ?_,(by first|exact iE.out|exact Dx HB4.out _|exact HB4.out|exact HB3.out|exact HB2.out|exact HB.out|exact di (az _ _) _)⟩
 all_goals rw[gK.out]
 all_goals have g1:bD (.cons k t n ks .nil):=IA.out
 all_goals have g2:bD (.cons k2 t2 n2 BN .nil):=NP.out
 all_goals clear gK aN bC jO gq dH gu kT JP X0 X1 X2 X3 Y0 Y1 Y2 Y3 IA NP
 all_goals(try clear HB4 VJ VK VL VM VN VO VP VQ)
 all_goals have n0:=FO
 all_goals simp
 all_goals have te:=Ak
 all_goals have tp:path=[]↔((path.length:Int) == 0)=true:=by cases path<;>simp<;>omega
 all_goals grind
end
end Go.Proofs.YtjjaojnglnpgaaaGreatDoor
