/- Part 24 of what commuteFiles_cardUpto rests on. -/
import Derived.Test.YtialngdffhmobaaGreatDoorV11
import Derived.Test.YtialngdffhmobaaGreatDoorV00
set_option linter.unusedVariables false
set_option linter.unusedSimpArgs false
set_option maxHeartbeats 16000000
set_option maxRecDepth 1000000
namespace Go.Proofs.YtialngdffhmobaaGreatDoor
section
open Go.RowKit
theorem zT{S:Nat→Prop}{A:Option Addr}{c k:Nat}{t:ByteArray}{n:Int}{ks:Fo}{w:World}(hf:bu S w A (.cons k t n ks .nil))(hl:1≤c)(hc:c≤9223372036854775807)(htab:aW w):
  Calls Tryz.prog 109 #[.slice A 1 c] w fun e w'=>ay (gm 40 k t n ks) e∧Below w.heap.size w w':=iE hf hl hc htab
theorem MR{S:Nat→Prop}{pA A A2:Option Addr}{path:List Int}{n n2:Int}{k k2 pc c c2:Nat}{t t2:ByteArray}{ks wU:Fo}{w:World}(xg:IntsIn S w pA path)
  (hc:1≤c∧c≤9223372036854775807) (hc2:1≤c2∧c2≤9223372036854775807) (ho:bu S w A (.cons k t n ks .nil)) (hn:bu S w A2 (.cons k2 t2 n2 wU .nil)) (h1:gm 40 k t n ks) (h2:gm 40 k2 t2 n2 wU) (htab:aW w):
  Calls Tryz.prog 36 #[.agg #[.int .u8 4,.slice pA path.length pc,.int .i64 0,.int .i64 0,.string {data:=#[]},.string {data:=#[]},.slice A 1 c,.slice A2 1 c2]] w fun e1 w' =>
   ay (bQ ⟨4,path,0,0,aV,aV,.cons k t n ks .nil,.cons k2 t2 n2 wU .nil⟩) e1∧Below w.heap.size w w':=by
 have aS:Hid (aW w):=htab;have dm:=hide xg;have jO:Hid (aU 0):=hide (by unfold aU;omega);have fH:Hid (aU 0):=jO;have dn:=hide ho;have fJ:=hide hn;have zU:=hide h1;have Dy:=hide h2;have fQ:=hide (@EC ⟨4,path,0,0,aV,aV,.cons k t n ks .nil,.cons k2 t2 n2 wU .nil⟩);obtain⟨b,o,KA,c',rfl,hS,x0,x1,x2,x3,e1,e2,e3,e4,e5,hks,_⟩:=ho;obtain⟨b',o',jW,c'',rfl,hS',y0,y1,y2,y3,f1,f2,f3,f4,f5,fD,_⟩:=hn;have mW:=hide hks;have Bf:=hide fD;have hb0:=block_lt_of_cell x0;have hb':=block_lt_of_cell y0;have X0:=hide x0;have X1:=hide x1;have X2:=hide x2;have X3:=hide x3;have Y0:=hide y0;have Y1:=hide y1;have Y2:=hide y2;have Y3:=hide y3;have hle:=aI e4 e5;have hle2:=aI f4 f5;clear xg htab h1 h2 hks fD x0 x1 x2 x3 y0 y1 y2 y3 hS hS' e1 e2 e3 e4 e5 f1 f2 f3 f4 f5;go_enter Tryz.func36,Tryz.ntmps36
 go_wp2_with(first
  | (go_at_call 105;(with_reducible refine(oQ (l:=path) (dm.out.below (dM (bg _ _) _))).mono ?_);rintro e1 w1 ⟨⟨_|_,rfl,hb⟩,rfl⟩<;>(have Hp:=hide hb;clear hb))
  | (go_at_call 107;(with_reducible refine(jy 0 _ jO.out).mono ?_);rintro e1 w1 ⟨⟨_|_,rfl,hb⟩,rfl⟩<;>(have Ha:=hide hb;clear hb))
  | (go_at_call 107;(with_reducible refine(jy 0 _ fH.out).mono ?_);rintro e1 w1 ⟨⟨_|_,rfl,hb⟩,rfl⟩<;>(have Hf:=hide hb;clear hb))
  | (go_at_call 108;(with_reducible refine(jw {data:=#[]} _ (by decide) (aS.out.below (dM (bg _ _) _))).mono ?_);rintro e1 w1 ⟨⟨_|_,rfl,hb⟩,hB⟩<;>first|(exact absurd (hb.mp (by first|rfl|trivial)) zap)|(have Hn:=hide hb;have HB:=hide (aQ (dM (bg _ _) _) hB);obtain⟨hc1,hf1,hz1⟩:=aY (N:=w.heap.size) hB (by simp);clear hb hB))
  | (go_at_call 108;(with_reducible refine(jw {data:=#[]} _ (by decide) (aS.out.below HB.out)).mono ?_);rintro e1 w2 ⟨⟨_|_,rfl,hb⟩,hB⟩<;>first|(exact absurd (hb.mp (by first|rfl|trivial)) zap)|(have Hm:=hide hb;have HB2:=hide (aQ HB.out hB);obtain⟨hc2,hf2,hz2⟩:=aY (N:=w.heap.size) hB hz1;clear hb hB))
  | (go_at_call 109;(with_reducible refine(zT (dn.out.below HB2.out) hc.1 hc.2 (aS.out.below HB2.out)).mono ?_);rintro e1 w3 ⟨⟨_|_,rfl,hb⟩,hB⟩<;>first|(exact absurd (hb.mpr zU.out) (by decide))|(have gZ:=hide hb;have HB3:=hide (aQ HB2.out hB);obtain⟨hc3,hf3,hz3⟩:=aY (N:=w.heap.size) hB hz2;clear hb hB))
  | (go_at_call 109;(with_reducible refine(zT (dn.out.below HB.out) hc.1 hc.2 (aS.out.below HB.out)).mono ?_);rintro e1 w3 ⟨⟨_|_,rfl,hb⟩,hB⟩<;>first|(exact absurd (hb.mpr zU.out) (by decide))|(have gZ:=hide hb;have HB3:=hide (aQ HB.out hB);obtain⟨hc3,hf3,hz3⟩:=aY (N:=w.heap.size) hB hz1;clear hb hB))
  | (go_at_call 109;(with_reducible refine(zT (fJ.out.below HB3.out) hc2.1 hc2.2 (aS.out.below HB3.out)).mono ?_);rintro e1 w4 ⟨⟨_|_,rfl,hb⟩,hB⟩<;>first|(exact absurd (hb.mpr Dy.out) (by decide))|(have kz:=hide hb;have HB4:=hide (aQ HB3.out hB);have iw:=fun(p:Addr) (h:p.block<w.heap.size)=>HB4.out.cell (p:=p) h;have Jb:=(iw ⟨b,o,none⟩ hb0).trans X0.out;have Jc:=(iw ⟨b,o+1,none⟩ hb0).trans X1.out;have Jd:=(iw ⟨b,o+2,none⟩ hb0).trans X2.out;have Je:=(iw ⟨b,o+3,none⟩ hb0).trans X3.out;have Jf:=(iw ⟨b',o',none⟩ hb').trans Y0.out;have Jg:=(iw ⟨b',o'+1,none⟩ hb').trans Y1.out;have Jh:=(iw ⟨b',o'+2,none⟩ hb').trans Y2.out;have Ji:=(iw ⟨b',o'+3,none⟩ hb').trans Y3.out;clear iw;obtain⟨hc4,hf4,lI⟩:=aY (N:=w.heap.size) hB hz3;clear hb hB)))
 go_quiet (fail)
 go_upto_region 20 with(first
  | (go_at_call 105;(with_reducible refine(oQ (l:=path) (dm.out.below (dM (bg _ _) _))).mono ?_);rintro e1 w1 ⟨⟨_|_,rfl,hb⟩,rfl⟩<;>(have Hp:=hide hb;clear hb))
  | (go_at_call 107;(with_reducible refine(jy 0 _ jO.out).mono ?_);rintro e1 w1 ⟨⟨_|_,rfl,hb⟩,rfl⟩<;>(have Ha:=hide hb;clear hb))
  | (go_at_call 107;(with_reducible refine(jy 0 _ fH.out).mono ?_);rintro e1 w1 ⟨⟨_|_,rfl,hb⟩,rfl⟩<;>(have Hf:=hide hb;clear hb))
  | (go_at_call 108;(with_reducible refine(jw {data:=#[]} _ (by decide) (aS.out.below (dM (bg _ _) _))).mono ?_);rintro e1 w1 ⟨⟨_|_,rfl,hb⟩,hB⟩<;>first|(exact absurd (hb.mp (by first|rfl|trivial)) zap)|(have Hn:=hide hb;have HB:=hide (aQ (dM (bg _ _) _) hB);obtain⟨hc1,hf1,hz1⟩:=aY (N:=w.heap.size) hB (by simp);clear hb hB))
  | (go_at_call 108;(with_reducible refine(jw {data:=#[]} _ (by decide) (aS.out.below HB.out)).mono ?_);rintro e1 w2 ⟨⟨_|_,rfl,hb⟩,hB⟩<;>first|(exact absurd (hb.mp (by first|rfl|trivial)) zap)|(have Hm:=hide hb;have HB2:=hide (aQ HB.out hB);obtain⟨hc2,hf2,hz2⟩:=aY (N:=w.heap.size) hB hz1;clear hb hB))
  | (go_at_call 109;(with_reducible refine(zT (dn.out.below HB2.out) hc.1 hc.2 (aS.out.below HB2.out)).mono ?_);rintro e1 w3 ⟨⟨_|_,rfl,hb⟩,hB⟩<;>first|(exact absurd (hb.mpr zU.out) (by decide))|(have gZ:=hide hb;have HB3:=hide (aQ HB2.out hB);obtain⟨hc3,hf3,hz3⟩:=aY (N:=w.heap.size) hB hz2;clear hb hB))
  | (go_at_call 109;(with_reducible refine(zT (dn.out.below HB.out) hc.1 hc.2 (aS.out.below HB.out)).mono ?_);rintro e1 w3 ⟨⟨_|_,rfl,hb⟩,hB⟩<;>first|(exact absurd (hb.mpr zU.out) (by decide))|(have gZ:=hide hb;have HB3:=hide (aQ HB.out hB);obtain⟨hc3,hf3,hz3⟩:=aY (N:=w.heap.size) hB hz1;clear hb hB))
  | (go_at_call 109;(with_reducible refine(zT (fJ.out.below HB3.out) hc2.1 hc2.2 (aS.out.below HB3.out)).mono ?_);rintro e1 w4 ⟨⟨_|_,rfl,hb⟩,hB⟩<;>first|(exact absurd (hb.mpr Dy.out) (by decide))|(have kz:=hide hb;have HB4:=hide (aQ HB3.out hB);have iw:=fun(p:Addr) (h:p.block<w.heap.size)=>HB4.out.cell (p:=p) h;have Jb:=(iw ⟨b,o,none⟩ hb0).trans X0.out;have Jc:=(iw ⟨b,o+1,none⟩ hb0).trans X1.out;have Jd:=(iw ⟨b,o+2,none⟩ hb0).trans X2.out;have Je:=(iw ⟨b,o+3,none⟩ hb0).trans X3.out;have Jf:=(iw ⟨b',o',none⟩ hb').trans Y0.out;have Jg:=(iw ⟨b',o'+1,none⟩ hb').trans Y1.out;have Jh:=(iw ⟨b',o'+2,none⟩ hb').trans Y2.out;have Ji:=(iw ⟨b',o'+3,none⟩ hb').trans Y3.out;clear iw;obtain⟨hc4,hf4,lI⟩:=aY (N:=w.heap.size) hB hz3;clear hb hB)))
 all_goals(first|go_ret|(go_region_with (go_at_call 110;refine(Ld (f:=ks) (g:=wU) (mW.out.below HB4.out.drew) (Bf.out.below HB4.out.drew) hle hle2).mono ?_;rintro e5 w5 ⟨⟨b5,rfl,hb⟩,hB⟩;have Hs:=hide hb;have iV:Hid (Below w.heap.size w w5):=hide (aQ (w:=w) HB4.out.drew hB);clear hb hB);all_goals(go_wp2_with fail;go_ret)))
 all_goals go_tidy
 all_goals(try have hp:=Hp.out)
 all_goals(try have ha:=Ha.out)
 all_goals(try have hs:=Hs.out)
 all_goals refine⟨ay.mk ?_,(by first|exact iV.out|exact qX HB4.out _|exact HB4.out|exact HB3.out|exact HB2.out|exact HB.out|exact dM (bg _ _) _)⟩
 all_goals rw[fQ.out]
 all_goals have g1:dD (.cons k t n ks .nil):=zU.out
 all_goals have g2:dD (.cons k2 t2 n2 wU .nil):=Dy.out
 all_goals clear fQ aS dm jO fH dn fJ mW Bf X0 X1 X2 X3 Y0 Y1 Y2 Y3 zU Dy
 all_goals(try clear HB4 Jb Jc Jd Je Jf Jg Jh Ji)
 all_goals have n0:=yh
 all_goals simp
 all_goals have te:=uJ
 all_goals have tp:path=[]↔((path.length:Int) == 0)=true:=by cases path<;>simp<;>omega
 all_goals grind
end
end Go.Proofs.YtialngdffhmobaaGreatDoor
