/- Part 21 of what mgTop rests on. -/
import Derived.Test.YtialngdffhmobaaGreatDoorU09
import Derived.Test.YtialngdffhmobaaGreatDoorU00
set_option linter.unusedVariables false
set_option linter.unusedSimpArgs false
set_option maxHeartbeats 16000000
set_option maxRecDepth 1000000
namespace Go.Proofs.YtialngdffhmobaaGreatDoor
section
open Go.RowKit
theorem part_one{S:Nat→Prop}{A:Option Addr}{c k:Nat}{t:ByteArray}{n:Int}{ks:Fo}{w:World}(hf:FoIn S w A (.cons k t n ks .nil))(hl:1≤c)(hc:c≤9223372036854775807)(htab:TabOk w):
  Calls Tryz.prog 109 #[.slice A 1 c] w fun e w'=>RetB (NodeOk 40 k t n ks) e∧Below w.heap.size w w':=part_any hf hl hc htab
theorem edRight_4c{S:Nat→Prop}{pA A A2:Option Addr}{path:List Int}{n n2:Int}{k k2 pc c c2:Nat}{t t2:ByteArray}{ks ks2:Fo}{w:World}(hpath:IntsIn S w pA path)
  (hc:1≤c∧c≤9223372036854775807) (hc2:1≤c2∧c2≤9223372036854775807) (ho:FoIn S w A (.cons k t n ks .nil)) (hn:FoIn S w A2 (.cons k2 t2 n2 ks2 .nil)) (h1:NodeOk 40 k t n ks) (h2:NodeOk 40 k2 t2 n2 ks2) (htab:TabOk w):
  Calls Tryz.prog 36 #[.agg #[.int .u8 4,.slice pA path.length pc,.int .i64 0,.int .i64 0,.string {data:=#[]},.string {data:=#[]},.slice A 1 c,.slice A2 1 c2]] w fun e1 w' =>
   RetB (EdOk ⟨4,path,0,0,noTxt,noTxt,.cons k t n ks .nil,.cons k2 t2 n2 ks2 .nil⟩) e1∧Below w.heap.size w w':=by
 have Htab:Hid (TabOk w):=htab;have Hpath:=hide hpath;have Hat:Hid (isInt64 0):=hide (by unfold isInt64;omega);have Hfar:Hid (isInt64 0):=Hat;have Hold:=hide ho;have Hnew:=hide hn;have Hh1:=hide h1;have Hh2:=hide h2;have Hok:=hide (@edOk_iff_4 ⟨4,path,0,0,noTxt,noTxt,.cons k t n ks .nil,.cons k2 t2 n2 ks2 .nil⟩);obtain⟨b,o,KA,c',rfl,hS,x0,x1,x2,x3,e1,e2,e3,e4,e5,hks,_⟩:=ho;obtain⟨b',o',KA',c'',rfl,hS',y0,y1,y2,y3,f1,f2,f3,f4,f5,hks',_⟩:=hn;have Hks:=hide hks;have Hks2:=hide hks';have hb0:=block_lt_of_cell x0;have hb':=block_lt_of_cell y0;have X0:=hide x0;have X1:=hide x1;have X2:=hide x2;have X3:=hide x3;have Y0:=hide y0;have Y1:=hide y1;have Y2:=hide y2;have Y3:=hide y3;have hle:=Nat.le_trans e4 e5;have hle2:=Nat.le_trans f4 f5;clear hpath htab h1 h2 hks hks' x0 x1 x2 x3 y0 y1 y2 y3 hS hS' e1 e2 e3 e4 e5 f1 f2 f3 f4 f5;go_enter Tryz.func36,Tryz.ntmps36
 go_wp2_with(first
  | (go_at_call 105;(with_reducible refine(hasNumber_any (l:=path) (Hpath.out.below (blw_drewN (below_alloc _ _) _))).mono ?_);rintro e1 w1 ⟨⟨_|_,rfl,hb⟩,rfl⟩<;>(have Hp:=hide hb;clear hb))
  | (go_at_call 107;(with_reducible refine(number_any 0 _ Hat.out).mono ?_);rintro e1 w1 ⟨⟨_|_,rfl,hb⟩,rfl⟩<;>(have Ha:=hide hb;clear hb))
  | (go_at_call 107;(with_reducible refine(number_any 0 _ Hfar.out).mono ?_);rintro e1 w1 ⟨⟨_|_,rfl,hb⟩,rfl⟩<;>(have Hf:=hide hb;clear hb))
  | (go_at_call 108;(with_reducible refine(lexName_any {data:=#[]} _ (by decide) (Htab.out.below (blw_drewN (below_alloc _ _) _))).mono ?_);rintro e1 w1 ⟨⟨_|_,rfl,hb⟩,hB⟩<;>first|(exact absurd (hb.mp (by first|rfl|trivial)) lexName_noTxt)|(have Hn:=hide hb;have HB:=hide (blw_up (blw_drewN (below_alloc _ _) _) hB);obtain⟨hc1,hf1,hz1⟩:=bbox (N:=w.heap.size) hB (by simp);clear hb hB))
  | (go_at_call 108;(with_reducible refine(lexName_any {data:=#[]} _ (by decide) (Htab.out.below HB.out)).mono ?_);rintro e1 w2 ⟨⟨_|_,rfl,hb⟩,hB⟩<;>first|(exact absurd (hb.mp (by first|rfl|trivial)) lexName_noTxt)|(have Hm:=hide hb;have HB2:=hide (blw_up HB.out hB);obtain⟨hc2,hf2,hz2⟩:=bbox (N:=w.heap.size) hB hz1;clear hb hB))
  | (go_at_call 109;(with_reducible refine(part_one (Hold.out.below HB2.out) hc.1 hc.2 (Htab.out.below HB2.out)).mono ?_);rintro e1 w3 ⟨⟨_|_,rfl,hb⟩,hB⟩<;>first|(exact absurd (hb.mpr Hh1.out) (by decide))|(have Hpo:=hide hb;have HB3:=hide (blw_up HB2.out hB);obtain⟨hc3,hf3,hz3⟩:=bbox (N:=w.heap.size) hB hz2;clear hb hB))
  | (go_at_call 109;(with_reducible refine(part_one (Hold.out.below HB.out) hc.1 hc.2 (Htab.out.below HB.out)).mono ?_);rintro e1 w3 ⟨⟨_|_,rfl,hb⟩,hB⟩<;>first|(exact absurd (hb.mpr Hh1.out) (by decide))|(have Hpo:=hide hb;have HB3:=hide (blw_up HB.out hB);obtain⟨hc3,hf3,hz3⟩:=bbox (N:=w.heap.size) hB hz1;clear hb hB))
  | (go_at_call 109;(with_reducible refine(part_one (Hnew.out.below HB3.out) hc2.1 hc2.2 (Htab.out.below HB3.out)).mono ?_);rintro e1 w4 ⟨⟨_|_,rfl,hb⟩,hB⟩<;>first|(exact absurd (hb.mpr Hh2.out) (by decide))|(have Hpn:=hide hb;have HB4:=hide (blw_up HB3.out hB);have hB4c:=fun(p:Addr) (h:p.block<w.heap.size)=>HB4.out.cell (p:=p) h;have zx0:=(hB4c ⟨b,o,none⟩ hb0).trans X0.out;have zx1:=(hB4c ⟨b,o+1,none⟩ hb0).trans X1.out;have zx2:=(hB4c ⟨b,o+2,none⟩ hb0).trans X2.out;have zx3:=(hB4c ⟨b,o+3,none⟩ hb0).trans X3.out;have zy0:=(hB4c ⟨b',o',none⟩ hb').trans Y0.out;have zy1:=(hB4c ⟨b',o'+1,none⟩ hb').trans Y1.out;have zy2:=(hB4c ⟨b',o'+2,none⟩ hb').trans Y2.out;have zy3:=(hB4c ⟨b',o'+3,none⟩ hb').trans Y3.out;clear hB4c;obtain⟨hc4,hf4,hz4⟩:=bbox (N:=w.heap.size) hB hz3;clear hb hB)))
 go_quiet (fail)
 go_upto_region 20 with(first
  | (go_at_call 105;(with_reducible refine(hasNumber_any (l:=path) (Hpath.out.below (blw_drewN (below_alloc _ _) _))).mono ?_);rintro e1 w1 ⟨⟨_|_,rfl,hb⟩,rfl⟩<;>(have Hp:=hide hb;clear hb))
  | (go_at_call 107;(with_reducible refine(number_any 0 _ Hat.out).mono ?_);rintro e1 w1 ⟨⟨_|_,rfl,hb⟩,rfl⟩<;>(have Ha:=hide hb;clear hb))
  | (go_at_call 107;(with_reducible refine(number_any 0 _ Hfar.out).mono ?_);rintro e1 w1 ⟨⟨_|_,rfl,hb⟩,rfl⟩<;>(have Hf:=hide hb;clear hb))
  | (go_at_call 108;(with_reducible refine(lexName_any {data:=#[]} _ (by decide) (Htab.out.below (blw_drewN (below_alloc _ _) _))).mono ?_);rintro e1 w1 ⟨⟨_|_,rfl,hb⟩,hB⟩<;>first|(exact absurd (hb.mp (by first|rfl|trivial)) lexName_noTxt)|(have Hn:=hide hb;have HB:=hide (blw_up (blw_drewN (below_alloc _ _) _) hB);obtain⟨hc1,hf1,hz1⟩:=bbox (N:=w.heap.size) hB (by simp);clear hb hB))
  | (go_at_call 108;(with_reducible refine(lexName_any {data:=#[]} _ (by decide) (Htab.out.below HB.out)).mono ?_);rintro e1 w2 ⟨⟨_|_,rfl,hb⟩,hB⟩<;>first|(exact absurd (hb.mp (by first|rfl|trivial)) lexName_noTxt)|(have Hm:=hide hb;have HB2:=hide (blw_up HB.out hB);obtain⟨hc2,hf2,hz2⟩:=bbox (N:=w.heap.size) hB hz1;clear hb hB))
  | (go_at_call 109;(with_reducible refine(part_one (Hold.out.below HB2.out) hc.1 hc.2 (Htab.out.below HB2.out)).mono ?_);rintro e1 w3 ⟨⟨_|_,rfl,hb⟩,hB⟩<;>first|(exact absurd (hb.mpr Hh1.out) (by decide))|(have Hpo:=hide hb;have HB3:=hide (blw_up HB2.out hB);obtain⟨hc3,hf3,hz3⟩:=bbox (N:=w.heap.size) hB hz2;clear hb hB))
  | (go_at_call 109;(with_reducible refine(part_one (Hold.out.below HB.out) hc.1 hc.2 (Htab.out.below HB.out)).mono ?_);rintro e1 w3 ⟨⟨_|_,rfl,hb⟩,hB⟩<;>first|(exact absurd (hb.mpr Hh1.out) (by decide))|(have Hpo:=hide hb;have HB3:=hide (blw_up HB.out hB);obtain⟨hc3,hf3,hz3⟩:=bbox (N:=w.heap.size) hB hz1;clear hb hB))
  | (go_at_call 109;(with_reducible refine(part_one (Hnew.out.below HB3.out) hc2.1 hc2.2 (Htab.out.below HB3.out)).mono ?_);rintro e1 w4 ⟨⟨_|_,rfl,hb⟩,hB⟩<;>first|(exact absurd (hb.mpr Hh2.out) (by decide))|(have Hpn:=hide hb;have HB4:=hide (blw_up HB3.out hB);have hB4c:=fun(p:Addr) (h:p.block<w.heap.size)=>HB4.out.cell (p:=p) h;have zx0:=(hB4c ⟨b,o,none⟩ hb0).trans X0.out;have zx1:=(hB4c ⟨b,o+1,none⟩ hb0).trans X1.out;have zx2:=(hB4c ⟨b,o+2,none⟩ hb0).trans X2.out;have zx3:=(hB4c ⟨b,o+3,none⟩ hb0).trans X3.out;have zy0:=(hB4c ⟨b',o',none⟩ hb').trans Y0.out;have zy1:=(hB4c ⟨b',o'+1,none⟩ hb').trans Y1.out;have zy2:=(hB4c ⟨b',o'+2,none⟩ hb').trans Y2.out;have zy3:=(hB4c ⟨b',o'+3,none⟩ hb').trans Y3.out;clear hB4c;obtain⟨hc4,hf4,hz4⟩:=bbox (N:=w.heap.size) hB hz3;clear hb hB)))
 all_goals(first|go_ret|(go_region_with (go_at_call 110;refine(treeSame_any (f:=ks) (g:=ks2) (Hks.out.below HB4.out.drew) (Hks2.out.below HB4.out.drew) hle hle2).mono ?_;rintro e5 w5 ⟨⟨b5,rfl,hb⟩,hB⟩;have Hs:=hide hb;have HB5:Hid (Below w.heap.size w w5):=hide (blw_up (w:=w) HB4.out.drew hB);clear hb hB);all_goals(go_wp2_with fail;go_ret)))
 all_goals go_tidy
 all_goals(try have hp:=Hp.out)
 all_goals(try have ha:=Ha.out)
 all_goals(try have hs:=Hs.out)
 all_goals refine⟨RetB.mk ?_,(by first|exact HB5.out|exact below_drewN HB4.out _|exact HB4.out|exact HB3.out|exact HB2.out|exact HB.out|exact blw_drewN (below_alloc _ _) _)⟩
 all_goals rw[Hok.out]
 all_goals have g1:PartOk (.cons k t n ks .nil):=Hh1.out
 all_goals have g2:PartOk (.cons k2 t2 n2 ks2 .nil):=Hh2.out
 all_goals clear Hok Htab Hpath Hat Hfar Hold Hnew Hks Hks2 X0 X1 X2 X3 Y0 Y1 Y2 Y3 Hh1 Hh2
 all_goals(try clear HB4 zx0 zx1 zx2 zx3 zy0 zy1 zy2 zy3)
 all_goals have n0:=number0
 all_goals simp
 all_goals have te:=txt_nil
 all_goals have tp:path=[]↔((path.length:Int) == 0)=true:=by cases path<;>simp<;>omega
 all_goals grind
end
end Go.Proofs.YtialngdffhmobaaGreatDoor
