/- Part 19 of what mgTop rests on. -/
import Derived.Test.YtialngdffhmobaaGreatDoorU09
import Derived.Test.YtialngdffhmobaaGreatDoorU00
set_option linter.unusedVariables false
set_option linter.unusedSimpArgs false
set_option maxHeartbeats 16000000
set_option maxRecDepth 1000000
namespace Go.Proofs.YtialngdffhmobaaGreatDoor
section
open Go.RowKit
theorem edRight_1{S:Nat→Prop}{x:Eh}{e:Ed}{w:World}(he:EdIn S w x e)(htab:TabOk w)(hsum:e.frm.size+e.to.size≤9223372036854775807):
  Calls Tryz.prog 36 #[.agg #[.int .u8 1,.slice x.pA e.path.length x.pc,.int .i64 e.at_,.int .i64 e.far,.string e.frm,.string e.to,.slice x.oA e.old.len x.oc,.slice x.nA e.new.len x.nc]] w fun e1 w'=>RetB (EdOk {e with kind:=1}) e1∧Below w.heap.size w w':=by
 have Htab:Hid (TabOk w):=htab;have Hpath:=hide he.path;have Hat:=hide he.at_;have Hfar:=hide he.far;have hfrm:=he.frm;have hto:=he.to;have Hold:=hide he.old;have Hnew:=hide he.new;have hold:=he.oc;have hnew:=he.nc;have Hok:=hide (@edOk_iff_1 e);clear he htab;go_enter Tryz.func36,Tryz.ntmps36
 go_wp2_with(first
  | (go_at_call 105;(with_reducible refine(hasNumber_any (l:=e.path) (Hpath.out.below (blw_drewN (below_alloc _ _) _))).mono ?_);rintro e1 w1 ⟨⟨_|_,rfl,hb⟩,rfl⟩<;>(have Hp:=hide hb;clear hb))
  | (go_at_call 107;(with_reducible refine(number_any e.at_ _ Hat.out).mono ?_);rintro e1 w1 ⟨⟨_|_,rfl,hb⟩,rfl⟩<;>(have Ha:=hide hb;clear hb))
  | (go_at_call 107;(with_reducible refine(number_any e.far _ Hfar.out).mono ?_);rintro e1 w1 ⟨⟨_|_,rfl,hb⟩,rfl⟩<;>(have Hf:=hide hb;clear hb))
  | (go_at_call 108;(with_reducible refine(lexName_any e.frm _ hfrm (Htab.out.below (blw_drewN (below_alloc _ _) _))).mono ?_);rintro e1 w1 ⟨⟨_|_,rfl,hb⟩,hB⟩<;>(have Hn:=hide hb;have HB:=hide (blw_up (blw_drewN (below_alloc _ _) _) hB);obtain⟨hc1,hf1,hz1⟩:=bbox (N:=w.heap.size) hB (by simp);clear hb hB))
  | (go_at_call 108;(with_reducible refine(lexName_any e.to _ hto (Htab.out.below HB.out)).mono ?_);rintro e1 w2 ⟨⟨_|_,rfl,hb⟩,hB⟩<;>(have Hm:=hide hb;have HB2:=hide (blw_up HB.out hB);obtain⟨hc2,hf2,hz2⟩:=bbox (N:=w.heap.size) hB hz1;clear hb hB))
  | (go_at_call 109;(with_reducible refine(part_any (f:=e.old) (Hold.out.below HB2.out) hold.1 hold.2 (Htab.out.below HB2.out)).mono ?_);rintro e1 w3 ⟨⟨_|_,rfl,hb⟩,hB⟩<;>(have Hpo:=hide hb;have HB3:=hide (blw_up HB2.out hB);obtain⟨hc3,hf3,hz3⟩:=bbox (N:=w.heap.size) hB hz2;clear hb hB))
  | (go_at_call 109;(with_reducible refine(part_any (f:=e.old) (Hold.out.below HB.out) hold.1 hold.2 (Htab.out.below HB.out)).mono ?_);rintro e1 w3 ⟨⟨_|_,rfl,hb⟩,hB⟩<;>(have Hpo:=hide hb;have HB3:=hide (blw_up HB.out hB);obtain⟨hc3,hf3,hz3⟩:=bbox (N:=w.heap.size) hB hz1;clear hb hB))
  | (go_at_call 109;(with_reducible refine(part_any (f:=e.new) (Hnew.out.below HB3.out) hnew.1 hnew.2 (Htab.out.below HB3.out)).mono ?_);rintro e1 w4 ⟨⟨_|_,rfl,hb⟩,hB⟩<;>(have Hpn:=hide hb;have HB4:=hide (blw_up HB3.out hB);obtain⟨hc4,hf4,hz4⟩:=bbox (N:=w.heap.size) hB hz3;clear hb hB)))
 go_quiet (fail)
 go_upto_region 20 with(first
  | (go_at_call 105;(with_reducible refine(hasNumber_any (l:=e.path) (Hpath.out.below (blw_drewN (below_alloc _ _) _))).mono ?_);rintro e1 w1 ⟨⟨_|_,rfl,hb⟩,rfl⟩<;>(have Hp:=hide hb;clear hb))
  | (go_at_call 107;(with_reducible refine(number_any e.at_ _ Hat.out).mono ?_);rintro e1 w1 ⟨⟨_|_,rfl,hb⟩,rfl⟩<;>(have Ha:=hide hb;clear hb))
  | (go_at_call 107;(with_reducible refine(number_any e.far _ Hfar.out).mono ?_);rintro e1 w1 ⟨⟨_|_,rfl,hb⟩,rfl⟩<;>(have Hf:=hide hb;clear hb))
  | (go_at_call 108;(with_reducible refine(lexName_any e.frm _ hfrm (Htab.out.below (blw_drewN (below_alloc _ _) _))).mono ?_);rintro e1 w1 ⟨⟨_|_,rfl,hb⟩,hB⟩<;>(have Hn:=hide hb;have HB:=hide (blw_up (blw_drewN (below_alloc _ _) _) hB);obtain⟨hc1,hf1,hz1⟩:=bbox (N:=w.heap.size) hB (by simp);clear hb hB))
  | (go_at_call 108;(with_reducible refine(lexName_any e.to _ hto (Htab.out.below HB.out)).mono ?_);rintro e1 w2 ⟨⟨_|_,rfl,hb⟩,hB⟩<;>(have Hm:=hide hb;have HB2:=hide (blw_up HB.out hB);obtain⟨hc2,hf2,hz2⟩:=bbox (N:=w.heap.size) hB hz1;clear hb hB))
  | (go_at_call 109;(with_reducible refine(part_any (f:=e.old) (Hold.out.below HB2.out) hold.1 hold.2 (Htab.out.below HB2.out)).mono ?_);rintro e1 w3 ⟨⟨_|_,rfl,hb⟩,hB⟩<;>(have Hpo:=hide hb;have HB3:=hide (blw_up HB2.out hB);obtain⟨hc3,hf3,hz3⟩:=bbox (N:=w.heap.size) hB hz2;clear hb hB))
  | (go_at_call 109;(with_reducible refine(part_any (f:=e.old) (Hold.out.below HB.out) hold.1 hold.2 (Htab.out.below HB.out)).mono ?_);rintro e1 w3 ⟨⟨_|_,rfl,hb⟩,hB⟩<;>(have Hpo:=hide hb;have HB3:=hide (blw_up HB.out hB);obtain⟨hc3,hf3,hz3⟩:=bbox (N:=w.heap.size) hB hz1;clear hb hB))
  | (go_at_call 109;(with_reducible refine(part_any (f:=e.new) (Hnew.out.below HB3.out) hnew.1 hnew.2 (Htab.out.below HB3.out)).mono ?_);rintro e1 w4 ⟨⟨_|_,rfl,hb⟩,hB⟩<;>(have Hpn:=hide hb;have HB4:=hide (blw_up HB3.out hB);obtain⟨hc4,hf4,hz4⟩:=bbox (N:=w.heap.size) hB hz3;clear hb hB)))
 all_goals(first|go_ret|(go_quiet (fail);go_wp2;go_ret))
 all_goals go_tidy
 all_goals(try have hp:=Hp.out)
 all_goals(try have ha:=Ha.out)
 all_goals(try have hf:=Hf.out)
 all_goals(try have hn:=Hn.out)
 all_goals(try have hm:=Hm.out)
 all_goals(try have hpo:=Hpo.out)
 all_goals(try have hpn:=Hpn.out)
 all_goals refine⟨RetB.mk ?_,(by first|exact below_drewN HB4.out _|exact HB4.out|exact HB3.out|exact HB2.out|exact HB.out|exact blw_drewN (below_alloc _ _) _)⟩
 all_goals clear Htab Hpath Hat Hfar Hold Hnew
 all_goals(try clear Hp)
 all_goals(try clear Ha)
 all_goals(try clear Hf)
 all_goals(try clear Hpn hc4 hf4 HB4 hz4)
 all_goals(try clear Hpo hc3 hf3 HB3 hz3)
 all_goals(try clear Hm hc2 hf2 HB2 hz2)
 all_goals(try clear Hn hc1 hf1 hz1 HB)
 all_goals rw[Hok.out]
 all_goals clear Hok
 all_goals(try have pp:=@part_pos e.old)
 all_goals(try have pq:=@part_pos e.new)
 all_goals have n0:=number0
 all_goals(try have hfe:=Hfe.out)
 all_goals(try have hte:=Hte.out)
 all_goals(try have hnot:=Hnot.out)
 all_goals(try(exfalso;simp only[txt_nil,Bool.false_eq_true,reduceCtorEq]at *;done))
 all_goals(try(exfalso;simp only[txt_full Hfe.out,Bool.true_eq_false,reduceCtorEq]at *;done))
 all_goals grind
end
end Go.Proofs.YtialngdffhmobaaGreatDoor
