/- Part 32 of what mgTop rests on. -/
import Derived.Test.YtialngdffhmobaaGreatDoorU30
import Derived.Test.YtialngdffhmobaaGreatDoorU00
set_option linter.unusedVariables false
set_option linter.unusedSimpArgs false
set_option maxHeartbeats 16000000
set_option maxRecDepth 1000000
namespace Go.Proofs.YtialngdffhmobaaGreatDoor
section
open Go.RowKit
theorem patchRight_3{S:Nat→Prop}{x:Ph}{p:Pt}{w:World}(hp:PtIn S w x p):
  Calls Tryz.prog 15 #[.agg #[.int .u8 3,.string p.file,.string p.text,.int .i64 p.hunk.at_,.slice x.h.oA p.hunk.old.length x.h.oc,.slice x.h.nA p.hunk.new.length x.h.nc,.int .u8 p.edit.kind,.slice x.e.pA p.edit.path.length x.e.pc,.int .i64 p.edit.at_,.int .i64 p.edit.far,.string p.edit.frm,.string p.edit.to,.slice x.e.oA p.edit.old.len x.e.oc,.slice x.e.nA p.edit.new.len x.e.nc]] w fun e w'=>RetB (PtOk {p with kind:=3}) e∧Below w.heap.size w w':=by
 have Hp:=hide hp;have hfile:=hp.file;have Hok:=hide (@ptOk_3 p)
 skip
 clear hp;go_enter Tryz.func15,Tryz.ntmps15
 go_upto_region 8 with fail
 go_region_with (go_at_call 35;(with_reducible refine(hunkRight_any (x:=x.h) (a:=p.hunk) (Hp.out.hunk.below (by repeat first|exact Below.refl _ _|refine Below.drew ?_|refine Below.setCell ?_ (by simp) _|refine Below.alloc ?_ (by simp) _))).mono ?_);rintro e1 w1 ⟨⟨b,rfl,hb⟩,hB⟩;have Hc:=hide hb;obtain⟨hc1,hf1,hz1⟩:=bbox (N:=w.heap.size) hB (by simp<;>omega);obtain⟨hc2,hf2,hz2⟩:=bbox (N:=w.heap.size+1) hB (by simp<;>omega);have HBw:Hid (Below w.heap.size w w1):=hide (blw_up (w:=w) (by repeat first|exact Below.refl _ _|refine Below.drew ?_|refine Below.setCell ?_ (by simp) _|refine Below.alloc ?_ (by simp) _) hB);clear hb hB)
 all_goals(cases b<;>go_wp2_with(first
  | (go_at_call 37;(with_reducible refine(patchName_any p.file _ hfile).mono ?_);rintro e2 w2 ⟨⟨_|_,rfl,hb⟩,rfl⟩<;>(have Hn:=hide hb;clear hb))
  | (go_at_call 38;(with_reducible refine(patchSame_3 (Hp.out.below (by repeat first|exact HBw.out|exact Below.refl _ _|refine Below.setCell ?_ (by simp) _|refine Below.drew ?_|refine Below.alloc ?_ (by simp) _))).mono ?_);rintro e3 w3 ⟨⟨b3,rfl,hb⟩,hB⟩;have Hs:=hide hb;have HB:Hid (Below w.heap.size w w3):=hide (blw_up (w:=w) (by repeat first|exact HBw.out|exact Below.refl _ _|refine Below.setCell ?_ (by simp) _|refine Below.drew ?_|refine Below.alloc ?_ (by simp) _) hB);clear hb hB)))
 all_goals(go_ret;go_tidy)
 all_goals refine⟨RetB.mk ?_,(by first|exact HB.out|(repeat first|exact HBw.out|exact Below.refl _ _|refine Below.setCell ?_ (by simp) _|refine Below.drew ?_|refine Below.alloc ?_ (by simp) _))⟩
 all_goals rw[Hok.out]
 all_goals have hc:=Hc.out
 all_goals(try have hn:=Hn.out)
 all_goals(try have hs:=Hs.out)
 all_goals(try clear hc1 hf1 hc2 hf2)
 all_goals grind
end
end Go.Proofs.YtialngdffhmobaaGreatDoor
