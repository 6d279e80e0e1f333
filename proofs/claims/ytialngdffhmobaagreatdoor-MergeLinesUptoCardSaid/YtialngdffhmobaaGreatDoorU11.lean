/- Part 12 of what mgTop rests on. -/
import Derived.Test.YtialngdffhmobaaGreatDoorU07
import Derived.Test.YtialngdffhmobaaGreatDoorU04
import Derived.Test.YtialngdffhmobaaGreatDoorU00
set_option linter.unusedVariables false
set_option linter.unusedSimpArgs false
set_option maxHeartbeats 16000000
set_option maxRecDepth 1000000
namespace Go.Proofs.YtialngdffhmobaaGreatDoor
section
open Go.RowKit
theorem sameHunk_any{S S':Nat→Prop}{x y:Hh}{a b:Hk}{w:World}(ha:HkIn S w x a)(hb:HkIn S' w y b):
  Calls Tryz.prog 21 #[.agg #[.int .i64 a.at_,.slice x.oA a.old.length x.oc,.slice x.nA a.new.length x.nc],.agg #[.int .i64 b.at_,.slice y.oA b.old.length y.oc,.slice y.nA b.new.length y.nc]] w
   fun e w'=>RetB (a=b) e∧Below w.heap.size w w':=by
 have Ha:=hide ha;have Hb:=hide hb;have Heq:=hide (@Hk.eq_iff a b);have Htl:=hide True.intro;clear ha hb;go_enter Tryz.func21,Tryz.ntmps21
 go_wp2_with(go_at_call 50;first
  | ((with_reducible refine(sameTexts_any (Ha.out.old.below (below2 _ _)) (Hb.out.old.below (below2 _ _))).mono ?_);rintro e w1 ⟨⟨b1,rfl,hb⟩,q,rfl⟩;have Hb1:=hide hb;clear hb)
  | ((with_reducible refine(sameTexts_any (Ha.out.new.below (blw_drewN (below2 _ _) _)) (Hb.out.new.below (blw_drewN (below2 _ _) _))).mono ?_);rintro e w2 ⟨⟨b2,rfl,hb⟩,q2,rfl⟩;have Hb2:=hide hb;clear hb))
 all_goals
  go_ret;go_tidy;refine⟨RetB.mk ?_,?_⟩
  ·rw[Heq.out]
   first
    | (have hHb1:=Hb1.out;have hHb2:=Hb2.out;clear Hb1 Hb2;have ht:=Htl.out;grind)
    | (have hHb1:=Hb1.out;clear Hb1;have ht:=Htl.out;grind)
    | (have ht:=Htl.out;grind)
  ·first
    | exact below2 _ _
    | exact blw_drewN (below2 _ _) _
theorem sameEdit_any{S S':Nat→Prop}{x y:Eh}{a b:Ed}{w:World}(ha:EdIn S w x a)(hb:EdIn S' w y b):
  Calls Tryz.prog 31 #[.agg #[.int .u8 a.kind,.slice x.pA a.path.length x.pc,.int .i64 a.at_,.int .i64 a.far,.string a.frm,.string a.to,.slice x.oA a.old.len x.oc,.slice x.nA a.new.len x.nc],.agg #[.int .u8 b.kind,.slice y.pA b.path.length y.pc,.int .i64 b.at_,.int .i64 b.far,.string b.frm,.string b.to,.slice y.oA b.old.len y.oc,.slice y.nA b.new.len y.nc]] w
   fun e w'=>RetB (a=b) e∧Below w.heap.size w w':=by
 have lo:=Nat.le_trans ha.oc.1 ha.oc.2;have ln:=Nat.le_trans ha.nc.1 ha.nc.2;have lo':=Nat.le_trans hb.oc.1 hb.oc.2;have ln':=Nat.le_trans hb.nc.1 hb.nc.2;have Ha:=hide ha;have Hb:=hide hb;have Heq:=hide (@Ed.eq_iff a b);have Htl:=hide (And.intro (tl_eq (s:=a.frm) (t:=b.frm)) (tl_eq (s:=a.to) (t:=b.to)));clear ha hb;go_enter Tryz.func31,Tryz.ntmps31
 go_wp2_with(first
  | (go_at_call 74;(with_reducible refine(sameInts_any (Ha.out.path.below (below2 _ _)) (Hb.out.path.below (below2 _ _))).mono ?_);rintro e w1 ⟨⟨b1,rfl,hb⟩,q,rfl⟩;have Hb1:=hide hb;clear hb)
  | (go_at_call 78;(with_reducible refine(sameNodes_any (Ha.out.old.below (blw_drewN (below2 _ _) _)) (Hb.out.old.below (blw_drewN (below2 _ _) _)) lo lo').mono ?_);rintro e w2 ⟨⟨b2,rfl,hb⟩,hB⟩;have Hb2:=hide hb;have HB:=hide (blw_up (blw_drewN (below2 _ _) _) hB);obtain⟨hc,hf⟩:=bcell hB;have hz:w.heap.size+1<w2.heap.size:=(by have:=hB.size;simp at this;omega);clear hb hB)
  | (go_at_call 78;(with_reducible refine(sameNodes_any (Ha.out.new.below HB.out) (Hb.out.new.below HB.out) ln ln').mono ?_);rintro e w3 ⟨⟨b3,rfl,hb⟩,hB⟩;have Hb3:=hide hb;have HB3:=hide (blw_up HB.out hB);clear hb hB))
 all_goals
  go_ret;go_tidy;refine⟨RetB.mk ?_,?_⟩
  ·rw[Heq.out]
   first
    | (have hHb1:=Hb1.out;have hHb2:=Hb2.out;have hHb3:=Hb3.out;clear Hb1 Hb2 Hb3;have ht:=Htl.out;grind)
    | (have hHb1:=Hb1.out;have hHb2:=Hb2.out;clear Hb1 Hb2;have ht:=Htl.out;grind)
    | (have hHb1:=Hb1.out;clear Hb1;have ht:=Htl.out;grind)
    | (have ht:=Htl.out;grind)
  ·first
    | exact HB3.out
    | exact HB.out
    | exact below2 _ _
    | exact blw_drewN (below2 _ _) _
theorem samePatch_any{S S':Nat→Prop}{x y:Ph}{a b:Pt}{w:World}(ha:PtIn S w x a)(hb:PtIn S' w y b):
  Calls Tryz.prog 12 #[.agg #[.int .u8 a.kind,.string a.file,.string a.text,.int .i64 a.hunk.at_,.slice x.h.oA a.hunk.old.length x.h.oc,.slice x.h.nA a.hunk.new.length x.h.nc,.int .u8 a.edit.kind,.slice x.e.pA a.edit.path.length x.e.pc,.int .i64 a.edit.at_,.int .i64 a.edit.far,.string a.edit.frm,.string a.edit.to,.slice x.e.oA a.edit.old.len x.e.oc,.slice x.e.nA a.edit.new.len x.e.nc],.agg #[.int .u8 b.kind,.string b.file,.string b.text,.int .i64 b.hunk.at_,.slice y.h.oA b.hunk.old.length y.h.oc,.slice y.h.nA b.hunk.new.length y.h.nc,.int .u8 b.edit.kind,.slice y.e.pA b.edit.path.length y.e.pc,.int .i64 b.edit.at_,.int .i64 b.edit.far,.string b.edit.frm,.string b.edit.to,.slice y.e.oA b.edit.old.len y.e.oc,.slice y.e.nA b.edit.new.len y.e.nc]] w
   fun e w'=>RetB (a=b) e∧Below w.heap.size w w':=by
 have Ha:=hide ha;have Hb:=hide hb;have Heq:=hide (@Pt.eq_iff a b);have Htl:=hide (And.intro (tl_eq (s:=a.file) (t:=b.file)) (tl_eq (s:=a.text) (t:=b.text)));clear ha hb;go_enter Tryz.func12,Tryz.ntmps12
 go_wp2_with(first
  | (go_at_call 21;(with_reducible refine(sameHunk_any (Ha.out.hunk.below (below2 _ _)) (Hb.out.hunk.below (below2 _ _))).mono ?_);rintro e w1 ⟨⟨b1,rfl,hb⟩,hB⟩;have Hb1:=hide hb;have HB:=hide (blw_up (below2 _ _) hB);obtain⟨hc,hf⟩:=bcell hB;have hz:w.heap.size+1<w1.heap.size:=(by have:=hB.size;simp at this;omega);clear hb hB)
  | (go_at_call 31;(with_reducible refine(sameEdit_any (Ha.out.edit.below HB.out) (Hb.out.edit.below HB.out)).mono ?_);rintro e w2 ⟨⟨b2,rfl,hb⟩,hB⟩;have Hb2:=hide hb;have HB2:=hide (blw_up HB.out hB);clear hb hB))
 all_goals
  go_ret;go_tidy;refine⟨RetB.mk ?_,?_⟩
  ·rw[Heq.out]
   first
    | (have hHb1:=Hb1.out;have hHb2:=Hb2.out;clear Hb1 Hb2;have ht:=Htl.out;grind)
    | (have hHb1:=Hb1.out;clear Hb1;have ht:=Htl.out;grind)
    | (have ht:=Htl.out;grind)
  ·first
    | exact HB2.out
    | exact HB.out
    | exact below2 _ _
theorem patchSame_any{S S':Nat→Prop}{x y:Ph}{a b:Pt}{w:World}(ha:PtIn S w x a)(hb:PtIn S' w y b):
  Calls Tryz.prog 38 #[.agg #[.int .u8 a.kind,.string a.file,.string a.text,.int .i64 a.hunk.at_,.slice x.h.oA a.hunk.old.length x.h.oc,.slice x.h.nA a.hunk.new.length x.h.nc,.int .u8 a.edit.kind,.slice x.e.pA a.edit.path.length x.e.pc,.int .i64 a.edit.at_,.int .i64 a.edit.far,.string a.edit.frm,.string a.edit.to,.slice x.e.oA a.edit.old.len x.e.oc,.slice x.e.nA a.edit.new.len x.e.nc],.agg #[.int .u8 b.kind,.string b.file,.string b.text,.int .i64 b.hunk.at_,.slice y.h.oA b.hunk.old.length y.h.oc,.slice y.h.nA b.hunk.new.length y.h.nc,.int .u8 b.edit.kind,.slice y.e.pA b.edit.path.length y.e.pc,.int .i64 b.edit.at_,.int .i64 b.edit.far,.string b.edit.frm,.string b.edit.to,.slice y.e.oA b.edit.old.len y.e.oc,.slice y.e.nA b.edit.new.len y.e.nc]] w
   fun e w'=>RetB (a=b) e∧Below w.heap.size w w':=by
 have lo:=Nat.le_trans ha.edit.oc.1 ha.edit.oc.2;have ln:=Nat.le_trans ha.edit.nc.1 ha.edit.nc.2;have lo':=Nat.le_trans hb.edit.oc.1 hb.edit.oc.2;have ln':=Nat.le_trans hb.edit.nc.1 hb.edit.nc.2;have Ha:=hide ha;have Hb:=hide hb;have Heq:=hide (Pt.eq_all (a:=a) (b:=b));have Htl:=hide (And.intro (tl_eq (s:=a.file) (t:=b.file)) (And.intro (tl_eq (s:=a.text) (t:=b.text)) (And.intro (tl_eq (s:=a.edit.frm) (t:=b.edit.frm)) (tl_eq (s:=a.edit.to) (t:=b.edit.to)))));clear ha hb;go_enter Tryz.func38,Tryz.ntmps38
 go_wp2_with fail
 go_region
 all_goals go_wp2_with(first
  | (go_at_call 104;(with_reducible refine(equalTexts_any (Ha.out.hunk.old.below (below4d _ _ _ _)) (Hb.out.hunk.old.below (below4d _ _ _ _))).mono ?_);rintro e w1 ⟨⟨b1,rfl,hb⟩,q,rfl⟩;have Hb1:=hide hb;clear hb)
  | (go_at_call 104;(with_reducible refine(equalTexts_any (Ha.out.hunk.new.below (blw_drewN (below4 _ _ _ _) _)) (Hb.out.hunk.new.below (blw_drewN (below4 _ _ _ _) _))).mono ?_);rintro e w1 ⟨⟨b2,rfl,hb⟩,q,rfl⟩;have Hb2:=hide hb;clear hb)
  | (go_at_call 112;(with_reducible refine(equalInts_any (Ha.out.edit.path.below (blw_drewN (below4 _ _ _ _) _)) (Hb.out.edit.path.below (blw_drewN (below4 _ _ _ _) _))).mono ?_);rintro e w1 ⟨⟨b3,rfl,hb⟩,q,rfl⟩;have Hb3:=hide hb;clear hb)
  | (go_at_call 113;(with_reducible refine(equalNodes_any (Ha.out.edit.old.below (blw_drewN (below4 _ _ _ _) _)) (Hb.out.edit.old.below (blw_drewN (below4 _ _ _ _) _)) lo lo').mono ?_);rintro e w2 ⟨⟨b4,rfl,hb⟩,hB⟩;have Hb4:=hide hb;have HB:=hide (blw_up (blw_drewN (below4 _ _ _ _) _) hB);obtain⟨hc,hf⟩:=bcell hB;have hz:w.heap.size+3<w2.heap.size:=(by have:=hB.size;simp at this;omega);clear hb hB)
  | (go_at_call 113;(with_reducible refine(equalNodes_any (Ha.out.edit.new.below HB.out) (Hb.out.edit.new.below HB.out) ln ln').mono ?_);rintro e w3 ⟨⟨b5,rfl,hb⟩,hB⟩;have Hb5:=hide hb;have HB3:=hide (blw_up HB.out hB);clear hb hB))
 all_goals
  go_ret;go_tidy;refine⟨RetB.mk ?_,?_⟩
  ·rw[Heq.out]
   first
    | (have hHb1:=Hb1.out;have hHb2:=Hb2.out;have hHb3:=Hb3.out;have hHb4:=Hb4.out;have hHb5:=Hb5.out;clear Hb1 Hb2 Hb3 Hb4 Hb5;have ht:=Htl.out;grind)
    | (have hHb1:=Hb1.out;have hHb2:=Hb2.out;have hHb3:=Hb3.out;have hHb4:=Hb4.out;clear Hb1 Hb2 Hb3 Hb4;have ht:=Htl.out;grind)
    | (have hHb1:=Hb1.out;have hHb2:=Hb2.out;have hHb3:=Hb3.out;clear Hb1 Hb2 Hb3;have ht:=Htl.out;grind)
    | (have hHb1:=Hb1.out;have hHb2:=Hb2.out;clear Hb1 Hb2;have ht:=Htl.out;grind)
    | (have hHb1:=Hb1.out;clear Hb1;have ht:=Htl.out;grind)
    | (have ht:=Htl.out;grind)
  ·first
    | exact HB3.out
    | exact HB.out
    | exact below4d _ _ _ _
    | exact blw_drewN (below4 _ _ _ _) _
end
end Go.Proofs.YtialngdffhmobaaGreatDoor
