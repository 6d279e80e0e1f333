/- Part 8 of what scriptParses_card rests on. -/
import Derived.Test.YtjjaojnglnpgaaaGreatDoorZ06
import Derived.Test.YtjjaojnglnpgaaaGreatDoorZ02
import Derived.Test.YtjjaojnglnpgaaaGreatDoorZ00
set_option linter.unusedVariables false
set_option linter.unusedSimpArgs false
set_option maxHeartbeats 16000000
set_option maxRecDepth 1000000
namespace Go.Proofs.YtjjaojnglnpgaaaGreatDoor
section
open Go.RowKit
theorem Vs{S S':Nat→Prop}{x y:Hh}{a b:Hk}{w:World}(ha:HkIn S w x a)(hb:HkIn S' w y b):
  Calls Tryz.prog 153 #[.agg #[.int .i64 a.at_,.slice x.oA a.old.length x.oc,.slice x.nA a.new.length x.nc],.agg #[.int .i64 b.at_,.slice y.oA b.old.length y.oc,.slice y.nA b.new.length y.nc]] w
   fun e w'=>RetB (a=b) e∧Below w.heap.size w w':=by
 have Ha:=hide ha;have Hb:=hide hb;have fQ:=hide (@Hk.eq_iff a b);have fB:=hide True.intro;clear ha hb;go_enter Tryz.func153,Tryz.ntmps153
 go_wp2_with(go_at_call 65;first
  | ((with_reducible refine(J9 (Ha.out.old.below (bT _ _)) (Hb.out.old.below (bT _ _))).mono ?_);rintro e w1 ⟨⟨b1,rfl,hb⟩,q,rfl⟩;have Hb1:=hide hb;clear hb)
  | ((with_reducible refine(J9 (Ha.out.new.below (aO (bT _ _) _)) (Hb.out.new.below (aO (bT _ _) _))).mono ?_);rintro e w2 ⟨⟨b2,rfl,hb⟩,q2,rfl⟩;have Hb2:=hide hb;clear hb))
 all_goals
  go_ret;go_tidy;refine⟨RetB.mk ?_,?_⟩
  ·rw[fQ.out]
   first
    | (have dZ:=Hb1.out;have iP:=Hb2.out;clear Hb1 Hb2;have ht:=fB.out;grind)
    | (have dZ:=Hb1.out;clear Hb1;have ht:=fB.out;grind)
    | (have ht:=fB.out;grind)
  ·first
    | exact bT _ _
    | exact aO (bT _ _) _
theorem uC{S S':Nat→Prop}{x y:Eh}{a b:Ed}{w:World}(ha:EdIn S w x a)(hb:EdIn S' w y b):
  Calls Tryz.prog 155 #[.agg #[.int .u8 a.kind,.slice x.pA a.path.length x.pc,.int .i64 a.at_,.int .i64 a.far,.string a.frm,.string a.to,.slice x.oA a.old.len x.oc,.slice x.nA a.new.len x.nc],.agg #[.int .u8 b.kind,.slice y.pA b.path.length y.pc,.int .i64 b.at_,.int .i64 b.far,.string b.frm,.string b.to,.slice y.oA b.old.len y.oc,.slice y.nA b.new.len y.nc]] w
   fun e w'=>RetB (a=b) e∧Below w.heap.size w w':=by
 have lo:=aI ha.oc.1 ha.oc.2;have ln:=aI ha.nc.1 ha.nc.2;have lo':=aI hb.oc.1 hb.oc.2;have KQ:=aI hb.nc.1 hb.nc.2;have Ha:=hide ha;have Hb:=hide hb;have fQ:=hide (@Ed.eq_iff a b);have fB:=hide (And.intro (bu (s:=a.frm) (t:=b.frm)) (bu (s:=a.to) (t:=b.to)));clear ha hb;go_enter Tryz.func155,Tryz.ntmps155
 go_wp2_with(first
  | (go_at_call 207;(with_reducible refine(UY (Ha.out.path.below (bT _ _)) (Hb.out.path.below (bT _ _))).mono ?_);rintro e w1 ⟨⟨b1,rfl,hb⟩,q,rfl⟩;have Hb1:=hide hb;clear hb)
  | (go_at_call 206;(with_reducible refine(KO (Ha.out.old.below (aO (bT _ _) _)) (Hb.out.old.below (aO (bT _ _) _)) lo lo').mono ?_);rintro e w2 ⟨⟨b2,rfl,hb⟩,hB⟩;have Hb2:=hide hb;have HB:=hide (ak (aO (bT _ _) _) hB);obtain⟨hc,hf⟩:=bV hB;have hz:w.heap.size+1<w2.heap.size:=(by have:=hB.size;simp at this;omega);clear hb hB)
  | (go_at_call 206;(with_reducible refine(KO (Ha.out.new.below HB.out) (Hb.out.new.below HB.out) ln KQ).mono ?_);rintro e w3 ⟨⟨b3,rfl,hb⟩,hB⟩;have Hb3:=hide hb;have HB3:=hide (ak HB.out hB);clear hb hB))
 all_goals
  go_ret;go_tidy;refine⟨RetB.mk ?_,?_⟩
  ·rw[fQ.out]
   first
    | (have dZ:=Hb1.out;have iP:=Hb2.out;have zy:=Hb3.out;clear Hb1 Hb2 Hb3;have ht:=fB.out;grind)
    | (have dZ:=Hb1.out;have iP:=Hb2.out;clear Hb1 Hb2;have ht:=fB.out;grind)
    | (have dZ:=Hb1.out;clear Hb1;have ht:=fB.out;grind)
    | (have ht:=fB.out;grind)
  ·first
    | exact HB3.out
    | exact HB.out
    | exact bT _ _
    | exact aO (bT _ _) _
theorem Dz{S S':Nat→Prop}{x y:Ph}{a b:Pt}{w:World}(ha:PtIn S w x a)(hb:PtIn S' w y b):
  Calls Tryz.prog 124 #[.agg #[.int .u8 a.kind,.string a.file,.string a.text,.int .i64 a.hunk.at_,.slice x.h.oA a.hunk.old.length x.h.oc,.slice x.h.nA a.hunk.new.length x.h.nc,.int .u8 a.edit.kind,.slice x.e.pA a.edit.path.length x.e.pc,.int .i64 a.edit.at_,.int .i64 a.edit.far,.string a.edit.frm,.string a.edit.to,.slice x.e.oA a.edit.old.len x.e.oc,.slice x.e.nA a.edit.new.len x.e.nc],.agg #[.int .u8 b.kind,.string b.file,.string b.text,.int .i64 b.hunk.at_,.slice y.h.oA b.hunk.old.length y.h.oc,.slice y.h.nA b.hunk.new.length y.h.nc,.int .u8 b.edit.kind,.slice y.e.pA b.edit.path.length y.e.pc,.int .i64 b.edit.at_,.int .i64 b.edit.far,.string b.edit.frm,.string b.edit.to,.slice y.e.oA b.edit.old.len y.e.oc,.slice y.e.nA b.edit.new.len y.e.nc]] w
   fun e w'=>RetB (a=b) e∧Below w.heap.size w w':=by
 have Ha:=hide ha;have Hb:=hide hb;have fQ:=hide (@Pt.eq_iff a b);have fB:=hide (And.intro (bu (s:=a.file) (t:=b.file)) (bu (s:=a.text) (t:=b.text)));clear ha hb;go_enter Tryz.func124,Tryz.ntmps124
 go_wp2_with(first
  | (go_at_call 153;(with_reducible refine(Vs (Ha.out.hunk.below (bT _ _)) (Hb.out.hunk.below (bT _ _))).mono ?_);rintro e w1 ⟨⟨b1,rfl,hb⟩,hB⟩;have Hb1:=hide hb;have HB:=hide (ak (bT _ _) hB);obtain⟨hc,hf⟩:=bV hB;have hz:w.heap.size+1<w1.heap.size:=(by have:=hB.size;simp at this;omega);clear hb hB)
  | (go_at_call 155;(with_reducible refine(uC (Ha.out.edit.below HB.out) (Hb.out.edit.below HB.out)).mono ?_);rintro e w2 ⟨⟨b2,rfl,hb⟩,hB⟩;have Hb2:=hide hb;have HB2:=hide (ak HB.out hB);clear hb hB))
 all_goals
  go_ret;go_tidy;refine⟨RetB.mk ?_,?_⟩
  ·rw[fQ.out]
   first
    | (have dZ:=Hb1.out;have iP:=Hb2.out;clear Hb1 Hb2;have ht:=fB.out;grind)
    | (have dZ:=Hb1.out;clear Hb1;have ht:=fB.out;grind)
    | (have ht:=fB.out;grind)
  ·first
    | exact HB2.out
    | exact HB.out
    | exact bT _ _
theorem Il{S S':Nat→Prop}{x y:Ph}{a b:Pt}{w:World}(ha:PtIn S w x a)(hb:PtIn S' w y b):
  Calls Tryz.prog 175 #[.agg #[.int .u8 a.kind,.string a.file,.string a.text,.int .i64 a.hunk.at_,.slice x.h.oA a.hunk.old.length x.h.oc,.slice x.h.nA a.hunk.new.length x.h.nc,.int .u8 a.edit.kind,.slice x.e.pA a.edit.path.length x.e.pc,.int .i64 a.edit.at_,.int .i64 a.edit.far,.string a.edit.frm,.string a.edit.to,.slice x.e.oA a.edit.old.len x.e.oc,.slice x.e.nA a.edit.new.len x.e.nc],.agg #[.int .u8 b.kind,.string b.file,.string b.text,.int .i64 b.hunk.at_,.slice y.h.oA b.hunk.old.length y.h.oc,.slice y.h.nA b.hunk.new.length y.h.nc,.int .u8 b.edit.kind,.slice y.e.pA b.edit.path.length y.e.pc,.int .i64 b.edit.at_,.int .i64 b.edit.far,.string b.edit.frm,.string b.edit.to,.slice y.e.oA b.edit.old.len y.e.oc,.slice y.e.nA b.edit.new.len y.e.nc]] w
   fun e w'=>RetB (a=b) e∧Below w.heap.size w w':=by
 have lo:=aI ha.edit.oc.1 ha.edit.oc.2;have ln:=aI ha.edit.nc.1 ha.edit.nc.2;have lo':=aI hb.edit.oc.1 hb.edit.oc.2;have KQ:=aI hb.edit.nc.1 hb.edit.nc.2;have Ha:=hide ha;have Hb:=hide hb;have fQ:=hide (Pt.eq_all (a:=a) (b:=b));have fB:=hide (And.intro (bu (s:=a.file) (t:=b.file)) (And.intro (bu (s:=a.text) (t:=b.text)) (And.intro (bu (s:=a.edit.frm) (t:=b.edit.frm)) (bu (s:=a.edit.to) (t:=b.edit.to)))));clear ha hb;go_enter Tryz.func175,Tryz.ntmps175
 go_wp2_with fail
 go_region
 all_goals go_wp2_with(first
  | (go_at_call 215;(with_reducible refine(Ko (Ha.out.hunk.old.below (JW _ _ _ _)) (Hb.out.hunk.old.below (JW _ _ _ _))).mono ?_);rintro e w1 ⟨⟨b1,rfl,hb⟩,q,rfl⟩;have Hb1:=hide hb;clear hb)
  | (go_at_call 215;(with_reducible refine(Ko (Ha.out.hunk.new.below (aO (xR _ _ _ _) _)) (Hb.out.hunk.new.below (aO (xR _ _ _ _) _))).mono ?_);rintro e w1 ⟨⟨b2,rfl,hb⟩,q,rfl⟩;have Hb2:=hide hb;clear hb)
  | (go_at_call 223;(with_reducible refine(UZ (Ha.out.edit.path.below (aO (xR _ _ _ _) _)) (Hb.out.edit.path.below (aO (xR _ _ _ _) _))).mono ?_);rintro e w1 ⟨⟨b3,rfl,hb⟩,q,rfl⟩;have Hb3:=hide hb;clear hb)
  | (go_at_call 224;(with_reducible refine(KP (Ha.out.edit.old.below (aO (xR _ _ _ _) _)) (Hb.out.edit.old.below (aO (xR _ _ _ _) _)) lo lo').mono ?_);rintro e w2 ⟨⟨b4,rfl,hb⟩,hB⟩;have Hb4:=hide hb;have HB:=hide (ak (aO (xR _ _ _ _) _) hB);obtain⟨hc,hf⟩:=bV hB;have hz:w.heap.size+3<w2.heap.size:=(by have:=hB.size;simp at this;omega);clear hb hB)
  | (go_at_call 224;(with_reducible refine(KP (Ha.out.edit.new.below HB.out) (Hb.out.edit.new.below HB.out) ln KQ).mono ?_);rintro e w3 ⟨⟨b5,rfl,hb⟩,hB⟩;have Hb5:=hide hb;have HB3:=hide (ak HB.out hB);clear hb hB))
 all_goals
  go_ret;go_tidy;refine⟨RetB.mk ?_,?_⟩
  ·rw[fQ.out]
   first
    | (have dZ:=Hb1.out;have iP:=Hb2.out;have zy:=Hb3.out;have KR:=Hb4.out;have Vt:=Hb5.out;clear Hb1 Hb2 Hb3 Hb4 Hb5;have ht:=fB.out;grind)
    | (have dZ:=Hb1.out;have iP:=Hb2.out;have zy:=Hb3.out;have KR:=Hb4.out;clear Hb1 Hb2 Hb3 Hb4;have ht:=fB.out;grind)
    | (have dZ:=Hb1.out;have iP:=Hb2.out;have zy:=Hb3.out;clear Hb1 Hb2 Hb3;have ht:=fB.out;grind)
    | (have dZ:=Hb1.out;have iP:=Hb2.out;clear Hb1 Hb2;have ht:=fB.out;grind)
    | (have dZ:=Hb1.out;clear Hb1;have ht:=fB.out;grind)
    | (have ht:=fB.out;grind)
  ·first
    | exact HB3.out
    | exact HB.out
    | exact JW _ _ _ _
    | exact aO (xR _ _ _ _) _
end
end Go.Proofs.YtjjaojnglnpgaaaGreatDoor
