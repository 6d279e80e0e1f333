/- Part 8 of what scriptShows_cardUpto rests on. -/
import Derived.Test.YtjjaojnglnpgaaaGreatDoorZ01
import Derived.Test.YtjjaojnglnpgaaaGreatDoorZ02
import Derived.Test.YtjjaojnglnpgaaaGreatDoorZ00
set_option linter.unusedVariables false
set_option linter.unusedSimpArgs false
set_option maxHeartbeats 16000000
set_option maxRecDepth 1000000
namespace Go.Proofs.YtjjaojnglnpgaaaGreatDoor
section
open Go.RowKit
theorem UQ{S S':Nat→Prop}{x y:Hh}{a b:Hk}{w:World}(ha:gB S w x a)(hb:gB S' w y b):
  Calls Tryz.prog 153 #[.agg #[.int .i64 a.at_,.slice x.oA a.old.length x.oc,.slice x.nA a.new.length x.nc],.agg #[.int .i64 b.at_,.slice y.oA b.old.length y.oc,.slice y.nA b.new.length y.nc]] w
   fun e w'=>ah (a=b) e∧Below w.heap.size w w':=by
 have Ha:=hide ha;have Hb:=hide hb;have Bc:=hide (@Hk.eq_iff a b);have lX:=hide True.intro;clear ha hb;go_enter Tryz.func153,Tryz.ntmps153
 go_wp2_with(go_at_call 65;first
  | ((with_reducible refine(O8 (Ha.out.old.below (iD _ _)) (Hb.out.old.below (iD _ _))).mono ?_);rintro e w1 ⟨⟨b1,rfl,hb⟩,q,rfl⟩;have Hb1:=hide hb;clear hb)
  | ((with_reducible refine(O8 (Ha.out.new.below (di (iD _ _) _)) (Hb.out.new.below (di (iD _ _) _))).mono ?_);rintro e w2 ⟨⟨b2,rfl,hb⟩,q2,rfl⟩;have Hb2:=hide hb;clear hb))
 all_goals
  go_ret;go_tidy;refine⟨ah.mk ?_,?_⟩
  ·rw[Bc.out]
   first
    | (have lu:=Hb1.out;have oM:=Hb2.out;clear Hb1 Hb2;have ht:=lX.out;grind)
    | (have lu:=Hb1.out;clear Hb1;have ht:=lX.out;grind)
    | (have ht:=lX.out;grind)
  ·first
    | exact iD _ _
    | exact di (iD _ _) _
theorem wI{S S':Nat→Prop}{x y:Eh}{a b:Ed}{w:World}(ha:dm S w x a)(hb:dm S' w y b):
  Calls Tryz.prog 155 #[.agg #[.int .u8 a.kind,.slice x.pA a.path.length x.pc,.int .i64 a.at_,.int .i64 a.far,.string a.frm,.string a.to,.slice x.oA a.old.len x.oc,.slice x.nA a.new.len x.nc],.agg #[.int .u8 b.kind,.slice y.pA b.path.length y.pc,.int .i64 b.at_,.int .i64 b.far,.string b.frm,.string b.to,.slice y.oA b.old.len y.oc,.slice y.nA b.new.len y.nc]] w
   fun e w'=>ah (a=b) e∧Below w.heap.size w w':=by
 have lo:=aI ha.oc.1 ha.oc.2;have ln:=aI ha.nc.1 ha.nc.2;have lo':=aI hb.oc.1 hb.oc.2;have PW:=aI hb.nc.1 hb.nc.2;have Ha:=hide ha;have Hb:=hide hb;have Bc:=hide (@Ed.eq_iff a b);have lX:=hide (And.intro (dZ (s:=a.frm) (t:=b.frm)) (dZ (s:=a.to) (t:=b.to)));clear ha hb;go_enter Tryz.func155,Tryz.ntmps155
 go_wp2_with(first
  | (go_at_call 207;(with_reducible refine(XN (Ha.out.path.below (iD _ _)) (Hb.out.path.below (iD _ _))).mono ?_);rintro e w1 ⟨⟨b1,rfl,hb⟩,q,rfl⟩;have Hb1:=hide hb;clear hb)
  | (go_at_call 206;(with_reducible refine(Pe (Ha.out.old.below (di (iD _ _) _)) (Hb.out.old.below (di (iD _ _) _)) lo lo').mono ?_);rintro e w2 ⟨⟨b2,rfl,hb⟩,hB⟩;have Hb2:=hide hb;have HB:=hide (aW (di (iD _ _) _) hB);obtain⟨hc,hf⟩:=iP hB;have hz:w.heap.size+1<w2.heap.size:=(by have:=hB.size;simp at this;omega);clear hb hB)
  | (go_at_call 206;(with_reducible refine(Pe (Ha.out.new.below HB.out) (Hb.out.new.below HB.out) ln PW).mono ?_);rintro e w3 ⟨⟨b3,rfl,hb⟩,hB⟩;have Hb3:=hide hb;have HB3:=hide (aW HB.out hB);clear hb hB))
 all_goals
  go_ret;go_tidy;refine⟨ah.mk ?_,?_⟩
  ·rw[Bc.out]
   first
    | (have lu:=Hb1.out;have oM:=Hb2.out;have EZ:=Hb3.out;clear Hb1 Hb2 Hb3;have ht:=lX.out;grind)
    | (have lu:=Hb1.out;have oM:=Hb2.out;clear Hb1 Hb2;have ht:=lX.out;grind)
    | (have lu:=Hb1.out;clear Hb1;have ht:=lX.out;grind)
    | (have ht:=lX.out;grind)
  ·first
    | exact HB3.out
    | exact HB.out
    | exact iD _ _
    | exact di (iD _ _) _
theorem Io{S S':Nat→Prop}{x y:Ph}{a b:Pt}{w:World}(ha:bM S w x a)(hb:bM S' w y b):
  Calls Tryz.prog 124 #[.agg #[.int .u8 a.kind,.string a.file,.string a.text,.int .i64 a.hunk.at_,.slice x.h.oA a.hunk.old.length x.h.oc,.slice x.h.nA a.hunk.new.length x.h.nc,.int .u8 a.edit.kind,.slice x.e.pA a.edit.path.length x.e.pc,.int .i64 a.edit.at_,.int .i64 a.edit.far,.string a.edit.frm,.string a.edit.to,.slice x.e.oA a.edit.old.len x.e.oc,.slice x.e.nA a.edit.new.len x.e.nc],.agg #[.int .u8 b.kind,.string b.file,.string b.text,.int .i64 b.hunk.at_,.slice y.h.oA b.hunk.old.length y.h.oc,.slice y.h.nA b.hunk.new.length y.h.nc,.int .u8 b.edit.kind,.slice y.e.pA b.edit.path.length y.e.pc,.int .i64 b.edit.at_,.int .i64 b.edit.far,.string b.edit.frm,.string b.edit.to,.slice y.e.oA b.edit.old.len y.e.oc,.slice y.e.nA b.edit.new.len y.e.nc]] w
   fun e w'=>ah (a=b) e∧Below w.heap.size w w':=by
 have Ha:=hide ha;have Hb:=hide hb;have Bc:=hide (@Pt.eq_iff a b);have lX:=hide (And.intro (dZ (s:=a.file) (t:=b.file)) (dZ (s:=a.text) (t:=b.text)));clear ha hb;go_enter Tryz.func124,Tryz.ntmps124
 go_wp2_with(first
  | (go_at_call 153;(with_reducible refine(UQ (Ha.out.hunk.below (iD _ _)) (Hb.out.hunk.below (iD _ _))).mono ?_);rintro e w1 ⟨⟨b1,rfl,hb⟩,hB⟩;have Hb1:=hide hb;have HB:=hide (aW (iD _ _) hB);obtain⟨hc,hf⟩:=iP hB;have hz:w.heap.size+1<w1.heap.size:=(by have:=hB.size;simp at this;omega);clear hb hB)
  | (go_at_call 155;(with_reducible refine(wI (Ha.out.edit.below HB.out) (Hb.out.edit.below HB.out)).mono ?_);rintro e w2 ⟨⟨b2,rfl,hb⟩,hB⟩;have Hb2:=hide hb;have HB2:=hide (aW HB.out hB);clear hb hB))
 all_goals
  go_ret;go_tidy;refine⟨ah.mk ?_,?_⟩
  ·rw[Bc.out]
   first
    | (have lu:=Hb1.out;have oM:=Hb2.out;clear Hb1 Hb2;have ht:=lX.out;grind)
    | (have lu:=Hb1.out;clear Hb1;have ht:=lX.out;grind)
    | (have ht:=lX.out;grind)
  ·first
    | exact HB2.out
    | exact HB.out
    | exact iD _ _
theorem Nj{S S':Nat→Prop}{x y:Ph}{a b:Pt}{w:World}(ha:bM S w x a)(hb:bM S' w y b):
  Calls Tryz.prog 175 #[.agg #[.int .u8 a.kind,.string a.file,.string a.text,.int .i64 a.hunk.at_,.slice x.h.oA a.hunk.old.length x.h.oc,.slice x.h.nA a.hunk.new.length x.h.nc,.int .u8 a.edit.kind,.slice x.e.pA a.edit.path.length x.e.pc,.int .i64 a.edit.at_,.int .i64 a.edit.far,.string a.edit.frm,.string a.edit.to,.slice x.e.oA a.edit.old.len x.e.oc,.slice x.e.nA a.edit.new.len x.e.nc],.agg #[.int .u8 b.kind,.string b.file,.string b.text,.int .i64 b.hunk.at_,.slice y.h.oA b.hunk.old.length y.h.oc,.slice y.h.nA b.hunk.new.length y.h.nc,.int .u8 b.edit.kind,.slice y.e.pA b.edit.path.length y.e.pc,.int .i64 b.edit.at_,.int .i64 b.edit.far,.string b.edit.frm,.string b.edit.to,.slice y.e.oA b.edit.old.len y.e.oc,.slice y.e.nA b.edit.new.len y.e.nc]] w
   fun e w'=>ah (a=b) e∧Below w.heap.size w w':=by
 have lo:=aI ha.edit.oc.1 ha.edit.oc.2;have ln:=aI ha.edit.nc.1 ha.edit.nc.2;have lo':=aI hb.edit.oc.1 hb.edit.oc.2;have PW:=aI hb.edit.nc.1 hb.edit.nc.2;have Ha:=hide ha;have Hb:=hide hb;have Bc:=hide (Pt.eq_all (a:=a) (b:=b));have lX:=hide (And.intro (dZ (s:=a.file) (t:=b.file)) (And.intro (dZ (s:=a.text) (t:=b.text)) (And.intro (dZ (s:=a.edit.frm) (t:=b.edit.frm)) (dZ (s:=a.edit.to) (t:=b.edit.to)))));clear ha hb;go_enter Tryz.func175,Tryz.ntmps175
 go_wp2_with fail
 go_region
 all_goals go_wp2_with(first
  | (go_at_call 215;(with_reducible refine(O9 (Ha.out.hunk.old.below (O7 _ _ _ _)) (Hb.out.hunk.old.below (O7 _ _ _ _))).mono ?_);rintro e w1 ⟨⟨b1,rfl,hb⟩,q,rfl⟩;have Hb1:=hide hb;clear hb)
  | (go_at_call 215;(with_reducible refine(O9 (Ha.out.hunk.new.below (di (Dz _ _ _ _) _)) (Hb.out.hunk.new.below (di (Dz _ _ _ _) _))).mono ?_);rintro e w1 ⟨⟨b2,rfl,hb⟩,q,rfl⟩;have Hb2:=hide hb;clear hb)
  | (go_at_call 223;(with_reducible refine(XO (Ha.out.edit.path.below (di (Dz _ _ _ _) _)) (Hb.out.edit.path.below (di (Dz _ _ _ _) _))).mono ?_);rintro e w1 ⟨⟨b3,rfl,hb⟩,q,rfl⟩;have Hb3:=hide hb;clear hb)
  | (go_at_call 224;(with_reducible refine(Pg (Ha.out.edit.old.below (di (Dz _ _ _ _) _)) (Hb.out.edit.old.below (di (Dz _ _ _ _) _)) lo lo').mono ?_);rintro e w2 ⟨⟨b4,rfl,hb⟩,hB⟩;have Hb4:=hide hb;have HB:=hide (aW (di (Dz _ _ _ _) _) hB);obtain⟨hc,hf⟩:=iP hB;have hz:w.heap.size+3<w2.heap.size:=(by have:=hB.size;simp at this;omega);clear hb hB)
  | (go_at_call 224;(with_reducible refine(Pg (Ha.out.edit.new.below HB.out) (Hb.out.edit.new.below HB.out) ln PW).mono ?_);rintro e w3 ⟨⟨b5,rfl,hb⟩,hB⟩;have Hb5:=hide hb;have HB3:=hide (aW HB.out hB);clear hb hB))
 all_goals
  go_ret;go_tidy;refine⟨ah.mk ?_,?_⟩
  ·rw[Bc.out]
   first
    | (have lu:=Hb1.out;have oM:=Hb2.out;have EZ:=Hb3.out;have PX:=Hb4.out;have Yt:=Hb5.out;clear Hb1 Hb2 Hb3 Hb4 Hb5;have ht:=lX.out;grind)
    | (have lu:=Hb1.out;have oM:=Hb2.out;have EZ:=Hb3.out;have PX:=Hb4.out;clear Hb1 Hb2 Hb3 Hb4;have ht:=lX.out;grind)
    | (have lu:=Hb1.out;have oM:=Hb2.out;have EZ:=Hb3.out;clear Hb1 Hb2 Hb3;have ht:=lX.out;grind)
    | (have lu:=Hb1.out;have oM:=Hb2.out;clear Hb1 Hb2;have ht:=lX.out;grind)
    | (have lu:=Hb1.out;clear Hb1;have ht:=lX.out;grind)
    | (have ht:=lX.out;grind)
  ·first
    | exact HB3.out
    | exact HB.out
    | exact O7 _ _ _ _
    | exact di (Dz _ _ _ _) _
end
end Go.Proofs.YtjjaojnglnpgaaaGreatDoor
