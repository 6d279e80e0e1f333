/- Part 31 of what mgTop rests on. -/
import Derived.Deep.RegionWith
import Derived.Deep.CutRange
import Derived.Deep.DeepCutAuto
import Derived.Test.YtialngdffhmobaaGreatDoorU11
import Derived.Test.YtialngdffhmobaaGreatDoorU12
import Derived.Test.YtialngdffhmobaaGreatDoorU09
import Derived.Test.YtialngdffhmobaaGreatDoorU07
import Derived.Test.YtialngdffhmobaaGreatDoorU00
set_option linter.unusedVariables false
set_option linter.unusedSimpArgs false
set_option maxHeartbeats 16000000
set_option maxRecDepth 1000000
namespace Go.Proofs.YtialngdffhmobaaGreatDoor
section
open Go.RowKit
theorem hkZero{S:Nat→Prop}{w:World}:HkIn S w ⟨none,0,none,0⟩ Hk.zero :=
 ⟨by simp[isInt64,Hk.zero],⟨.inl rfl,by simp[Hk.zero],by simp[Hk.zero]⟩,⟨.inl rfl,by simp[Hk.zero],by simp[Hk.zero]⟩,by simp[Hk.zero],by simp[Hk.zero]⟩
theorem edZero{S:Nat→Prop}{w:World}:EdIn S w ⟨none,0,none,0,none,0⟩ Ed.zero :=
 ⟨by simp[Ed.zero],⟨.inl rfl,by simp[Ed.zero],by simp[Ed.zero]⟩,by simp[isInt64,Ed.zero],by simp[isInt64,Ed.zero],Nat.zero_le _,Nat.zero_le _,trivial,trivial,by simp[Ed.zero],by simp[Ed.zero,Fo.len],by simp[Ed.zero,Fo.len]⟩
theorem ptOk_1{p:Pt}:PtOk {p with kind:=1}↔FileName p.file∧({p with kind:=1}:Pt)=⟨1,p.file,p.text,Hk.zero,Ed.zero⟩:=by
 unfold PtOk;simp
theorem ptOk_2{p:Pt}:PtOk {p with kind:=2}↔FileName p.file∧({p with kind:=2}:Pt)=⟨2,p.file,p.text,Hk.zero,Ed.zero⟩:=by
 unfold PtOk;simp
theorem ptOk_3{p:Pt}:PtOk {p with kind:=3}↔(HkOk p.hunk∧FileName p.file)∧({p with kind:=3}:Pt)=⟨3,p.file,noTxt,p.hunk,Ed.zero⟩:=by
 unfold PtOk;simp;grind
theorem ptOk_4{p:Pt}:PtOk {p with kind:=4}↔(EdOk p.edit∧FileName p.file)∧({p with kind:=4}:Pt)=⟨4,p.file,noTxt,Hk.zero,p.edit⟩:=by
 unfold PtOk;simp;grind
theorem patchSame_1{S:Nat→Prop}{x:Ph}{p:Pt}{w:World}(hp:PtIn S w x p):
  Calls Tryz.prog 38 #[.agg #[.int .u8 1,.string p.file,.string p.text,.int .i64 p.hunk.at_,.slice x.h.oA p.hunk.old.length x.h.oc,.slice x.h.nA p.hunk.new.length x.h.nc,.int .u8 p.edit.kind,.slice x.e.pA p.edit.path.length x.e.pc,.int .i64 p.edit.at_,.int .i64 p.edit.far,.string p.edit.frm,.string p.edit.to,.slice x.e.oA p.edit.old.len x.e.oc,.slice x.e.nA p.edit.new.len x.e.nc],.agg #[.int .u8 1,.string p.file,.string p.text,.int .i64 0,.slice none 0 0,.slice none 0 0,.int .u8 0,.slice none 0 0,.int .i64 0,.int .i64 0,.string {data:=#[]},.string {data:=#[]},.slice none 0 0,.slice none 0 0]] w fun e w'=>RetB (({p with kind:=1}:Pt)=⟨1,p.file,p.text,Hk.zero,Ed.zero⟩) e∧Below w.heap.size w w' :=
 patchSame_any (S:=S) (S':=S) (x:=x) (y:=⟨⟨none,0,none,0⟩,⟨none,0,none,0,none,0⟩⟩) (a:={p with kind:=1}) (b:=⟨1,p.file,p.text,Hk.zero,Ed.zero⟩) ⟨by show 1<256;omega,hp.file,hp.text,hp.hunk,hp.edit⟩ ⟨by show 1<256;omega,hp.file,hp.text,hkZero,edZero⟩
theorem patchSame_2{S:Nat→Prop}{x:Ph}{p:Pt}{w:World}(hp:PtIn S w x p):
  Calls Tryz.prog 38 #[.agg #[.int .u8 2,.string p.file,.string p.text,.int .i64 p.hunk.at_,.slice x.h.oA p.hunk.old.length x.h.oc,.slice x.h.nA p.hunk.new.length x.h.nc,.int .u8 p.edit.kind,.slice x.e.pA p.edit.path.length x.e.pc,.int .i64 p.edit.at_,.int .i64 p.edit.far,.string p.edit.frm,.string p.edit.to,.slice x.e.oA p.edit.old.len x.e.oc,.slice x.e.nA p.edit.new.len x.e.nc],.agg #[.int .u8 2,.string p.file,.string p.text,.int .i64 0,.slice none 0 0,.slice none 0 0,.int .u8 0,.slice none 0 0,.int .i64 0,.int .i64 0,.string {data:=#[]},.string {data:=#[]},.slice none 0 0,.slice none 0 0]] w fun e w'=>RetB (({p with kind:=2}:Pt)=⟨2,p.file,p.text,Hk.zero,Ed.zero⟩) e∧Below w.heap.size w w' :=
 patchSame_any (S:=S) (S':=S) (x:=x) (y:=⟨⟨none,0,none,0⟩,⟨none,0,none,0,none,0⟩⟩) (a:={p with kind:=2}) (b:=⟨2,p.file,p.text,Hk.zero,Ed.zero⟩) ⟨by show 2<256;omega,hp.file,hp.text,hp.hunk,hp.edit⟩ ⟨by show 2<256;omega,hp.file,hp.text,hkZero,edZero⟩
theorem patchSame_3{S:Nat→Prop}{x:Ph}{p:Pt}{w:World}(hp:PtIn S w x p):
  Calls Tryz.prog 38 #[.agg #[.int .u8 3,.string p.file,.string p.text,.int .i64 p.hunk.at_,.slice x.h.oA p.hunk.old.length x.h.oc,.slice x.h.nA p.hunk.new.length x.h.nc,.int .u8 p.edit.kind,.slice x.e.pA p.edit.path.length x.e.pc,.int .i64 p.edit.at_,.int .i64 p.edit.far,.string p.edit.frm,.string p.edit.to,.slice x.e.oA p.edit.old.len x.e.oc,.slice x.e.nA p.edit.new.len x.e.nc],.agg #[.int .u8 3,.string p.file,.string {data:=#[]},.int .i64 p.hunk.at_,.slice x.h.oA p.hunk.old.length x.h.oc,.slice x.h.nA p.hunk.new.length x.h.nc,.int .u8 0,.slice none 0 0,.int .i64 0,.int .i64 0,.string {data:=#[]},.string {data:=#[]},.slice none 0 0,.slice none 0 0]] w fun e w'=>RetB (({p with kind:=3}:Pt)=⟨3,p.file,noTxt,p.hunk,Ed.zero⟩) e∧Below w.heap.size w w' :=
 patchSame_any (S:=S) (S':=S) (x:=x) (y:=⟨x.h,⟨none,0,none,0,none,0⟩⟩) (a:={p with kind:=3}) (b:=⟨3,p.file,noTxt,p.hunk,Ed.zero⟩) ⟨by show 3<256;omega,hp.file,hp.text,hp.hunk,hp.edit⟩ ⟨by show 3<256;omega,hp.file,(Nat.zero_le _),hp.hunk,edZero⟩
theorem patchSame_4{S:Nat→Prop}{x:Ph}{p:Pt}{w:World}(hp:PtIn S w x p):
  Calls Tryz.prog 38 #[.agg #[.int .u8 4,.string p.file,.string p.text,.int .i64 p.hunk.at_,.slice x.h.oA p.hunk.old.length x.h.oc,.slice x.h.nA p.hunk.new.length x.h.nc,.int .u8 p.edit.kind,.slice x.e.pA p.edit.path.length x.e.pc,.int .i64 p.edit.at_,.int .i64 p.edit.far,.string p.edit.frm,.string p.edit.to,.slice x.e.oA p.edit.old.len x.e.oc,.slice x.e.nA p.edit.new.len x.e.nc],.agg #[.int .u8 4,.string p.file,.string {data:=#[]},.int .i64 0,.slice none 0 0,.slice none 0 0,.int .u8 p.edit.kind,.slice x.e.pA p.edit.path.length x.e.pc,.int .i64 p.edit.at_,.int .i64 p.edit.far,.string p.edit.frm,.string p.edit.to,.slice x.e.oA p.edit.old.len x.e.oc,.slice x.e.nA p.edit.new.len x.e.nc]] w fun e w'=>RetB (({p with kind:=4}:Pt)=⟨4,p.file,noTxt,Hk.zero,p.edit⟩) e∧Below w.heap.size w w' :=
 patchSame_any (S:=S) (S':=S) (x:=x) (y:=⟨⟨none,0,none,0⟩,x.e⟩) (a:={p with kind:=4}) (b:=⟨4,p.file,noTxt,Hk.zero,p.edit⟩) ⟨by show 4<256;omega,hp.file,hp.text,hp.hunk,hp.edit⟩ ⟨by show 4<256;omega,hp.file,(Nat.zero_le _),hkZero,hp.edit⟩
theorem patchRight_1{S:Nat→Prop}{x:Ph}{p:Pt}{w:World}(hp:PtIn S w x p):
  Calls Tryz.prog 15 #[.agg #[.int .u8 1,.string p.file,.string p.text,.int .i64 p.hunk.at_,.slice x.h.oA p.hunk.old.length x.h.oc,.slice x.h.nA p.hunk.new.length x.h.nc,.int .u8 p.edit.kind,.slice x.e.pA p.edit.path.length x.e.pc,.int .i64 p.edit.at_,.int .i64 p.edit.far,.string p.edit.frm,.string p.edit.to,.slice x.e.oA p.edit.old.len x.e.oc,.slice x.e.nA p.edit.new.len x.e.nc]] w fun e w'=>RetB (PtOk {p with kind:=1}) e∧Below w.heap.size w w':=by
 have Hp:=hide hp;have hfile:=hp.file;have Hok:=hide (@ptOk_1 p);clear hp;go_enter Tryz.func15,Tryz.ntmps15
 go_wp2_with(first
  | (go_at_call 37;(with_reducible refine(patchName_any p.file _ hfile).mono ?_);rintro e1 w1 ⟨⟨_|_,rfl,hb⟩,rfl⟩<;>(have Hn:=hide hb;clear hb))
  | (go_at_call 38;(with_reducible refine(patchSame_1 (Hp.out.below (below2 _ _))).mono ?_);rintro e1 w2 ⟨⟨b,rfl,hb⟩,hB⟩;have Hs:=hide hb;have HB:=hide (blw_up2 hB);clear hb hB))
 all_goals(go_ret;go_tidy)
 all_goals refine⟨RetB.mk ?_,(by first|exact HB.out|exact below2 _ _)⟩
 all_goals rw[Hok.out]
 all_goals have hn:=Hn.out
 all_goals(try have hs:=Hs.out)
 all_goals grind
theorem patchRight_2{S:Nat→Prop}{x:Ph}{p:Pt}{w:World}(hp:PtIn S w x p):
  Calls Tryz.prog 15 #[.agg #[.int .u8 2,.string p.file,.string p.text,.int .i64 p.hunk.at_,.slice x.h.oA p.hunk.old.length x.h.oc,.slice x.h.nA p.hunk.new.length x.h.nc,.int .u8 p.edit.kind,.slice x.e.pA p.edit.path.length x.e.pc,.int .i64 p.edit.at_,.int .i64 p.edit.far,.string p.edit.frm,.string p.edit.to,.slice x.e.oA p.edit.old.len x.e.oc,.slice x.e.nA p.edit.new.len x.e.nc]] w fun e w'=>RetB (PtOk {p with kind:=2}) e∧Below w.heap.size w w':=by
 have Hp:=hide hp;have hfile:=hp.file;have Hok:=hide (@ptOk_2 p);clear hp;go_enter Tryz.func15,Tryz.ntmps15
 go_wp2_with(first
  | (go_at_call 37;(with_reducible refine(patchName_any p.file _ hfile).mono ?_);rintro e1 w1 ⟨⟨_|_,rfl,hb⟩,rfl⟩<;>(have Hn:=hide hb;clear hb))
  | (go_at_call 38;(with_reducible refine(patchSame_2 (Hp.out.below (below2 _ _))).mono ?_);rintro e1 w2 ⟨⟨b,rfl,hb⟩,hB⟩;have Hs:=hide hb;have HB:=hide (blw_up2 hB);clear hb hB))
 all_goals(go_ret;go_tidy)
 all_goals refine⟨RetB.mk ?_,(by first|exact HB.out|exact below2 _ _)⟩
 all_goals rw[Hok.out]
 all_goals have hn:=Hn.out
 all_goals(try have hs:=Hs.out)
 all_goals grind
theorem patchRight_0{S:Nat→Prop}{x:Ph}{p:Pt}{w:World}(hp:PtIn S w x p)(h1 :¬(p.kind:Int)=1)(h2 :¬(p.kind:Int)=2)(h3 :¬(p.kind:Int)=3)(h4 :¬(p.kind:Int)=4):
  Calls Tryz.prog 15 #[.agg #[.int .u8 p.kind,.string p.file,.string p.text,.int .i64 p.hunk.at_,.slice x.h.oA p.hunk.old.length x.h.oc,.slice x.h.nA p.hunk.new.length x.h.nc,.int .u8 p.edit.kind,.slice x.e.pA p.edit.path.length x.e.pc,.int .i64 p.edit.at_,.int .i64 p.edit.far,.string p.edit.frm,.string p.edit.to,.slice x.e.oA p.edit.old.len x.e.oc,.slice x.e.nA p.edit.new.len x.e.nc]] w fun e w'=>RetB (PtOk p) e∧Below w.heap.size w w':=by
 have Hok:Hid (¬PtOk p):=hide (by unfold PtOk;omega);clear hp;go_enter Tryz.func15,Tryz.ntmps15
 go_wp2_with fail
 all_goals(go_ret;go_tidy)
 all_goals exact⟨RetB.no Hok.out,below2 _ _⟩
end
end Go.Proofs.YtialngdffhmobaaGreatDoor
