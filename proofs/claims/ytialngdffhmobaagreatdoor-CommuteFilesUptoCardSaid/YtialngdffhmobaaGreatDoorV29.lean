/- Part 30 of what commuteFiles_cardUpto rests on. -/
import Derived.Deep.RegionWith
import Derived.Deep.CutRange
import Derived.Deep.DeepCutAuto
import Derived.Test.YtialngdffhmobaaGreatDoorV15
import Derived.Test.YtialngdffhmobaaGreatDoorV17
import Derived.Test.YtialngdffhmobaaGreatDoorV11
import Derived.Test.YtialngdffhmobaaGreatDoorV05
import Derived.Test.YtialngdffhmobaaGreatDoorV00
set_option linter.unusedVariables false
set_option linter.unusedSimpArgs false
set_option maxHeartbeats 16000000
set_option maxRecDepth 1000000
namespace Go.Proofs.YtialngdffhmobaaGreatDoor
section
open Go.RowKit
theorem nV{S:Nat→Prop}{w:World}:jv S w ⟨none,0,none,0⟩ Hk.zero :=
 ⟨by simp[aU,Hk.zero],⟨.inl rfl,by simp[Hk.zero],by simp[Hk.zero]⟩,⟨.inl rfl,by simp[Hk.zero],by simp[Hk.zero]⟩,by simp[Hk.zero],by simp[Hk.zero]⟩
theorem nX{S:Nat→Prop}{w:World}:gq S w ⟨none,0,none,0,none,0⟩ Ed.zero :=
 ⟨by simp[Ed.zero],⟨.inl rfl,by simp[Ed.zero],by simp[Ed.zero]⟩,by simp[aU,Ed.zero],by simp[aU,Ed.zero],Nat.zero_le _,Nat.zero_le _,trivial,trivial,by simp[Ed.zero],by simp[Ed.zero,Fo.len],by simp[Ed.zero,Fo.len]⟩
theorem yF{p:Pt}:bF {p with kind:=1}↔dF p.file∧({p with kind:=1}:Pt)=⟨1,p.file,p.text,Hk.zero,Ed.zero⟩:=by
 unfold bF;simp
theorem yG{p:Pt}:bF {p with kind:=2}↔dF p.file∧({p with kind:=2}:Pt)=⟨2,p.file,p.text,Hk.zero,Ed.zero⟩:=by
 unfold bF;simp
theorem yH{p:Pt}:bF {p with kind:=3}↔(dN p.hunk∧dF p.file)∧({p with kind:=3}:Pt)=⟨3,p.file,aV,p.hunk,Ed.zero⟩:=by
 unfold bF;simp;grind
theorem yI{p:Pt}:bF {p with kind:=4}↔(bQ p.edit∧dF p.file)∧({p with kind:=4}:Pt)=⟨4,p.file,aV,Hk.zero,p.edit⟩:=by
 unfold bF;simp;grind
theorem Nk{S:Nat→Prop}{x:Ph}{p:Pt}{w:World}(hp:gu S w x p):
  Calls Tryz.prog 38 #[.agg #[.int .u8 1,.string p.file,.string p.text,.int .i64 p.hunk.at_,.slice x.h.oA p.hunk.old.length x.h.oc,.slice x.h.nA p.hunk.new.length x.h.nc,.int .u8 p.edit.kind,.slice x.e.pA p.edit.path.length x.e.pc,.int .i64 p.edit.at_,.int .i64 p.edit.far,.string p.edit.frm,.string p.edit.to,.slice x.e.oA p.edit.old.len x.e.oc,.slice x.e.nA p.edit.new.len x.e.nc],.agg #[.int .u8 1,.string p.file,.string p.text,.int .i64 0,.slice none 0 0,.slice none 0 0,.int .u8 0,.slice none 0 0,.int .i64 0,.int .i64 0,.string {data:=#[]},.string {data:=#[]},.slice none 0 0,.slice none 0 0]] w fun e w'=>ay (({p with kind:=1}:Pt)=⟨1,p.file,p.text,Hk.zero,Ed.zero⟩) e∧Below w.heap.size w w' :=
 Dl (S:=S) (S':=S) (x:=x) (y:=⟨⟨none,0,none,0⟩,⟨none,0,none,0,none,0⟩⟩) (a:={p with kind:=1}) (b:=⟨1,p.file,p.text,Hk.zero,Ed.zero⟩) ⟨by show 1<256;omega,hp.file,hp.text,hp.hunk,hp.edit⟩ ⟨by show 1<256;omega,hp.file,hp.text,nV,nX⟩
theorem Nl{S:Nat→Prop}{x:Ph}{p:Pt}{w:World}(hp:gu S w x p):
  Calls Tryz.prog 38 #[.agg #[.int .u8 2,.string p.file,.string p.text,.int .i64 p.hunk.at_,.slice x.h.oA p.hunk.old.length x.h.oc,.slice x.h.nA p.hunk.new.length x.h.nc,.int .u8 p.edit.kind,.slice x.e.pA p.edit.path.length x.e.pc,.int .i64 p.edit.at_,.int .i64 p.edit.far,.string p.edit.frm,.string p.edit.to,.slice x.e.oA p.edit.old.len x.e.oc,.slice x.e.nA p.edit.new.len x.e.nc],.agg #[.int .u8 2,.string p.file,.string p.text,.int .i64 0,.slice none 0 0,.slice none 0 0,.int .u8 0,.slice none 0 0,.int .i64 0,.int .i64 0,.string {data:=#[]},.string {data:=#[]},.slice none 0 0,.slice none 0 0]] w fun e w'=>ay (({p with kind:=2}:Pt)=⟨2,p.file,p.text,Hk.zero,Ed.zero⟩) e∧Below w.heap.size w w' :=
 Dl (S:=S) (S':=S) (x:=x) (y:=⟨⟨none,0,none,0⟩,⟨none,0,none,0,none,0⟩⟩) (a:={p with kind:=2}) (b:=⟨2,p.file,p.text,Hk.zero,Ed.zero⟩) ⟨by show 2<256;omega,hp.file,hp.text,hp.hunk,hp.edit⟩ ⟨by show 2<256;omega,hp.file,hp.text,nV,nX⟩
theorem Np{S:Nat→Prop}{x:Ph}{p:Pt}{w:World}(hp:gu S w x p):
  Calls Tryz.prog 38 #[.agg #[.int .u8 3,.string p.file,.string p.text,.int .i64 p.hunk.at_,.slice x.h.oA p.hunk.old.length x.h.oc,.slice x.h.nA p.hunk.new.length x.h.nc,.int .u8 p.edit.kind,.slice x.e.pA p.edit.path.length x.e.pc,.int .i64 p.edit.at_,.int .i64 p.edit.far,.string p.edit.frm,.string p.edit.to,.slice x.e.oA p.edit.old.len x.e.oc,.slice x.e.nA p.edit.new.len x.e.nc],.agg #[.int .u8 3,.string p.file,.string {data:=#[]},.int .i64 p.hunk.at_,.slice x.h.oA p.hunk.old.length x.h.oc,.slice x.h.nA p.hunk.new.length x.h.nc,.int .u8 0,.slice none 0 0,.int .i64 0,.int .i64 0,.string {data:=#[]},.string {data:=#[]},.slice none 0 0,.slice none 0 0]] w fun e w'=>ay (({p with kind:=3}:Pt)=⟨3,p.file,aV,p.hunk,Ed.zero⟩) e∧Below w.heap.size w w' :=
 Dl (S:=S) (S':=S) (x:=x) (y:=⟨x.h,⟨none,0,none,0,none,0⟩⟩) (a:={p with kind:=3}) (b:=⟨3,p.file,aV,p.hunk,Ed.zero⟩) ⟨by show 3<256;omega,hp.file,hp.text,hp.hunk,hp.edit⟩ ⟨by show 3<256;omega,hp.file,(Nat.zero_le _),hp.hunk,nX⟩
theorem Nq{S:Nat→Prop}{x:Ph}{p:Pt}{w:World}(hp:gu S w x p):
  Calls Tryz.prog 38 #[.agg #[.int .u8 4,.string p.file,.string p.text,.int .i64 p.hunk.at_,.slice x.h.oA p.hunk.old.length x.h.oc,.slice x.h.nA p.hunk.new.length x.h.nc,.int .u8 p.edit.kind,.slice x.e.pA p.edit.path.length x.e.pc,.int .i64 p.edit.at_,.int .i64 p.edit.far,.string p.edit.frm,.string p.edit.to,.slice x.e.oA p.edit.old.len x.e.oc,.slice x.e.nA p.edit.new.len x.e.nc],.agg #[.int .u8 4,.string p.file,.string {data:=#[]},.int .i64 0,.slice none 0 0,.slice none 0 0,.int .u8 p.edit.kind,.slice x.e.pA p.edit.path.length x.e.pc,.int .i64 p.edit.at_,.int .i64 p.edit.far,.string p.edit.frm,.string p.edit.to,.slice x.e.oA p.edit.old.len x.e.oc,.slice x.e.nA p.edit.new.len x.e.nc]] w fun e w'=>ay (({p with kind:=4}:Pt)=⟨4,p.file,aV,Hk.zero,p.edit⟩) e∧Below w.heap.size w w' :=
 Dl (S:=S) (S':=S) (x:=x) (y:=⟨⟨none,0,none,0⟩,x.e⟩) (a:={p with kind:=4}) (b:=⟨4,p.file,aV,Hk.zero,p.edit⟩) ⟨by show 4<256;omega,hp.file,hp.text,hp.hunk,hp.edit⟩ ⟨by show 4<256;omega,hp.file,(Nat.zero_le _),nV,hp.edit⟩
theorem Nr{S:Nat→Prop}{x:Ph}{p:Pt}{w:World}(hp:gu S w x p):
  Calls Tryz.prog 15 #[.agg #[.int .u8 1,.string p.file,.string p.text,.int .i64 p.hunk.at_,.slice x.h.oA p.hunk.old.length x.h.oc,.slice x.h.nA p.hunk.new.length x.h.nc,.int .u8 p.edit.kind,.slice x.e.pA p.edit.path.length x.e.pc,.int .i64 p.edit.at_,.int .i64 p.edit.far,.string p.edit.frm,.string p.edit.to,.slice x.e.oA p.edit.old.len x.e.oc,.slice x.e.nA p.edit.new.len x.e.nc]] w fun e w'=>ay (bF {p with kind:=1}) e∧Below w.heap.size w w':=by
 have Hp:=hide hp;have kW:=hp.file;have fQ:=hide (@yF p);clear hp;go_enter Tryz.func15,Tryz.ntmps15
 go_wp2_with(first
  | (go_at_call 37;(with_reducible refine(Dc p.file _ kW).mono ?_);rintro e1 w1 ⟨⟨_|_,rfl,hb⟩,rfl⟩<;>(have Hn:=hide hb;clear hb))
  | (go_at_call 38;(with_reducible refine(Nk (Hp.out.below (dW _ _))).mono ?_);rintro e1 w2 ⟨⟨b,rfl,hb⟩,hB⟩;have Hs:=hide hb;have HB:=hide (qY hB);clear hb hB))
 all_goals(go_ret;go_tidy)
 all_goals refine⟨ay.mk ?_,(by first|exact HB.out|exact dW _ _)⟩
 all_goals rw[fQ.out]
 all_goals have hn:=Hn.out
 all_goals(try have hs:=Hs.out)
 all_goals grind
theorem Ns{S:Nat→Prop}{x:Ph}{p:Pt}{w:World}(hp:gu S w x p):
  Calls Tryz.prog 15 #[.agg #[.int .u8 2,.string p.file,.string p.text,.int .i64 p.hunk.at_,.slice x.h.oA p.hunk.old.length x.h.oc,.slice x.h.nA p.hunk.new.length x.h.nc,.int .u8 p.edit.kind,.slice x.e.pA p.edit.path.length x.e.pc,.int .i64 p.edit.at_,.int .i64 p.edit.far,.string p.edit.frm,.string p.edit.to,.slice x.e.oA p.edit.old.len x.e.oc,.slice x.e.nA p.edit.new.len x.e.nc]] w fun e w'=>ay (bF {p with kind:=2}) e∧Below w.heap.size w w':=by
 have Hp:=hide hp;have kW:=hp.file;have fQ:=hide (@yG p);clear hp;go_enter Tryz.func15,Tryz.ntmps15
 go_wp2_with(first
  | (go_at_call 37;(with_reducible refine(Dc p.file _ kW).mono ?_);rintro e1 w1 ⟨⟨_|_,rfl,hb⟩,rfl⟩<;>(have Hn:=hide hb;clear hb))
  | (go_at_call 38;(with_reducible refine(Nl (Hp.out.below (dW _ _))).mono ?_);rintro e1 w2 ⟨⟨b,rfl,hb⟩,hB⟩;have Hs:=hide hb;have HB:=hide (qY hB);clear hb hB))
 all_goals(go_ret;go_tidy)
 all_goals refine⟨ay.mk ?_,(by first|exact HB.out|exact dW _ _)⟩
 all_goals rw[fQ.out]
 all_goals have hn:=Hn.out
 all_goals(try have hs:=Hs.out)
 all_goals grind
theorem Nu{S:Nat→Prop}{x:Ph}{p:Pt}{w:World}(hp:gu S w x p)(h1 :¬(p.kind:Int)=1)(h2 :¬(p.kind:Int)=2)(h3 :¬(p.kind:Int)=3)(h4 :¬(p.kind:Int)=4):
  Calls Tryz.prog 15 #[.agg #[.int .u8 p.kind,.string p.file,.string p.text,.int .i64 p.hunk.at_,.slice x.h.oA p.hunk.old.length x.h.oc,.slice x.h.nA p.hunk.new.length x.h.nc,.int .u8 p.edit.kind,.slice x.e.pA p.edit.path.length x.e.pc,.int .i64 p.edit.at_,.int .i64 p.edit.far,.string p.edit.frm,.string p.edit.to,.slice x.e.oA p.edit.old.len x.e.oc,.slice x.e.nA p.edit.new.len x.e.nc]] w fun e w'=>ay (bF p) e∧Below w.heap.size w w':=by
 have fQ:Hid (¬bF p):=hide (by unfold bF;omega);clear hp;go_enter Tryz.func15,Tryz.ntmps15
 go_wp2_with fail
 all_goals(go_ret;go_tidy)
 all_goals exact⟨ay.no fQ.out,dW _ _⟩
end
end Go.Proofs.YtialngdffhmobaaGreatDoor
