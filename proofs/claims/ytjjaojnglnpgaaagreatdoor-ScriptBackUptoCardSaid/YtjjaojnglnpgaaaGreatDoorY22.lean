/- Part 23 of what scriptBack_cardUpto rests on. -/
import Derived.Deep.RegionWith
import Derived.Deep.CutRange
import Derived.Deep.DeepCutAuto
import Derived.Test.YtjjaojnglnpgaaaGreatDoorY08
import Derived.Test.YtjjaojnglnpgaaaGreatDoorY10
import Derived.Test.YtjjaojnglnpgaaaGreatDoorY14
import Derived.Test.YtjjaojnglnpgaaaGreatDoorY04
import Derived.Test.YtjjaojnglnpgaaaGreatDoorY00
set_option linter.unusedVariables false
set_option linter.unusedSimpArgs false
set_option maxHeartbeats 16000000
set_option maxRecDepth 1000000
namespace Go.Proofs.YtjjaojnglnpgaaaGreatDoor
section
open Go.RowKit
theorem nG{S:Nat→Prop}{w:World}:gW S w ⟨none,0,none,0⟩ Hk.zero :=
 ⟨by simp[ay,Hk.zero],⟨.inl rfl,by simp[Hk.zero],by simp[Hk.zero]⟩,⟨.inl rfl,by simp[Hk.zero],by simp[Hk.zero]⟩,by simp[Hk.zero],by simp[Hk.zero]⟩
theorem nH{S:Nat→Prop}{w:World}:dD S w ⟨none,0,none,0,none,0⟩ Ed.zero :=
 ⟨by simp[Ed.zero],⟨.inl rfl,by simp[Ed.zero],by simp[Ed.zero]⟩,by simp[ay,Ed.zero],by simp[ay,Ed.zero],Nat.zero_le _,Nat.zero_le _,trivial,trivial,by simp[Ed.zero],by simp[Ed.zero,Fo.len],by simp[Ed.zero,Fo.len]⟩
theorem Dy{p:Pt}:bV {p with kind:=1}↔eu p.file∧({p with kind:=1}:Pt)=⟨1,p.file,p.text,Hk.zero,Ed.zero⟩:=by
 unfold bV;simp
theorem Dz{p:Pt}:bV {p with kind:=2}↔eu p.file∧({p with kind:=2}:Pt)=⟨2,p.file,p.text,Hk.zero,Ed.zero⟩:=by
 unfold bV;simp
theorem DC{p:Pt}:bV {p with kind:=3}↔(yl p.hunk∧eu p.file)∧({p with kind:=3}:Pt)=⟨3,p.file,ae,p.hunk,Ed.zero⟩:=by
 unfold bV;simp;grind
theorem DD{p:Pt}:bV {p with kind:=4}↔(eY p.edit∧eu p.file)∧({p with kind:=4}:Pt)=⟨4,p.file,ae,Hk.zero,p.edit⟩:=by
 unfold bV;simp;grind
theorem Ye{S:Nat→Prop}{x:Ph}{p:Pt}{w:World}(hp:aV S w x p):
  Calls Tryz.prog 175 #[.agg #[.int .u8 1,.string p.file,.string p.text,.int .i64 p.hunk.at_,.slice x.h.oA p.hunk.old.length x.h.oc,.slice x.h.nA p.hunk.new.length x.h.nc,.int .u8 p.edit.kind,.slice x.e.pA p.edit.path.length x.e.pc,.int .i64 p.edit.at_,.int .i64 p.edit.far,.string p.edit.frm,.string p.edit.to,.slice x.e.oA p.edit.old.len x.e.oc,.slice x.e.nA p.edit.new.len x.e.nc],.agg #[.int .u8 1,.string p.file,.string p.text,.int .i64 0,.slice none 0 0,.slice none 0 0,.int .u8 0,.slice none 0 0,.int .i64 0,.int .i64 0,.string {data:=#[]},.string {data:=#[]},.slice none 0 0,.slice none 0 0]] w fun e w'=>ag (({p with kind:=1}:Pt)=⟨1,p.file,p.text,Hk.zero,Ed.zero⟩) e∧Below w.heap.size w w' :=
 JM (S:=S) (S':=S) (x:=x) (y:=⟨⟨none,0,none,0⟩,⟨none,0,none,0,none,0⟩⟩) (a:={p with kind:=1}) (b:=⟨1,p.file,p.text,Hk.zero,Ed.zero⟩) ⟨by show 1<256;omega,hp.file,hp.text,hp.hunk,hp.edit⟩ ⟨by show 1<256;omega,hp.file,hp.text,nG,nH⟩
theorem Yf{S:Nat→Prop}{x:Ph}{p:Pt}{w:World}(hp:aV S w x p):
  Calls Tryz.prog 175 #[.agg #[.int .u8 2,.string p.file,.string p.text,.int .i64 p.hunk.at_,.slice x.h.oA p.hunk.old.length x.h.oc,.slice x.h.nA p.hunk.new.length x.h.nc,.int .u8 p.edit.kind,.slice x.e.pA p.edit.path.length x.e.pc,.int .i64 p.edit.at_,.int .i64 p.edit.far,.string p.edit.frm,.string p.edit.to,.slice x.e.oA p.edit.old.len x.e.oc,.slice x.e.nA p.edit.new.len x.e.nc],.agg #[.int .u8 2,.string p.file,.string p.text,.int .i64 0,.slice none 0 0,.slice none 0 0,.int .u8 0,.slice none 0 0,.int .i64 0,.int .i64 0,.string {data:=#[]},.string {data:=#[]},.slice none 0 0,.slice none 0 0]] w fun e w'=>ag (({p with kind:=2}:Pt)=⟨2,p.file,p.text,Hk.zero,Ed.zero⟩) e∧Below w.heap.size w w' :=
 JM (S:=S) (S':=S) (x:=x) (y:=⟨⟨none,0,none,0⟩,⟨none,0,none,0,none,0⟩⟩) (a:={p with kind:=2}) (b:=⟨2,p.file,p.text,Hk.zero,Ed.zero⟩) ⟨by show 2<256;omega,hp.file,hp.text,hp.hunk,hp.edit⟩ ⟨by show 2<256;omega,hp.file,hp.text,nG,nH⟩
theorem Yg{S:Nat→Prop}{x:Ph}{p:Pt}{w:World}(hp:aV S w x p):
  Calls Tryz.prog 175 #[.agg #[.int .u8 3,.string p.file,.string p.text,.int .i64 p.hunk.at_,.slice x.h.oA p.hunk.old.length x.h.oc,.slice x.h.nA p.hunk.new.length x.h.nc,.int .u8 p.edit.kind,.slice x.e.pA p.edit.path.length x.e.pc,.int .i64 p.edit.at_,.int .i64 p.edit.far,.string p.edit.frm,.string p.edit.to,.slice x.e.oA p.edit.old.len x.e.oc,.slice x.e.nA p.edit.new.len x.e.nc],.agg #[.int .u8 3,.string p.file,.string {data:=#[]},.int .i64 p.hunk.at_,.slice x.h.oA p.hunk.old.length x.h.oc,.slice x.h.nA p.hunk.new.length x.h.nc,.int .u8 0,.slice none 0 0,.int .i64 0,.int .i64 0,.string {data:=#[]},.string {data:=#[]},.slice none 0 0,.slice none 0 0]] w fun e w'=>ag (({p with kind:=3}:Pt)=⟨3,p.file,ae,p.hunk,Ed.zero⟩) e∧Below w.heap.size w w' :=
 JM (S:=S) (S':=S) (x:=x) (y:=⟨x.h,⟨none,0,none,0,none,0⟩⟩) (a:={p with kind:=3}) (b:=⟨3,p.file,ae,p.hunk,Ed.zero⟩) ⟨by show 3<256;omega,hp.file,hp.text,hp.hunk,hp.edit⟩ ⟨by show 3<256;omega,hp.file,(Nat.zero_le _),hp.hunk,nH⟩
theorem Yh{S:Nat→Prop}{x:Ph}{p:Pt}{w:World}(hp:aV S w x p):
  Calls Tryz.prog 175 #[.agg #[.int .u8 4,.string p.file,.string p.text,.int .i64 p.hunk.at_,.slice x.h.oA p.hunk.old.length x.h.oc,.slice x.h.nA p.hunk.new.length x.h.nc,.int .u8 p.edit.kind,.slice x.e.pA p.edit.path.length x.e.pc,.int .i64 p.edit.at_,.int .i64 p.edit.far,.string p.edit.frm,.string p.edit.to,.slice x.e.oA p.edit.old.len x.e.oc,.slice x.e.nA p.edit.new.len x.e.nc],.agg #[.int .u8 4,.string p.file,.string {data:=#[]},.int .i64 0,.slice none 0 0,.slice none 0 0,.int .u8 p.edit.kind,.slice x.e.pA p.edit.path.length x.e.pc,.int .i64 p.edit.at_,.int .i64 p.edit.far,.string p.edit.frm,.string p.edit.to,.slice x.e.oA p.edit.old.len x.e.oc,.slice x.e.nA p.edit.new.len x.e.nc]] w fun e w'=>ag (({p with kind:=4}:Pt)=⟨4,p.file,ae,Hk.zero,p.edit⟩) e∧Below w.heap.size w w' :=
 JM (S:=S) (S':=S) (x:=x) (y:=⟨⟨none,0,none,0⟩,x.e⟩) (a:={p with kind:=4}) (b:=⟨4,p.file,ae,Hk.zero,p.edit⟩) ⟨by show 4<256;omega,hp.file,hp.text,hp.hunk,hp.edit⟩ ⟨by show 4<256;omega,hp.file,(Nat.zero_le _),nG,hp.edit⟩
theorem Yi{S:Nat→Prop}{x:Ph}{p:Pt}{w:World}(hp:aV S w x p):
  Calls Tryz.prog 114 #[.agg #[.int .u8 1,.string p.file,.string p.text,.int .i64 p.hunk.at_,.slice x.h.oA p.hunk.old.length x.h.oc,.slice x.h.nA p.hunk.new.length x.h.nc,.int .u8 p.edit.kind,.slice x.e.pA p.edit.path.length x.e.pc,.int .i64 p.edit.at_,.int .i64 p.edit.far,.string p.edit.frm,.string p.edit.to,.slice x.e.oA p.edit.old.len x.e.oc,.slice x.e.nA p.edit.new.len x.e.nc]] w fun e w'=>ag (bV {p with kind:=1}) e∧Below w.heap.size w w':=by
 have Hp:=hide hp;have gp:=hp.file;have fU:=hide (@Dy p);clear hp;go_enter Tryz.func114,Tryz.ntmps114
 go_wp2_with(first
  | (go_at_call 174;(with_reducible refine(Jz p.file _ gp).mono ?_);rintro e1 w1 ⟨⟨_|_,rfl,hb⟩,rfl⟩<;>(have Hn:=hide hb;clear hb))
  | (go_at_call 175;(with_reducible refine(Ye (Hp.out.below (fO _ _))).mono ?_);rintro e1 w2 ⟨⟨b,rfl,hb⟩,hB⟩;have Hs:=hide hb;have HB:=hide (Am hB);clear hb hB))
 all_goals(go_ret;go_tidy)
 all_goals refine⟨ag.mk ?_,(by first|exact HB.out|exact fO _ _)⟩
 all_goals rw[fU.out]
 all_goals have hn:=Hn.out
 all_goals(try have hs:=Hs.out)
 all_goals grind
theorem Yj{S:Nat→Prop}{x:Ph}{p:Pt}{w:World}(hp:aV S w x p):
  Calls Tryz.prog 114 #[.agg #[.int .u8 2,.string p.file,.string p.text,.int .i64 p.hunk.at_,.slice x.h.oA p.hunk.old.length x.h.oc,.slice x.h.nA p.hunk.new.length x.h.nc,.int .u8 p.edit.kind,.slice x.e.pA p.edit.path.length x.e.pc,.int .i64 p.edit.at_,.int .i64 p.edit.far,.string p.edit.frm,.string p.edit.to,.slice x.e.oA p.edit.old.len x.e.oc,.slice x.e.nA p.edit.new.len x.e.nc]] w fun e w'=>ag (bV {p with kind:=2}) e∧Below w.heap.size w w':=by
 have Hp:=hide hp;have gp:=hp.file;have fU:=hide (@Dz p);clear hp;go_enter Tryz.func114,Tryz.ntmps114
 go_wp2_with(first
  | (go_at_call 174;(with_reducible refine(Jz p.file _ gp).mono ?_);rintro e1 w1 ⟨⟨_|_,rfl,hb⟩,rfl⟩<;>(have Hn:=hide hb;clear hb))
  | (go_at_call 175;(with_reducible refine(Yf (Hp.out.below (fO _ _))).mono ?_);rintro e1 w2 ⟨⟨b,rfl,hb⟩,hB⟩;have Hs:=hide hb;have HB:=hide (Am hB);clear hb hB))
 all_goals(go_ret;go_tidy)
 all_goals refine⟨ag.mk ?_,(by first|exact HB.out|exact fO _ _)⟩
 all_goals rw[fU.out]
 all_goals have hn:=Hn.out
 all_goals(try have hs:=Hs.out)
 all_goals grind
theorem Yk{S:Nat→Prop}{x:Ph}{p:Pt}{w:World}(hp:aV S w x p)(h1 :¬(p.kind:Int)=1)(h2 :¬(p.kind:Int)=2)(h3 :¬(p.kind:Int)=3)(h4 :¬(p.kind:Int)=4):
  Calls Tryz.prog 114 #[.agg #[.int .u8 p.kind,.string p.file,.string p.text,.int .i64 p.hunk.at_,.slice x.h.oA p.hunk.old.length x.h.oc,.slice x.h.nA p.hunk.new.length x.h.nc,.int .u8 p.edit.kind,.slice x.e.pA p.edit.path.length x.e.pc,.int .i64 p.edit.at_,.int .i64 p.edit.far,.string p.edit.frm,.string p.edit.to,.slice x.e.oA p.edit.old.len x.e.oc,.slice x.e.nA p.edit.new.len x.e.nc]] w fun e w'=>ag (bV p) e∧Below w.heap.size w w':=by
 have fU:Hid (¬bV p):=hide (by unfold bV;omega);clear hp;go_enter Tryz.func114,Tryz.ntmps114
 go_wp2_with fail
 all_goals(go_ret;go_tidy)
 all_goals exact⟨ag.no fU.out,fO _ _⟩
end
end Go.Proofs.YtjjaojnglnpgaaaGreatDoor
