/- Part 21. -/
import Derived.Deep.RegionWith
import Derived.Deep.CutRange
import Derived.Deep.DeepCutAuto
import Derived.Deep.RegionHeld3
import Derived.Deep.CutBlock
import Derived.BigQuiet
import Derived.Test.YtjjaojnglnpgaaaGreatDoorZ07
import Derived.Test.YtjjaojnglnpgaaaGreatDoorZ09
import Derived.Test.YtjjaojnglnpgaaaGreatDoorZ14
import Derived.Test.YtjjaojnglnpgaaaGreatDoorZ10
import Derived.Test.YtjjaojnglnpgaaaGreatDoorZ00
set_option linter.unusedVariables false
set_option linter.unusedSimpArgs false
set_option maxHeartbeats 16000000
set_option maxRecDepth 1000000
namespace Go.Proofs.YtjjaojnglnpgaaaGreatDoor
section
open Go.RowKit
theorem jv{S:Nat→Prop}{w:World}:HkIn S w ⟨none,0,none,0⟩ Hk.zero :=
 ⟨by simp[isInt64,Hk.zero],⟨.inl rfl,by simp[Hk.zero],by simp[Hk.zero]⟩,⟨.inl rfl,by simp[Hk.zero],by simp[Hk.zero]⟩,by simp[Hk.zero],by simp[Hk.zero]⟩
theorem jw{S:Nat→Prop}{w:World}:EdIn S w ⟨none,0,none,0,none,0⟩ Ed.zero :=
 ⟨by simp[Ed.zero],⟨.inl rfl,by simp[Ed.zero],by simp[Ed.zero]⟩,by simp[isInt64,Ed.zero],by simp[isInt64,Ed.zero],Nat.zero_le _,Nat.zero_le _,trivial,trivial,by simp[Ed.zero],by simp[Ed.zero,Fo.len],by simp[Ed.zero,Fo.len]⟩
theorem zS{p:Pt}:PtOk {p with kind:=1}↔FileName p.file∧({p with kind:=1}:Pt)=⟨1,p.file,p.text,Hk.zero,Ed.zero⟩:=by
 unfold PtOk;simp
theorem zT{p:Pt}:PtOk {p with kind:=2}↔FileName p.file∧({p with kind:=2}:Pt)=⟨2,p.file,p.text,Hk.zero,Ed.zero⟩:=by
 unfold PtOk;simp
theorem zU{p:Pt}:PtOk {p with kind:=3}↔(HkOk p.hunk∧FileName p.file)∧({p with kind:=3}:Pt)=⟨3,p.file,noTxt,p.hunk,Ed.zero⟩:=by
 unfold PtOk;simp;grind
theorem zV{p:Pt}:PtOk {p with kind:=4}↔(EdOk p.edit∧FileName p.file)∧({p with kind:=4}:Pt)=⟨4,p.file,noTxt,Hk.zero,p.edit⟩:=by
 unfold PtOk;simp;grind
theorem XV{S:Nat→Prop}{x:Ph}{p:Pt}{w:World}(hp:PtIn S w x p):
  Calls Tryz.prog 175 #[.agg #[.int .u8 1,.string p.file,.string p.text,.int .i64 p.hunk.at_,.slice x.h.oA p.hunk.old.length x.h.oc,.slice x.h.nA p.hunk.new.length x.h.nc,.int .u8 p.edit.kind,.slice x.e.pA p.edit.path.length x.e.pc,.int .i64 p.edit.at_,.int .i64 p.edit.far,.string p.edit.frm,.string p.edit.to,.slice x.e.oA p.edit.old.len x.e.oc,.slice x.e.nA p.edit.new.len x.e.nc],.agg #[.int .u8 1,.string p.file,.string p.text,.int .i64 0,.slice none 0 0,.slice none 0 0,.int .u8 0,.slice none 0 0,.int .i64 0,.int .i64 0,.string {data:=#[]},.string {data:=#[]},.slice none 0 0,.slice none 0 0]] w fun e w'=>RetB (({p with kind:=1}:Pt)=⟨1,p.file,p.text,Hk.zero,Ed.zero⟩) e∧Below w.heap.size w w' :=
 Il (S:=S) (S':=S) (x:=x) (y:=⟨⟨none,0,none,0⟩,⟨none,0,none,0,none,0⟩⟩) (a:={p with kind:=1}) (b:=⟨1,p.file,p.text,Hk.zero,Ed.zero⟩) ⟨by show 1<256;omega,hp.file,hp.text,hp.hunk,hp.edit⟩ ⟨by show 1<256;omega,hp.file,hp.text,jv,jw⟩
theorem XW{S:Nat→Prop}{x:Ph}{p:Pt}{w:World}(hp:PtIn S w x p):
  Calls Tryz.prog 175 #[.agg #[.int .u8 2,.string p.file,.string p.text,.int .i64 p.hunk.at_,.slice x.h.oA p.hunk.old.length x.h.oc,.slice x.h.nA p.hunk.new.length x.h.nc,.int .u8 p.edit.kind,.slice x.e.pA p.edit.path.length x.e.pc,.int .i64 p.edit.at_,.int .i64 p.edit.far,.string p.edit.frm,.string p.edit.to,.slice x.e.oA p.edit.old.len x.e.oc,.slice x.e.nA p.edit.new.len x.e.nc],.agg #[.int .u8 2,.string p.file,.string p.text,.int .i64 0,.slice none 0 0,.slice none 0 0,.int .u8 0,.slice none 0 0,.int .i64 0,.int .i64 0,.string {data:=#[]},.string {data:=#[]},.slice none 0 0,.slice none 0 0]] w fun e w'=>RetB (({p with kind:=2}:Pt)=⟨2,p.file,p.text,Hk.zero,Ed.zero⟩) e∧Below w.heap.size w w' :=
 Il (S:=S) (S':=S) (x:=x) (y:=⟨⟨none,0,none,0⟩,⟨none,0,none,0,none,0⟩⟩) (a:={p with kind:=2}) (b:=⟨2,p.file,p.text,Hk.zero,Ed.zero⟩) ⟨by show 2<256;omega,hp.file,hp.text,hp.hunk,hp.edit⟩ ⟨by show 2<256;omega,hp.file,hp.text,jv,jw⟩
theorem XX{S:Nat→Prop}{x:Ph}{p:Pt}{w:World}(hp:PtIn S w x p):
  Calls Tryz.prog 175 #[.agg #[.int .u8 3,.string p.file,.string p.text,.int .i64 p.hunk.at_,.slice x.h.oA p.hunk.old.length x.h.oc,.slice x.h.nA p.hunk.new.length x.h.nc,.int .u8 p.edit.kind,.slice x.e.pA p.edit.path.length x.e.pc,.int .i64 p.edit.at_,.int .i64 p.edit.far,.string p.edit.frm,.string p.edit.to,.slice x.e.oA p.edit.old.len x.e.oc,.slice x.e.nA p.edit.new.len x.e.nc],.agg #[.int .u8 3,.string p.file,.string {data:=#[]},.int .i64 p.hunk.at_,.slice x.h.oA p.hunk.old.length x.h.oc,.slice x.h.nA p.hunk.new.length x.h.nc,.int .u8 0,.slice none 0 0,.int .i64 0,.int .i64 0,.string {data:=#[]},.string {data:=#[]},.slice none 0 0,.slice none 0 0]] w fun e w'=>RetB (({p with kind:=3}:Pt)=⟨3,p.file,noTxt,p.hunk,Ed.zero⟩) e∧Below w.heap.size w w' :=
 Il (S:=S) (S':=S) (x:=x) (y:=⟨x.h,⟨none,0,none,0,none,0⟩⟩) (a:={p with kind:=3}) (b:=⟨3,p.file,noTxt,p.hunk,Ed.zero⟩) ⟨by show 3<256;omega,hp.file,hp.text,hp.hunk,hp.edit⟩ ⟨by show 3<256;omega,hp.file,(Nat.zero_le _),hp.hunk,jw⟩
theorem XY{S:Nat→Prop}{x:Ph}{p:Pt}{w:World}(hp:PtIn S w x p):
  Calls Tryz.prog 175 #[.agg #[.int .u8 4,.string p.file,.string p.text,.int .i64 p.hunk.at_,.slice x.h.oA p.hunk.old.length x.h.oc,.slice x.h.nA p.hunk.new.length x.h.nc,.int .u8 p.edit.kind,.slice x.e.pA p.edit.path.length x.e.pc,.int .i64 p.edit.at_,.int .i64 p.edit.far,.string p.edit.frm,.string p.edit.to,.slice x.e.oA p.edit.old.len x.e.oc,.slice x.e.nA p.edit.new.len x.e.nc],.agg #[.int .u8 4,.string p.file,.string {data:=#[]},.int .i64 0,.slice none 0 0,.slice none 0 0,.int .u8 p.edit.kind,.slice x.e.pA p.edit.path.length x.e.pc,.int .i64 p.edit.at_,.int .i64 p.edit.far,.string p.edit.frm,.string p.edit.to,.slice x.e.oA p.edit.old.len x.e.oc,.slice x.e.nA p.edit.new.len x.e.nc]] w fun e w'=>RetB (({p with kind:=4}:Pt)=⟨4,p.file,noTxt,Hk.zero,p.edit⟩) e∧Below w.heap.size w w' :=
 Il (S:=S) (S':=S) (x:=x) (y:=⟨⟨none,0,none,0⟩,x.e⟩) (a:={p with kind:=4}) (b:=⟨4,p.file,noTxt,Hk.zero,p.edit⟩) ⟨by show 4<256;omega,hp.file,hp.text,hp.hunk,hp.edit⟩ ⟨by show 4<256;omega,hp.file,(Nat.zero_le _),jv,hp.edit⟩
theorem XZ{S:Nat→Prop}{x:Ph}{p:Pt}{w:World}(hp:PtIn S w x p):
  Calls Tryz.prog 114 #[.agg #[.int .u8 1,.string p.file,.string p.text,.int .i64 p.hunk.at_,.slice x.h.oA p.hunk.old.length x.h.oc,.slice x.h.nA p.hunk.new.length x.h.nc,.int .u8 p.edit.kind,.slice x.e.pA p.edit.path.length x.e.pc,.int .i64 p.edit.at_,.int .i64 p.edit.far,.string p.edit.frm,.string p.edit.to,.slice x.e.oA p.edit.old.len x.e.oc,.slice x.e.nA p.edit.new.len x.e.nc]] w fun e w'=>RetB (PtOk {p with kind:=1}) e∧Below w.heap.size w w':=by
 have Hp:=hide hp;have fM:=hp.file;have bK:=hide (@zS p);clear hp;go_enter Tryz.func114,Tryz.ntmps114
 go_wp2_with(first
  | (go_at_call 174;(with_reducible refine(G9 p.file _ fM).mono ?_);rintro e1 w1 ⟨⟨_|_,rfl,hb⟩,rfl⟩<;>(have Hn:=hide hb;clear hb))
  | (go_at_call 175;(with_reducible refine(XV (Hp.out.below (bT _ _))).mono ?_);rintro e1 w2 ⟨⟨b,rfl,hb⟩,hB⟩;have Hs:=hide hb;have HB:=hide (xQ hB);clear hb hB))
 all_goals(go_ret;go_tidy)
 all_goals refine⟨RetB.mk ?_,(by first|exact HB.out|exact bT _ _)⟩
 all_goals rw[bK.out]
 all_goals have hn:=Hn.out
 all_goals(try have hs:=Hs.out)
 all_goals grind
theorem X4{S:Nat→Prop}{x:Ph}{p:Pt}{w:World}(hp:PtIn S w x p):
  Calls Tryz.prog 114 #[.agg #[.int .u8 2,.string p.file,.string p.text,.int .i64 p.hunk.at_,.slice x.h.oA p.hunk.old.length x.h.oc,.slice x.h.nA p.hunk.new.length x.h.nc,.int .u8 p.edit.kind,.slice x.e.pA p.edit.path.length x.e.pc,.int .i64 p.edit.at_,.int .i64 p.edit.far,.string p.edit.frm,.string p.edit.to,.slice x.e.oA p.edit.old.len x.e.oc,.slice x.e.nA p.edit.new.len x.e.nc]] w fun e w'=>RetB (PtOk {p with kind:=2}) e∧Below w.heap.size w w':=by
 have Hp:=hide hp;have fM:=hp.file;have bK:=hide (@zT p);clear hp;go_enter Tryz.func114,Tryz.ntmps114
 go_wp2_with(first
  | (go_at_call 174;(with_reducible refine(G9 p.file _ fM).mono ?_);rintro e1 w1 ⟨⟨_|_,rfl,hb⟩,rfl⟩<;>(have Hn:=hide hb;clear hb))
  | (go_at_call 175;(with_reducible refine(XW (Hp.out.below (bT _ _))).mono ?_);rintro e1 w2 ⟨⟨b,rfl,hb⟩,hB⟩;have Hs:=hide hb;have HB:=hide (xQ hB);clear hb hB))
 all_goals(go_ret;go_tidy)
 all_goals refine⟨RetB.mk ?_,(by first|exact HB.out|exact bT _ _)⟩
 all_goals rw[bK.out]
 all_goals have hn:=Hn.out
 all_goals(try have hs:=Hs.out)
 all_goals grind
theorem X5{S:Nat→Prop}{x:Ph}{p:Pt}{w:World}(hp:PtIn S w x p)(h1 :¬(p.kind:Int)=1)(h2 :¬(p.kind:Int)=2)(h3 :¬(p.kind:Int)=3)(h4 :¬(p.kind:Int)=4):
  Calls Tryz.prog 114 #[.agg #[.int .u8 p.kind,.string p.file,.string p.text,.int .i64 p.hunk.at_,.slice x.h.oA p.hunk.old.length x.h.oc,.slice x.h.nA p.hunk.new.length x.h.nc,.int .u8 p.edit.kind,.slice x.e.pA p.edit.path.length x.e.pc,.int .i64 p.edit.at_,.int .i64 p.edit.far,.string p.edit.frm,.string p.edit.to,.slice x.e.oA p.edit.old.len x.e.oc,.slice x.e.nA p.edit.new.len x.e.nc]] w fun e w'=>RetB (PtOk p) e∧Below w.heap.size w w':=by
 have bK:Hid (¬PtOk p):=hide (by unfold PtOk;omega);clear hp;go_enter Tryz.func114,Tryz.ntmps114
 go_wp2_with fail
 all_goals(go_ret;go_tidy)
 all_goals exact⟨RetB.no bK.out,bT _ _⟩
theorem X6:(Tryz.prog.info? 202).map (fun i=>(i.zero,i.size,i.bytes))=some (some (.slice none 0 0),1,24):=by kernel_rfl
theorem SN{w:World}:Calls Tryz.prog 80 #[.slice none 0 0] w fun e w'=>e = .returned (.bool true)∧Below w.heap.size w w':=by
 obtain⟨i1,hi1,aN,az,aP⟩:=info_parts X6;go_enter Tryz.func80,Tryz.ntmps80
 go_wp2_with fail
 go_loopg [3] 0 (fun g k wx=>k = .int .i64 0∧Hid (Below w.heap.size w wx))
 case atStart=>exact⟨rfl,hide (Below.refl _ _)⟩
 case round =>
 obtain⟨rfl,HB⟩:=hrel
 go_wp2_with(at_make;refine wpList_make_full _ rfl _ _ 70 rfl 0 202 i1 (.slice none 0 0) 1 Tryz.underlying70 hi1 aN az _ _ _ _ 0 rfl rfl rfl rfl (by rw[aP];omega) (by unfold maxLen;omega) (Nat.zero_le _) ?_)
 intro w1 hown hgrow;have HB1:=hide (HB.out.trans ((Below.refl wr.heap.size wr).grown hgrow (aC _) (by simp)|>.mono HB.out.size));clear hown hgrow HB;generalize wr.heap.size=GB
 go_wp2_with fail
 go_loopg [6] 0 (fun g k wx=>k = .int .i64 0∧Hid (Below w.heap.size w wx))
 case atStart=>exact⟨rfl,HB1⟩
 case round =>
 clear HB1;obtain⟨rfl,aV⟩:=hrel
 go_wp2_with fail
 go_loopg [9] 0 (fun g k wx=>k = .int .i64 0∧Hid (Below w.heap.size w wx))
 case atStart=>exact⟨rfl,aV⟩
 case round =>
 clear aV;obtain⟨rfl,aQ⟩:=hrel
 go_wp2_with fail
 go_loopg [11] 0 (fun g k wx=>k = .int .i64 0∧Hid (Below w.heap.size w wx))
 case atStart=>exact⟨rfl,aQ⟩
 case round =>
 clear aQ;obtain⟨rfl,ax⟩:=hrel
 go_wp2_with fail
 go_loopg [14] 0 (fun g k wx=>k = .int .i64 0∧Hid (Below w.heap.size w wx))
 case atStart=>exact⟨rfl,ax⟩
 case round =>
 clear ax;obtain⟨rfl,aS⟩:=hrel
 go_wp2_with fail
 go_ret;exact⟨rfl,aS.out⟩
theorem X7:(Tryz.prog.info? 204).map (fun i=>(i.zero,i.size,i.bytes))=some (some (.slice none 0 0),1,24):=by kernel_rfl
theorem SQ{w:World}:Calls Tryz.prog 81 #[.slice none 0 0] w fun e w'=>e = .returned (.bool true)∧Below w.heap.size w w':=by
 obtain⟨i1,hi1,aN,az,aP⟩:=info_parts X7;go_enter Tryz.func81,Tryz.ntmps81
 go_wp2_with fail
 go_loopg [3] 0 (fun g k wx=>k = .int .i64 0∧Hid (Below w.heap.size w wx))
 case atStart=>exact⟨rfl,hide (Below.refl _ _)⟩
 case round =>
 obtain⟨rfl,HB⟩:=hrel
 go_wp2_with(at_make;refine wpList_make_full _ rfl _ _ 71 rfl 0 204 i1 (.slice none 0 0) 1 Tryz.underlying71 hi1 aN az _ _ _ _ 0 rfl rfl rfl rfl (by rw[aP];omega) (by unfold maxLen;omega) (Nat.zero_le _) ?_)
 intro w1 hown hgrow;have HB1:=hide (HB.out.trans ((Below.refl wr.heap.size wr).grown hgrow (aC _) (by simp)|>.mono HB.out.size));clear hown hgrow HB;generalize wr.heap.size=GB
 go_wp2_with fail
 go_loopg [6] 0 (fun g k wx=>k = .int .i64 0∧Hid (Below w.heap.size w wx))
 case atStart=>exact⟨rfl,HB1⟩
 case round =>
 clear HB1;obtain⟨rfl,aV⟩:=hrel
 go_wp2_with fail
 go_loopg [9] 0 (fun g k wx=>k = .int .i64 0∧Hid (Below w.heap.size w wx))
 case atStart=>exact⟨rfl,aV⟩
 case round =>
 clear aV;obtain⟨rfl,aQ⟩:=hrel
 go_wp2_with fail
 go_loopg [11] 0 (fun g k wx=>k = .int .i64 0∧Hid (Below w.heap.size w wx))
 case atStart=>exact⟨rfl,aQ⟩
 case round =>
 clear aQ;obtain⟨rfl,ax⟩:=hrel
 go_wp2_with fail
 go_loopg [14] 0 (fun g k wx=>k = .int .i64 0∧Hid (Below w.heap.size w wx))
 case atStart=>exact⟨rfl,ax⟩
 case round =>
 clear ax;obtain⟨rfl,aS⟩:=hrel
 go_wp2_with fail
 go_ret;exact⟨rfl,aS.out⟩
theorem X8:(Tryz.prog.info? 205).map (fun i=>(i.zero,i.size,i.bytes))=some (some (.slice none 0 0),1,24):=by kernel_rfl
theorem SS{w:World}:Calls Tryz.prog 83 #[.slice none 0 0] w fun e w'=>e = .returned (.bool true)∧Below w.heap.size w w':=by
 obtain⟨i1,hi1,aN,az,aP⟩:=info_parts X8;go_enter Tryz.func83,Tryz.ntmps83
 go_wp2_with fail
 go_loopg [3] 0 (fun g k wx=>k = .int .i64 0∧Hid (Below w.heap.size w wx))
 case atStart=>exact⟨rfl,hide (Below.refl _ _)⟩
 case round =>
 obtain⟨rfl,HB⟩:=hrel
 go_wp2_with(at_make;refine wpList_make_full _ rfl _ _ 73 rfl 0 205 i1 (.slice none 0 0) 1 Tryz.underlying73 hi1 aN az _ _ _ _ 0 rfl rfl rfl rfl (by rw[aP];omega) (by unfold maxLen;omega) (Nat.zero_le _) ?_)
 intro w1 hown hgrow;have HB1:=hide (HB.out.trans ((Below.refl wr.heap.size wr).grown hgrow (aC _) (by simp)|>.mono HB.out.size));clear hown hgrow HB;generalize wr.heap.size=GB
 go_wp2_with fail
 go_loopg [6] 0 (fun g k wx=>k = .int .i64 0∧Hid (Below w.heap.size w wx))
 case atStart=>exact⟨rfl,HB1⟩
 case round =>
 clear HB1;obtain⟨rfl,aV⟩:=hrel
 go_wp2_with fail
 go_loopg [9] 0 (fun g k wx=>k = .int .i64 0∧Hid (Below w.heap.size w wx))
 case atStart=>exact⟨rfl,aV⟩
 case round =>
 clear aV;obtain⟨rfl,aQ⟩:=hrel
 go_wp2_with fail
 go_loopg [11] 0 (fun g k wx=>k = .int .i64 0∧Hid (Below w.heap.size w wx))
 case atStart=>exact⟨rfl,aQ⟩
 case round =>
 clear aQ;obtain⟨rfl,ax⟩:=hrel
 go_wp2_with fail
 go_loopg [14] 0 (fun g k wx=>k = .int .i64 0∧Hid (Below w.heap.size w wx))
 case atStart=>exact⟨rfl,ax⟩
 case round =>
 clear ax;obtain⟨rfl,aS⟩:=hrel
 go_wp2_with fail
 go_ret;exact⟨rfl,aS.out⟩
theorem X9:(Tryz.prog.info? 44).map (fun i=>(i.zero,i.size,i.bytes))=some (some (.slice none 0 0),1,24):=by kernel_rfl
theorem Ya{w:World}:Calls Tryz.prog 85 #[.slice none 0 0] w fun e w'=>e = .returned (.bool true)∧Below w.heap.size w w':=by
 obtain⟨i1,hi1,aN,az,aP⟩:=info_parts X9;go_enter Tryz.func85,Tryz.ntmps85
 go_wp2_with fail
 go_loopg [3] 0 (fun g k wx=>k = .int .i64 0∧Hid (Below w.heap.size w wx))
 case atStart=>exact⟨rfl,hide (Below.refl _ _)⟩
 case round =>
 obtain⟨rfl,HB⟩:=hrel
 go_wp2_with(at_make;refine wpList_make_full _ rfl _ _ 75 rfl 0 44 i1 (.slice none 0 0) 1 Tryz.underlying75 hi1 aN az _ _ _ _ 0 rfl rfl rfl rfl (by rw[aP];omega) (by unfold maxLen;omega) (Nat.zero_le _) ?_)
 intro w1 hown hgrow;have HB1:=hide (HB.out.trans ((Below.refl wr.heap.size wr).grown hgrow (aC _) (by simp)|>.mono HB.out.size));clear hown hgrow HB;generalize wr.heap.size=GB
 go_wp2_with fail
 go_loopg [6] 0 (fun g k wx=>k = .int .i64 0∧Hid (Below w.heap.size w wx))
 case atStart=>exact⟨rfl,HB1⟩
 case round =>
 clear HB1;obtain⟨rfl,aV⟩:=hrel
 go_wp2_with fail
 go_loopg [9] 0 (fun g k wx=>k = .int .i64 0∧Hid (Below w.heap.size w wx))
 case atStart=>exact⟨rfl,aV⟩
 case round =>
 clear aV;obtain⟨rfl,aQ⟩:=hrel
 go_wp2_with fail
 go_loopg [11] 0 (fun g k wx=>k = .int .i64 0∧Hid (Below w.heap.size w wx))
 case atStart=>exact⟨rfl,aQ⟩
 case round =>
 clear aQ;obtain⟨rfl,ax⟩:=hrel
 go_wp2_with fail
 go_loopg [14] 0 (fun g k wx=>k = .int .i64 0∧Hid (Below w.heap.size w wx))
 case atStart=>exact⟨rfl,ax⟩
 case round =>
 clear ax;obtain⟨rfl,aS⟩:=hrel
 go_wp2_with fail
 go_ret;exact⟨rfl,aS.out⟩
theorem Yb:(Tryz.prog.info? 206).map (fun i=>(i.zero,i.size,i.bytes))=some (some (.slice none 0 0),1,24):=by kernel_rfl
theorem SV{w:World}:Calls Tryz.prog 86 #[.slice none 0 0] w fun e w'=>e = .returned (.bool true)∧Below w.heap.size w w':=by
 obtain⟨i1,hi1,aN,az,aP⟩:=info_parts Yb;go_enter Tryz.func86,Tryz.ntmps86
 go_wp2_with fail
 go_loopg [3] 0 (fun g k wx=>k = .int .i64 0∧Hid (Below w.heap.size w wx))
 case atStart=>exact⟨rfl,hide (Below.refl _ _)⟩
 case round =>
 obtain⟨rfl,HB⟩:=hrel
 go_wp2_with(at_make;refine wpList_make_full _ rfl _ _ 76 rfl 0 206 i1 (.slice none 0 0) 1 Tryz.underlying76 hi1 aN az _ _ _ _ 0 rfl rfl rfl rfl (by rw[aP];omega) (by unfold maxLen;omega) (Nat.zero_le _) ?_)
 intro w1 hown hgrow;have HB1:=hide (HB.out.trans ((Below.refl wr.heap.size wr).grown hgrow (aC _) (by simp)|>.mono HB.out.size));clear hown hgrow HB;generalize wr.heap.size=GB
 go_wp2_with fail
 go_loopg [6] 0 (fun g k wx=>k = .int .i64 0∧Hid (Below w.heap.size w wx))
 case atStart=>exact⟨rfl,HB1⟩
 case round =>
 clear HB1;obtain⟨rfl,aV⟩:=hrel
 go_wp2_with fail
 go_loopg [9] 0 (fun g k wx=>k = .int .i64 0∧Hid (Below w.heap.size w wx))
 case atStart=>exact⟨rfl,aV⟩
 case round =>
 clear aV;obtain⟨rfl,aQ⟩:=hrel
 go_wp2_with fail
 go_loopg [11] 0 (fun g k wx=>k = .int .i64 0∧Hid (Below w.heap.size w wx))
 case atStart=>exact⟨rfl,aQ⟩
 case round =>
 clear aQ;obtain⟨rfl,ax⟩:=hrel
 go_wp2_with fail
 go_loopg [14] 0 (fun g k wx=>k = .int .i64 0∧Hid (Below w.heap.size w wx))
 case atStart=>exact⟨rfl,ax⟩
 case round =>
 clear ax;obtain⟨rfl,aS⟩:=hrel
 go_wp2_with fail
 go_ret;exact⟨rfl,aS.out⟩
theorem Yc:(Tryz.prog.info? 207).map (fun i=>(i.zero,i.size,i.bytes))=some (some (.slice none 0 0),1,24):=by kernel_rfl
theorem SX{w:World}:Calls Tryz.prog 87 #[.slice none 0 0] w fun e w'=>e = .returned (.bool true)∧Below w.heap.size w w':=by
 obtain⟨i1,hi1,aN,az,aP⟩:=info_parts Yc;go_enter Tryz.func87,Tryz.ntmps87
 go_wp2_with fail
 go_loopg [3] 0 (fun g k wx=>k = .int .i64 0∧Hid (Below w.heap.size w wx))
 case atStart=>exact⟨rfl,hide (Below.refl _ _)⟩
 case round =>
 obtain⟨rfl,HB⟩:=hrel
 go_wp2_with(at_make;refine wpList_make_full _ rfl _ _ 77 rfl 0 207 i1 (.slice none 0 0) 1 Tryz.underlying77 hi1 aN az _ _ _ _ 0 rfl rfl rfl rfl (by rw[aP];omega) (by unfold maxLen;omega) (Nat.zero_le _) ?_)
 intro w1 hown hgrow;have HB1:=hide (HB.out.trans ((Below.refl wr.heap.size wr).grown hgrow (aC _) (by simp)|>.mono HB.out.size));clear hown hgrow HB;generalize wr.heap.size=GB
 go_wp2_with fail
 go_loopg [6] 0 (fun g k wx=>k = .int .i64 0∧Hid (Below w.heap.size w wx))
 case atStart=>exact⟨rfl,HB1⟩
 case round =>
 clear HB1;obtain⟨rfl,aV⟩:=hrel
 go_wp2_with fail
 go_loopg [9] 0 (fun g k wx=>k = .int .i64 0∧Hid (Below w.heap.size w wx))
 case atStart=>exact⟨rfl,aV⟩
 case round =>
 clear aV;obtain⟨rfl,aQ⟩:=hrel
 go_wp2_with fail
 go_loopg [11] 0 (fun g k wx=>k = .int .i64 0∧Hid (Below w.heap.size w wx))
 case atStart=>exact⟨rfl,aQ⟩
 case round =>
 clear aQ;obtain⟨rfl,ax⟩:=hrel
 go_wp2_with fail
 go_loopg [14] 0 (fun g k wx=>k = .int .i64 0∧Hid (Below w.heap.size w wx))
 case atStart=>exact⟨rfl,ax⟩
 case round =>
 clear ax;obtain⟨rfl,aS⟩:=hrel
 go_wp2_with fail
 go_ret;exact⟨rfl,aS.out⟩
end
end Go.Proofs.YtjjaojnglnpgaaaGreatDoor
