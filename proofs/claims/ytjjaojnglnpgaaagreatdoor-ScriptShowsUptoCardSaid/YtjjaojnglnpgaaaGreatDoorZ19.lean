/- Part 20 of what scriptShows_cardUpto rests on. -/
import Derived.Test.YtjjaojnglnpgaaaGreatDoorRows
import Derived.Test.YtjjaojnglnpgaaaGreatDoorTie
import Derived.ProofKit
import Derived.Lib.LaidTab
import Derived.LaidLaws
import Derived.Deep.DeepLaidRun
import Derived.Deep.RegionWith
import Derived.Deep.CutRange
import Derived.Deep.DeepCutAuto
import Derived.Test.YtjjaojnglnpgaaaGreatDoorZ07
import Derived.Test.YtjjaojnglnpgaaaGreatDoorZ13
import Derived.Test.YtjjaojnglnpgaaaGreatDoorZ12
import Derived.Test.YtjjaojnglnpgaaaGreatDoorZ11
import Derived.Test.YtjjaojnglnpgaaaGreatDoorZ00
set_option linter.unusedVariables false
set_option linter.unusedSimpArgs false
set_option maxHeartbeats 16000000
set_option maxRecDepth 1000000
namespace Go.Proofs.YtjjaojnglnpgaaaGreatDoor
section
open Go.RowKit
theorem xZ:ownKnob Tryz.prog.godebug=none:=by kernel_rfl
def JW:DataW Unit→List Value
 | .lit (.int k n)=>[.int k n]
 | .agg l=>l.flatMap fun | .lit (.int k n)=>[Value.int k n]|_=>[]
 | _=>[]
def flat:DataW Unit→Array Value
 | .agg l=>(l.flatMap JW).toArray
 | _=>#[]
noncomputable def laidWorld(os:Os):World :=
 let N:=(World.settled Tryz.prog os).heap.size
 let w0:=World.holding Tryz.prog os ⟨#[
  .cells #[.int .u16 9,.int .u16 13,.int .u16 1,.int .u16 32,.int .u16 133,.int .u16 101,.int .u16 160,.int .u16 5760,.int .u16 5600,.int .u16 8192,.int .u16 8202,.int .u16 1,.int .u16 8232,.int .u16 8233,.int .u16 1,.int .u16 8239,.int .u16 8287,.int .u16 48,.int .u16 12288,.int .u16 12288,.int .u16 1] 381,
  .cells #[.slice (some ⟨N,0,none⟩) 7 7,.slice none 0 0,.int .i64 2] 378],#[],[]⟩
 let put (h:Array Obj) (g:Nat) (cs:Array Value):Array Obj:=h.modify g fun
  | .cells _ t frozen=> .cells cs t frozen
  | o=>o
 let h1:=put w0.heap 5 (flat Rows.laid_strings_asciiSpace)
 let h2:=put h1 8 #[.pointer (some ⟨N+1,0,none⟩)]
 let h3:=put h2 6 (flat Rows.laid_math_bits_deBruijn32tab)
 let h4:=put h3 7 (flat Rows.laid_math_bits_deBruijn64tab)
 let h5:=put h4 4 (flat Rows.laid_internal_strconv_uint64pow10)
 let h6:=put h5 3 (flat Rows.laid_unicode_utf8_acceptRanges)
 let h7:=put h6 2 (flat Rows.laid_unicode_utf8_first)
 {w0 with heap:=h7}
theorem laid_met (os : Os) (args : Array Value) : laidMet Tryz.prog [("math/bits.deBruijn32tab", Rows.laid_math_bits_deBruijn32tab), ("math/bits.deBruijn64tab", Rows.laid_math_bits_deBruijn64tab), ("internal/strconv.uint64pow10", Rows.laid_internal_strconv_uint64pow10), ("unicode/utf8.acceptRanges", Rows.laid_unicode_utf8_acceptRanges), ("unicode.White_Space", Rows.laid_unicode_White_Space), ("strings.asciiSpace", Rows.laid_strings_asciiSpace), ("unicode/utf8.first", Rows.laid_unicode_utf8_first)] ((laidWorld os).forCall (fun _ _ => 0) ⟨#[], args, []⟩).memory :=
 laidMet_of_run3 12 (by kernel_rfl) (by kernel_rfl) (by kernel_rfl)
theorem qo{S:Nat→Prop}{w:World}:gB S w ⟨none,0,none,0⟩ Hk.zero :=
 ⟨by simp[ai,Hk.zero],⟨.inl rfl,by simp[Hk.zero],by simp[Hk.zero]⟩,⟨.inl rfl,by simp[Hk.zero],by simp[Hk.zero]⟩,by simp[Hk.zero],by simp[Hk.zero]⟩
theorem qp{S:Nat→Prop}{w:World}:dm S w ⟨none,0,none,0,none,0⟩ Ed.zero :=
 ⟨by simp[Ed.zero],⟨.inl rfl,by simp[Ed.zero],by simp[Ed.zero]⟩,by simp[ai,Ed.zero],by simp[ai,Ed.zero],Nat.zero_le _,Nat.zero_le _,trivial,trivial,by simp[Ed.zero],by simp[Ed.zero,Fo.len],by simp[Ed.zero,Fo.len]⟩
theorem FU{p:Pt}:bI {p with kind:=1}↔dJ p.file∧({p with kind:=1}:Pt)=⟨1,p.file,p.text,Hk.zero,Ed.zero⟩:=by
 unfold bI;simp
theorem FV{p:Pt}:bI {p with kind:=2}↔dJ p.file∧({p with kind:=2}:Pt)=⟨2,p.file,p.text,Hk.zero,Ed.zero⟩:=by
 unfold bI;simp
theorem FW{p:Pt}:bI {p with kind:=3}↔(pO p.hunk∧dJ p.file)∧({p with kind:=3}:Pt)=⟨3,p.file,ae,p.hunk,Ed.zero⟩:=by
 unfold bI;simp;grind
theorem FX{p:Pt}:bI {p with kind:=4}↔(dC p.edit∧dJ p.file)∧({p with kind:=4}:Pt)=⟨4,p.file,ae,Hk.zero,p.edit⟩:=by
 unfold bI;simp;grind
theorem ZK{S:Nat→Prop}{x:Ph}{p:Pt}{w:World}(hp:bM S w x p):
  Calls Tryz.prog 175 #[.agg #[.int .u8 1,.string p.file,.string p.text,.int .i64 p.hunk.at_,.slice x.h.oA p.hunk.old.length x.h.oc,.slice x.h.nA p.hunk.new.length x.h.nc,.int .u8 p.edit.kind,.slice x.e.pA p.edit.path.length x.e.pc,.int .i64 p.edit.at_,.int .i64 p.edit.far,.string p.edit.frm,.string p.edit.to,.slice x.e.oA p.edit.old.len x.e.oc,.slice x.e.nA p.edit.new.len x.e.nc],.agg #[.int .u8 1,.string p.file,.string p.text,.int .i64 0,.slice none 0 0,.slice none 0 0,.int .u8 0,.slice none 0 0,.int .i64 0,.int .i64 0,.string {data:=#[]},.string {data:=#[]},.slice none 0 0,.slice none 0 0]] w fun e w'=>ah (({p with kind:=1}:Pt)=⟨1,p.file,p.text,Hk.zero,Ed.zero⟩) e∧Below w.heap.size w w' :=
 Nj (S:=S) (S':=S) (x:=x) (y:=⟨⟨none,0,none,0⟩,⟨none,0,none,0,none,0⟩⟩) (a:={p with kind:=1}) (b:=⟨1,p.file,p.text,Hk.zero,Ed.zero⟩) ⟨by show 1<256;omega,hp.file,hp.text,hp.hunk,hp.edit⟩ ⟨by show 1<256;omega,hp.file,hp.text,qo,qp⟩
theorem ZL{S:Nat→Prop}{x:Ph}{p:Pt}{w:World}(hp:bM S w x p):
  Calls Tryz.prog 175 #[.agg #[.int .u8 2,.string p.file,.string p.text,.int .i64 p.hunk.at_,.slice x.h.oA p.hunk.old.length x.h.oc,.slice x.h.nA p.hunk.new.length x.h.nc,.int .u8 p.edit.kind,.slice x.e.pA p.edit.path.length x.e.pc,.int .i64 p.edit.at_,.int .i64 p.edit.far,.string p.edit.frm,.string p.edit.to,.slice x.e.oA p.edit.old.len x.e.oc,.slice x.e.nA p.edit.new.len x.e.nc],.agg #[.int .u8 2,.string p.file,.string p.text,.int .i64 0,.slice none 0 0,.slice none 0 0,.int .u8 0,.slice none 0 0,.int .i64 0,.int .i64 0,.string {data:=#[]},.string {data:=#[]},.slice none 0 0,.slice none 0 0]] w fun e w'=>ah (({p with kind:=2}:Pt)=⟨2,p.file,p.text,Hk.zero,Ed.zero⟩) e∧Below w.heap.size w w' :=
 Nj (S:=S) (S':=S) (x:=x) (y:=⟨⟨none,0,none,0⟩,⟨none,0,none,0,none,0⟩⟩) (a:={p with kind:=2}) (b:=⟨2,p.file,p.text,Hk.zero,Ed.zero⟩) ⟨by show 2<256;omega,hp.file,hp.text,hp.hunk,hp.edit⟩ ⟨by show 2<256;omega,hp.file,hp.text,qo,qp⟩
theorem ZM{S:Nat→Prop}{x:Ph}{p:Pt}{w:World}(hp:bM S w x p):
  Calls Tryz.prog 175 #[.agg #[.int .u8 3,.string p.file,.string p.text,.int .i64 p.hunk.at_,.slice x.h.oA p.hunk.old.length x.h.oc,.slice x.h.nA p.hunk.new.length x.h.nc,.int .u8 p.edit.kind,.slice x.e.pA p.edit.path.length x.e.pc,.int .i64 p.edit.at_,.int .i64 p.edit.far,.string p.edit.frm,.string p.edit.to,.slice x.e.oA p.edit.old.len x.e.oc,.slice x.e.nA p.edit.new.len x.e.nc],.agg #[.int .u8 3,.string p.file,.string {data:=#[]},.int .i64 p.hunk.at_,.slice x.h.oA p.hunk.old.length x.h.oc,.slice x.h.nA p.hunk.new.length x.h.nc,.int .u8 0,.slice none 0 0,.int .i64 0,.int .i64 0,.string {data:=#[]},.string {data:=#[]},.slice none 0 0,.slice none 0 0]] w fun e w'=>ah (({p with kind:=3}:Pt)=⟨3,p.file,ae,p.hunk,Ed.zero⟩) e∧Below w.heap.size w w' :=
 Nj (S:=S) (S':=S) (x:=x) (y:=⟨x.h,⟨none,0,none,0,none,0⟩⟩) (a:={p with kind:=3}) (b:=⟨3,p.file,ae,p.hunk,Ed.zero⟩) ⟨by show 3<256;omega,hp.file,hp.text,hp.hunk,hp.edit⟩ ⟨by show 3<256;omega,hp.file,(Nat.zero_le _),hp.hunk,qp⟩
theorem ZN{S:Nat→Prop}{x:Ph}{p:Pt}{w:World}(hp:bM S w x p):
  Calls Tryz.prog 175 #[.agg #[.int .u8 4,.string p.file,.string p.text,.int .i64 p.hunk.at_,.slice x.h.oA p.hunk.old.length x.h.oc,.slice x.h.nA p.hunk.new.length x.h.nc,.int .u8 p.edit.kind,.slice x.e.pA p.edit.path.length x.e.pc,.int .i64 p.edit.at_,.int .i64 p.edit.far,.string p.edit.frm,.string p.edit.to,.slice x.e.oA p.edit.old.len x.e.oc,.slice x.e.nA p.edit.new.len x.e.nc],.agg #[.int .u8 4,.string p.file,.string {data:=#[]},.int .i64 0,.slice none 0 0,.slice none 0 0,.int .u8 p.edit.kind,.slice x.e.pA p.edit.path.length x.e.pc,.int .i64 p.edit.at_,.int .i64 p.edit.far,.string p.edit.frm,.string p.edit.to,.slice x.e.oA p.edit.old.len x.e.oc,.slice x.e.nA p.edit.new.len x.e.nc]] w fun e w'=>ah (({p with kind:=4}:Pt)=⟨4,p.file,ae,Hk.zero,p.edit⟩) e∧Below w.heap.size w w' :=
 Nj (S:=S) (S':=S) (x:=x) (y:=⟨⟨none,0,none,0⟩,x.e⟩) (a:={p with kind:=4}) (b:=⟨4,p.file,ae,Hk.zero,p.edit⟩) ⟨by show 4<256;omega,hp.file,hp.text,hp.hunk,hp.edit⟩ ⟨by show 4<256;omega,hp.file,(Nat.zero_le _),qo,hp.edit⟩
theorem ZO{S:Nat→Prop}{x:Ph}{p:Pt}{w:World}(hp:bM S w x p):
  Calls Tryz.prog 114 #[.agg #[.int .u8 1,.string p.file,.string p.text,.int .i64 p.hunk.at_,.slice x.h.oA p.hunk.old.length x.h.oc,.slice x.h.nA p.hunk.new.length x.h.nc,.int .u8 p.edit.kind,.slice x.e.pA p.edit.path.length x.e.pc,.int .i64 p.edit.at_,.int .i64 p.edit.far,.string p.edit.frm,.string p.edit.to,.slice x.e.oA p.edit.old.len x.e.oc,.slice x.e.nA p.edit.new.len x.e.nc]] w fun e w'=>ah (bI {p with kind:=1}) e∧Below w.heap.size w w':=by
 have Hp:=hide hp;have eu:=hp.file;have gK:=hide (@FU p);clear hp;go_enter Tryz.func114,Tryz.ntmps114
 go_wp2_with(first
  | (go_at_call 174;(with_reducible refine(MO p.file _ eu).mono ?_);rintro e1 w1 ⟨⟨_|_,rfl,hb⟩,rfl⟩<;>(have Hn:=hide hb;clear hb))
  | (go_at_call 175;(with_reducible refine(ZK (Hp.out.below (iD _ _))).mono ?_);rintro e1 w2 ⟨⟨b,rfl,hb⟩,hB⟩;have Hs:=hide hb;have HB:=hide (Dy hB);clear hb hB))
 all_goals(go_ret;go_tidy)
 all_goals refine⟨ah.mk ?_,(by first|exact HB.out|exact iD _ _)⟩
 all_goals rw[gK.out]
 all_goals have hn:=Hn.out
 all_goals(try have hs:=Hs.out)
 all_goals grind
theorem ZP{S:Nat→Prop}{x:Ph}{p:Pt}{w:World}(hp:bM S w x p):
  Calls Tryz.prog 114 #[.agg #[.int .u8 2,.string p.file,.string p.text,.int .i64 p.hunk.at_,.slice x.h.oA p.hunk.old.length x.h.oc,.slice x.h.nA p.hunk.new.length x.h.nc,.int .u8 p.edit.kind,.slice x.e.pA p.edit.path.length x.e.pc,.int .i64 p.edit.at_,.int .i64 p.edit.far,.string p.edit.frm,.string p.edit.to,.slice x.e.oA p.edit.old.len x.e.oc,.slice x.e.nA p.edit.new.len x.e.nc]] w fun e w'=>ah (bI {p with kind:=2}) e∧Below w.heap.size w w':=by
 have Hp:=hide hp;have eu:=hp.file;have gK:=hide (@FV p);clear hp;go_enter Tryz.func114,Tryz.ntmps114
 go_wp2_with(first
  | (go_at_call 174;(with_reducible refine(MO p.file _ eu).mono ?_);rintro e1 w1 ⟨⟨_|_,rfl,hb⟩,rfl⟩<;>(have Hn:=hide hb;clear hb))
  | (go_at_call 175;(with_reducible refine(ZL (Hp.out.below (iD _ _))).mono ?_);rintro e1 w2 ⟨⟨b,rfl,hb⟩,hB⟩;have Hs:=hide hb;have HB:=hide (Dy hB);clear hb hB))
 all_goals(go_ret;go_tidy)
 all_goals refine⟨ah.mk ?_,(by first|exact HB.out|exact iD _ _)⟩
 all_goals rw[gK.out]
 all_goals have hn:=Hn.out
 all_goals(try have hs:=Hs.out)
 all_goals grind
theorem ZQ{S:Nat→Prop}{x:Ph}{p:Pt}{w:World}(hp:bM S w x p)(h1 :¬(p.kind:Int)=1)(h2 :¬(p.kind:Int)=2)(h3 :¬(p.kind:Int)=3)(h4 :¬(p.kind:Int)=4):
  Calls Tryz.prog 114 #[.agg #[.int .u8 p.kind,.string p.file,.string p.text,.int .i64 p.hunk.at_,.slice x.h.oA p.hunk.old.length x.h.oc,.slice x.h.nA p.hunk.new.length x.h.nc,.int .u8 p.edit.kind,.slice x.e.pA p.edit.path.length x.e.pc,.int .i64 p.edit.at_,.int .i64 p.edit.far,.string p.edit.frm,.string p.edit.to,.slice x.e.oA p.edit.old.len x.e.oc,.slice x.e.nA p.edit.new.len x.e.nc]] w fun e w'=>ah (bI p) e∧Below w.heap.size w w':=by
 have gK:Hid (¬bI p):=hide (by unfold bI;omega);clear hp;go_enter Tryz.func114,Tryz.ntmps114
 go_wp2_with fail
 all_goals(go_ret;go_tidy)
 all_goals exact⟨ah.no gK.out,iD _ _⟩
end
end Go.Proofs.YtjjaojnglnpgaaaGreatDoor
