/- Part 17 of what scriptBack_cardUpto rests on. -/
import Derived.Deep.CutBlock
import Derived.Deep.DeepCutAuto
import Derived.Deep.RegionHeld
import Derived.Lib.ItoaLen
import Derived.Test.YtjjaojnglnpgaaaGreatDoorY15
import Derived.Test.YtjjaojnglnpgaaaGreatDoorY13
import Derived.Test.YtjjaojnglnpgaaaGreatDoorY10
import Derived.Test.YtjjaojnglnpgaaaGreatDoorY08
import Derived.Test.YtjjaojnglnpgaaaGreatDoorY03
import Derived.Test.YtjjaojnglnpgaaaGreatDoorY05
import Derived.Test.YtjjaojnglnpgaaaGreatDoorY00
set_option linter.unusedVariables false
set_option linter.unusedSimpArgs false
set_option maxHeartbeats 16000000
set_option maxRecDepth 1000000
namespace Go.Proofs.YtjjaojnglnpgaaaGreatDoor
section
open Go.RowKit
theorem bJ.eq_iff{a b:bJ}:a=b↔a.kind=b.kind∧a.repo=b.repo∧a.frm=b.frm∧a.name=b.name∧a.file=b.file∧a.patch=b.patch∧a.bytes=b.bytes:=by cases a;cases b;simp
abbrev gQ(p:Pt)(x:Ph):List Value:=[.int .u8 p.kind,.string p.file,.string p.text,.int .i64 p.hunk.at_,.slice x.h.oA p.hunk.old.length x.h.oc,.slice x.h.nA p.hunk.new.length x.h.nc,.int .u8 p.edit.kind,.slice x.e.pA p.edit.path.length x.e.pc,.int .i64 p.edit.at_,.int .i64 p.edit.far,.string p.edit.frm,.string p.edit.to,.slice x.e.oA p.edit.old.len x.e.oc,.slice x.e.nA p.edit.new.len x.e.nc]
theorem qY{w:World}{b:Nat}{pre mid post:List Value}(h:w.rangeAt b 0 (pre++(mid++post))):w.rangeAt b pre.length mid:=fun j v hv=>by
 have hj:j<mid.length:=(List.getElem?_eq_some_iff.1 hv).1;have:=h (pre.length+j) v (by rw[List.getElem?_append_right (Nat.le_add_right _ _),Nat.add_sub_cancel_left,List.getElem?_append_left hj];exact hv)
 rwa [Nat.zero_add]at this
theorem Kv{w:World}{b:Nat}{c:bJ}{x:Ph}{A:Option Addr}{n:Nat}(h:w.rangeAt b 0 (ak c x A n)):w.rangeAt b 5 (gQ c.patch x):=
 qY (pre:=[.int .u8 c.kind,.string c.repo,.string c.frm,.string c.name,.string c.file]) (mid:=gQ c.patch x) (post:=[.slice A c.bytes.length n]) h
theorem X8{S S':Nat→Prop}{x y:Ph}{A A':Option Addr}{n n':Nat}{a b:bJ}{w:World}(ha:dw S w a x A n)(hb:dw S' w b y A' n'):
  Calls Tryz.prog 51 #[.agg (ak a x A n).toArray,.agg (ak b y A' n').toArray] w fun e w'=>ag (a=b) e∧Below w.heap.size w w':=by
 obtain⟨W0,hW0⟩:∃W0,W0=(w.alloc (.cells (ak a x A n).toArray 46)).alloc (.cells (ak b y A' n').toArray 46):=⟨_,rfl⟩;have hB0:Below w.heap.size w W0:=by rw[hW0];exact fO _ _
 have hra:W0.rangeAt w.heap.size 0 (ak a x A n):=by rw[hW0];exact World.rangeAt_alloc (fun j v hv=>by rw[Lib.cell_of_heap (heap_alloc_new w _),Nat.zero_add];simpa using hv) _
 have hrb:W0.rangeAt (w.heap.size+1) 0 (ak b y A' n'):=by
  rw[hW0];intro j v hv;have h:=heap_alloc_new (w.alloc (.cells (ak a x A n).toArray 46)) (.cells (ak b y A' n').toArray 46);rw[show(w.alloc (.cells (ak a x A n).toArray 46)).heap.size=w.heap.size+1 by simp]at h;rw[Lib.cell_of_heap h,Nat.zero_add]
  simpa using hv
 have a0:=hra 0 _ rfl;have a1:=hra 1 _ rfl;have a2:=hra 2 _ rfl;have a3:=hra 3 _ rfl;have a4:=hra 4 _ rfl;have a5:=hra 5 _ rfl;have a6:=hra 6 _ rfl;have a7:=hra 7 _ rfl;have a8:=hra 8 _ rfl;have a9:=hra 9 _ rfl;have a10:=hra 10 _ rfl;have a11:=hra 11 _ rfl;have a12:=hra 12 _ rfl;have yE:=hra 13 _ rfl;have G7:=hra 14 _ rfl;have G8:=hra 15 _ rfl;have a16:=hra 16 _ rfl;have a17:=hra 17 _ rfl;have G9:=hra 18 _ rfl;have Dx:=hra 19 _ rfl;have b0:=hrb 0 _ rfl;have b1:=hrb 1 _ rfl;have b2:=hrb 2 _ rfl;have b3:=hrb 3 _ rfl;have b4:=hrb 4 _ rfl;have b5:=hrb 5 _ rfl;have b6:=hrb 6 _ rfl;have b7:=hrb 7 _ rfl;have b8:=hrb 8 _ rfl;have b9:=hrb 9 _ rfl;have b10:=hrb 10 _ rfl;have b11:=hrb 11 _ rfl;have b12:=hrb 12 _ rfl;have b13:=hrb 13 _ rfl;have b14:=hrb 14 _ rfl;have b15:=hrb 15 _ rfl;have b16:=hrb 16 _ rfl;have b17:=hrb 17 _ rfl;have b18:=hrb 18 _ rfl;have b19:=hrb 19 _ rfl;simp only[Nat.zero_add]at a0 a1 a2 a3 a4 a5 a6 a7 a8 a9 a10 a11 a12 yE G7 G8 a16 a17 G9 Dx b0 b1 b2 b3 b4 b5 b6 b7 b8 b9 b10 b11 b12 b13 b14 b15 b16 b17 b18 b19;have Ha:=hide (ha.below hB0);have Hb:=hide (hb.below hB0);have kC:=hide (@bJ.eq_iff a b);have jM:=hide (And.intro (dW (s:=a.repo) (t:=b.repo)) (And.intro (dW (s:=a.frm) (t:=b.frm)) (And.intro (dW (s:=a.name) (t:=b.name)) (dW (s:=a.file) (t:=b.file)))));have HB0:=hide hB0;clear ha hb hra hrb hB0;go_enter Tryz.func51,Tryz.ntmps51
 go_upto_region 1 with fail
 change Code.wp _ _ _ _ ((w.alloc (.cells (ak a x A n).toArray 46)).alloc (.cells (ak b y A' n').toArray 46));rw[←hW0];clear hW0
 go_wp2_with(first
  | (go_at_call 124;(with_reducible refine(WH Ha.out.patch Hb.out.patch).mono ?_);rintro e w1 ⟨⟨b1,rfl,hb⟩,hB⟩;have Hb1:=hide hb;have HB1:=hide hB;have X9:=(hB.cell (block_lt_of_cell Dx)).trans Dx;have Ya:=(hB.cell (block_lt_of_cell b19)).trans b19;clear hb hB)
  | (go_at_call 66;(with_reducible refine(Vw (Ha.out.bytes.below HB1.out) (Hb.out.bytes.below HB1.out)).mono ?_);rintro e w2 ⟨⟨b2,rfl,hb⟩,q2,rfl⟩;have Hb2:=hide hb;clear hb))
 all_goals
  go_ret;go_tidy;refine⟨ag.mk ?_,?_⟩
  ·rw[kC.out]
   first
    | (have jl:=Hb1.out;have lN:=Hb2.out;clear Hb1 Hb2;have ht:=jM.out;grind)
    | (have jl:=Hb1.out;clear Hb1;have ht:=jM.out;grind)
    | (have ht:=jM.out;grind)
  ·first
    | exact HB0.out
    | exact HB0.out.trans (HB1.out.mono HB0.out.size)
    | exact HB0.out.trans ((bW HB1.out _).mono HB0.out.size)
theorem eG.tab {w : World} (h : eG w) : Lib.TabIs Tryz.prog w "internal/strconv.uint64pow10" .u64 Lib.pow10Tab := h.2
theorem zo(w:World)(a b:ByteArray):(w.alloc (.cells #[.string a,.string b] 9)).ownsRow 0 9 1 (.slice (some ⟨w.heap.size,0,none⟩) 2 2) 2 ([a,b].map .string):=
 ⟨rfl,.inr ⟨w.heap.size,2,#[.string a,.string b],rfl,Nat.zero_le _,heap_alloc_new w _,aC _,by decide,rfl,rfl⟩⟩
abbrev pO(n:Int):ByteArray:=⟨(Lib.itoa n).toArray⟩
abbrev kW:ByteArray:=⟨#[101,114,114,111,114]⟩
theorem An.err_line(a:An)(h :¬a.err=0):Lib.join ([kW,pO a.err].map (·.data.toList)) [32]=a.line:=by
 rw[An.line,An.parts,if_neg h];simp[kW,pO,jQ]
theorem An.err_len(a:An)(h :¬a.err=0)(hi:ay a.err):a.line.length≤40:=by
 rw[An.line_err a h];have:=Lib.itoa_length_le a.err hi.1 hi.2;simp[jQ];omega
theorem vZ{S:Nat→Prop}{w:World}{x:Ah}{a:An}(h:lL S w x a)(he :¬a.err=0)(ht:eG w):
  Calls Tryz.prog 20 #[.agg #[.int .i64 a.err,.slice x.nA a.names.length x.nc,.string a.text,.slice x.bA a.bytes.length x.bc]] w fun e w'=>e = .returned (.string ⟨a.line.toArray⟩)∧Below w.heap.size w w':=by
 have Yb:=hide (a.err_len he h.err);have lM:=hide (a.err_line he);have Hi:Hid (-9223372036854775808≤a.err∧a.err≤9223372036854775807):=hide h.err;have HT:=hide (eG.below ht (az w (.cells #[.int .i64 a.err,.slice x.nA a.names.length x.nc,.string a.text,.slice x.bA a.bytes.length x.bc] 53)));clear h ht;go_enter Tryz.func20,Tryz.ntmps20
 go_wp2_with(first
  | (go_at_call 55;(with_reducible refine(Tryz.strconv_Itoa a.err Hi.out.1 Hi.out.2 _ (eG.tab HT.out)).mono ?_);rintro e1 w1 ⟨rfl,k1,os,rfl⟩;have hg:=VM (w.alloc (.cells #[.int .i64 a.err,.slice x.nA a.names.length x.nc,.string a.text,.slice x.bA a.bytes.length x.bc] 53)) k1 os;generalize Go.Sort.grow ((w.alloc (.cells #[.int .i64 a.err,.slice x.nA a.names.length x.nc,.string a.text,.slice x.bA a.bytes.length x.bc] 53)).drewN k1) os=w1 at hg;have HB1:Hid (Below w.heap.size w w1):=hide ((az w _).trans (hg.mono (by simp)));clear hg)
  | (go_at_call 47;(with_reducible refine(JH (B:=0) (ws:=[kW,pO a.err]) (zo w1 kW (pO a.err)) rfl (Nat.succ_pos _) (by simp) (by have:=Yb.out;rw[lM.out];omega)).mono ?_);rintro e2 w2 ⟨rfl,hb2⟩;have HB2:Hid (Below w.heap.size w w2):=hide ((HB1.out.trans ((az w1 _).mono HB1.out.size)).trans (hb2.mono (by have:=HB1.out.size;simp;omega)));clear hb2))
 go_ret;exact⟨congrArg (fun l:List UInt8=>Ending.returned (.string ⟨l.toArray⟩)) lM.out,HB2.out⟩
theorem wo{S:Nat→Prop}{w:World}{x:Ah}{a:An}(h:lL S w x a)(ht:eG w)(hbk:a.bulk≤1099511627776):
  Calls Tryz.prog 20 #[.agg #[.int .i64 a.err,.slice x.nA a.names.length x.nc,.string a.text,.slice x.bA a.bytes.length x.bc]] w fun e w'=>e = .returned (.string ⟨a.line.toArray⟩)∧Below w.heap.size w w':=by
 by_cases he:a.err=0
 ·rw[he];exact oN h he hbk
 ·exact vZ h he ht
end
end Go.Proofs.YtjjaojnglnpgaaaGreatDoor
