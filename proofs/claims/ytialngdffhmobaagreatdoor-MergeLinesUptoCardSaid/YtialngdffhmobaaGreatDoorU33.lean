/- Part 34 of what mgTop rests on. -/
import Derived.LoopTactic
import Derived.Test.YtialngdffhmobaaGreatDoorRows
import Derived.ChangeSlices
import Derived.SliceStrings
import Derived.Test.YtialngdffhmobaaGreatDoorU31
import Derived.Test.YtialngdffhmobaaGreatDoorU32
import Derived.Test.YtialngdffhmobaaGreatDoorU07
import Derived.Test.YtialngdffhmobaaGreatDoorU29
import Derived.Test.YtialngdffhmobaaGreatDoorU04
import Derived.Test.YtialngdffhmobaaGreatDoorU28
import Derived.Test.YtialngdffhmobaaGreatDoorU26
import Derived.Test.YtialngdffhmobaaGreatDoorU00
set_option linter.unusedVariables false
set_option linter.unusedSimpArgs false
set_option maxHeartbeats 16000000
set_option maxRecDepth 1000000
namespace Go.Proofs.YtialngdffhmobaaGreatDoor
section
open Go.RowKit
theorem patchRight_any{S:Nat→Prop}{x:Ph}{p:Pt}{w:World}(hp:PtIn S w x p)(htab:TabOk w)(hsum:p.edit.frm.size+p.edit.to.size≤9223372036854775807):
  Calls Tryz.prog 15 #[.agg #[.int .u8 p.kind,.string p.file,.string p.text,.int .i64 p.hunk.at_,.slice x.h.oA p.hunk.old.length x.h.oc,.slice x.h.nA p.hunk.new.length x.h.nc,.int .u8 p.edit.kind,.slice x.e.pA p.edit.path.length x.e.pc,.int .i64 p.edit.at_,.int .i64 p.edit.far,.string p.edit.frm,.string p.edit.to,.slice x.e.oA p.edit.old.len x.e.oc,.slice x.e.nA p.edit.new.len x.e.nc]] w
   fun e w'=>RetB (PtOk p) e∧Below w.heap.size w w':=by
 obtain⟨kd,file,text,hunk,edit⟩:=p;by_cases h1:kd=1
 ·subst h1;exact patchRight_1 hp
 by_cases h2:kd=2
 ·subst h2;exact patchRight_2 hp
 by_cases h3:kd=3
 ·subst h3;exact patchRight_3 hp
 by_cases h4:kd=4
 ·subst h4;exact patchRight_4 hp htab hsum
 exact patchRight_0 hp (by simp only;omega) (by simp only;omega) (by simp only;omega) (by simp only;omega)
theorem right_yes{S:Nat→Prop}{x:Ph}{p:Pt}{w:World}(hp:PtIn S w x p)(htab:TabOk w)(hsum:p.edit.frm.size+p.edit.to.size≤9223372036854775807)(hok:PtOk p):
  Calls Tryz.prog 15 #[.agg #[.int .u8 p.kind,.string p.file,.string p.text,.int .i64 p.hunk.at_,.slice x.h.oA p.hunk.old.length x.h.oc,.slice x.h.nA p.hunk.new.length x.h.nc,.int .u8 p.edit.kind,.slice x.e.pA p.edit.path.length x.e.pc,.int .i64 p.edit.at_,.int .i64 p.edit.far,.string p.edit.frm,.string p.edit.to,.slice x.e.oA p.edit.old.len x.e.oc,.slice x.e.nA p.edit.new.len x.e.nc]] w fun e w'=>e = .returned (.bool true)∧Below w.heap.size w w':=by
 refine(patchRight_any hp htab hsum).mono ?_;rintro e w' ⟨⟨b,rfl,hb⟩,hB⟩;exact⟨by rw[hb.mpr hok],hB⟩
theorem infoPt:(Tryz.prog.info? 32).map (·.size)=some 14:=by kernel_rfl
abbrev ptVs(p:Pt)(x:Ph):List Value:=[.int .u8 p.kind,.string p.file,.string p.text,.int .i64 p.hunk.at_,.slice x.h.oA p.hunk.old.length x.h.oc,.slice x.h.nA p.hunk.new.length x.h.nc,.int .u8 p.edit.kind,.slice x.e.pA p.edit.path.length x.e.pc,.int .i64 p.edit.at_,.int .i64 p.edit.far,.string p.edit.frm,.string p.edit.to,.slice x.e.oA p.edit.old.len x.e.oc,.slice x.e.nA p.edit.new.len x.e.nc]
abbrev zeroPt:List Value:=[.int .u8 0,.string ByteArray.empty,.string ByteArray.empty,.int .i64 0,.slice none 0 0,.slice none 0 0,.int .u8 0,.slice none 0 0,.int .i64 0,.int .i64 0,.string ByteArray.empty,.string ByteArray.empty,.slice none 0 0,.slice none 0 0]
abbrev Ph.zero:Ph:=⟨⟨none,0,none,0⟩,⟨none,0,none,0,none,0⟩⟩
theorem zeroPt_eq:zeroPt=ptVs Pt.zero Ph.zero:=rfl
theorem ptVs_one(p:Pt)(x:Ph):(ptVs p x).toArray.all (·.oneCell')=true:=all_oneCell_toArray (by
 intro v hv;simp only[List.mem_cons,List.not_mem_nil,or_false]at hv;rcases hv with rfl|rfl|rfl|rfl|rfl|rfl|rfl|rfl|rfl|rfl|rfl|rfl|rfl|rfl<;>rfl)
theorem ptVs_hk{w:World}{N:Nat}{p:Pt}{x:Ph}(h:Bx w N (ptVs p x)):w.rangeAt N 3 (hkVs p.hunk x.h):=Bx.sub (pre:=[.int .u8 p.kind,.string p.file,.string p.text]) (mid:=hkVs p.hunk x.h) (post:=edVs p.edit x.e) h
theorem ptVs_ed{w:World}{N:Nat}{p:Pt}{x:Ph}(h:Bx w N (ptVs p x)):w.rangeAt N 6 (edVs p.edit x.e):=Bx.sub (pre:=[.int .u8 p.kind,.string p.file,.string p.text,.int .i64 p.hunk.at_,.slice x.h.oA p.hunk.old.length x.h.oc,.slice x.h.nA p.hunk.new.length x.h.nc]) (mid:=edVs p.edit x.e) (post:=[]) h
structure PtX(w:World)(x:Ph)(p:Pt):Prop where
 r:PtIn Any w x p
 b:PtB p
theorem PtX.below{w w':World}{x:Ph}{p:Pt}(a:PtX w x p)(hB:Below w.heap.size w w'):PtX w' x p:=⟨a.r.below hB,a.b⟩
theorem PtX.hunk{w:World}{x:Ph}{p:Pt}(a:PtX w x p):HkX w x.h p.hunk:=⟨a.r.hunk,a.b.hunk⟩
theorem PtX.edit{w:World}{x:Ph}{p:Pt}(a:PtX w x p):EdX w x.e p.edit:=⟨a.r.edit,a.b.edit⟩
theorem PtS.x{w:World}{x x0:Ph}{p p0:Pt}{L:List Nat}(a:PtS w x p L x0 p0)(hb:PtB p)(hr:PhR x0):PtX w x p:=⟨a.in_ hb hr,hb⟩
theorem PtS.zero{w:World}{x0:Ph}{p0:Pt}:PtS w Ph.zero Pt.zero [] x0 p0:=⟨[],[],HkO.s HkO.zero,EdO.s EdO.zero,rfl⟩
theorem HkB.inv{h:Hk}(a:HkB h):HkB h.inv:=⟨a.at_,a.new,a.old⟩
theorem PtB.inv{p:Pt}(a:PtB p):PtB p.inv:=by
 obtain⟨h1,h2,h3,h4,h5⟩:=a;unfold Pt.inv;split
 ·exact⟨by show(2:Nat)<256;decide,h2,h3,h4,h5⟩
 ·split
  ·exact⟨by show(1:Nat)<256;decide,h2,h3,h4,h5⟩
  ·split
   ·exact⟨by show(3:Nat)<256;decide,h2,h3,h4.inv,h5⟩
   ·exact⟨h1,h2,h3,h4,h5.inv⟩
theorem right_yesO{x:Ph}{p:Pt}{w:World}(H:PtX w x p)(htab:TabOk w)(hok:PtOk p):Calls Tryz.prog 15 #[.agg (ptVs p x).toArray] w fun e w'=>e = .returned (.bool true)∧Below w.heap.size w w':=right_yes H.r htab H.b.edit.sum hok
theorem right_anyO{x:Ph}{p:Pt}{w:World}(H:PtX w x p)(htab:TabOk w):Calls Tryz.prog 15 #[.agg (ptVs p x).toArray] w fun e w'=>RetB (PtOk p) e∧Below w.heap.size w w':=patchRight_any H.r htab H.b.edit.sum
def InvPost(x:Ph)(p q:Pt)(w:World)(e:Ending)(w':World):Prop:=(∃y L,e = .returned (.agg (ptVs q y).toArray)∧PtS w' y q L x p∧New w w' L)∧Below w.heap.size w w'
theorem patInvO_1{x:Ph}{file text:ByteArray}{h:Hk}{e:Ed}{w:World}(H:PtX w x ⟨1,file,text,h,e⟩)(htab:TabOk w)(hok:PtOk ⟨1,file,text,h,e⟩):
  Calls Tryz.prog 119 #[.agg (ptVs ⟨1,file,text,h,e⟩ x).toArray] w (InvPost x ⟨1,file,text,h,e⟩ ⟨2,file,text,h,e⟩ w):=by
 have hz:h=Hk.zero∧e=Ed.zero:=by
  obtain⟨_,hh|hh|hh⟩:=hok
  ·exact⟨hh.2.1,hh.2.2⟩
  ·exact absurd hh.1 (by show¬(1:Nat)=_;decide)
  ·exact absurd hh.1 (by show¬(1:Nat)=_;decide)
 have Hz:=hide hz;clear hz;obtain⟨W0,hW0⟩:∃W0,W0=(w.alloc (.cells (ptVs ⟨1,file,text,h,e⟩ x).toArray 32)).alloc (.cells zeroPt.toArray 32):=⟨_,rfl⟩;obtain⟨hN0,hR0⟩:=bx_two w (ptVs ⟨1,file,text,h,e⟩ x) zeroPt 32 32;rw[←hW0]at hN0 hR0;have hB0:Below w.heap.size w W0:=by rw[hW0];exact below2 _ _
 have HW0:=hide hW0;have HN0:=hide hN0;have HR0:=hide hR0;have HB0:=hide hB0;have HH:=hide H;have Htab:=hide htab;have hs0:W0.heap.size=w.heap.size+2:=by rw[hW0];simp
 have Hs0:=hide hs0;have Hok:=hide hok;clear hW0 hN0 hR0 hB0 H htab hs0 hok;go_enter Tryz.func119,Tryz.ntmps119
 go_upto_region 1 with fail
 change Code.wp _ _ _ _ ((w.alloc (.cells (ptVs ⟨1,file,text,h,e⟩ x).toArray 32)).alloc (.cells zeroPt.toArray 32));rw[←HW0.out];clear HW0;refine wp_region_lit ?_;refine gl ?_ HN0.out.c Tryz.underlying32 infoPt;refine gc (right_yesO (HH.out.below HB0.out) (Htab.out.below HB0.out) Hok.out) ?_;rintro e1 w1 ⟨rfl,hB⟩;refine⟨_,rfl,?_⟩;refine sk (v:= .bool false) ?_;refine wpList_nil ?_;rename_i hK;refine hK _ _ ?_;clear hK;have HN1:=hide (HN0.out.call hB);have HR1:=hide (HR0.out.call hB);have HB1:=hide (blw_up HB0.out hB);have Hs1:Hid (w.heap.size+2≤w1.heap.size):=hide (by have:=hB.size;have:=Hs0.out;omega);clear hB HN0 HR0 HB0 Hs0;have k0:=HN1.out.cell 0;have f1:=HN1.out.f
 go_upto_region 12 with fail
 change Code.wp _ _ _ _ (w1.setCells w.heap.size 0 [.int .u8 2]);have HN2:=hide (HN1.out.puts 0 [.int .u8 2] (ptVs ⟨2,file,text,h,e⟩ x) (by simp));have HR2:=hide (HR1.out.off (M:=w.heap.size) (by omega) 0 [.int .u8 2]);have HB2:=hide (bx_below (Nat.le_refl w.heap.size) [.int .u8 2] 0 HB1.out);clear k0 f1 HN1 HR1 HB1;generalize w1.setCells w.heap.size 0 [.int .u8 2]=W2 at HN2 HR2 HB2⊢;refine wp_region_lit ?_;refine gl ?_ HN2.out.c Tryz.underlying32 infoPt;refine gs (cells:=(ptVs ⟨2,file,text,h,e⟩ x).toArray) ?_ (HR2.out.th (o:=0) (by simp)) infoPt (ptVs_one _ _);refine wpList_nil ?_;rename_i hK;refine hK _ _ ?_;clear hK;refine wp_ret ?_;have hR9:=HR2.out.puts 0 (ptVs ⟨2,file,text,h,e⟩ x) (ptVs ⟨2,file,text,h,e⟩ x) (by simp);exact bodyPost_ret (v:= .agg (ptVs ⟨2,file,text,h,e⟩ x).toArray) (box_result Tryz.results119 hR9.c Tryz.underlying32 infoPt) rfl ⟨⟨_,_,rfl,(by obtain⟨rfl,rfl⟩:=Hz.out;exact⟨[],[],HkS.same,EdS.same,rfl⟩),New.nil⟩,bx_below (by omega) _ _ HB2.out⟩
theorem patInvO_2{x:Ph}{file text:ByteArray}{h:Hk}{e:Ed}{w:World}(H:PtX w x ⟨2,file,text,h,e⟩)(htab:TabOk w)(hok:PtOk ⟨2,file,text,h,e⟩):
  Calls Tryz.prog 119 #[.agg (ptVs ⟨2,file,text,h,e⟩ x).toArray] w (InvPost x ⟨2,file,text,h,e⟩ ⟨1,file,text,h,e⟩ w):=by
 have hz:h=Hk.zero∧e=Ed.zero:=by
  obtain⟨_,hh|hh|hh⟩:=hok
  ·exact⟨hh.2.1,hh.2.2⟩
  ·exact absurd hh.1 (by show¬(2:Nat)=_;decide)
  ·exact absurd hh.1 (by show¬(2:Nat)=_;decide)
 have Hz:=hide hz;clear hz;obtain⟨W0,hW0⟩:∃W0,W0=(w.alloc (.cells (ptVs ⟨2,file,text,h,e⟩ x).toArray 32)).alloc (.cells zeroPt.toArray 32):=⟨_,rfl⟩;obtain⟨hN0,hR0⟩:=bx_two w (ptVs ⟨2,file,text,h,e⟩ x) zeroPt 32 32;rw[←hW0]at hN0 hR0;have hB0:Below w.heap.size w W0:=by rw[hW0];exact below2 _ _
 have HW0:=hide hW0;have HN0:=hide hN0;have HR0:=hide hR0;have HB0:=hide hB0;have HH:=hide H;have Htab:=hide htab;have hs0:W0.heap.size=w.heap.size+2:=by rw[hW0];simp
 have Hs0:=hide hs0;have Hok:=hide hok;clear hW0 hN0 hR0 hB0 H htab hs0 hok;go_enter Tryz.func119,Tryz.ntmps119
 go_upto_region 1 with fail
 change Code.wp _ _ _ _ ((w.alloc (.cells (ptVs ⟨2,file,text,h,e⟩ x).toArray 32)).alloc (.cells zeroPt.toArray 32));rw[←HW0.out];clear HW0;refine wp_region_lit ?_;refine gl ?_ HN0.out.c Tryz.underlying32 infoPt;refine gc (right_yesO (HH.out.below HB0.out) (Htab.out.below HB0.out) Hok.out) ?_;rintro e1 w1 ⟨rfl,hB⟩;refine⟨_,rfl,?_⟩;refine sk (v:= .bool false) ?_;refine wpList_nil ?_;rename_i hK;refine hK _ _ ?_;clear hK;have HN1:=hide (HN0.out.call hB);have HR1:=hide (HR0.out.call hB);have HB1:=hide (blw_up HB0.out hB);have Hs1:Hid (w.heap.size+2≤w1.heap.size):=hide (by have:=hB.size;have:=Hs0.out;omega);clear hB HN0 HR0 HB0 Hs0;have k0:=HN1.out.cell 0;have f1:=HN1.out.f
 go_upto_region 12 with fail
 change Code.wp _ _ _ _ (w1.setCells w.heap.size 0 [.int .u8 1]);have HN2:=hide (HN1.out.puts 0 [.int .u8 1] (ptVs ⟨1,file,text,h,e⟩ x) (by simp));have HR2:=hide (HR1.out.off (M:=w.heap.size) (by omega) 0 [.int .u8 1]);have HB2:=hide (bx_below (Nat.le_refl w.heap.size) [.int .u8 1] 0 HB1.out);clear k0 f1 HN1 HR1 HB1;generalize w1.setCells w.heap.size 0 [.int .u8 1]=W2 at HN2 HR2 HB2⊢;refine wp_region_lit ?_;refine gl ?_ HN2.out.c Tryz.underlying32 infoPt;refine gs (cells:=(ptVs ⟨1,file,text,h,e⟩ x).toArray) ?_ (HR2.out.th (o:=0) (by simp)) infoPt (ptVs_one _ _);refine wpList_nil ?_;rename_i hK;refine hK _ _ ?_;clear hK;refine wp_ret ?_;have hR9:=HR2.out.puts 0 (ptVs ⟨1,file,text,h,e⟩ x) (ptVs ⟨1,file,text,h,e⟩ x) (by simp);exact bodyPost_ret (v:= .agg (ptVs ⟨1,file,text,h,e⟩ x).toArray) (box_result Tryz.results119 hR9.c Tryz.underlying32 infoPt) rfl ⟨⟨_,_,rfl,(by obtain⟨rfl,rfl⟩:=Hz.out;exact⟨[],[],HkS.same,EdS.same,rfl⟩),New.nil⟩,bx_below (by omega) _ _ HB2.out⟩
theorem patInvO_3{x:Ph}{file text:ByteArray}{h:Hk}{e:Ed}{w:World}(H:PtX w x ⟨3,file,text,h,e⟩)(htab:TabOk w)(hok:PtOk ⟨3,file,text,h,e⟩):
  Calls Tryz.prog 119 #[.agg (ptVs ⟨3,file,text,h,e⟩ x).toArray] w (InvPost x ⟨3,file,text,h,e⟩ ⟨3,file,text,h.inv,e⟩ w):=by
 have hz:e=Ed.zero:=by
  obtain⟨_,hh|hh|hh⟩:=hok
  ·exact absurd hh.1 (by show¬((3:Nat)=1∨(3:Nat)=2);decide)
  ·exact hh.2.2.1
  ·exact absurd hh.1 (by show¬(3:Nat)=_;decide)
 have Hz:=hide hz;clear hz;obtain⟨W0,hW0⟩:∃W0,W0=(w.alloc (.cells (ptVs ⟨3,file,text,h,e⟩ x).toArray 32)).alloc (.cells zeroPt.toArray 32):=⟨_,rfl⟩;obtain⟨hN0,hR0⟩:=bx_two w (ptVs ⟨3,file,text,h,e⟩ x) zeroPt 32 32;rw[←hW0]at hN0 hR0;have hB0:Below w.heap.size w W0:=by rw[hW0];exact below2 _ _
 have HW0:=hide hW0;have HN0:=hide hN0;have HR0:=hide hR0;have HB0:=hide hB0;have HH:=hide H;have Htab:=hide htab;have hs0:W0.heap.size=w.heap.size+2:=by rw[hW0];simp
 have Hs0:=hide hs0;have Hok:=hide hok;clear hW0 hN0 hR0 hB0 H htab hs0 hok;go_enter Tryz.func119,Tryz.ntmps119
 go_upto_region 1 with fail
 change Code.wp _ _ _ _ ((w.alloc (.cells (ptVs ⟨3,file,text,h,e⟩ x).toArray 32)).alloc (.cells zeroPt.toArray 32));rw[←HW0.out];clear HW0;refine wp_region_lit ?_;refine gl ?_ HN0.out.c Tryz.underlying32 infoPt;refine gc (right_yesO (HH.out.below HB0.out) (Htab.out.below HB0.out) Hok.out) ?_;rintro e1 w1 ⟨rfl,hB⟩;refine⟨_,rfl,?_⟩;refine sk (v:= .bool false) ?_;refine wpList_nil ?_;rename_i hK;refine hK _ _ ?_;clear hK;have HN1:=hide (HN0.out.call hB);have HR1:=hide (HR0.out.call hB);have HB1:=hide (blw_up HB0.out hB);have Hs1:Hid (w.heap.size+2≤w1.heap.size):=hide (by have:=hB.size;have:=Hs0.out;omega);clear hB HN0 HR0 HB0 Hs0;have k0:=HN1.out.cell 0
 go_upto_region 9 with fail
 refine wp_region_lit ?_;refine sk ?_;refine gl ?_ (ptVs_hk HN1.out) Tryz.underlying25 infoHk;refine gc (hunkInvO (x:=x.h) (h:=h) (HH.out.hunk.below HB1.out)) ?_;rintro e2 w2 ⟨⟨y,L,rfl,ho,hn⟩,hB⟩;refine⟨_,rfl,?_⟩;have HN2:=hide (HN1.out.call hB);have HR2:=hide (HR1.out.call hB);have HB2:=hide (blw_up HB1.out hB);have HO:=hide ho;have HNw:=hide (hn.from HB1.out.size);have Hg:Hid (∀b∈L,w.heap.size+2≤b):=hide (fun b hb=>Nat.le_trans Hs1.out (hn.ge b hb));clear hB ho hn k0 HN1 HR1 HB1;refine sk ?_;refine gs (cells:=(hkVs h.inv y).toArray) ?_ (HN2.out.th (o:=3) (by simp)) infoHk (hkVs_one _ _);refine wpList_nil ?_;rename_i hK;refine hK _ _ ?_;clear hK;have HN3:=hide (HN2.out.puts 3 (hkVs h.inv y) (ptVs ⟨3,file,text,h.inv,e⟩ ⟨y,x.e⟩) (by simp));have HR3:=hide (HR2.out.off (M:=w.heap.size) (by omega) 3 (hkVs h.inv y));have HB3:=hide (bx_below (Nat.le_refl w.heap.size) (hkVs h.inv y) 3 HB2.out);have hs3:(w2.setCells w.heap.size 3 (hkVs h.inv y)).heap.size=w2.heap.size:=bx_size _ _ _ _;clear HN2 HR2 HB2
 go_upto_region 12 with fail
 refine wp_region_lit ?_;refine gl ?_ HN3.out.c Tryz.underlying32 infoPt;refine gs (cells:=(ptVs ⟨3,file,text,h.inv,e⟩ ⟨y,x.e⟩).toArray) ?_ (HR3.out.th (o:=0) (by simp)) infoPt (ptVs_one _ _);refine wpList_nil ?_;rename_i hK;refine hK _ _ ?_;clear hK;refine wp_ret ?_;have hR9:=HR3.out.puts 0 (ptVs ⟨3,file,text,h.inv,e⟩ ⟨y,x.e⟩) (ptVs ⟨3,file,text,h.inv,e⟩ ⟨y,x.e⟩) (by simp);exact bodyPost_ret (v:= .agg (ptVs ⟨3,file,text,h.inv,e⟩ ⟨y,x.e⟩).toArray) (box_result Tryz.results119 hR9.c Tryz.underlying32 infoPt) rfl ⟨⟨_,_,rfl,(by have:=Hz.out;subst this;exact⟨L,[],(HO.out.s).keep (fun b hb=>(bx_heap _ (by have:=Hg.out b hb;omega) _ _ _).trans (bx_heap _ (by have:=Hg.out b hb;omega) _ _ _)),EdS.same,by simp⟩),HNw.out.up (by rw[bx_size,hs3];exact Nat.le_refl _)⟩,bx_below (by omega) _ _ HB3.out⟩
theorem patInvO_4{x:Ph}{file text:ByteArray}{h:Hk}{e:Ed}{w:World}(H:PtX w x ⟨4,file,text,h,e⟩)(htab:TabOk w)(hok:PtOk ⟨4,file,text,h,e⟩):
  Calls Tryz.prog 119 #[.agg (ptVs ⟨4,file,text,h,e⟩ x).toArray] w (InvPost x ⟨4,file,text,h,e⟩ ⟨4,file,text,h,e.inv⟩ w):=by
 have hz:h=Hk.zero:=by
  obtain⟨_,hh|hh|hh⟩:=hok
  ·exact absurd hh.1 (by show¬((4:Nat)=1∨(4:Nat)=2);decide)
  ·exact absurd hh.1 (by show¬(4:Nat)=_;decide)
  ·exact hh.2.2.1
 have Hz:=hide hz;clear hz;have hoke:EdOk e:=by
  obtain⟨_,hh|hh|hh⟩:=hok
  ·exact absurd hh.1 (by show¬((4:Nat)=1∨(4:Nat)=2);decide)
  ·exact absurd hh.1 (by show¬(4:Nat)=_;decide)
  ·exact hh.2.2.2
 have Hoke:=hide hoke;clear hoke;obtain⟨W0,hW0⟩:∃W0,W0=(w.alloc (.cells (ptVs ⟨4,file,text,h,e⟩ x).toArray 32)).alloc (.cells zeroPt.toArray 32):=⟨_,rfl⟩;obtain⟨hN0,hR0⟩:=bx_two w (ptVs ⟨4,file,text,h,e⟩ x) zeroPt 32 32;rw[←hW0]at hN0 hR0;have hB0:Below w.heap.size w W0:=by rw[hW0];exact below2 _ _
 have HW0:=hide hW0;have HN0:=hide hN0;have HR0:=hide hR0;have HB0:=hide hB0;have HH:=hide H;have Htab:=hide htab;have hs0:W0.heap.size=w.heap.size+2:=by rw[hW0];simp
 have Hs0:=hide hs0;have Hok:=hide hok;clear hW0 hN0 hR0 hB0 H htab hs0 hok;go_enter Tryz.func119,Tryz.ntmps119
 go_upto_region 1 with fail
 change Code.wp _ _ _ _ ((w.alloc (.cells (ptVs ⟨4,file,text,h,e⟩ x).toArray 32)).alloc (.cells zeroPt.toArray 32));rw[←HW0.out];clear HW0;refine wp_region_lit ?_;refine gl ?_ HN0.out.c Tryz.underlying32 infoPt;refine gc (right_yesO (HH.out.below HB0.out) (Htab.out.below HB0.out) Hok.out) ?_;rintro e1 w1 ⟨rfl,hB⟩;refine⟨_,rfl,?_⟩;refine sk (v:= .bool false) ?_;refine wpList_nil ?_;rename_i hK;refine hK _ _ ?_;clear hK;have HN1:=hide (HN0.out.call hB);have HR1:=hide (HR0.out.call hB);have HB1:=hide (blw_up HB0.out hB);have Hs1:Hid (w.heap.size+2≤w1.heap.size):=hide (by have:=hB.size;have:=Hs0.out;omega);clear hB HN0 HR0 HB0 Hs0;have k0:=HN1.out.cell 0
 go_upto_region 11 with fail
 refine wp_region_lit ?_;refine sk ?_;refine gl ?_ (ptVs_ed HN1.out) Tryz.underlying30 infoEd;refine gc (editInvO (x:=x.e) (e:=e) (HH.out.edit.below HB1.out) (Htab.out.below HB1.out) Hoke.out) ?_;rintro e2 w2 ⟨⟨y,L,rfl,ho,hn⟩,hB⟩;refine⟨_,rfl,?_⟩;have HN2:=hide (HN1.out.call hB);have HR2:=hide (HR1.out.call hB);have HB2:=hide (blw_up HB1.out hB);have HO:=hide ho;have HNw:=hide (hn.from HB1.out.size);have Hg:Hid (∀b∈L,w.heap.size+2≤b):=hide (fun b hb=>Nat.le_trans Hs1.out (hn.ge b hb));clear hB ho hn k0 HN1 HR1 HB1;refine sk ?_;refine gs (cells:=(edVs e.inv y).toArray) ?_ (HN2.out.th (o:=6) (by simp)) infoEd (edVs_one _ _);refine wpList_nil ?_;rename_i hK;refine hK _ _ ?_;clear hK;have HN3:=hide (HN2.out.puts 6 (edVs e.inv y) (ptVs ⟨4,file,text,h,e.inv⟩ ⟨x.h,y⟩) (by simp));have HR3:=hide (HR2.out.off (M:=w.heap.size) (by omega) 6 (edVs e.inv y));have HB3:=hide (bx_below (Nat.le_refl w.heap.size) (edVs e.inv y) 6 HB2.out);have hs3:(w2.setCells w.heap.size 6 (edVs e.inv y)).heap.size=w2.heap.size:=bx_size _ _ _ _;clear HN2 HR2 HB2
 go_upto_region 12 with fail
 refine wp_region_lit ?_;refine gl ?_ HN3.out.c Tryz.underlying32 infoPt;refine gs (cells:=(ptVs ⟨4,file,text,h,e.inv⟩ ⟨x.h,y⟩).toArray) ?_ (HR3.out.th (o:=0) (by simp)) infoPt (ptVs_one _ _);refine wpList_nil ?_;rename_i hK;refine hK _ _ ?_;clear hK;refine wp_ret ?_;have hR9:=HR3.out.puts 0 (ptVs ⟨4,file,text,h,e.inv⟩ ⟨x.h,y⟩) (ptVs ⟨4,file,text,h,e.inv⟩ ⟨x.h,y⟩) (by simp);exact bodyPost_ret (v:= .agg (ptVs ⟨4,file,text,h,e.inv⟩ ⟨x.h,y⟩).toArray) (box_result Tryz.results119 hR9.c Tryz.underlying32 infoPt) rfl ⟨⟨_,_,rfl,(by have:=Hz.out;subst this;exact⟨[],L,HkS.same,HO.out.keep (fun b hb=>(bx_heap _ (by have:=Hg.out b hb;omega) _ _ _).trans (bx_heap _ (by have:=Hg.out b hb;omega) _ _ _)),rfl⟩),HNw.out.up (by rw[bx_size,hs3];exact Nat.le_refl _)⟩,bx_below (by omega) _ _ HB3.out⟩
theorem patInvO_no{x:Ph}{p:Pt}{w:World}(H:PtX w x p)(htab:TabOk w)(hok :¬PtOk p):
  Calls Tryz.prog 119 #[.agg (ptVs p x).toArray] w (InvPost x p Pt.zero w):=by
 obtain⟨W0,hW0⟩:∃W0,W0=(w.alloc (.cells (ptVs p x).toArray 32)).alloc (.cells zeroPt.toArray 32):=⟨_,rfl⟩;obtain⟨hN0,hR0⟩:=bx_two w (ptVs p x) zeroPt 32 32;rw[←hW0]at hN0 hR0;have hB0:Below w.heap.size w W0:=by rw[hW0];exact below2 _ _
 have HW0:=hide hW0;have HN0:=hide hN0;have HR0:=hide hR0;have HB0:=hide hB0;have HH:=hide H;have Htab:=hide htab;have hs0:W0.heap.size=w.heap.size+2:=by rw[hW0];simp
 have Hs0:=hide hs0;have Hok:=hide hok;clear hW0 hN0 hR0 hB0 H htab hs0 hok;go_enter Tryz.func119,Tryz.ntmps119
 go_upto_region 1 with fail
 change Code.wp _ _ _ _ ((w.alloc (.cells (ptVs p x).toArray 32)).alloc (.cells zeroPt.toArray 32));rw[←HW0.out];clear HW0;refine wp_region_lit ?_;refine gl ?_ HN0.out.c Tryz.underlying32 infoPt;refine gc (right_anyO (HH.out.below HB0.out) (Htab.out.below HB0.out)) ?_;rintro e1 w1 ⟨⟨q,rfl,hq⟩,hB⟩;have hq2:q=false:=Bool.eq_false_iff.2 fun e=>Hok.out (hq.mp e);subst hq2;clear hq;refine⟨_,rfl,?_⟩;refine sk (v:= .bool true) ?_;refine wpList_nil ?_;rename_i hK;refine hK _ _ ?_;clear hK;have HN1:=hide (HN0.out.call hB);have HR1:=hide (HR0.out.call hB);have HB1:=hide (blw_up HB0.out hB);have Hs1:Hid (w.heap.size+2≤w1.heap.size):=hide (by have:=hB.size;have:=Hs0.out;omega);clear hB HN0 HR0 HB0 Hs0
 go_upto_region 2 with fail
 refine wp_region_lit ?_;refine sk (v:= .agg #[.int .u8 0,.string ⟨#[]⟩,.string ⟨#[]⟩,.int .i64 0,.slice none 0 0,.slice none 0 0,.int .u8 0,.slice none 0 0,.int .i64 0,.int .i64 0,.string ⟨#[]⟩,.string ⟨#[]⟩,.slice none 0 0,.slice none 0 0]) ?_;refine gs (cells:=(ptVs Pt.zero Ph.zero).toArray) ?_ (HR1.out.th (o:=0) (by simp)) infoPt (ptVs_one Pt.zero Ph.zero);refine wpList_nil ?_;rename_i hK;refine hK _ _ ?_;clear hK;refine wp_ret ?_;simp only[Exit.then];have hR9:=HR1.out.puts 0 (ptVs Pt.zero Ph.zero) (ptVs Pt.zero Ph.zero) (by simp);exact bodyPost_ret (v:= .agg (ptVs Pt.zero Ph.zero).toArray) (box_result Tryz.results119 hR9.c Tryz.underlying32 infoPt) rfl ⟨⟨Ph.zero,[],rfl,PtS.zero,New.nil⟩,bx_below (by omega) _ _ HB1.out⟩
theorem patInvO{x:Ph}{p:Pt}{w:World}(H:PtX w x p)(htab:TabOk w)(hok:PtOk p):Calls Tryz.prog 119 #[.agg (ptVs p x).toArray] w (InvPost x p p.inv w):=by
 have hok0:=hok;obtain⟨kd,file,text,hunk,edit⟩:=p;obtain⟨hf,⟨hk|hk,_⟩|⟨hk,_⟩|⟨hk,_⟩⟩:=hok
 ·simp only at hk;subst hk;exact patInvO_1 H htab hok0
 ·simp only at hk;subst hk;exact patInvO_2 H htab hok0
 ·simp only at hk;subst hk;exact patInvO_3 H htab hok0
 ·simp only at hk;subst hk;exact patInvO_4 H htab hok0
theorem Ed.inv_inv{e:Ed}(h:EdOk e):e.inv.inv=e:=by
 obtain⟨kd,path,at_,far,frm,tto,old,new⟩:=e;obtain⟨_,h|h|h|h|h⟩:=h
 ·obtain⟨rfl,_⟩:=h;rfl
 ·obtain⟨rfl,_⟩:=h;rfl
 ·obtain⟨rfl,_⟩:=h;rfl
 ·obtain⟨rfl,_⟩:=h;rfl
 ·obtain⟨rfl,_⟩:=h;rfl
theorem Pt.inv_inv{p:Pt}(h:PtOk p):p.inv.inv=p:=by
 obtain⟨kd,file,text,hunk,edit⟩:=p;obtain⟨_,⟨h|h,_⟩|⟨h,_⟩|⟨h,_,_,he⟩⟩:=h
 ·simp only at h;subst h;rfl
 ·simp only at h;subst h;rfl
 ·simp only at h;subst h;rfl
 ·simp only at h;subst h;show(⟨4,file,text,hunk,edit.inv.inv⟩:Pt)=_;rw[Ed.inv_inv he]
def OwnPost(x:Ph)(p:Pt)(w:World)(e:Ending)(w':World):Prop:=(∃y L,e = .returned (.agg (ptVs p y).toArray)∧PtS w' y p L x p∧New w w' L)∧Below w.heap.size w w'
theorem own_any{x:Ph}{p:Pt}{w:World}(H:PtX w x p)(htab:TabOk w)(hok:PtOk p):Calls Tryz.prog 128 #[.agg (ptVs p x).toArray] w (OwnPost x p w):=by
 obtain⟨W0,hW0⟩:∃W0,W0=(w.alloc (.cells (ptVs p x).toArray 32)).alloc (.cells zeroPt.toArray 32):=⟨_,rfl⟩;obtain⟨hN0,hR0⟩:=bx_two w (ptVs p x) zeroPt 32 32;rw[←hW0]at hN0 hR0;have hB0:Below w.heap.size w W0:=by rw[hW0];exact below2 _ _
 have hs0:W0.heap.size=w.heap.size+2:=by rw[hW0];simp
 have HW0:=hide hW0;have HN0:=hide hN0;have HR0:=hide hR0;have HB0:=hide hB0;have Hs0:=hide hs0;have HH:=hide H;have Htab:=hide htab;have Hok:=hide hok;clear hW0 hN0 hR0 hB0 H htab hs0 hok;go_enter Tryz.func128,Tryz.ntmps128
 go_upto_region 1 with fail
 change Code.wp _ _ _ _ ((w.alloc (.cells (ptVs p x).toArray 32)).alloc (.cells zeroPt.toArray 32));rw[←HW0.out];clear HW0;refine wp_region_lit ?_;refine gl ?_ HN0.out.c Tryz.underlying32 infoPt;refine gc (patInvO (HH.out.below HB0.out) (Htab.out.below HB0.out) Hok.out) ?_;rintro e1 w1 ⟨⟨y1,L1,rfl,h1,n1⟩,hB1⟩;refine⟨_,rfl,?_⟩;have HX1:Hid (PtX w1 y1 p.inv):=hide (h1.x HH.out.b.inv HH.out.r.r);refine gc (patInvO HX1.out ((Htab.out.below HB0.out).below hB1) Hok.out.inv) ?_;rw[Pt.inv_inv Hok.out];rintro e2 w2 ⟨⟨y2,L2,rfl,h2,n2⟩,hB2⟩;refine⟨_,rfl,?_⟩;obtain⟨L,h3,n3⟩:=h1.trans h2 n1 n2 hB2 hB1.size;have HR2:=hide ((HR0.out.call hB1).call hB2);have HB2:=hide (blw_up (blw_up HB0.out hB1) hB2);refine gs (cells:=(ptVs p y2).toArray) ?_ (HR2.out.th (o:=0) (by simp)) infoPt (ptVs_one _ _);refine wpList_nil ?_;rename_i hK;refine hK _ _ ?_;clear hK;refine wp_ret ?_;have hR9:=HR2.out.puts 0 (ptVs p y2) (ptVs p y2) (by simp);exact bodyPost_ret (v:= .agg (ptVs p y2).toArray) (box_result Tryz.results128 hR9.c Tryz.underlying32 infoPt) rfl ⟨⟨_,L,rfl,h3.keep (bx_keep fun b hb e=>by have:=n3.ge b hb;have:=Hs0.out;omega),(n3.from HB0.out.size).up (by rw[bx_size];exact Nat.le_refl _)⟩,bx_below (by omega) _ _ HB2.out⟩
theorem ownM_any{x:Ph}{p:Pt}{w:World}(H:PtX w x p)(htab:TabOk w)(hok:PtOk p):Calls Tryz.prog 117 #[.agg (ptVs p x).toArray] w (OwnPost x p w):=by
 obtain⟨W0,hW0⟩:∃W0,W0=(w.alloc (.cells (ptVs p x).toArray 32)).alloc (.cells zeroPt.toArray 32):=⟨_,rfl⟩;obtain⟨hN0,hR0⟩:=bx_two w (ptVs p x) zeroPt 32 32;rw[←hW0]at hN0 hR0;have hB0:Below w.heap.size w W0:=by rw[hW0];exact below2 _ _
 have hs0:W0.heap.size=w.heap.size+2:=by rw[hW0];simp
 have HW0:=hide hW0;have HN0:=hide hN0;have HR0:=hide hR0;have HB0:=hide hB0;have Hs0:=hide hs0;have HH:=hide H;have Htab:=hide htab;have Hok:=hide hok;clear hW0 hN0 hR0 hB0 H htab hs0 hok;go_enter Tryz.func117,Tryz.ntmps117
 go_upto_region 1 with fail
 change Code.wp _ _ _ _ ((w.alloc (.cells (ptVs p x).toArray 32)).alloc (.cells zeroPt.toArray 32));rw[←HW0.out];clear HW0;refine wp_region_lit ?_;refine gl ?_ HN0.out.c Tryz.underlying32 infoPt;refine gc (patInvO (HH.out.below HB0.out) (Htab.out.below HB0.out) Hok.out) ?_;rintro e1 w1 ⟨⟨y1,L1,rfl,h1,n1⟩,hB1⟩;refine⟨_,rfl,?_⟩;have HX1:Hid (PtX w1 y1 p.inv):=hide (h1.x HH.out.b.inv HH.out.r.r);refine gc (patInvO HX1.out ((Htab.out.below HB0.out).below hB1) Hok.out.inv) ?_;rw[Pt.inv_inv Hok.out];rintro e2 w2 ⟨⟨y2,L2,rfl,h2,n2⟩,hB2⟩;refine⟨_,rfl,?_⟩;obtain⟨L,h3,n3⟩:=h1.trans h2 n1 n2 hB2 hB1.size;have HR2:=hide ((HR0.out.call hB1).call hB2);have HB2:=hide (blw_up (blw_up HB0.out hB1) hB2);refine gs (cells:=(ptVs p y2).toArray) ?_ (HR2.out.th (o:=0) (by simp)) infoPt (ptVs_one _ _);refine wpList_nil ?_;rename_i hK;refine hK _ _ ?_;clear hK;refine wp_ret ?_;have hR9:=HR2.out.puts 0 (ptVs p y2) (ptVs p y2) (by simp);exact bodyPost_ret (v:= .agg (ptVs p y2).toArray) (box_result Tryz.results117 hR9.c Tryz.underlying32 infoPt) rfl ⟨⟨_,L,rfl,h3.keep (bx_keep fun b hb e=>by have:=n3.ge b hb;have:=Hs0.out;omega),(n3.from HB0.out.size).up (by rw[bx_size];exact Nat.le_refl _)⟩,bx_below (by omega) _ _ HB2.out⟩
theorem modify_mem{f:Int→Int}:∀{x:List Int} {i:Nat} {n:Int},n∈x.modify i f→n∈x∨∃k∈x,n=f k
 | [],i,n,h=>by cases i<;>simp at h
 | a::x,0,n,h=>by
  simp at h;rcases h with h|h
  ·exact .inr ⟨a,by simp,h⟩
  ·exact .inl (by simp[h])
 | a::x,i+1,n,h=>by
  rw[List.modify_succ_cons]at h;rcases List.mem_cons.1 h with h|h
  ·exact .inl (by simp[h])
  ·rcases modify_mem h with h|⟨k,h1,h2⟩
   ·exact .inl (by simp[h])
   ·exact .inr ⟨k,by simp[h1],h2⟩
theorem thru_mem{x l:List Int}{f:Int→Int}{n:Int}(h:n∈thru x l f):n∈x∨∃k∈x,n=f k:=by
 unfold thru at h;split at h
 ·exact modify_mem h
 ·exact .inl h
theorem Number.small{n:Int}(h:Number n):smallI n:=⟨by have:=h.1;omega,by have:=h.2;omega⟩
theorem EdOk.nums{e:Ed}(h:EdOk e):Number e.at_∧Number e.far:=by
 have z:Number 0:=⟨by omega,by omega⟩;obtain⟨_,h|h|h|h|h⟩:=h
 ·rw[h.2.1,h.2.2.1];exact⟨z,z⟩
 ·rw[h.2.1];exact⟨h.2.2.2.2.2.1,z⟩
 ·rw[h.2.1];exact⟨h.2.2.2.2.2.1,z⟩
 ·rw[h.2.1,h.2.2.1];exact⟨z,z⟩
 ·exact⟨h.2.2.2.2.1,h.2.2.2.2.2.1⟩
theorem upOf_near{a k:Int}:k≤upOf a k∧upOf a k≤k+1:=by unfold upOf;split<;>omega
theorem downOf_near{a k:Int}:k-1≤downOf a k∧downOf a k≤k:=by unfold downOf;split<;>omega
theorem pastOf_small{e:Ed}{x l:List Int}(hx :∀n∈x,Number n)(hf:Number e.far)(h:pastOf e x=some l):l.length=x.length∧∀n∈l,smallI n:=by
 have one :∀f:Int→Int,(∀k,Number k→smallI (f k))→(thru x e.path f).length=x.length∧∀n∈thru x e.path f,smallI n:=fun f hf=>⟨thru_len _ _ _,fun n hn=>by
  rcases thru_mem hn with h|⟨k,h,rfl⟩
  ·exact(hx n h).small
  ·exact hf k (hx k h)⟩
 unfold pastOf at h;split at h
 ·cases h;exact one _ fun k hk=>⟨by have:=(upOf_near (a:=e.at_) (k:=k)).1;have:=hk.1;omega,by have:=(upOf_near (a:=e.at_) (k:=k)).2;have:=hk.2;omega⟩
 ·split at h
  ·unfold deletedP at h;split at h
   ·cases h
   ·cases h;exact one _ fun k hk=>⟨by have:=(downOf_near (a:=e.at_) (k:=k)).1;have:=hk.1;omega,by have:=(downOf_near (a:=e.at_) (k:=k)).2;have:=hk.2;omega⟩
  ·split at h
   ·split at h
    ·cases h
    ·cases h;exact⟨rfl,fun n hn=>(hx n hn).small⟩
   ·split at h
    ·split at h
     ·cases h
     ·cases h;refine one _ fun k hk=>?_;split
      ·exact hf.small
      ·have h1:=upOf_near (a:=e.far) (k:=downOf e.at_ k);have h2:=downOf_near (a:=e.at_) (k:=k);have h3:=hk.1;have h4:=hk.2;unfold smallI;omega
    ·cases h;exact⟨rfl,fun n hn=>(hx n hn).small⟩
abbrev Ed.withPath(e:Ed)(l:List Int):Ed:={e with path:=l}
abbrev Ed.withAt(e:Ed)(n:Int):Ed:={e with at_:=n}
abbrev Eh.withPath(x:Eh)(A:Option Addr)(c:Nat):Eh:={x with pA:=A,pc:=c}
theorem EdB.withPath{e:Ed}{l:List Int}(h:EdB e)(h1 :∀n∈l,smallI n)(h2:l.length=e.path.length):EdB (e.withPath l):=
 ⟨h.kind,⟨fun n hn=>(h1 n hn).i64,by have:=h.path.2;simp only;omega⟩,h.at_,h.far,h.frm,h.to,h.sum,h.old,h.new⟩
theorem EdB.withAt{e:Ed}{n:Int}(h:EdB e)(h1:smallI n):EdB (e.withAt n):=
 ⟨h.kind,h.path,h1.i64,h.far,h.frm,h.to,h.sum,h.old,h.new⟩
theorem besideOf_small{p q:Ed}{j i:Int}(hp:Number p.at_)(hq:Number q.at_)(h:besideOf p q=some (j,i)):smallI j∧smallI i:=by
 have h1:=hp.1;have h2:=hp.2;have h3:=hq.1;have h4:=hq.2;have up :∀e:Ed,e.up=1∨e.up = -1:=fun e=>by unfold Ed.up;split<;>simp
 have h5:=up p;have h6:=up q;unfold besideOf at h;split at h
 ·cases h
 ·generalize (if q.kind=3 then p.at_-1 else p.at_)=lo at h;generalize (if p.kind=2 then p.at_+1 else p.at_)=hi at h;split at h
  ·cases h
  ·split at h
   ·cases h;unfold smallI;omega
   ·cases h;unfold smallI;omega
theorem New.le{w w':World}{L L':List Nat}(h:New w w' L)(hp :∀a,L'.count a≤L.count a):New w w' L' :=
 have hm :∀b∈L',b∈L:=fun b hb=>List.count_pos_iff.1 (Nat.lt_of_lt_of_le (List.count_pos_iff.2 hb) (hp b))
 ⟨List.nodup_iff_count.2 fun a=>Nat.le_trans (hp a) (List.nodup_iff_count.1 h.nd a),fun b hb=>h.ge b (hm b hb),fun b hb=>h.lt b (hm b hb)⟩
def TwoEd(w w':World)(xa xb:Eh)(a b:Ed)(y:Eh)(q:Ed)(x:Eh)(p:Ed):Prop:=∃La Lb,EdS w' xa a La y q∧EdS w' xb b Lb x p∧New w w' (La++Lb)
theorem TwoEd.zero{w w':World}{y x:Eh}{q p:Ed}:TwoEd w w' ⟨none,0,none,0,none,0⟩ ⟨none,0,none,0,none,0⟩ Ed.zero Ed.zero y q x p:=⟨[],[],EdO.s EdO.zero,EdO.s EdO.zero,New.nil⟩
theorem TwoEd.keep{w w1 w':World}{xa xb:Eh}{a b:Ed}{y:Eh}{q:Ed}{x:Eh}{p:Ed}(h:TwoEd w w1 xa xb a b y q x p)(hk :∀c,w.heap.size≤c→c<w1.heap.size→w'.heap[c]?=w1.heap[c]?)(hs:w1.heap.size≤w'.heap.size):TwoEd w w' xa xb a b y q x p:=by
 obtain⟨La,Lb,h1,h2,h3⟩:=h;exact⟨La,Lb,h1.keep fun c hc=>hk c (h3.ge c (by simp[hc])) (h3.lt c (by simp[hc])),h2.keep fun c hc=>hk c (h3.ge c (by simp[hc])) (h3.lt c (by simp[hc])),h3.up hs⟩
theorem EdS.withAt{w:World}{x:Eh}{e:Ed}{L:List Nat}{x0:Eh}{e0:Ed}(h:EdS w x e L x0 e0)(n:Int):EdS w x (e.withAt n) L x0 e0:=h
theorem EdS.withPath{w w1:World}{x:Eh}{e:Ed}{L:List Nat}{x0:Eh}{e0:Ed}(h:EdS w x e L x0 e0){A:Option Addr}{c:Nat}{l:List Int}(hi:IntsO w1 w A c l):∃Lr Lp,EdS w (x.withPath A c) (e.withPath l) (Lp++Lr) x0 e0∧(∀a,Lr.count a≤L.count a)∧(∀a∈Lr,a∈L)∧New w1 w Lp:=by
 obtain⟨L1,L2,L3,h1,h2,h3,rfl⟩:=h;obtain⟨Lp,hr,hn⟩:=hi;exact⟨L2++L3,Lp,⟨Lp,L2,L3,.inl hr,h2,h3,rfl⟩,fun a=>by simp[List.count_append],fun a ha=>by simp only[List.mem_append]at ha⊢;exact .inr ha,hn⟩
theorem EdS.trans{w0 w w':World}{x0 x1 x2:Eh}{p0 p1 p2:Ed}{L1 L2:List Nat}(h:EdS w x1 p1 L1 x0 p0)(h2:EdS w' x2 p2 L2 x1 p1)(n1:New w0 w L1)(n2:New w w' L2)(hB:Below w.heap.size w w')(hs:w0.heap.size≤w.heap.size):∃L,EdS w' x2 p2 L x0 p0∧New w0 w' L∧∀b∈L,b∈L1∨b∈L2:=by
 obtain⟨a3,a4,a5,r3,r4,r5,rfl⟩:=h;obtain⟨b3,b4,b5,q3,q4,q5,rfl⟩:=h2;obtain⟨c3,s3,e3⟩:=r3.trans q3 hB;obtain⟨c4,s4,e4⟩:=r4.trans q4 hB;obtain⟨c5,s5,e5⟩:=r5.trans q5 hB;have hm :∀b∈c3++(c4++c5),b∈a3++(a4++a5)∨b∈b3++(b4++b5):=by
  intro b hb;simp only[List.mem_append]at hb⊢;rcases e3 with rfl|rfl<;>rcases e4 with rfl|rfl<;>rcases e5 with rfl|rfl<;>rcases hb with hb|hb|hb<;>simp[hb]
 have hp:=pick5 (a1:=[]) (a2:=[]) (b1:=[]) (b2:=[]) (c1:=[]) (c2:=[]) (by simpa using n1.nd) (by simpa using n2.nd) (by simpa using n1.lt) (by simpa using n2.ge) (.inl rfl) (.inl rfl) e3 e4 e5;refine⟨_,⟨c3,c4,c5,s3,s4,s5,rfl⟩,⟨by simpa using hp,fun b hb=>?_,fun b hb=>?_⟩,hm⟩
 ·rcases hm b hb with h|h
  ·exact n1.ge b h
  ·exact Nat.le_trans hs (n2.ge b h)
 ·rcases hm b hb with h|h
  ·exact Nat.lt_of_lt_of_le (n1.lt b h) hB.size
  ·exact n2.lt b h
theorem EdX.two{w:World}{x y:Eh}{p q:Ed}(hx:EdX w x p)(hy:EdX w y q)(hp:EdOk p):TwoP w x.pA y.pA x.pc p.path q.path :=
 ⟨hx.r.path,hy.r.path,hx.r.pc.1,hx.b.path.2,hy.b.path.2,fun n hn=>(hp.1 n hn).small⟩
def EdIs(p q:Ed)(err:Int)(a b:Ed):Prop :=
 (¬(EdOk p∧EdOk q)∧err=4∧a=Ed.zero∧b=Ed.zero)∨((EdOk p∧EdOk q)∧((edCommute p q=none∧err=130∧a=Ed.zero∧b=Ed.zero)∨(edCommute p q=some (a,b)∧err=0)))
def EdPost(x y:Eh)(p q:Ed)(w:World)(e:Ending)(w':World):Prop :=
 (∃err a b xa xb,e = .returned (.tuple #[.agg (edVs a xa).toArray,.agg (edVs b xb).toArray,.int .i64 err])∧TwoEd w w' xa xb a b y q x p∧EdIs p q err a b)∧Below w.heap.size w w'
theorem edTurn_beside{p q:Ed}(h:listed p∧listed q∧p.path=q.path):edTurn p q=(besideOf p q).map fun(j,i)=>({q with at_:=j},{p with at_:=i}):=by unfold edTurn;rw[if_pos h]
theorem edTurn_past{p q:Ed}(h :¬(listed p∧listed q∧p.path=q.path)):edTurn p q=(pastOf p.inv q.path).bind fun x=>(pastOf {q with path:=x} p.path).map fun y=>({q with path:=x},{p with path:=y}):=by unfold edTurn;rw[if_neg h]
open Classical in
theorem edCommute_eq{p q:Ed}(h :¬edMix p q):edCommute p q=(edTurn p q).bind fun(a,b)=>if EdOk a∧EdOk b then some (a,b)else none:=by unfold edCommute;rw[if_neg h]
theorem edCommute_mix{p q:Ed}(h:edMix p q):edCommute p q=none:=by unfold edCommute;rw[if_pos h]
def StrsLike(w:World)(v:Value)(l0:List ByteArray):Prop:=∃A c l,v = .slice A l.length c∧StrsIn Any w A l∧l.length≤c∧(∀s,s∈l↔s∈l0)
theorem StrsLike.below{w w':World}{v:Value}{l0:List ByteArray}(h:StrsLike w v l0)(hB:Below w.heap.size w w'):StrsLike w' v l0:=by
 obtain⟨A,c,l,e,h1,h2,h3⟩:=h;exact⟨A,c,l,e,⟨h1.1.below hB,h1.2⟩,h2,h3⟩
theorem StrsLike.mono{w:World}{v:Value}{l0 l1:List ByteArray}(h:StrsLike w v l0)(he :∀s,s∈l0↔s∈l1):StrsLike w v l1:=by
 obtain⟨A,c,l,e,h1,h2,h3⟩:=h;exact⟨A,c,l,e,h1,h2,fun s=>(h3 s).trans (he s)⟩
def RowGe(N:Nat)(v:Value):Prop:=∀A n c b o,v = .slice A n c→n≠0→A=some ⟨b,o,none⟩→N≤b
def RowNe(k:Nat)(v:Value):Prop:=∀A n c b o,v = .slice A n c→n≠0→A=some ⟨b,o,none⟩→b≠k
theorem RowGe.ne{N k:Nat}{v:Value}(h:RowGe N v)(hk:k<N):RowNe k v:=fun A n c b o h1 h2 h3 e=>by have:=h A n c b o h1 h2 h3;omega
theorem rd_ge{S:Nat→Prop}{w:World}{A:Option Addr}{xs:List Value}{n c N:Nat}(h:Rd S w A xs)(hS :∀b,S b→N≤b)(hn:n=xs.length):RowGe N (.slice A n c):=by
 intro A1 n1 c1 b o h1 h2 h3;cases h1;rcases h with h|⟨b1,o1,h4,h5,_⟩
 ·subst h;exact absurd hn h2
 ·rw[h3]at h4;cases h4;exact hS b h5
theorem StrsLike.ne{w:World}{v:Value}{l0:List ByteArray}{k:Nat}(h:StrsLike w v l0)(hk:w.heap.size≤k):RowNe k v:=by
 intro A1 n1 c1 b o h1 h2 h3 e;obtain⟨A,c,l,rfl,⟨hr,_⟩,_⟩:=h;cases h1;rcases hr with hr|⟨b1,o1,h4,_,h6⟩
 ·rw[List.map_eq_nil_iff]at hr;subst hr;exact h2 rfl
 ·rw[h3]at h4;cases h4;cases l with
  | nil=>exact h2 rfl
  | cons a l =>
   have h7:=h6 0 (.string a) rfl;have:=block_lt_of_cell h7;simp only at this;omega
theorem StrsLike.off{w:World}{v:Value}{l0:List ByteArray}{k:Nat}(h:StrsLike w v l0)(hk:RowNe k v)(o:Nat)(vs:List Value):StrsLike (w.setCells k o vs) v l0:=by
 obtain⟨A,c,l,e,⟨hr,h2⟩,h3⟩:=h;refine⟨A,c,l,e,⟨?_,h2⟩,h3⟩;rcases hr with hr|⟨b1,o1,h4,h5,h6⟩
 ·exact .inl hr
 ·refine .inr ⟨b1,o1,h4,h5,fun j u hj=>?_⟩;have hb:b1≠k:=hk A l.length c b1 o1 e (fun h0=>by rw[List.length_eq_zero_iff]at h0;subst h0;cases hj) h4;exact(World.cell?_of_block (bx_heap k hb vs o w)).trans (h6 j u hj)
theorem StrsLike.one{w:World}{v:Value}{l0:List ByteArray}(h:StrsLike w v l0):v.oneCell'=true:=by
 obtain⟨A,c,l,rfl,_⟩:=h;rfl
def SmEd(e:Ed):Prop:=(foB e.old).length≤137438953472∧(foB e.new).length≤137438953472
structure SideX(w:World)(e:Ed)(y:Eh)(nm bd:Value)(pr cl:Bool):Prop where
 x:EdX w y e
 names:StrsLike w nm e.names
 binds:StrsLike w bd e.binds
 params:e.kind≠1→(pr=true↔e.parts.params)
 calls:e.kind≠1→(cl=true↔e.parts.calls)
theorem SideX.below{w w':World}{e:Ed}{y:Eh}{nm bd:Value}{pr cl:Bool}(h:SideX w e y nm bd pr cl)(hB:Below w.heap.size w w'):SideX w' e y nm bd pr cl :=
 ⟨h.x.below hB,h.names.below hB,h.binds.below hB,h.params,h.calls⟩
theorem SideX.off{w:World}{e:Ed}{y:Eh}{nm bd:Value}{pr cl:Bool}{k o:Nat}{vs:List Value}(h:SideX w e y nm bd pr cl)(hx:EdX (w.setCells k o vs) y e)(h1:RowNe k nm)(h2:RowNe k bd):SideX (w.setCells k o vs) e y nm bd pr cl :=
 ⟨hx,h.names.off h1 _ _,h.binds.off h2 _ _,h.params,h.calls⟩
def SidePost(e:Ed)(y:Eh)(w:World)(r:Ending)(w':World):Prop:=(∃nm bd pr cl,r = .returned (.agg (sideVs e y nm bd pr cl).toArray)∧SideX w' e y nm bd pr cl∧RowGe w.heap.size nm∧RowGe w.heap.size bd)∧Below w.heap.size w w'
abbrev noVs:List Value:=[.slice none 0 0,.slice none 0 0,.bool false,.bool false]
abbrev zeroSide:List Value:=zeroEd++noVs
theorem side_one(e:Ed)(y:Eh){nm bd:Value}{pr cl:Bool}(h1:nm.oneCell'=true)(h2:bd.oneCell'=true):(sideVs e y nm bd pr cl).toArray.all (·.oneCell')=true:=all_oneCell_toArray (by
 intro v hv;simp only[List.mem_cons,List.not_mem_nil,or_false]at hv;rcases hv with rfl|rfl|rfl|rfl|rfl|rfl|rfl|rfl|rfl|rfl|rfl|rfl<;>first|rfl|assumption)
def LookK(e:Ed)(y:Eh)(nm:Value)(pr:Bool)(w W0:World)(b0:Nat)(m:Nat)(st:List ByteArray×Bool)(D:List Nat)(W:World):Prop:=LookJ e y nm pr w b0 m st D W∧Touch [b0] D W0 W
theorem lookEach{e:Ed}{y:Eh}{nm:Value}{pr:Bool}{w W0:World}{b0:Nat}:EachOk 227 #[.pointer (some ⟨b0,0,none⟩)] (·≠b0) W0 (LookK e y nm pr w W0 b0) lookStep where
 en:=enters_of Tryz.func227 (by kernel_rfl) rfl
 lt:=by
  rintro m st D W ⟨⟨v,hr,hb⟩,_⟩ b hbD;rw[hr.d]at hbD;rcases List.mem_cons.1 hbD with rfl|h
  ·exact hb.lt
  ·exact(hr.own.lt b (mem_ob.1 h)).2
 below:=by rintro m st D W ⟨_,hT⟩ b hb hl;exact hT.block b hl (by simpa using hb)
 keep:=by rintro m st D W W' ⟨⟨v,hr,hb⟩,hT⟩ hB;exact⟨⟨v,hr.keep hB,hb.call hB⟩,hT.trans (Touch.below hB)⟩
 ca:=fun k t n A l c hJ hk ht=>(lookFn hJ.1 hk ht).mono (by
  rintro e1 W' ⟨rfl,D',h1,h2⟩;exact⟨rfl,D',⟨h1,hJ.2.trans h2⟩,h2⟩)
theorem two_strs{w:World}{g:Nat}{a b:ByteArray}(h0:w.cell? ⟨g,0,none⟩=some (.string a))(h1:w.cell? ⟨g,1,none⟩=some (.string b))(ha:a.size≤9223372036854775807)(hb:b.size≤9223372036854775807):StrsLike w (.slice (some ⟨g,0,none⟩) 2 2) [a,b]:=
 ⟨_,_,[a,b],rfl,⟨.inr ⟨g,0,rfl,trivial,fun j u hj=>by
  match j,hj with
  | 0,hj=>injection hj with hj;subst hj;exact h0
  | 1,hj=>injection hj with hj;subst hj;exact h1⟩,fun s hs=>by
   simp only[List.mem_cons,List.not_mem_nil,or_false]at hs;rcases hs with rfl|rfl
   ·exact ha
   ·exact hb,by simp⟩,by simp,fun s=>Iff.rfl⟩
theorem look_any{y:Eh}{e:Ed}{w:World}(H:EdX w y e)(hsm:SmEd e):Calls Tryz.prog 189 #[.agg (edVs e y).toArray] w fun r w'=>SidePost e y w r w':=by
 have h0:=Bx.new w (edVs e y) 30;have h1:=(h0.alloc (.cells zeroSide.toArray 246));have h2:=(h1.alloc (.cells zeroSide.toArray 246)).off (M:=w.heap.size+2) (by omega) 0 (sideVs e y (.slice none 0 0) (.slice none 0 0) false false);have k1:=Bx.new (w.alloc (.cells (edVs e y).toArray 30)) zeroSide 246;have k2:=(k1.alloc (.cells zeroSide.toArray 246)).off (M:=w.heap.size+2) (by simp) 0 (sideVs e y (.slice none 0 0) (.slice none 0 0) false false);have l0:=Bx.new ((w.alloc (.cells (edVs e y).toArray 30)).alloc (.cells zeroSide.toArray 246)) zeroSide 246;simp only[World.size_alloc]at k1 k2 l0;replace l0:Bx (((w.alloc (.cells (edVs e y).toArray 30)).alloc (.cells zeroSide.toArray 246)).alloc (.cells zeroSide.toArray 246)) (w.heap.size+2) zeroSide:=l0;have l1:=l0.puts 0 (sideVs e y (.slice none 0 0) (.slice none 0 0) false false) (sideVs e y (.slice none 0 0) (.slice none 0 0) false false) (by simp);have hb:Below w.heap.size w ((((w.alloc (.cells (edVs e y).toArray 30)).alloc (.cells zeroSide.toArray 246)).alloc (.cells zeroSide.toArray 246)).setCells (w.heap.size+2) 0 (sideVs e y (.slice none 0 0) (.slice none 0 0) false false)):=
  bx_below (by omega) _ _ (((below_alloc _ _).alloc (by simp) _).alloc (by simp[World.size_alloc];omega) _)
 have H0:=hide h1;have L0:=hide l0;have H2:=hide h2;have K2:=hide k2;have L1:=hide l1;have HB:=hide hb;clear h0 h1 h2 k1 k2 l0 l1 hb;have HH:=hide H;clear H;go_enter Tryz.func189,Tryz.ntmps189
 go_upto_region 1 with fail
 change Code.wp _ _ _ _ ((w.alloc (.cells (edVs e y).toArray 30)).alloc (.cells zeroSide.toArray 246));refine wp_region_lit ?_;refine gl ?_ H0.out.c Tryz.underlying30 infoEd;refine sk (v:= .agg (sideVs e y (.slice none 0 0) (.slice none 0 0) false false).toArray) ?_;refine gw (w':=((w.alloc (.cells (edVs e y).toArray 30)).alloc (.cells zeroSide.toArray 246)).alloc (.cells zeroSide.toArray 246)) (v:= .pointer (some ⟨w.heap.size+2,0,none⟩)) ?_ (hy:=by go_simp;rfl);refine gs (cells:=(sideVs e y (.slice none 0 0) (.slice none 0 0) false false).toArray) ?_ (L0.out.th (o:=0) (by simp)) infoSide (side_one _ _ rfl rfl);refine wpList_nil ?_;rename_i hK;refine hK _ _ ?_;clear hK L0 H0;change Code.wp _ _ _ _ ((((w.alloc (.cells (edVs e y).toArray 30)).alloc (.cells zeroSide.toArray 246)).alloc (.cells zeroSide.toArray 246)).setCells (w.heap.size+2) 0 (sideVs e y (.slice none 0 0) (.slice none 0 0) false false));generalize ((((w.alloc (.cells (edVs e y).toArray 30)).alloc (.cells zeroSide.toArray 246)).alloc (.cells zeroSide.toArray 246)).setCells (w.heap.size+2) 0 (sideVs e y (.slice none 0 0) (.slice none 0 0) false false))=W1 at H2 K2 L1 HB⊢;have q0:=H2.out.cell 0;by_cases hk:e.kind=1
 ·have e1:((e.kind:Int) == 1)=true:=by simp;omega
  have q4:=H2.out.cell 4;have q5:=H2.out.cell 5
  go_upto_region 3 with fail
  refine wp_region_lit ?_;refine sk ?_;refine sk ?_;refine sk ?_;refine sk ?_;refine gw (w':=W1.alloc (.cells #[.string e.frm,.string e.to] 9)) (v:= .slice (some ⟨W1.heap.size,0,none⟩) 2 2) ?_;have hs:=HB.out.size;have l2:=hide (L1.out.alloc (.cells #[.string e.frm,.string e.to] 9));have k3:=hide (K2.out.alloc (.cells #[.string e.frm,.string e.to] 9));have hb2:=hide (below_alloc W1 (.cells #[.string e.frm,.string e.to] 9));have hR:=hide (Bx.new W1 [.string e.frm,.string e.to] 9);have HB2:=hide (blw_up HB.out hb2.out);have Hlt:Hid (w.heap.size+2<W1.heap.size):=hide L1.out.lt;clear hb2 hs;generalize W1.heap.size=R at hR Hlt⊢;change wpList _ _ _ _ _ (W1.alloc (.cells #[.string e.frm,.string e.to] 9));change Hid (Bx (W1.alloc (.cells #[.string e.frm,.string e.to] 9)) _ _)at hR;generalize W1.alloc (.cells #[.string e.frm,.string e.to] 9)=W2 at hR HB2 l2 k3⊢;have s8:=l2.out.cell 8;have sf:=l2.out.f;have lt2:=l2.out.lt;refine sk ?_;refine ss (w':=W2.setCells (w.heap.size+2) 8 [.slice (some ⟨R,0,none⟩) 2 2]) ?_ (by simp only[World.setCells];go_simp);refine wpList_nil ?_;rename_i hK;refine hK _ _ ?_;clear hK s8 sf;have HR3:=hide (hR.out.off (M:=w.heap.size+2) (by have:=Hlt.out;omega) 8 [.slice (some ⟨R,0,none⟩) 2 2]);have K3:=hide (k3.out.off (M:=w.heap.size+2) (by omega) 8 [.slice (some ⟨R,0,none⟩) 2 2]);have L3:=hide (l2.out.puts 8 [.slice (some ⟨R,0,none⟩) 2 2] (sideVs e y (.slice (some ⟨R,0,none⟩) 2 2) (.slice none 0 0) false false) (by simp));have HB3:=hide (bx_below (b:=w.heap.size+2) (by omega) [.slice (some ⟨R,0,none⟩) 2 2] 8 HB2.out);clear hR k3 l2 HB2 lt2;generalize W2.setCells (w.heap.size+2) 8 [.slice (some ⟨R,0,none⟩) 2 2]=W3 at HR3 K3 L3 HB3⊢;have s8:=L3.out.cell 8;have s9:=L3.out.cell 9;have sf:=L3.out.f
  go_upto_region 4 with fail
  refine wp_region_lit ?_;refine sk ?_;refine sk ?_;refine sk ?_;refine ss (w':=W3.setCells (w.heap.size+2) 9 [.slice (some ⟨R,0,none⟩) 2 2]) ?_ (by simp only[World.setCells];go_simp);refine wpList_nil ?_;rename_i hK;refine hK _ _ ?_;clear hK s8 s9 sf;have HR4:=hide (HR3.out.off (M:=w.heap.size+2) (by have:=Hlt.out;omega) 9 [.slice (some ⟨R,0,none⟩) 2 2]);have K4:=hide (K3.out.off (M:=w.heap.size+2) (by omega) 9 [.slice (some ⟨R,0,none⟩) 2 2]);have L4:=hide (L3.out.puts 9 [.slice (some ⟨R,0,none⟩) 2 2] (sideVs e y (.slice (some ⟨R,0,none⟩) 2 2) (.slice (some ⟨R,0,none⟩) 2 2) false false) (by simp));have HB4:=hide (bx_below (b:=w.heap.size+2) (by omega) [.slice (some ⟨R,0,none⟩) 2 2] 9 HB3.out);clear HR3 K3 L3 HB3;generalize W3.setCells (w.heap.size+2) 9 [.slice (some ⟨R,0,none⟩) 2 2]=W4 at HR4 K4 L4 HB4⊢
  go_upto_region 5 with fail
  refine wp_region_lit ?_;refine gl ?_ L4.out.c Tryz.underlying246 infoSide;refine gs (cells:=(sideVs e y (.slice (some ⟨R,0,none⟩) 2 2) (.slice (some ⟨R,0,none⟩) 2 2) false false).toArray) ?_ (K4.out.th (o:=0) (by simp)) infoSide (side_one _ _ rfl rfl);refine wpList_nil ?_;rename_i hK;refine hK _ _ ?_;clear hK;have HR5:=hide (HR4.out.off (M:=w.heap.size+1) (by have:=Hlt.out;omega) 0 (sideVs e y (.slice (some ⟨R,0,none⟩) 2 2) (.slice (some ⟨R,0,none⟩) 2 2) false false));have K5:=hide (K4.out.puts 0 (sideVs e y (.slice (some ⟨R,0,none⟩) 2 2) (.slice (some ⟨R,0,none⟩) 2 2) false false) (sideVs e y (.slice (some ⟨R,0,none⟩) 2 2) (.slice (some ⟨R,0,none⟩) 2 2) false false) (by simp));have HB5:=hide (bx_below (b:=w.heap.size+1) (by omega) (sideVs e y (.slice (some ⟨R,0,none⟩) 2 2) (.slice (some ⟨R,0,none⟩) 2 2) false false) 0 HB4.out);clear HR4 K4 L4 HB4
  go_wp2_with fail
  try simp only[Exit.then,Exit.inBlock]
  have hT:=two_strs (HR5.out.cell 0) (HR5.out.cell 1) HH.out.b.frm HH.out.b.to;refine bodyPost_ret (v:= .agg (sideVs e y (.slice (some ⟨R,0,none⟩) 2 2) (.slice (some ⟨R,0,none⟩) 2 2) false false).toArray) (box_result Tryz.results189 K5.out.c Tryz.underlying246 infoSide) rfl ?_;have hge:RowGe w.heap.size (.slice (some ⟨R,0,none⟩) 2 2):=fun A n c b o h1 h2 h3=>by cases h1;cases h3;have:=Hlt.out;omega
  refine⟨⟨_,_,_,_,rfl,⟨HH.out.below HB5.out,hT.mono fun s=>?_,hT.mono fun s=>?_,fun h=>absurd hk h,fun h=>absurd hk h⟩,hge,hge⟩,HB5.out⟩
  ·simp[Ed.names,hk]
  ·simp[Ed.binds,hk]
 ·have e1:((e.kind:Int) == 1)=false:=by simp;omega
  have q6:=H2.out.cell 6;have q7:=H2.out.cell 7
  go_upto_region 6 with fail
  refine wp_region_lit ?_;refine sk ?_;refine sk ?_;refine sk ?_;refine sk ?_;refine gw (w':=W1.alloc (.cells #[.slice y.oA e.old.len y.oc,.slice y.nA e.new.len y.nc] 28)) (v:= .slice (some ⟨W1.heap.size,0,none⟩) 2 2) ?_;have hS0:=L1.out.lt;have hR:=Bx.new W1 [.slice y.oA e.old.len y.oc,.slice y.nA e.new.len y.nc] 28;have hB2:=blw_up HB.out (below_alloc W1 (.cells #[.slice y.oA e.old.len y.oc,.slice y.nA e.new.len y.nc] 28));have HTw:Hid (TwoF (·≠w.heap.size+2) (W1.alloc (.cells #[.slice y.oA e.old.len y.oc,.slice y.nA e.new.len y.nc] 28)) W1.heap.size y.oA y.nA y.oc y.nc e.old e.new):=
   hide ⟨hR.cell 0,hR.cell 1,(HH.out.r.old.mono (fun b hb _=>by show b≠_;omega)).below hB2,(HH.out.r.new.mono (fun b hb _=>by show b≠_;omega)).below hB2,hsm.1,hsm.2⟩
  refine gc (concatNodes (c:=2) HTw.out (fun b hb=>by rw[World.size_alloc]at hb;show b≠_;omega)) ?_;rintro e2 W2 ⟨⟨A',c',rfl,hf,hc1,hc2⟩,hBc⟩;refine⟨_,rfl,?_⟩;have hBd:=(below_alloc W1 (.cells #[.slice y.oA e.old.len y.oc,.slice y.nA e.new.len y.nc] 28)).trans (hBc.mono (by simp));have L2:=hide (L1.out.call hBd);have K3:=hide (K2.out.call hBd);have HB2:=hide (blw_up HB.out hBd);have HF:=hide hf;have hfb:(foB (e.old.app e.new)).length≤274877906944:=by rw[foB_app,List.length_append];have:=hsm.1;have:=hsm.2;omega
  have Hfb:=hide hfb;clear hf hBd hBc HTw hR hB2 hS0 hfb L1 K2 HB H2;refine sk (v:= .slice A' (e.old.app e.new).len c') ?_;refine wpList_nil ?_;rename_i hK;refine hK _ _ ?_;clear hK
  go_upto_region 7 with fail
  refine wp_region_lit ?_;refine sk ?_;refine gc (treeNames_any (HF.out.mono fun _ _ _=>trivial) hc1 hc2 Hfb.out) ?_;rintro e3 W3 ⟨⟨A3,c3,l3,rfl,hl3,hl4,hl5⟩,hBn⟩;refine⟨_,rfl,?_⟩;have hs2:=L2.out.lt;have L3:=hide (L2.out.call hBn);have K4:=hide (K3.out.call hBn);have HB3:=hide (blw_up HB2.out hBn);have HF3:=hide (HF.out.below hBn);have HN3:Hid (StrsIn (fun b=>b≠w.heap.size+2∧b≠w.heap.size+1) W3 A3 l3):=hide ⟨hl3.1.mono (fun b _ hb=>by have:W2.heap.size≤b:=hb;constructor<;>omega),hl3.2⟩;have Hl5:=hide hl5;have HGn:Hid (RowGe w.heap.size (.slice A3 l3.length c3)):=hide (rd_ge hl3.1 (fun b hb=>by have:W2.heap.size≤b:=hb;omega) (by simp));clear L2 K3 HB2 HF hBn hl3 hl5 hs2;have sf:=L3.out.f;have s8:=L3.out.cell 8;refine sk ?_;refine ss (w':=W3.setCells (w.heap.size+2) 8 [.slice A3 l3.length c3]) ?_ (by simp only[World.setCells];go_simp);have L4:=hide (L3.out.puts 8 [.slice A3 l3.length c3] (sideVs e y (.slice A3 l3.length c3) (.slice none 0 0) false false) (by simp));have K5:=hide (K4.out.off (M:=w.heap.size+2) (by omega) 8 [.slice A3 l3.length c3]);have HB4:=hide (bx_below (b:=w.heap.size+2) (by omega) [.slice A3 l3.length c3] 8 HB3.out);have HF4:=hide (HF3.out.keep (w':=W3.setCells (w.heap.size+2) 8 [.slice A3 l3.length c3]) (fun b hb=>bx_heap _ hb _ _ _));have HN4:Hid (StrsIn (fun b=>b≠w.heap.size+2∧b≠w.heap.size+1) (W3.setCells (w.heap.size+2) 8 [.slice A3 l3.length c3]) A3 l3):=hide ⟨HN3.out.1.keep (fun b hb=>bx_heap _ hb.1 _ _ _),HN3.out.2⟩;clear L3 K4 HB3 HF3 HN3 sf s8;refine wpList_nil ?_;rename_i hK;refine hK _ _ ?_;clear hK;generalize W3.setCells (w.heap.size+2) 8 [.slice A3 l3.length c3]=W4 at L4 K5 HB4 HF4 HN4⊢
  go_upto_region 8 with fail
  refine wp_region_lit ?_;refine sk ?_;refine gc (containsParams (c:=c') (HF4.out.mono fun _ _ _=>trivial) (Nat.le_trans hc1 hc2)) ?_;rintro e4 W5 ⟨⟨q,rfl,hq⟩,hBq⟩;refine⟨_,rfl,?_⟩;have L5:=hide (L4.out.call hBq);have K6:=hide (K5.out.call hBq);have HB5:=hide (blw_up HB4.out hBq);have HF5:=hide (HF4.out.below hBq);have HN5:Hid (StrsIn (fun b=>b≠w.heap.size+2∧b≠w.heap.size+1) W5 A3 l3):=hide ⟨HN4.out.1.below hBq,HN4.out.2⟩;have Hq:=hide hq;clear hq hBq L4 K5 HB4 HF4 HN4;have sf:=L5.out.f;have s8:=L5.out.cell 10;refine sk ?_;refine ss (w':=W5.setCells (w.heap.size+2) 10 [.bool q]) ?_ (by simp only[World.setCells];go_simp);have L6:=hide (L5.out.puts 10 [.bool q] (sideVs e y (.slice A3 l3.length c3) (.slice none 0 0) q false) (by simp));have K7:=hide (K6.out.off (M:=w.heap.size+2) (by omega) 10 [.bool q]);have HB6:=hide (bx_below (b:=w.heap.size+2) (by omega) [.bool q] 10 HB5.out);have HF6:=hide (HF5.out.keep (w':=W5.setCells (w.heap.size+2) 10 [.bool q]) (fun b hb=>bx_heap _ hb _ _ _));have HN6:Hid (StrsIn (fun b=>b≠w.heap.size+2∧b≠w.heap.size+1) (W5.setCells (w.heap.size+2) 10 [.bool q]) A3 l3):=hide ⟨HN5.out.1.keep (fun b hb=>bx_heap _ hb.1 _ _ _),HN5.out.2⟩;clear L5 K6 HB5 HF5 HN5 sf s8;refine wpList_nil ?_;rename_i hK;refine hK _ _ ?_;clear hK;generalize W5.setCells (w.heap.size+2) 10 [.bool q]=W6 at L6 K7 HB6 HF6 HN6⊢;have hcnt:=cnt_foB (e.old.app e.new);have hJ0:LookK e y (.slice A3 l3.length c3) q w W6 (w.heap.size+2) ((e.old.app e.new).cnt+0) ([],false) [w.heap.size+2] W6 :=
   ⟨⟨.slice none 0 0,⟨rfl,World.ownsRow_nil _ _ _ _,by simp[ob,Value.ownBlock],fun b hb=>by rw[List.mem_singleton]at hb;omega,HB6.out,by have:=Hfb.out;simp;omega,by simp⟩,L6.out⟩,Touch.refl _ _⟩
  have HE:=hide (swapEach_any lookEach HF6.out hc1 hc2 (by have:=Hfb.out;omega) hJ0);clear hJ0 hcnt
  go_upto_region 9 with fail
  refine wp_region_lit ?_;refine sk (v:= .func (.func 227) #[] #[.pointer (some ⟨w.heap.size+2,0,none⟩)]) ?_;refine sk ?_;refine gc HE.out ?_;rintro e5 W7 ⟨rfl,D,⟨⟨v,hr,hbx⟩,hT⟩,hT0⟩;refine⟨_,rfl,?_⟩;have hD1 :∀b∈ob v,b≠w.heap.size+1:=fun b hb e=>by
   have h1:b∈D:=by rw[hr.d];simp[hb]
   rcases hT.own b h1 with h2|h2
   ·rw[List.mem_singleton]at h2;omega
   ·have:=K7.out.lt;omega
  have hown:=hr.own;have hgb :∀b∈ob v,w.heap.size≤b:=fun b hb=>by
   have h1:b∈D:=by rw[hr.d];simp[hb]
   rcases hT.own b h1 with h2|h2
   ·rw[List.mem_singleton]at h2;omega
   ·have:=K7.out.lt;omega
  have K8:=hide (K7.out.keep (hT.block _ K7.out.lt (by simp)) hT.size);have HN7:Hid (StrsIn (fun b=>b≠w.heap.size+2∧b≠w.heap.size+1) W7 A3 l3):=hide ⟨(HN6.out.1.mono (S':=fun b=>b<W6.heap.size∧b≠w.heap.size+2∧b≠w.heap.size+1) (fun b h1 h2=>⟨h1,h2⟩)).keep (fun b hb=>hT.block b hb.1 (by simpa using hb.2.1))|>.mono (fun b _ hb=>hb.2),HN6.out.2⟩;have HB7:=hide hr.below;have L7:=hide hbx;have Hsz:=hide hr.sz;have Hln:=hide hr.len;clear hr hbx hT hT0 HE L6 K7 HN6 HB6 HF6;obtain⟨VA,vc,rfl⟩:=own_shape hown;have HO:=hide hown;have HD1:=hide hD1;have HGb:=hide hgb;clear hown hD1 hgb;refine wpList_nil ?_;rename_i hK;refine hK _ _ ?_;clear hK
  go_upto_region 10 with fail
  refine wp_region_lit ?_;refine gl ?_ L7.out.c Tryz.underlying246 infoSide;refine gs (cells:=(sideVs e y (.slice A3 l3.length c3) (.slice VA (((e.old.app e.new).fold lookStep ([],false)).1.length) vc) q ((e.old.app e.new).fold lookStep ([],false)).2).toArray) ?_ (K8.out.th (o:=0) (by simp)) infoSide (side_one _ _ rfl rfl);refine wpList_nil ?_;rename_i hK;refine hK _ _ ?_;clear hK;have K9:=hide (K8.out.puts 0 (sideVs e y (.slice A3 l3.length c3) (.slice VA (((e.old.app e.new).fold lookStep ([],false)).1.length) vc) q ((e.old.app e.new).fold lookStep ([],false)).2) (sideVs e y (.slice A3 l3.length c3) (.slice VA (((e.old.app e.new).fold lookStep ([],false)).1.length) vc) q ((e.old.app e.new).fold lookStep ([],false)).2) (by simp));have HB9:=hide (bx_below (b:=w.heap.size+1) (by omega) (sideVs e y (.slice A3 l3.length c3) (.slice VA (((e.old.app e.new).fold lookStep ([],false)).1.length) vc) q ((e.old.app e.new).fold lookStep ([],false)).2) 0 HB7.out)
  go_wp2_with fail
  try simp only[Exit.then,Exit.inBlock]
  refine bodyPost_ret (v:= .agg (sideVs e y (.slice A3 l3.length c3) (.slice VA (((e.old.app e.new).fold lookStep ([],false)).1.length) vc) q ((e.old.app e.new).fold lookStep ([],false)).2).toArray) (box_result Tryz.results189 K9.out.c Tryz.underlying246 infoSide) rfl ?_;refine⟨⟨_,_,_,_,rfl,⟨HH.out.below HB9.out,?_,?_,fun _=>Hq.out,fun _=>?_⟩,HGn.out,?_⟩,HB9.out⟩
  ·refine⟨A3,c3,l3,rfl,⟨(HN7.out.1.keep (fun b hb=>bx_heap _ hb.2 _ _ _)).mono (fun _ _ _=>trivial),HN7.out.2⟩,hl4,fun s=>(Hl5.out s).trans ?_⟩;simp[Ed.names,hk,Ed.parts]
  ·have ho:=own_kept (w':=W7.setCells (w.heap.size+1) 0 (sideVs e y (.slice A3 l3.length c3) (.slice VA (((e.old.app e.new).fold lookStep ([],false)).1.length) vc) q ((e.old.app e.new).fold lookStep ([],false)).2)) HO.out (fun b hb=>bx_heap _ (HD1.out b hb) _ _ _);have hro:=own_room ho rfl;refine⟨VA,vc,_,rfl,⟨own_rows ho (fun _ _=>trivial),fun s hs=>by have:=Hsz.out s hs;omega,by have:=Hln.out;omega⟩,hro.1,fun s=>?_⟩;rw[look_binds];simp[Ed.binds,hk,Ed.parts]
  ·rw[look_calls];simp[Ed.parts]
  ·intro A1 n1 c1 b o h1 h2 h3;cases h1;subst h3;exact HGb.out b (mem_ob.2 rfl)
theorem amongFn{A:Option Addr}{c B:Nat}{l:List ByteArray}{s:ByteArray}{w:World}(hb:w.cell? ⟨B,0,none⟩=some (.slice A l.length c))(hl:StrsIn Any w A l):Calls Tryz.prog 259 #[.string s,.pointer (some ⟨B,0,none⟩)] w fun e w'=>RetB (s∈l) e∧w=w':=by
 have HL:=hide hl;clear hl;go_enter Tryz.func259,Tryz.ntmps259
 go_wp2_with(go_at_call 177;refine(containsText_any HL.out.1 HL.out.2.2).mono ?_;rintro e w' ⟨⟨q,rfl,hq⟩,rfl⟩;have Hq:=hide hq;clear hq)
 go_ret;exact⟨⟨_,rfl,Hq.out⟩,rfl⟩
def NoneOf(l l2:List ByteArray)(k:Nat):Prop:=∀j s,j<k→l2[j]?=some s→s∉l
theorem indexAmong{A A2:Option Addr}{c c2 B:Nat}{l l2:List ByteArray}{w:World}(hb:w.cell? ⟨B,0,none⟩=some (.slice A l.length c))(hl:StrsIn Any w A l)(hl2:StrsIn Any w A2 l2):
  Calls Tryz.prog 277 #[.slice A2 l2.length c2,.func (.func 259) #[] #[.pointer (some ⟨B,0,none⟩)]] w fun e w'=>RetIx (meets l l2) e∧w=w':=by
 have HL:=hide hl;have HL2:=hide hl2;have hl2':=hl2.2.2;have HB:=hide hb;clear hl hl2 hb;go_enter Tryz.func277,Tryz.ntmps277
 go_wp2_with fail
 go_loopw [8] (fun i wr=>∃k:Nat,k≤l2.length∧i = .int .i64 k∧w=wr∧Hid (NoneOf l l2 k)) (fun i _=>l2.length-(intOf i).toNat)
 case atStart=>exact⟨0,Nat.zero_le _,rfl,rfl,hide (fun j s h=>absurd h (by omega))⟩
 case round =>
  obtain⟨k,hk,rfl,rfl,hall⟩:=hrel;by_cases hlt:k<l2.length
  ·obtain⟨b,o,rfl,h1⟩:=HL2.out.1.at_ (j:=k) (by simpa using hlt);simp only[List.getElem_map]at h1;have E:=hide (show l2[k]?=some l2[k]by simp[hlt]);generalize l2[k]=s at h1 E
   go_wp2_with(go_at_call 259;refine(amongFn HB.out HL.out).mono ?_;rintro e w' ⟨⟨q,rfl,hq⟩,rfl⟩;have Hq:=hide hq;clear hq)
   case _ =>
    rename_i hq;subst hq;go_ret;exact⟨RetIx.yes (by omega) ⟨s,Hq.out.mp rfl,List.mem_of_getElem? E.out⟩,rfl⟩
   case _ =>
    rename_i hq;subst hq;exact⟨⟨k+1,by omega,by go_num,trivial,hide (fun j s' hj hs=>by
     by_cases h2:j<k
     ·exact hall.out j s' h2 hs
     ·obtain rfl:j=k:=by omega
      rw[E.out]at hs;injection hs with hs;subst hs;exact fun hm=>absurd (Hq.out.mpr hm) (by decide))⟩,by simp[intOf];omega⟩
  ·have hke:k=l2.length:=by omega
   subst hke
   go_wp2_with fail
   go_ret;exact⟨RetIx.no (fun⟨s,h1,h2⟩=>by
    obtain⟨j,hj,rfl⟩:=List.getElem_of_mem h2;exact hall.out j _ hj (by simp) h1),rfl⟩
theorem containsAmong{A A2:Option Addr}{c c2 B:Nat}{l l2:List ByteArray}{w:World}(hb:w.cell? ⟨B,0,none⟩=some (.slice A l.length c))(hl:StrsIn Any w A l)(hl2:StrsIn Any w A2 l2):
  Calls Tryz.prog 258 #[.slice A2 l2.length c2,.func (.func 259) #[] #[.pointer (some ⟨B,0,none⟩)]] w fun e w'=>RetB (meets l l2) e∧w=w':=by
 have HL:=hide hl;have HL2:=hide hl2;have HB:=hide hb;clear hl hl2 hb;go_enter Tryz.func258,Tryz.ntmps258
 go_wp2_with(go_at_call 277;refine(indexAmong HB.out HL.out HL2.out).mono ?_;rintro e w' ⟨⟨i,rfl,hlo,hi⟩,rfl⟩;have Hi:=hide hi;clear hi)
 go_ret;exact⟨RetB.mk (by rw[←Hi.out];simp),rfl⟩
theorem meets_any{va vb:Value}{a b:List ByteArray}{w:World}(ha:StrsLike w va a)(hb:StrsLike w vb b):Calls Tryz.prog 228 #[va,vb] w fun e w'=>RetB (meets a b) e∧Below w.heap.size w w':=by
 obtain⟨A,c,l,rfl,hl,_,hm⟩:=ha;obtain⟨A2,c2,l2,rfl,hl2,_,hm2⟩:=hb;have hB:=below_alloc w (.cells #[.slice A l.length c] 23);have HB:=hide hB;have HL:=hide (hl.below hB);have HL2:=hide (hl2.below hB);have HM:Hid (meets l l2↔meets a b):=hide ⟨fun⟨s,h1,h2⟩=>⟨s,(hm s).1 h1,(hm2 s).1 h2⟩,fun⟨s,h1,h2⟩=>⟨s,(hm s).2 h1,(hm2 s).2 h2⟩⟩;clear hl hl2 hm hm2 hB;go_enter Tryz.func228,Tryz.ntmps228
 go_wp2_with(go_at_call 258;refine(containsAmong ((Bx.new w [.slice A l.length c] 23).cell 0) HL.out HL2.out).mono ?_;rintro e w' ⟨⟨q,rfl,hq⟩,rfl⟩;have Hq:=hide hq;clear hq)
 go_ret;exact⟨⟨_,rfl,Hq.out.trans HM.out⟩,HB.out⟩
end
section
open Go.RowKit Go.ChangeShapes Go.WideShapes
theorem bulk_one{H:Type}(d:DataW H):1≤Rows.uptoBulk d:=by
 cases d with
 | lit l=>cases l<;>simp[Rows.uptoBulk]
 | nil=>simp[Rows.uptoBulk]
 | ptr d=>simp[Rows.uptoBulk]
 | slice elems spare=>simp[Rows.uptoBulk]
 | agg parts=>simp[Rows.uptoBulk]
 | iface t d=>simp[Rows.uptoBulk]
 | map entries=>simp[Rows.uptoBulk]
 | held h=>simp[Rows.uptoBulk]
theorem bulk_str{H:Type}(s:ByteArray):Rows.uptoBulk (DataW.lit (H:=H) (.string s.data.toList))=s.size+1:=by
 have:s.data.toList.length=s.size:=rfl;simp[Rows.uptoBulk,this]
theorem bulk_slice{H:Type}(es sp:List (DataW H)):Rows.uptoBulkAll es+1≤Rows.uptoBulk (.slice es sp):=by
 simp only[Rows.uptoBulk];omega
theorem bulk_strs{H:Type}:∀ss:List ByteArray,8*ss.length+((ss.map txtB).flatten).length≤16*Rows.uptoBulkAll (H:=H) (strs ss)
 | []=>Nat.zero_le _
 | s::ss=>by
  have h:=bulk_strs (H:=H) ss;have e:strs (H:=H) (s::ss) = .lit (.string s.data.toList)::strs ss:=rfl;have h8 :∀n:Int,(num8 n).length=8:=fun n=>rfl;have hs:s.data.toList.length=s.size:=rfl;rw[e];simp only[Rows.uptoBulkAll,bulk_str,List.length_cons,List.map_cons,List.flatten_cons,List.length_append,txtB,h8,hs];omega
theorem bulk_lits{H:Type}{k:IntKind}:∀zs:List Int,zs.length≤Rows.uptoBulkAll (H:=H) (lits k zs)
 | []=>Nat.zero_le _
 | z::zs=>by
  have h:=bulk_lits (H:=H) (k:=k) zs;have e:lits (H:=H) k (z::zs) = .lit (.int k z)::lits k zs:=rfl;have:=bulk_one (H:=H) (.lit (.int k z));rw[e];simp only[Rows.uptoBulkAll,List.length_cons];omega
theorem path_len(l:List Int):(pathB l).length=8+8*l.length:=by
 have h8 :∀n:Int,(num8 n).length=8:=fun n=>rfl;have :∀l:List Int,((l.map num8).flatten).length=8*l.length:=by
  intro l
  induction l with
  | nil=>rfl
  | cons z l ih=>simp only[List.map_cons,List.flatten_cons,List.length_append,h8,ih,List.length_cons];omega
 simp only[pathB,List.length_append,h8,this]
theorem i64_min:IntKind.i64.min = -9223372036854775808:=by rfl
theorem i64_max:IntKind.i64.max=9223372036854775807:=by rfl
theorem u8_min:IntKind.u8.min=0:=by rfl
theorem u8_max:IntKind.u8.max=255:=by rfl
theorem wf_u8{n:Int}(h:(Lit.int .u8 n).wf=true):∃k:Nat,n=(k:Int)∧k<256:=by
 simp only[Lit.wf,Bool.and_eq_true,decide_eq_true_eq,IntKind.has,u8_min,u8_max]at h;exact⟨n.toNat,by omega,by omega⟩
theorem wf_i64{n:Int}(h:(Lit.int .i64 n).wf=true):isInt64 n:=by
 simp only[Lit.wf,Bool.and_eq_true,decide_eq_true_eq,IntKind.has,i64_min,i64_max]at h;exact h
theorem sz63{n:Nat}(h:n≤maxLen):n≤9223372036854775807:=by unfold maxLen at h;omega
theorem row_rd{w:World}{a:Addr}{vs:List Value}(h :∀(i:Nat) u,vs[i]?=some u→w.cell? (a.add i)=some u):Rd (fun _=>True) w (some a) vs:=by
 rcases vs with _|⟨v,vs⟩
 ·exact .inl rfl
 ·have h0:w.cell? a=some v:=by have:=h 0 v rfl;simpa[Addr.add]using this
  obtain⟨b,o,sp⟩:=a;cases sp with
  | some k=>exfalso;unfold World.cell? at h0;split at h0<;>simp at h0
  | none=>exact .inr ⟨b,o,rfl,trivial,fun j u hu=>by have:=h j u hu;rwa [Addr.add_lit]at this⟩
section
variable {P : Program} {H : Type} {enc : TypeId × Value → H} {w : World} {spare : Nat → Bool} {held : Bool} {t e : TypeId} {fuel : Nat} {cs : List Value} {x : DataW H × List MemPlace}
theorem strs_in(ht:P.underlying t=some (.slice e))(he:P.underlying e=some .string)(hc:P.cellsOf e=1)(h:DataW.trod enc P w 0 spare held fuel t cs=some x):
  ∃A l c,cs=[.slice A l.length c]∧StrsIn (fun _=>True) w A l∧l.length≤c∧c≤9223372036854775807∧(txtsB l).length≤16*Rows.uptoBulk x.1:=by
 have h8 :∀n:Int,(num8 n).length=8:=fun n=>rfl;rcases open_strings ht he hc h with⟨rfl,rfl⟩|⟨a,len,cap,ss,rfl,_,hl,hm,hss,rfl,hcell,hsz⟩
 ·exact⟨none,[],0,rfl,⟨.inl rfl,by simp,by simp⟩,by simp,by simp,by simp[txtsB,h8,Rows.uptoBulk]⟩
 ·have hle:len≤ss.length:=by rw[hss];split<;>omega
  have hlen:(ss.take len).length=len:=by simp;omega
  have hm':cap≤9223372036854775807:=by unfold maxLen at hm;omega
  refine⟨some a,ss.take len,cap,by rw[hlen],⟨row_rd ?_,?_,by omega⟩,by omega,hm',?_⟩
  ·intro i u hu;have hi:i<len:=by have:=(List.getElem?_eq_some_iff.1 hu).1;simp at this;omega
   have h1:=hcell i (by omega);rw[h1];have h2:ss[i]?=some ss[i]:=by simp[show i<ss.length by omega]
   rw[List.getElem?_map,List.getElem?_take,if_pos hi,h2]at hu;injection hu with hu;rw[←hu,List.getD,h2];rfl
  ·intro s hs;have:=hsz s (List.mem_of_mem_take hs);unfold maxLen at this;omega
  ·have h1:=bulk_strs (H:=H) (ss.take len);have h2:=bulk_slice (H:=H) (strs (ss.take len)) (strs (ss.drop len));simp only[txtsB,List.length_append,h8];omega
theorem ints_in(ht:P.underlying t=some (.slice e))(he:P.underlying e=some (.int .i64))(hc:P.cellsOf e=1)(h:DataW.trod enc P w 0 spare held fuel t cs=some x):
  ∃A l c,cs=[.slice A l.length c]∧IntsIn (fun _=>True) w A l∧l.length≤c∧c≤9223372036854775807∧(pathB l).length≤16*Rows.uptoBulk x.1:=by
 rcases open_ints ht he hc h with⟨rfl,rfl⟩|⟨a,len,cap,ss,rfl,_,hl,hm,hss,rfl,hcell,hsz⟩
 ·exact⟨none,[],0,rfl,⟨.inl rfl,by simp,by simp⟩,by simp,by simp,by simp[path_len,Rows.uptoBulk]⟩
 ·have hle:len≤ss.length:=by rw[hss];split<;>omega
  have hlen:(ss.take len).length=len:=by simp;omega
  have hm':cap≤9223372036854775807:=by unfold maxLen at hm;omega
  refine⟨some a,ss.take len,cap,by rw[hlen],⟨row_rd ?_,?_,by omega⟩,by omega,hm',?_⟩
  ·intro i u hu;have hi:i<len:=by have:=(List.getElem?_eq_some_iff.1 hu).1;simp at this;omega
   have h1:=hcell i (by omega);rw[h1];have h2:ss[i]?=some ss[i]:=by simp[show i<ss.length by omega]
   rw[List.getElem?_map,List.getElem?_take,if_pos hi,h2]at hu;injection hu with hu;rw[←hu,List.getD,h2];rfl
  ·intro s hs;exact wf_i64 (hsz s (List.mem_of_mem_take hs))
  ·have h1:=bulk_lits (H:=H) (k:= .i64) (ss.take len);have h2:=bulk_slice (H:=H) (lits .i64 (ss.take len)) (lits .i64 (ss.drop len));rw[path_len];dsimp only;omega
theorem bytes_in(ht:P.underlying t=some (.slice e))(he:P.underlying e=some (.int .u8))(hc:P.cellsOf e=1)(h:DataW.trod enc P w 0 spare held fuel t cs=some x):
  ∃A l c,cs=[.slice A l.length c]∧BytesIn (fun _=>True) w A l∧l.length≤c∧c≤9223372036854775807∧(A=none→l.length=0∧c=0):=by
 rcases open_ints ht he hc h with⟨rfl,rfl⟩|⟨a,len,cap,ss,rfl,_,hl,hm,hss,rfl,hcell,hsz⟩
 ·exact⟨none,[],0,rfl,⟨.inl rfl,by simp⟩,by simp,by simp,by simp⟩
 ·have hle:len≤ss.length:=by rw[hss];split<;>omega
  have hm':cap≤9223372036854775807:=by unfold maxLen at hm;omega
  have hlen:((ss.take len).map fun z=>UInt8.ofNat z.toNat).length=len:=by simp;omega
  refine⟨some a,(ss.take len).map fun z=>UInt8.ofNat z.toNat,cap,by rw[hlen],⟨row_rd ?_,by omega⟩,by omega,hm',by simp⟩;intro i u hu;have hi:i<len:=by have:=(List.getElem?_eq_some_iff.1 hu).1;simp[bytesV]at this;omega
  have h1:=hcell i (by omega);rw[h1];have h2:ss[i]?=some ss[i]:=by simp[show i<ss.length by omega]
  obtain⟨z,hz,hz2⟩:=wf_u8 (hsz ss[i] (List.getElem_mem _));simp only[bytesV,List.map_map,List.getElem?_map,List.getElem?_take,if_pos hi,h2,Option.map_some,Option.some.injEq,Function.comp]at hu;rw[←hu,List.getD,h2];have h6:((UInt8.ofNat ss[i].toNat).toNat:Int)=ss[i]:=by
   rw[hz,Int.toNat_natCast,UInt8.toNat_ofNat'];omega
  simp only[Option.getD_some,h6]
end
end
end Go.Proofs.YtialngdffhmobaaGreatDoor
