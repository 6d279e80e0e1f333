/- Part 37 of what commuteFiles_cardUpto rests on. -/
import Derived.Test.YtialngdffhmobaaGreatDoorV28
import Derived.Test.YtialngdffhmobaaGreatDoorV35
import Derived.Test.YtialngdffhmobaaGreatDoorV03
import Derived.Test.YtialngdffhmobaaGreatDoorV00
set_option linter.unusedVariables false
set_option linter.unusedSimpArgs false
set_option maxHeartbeats 16000000
set_option maxRecDepth 1000000
namespace Go.Proofs.YtialngdffhmobaaGreatDoor
section
open Go.RowKit
theorem dL:(Tryz.prog.info? 32).map (·.size)=some 14:=by kernel_rfl
abbrev ai(p:Pt)(x:Ph):List Value:=[.int .u8 p.kind,.string p.file,.string p.text,.int .i64 p.hunk.at_,.slice x.h.oA p.hunk.old.length x.h.oc,.slice x.h.nA p.hunk.new.length x.h.nc,.int .u8 p.edit.kind,.slice x.e.pA p.edit.path.length x.e.pc,.int .i64 p.edit.at_,.int .i64 p.edit.far,.string p.edit.frm,.string p.edit.to,.slice x.e.oA p.edit.old.len x.e.oc,.slice x.e.nA p.edit.new.len x.e.nc]
abbrev ak:List Value:=[.int .u8 0,.string ByteArray.empty,.string ByteArray.empty,.int .i64 0,.slice none 0 0,.slice none 0 0,.int .u8 0,.slice none 0 0,.int .i64 0,.int .i64 0,.string ByteArray.empty,.string ByteArray.empty,.slice none 0 0,.slice none 0 0]
abbrev Ph.zero:Ph:=⟨⟨none,0,none,0⟩,⟨none,0,none,0,none,0⟩⟩
theorem kD(p:Pt)(x:Ph):(ai p x).toArray.all (·.oneCell')=true:=all_oneCell_toArray (by
 intro v hv;simp only[List.mem_cons,List.not_mem_nil,or_false]at hv;rcases hv with rfl|rfl|rfl|rfl|rfl|rfl|rfl|rfl|rfl|rfl|rfl|rfl|rfl|rfl<;>rfl)
theorem vY{w:World}{N:Nat}{p:Pt}{x:Ph}(h:Bx w N (ai p x)):w.rangeAt N 3 (au p.hunk x.h):=Bx.sub (pre:=[.int .u8 p.kind,.string p.file,.string p.text]) (mid:=au p.hunk x.h) (post:=ae p.edit x.e) h
theorem vZ{w:World}{N:Nat}{p:Pt}{x:Ph}(h:Bx w N (ai p x)):w.rangeAt N 6 (ae p.edit x.e):=Bx.sub (pre:=[.int .u8 p.kind,.string p.file,.string p.text,.int .i64 p.hunk.at_,.slice x.h.oA p.hunk.old.length x.h.oc,.slice x.h.nA p.hunk.new.length x.h.nc]) (mid:=ae p.edit x.e) (post:=[]) h
structure gX(w:World)(x:Ph)(p:Pt):Prop where
 r:gu Any w x p
 b:qj p
theorem gX.below{w w':World}{x:Ph}{p:Pt}(a:gX w x p)(hB:Below w.heap.size w w'):gX w' x p:=⟨a.r.below hB,a.b⟩
theorem gX.hunk{w:World}{x:Ph}{p:Pt}(a:gX w x p):lS w x.h p.hunk:=⟨a.r.hunk,a.b.hunk⟩
theorem gX.edit{w:World}{x:Ph}{p:Pt}(a:gX w x p):kH w x.e p.edit:=⟨a.r.edit,a.b.edit⟩
theorem jb.x{w:World}{x x0:Ph}{p p0:Pt}{L:List Nat}(a:jb w x p L x0 p0)(hb:qj p)(hr:Et x0):gX w x p:=⟨a.in_ hb hr,hb⟩
theorem jb.zero{w:World}{x0:Ph}{p0:Pt}:jb w Ph.zero Pt.zero [] x0 p0:=⟨[],[],jM.s jM.zero,uI.s uI.zero,rfl⟩
theorem jm.inv{h:Hk}(a:jm h):jm h.inv:=⟨a.at_,a.new,a.old⟩
theorem qj.inv{p:Pt}(a:qj p):qj p.inv:=by
 obtain⟨h1,h2,h3,h4,h5⟩:=a;unfold Pt.inv;split
 ·exact⟨by show(2:Nat)<256;decide,h2,h3,h4,h5⟩
 ·split
  ·exact⟨by show(1:Nat)<256;decide,h2,h3,h4,h5⟩
  ·split
   ·exact⟨by show(3:Nat)<256;decide,h2,h3,h4.inv,h5⟩
   ·exact⟨h1,h2,h3,h4,h5.inv⟩
theorem Ac{x:Ph}{p:Pt}{w:World}(H:gX w x p)(htab:aW w)(hok:bF p):Calls Tryz.prog 15 #[.agg (ai p x).toArray] w fun e w'=>e = .returned (.bool true)∧Below w.heap.size w w':=qE H.r htab H.b.edit.sum hok
theorem DF{x:Ph}{p:Pt}{w:World}(H:gX w x p)(htab:aW w):Calls Tryz.prog 15 #[.agg (ai p x).toArray] w fun e w'=>ay (bF p) e∧Below w.heap.size w w':=Jv H.r htab H.b.edit.sum
def jH(x:Ph)(p q:Pt)(w:World)(e:Ending)(w':World):Prop:=(∃y L,e = .returned (.agg (ai q y).toArray)∧jb w' y q L x p∧New w w' L)∧Below w.heap.size w w'
theorem qF{x:Ph}{file text:ByteArray}{h:Hk}{e:Ed}{w:World}(H:gX w x ⟨1,file,text,h,e⟩)(htab:aW w)(hok:bF ⟨1,file,text,h,e⟩):
  Calls Tryz.prog 119 #[.agg (ai ⟨1,file,text,h,e⟩ x).toArray] w (jH x ⟨1,file,text,h,e⟩ ⟨2,file,text,h,e⟩ w):=by
 have hz:h=Hk.zero∧e=Ed.zero:=by
  obtain⟨_,hh|hh|hh⟩:=hok
  ·exact⟨hh.2.1,hh.2.2⟩
  ·exact absurd hh.1 (by show¬(1:Nat)=_;decide)
  ·exact absurd hh.1 (by show¬(1:Nat)=_;decide)
 have Hz:=hide hz;clear hz;obtain⟨W0,hW0⟩:∃W0,W0=(w.alloc (.cells (ai ⟨1,file,text,h,e⟩ x).toArray 32)).alloc (.cells ak.toArray 32):=⟨_,rfl⟩;obtain⟨hN0,hR0⟩:=mM w (ai ⟨1,file,text,h,e⟩ x) ak 32 32;rw[←hW0]at hN0 hR0;have hB0:Below w.heap.size w W0:=by rw[hW0];exact dW _ _
 have HW0:=hide hW0;have eu:=hide hN0;have HR0:=hide hR0;have HB0:=hide hB0;have HH:=hide H;have aS:=hide htab;have hs0:W0.heap.size=w.heap.size+2:=by rw[hW0];simp
 have gI:=hide hs0;have fQ:=hide hok;clear hW0 hN0 hR0 hB0 H htab hs0 hok;go_enter Tryz.func119,Tryz.ntmps119
 go_upto_region 1 with fail
 change Code.wp _ _ _ _ ((w.alloc (.cells (ai ⟨1,file,text,h,e⟩ x).toArray 32)).alloc (.cells ak.toArray 32));rw[←HW0.out];clear HW0;refine wp_region_lit ?_;refine gl ?_ eu.out.c Tryz.underlying32 dL;refine gc (Ac (HH.out.below HB0.out) (aS.out.below HB0.out) fQ.out) ?_;rintro e1 w1 ⟨rfl,hB⟩;refine⟨_,rfl,?_⟩;refine sk (v:= .bool false) ?_;refine wpList_nil ?_;rename_i hK;refine hK _ _ ?_;clear hK;have dQ:=hide (eu.out.call hB);have HR1:=hide (HR0.out.call hB);have HB1:=hide (aQ HB0.out hB);have jc:Hid (w.heap.size+2≤w1.heap.size):=hide (by have:=hB.size;have:=gI.out;omega);clear hB eu HR0 HB0 gI;have k0:=dQ.out.cell 0;have f1:=dQ.out.f
 go_upto_region 12 with fail
 change Code.wp _ _ _ _ (w1.setCells w.heap.size 0 [.int .u8 2]);have fV:=hide (dQ.out.puts 0 [.int .u8 2] (ai ⟨2,file,text,h,e⟩ x) (by simp));have HR2:=hide (HR1.out.off (M:=w.heap.size) (by omega) 0 [.int .u8 2]);have HB2:=hide (dK (aC w.heap.size) [.int .u8 2] 0 HB1.out);clear k0 f1 dQ HR1 HB1;generalize w1.setCells w.heap.size 0 [.int .u8 2]=W2 at fV HR2 HB2⊢;refine wp_region_lit ?_;refine gl ?_ fV.out.c Tryz.underlying32 dL;refine gs (cells:=(ai ⟨2,file,text,h,e⟩ x).toArray) ?_ (HR2.out.th (o:=0) (by simp)) dL (kD _ _);refine wpList_nil ?_;rename_i hK;refine hK _ _ ?_;clear hK;refine wp_ret ?_;have mr:=HR2.out.puts 0 (ai ⟨2,file,text,h,e⟩ x) (ai ⟨2,file,text,h,e⟩ x) (by simp);exact bodyPost_ret (v:= .agg (ai ⟨2,file,text,h,e⟩ x).toArray) (nJ Tryz.results119 mr.c Tryz.underlying32 dL) rfl ⟨⟨_,_,rfl,(by obtain⟨rfl,rfl⟩:=Hz.out;exact⟨[],[],mV.same,gK.same,rfl⟩),New.nil⟩,dK (by omega) _ _ HB2.out⟩
theorem qG{x:Ph}{file text:ByteArray}{h:Hk}{e:Ed}{w:World}(H:gX w x ⟨2,file,text,h,e⟩)(htab:aW w)(hok:bF ⟨2,file,text,h,e⟩):
  Calls Tryz.prog 119 #[.agg (ai ⟨2,file,text,h,e⟩ x).toArray] w (jH x ⟨2,file,text,h,e⟩ ⟨1,file,text,h,e⟩ w):=by
 have hz:h=Hk.zero∧e=Ed.zero:=by
  obtain⟨_,hh|hh|hh⟩:=hok
  ·exact⟨hh.2.1,hh.2.2⟩
  ·exact absurd hh.1 (by show¬(2:Nat)=_;decide)
  ·exact absurd hh.1 (by show¬(2:Nat)=_;decide)
 have Hz:=hide hz;clear hz;obtain⟨W0,hW0⟩:∃W0,W0=(w.alloc (.cells (ai ⟨2,file,text,h,e⟩ x).toArray 32)).alloc (.cells ak.toArray 32):=⟨_,rfl⟩;obtain⟨hN0,hR0⟩:=mM w (ai ⟨2,file,text,h,e⟩ x) ak 32 32;rw[←hW0]at hN0 hR0;have hB0:Below w.heap.size w W0:=by rw[hW0];exact dW _ _
 have HW0:=hide hW0;have eu:=hide hN0;have HR0:=hide hR0;have HB0:=hide hB0;have HH:=hide H;have aS:=hide htab;have hs0:W0.heap.size=w.heap.size+2:=by rw[hW0];simp
 have gI:=hide hs0;have fQ:=hide hok;clear hW0 hN0 hR0 hB0 H htab hs0 hok;go_enter Tryz.func119,Tryz.ntmps119
 go_upto_region 1 with fail
 change Code.wp _ _ _ _ ((w.alloc (.cells (ai ⟨2,file,text,h,e⟩ x).toArray 32)).alloc (.cells ak.toArray 32));rw[←HW0.out];clear HW0;refine wp_region_lit ?_;refine gl ?_ eu.out.c Tryz.underlying32 dL;refine gc (Ac (HH.out.below HB0.out) (aS.out.below HB0.out) fQ.out) ?_;rintro e1 w1 ⟨rfl,hB⟩;refine⟨_,rfl,?_⟩;refine sk (v:= .bool false) ?_;refine wpList_nil ?_;rename_i hK;refine hK _ _ ?_;clear hK;have dQ:=hide (eu.out.call hB);have HR1:=hide (HR0.out.call hB);have HB1:=hide (aQ HB0.out hB);have jc:Hid (w.heap.size+2≤w1.heap.size):=hide (by have:=hB.size;have:=gI.out;omega);clear hB eu HR0 HB0 gI;have k0:=dQ.out.cell 0;have f1:=dQ.out.f
 go_upto_region 12 with fail
 change Code.wp _ _ _ _ (w1.setCells w.heap.size 0 [.int .u8 1]);have fV:=hide (dQ.out.puts 0 [.int .u8 1] (ai ⟨1,file,text,h,e⟩ x) (by simp));have HR2:=hide (HR1.out.off (M:=w.heap.size) (by omega) 0 [.int .u8 1]);have HB2:=hide (dK (aC w.heap.size) [.int .u8 1] 0 HB1.out);clear k0 f1 dQ HR1 HB1;generalize w1.setCells w.heap.size 0 [.int .u8 1]=W2 at fV HR2 HB2⊢;refine wp_region_lit ?_;refine gl ?_ fV.out.c Tryz.underlying32 dL;refine gs (cells:=(ai ⟨1,file,text,h,e⟩ x).toArray) ?_ (HR2.out.th (o:=0) (by simp)) dL (kD _ _);refine wpList_nil ?_;rename_i hK;refine hK _ _ ?_;clear hK;refine wp_ret ?_;have mr:=HR2.out.puts 0 (ai ⟨1,file,text,h,e⟩ x) (ai ⟨1,file,text,h,e⟩ x) (by simp);exact bodyPost_ret (v:= .agg (ai ⟨1,file,text,h,e⟩ x).toArray) (nJ Tryz.results119 mr.c Tryz.underlying32 dL) rfl ⟨⟨_,_,rfl,(by obtain⟨rfl,rfl⟩:=Hz.out;exact⟨[],[],mV.same,gK.same,rfl⟩),New.nil⟩,dK (by omega) _ _ HB2.out⟩
theorem qH{x:Ph}{file text:ByteArray}{h:Hk}{e:Ed}{w:World}(H:gX w x ⟨3,file,text,h,e⟩)(htab:aW w)(hok:bF ⟨3,file,text,h,e⟩):
  Calls Tryz.prog 119 #[.agg (ai ⟨3,file,text,h,e⟩ x).toArray] w (jH x ⟨3,file,text,h,e⟩ ⟨3,file,text,h.inv,e⟩ w):=by
 have hz:e=Ed.zero:=by
  obtain⟨_,hh|hh|hh⟩:=hok
  ·exact absurd hh.1 (by show¬((3:Nat)=1∨(3:Nat)=2);decide)
  ·exact hh.2.2.1
  ·exact absurd hh.1 (by show¬(3:Nat)=_;decide)
 have Hz:=hide hz;clear hz;obtain⟨W0,hW0⟩:∃W0,W0=(w.alloc (.cells (ai ⟨3,file,text,h,e⟩ x).toArray 32)).alloc (.cells ak.toArray 32):=⟨_,rfl⟩;obtain⟨hN0,hR0⟩:=mM w (ai ⟨3,file,text,h,e⟩ x) ak 32 32;rw[←hW0]at hN0 hR0;have hB0:Below w.heap.size w W0:=by rw[hW0];exact dW _ _
 have HW0:=hide hW0;have eu:=hide hN0;have HR0:=hide hR0;have HB0:=hide hB0;have HH:=hide H;have aS:=hide htab;have hs0:W0.heap.size=w.heap.size+2:=by rw[hW0];simp
 have gI:=hide hs0;have fQ:=hide hok;clear hW0 hN0 hR0 hB0 H htab hs0 hok;go_enter Tryz.func119,Tryz.ntmps119
 go_upto_region 1 with fail
 change Code.wp _ _ _ _ ((w.alloc (.cells (ai ⟨3,file,text,h,e⟩ x).toArray 32)).alloc (.cells ak.toArray 32));rw[←HW0.out];clear HW0;refine wp_region_lit ?_;refine gl ?_ eu.out.c Tryz.underlying32 dL;refine gc (Ac (HH.out.below HB0.out) (aS.out.below HB0.out) fQ.out) ?_;rintro e1 w1 ⟨rfl,hB⟩;refine⟨_,rfl,?_⟩;refine sk (v:= .bool false) ?_;refine wpList_nil ?_;rename_i hK;refine hK _ _ ?_;clear hK;have dQ:=hide (eu.out.call hB);have HR1:=hide (HR0.out.call hB);have HB1:=hide (aQ HB0.out hB);have jc:Hid (w.heap.size+2≤w1.heap.size):=hide (by have:=hB.size;have:=gI.out;omega);clear hB eu HR0 HB0 gI;have k0:=dQ.out.cell 0
 go_upto_region 9 with fail
 refine wp_region_lit ?_;refine sk ?_;refine gl ?_ (vY dQ.out) Tryz.underlying25 fZ;refine gc (sH (x:=x.h) (h:=h) (HH.out.hunk.below HB1.out)) ?_;rintro e2 w2 ⟨⟨y,L,rfl,ho,hn⟩,hB⟩;refine⟨_,rfl,?_⟩;have fV:=hide (dQ.out.call hB);have HR2:=hide (HR1.out.call hB);have HB2:=hide (aQ HB1.out hB);have HO:=hide ho;have kK:=hide (hn.from HB1.out.size);have Hg:Hid (∀b∈L,w.heap.size+2≤b):=hide (fun b hb=>aI jc.out (hn.ge b hb));clear hB ho hn k0 dQ HR1 HB1;refine sk ?_;refine gs (cells:=(au h.inv y).toArray) ?_ (fV.out.th (o:=3) (by simp)) fZ (jB _ _);refine wpList_nil ?_;rename_i hK;refine hK _ _ ?_;clear hK;have fU:=hide (fV.out.puts 3 (au h.inv y) (ai ⟨3,file,text,h.inv,e⟩ ⟨y,x.e⟩) (by simp));have HR3:=hide (HR2.out.off (M:=w.heap.size) (by omega) 3 (au h.inv y));have HB3:=hide (dK (aC w.heap.size) (au h.inv y) 3 HB2.out);have hs3:(w2.setCells w.heap.size 3 (au h.inv y)).heap.size=w2.heap.size:=dU _ _ _ _;clear fV HR2 HB2
 go_upto_region 12 with fail
 refine wp_region_lit ?_;refine gl ?_ fU.out.c Tryz.underlying32 dL;refine gs (cells:=(ai ⟨3,file,text,h.inv,e⟩ ⟨y,x.e⟩).toArray) ?_ (HR3.out.th (o:=0) (by simp)) dL (kD _ _);refine wpList_nil ?_;rename_i hK;refine hK _ _ ?_;clear hK;refine wp_ret ?_;have mr:=HR3.out.puts 0 (ai ⟨3,file,text,h.inv,e⟩ ⟨y,x.e⟩) (ai ⟨3,file,text,h.inv,e⟩ ⟨y,x.e⟩) (by simp);exact bodyPost_ret (v:= .agg (ai ⟨3,file,text,h.inv,e⟩ ⟨y,x.e⟩).toArray) (nJ Tryz.results119 mr.c Tryz.underlying32 dL) rfl ⟨⟨_,_,rfl,(by have:=Hz.out;subst this;exact⟨L,[],(HO.out.s).keep (fun b hb=>(iI _ (by have:=Hg.out b hb;omega) _ _ _).trans (iI _ (by have:=Hg.out b hb;omega) _ _ _)),gK.same,by simp⟩),kK.out.up (by rw[dU,hs3];exact aC _)⟩,dK (by omega) _ _ HB3.out⟩
theorem qI{x:Ph}{file text:ByteArray}{h:Hk}{e:Ed}{w:World}(H:gX w x ⟨4,file,text,h,e⟩)(htab:aW w)(hok:bF ⟨4,file,text,h,e⟩):
  Calls Tryz.prog 119 #[.agg (ai ⟨4,file,text,h,e⟩ x).toArray] w (jH x ⟨4,file,text,h,e⟩ ⟨4,file,text,h,e.inv⟩ w):=by
 have hz:h=Hk.zero:=by
  obtain⟨_,hh|hh|hh⟩:=hok
  ·exact absurd hh.1 (by show¬((4:Nat)=1∨(4:Nat)=2);decide)
  ·exact absurd hh.1 (by show¬(4:Nat)=_;decide)
  ·exact hh.2.2.1
 have Hz:=hide hz;clear hz;have BP:bQ e:=by
  obtain⟨_,hh|hh|hh⟩:=hok
  ·exact absurd hh.1 (by show¬((4:Nat)=1∨(4:Nat)=2);decide)
  ·exact absurd hh.1 (by show¬(4:Nat)=_;decide)
  ·exact hh.2.2.2
 have FN:=hide BP;clear BP;obtain⟨W0,hW0⟩:∃W0,W0=(w.alloc (.cells (ai ⟨4,file,text,h,e⟩ x).toArray 32)).alloc (.cells ak.toArray 32):=⟨_,rfl⟩;obtain⟨hN0,hR0⟩:=mM w (ai ⟨4,file,text,h,e⟩ x) ak 32 32;rw[←hW0]at hN0 hR0;have hB0:Below w.heap.size w W0:=by rw[hW0];exact dW _ _
 have HW0:=hide hW0;have eu:=hide hN0;have HR0:=hide hR0;have HB0:=hide hB0;have HH:=hide H;have aS:=hide htab;have hs0:W0.heap.size=w.heap.size+2:=by rw[hW0];simp
 have gI:=hide hs0;have fQ:=hide hok;clear hW0 hN0 hR0 hB0 H htab hs0 hok;go_enter Tryz.func119,Tryz.ntmps119
 go_upto_region 1 with fail
 change Code.wp _ _ _ _ ((w.alloc (.cells (ai ⟨4,file,text,h,e⟩ x).toArray 32)).alloc (.cells ak.toArray 32));rw[←HW0.out];clear HW0;refine wp_region_lit ?_;refine gl ?_ eu.out.c Tryz.underlying32 dL;refine gc (Ac (HH.out.below HB0.out) (aS.out.below HB0.out) fQ.out) ?_;rintro e1 w1 ⟨rfl,hB⟩;refine⟨_,rfl,?_⟩;refine sk (v:= .bool false) ?_;refine wpList_nil ?_;rename_i hK;refine hK _ _ ?_;clear hK;have dQ:=hide (eu.out.call hB);have HR1:=hide (HR0.out.call hB);have HB1:=hide (aQ HB0.out hB);have jc:Hid (w.heap.size+2≤w1.heap.size):=hide (by have:=hB.size;have:=gI.out;omega);clear hB eu HR0 HB0 gI;have k0:=dQ.out.cell 0
 go_upto_region 11 with fail
 refine wp_region_lit ?_;refine sk ?_;refine gl ?_ (vZ dQ.out) Tryz.underlying30 bC;refine gc (zag (x:=x.e) (e:=e) (HH.out.edit.below HB1.out) (aS.out.below HB1.out) FN.out) ?_;rintro e2 w2 ⟨⟨y,L,rfl,ho,hn⟩,hB⟩;refine⟨_,rfl,?_⟩;have fV:=hide (dQ.out.call hB);have HR2:=hide (HR1.out.call hB);have HB2:=hide (aQ HB1.out hB);have HO:=hide ho;have kK:=hide (hn.from HB1.out.size);have Hg:Hid (∀b∈L,w.heap.size+2≤b):=hide (fun b hb=>aI jc.out (hn.ge b hb));clear hB ho hn k0 dQ HR1 HB1;refine sk ?_;refine gs (cells:=(ae e.inv y).toArray) ?_ (fV.out.th (o:=6) (by simp)) bC (dB _ _);refine wpList_nil ?_;rename_i hK;refine hK _ _ ?_;clear hK;have fU:=hide (fV.out.puts 6 (ae e.inv y) (ai ⟨4,file,text,h,e.inv⟩ ⟨x.h,y⟩) (by simp));have HR3:=hide (HR2.out.off (M:=w.heap.size) (by omega) 6 (ae e.inv y));have HB3:=hide (dK (aC w.heap.size) (ae e.inv y) 6 HB2.out);have hs3:(w2.setCells w.heap.size 6 (ae e.inv y)).heap.size=w2.heap.size:=dU _ _ _ _;clear fV HR2 HB2
 go_upto_region 12 with fail
 refine wp_region_lit ?_;refine gl ?_ fU.out.c Tryz.underlying32 dL;refine gs (cells:=(ai ⟨4,file,text,h,e.inv⟩ ⟨x.h,y⟩).toArray) ?_ (HR3.out.th (o:=0) (by simp)) dL (kD _ _);refine wpList_nil ?_;rename_i hK;refine hK _ _ ?_;clear hK;refine wp_ret ?_;have mr:=HR3.out.puts 0 (ai ⟨4,file,text,h,e.inv⟩ ⟨x.h,y⟩) (ai ⟨4,file,text,h,e.inv⟩ ⟨x.h,y⟩) (by simp);exact bodyPost_ret (v:= .agg (ai ⟨4,file,text,h,e.inv⟩ ⟨x.h,y⟩).toArray) (nJ Tryz.results119 mr.c Tryz.underlying32 dL) rfl ⟨⟨_,_,rfl,(by have:=Hz.out;subst this;exact⟨[],L,mV.same,HO.out.keep (fun b hb=>(iI _ (by have:=Hg.out b hb;omega) _ _ _).trans (iI _ (by have:=Hg.out b hb;omega) _ _ _)),rfl⟩),kK.out.up (by rw[dU,hs3];exact aC _)⟩,dK (by omega) _ _ HB3.out⟩
theorem pF{x:Ph}{p:Pt}{w:World}(H:gX w x p)(htab:aW w)(hok:bF p):Calls Tryz.prog 119 #[.agg (ai p x).toArray] w (jH x p p.inv w):=by
 have hok0:=hok;obtain⟨kd,file,text,hunk,edit⟩:=p;obtain⟨hf,⟨hk|hk,_⟩|⟨hk,_⟩|⟨hk,_⟩⟩:=hok
 ·simp only at hk;subst hk;exact qF H htab hok0
 ·simp only at hk;subst hk;exact qG H htab hok0
 ·simp only at hk;subst hk;exact qH H htab hok0
 ·simp only at hk;subst hk;exact qI H htab hok0
theorem Ed.inv_inv{e:Ed}(h:bQ e):e.inv.inv=e:=by
 obtain⟨kd,path,at_,far,frm,aX,old,new⟩:=e;obtain⟨_,h|h|h|h|h⟩:=h
 ·obtain⟨rfl,_⟩:=h;rfl
 ·obtain⟨rfl,_⟩:=h;rfl
 ·obtain⟨rfl,_⟩:=h;rfl
 ·obtain⟨rfl,_⟩:=h;rfl
 ·obtain⟨rfl,_⟩:=h;rfl
theorem Pt.inv_inv{p:Pt}(h:bF p):p.inv.inv=p:=by
 obtain⟨kd,file,text,hunk,edit⟩:=p;obtain⟨_,⟨h|h,_⟩|⟨h,_⟩|⟨h,_,_,he⟩⟩:=h
 ·simp only at h;subst h;rfl
 ·simp only at h;subst h;rfl
 ·simp only at h;subst h;rfl
 ·simp only at h;subst h;show(⟨4,file,text,hunk,edit.inv.inv⟩:Pt)=_;rw[Ed.inv_inv he]
def wo(x:Ph)(p:Pt)(w:World)(e:Ending)(w':World):Prop:=(∃y L,e = .returned (.agg (ai p y).toArray)∧jb w' y p L x p∧New w w' L)∧Below w.heap.size w w'
theorem pG{x:Ph}{p:Pt}{w:World}(H:gX w x p)(htab:aW w)(hok:bF p):Calls Tryz.prog 128 #[.agg (ai p x).toArray] w (wo x p w):=by
 obtain⟨W0,hW0⟩:∃W0,W0=(w.alloc (.cells (ai p x).toArray 32)).alloc (.cells ak.toArray 32):=⟨_,rfl⟩;obtain⟨hN0,hR0⟩:=mM w (ai p x) ak 32 32;rw[←hW0]at hN0 hR0;have hB0:Below w.heap.size w W0:=by rw[hW0];exact dW _ _
 have hs0:W0.heap.size=w.heap.size+2:=by rw[hW0];simp
 have HW0:=hide hW0;have eu:=hide hN0;have HR0:=hide hR0;have HB0:=hide hB0;have gI:=hide hs0;have HH:=hide H;have aS:=hide htab;have fQ:=hide hok;clear hW0 hN0 hR0 hB0 H htab hs0 hok;go_enter Tryz.func128,Tryz.ntmps128
 go_upto_region 1 with fail
 change Code.wp _ _ _ _ ((w.alloc (.cells (ai p x).toArray 32)).alloc (.cells ak.toArray 32));rw[←HW0.out];clear HW0;refine wp_region_lit ?_;refine gl ?_ eu.out.c Tryz.underlying32 dL;refine gc (pF (HH.out.below HB0.out) (aS.out.below HB0.out) fQ.out) ?_;rintro e1 w1 ⟨⟨y1,L1,rfl,h1,n1⟩,hB1⟩;refine⟨_,rfl,?_⟩;have DI:Hid (gX w1 y1 p.inv):=hide (h1.x HH.out.b.inv HH.out.r.r);refine gc (pF DI.out ((aS.out.below HB0.out).below hB1) fQ.out.inv) ?_;rw[Pt.inv_inv fQ.out];rintro e2 w2 ⟨⟨y2,L2,rfl,h2,n2⟩,hB2⟩;refine⟨_,rfl,?_⟩;obtain⟨L,h3,n3⟩:=h1.trans h2 n1 n2 hB2 hB1.size;have HR2:=hide ((HR0.out.call hB1).call hB2);have HB2:=hide (aQ (aQ HB0.out hB1) hB2);refine gs (cells:=(ai p y2).toArray) ?_ (HR2.out.th (o:=0) (by simp)) dL (kD _ _);refine wpList_nil ?_;rename_i hK;refine hK _ _ ?_;clear hK;refine wp_ret ?_;have mr:=HR2.out.puts 0 (ai p y2) (ai p y2) (by simp);exact bodyPost_ret (v:= .agg (ai p y2).toArray) (nJ Tryz.results128 mr.c Tryz.underlying32 dL) rfl ⟨⟨_,L,rfl,h3.keep (jU fun b hb e=>by have:=n3.ge b hb;have:=gI.out;omega),(n3.from HB0.out.size).up (by rw[dU];exact aC _)⟩,dK (by omega) _ _ HB2.out⟩
theorem JC{f:Int→Int}:∀{x:List Int} {i:Nat} {n:Int},n∈x.modify i f→n∈x∨∃k∈x,n=f k
 | [],i,n,h=>by cases i<;>simp at h
 | a::x,0,n,h=>by
  simp at h;rcases h with h|h
  ·exact .inr ⟨a,by simp,h⟩
  ·exact .inl (by simp[h])
 | a::x,i+1,n,h=>by
  rw[List.modify_succ_cons]at h;rcases List.mem_cons.1 h with h|h
  ·exact .inl (by simp[h])
  ·rcases JC h with h|⟨k,h1,h2⟩
   ·exact .inl (by simp[h])
   ·exact .inr ⟨k,by simp[h1],h2⟩
theorem uf{x l:List Int}{f:Int→Int}{n:Int}(h:n∈iG x l f):n∈x∨∃k∈x,n=f k:=by
 unfold iG at h;split at h
 ·exact JC h
 ·exact .inl h
theorem Number.small{n:Int}(h:Number n):bI n:=⟨by have:=h.1;omega,by have:=h.2;omega⟩
theorem bQ.nums{e:Ed}(h:bQ e):Number e.at_∧Number e.far:=by
 have z:Number 0:=⟨by omega,by omega⟩;obtain⟨_,h|h|h|h|h⟩:=h
 ·rw[h.2.1,h.2.2.1];exact⟨z,z⟩
 ·rw[h.2.1];exact⟨h.2.2.2.2.2.1,z⟩
 ·rw[h.2.1];exact⟨h.2.2.2.2.2.1,z⟩
 ·rw[h.2.1,h.2.2.1];exact⟨z,z⟩
 ·exact⟨h.2.2.2.2.1,h.2.2.2.2.2.1⟩
theorem FO{a k:Int}:k≤l9 a k∧l9 a k≤k+1:=by unfold l9;split<;>omega
theorem FP{a k:Int}:k-1≤dS a k∧dS a k≤k:=by unfold dS;split<;>omega
theorem DJ{e:Ed}{x l:List Int}(hx :∀n∈x,Number n)(hf:Number e.far)(h:cO e x=some l):l.length=x.length∧∀n∈l,bI n:=by
 have one :∀f:Int→Int,(∀k,Number k→bI (f k))→(iG x e.path f).length=x.length∧∀n∈iG x e.path f,bI n:=fun f hf=>⟨EU _ _ _,fun n hn=>by
  rcases uf hn with h|⟨k,h,rfl⟩
  ·exact(hx n h).small
  ·exact hf k (hx k h)⟩
 unfold cO at h;split at h
 ·cases h;exact one _ fun k hk=>⟨by have:=(FO (a:=e.at_) (k:=k)).1;have:=hk.1;omega,by have:=(FO (a:=e.at_) (k:=k)).2;have:=hk.2;omega⟩
 ·split at h
  ·unfold dh at h;split at h
   ·cases h
   ·cases h;exact one _ fun k hk=>⟨by have:=(FP (a:=e.at_) (k:=k)).1;have:=hk.1;omega,by have:=(FP (a:=e.at_) (k:=k)).2;have:=hk.2;omega⟩
  ·split at h
   ·split at h
    ·cases h
    ·cases h;exact⟨rfl,fun n hn=>(hx n hn).small⟩
   ·split at h
    ·split at h
     ·cases h
     ·cases h;refine one _ fun k hk=>?_;split
      ·exact hf.small
      ·have h1:=FO (a:=e.far) (k:=dS e.at_ k);have h2:=FP (a:=e.at_) (k:=k);have h3:=hk.1;have h4:=hk.2;unfold bI;omega
    ·cases h;exact⟨rfl,fun n hn=>(hx n hn).small⟩
abbrev Ed.withPath(e:Ed)(l:List Int):Ed:={e with path:=l}
abbrev Ed.withAt(e:Ed)(n:Int):Ed:={e with at_:=n}
abbrev Eh.withPath(x:Eh)(A:Option Addr)(c:Nat):Eh:={x with pA:=A,pc:=c}
theorem ja.withPath{e:Ed}{l:List Int}(h:ja e)(h1 :∀n∈l,bI n)(h2:l.length=e.path.length):ja (e.withPath l):=
 ⟨h.kind,⟨fun n hn=>(h1 n hn).i64,by have:=h.path.2;simp only;omega⟩,h.at_,h.far,h.frm,h.to,h.sum,h.old,h.new⟩
theorem ja.withAt{e:Ed}{n:Int}(h:ja e)(h1:bI n):ja (e.withAt n):=
 ⟨h.kind,h.path,h1.i64,h.far,h.frm,h.to,h.sum,h.old,h.new⟩
theorem JD{p q:Ed}{j i:Int}(hp:Number p.at_)(hq:Number q.at_)(h:aT p q=some (j,i)):bI j∧bI i:=by
 have h1:=hp.1;have h2:=hp.2;have h3:=hq.1;have h4:=hq.2;have up :∀e:Ed,e.up=1∨e.up = -1:=fun e=>by unfold Ed.up;split<;>simp
 have h5:=up p;have h6:=up q;unfold aT at h;split at h
 ·cases h
 ·generalize (if q.kind=3 then p.at_-1 else p.at_)=lo at h;generalize (if p.kind=2 then p.at_+1 else p.at_)=hi at h;split at h
  ·cases h
  ·split at h
   ·cases h;unfold bI;omega
   ·cases h;unfold bI;omega
theorem New.le{w w':World}{L L':List Nat}(h:New w w' L)(hp :∀a,L'.count a≤L.count a):New w w' L' :=
 have hm :∀b∈L',b∈L:=fun b hb=>List.count_pos_iff.1 (aH (List.count_pos_iff.2 hb) (hp b))
 ⟨List.nodup_iff_count.2 fun a=>aI (hp a) (List.nodup_iff_count.1 h.nd a),fun b hb=>h.ge b (hm b hb),fun b hb=>h.lt b (hm b hb)⟩
def je(w w':World)(xa xb:Eh)(a b:Ed)(y:Eh)(q:Ed)(x:Eh)(p:Ed):Prop:=∃La Lb,gK w' xa a La y q∧gK w' xb b Lb x p∧New w w' (La++Lb)
theorem je.zero{w w':World}{y x:Eh}{q p:Ed}:je w w' ⟨none,0,none,0,none,0⟩ ⟨none,0,none,0,none,0⟩ Ed.zero Ed.zero y q x p:=⟨[],[],uI.s uI.zero,uI.s uI.zero,New.nil⟩
theorem gK.withPath{w w1:World}{x:Eh}{e:Ed}{L:List Nat}{x0:Eh}{e0:Ed}(h:gK w x e L x0 e0){A:Option Addr}{c:Nat}{l:List Int}(hi:fO w1 w A c l):∃Lr Lp,gK w (x.withPath A c) (e.withPath l) (Lp++Lr) x0 e0∧(∀a,Lr.count a≤L.count a)∧(∀a∈Lr,a∈L)∧New w1 w Lp:=by
 obtain⟨L1,L2,L3,h1,h2,h3,rfl⟩:=h;obtain⟨Lp,hr,hn⟩:=hi;exact⟨L2++L3,Lp,⟨Lp,L2,L3,.inl hr,h2,h3,rfl⟩,fun a=>by simp[List.count_append],fun a ha=>by simp only[List.mem_append]at ha⊢;exact .inr ha,hn⟩
theorem gK.trans{w0 w w':World}{x0 x1 x2:Eh}{p0 p1 p2:Ed}{L1 L2:List Nat}(h:gK w x1 p1 L1 x0 p0)(h2:gK w' x2 p2 L2 x1 p1)(n1:New w0 w L1)(n2:New w w' L2)(hB:Below w.heap.size w w')(hs:w0.heap.size≤w.heap.size):∃L,gK w' x2 p2 L x0 p0∧New w0 w' L∧∀b∈L,b∈L1∨b∈L2:=by
 obtain⟨a3,a4,a5,r3,r4,r5,rfl⟩:=h;obtain⟨b3,b4,b5,q3,q4,q5,rfl⟩:=h2;obtain⟨c3,s3,e3⟩:=r3.trans q3 hB;obtain⟨c4,s4,e4⟩:=r4.trans q4 hB;obtain⟨c5,s5,e5⟩:=r5.trans q5 hB;have hm :∀b∈c3++(c4++c5),b∈a3++(a4++a5)∨b∈b3++(b4++b5):=by
  intro b hb;simp only[List.mem_append]at hb⊢;rcases e3 with rfl|rfl<;>rcases e4 with rfl|rfl<;>rcases e5 with rfl|rfl<;>rcases hb with hb|hb|hb<;>simp[hb]
 have hp:=wV (a1:=[]) (a2:=[]) (b1:=[]) (b2:=[]) (c1:=[]) (c2:=[]) (by simpa using n1.nd) (by simpa using n2.nd) (by simpa using n1.lt) (by simpa using n2.ge) (.inl rfl) (.inl rfl) e3 e4 e5;refine⟨_,⟨c3,c4,c5,s3,s4,s5,rfl⟩,⟨by simpa using hp,fun b hb=>?_,fun b hb=>?_⟩,hm⟩
 ·rcases hm b hb with h|h
  ·exact n1.ge b h
  ·exact aI hs (n2.ge b h)
 ·rcases hm b hb with h|h
  ·exact aH (n1.lt b h) hB.size
  ·exact n2.lt b h
theorem kH.two{w:World}{x y:Eh}{p q:Ed}(hx:kH w x p)(hy:kH w y q)(hp:bQ p):lJ w x.pA y.pA x.pc p.path q.path :=
 ⟨hx.r.path,hy.r.path,hx.r.pc.1,hx.b.path.2,hy.b.path.2,fun n hn=>(hp.1 n hn).small⟩
def FQ(p q:Ed)(err:Int)(a b:Ed):Prop :=
 (¬(bQ p∧bQ q)∧err=4∧a=Ed.zero∧b=Ed.zero)∨((bQ p∧bQ q)∧((bT p q=none∧err=130∧a=Ed.zero∧b=Ed.zero)∨(bT p q=some (a,b)∧err=0)))
def yS(x y:Eh)(p q:Ed)(w:World)(e:Ending)(w':World):Prop :=
 (∃err a b xa xb,e = .returned (.tuple #[.agg (ae a xa).toArray,.agg (ae b xb).toArray,.int .i64 err])∧je w w' xa xb a b y q x p∧FQ p q err a b)∧Below w.heap.size w w'
theorem JE{p q:Ed}(h:listed p∧listed q∧p.path=q.path):fE p q=(aT p q).map fun(j,i)=>({q with at_:=j},{p with at_:=i}):=by unfold fE;rw[if_pos h]
theorem JF{p q:Ed}(h :¬(listed p∧listed q∧p.path=q.path)):fE p q=(cO p.inv q.path).bind fun x=>(cO {q with path:=x} p.path).map fun y=>({q with path:=x},{p with path:=y}):=by unfold fE;rw[if_neg h]
open Classical in
theorem BQ{p q:Ed}(h :¬iH p q):bT p q=(fE p q).bind fun(a,b)=>if bQ a∧bQ b then some (a,b)else none:=by unfold bT;rw[if_neg h]
theorem JG{p q:Ed}(h:iH p q):bT p q=none:=by unfold bT;rw[if_pos h]
end
end Go.Proofs.YtialngdffhmobaaGreatDoor
