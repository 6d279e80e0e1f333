/- Part 34 of what commuteFiles_cardUpto rests on. -/
import Derived.LoopTactic
import Derived.Sort.OwnSorted
import Derived.Lib.OwnBridge
import Derived.Lib.SlicesCompact
import Derived.Test.YtialngdffhmobaaGreatDoorV32
import Derived.Test.YtialngdffhmobaaGreatDoorV26
import Derived.Test.YtialngdffhmobaaGreatDoorV04
import Derived.Test.YtialngdffhmobaaGreatDoorV00
set_option linter.unusedVariables false
set_option linter.unusedSimpArgs false
set_option maxHeartbeats 16000000
set_option maxRecDepth 1000000
namespace Go.Proofs.YtialngdffhmobaaGreatDoor
section
open Go.RowKit
theorem Jo{x:Hh}{h:Hk}{w:World}(H:lS w x h):Calls Tryz.prog 184 #[.agg (au h x).toArray] w fun e w'=>ay (¬dN h) e∧Below w.heap.size w w':=by
 have HH:=hide (H.below (bg w (.cells (au h x).toArray 94)));clear H;go_enter Tryz.func184,Tryz.ntmps184
 go_wp2_with(go_at_call 35;(with_reducible refine(IY HH.out.r).mono ?_);rintro e1 w1 ⟨⟨b,rfl,hb⟩,hB⟩;have Hb:=hide hb;have HB1:=hide hB;clear hb hB)
 go_ret;refine⟨ay.mk ?_,aQ (bg _ _) HB1.out⟩;rw[←Hb.out];cases b<;>simp
structure nY(w:World)(g:Nat)(p q:Hk)(x y:Hh):Prop where
 c:w.rangeAt g 0 (au p x++au q y)
 p:lS w x p
 q:lS w y q
theorem nY.below{w w':World}{g:Nat}{p q:Hk}{x y:Hh}(h:nY w g p q x y)(hB:Below w.heap.size w w'):nY w' g p q x y :=
 ⟨fun j v hv=>(hB.cell (p:=⟨g,0+j,none⟩) (block_lt_of_cell (h.c j v hv))).trans (h.c j v hv),h.p.below hB,h.q.below hB⟩
theorem Ny{g c:Nat}{p q:Hk}{x y:Hh}{w:World}(H:nY w g p q x y):
  Calls Tryz.prog 221 #[.slice (some ⟨g,0,none⟩) 2 c,.func (.func 184) #[] #[]] w fun e w'=>(∃n:Int,e = .returned (.int .i64 n)∧(0≤n↔¬(dN p∧dN q))∧-1≤n)∧Below w.heap.size w w':=by
 have HH:=hide H;clear H;go_enter Tryz.func221,Tryz.ntmps221
 go_wp2_with fail
 go_loopw [8] (fun i wr=>∃j:Nat,i = .int .i64 j∧j≤2∧Hid (1≤j→dN p)∧Hid (2≤j→dN q)∧Hid (Below w.heap.size w wr)) (fun i _=>2-(intOf i).toNat)
 case atStart=>exact⟨0,rfl,by omega,hide (by omega),hide (by omega),hide (Below.refl _ _)⟩
 case round =>
  obtain⟨j,rfl,hj,H1,H2,HB⟩:=hrel;have HR:=hide (HH.out.below HB.out);by_cases h0:j=0
  ·subst h0;have c0:=HR.out.c 0 _ rfl;have c1:=HR.out.c 1 _ rfl;have c2:=HR.out.c 2 _ rfl
   go_wp2_with(go_at_call 184;(with_reducible refine(Jo HR.out.p).mono ?_);rintro e1 w1 ⟨⟨b,rfl,hb⟩,hB⟩;have Hb:=hide hb;have HB1:=hide (aQ HB.out hB);clear hb hB)
   case _ =>
    rename_i hb;go_ret;exact⟨⟨0,rfl,⟨fun _ h=>(Hb.out.mp hb) h.1,fun _=>by omega⟩,by omega⟩,HB1.out⟩
   case _ =>
    rename_i hb;have hp:dN p:=Classical.byContradiction fun hn=>by have:=Hb.out.mpr hn;rw[hb]at this;cases this
    exact⟨⟨1,rfl,by omega,hide fun _=>hp,hide (by omega),HB1⟩,by simp[intOf]⟩
  ·by_cases h1:j=1
   ·subst h1;have c0:=HR.out.c 3 _ rfl;have c1:=HR.out.c 4 _ rfl;have c2:=HR.out.c 5 _ rfl;simp only[Nat.zero_add]at c0 c1 c2;have hp:=H1.out (by omega)
    go_wp2_with(go_at_call 184;(with_reducible refine(Jo HR.out.q).mono ?_);rintro e1 w1 ⟨⟨b,rfl,hb⟩,hB⟩;have Hb:=hide hb;have HB1:=hide (aQ HB.out hB);clear hb hB)
    case _ =>
     rename_i hb;go_ret;exact⟨⟨1,rfl,⟨fun _ h=>(Hb.out.mp hb) h.2,fun _=>by omega⟩,by omega⟩,HB1.out⟩
    case _ =>
     rename_i hb;have hq:dN q:=Classical.byContradiction fun hn=>by have:=Hb.out.mpr hn;rw[hb]at this;cases this
     exact⟨⟨2,rfl,by omega,hide fun _=>hp,hide fun _=>hq,HB1⟩,by simp[intOf]⟩
   ·have h2:j=2:=by omega
    subst h2;have hp:=H1.out (by omega);have hq:=H2.out (by omega)
    go_wp2_with fail
    go_ret;exact⟨⟨-1,rfl,⟨fun h=>by omega,fun h=>absurd ⟨hp,hq⟩ h⟩,by omega⟩,HB.out⟩
theorem Nz{g c:Nat}{p q:Hk}{x y:Hh}{w:World}(H:nY w g p q x y):
  Calls Tryz.prog 183 #[.slice (some ⟨g,0,none⟩) 2 c,.func (.func 184) #[] #[]] w fun e w'=>ay (¬(dN p∧dN q)) e∧Below w.heap.size w w':=by
 have HH:=hide H;clear H;go_enter Tryz.func183,Tryz.ntmps183
 go_wp2_with(go_at_call 221;(with_reducible refine(Ny HH.out).mono ?_);rintro e1 w1 ⟨⟨n,rfl,hn,hn2⟩,hB⟩;have Hn:=hide hn;have HB1:=hide hB;clear hn hB)
 go_ret;exact⟨ay.mk (by rw[←Hn.out];simp),HB1.out⟩
theorem E5{g c:Nat}{p q:Hk}{x y:Hh}{w:World}(H:nY w g p q x y):
  Calls Tryz.prog 121 #[.slice (some ⟨g,0,none⟩) 2 c] w fun e w'=>ay (dN p∧dN q) e∧Below w.heap.size w w':=by
 have HH:=hide H;clear H;go_enter Tryz.func121,Tryz.ntmps121
 go_wp2_with(go_at_call 183;(with_reducible refine(Nz HH.out).mono ?_);rintro e1 w1 ⟨⟨b,rfl,hb⟩,hB⟩;have Hb:=hide hb;have HB1:=hide hB;clear hb hB)
 go_ret;refine⟨ay.mk ?_,HB1.out⟩;have h1:=Hb.out;cases b
 ·simp only[Bool.not_false,true_iff];exact Classical.byContradiction fun h=>by have:=h1.mpr h;cases this
 ·simp only[Bool.not_true,Bool.false_eq_true,false_iff];exact h1.mp rfl
theorem DC :∀f:Fo,f.cnt≤(fC f).length
 | .nil=>by simp[Fo.cnt]
 | .cons k t n ks r=>by
  have h1:=DC ks;have h2:=DC r;simp only[Fo.cnt,fC,List.length_cons,aJ];omega
theorem NC{zs:List (List UInt8)}{x:List UInt8}:x∈Lib.compact zs↔x∈zs:=by
 unfold Lib.compact Lib.compactUpTo;simp only[List.mem_map,List.mem_filter,List.mem_range];constructor
 ·rintro⟨j,⟨hj,_⟩,rfl⟩;have:zs.toArray[j]! = zs[j]:=by simp[getElem!_pos,hj]
  rw[this];exact List.getElem_mem hj
 ·intro hx;obtain⟨j,hj,rfl⟩:=List.getElem_of_mem hx;clear hx
  induction j with
  | zero=>exact⟨0,⟨hj,by simp[Lib.keeps]⟩,by simp[getElem!_pos,hj]⟩
  | succ j ih =>
   by_cases hk:Lib.keeps zs.toArray (j+1)=true
   ·exact⟨j+1,⟨hj,hk⟩,by simp[getElem!_pos,hj]⟩
   ·obtain⟨i,h1,h2⟩:=ih (by omega);refine⟨i,h1,h2.trans ?_⟩;simp[Lib.keeps,getElem!_pos,hj,show j<zs.length by omega]at hk;exact hk.symm
theorem qB(l:List ByteArray):(l.map Value.string)=(l.map (·.data.toList)).map encStr:=(Lib.map_encStr l).symm
open Go.Sort in
theorem sW{w:World}{g cap:Nat}{ss:List (List UInt8)}(h:w.ownsRow 0 9 1 (.slice (some ⟨g,0,none⟩) ss.length cap) ss.length (ss.map encStr))(h0:ss≠[])(hs:ss.length<4611686018427387904):
  Calls Tryz.prog 255 #[.slice (some ⟨g,0,none⟩) ss.length cap] w fun e w'=>e = .returned (.tuple #[])∧∃ts:List (List UInt8),ts.length=ss.length∧(∀x,x∈ts↔x∈ss)∧w'.ownsRow 0 9 1 (.slice (some ⟨g,0,none⟩) ss.length cap) ss.length (ts.map encStr)∧w.grownBy w' (some g):=by
 obtain⟨g',cap',e0,hg0,hgl,hn,hm,hl,hH⟩:=Lib.holds_of_ownsRow h (by intro e;cases e);injection e0 with e1 _ e3;injection e1 with e1;injection e1 with e1;subst e1 e3;refine(Tryz.slices_Sort_string g 0 cap ss w hH hgl hs).mono ?_;rintro e w' ⟨rfl,n,os,rfl⟩;refine⟨rfl,ss.mergeSort fun x y=>decide (x≤y),by simp,fun x=>by simp,?_,grownBy_sorted _⟩;rcases h.2 with⟨e0,_⟩|⟨g',cap',cur,e0,hb,hg,hn,hm,hs,ht⟩
 ·cases e0
 ·injection e0 with e1 _ e3;injection e1 with e1;injection e1 with e1;subst e1 e3;exact ownsRow_sorted (by simp) hb hg hn hm hs
open Go.Sort in
theorem ND{w:World}{g cap n:Nat}{ss:List (List UInt8)}(h:w.ownsRow 0 9 1 (.slice (some ⟨g,0,none⟩) n cap) n (ss.map encStr))(hn:ss.length=n)(h1:n≤4611686018427387904):
  Calls Tryz.prog 256 #[.slice (some ⟨g,0,none⟩) n cap] w fun e w'=>(∃ts:List (List UInt8),e = .returned (.slice (some ⟨g,0,none⟩) ts.length cap)∧ts.length≤n∧(∀x,x∈ts↔x∈ss)∧w'.ownsRow 0 9 1 (.slice (some ⟨g,0,none⟩) ts.length cap) ts.length (ts.map encStr))∧w.grownBy w' (some g):=by
 obtain⟨g',cap',e0,hg0,hgl,hnc,hm,hl,hH⟩:=Lib.holds_of_ownsRow h (by intro e;cases e);injection e0 with e1 _ e3;injection e1 with e1;injection e1 with e1;subst e1 e3;have hc:=Tryz.slices_Compact_string g 0 cap ss w hH (by omega) (by omega);rw[hn]at hc;refine hc.mono ?_;rintro e w' ⟨rfl,q,rfl⟩;have hle:(Lib.compact ss).length≤ss.length:=by
  unfold Lib.compact Lib.compactUpTo;rw[List.length_map];exact aI (List.length_filter_le _ _) (by simp)
 refine⟨⟨Lib.compact ss,rfl,by omega,fun x=>NC,?_⟩,by have:=grownBy_sorted (w:=w) (g:=g) (n:=q) (os:=#[]) (Lib.compact ss++List.replicate (n-(Lib.compact ss).length) []).toArray;rwa [grow_empty]at this⟩;have:=Lib.ownsRow_putRow (q:=q) (k:=(Lib.compact ss).length) (ys:=Lib.compact ss++List.replicate (n-(Lib.compact ss).length) []) h (by simp;omega) (by omega)
 rwa [List.take_left']at this
 rfl
theorem qC(w:World):iK 253 #[.pointer (some ⟨w.heap.size,0,none⟩)] Any w (kV w w.heap.size) fP where
 en:=enters_of Tryz.func253 (by kernel_rfl) rfl
 lt:=by
  rintro m st D W ⟨v,hr,hb⟩ b hbD;rw[hr.d]at hbD;rcases List.mem_cons.1 hbD with rfl|h
  ·exact hb.lt
  ·exact(hr.own.lt b (gy.1 h)).2
 below:=by rintro m st D W ⟨v,hr,hb⟩ b _ hb2;exact hr.below.block b hb2
 keep:=by rintro m st D W W' ⟨v,hr,hb⟩ hB;exact⟨v,hr.keep hB,hb.call hB⟩
 ca:=fun k t n A l c hJ hk ht=>vP hJ hk ht
def sZ(l0:List ByteArray)(w:World)(e:Ending)(w':World):Prop:=(∃A c l,e = .returned (.slice A l.length c)∧bU (fun b=>w.heap.size≤b) w' A l∧l.length≤c∧(∀s,s∈l↔s∈l0))∧Below w.heap.size w w'
theorem NF{w:World}{A:Option Addr}{f:Fo}{c:Nat}(h:bu Any w A f)(hc:f.len≤c)(hc2:c≤9223372036854775807)(hb:(fC f).length≤274877906944):
  Calls Tryz.prog 223 #[.slice A f.len c] w fun e w'=>sZ f.names w e w':=by
 have hcnt:=DC f;have hmf:=hmf;have hX:=Bx.new w [.slice none 0 0] 23;have hJ0:kV w w.heap.size (f.cnt+0) [] [w.heap.size] (w.alloc (.cells #[.slice none 0 0] 23)):=
  ⟨.slice none 0 0,⟨rfl,World.ownsRow_nil _ _ _ _,by simp[ob,Value.ownBlock],fun b hb=>by rw[List.mem_singleton]at hb;omega,bg _ _,by simp;omega,by simp⟩,hX⟩
 have HE:=hide (MI (qC w) h hc hc2 (by omega) hJ0);clear h hcnt hX hJ0;go_enter Tryz.func223,Tryz.ntmps223
 go_upto_region 2 with fail
 refine wp_region_lit ?_;refine sk ?_;refine sk ?_;refine gc HE.out ?_;rintro e1 w1 ⟨rfl,D,⟨v,hr,hbx⟩,hT⟩;refine⟨_,rfl,?_⟩;rw[EW,List.nil_append]at hr;have HR:=hide hr;have HX:=hide hbx;clear hr hbx hT HE;refine wpList_nil ?_;rename_i hK;refine hK _ _ ?_;clear hK;have k0:=HX.out.cell 0;have hlen:=HR.out.len;have hvs:v.ownBlock=some w.heap.size→False:=fun e=>HR.out.nb (gy.2 e);have NG:=hide hvs;clear hvs;rcases hn:f.names with _|⟨s0,l0⟩
 ·have ho:=HR.out.own;rw[hn]at ho;obtain⟨A1,c1,rfl⟩:=lG ho;have HN:=hide hn;clear hn ho
  go_wp2_with(first
   | (go_at_call 255;(with_reducible refine(Tryz.slices_Sort_string_none A1 c1 _).mono ?_);rintro e2 w2 ⟨rfl,rfl⟩)
   | (go_at_call 256;(with_reducible refine(Tryz.slices_Compact_string_empty A1 c1 _).mono ?_);rintro e3 w3 ⟨rfl,rfl⟩))
  go_ret;exact⟨⟨_,_,[],rfl,⟨.inl rfl,by simp,by simp⟩,Nat.zero_le _,by rw[HN.out];simp⟩,HR.out.below⟩
 ·have ho:=HR.out.own;rw[qB]at ho;have hl:(f.names.map (·.data.toList)).length=f.names.length:=by simp
  rw[←hl]at ho;obtain⟨g,cap,e0,hg0,hgl,hncap,hcm,hzl,hH⟩:=Lib.holds_of_ownsRow ho (by
   intro e;subst e;rcases ho.2 with⟨_,h0⟩|⟨_,_,_,h0,_⟩
   ·rw[hn]at h0;simp at h0
   ·cases h0)
  subst e0;have hso:=sW ho (by rw[hn];simp) (by rw[hl];omega);have hgw:w.heap.size≤g:=HR.out.ge g (by rw[HR.out.d];simp[ob,Value.ownBlock]);have hgn:g≠w.heap.size:=fun e=>NG.out (by rw[e];rfl);have NH:=hide hso;have E8:=hide hgw;have HL:=hide hl;have hnl:(f.names.map (·.data.toList)).length≤4611686018427387904:=by rw[hl];omega
  have Hnl:=hide hnl;have NI:=hide HR.out.sz;have HB1:=hide HR.out.below;have Jp :∀w2,w1.grownBy w2 (some g)→w2.cell? ⟨w.heap.size,0,none⟩=some (.slice (some ⟨g,0,none⟩) (f.names.map (·.data.toList)).length cap):=fun w2 hgr=>(HX.out.grown hgr (Ne.symm hgn)).cell 0;have NJ:=hide Jp;clear hn ho hl hH hso hgw hzl hcm hncap hg0 HR hgn Jp hnl;generalize (f.names.map (·.data.toList)).length=nn at *
  go_wp2_with(first
   | (go_at_call 255;(with_reducible refine NH.out.mono ?_);rintro e2 w2 ⟨rfl,ts,hts,hmem,hown,hgr⟩;have k2:=NJ.out w2 hgr;have vM:=hide hown;have HG2:=hide hgr;have NK:=hide hts;have xm:=hide hmem;clear hown hgr hts hmem)
   | (go_at_call 256;(with_reducible refine(ND vM.out NK.out Hnl.out).mono ?_);rintro e3 w3 ⟨⟨us,rfl,Jq,Jr,Js⟩,BG⟩;have NL:=hide Js;have xn:=hide BG;have NM:=hide Jr;have NP:=hide Jq;clear Js BG Jr Jq))
  go_ret;have NQ:Below w.heap.size w w3:=(HB1.out.grown HG2.out HB1.out.size (by intro k hk;cases hk;exact E8.out)).grown xn.out (aI HB1.out.size HG2.out.size) (by intro k hk;cases hk;exact E8.out);have hmm :∀x,x∈us↔x∈f.names.map (·.data.toList):=fun x=>(NM.out x).trans (xm.out x);have hback:(us.map fun b=>(⟨b.toArray⟩:ByteArray)).map Value.string=us.map encStr:=by
   rw[List.map_map];rfl
  have hlen2:(us.map fun b=>(⟨b.toArray⟩:ByteArray)).length=us.length:=by simp
  obtain⟨A',c',e1,hrd,hlc,_⟩:=nH (S:=fun b=>w.heap.size≤b) NL.out (fun b hb=>by have e:some g=some b:=hb;injection e with e;rw[←e];exact E8.out);injection e1 with e1 _ e3;subst e1 e3;refine⟨⟨_,_,us.map fun b=>(⟨b.toArray⟩:ByteArray),by rw[hlen2];rfl,⟨by rw[hback];exact hrd,fun s hs=>?_,by rw[hlen2];have:=NP.out;have:=Hnl.out;omega⟩,by rw[hlen2];exact hlc,fun s=>?_⟩,NQ⟩
  ·obtain⟨b,hb,rfl⟩:=List.mem_map.1 hs;obtain⟨s',hs',rfl⟩:=List.mem_map.1 ((hmm b).1 hb);have:=NI.out s' hs';have e:(⟨s'.data.toList.toArray⟩:ByteArray)=s':=by simp
   rw[e];omega
  ·rw[List.mem_map];constructor
   ·rintro⟨b,hb,rfl⟩;obtain⟨s',hs',rfl⟩:=List.mem_map.1 ((hmm b).1 hb)
    simpa using hs'
   ·intro hs;exact⟨s.data.toList,(hmm _).2 (List.mem_map.2 ⟨s,hs,rfl⟩),by simp⟩
end
section
open Go.RowKit Go.ChangeShapes Go.WideShapes
theorem Fa(t:ByteArray):t.data.toList.length=t.size:=rfl
theorem xq{α:Type}{l:List α}(h:l.length=3):∃a0 a1 a2,l=[a0,a1,a2]:=by
 match l,h with
 | [a0,a1,a2],_=>exact⟨a0,a1,a2,rfl⟩
theorem list4{α:Type}{l:List α}(h:l.length=4):∃a0 a1 a2 a3,l=[a0,a1,a2,a3]:=by
 match l,h with
 | [a0,a1,a2,a3],_=>exact⟨a0,a1,a2,a3,rfl⟩
theorem BH{α:Type}{l:List α}(h:l.length=5):∃a0 a1 a2 a3 a4,l=[a0,a1,a2,a3,a4]:=by
 match l,h with
 | [a0,a1,a2,a3,a4],_=>exact⟨a0,a1,a2,a3,a4,rfl⟩
theorem xu{α:Type}{l:List α}(h:l.length=8):∃a0 a1 a2 a3 a4 a5 a6 a7,l=[a0,a1,a2,a3,a4,a5,a6,a7]:=by
 match l,h with
 | [a0,a1,a2,a3,a4,a5,a6,a7],_=>exact⟨a0,a1,a2,a3,a4,a5,a6,a7,rfl⟩
theorem yL{α:Type}{l:List α}(h:l.length=14):∃a0 a1 a2 a3 a4 a5 a6 a7 a8 a9 a10 a11 a12 Fb,l=[a0,a1,a2,a3,a4,a5,a6,a7,a8,a9,a10,a11,a12,Fb]:=by
 match l,h with
 | [a0,a1,a2,a3,a4,a5,a6,a7,a8,a9,a10,a11,a12,Fb],_=>exact⟨a0,a1,a2,a3,a4,a5,a6,a7,a8,a9,a10,a11,a12,Fb,rfl⟩
theorem tq:Tryz.prog.cellsOf 152=4:=by kernel_rfl
theorem Fe:Tryz.prog.cellsOf 150=1:=by kernel_rfl
theorem kX:Tryz.prog.cellsOf 9=1:=by kernel_rfl
theorem BI:Tryz.prog.cellsOf 2=1:=by kernel_rfl
theorem o9:Tryz.prog.cellsOf 3=1:=by kernel_rfl
theorem Ff:Tryz.prog.cellsOf 28=1:=by kernel_rfl
theorem tu:Tryz.prog.cellsOf 23=1:=by kernel_rfl
theorem yM:Tryz.prog.cellsOf 27=1:=by kernel_rfl
theorem Fg:Tryz.prog.cellsOf 26=1:=by kernel_rfl
theorem Fh:Tryz.prog.cellsOf 22=1:=by kernel_rfl
theorem tC:Tryz.prog.cellsOf 25=3:=by kernel_rfl
theorem tH:Tryz.prog.cellsOf 30=8:=by kernel_rfl
theorem vS:Tryz.prog.cellsOf 32=14:=by kernel_rfl
theorem Fj:Tryz.prog.cellsOf 5=1:=by kernel_rfl
theorem Fp:Tryz.prog.underlying 150=some (.int .u8):=by kernel_rfl
theorem Fq:Tryz.prog.underlying 26=some (.int .u8):=by kernel_rfl
theorem Fv:Tryz.prog.underlying 22=some (.int .u8):=by kernel_rfl
theorem kY:Tryz.prog.underlying 9=some .string:=by kernel_rfl
theorem BJ:Tryz.prog.underlying 2=some (.int .i64):=by kernel_rfl
theorem pg:Tryz.prog.underlying 3=some (.int .i64):=by kernel_rfl
theorem Fz:Tryz.prog.underlying 5=some (.int .u8):=by kernel_rfl
theorem vT:Tryz.prog.underlying 28=some (.slice 152):=by kernel_rfl
theorem tJ:Tryz.prog.underlying 23=some (.slice 9):=by kernel_rfl
theorem yN:Tryz.prog.underlying 27=some (.slice 3):=by kernel_rfl
section
variable {H : Type} {enc : TypeId × Value → H} {w : World} {spare : Nat → Bool} {held : Bool}
def tK(w:World)(cs:List Value)(x:DataW H×List MemPlace):Prop :=
 ∃A f c,cs=[.slice A f.len c]∧bu (fun _=>True) w A f∧f.len≤c∧c≤9223372036854775807∧(jg f).length≤40*Rows.uptoBulk x.1
theorem FB(f:Fo):(jg f).length=8+(fC f).length:=by
 have h8 :∀n:Int,(iq n).length=8:=fun n=>rfl;simp only[jg,aJ,h8]
theorem tN(k:Nat)(t:ByteArray)(n:Int)(ks r:Fo):(fC (.cons k t n ks r)).length=25+t.size+(fC ks).length+(fC r).length:=by
 have h8 :∀n:Int,(iq n).length=8:=fun n=>rfl;have hs:t.data.toList.length=t.size:=rfl;simp only[fC,jS,List.length_cons,aJ,h8,hs];omega
theorem pz{m:Nat}(ih :∀m',m'<m→∀{cs:List Value} {x:DataW H×List MemPlace},DataW.trod enc Tryz.prog w 0 spare held m' 28 cs=some x→tK w cs x)
  {cs:List Value} {x:DataW H×List MemPlace} (h:DataW.trod enc Tryz.prog w 0 spare held m 152 cs=some x):
  ∃k t n KA f c,cs=[.int .u8 (k:Nat),.string t,.int .i64 n,.slice KA f.len c]∧k<256∧t.size≤9223372036854775807∧aU n∧f.len≤c∧c≤9223372036854775807∧
   bu (fun _=>True) w KA f∧25+t.size+(fC f).length≤40*Rows.uptoBulk x.1:=by
 obtain⟨xs,n,rfl,rfl,hl,hlen,hf⟩:=DataW.trod_struct Tryz.underlying152 h;rw[tq]at hl;obtain⟨c0,c1,c2,c3,rfl⟩:=list4 hl;obtain⟨y0,y1,y2,y3,rfl⟩:=list4 hlen;have f0:DataW.trod enc Tryz.prog w 0 spare held n 150 (List.take (Tryz.prog.cellsOf 150) (List.drop 0 [c0,c1,c2,c3]))=some y0:=hf 0 _ rfl;rw[Fe]at f0;have f0:DataW.trod enc Tryz.prog w 0 spare held n 150 [c0]=some y0:=f0;have f1:DataW.trod enc Tryz.prog w 0 spare held n 9 (List.take (Tryz.prog.cellsOf 9) (List.drop 1 [c0,c1,c2,c3]))=some y1:=hf 1 _ rfl;rw[kX]at f1;have f1:DataW.trod enc Tryz.prog w 0 spare held n 9 [c1]=some y1:=f1;have f2:DataW.trod enc Tryz.prog w 0 spare held n 2 (List.take (Tryz.prog.cellsOf 2) (List.drop 2 [c0,c1,c2,c3]))=some y2:=hf 2 _ rfl;rw[BI]at f2;have f2:DataW.trod enc Tryz.prog w 0 spare held n 2 [c2]=some y2:=f2;have f3:DataW.trod enc Tryz.prog w 0 spare held n 28 (List.take (Tryz.prog.cellsOf 28) (List.drop 3 [c0,c1,c2,c3]))=some y3:=hf 3 _ rfl;rw[Ff]at f3;have f3:DataW.trod enc Tryz.prog w 0 spare held n 28 [c3]=some y3:=f3;obtain⟨k,e0,hx0,w0⟩:=DataW.trod_int Fp f0;obtain⟨t,e1,hx1,w1⟩:=DataW.trod_string kY f1;obtain⟨i,e2,hx2,w2⟩:=DataW.trod_int BJ f2;obtain⟨KA,f,c,e3,hin,hc,hc2,hB⟩:=ih n (Nat.lt_succ_self n) f3;obtain⟨k',rfl,hk⟩:=wf_u8 w0;injection e0 with e0;injection e1 with e1;injection e2 with e2;injection e3 with e3;subst e0 e1 e2 e3 hx0 hx1 hx2;refine⟨k',t,i,KA,f,c,rfl,hk,mQ w1,AB w2,hc,hc2,hin,?_⟩;rw[FB]at hB;have h1:=wR (H:=H) (.lit (.int .u8 (k':Int)));have h2:=wR (H:=H) (.lit (.int .i64 i));simp only[List.map_cons,List.map_nil,Rows.uptoBulk,Rows.uptoBulkAll,Fa]at h1 h2⊢;omega
theorem xw :∀(m:Nat) {cs:List Value} {x:DataW H×List MemPlace},DataW.trod enc Tryz.prog w 0 spare held m 28 cs=some x→tK w cs x:=by
 intro m
 induction m using Nat.strongRecOn with
 | ind m ih =>
  intro cs x h;have h8 :∀n:Int,(iq n).length=8:=fun n=>rfl;rcases DataW.trod_slice vT h with⟨rfl,rfl⟩|⟨a,len,cap,elems,rest,n,rfl,rfl,rfl,hb,hl,hm,hlen,hel,_,_⟩
  ·exact⟨none,.nil,0,rfl,trivial,aC _,by omega,by simp[jg,fC,h8,Rows.uptoBulk]⟩
  ·simp only[tq]at hel;have key :∀i,i<len→∃cs' y,elems[i]?=some y∧w.cells? 0 (a.add (i*4)) 4=some cs'∧DataW.trod enc Tryz.prog w 0 spare held n 152 cs'=some y:=by
    intro i hi;have h1:=hel i hi;rw[List.getElem?_eq_getElem (by omega)]at h1;obtain⟨cs',h2,h3⟩:=Option.bind_eq_some_iff.1 h1;exact⟨cs',_,List.getElem?_eq_getElem (by omega),h2,h3⟩
   have hcap:=mQ hm;by_cases h0:len=0
   ·subst h0;have:elems=[]:=List.eq_nil_of_length_eq_zero hlen;subst this;exact⟨some a,.nil,cap,rfl,trivial,Nat.zero_le _,hcap,by have:=wR (H:=H) (.slice (List.map (·.1) ([]:List (DataW H×List MemPlace))) (rest.map (·.1)));simp only[jg,fC,aJ,h8,List.length_nil]at this⊢;omega⟩
   ·obtain⟨b,o,rfl⟩:∃b o,a=⟨b,o,none⟩:=by
     obtain⟨cs',y,_,h2,h3⟩:=key 0 (by omega);obtain⟨k,t,nn,KA,f,c,rfl,_⟩:=pz (fun m' hm'=>ih m' (by omega)) h3;obtain⟨_,_,hc⟩:=World.cells?_some h2;have hc0:=hc 0 (by omega);obtain⟨b,o,sp⟩:=a;cases sp with
     | none=>exact⟨b,o,rfl⟩
     | some q=>exfalso;simp[Addr.add]at hc0;unfold World.cell? at hc0;split at hc0<;>simp at hc0
    have main :∀j,j≤len→∃f:Fo,f.len=j∧bu (fun _=>True) w (some ⟨b,o+(len-j)*4,none⟩) f∧(fC f).length≤40*Rows.uptoBulkAll ((elems.drop (len-j)).map (·.1)):=by
     intro j
     induction j with
     | zero=>intro _;exact⟨.nil,rfl,trivial,by simp[fC]⟩
     | succ j NR =>
      intro hj;obtain⟨r,hr1,hr2,hr3⟩:=NR (by omega);obtain⟨cs',y,hy,h2,h3⟩:=key (len-(j+1)) (by omega);obtain⟨k,t,nn,KA,f,c,rfl,hk,ht,hn,hc,hc2,hin,hB⟩:=pz (fun m' hm'=>ih m' (by omega)) h3;obtain⟨_,_,hcell⟩:=World.cells?_some h2;have g0:=hcell 0 (by omega);have g1:=hcell 1 (by omega);have g2:=hcell 2 (by omega);have g3:=hcell 3 (by omega);rw[Addr.add_lit,Addr.add_lit]at g0 g1 g2 g3;have e4:o+(len-(j+1))*4+4=o+(len-j)*4:=by omega
      refine⟨.cons k t nn f r,by simp[Fo.len,hr1],⟨b,o+(len-(j+1))*4,KA,c,rfl,trivial,by simpa using g0,by simpa using g1,by simpa using g2,by simpa using g3,hk,ht,hn,hc,hc2,hin,by rw[e4];exact hr2⟩,?_⟩;have e5:elems.drop (len-(j+1))=y::elems.drop (len-j):=by
       obtain⟨hlt,rfl⟩:=List.getElem?_eq_some_iff.1 hy;rw[List.drop_eq_getElem_cons hlt,show len-(j+1)+1=len-j by omega]
      rw[e5,tN];simp only[List.map_cons,Rows.uptoBulkAll];omega
    obtain⟨f,h1,h2,h3⟩:=main len (aC _);simp only[Nat.sub_self,Nat.zero_mul,Nat.add_zero,List.drop_zero]at h2 h3;refine⟨some ⟨b,o,none⟩,f,cap,by rw[h1],h2,by omega,hcap,?_⟩;have:=Ej (H:=H) (elems.map (·.1)) (rest.map (·.1));rw[FB];simp only at this⊢;omega
end
end
end Go.Proofs.YtialngdffhmobaaGreatDoor
