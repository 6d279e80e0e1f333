/- Part 20 of what commuteFiles_cardUpto rests on. -/
import Derived.Shelf.Abstract
import Derived.LoopTactic
import Derived.Test.YtialngdffhmobaaGreatDoorV18
import Derived.Test.YtialngdffhmobaaGreatDoorV04
import Derived.Test.YtialngdffhmobaaGreatDoorV03
import Derived.Test.YtialngdffhmobaaGreatDoorV02
import Derived.Test.YtialngdffhmobaaGreatDoorV00
set_option linter.unusedVariables false
set_option linter.unusedSimpArgs false
set_option maxHeartbeats 16000000
set_option maxRecDepth 1000000
namespace Go.Proofs.YtialngdffhmobaaGreatDoor
section
open Go.RowKit
theorem fZ:(Tryz.prog.info? 25).map (·.size)=some 3:=by kernel_rfl
abbrev aj:List Value:=[.int .i64 0,.slice none 0 0,.slice none 0 0]
abbrev Hk.inv(h:Hk):Hk:=⟨h.at_,h.new,h.old⟩
theorem I7(l:List ByteArray):∀u∈l.map Value.string,u.oneCell'=true:=by intro u hu;obtain⟨x,_,rfl⟩:=List.mem_map.1 hu;rfl
theorem mM(w:World)(us zs:List Value)(t u:TypeId):Bx ((w.alloc (.cells us.toArray t)).alloc (.cells zs.toArray u)) w.heap.size us∧Bx ((w.alloc (.cells us.toArray t)).alloc (.cells zs.toArray u)) (w.heap.size+1) zs :=
 ⟨(Bx.new w us t).alloc _,by have:=Bx.new (w.alloc (.cells us.toArray t)) zs u;simpa using this⟩
theorem sH{x:Hh}{h:Hk}{w:World}(H:lS w x h):
  Calls Tryz.prog 181 #[.agg (au h x).toArray] w fun e w'=>(∃y L,e = .returned (.agg (au h.inv y).toArray)∧jM w' y h.inv L∧New w w' L)∧Below w.heap.size w w':=by
 obtain⟨W0,hW0⟩:∃W0,W0=(w.alloc (.cells (au h x).toArray 25)).alloc (.cells aj.toArray 25):=⟨_,rfl⟩;obtain⟨hN0,hR0⟩:=mM w (au h x) aj 25 25;rw[←hW0]at hN0 hR0;have hB0:Below w.heap.size w W0:=by rw[hW0];exact dW _ _
 have HW0:=hide hW0;have eu:=hide hN0.drew;have HR0:=hide hR0.drew;have HB0:=hide hB0.drew;have HH:=hide H;have hs0:W0.heap.size=w.heap.size+2:=by rw[hW0];simp
 clear hW0 hN0 hR0 hB0 H;go_enter Tryz.func181,Tryz.ntmps181
 go_upto_region 1 with fail
 change Code.wp _ _ _ _ ((w.alloc (.cells (au h x).toArray 25)).alloc (.cells aj.toArray 25));rw[←HW0.out];clear HW0;have hS:(fun V:World=>V.cell? ⟨w.heap.size,0,none⟩=some (.int .i64 h.at_)∧V.cell? ⟨w.heap.size,1,none⟩=some (.slice x.oA h.old.length x.oc)∧V.cell? ⟨w.heap.size,2,none⟩=some (.slice x.nA h.new.length x.nc)) W0.drew:=⟨eu.out.cell 0,eu.out.cell 1,eu.out.cell 2⟩;refine wp_region_held_drew (S:=fun V:World=>V.cell? ⟨w.heap.size,0,none⟩=some (.int .i64 h.at_)∧V.cell? ⟨w.heap.size,1,none⟩=some (.slice x.oA h.old.length x.oc)∧V.cell? ⟨w.heap.size,2,none⟩=some (.slice x.nA h.new.length x.nc)) (by kernel_rfl) hS (fun hS0=>?_);have hsz:W0.drew.heap.size=w.heap.size+2:=hs0;generalize W0.drew=D0 at hS0 eu HR0 HB0 hsz⊢;have vK:=hide hsz;clear hS hs0 hsz;refine dI 0 hS0 ?_;refine dI 1 hS0 ?_;refine dI 2 hS0 ?_;refine dI 3 hS0 ?_;refine dI 5 hS0 ?_;refine dI 6 hS0 ?_;refine aP 4 ?_;refine bc (Df (HH.out.r.new.1.below HB0.out) (by simp) (I7 _) HH.out.b.new.2) ?_;rintro e1 w1 ⟨v,rfl,hown,hg,hB⟩;obtain⟨A1,c1,rfl⟩:=lG hown;have dQ:=hide (eu.out.call hB);have HR1:=hide (HR0.out.call hB);have HB1:=hide (aQ HB0.out hB);have zS:=hide hB;have yu:=hide hown;have Dw:=hide hg;have hS1:(fun V:World=>V.cell? ⟨w.heap.size,0,none⟩=some (.int .i64 h.at_)∧V.cell? ⟨w.heap.size,1,none⟩=some (.slice x.oA h.old.length x.oc)∧V.cell? ⟨w.heap.size,2,none⟩=some (.slice x.nA h.new.length x.nc)) w1:=⟨dQ.out.cell 0,dQ.out.cell 1,dQ.out.cell 2⟩;refine⟨_,rfl,⟨hS1,?_⟩⟩;clear hB hown hg;refine aP 7 ?_;refine bc (Df (HH.out.r.old.1.below HB1.out) (by simp) (I7 _) HH.out.b.old.2) ?_;rintro e2 w2 ⟨v2,rfl,hown,hg,hB⟩;obtain⟨A2,c2,rfl⟩:=lG hown;have fV:=hide (dQ.out.call hB);have HR2:=hide (HR1.out.call hB);have HB2:=hide (aQ HB1.out hB);have Ba:=hide hB;have vM:=hide hown;have HG2:=hide hg;have hS2:(fun V:World=>V.cell? ⟨w.heap.size,0,none⟩=some (.int .i64 h.at_)∧V.cell? ⟨w.heap.size,1,none⟩=some (.slice x.oA h.old.length x.oc)∧V.cell? ⟨w.heap.size,2,none⟩=some (.slice x.nA h.new.length x.nc)) w2:=⟨fV.out.cell 0,fV.out.cell 1,fV.out.cell 2⟩;refine⟨_,rfl,⟨hS2,?_⟩⟩;clear hB hown hg;refine dI 8 hS2 ?_;refine aP 9 ?_;refine bm (cells:=(au h.inv ⟨A1,c1,A2,c2⟩).toArray) ?_ (HR2.out.th (o:=0) (by simp)) fZ (jB _ _);have HR3:=hide (HR2.out.puts 0 (au h.inv ⟨A1,c1,A2,c2⟩) (au h.inv ⟨A1,c1,A2,c2⟩) (by simp));have fU:=hide (fV.out.off (M:=w.heap.size+1) (by omega) 0 (au h.inv ⟨A1,c1,A2,c2⟩));refine⟨⟨fU.out.cell 0,fU.out.cell 1,fU.out.cell 2⟩,?_⟩;refine wpAnyH_done (by kernel_rfl) ?_ _;rename_i hK;refine hK _ _ ?_;clear hK;refine wp_ret ?_;obtain⟨hO,hN⟩:=jM.two (w:=w) (h:=h.inv) yu.out Dw.out vM.out HG2.out (by have:=vK.out;omega) Ba.out zS.out.size;have hne :∀b∈ob (.slice A1 h.inv.old.length c1)++ob (.slice A2 h.inv.new.length c2),b≠w.heap.size+1:=fun b hb e=>by
  have hz:=vK.out;rcases List.mem_append.1 hb with hb|hb
  ·have:=Dw.out b (gy.1 hb);omega
  ·have:=HG2.out b (gy.1 hb);have:=zS.out.size;omega
 exact bodyPost_ret (v:= .agg (au h.inv ⟨A1,c1,A2,c2⟩).toArray) (nJ Tryz.results181 HR3.out.c Tryz.underlying25 fZ) rfl ⟨⟨_,_,rfl,hO.keep (jU hne),hN.up (by rw[dU];exact aC _)⟩,dK (by omega) _ _ HB2.out⟩
def Fo.fold{σ:Type}(step:σ→Nat→ByteArray→σ):σ→Fo→σ
 | st,.nil=>st
 | st,.cons k t _ ks r=>Fo.fold step (Fo.fold step (step st k t) ks) r
theorem Fo.fold_app{σ:Type}(step:σ→Nat→ByteArray→σ):∀(f g:Fo) (st:σ),(f.app g).fold step st=g.fold step (f.fold step st)
 | .nil,_,_=>rfl
 | .cons k t n ks r,g,st=>by simp only[Fo.app,Fo.fold];exact Fo.fold_app step r g _
theorem Fo.fold_next{σ:Type}(step:σ→Nat→ByteArray→σ){f:Fo}{i k:Nat}{t:ByteArray}{n:Int}{ks r:Fo}(h:f.drop i = .cons k t n ks r)(st:σ):(f.take (i+1)).fold step st=ks.fold step (step ((f.take i).fold step st) k t):=by
 rw[Fo.take_next h,Fo.fold_app];rfl
theorem Fo.fold_zero{σ:Type}(step:σ→Nat→ByteArray→σ)(f:Fo)(st:σ):(f.take 0).fold step st=st:=by cases f<;>rfl
theorem I8 :∀{f:Fo} {i k:Nat} {t:ByteArray} {n:Int} {ks r:Fo},f.drop i = .cons k t n ks r→t.size≤(fC f).length:=by
 intro f
 induction f with
 | nil=>intro i k t n ks r h;cases i<;>cases h
 | cons k' t' n' ks' r' _ ih =>
  intro i k t n ks r h;cases i with
  | zero=>cases h;have hz:t'.data.toList.length=t'.size:=Array.length_toList;simp[fC,jS];omega
  | succ i=>have:=ih (i:=i) h;simp[fC];omega
structure Touch(D D':List Nat)(W W':World):Prop where
 size:W.heap.size≤W'.heap.size
 block :∀b,b<W.heap.size→b∉D→W'.heap[b]?=W.heap[b]?
 own :∀b∈D',b∈D∨W.heap.size≤b
theorem Touch.refl(D:List Nat)(W:World):Touch D D W W:=⟨aC _,fun _ _ _=>rfl,fun _ h=> .inl h⟩
theorem Touch.trans{D D' wZ:List Nat}{W W' W'':World}(h:Touch D D' W W')(h':Touch D' wZ W' W''):Touch D wZ W W'' :=
 ⟨aI h.size h'.size,fun b hb hD=>(h'.block b (aH hb h.size) (fun hm=>by rcases h.own b hm with h1|h1;exact hD h1;omega)).trans (h.block b hb hD),fun b hb=>by
  rcases h'.own b hb with h1|h1
  ·exact h.own b h1
  ·exact .inr (aI h.size h1)⟩
theorem Touch.below{D:List Nat}{W W':World}(hB:Below W.heap.size W W'):Touch D D W W':=⟨hB.size,fun b hb _=>hB.block b hb,fun _ h=> .inl h⟩
theorem bu.blk{S:Nat→Prop}{w:World}{b:Nat}{o:Nat}{f:Fo}(h:bu S w (some ⟨b,o,none⟩) f)(hl:0<f.len):S b:=by
 cases f with
 | nil=>simp[Fo.len]at hl
 | cons k t n ks r =>
  obtain⟨b',o',KA,c,e,hS,_⟩:=h;injection e with e;injection e with e1;rw[e1];exact hS
structure iK{σ:Type}(f:FuncId)(cs:Array Value)(S:Nat→Prop)(w0:World)(J:Nat→σ→List Nat→World→Prop)(step:σ→Nat→ByteArray→σ):Prop where
 en:Enters Tryz.prog f
 lt :∀{m st D W},J m st D W→∀b∈D,b<W.heap.size
 below :∀{m st D W},J m st D W→∀b,S b→b<w0.heap.size→W.heap[b]?=w0.heap[b]?
 keep :∀{m st D W W'},J m st D W→Below W.heap.size W W'→J m st D W'
 ca :∀{m st D W} (k:Nat) (t:ByteArray) (n:Int) (A:Option Addr) (l c:Nat),J (m+1) st D W→k<256→t.size≤549755813888→Calls Tryz.prog f (#[.agg #[.int .u8 k,.string t,.int .i64 n,.slice A l c]]++cs) W fun e W'=>e = .returned (.tuple #[])∧∃D',J m (step st k t) D' W'∧Touch D D' W W'
abbrev eP(k:Nat)(t:ByteArray)(n:Int)(A:Option Addr)(l c:Nat):List Value:=[.int .u8 k,.string t,.int .i64 n,.slice A l c]
abbrev gW:List Value:=[.int .u8 0,.string ⟨#[]⟩,.int .i64 0,.slice none 0 0]
theorem yw:(Tryz.prog.info? 152).map (·.size)=some 4:=by kernel_rfl
theorem I9(k:Nat)(t:ByteArray)(n:Int)(A:Option Addr)(l c:Nat):(eP k t n A l c).toArray.all (·.oneCell')=true:=all_oneCell_toArray (by
 intro v hv;simp only[List.mem_cons,List.not_mem_nil,or_false]at hv;rcases hv with rfl|rfl|rfl|rfl<;>rfl)
theorem MG{σ:Type}{fn:FuncId}{cs:Array Value}{S:Nat→Prop}{w0:World}{J:Nat→σ→List Nat→World→Prop}{step:σ→Nat→ByteArray→σ}(E:iK fn cs S w0 J step)(f:Fo){A:Option Addr}{c m:Nat}{st:σ}{D:List Nat}{W:World}
  (ih :∀(g:Fo) (A':Option Addr) (c' m':Nat) (st':σ) (D':List Nat) (W':World),g.cnt<f.cnt→bu S w0 A' g→g.len≤c'→c'≤9223372036854775807→(fC g).length≤549755813888→J (g.cnt+m') st' D' W'→
   Calls Tryz.prog 252 #[.func (.func fn) #[] cs,.slice A' g.len c'] W' fun e W''=>e = .returned (.tuple #[])∧∃wZ,J m' (g.fold step st') wZ W''∧Touch D' wZ W' W'')
  (h:bu S w0 A f) (hc:f.len≤c) (hc2:c≤9223372036854775807) (hb:(fC f).length≤549755813888) (hJ:J (f.cnt+m) st D W):
  Calls Tryz.prog 252 #[.func (.func fn) #[] cs,.slice A f.len c] W fun e W'=>e = .returned (.tuple #[])∧∃D',J m (f.fold step st) D' W'∧Touch D D' W W':=by
 have EE:=hide E;have oO:=hide ih;have H:=hide h;have HJ:=hide hJ;have hen :∀(args:Array Value) (W:World),(callFunc fn args).run Tryz.prog W = .ok (.enter fn args) W:=E.en;clear E ih h hJ;go_enter Tryz.func252,Tryz.ntmps252
 go_wp2_with fail
 go_loopw [8] (fun i wr=>∃(j:Nat) (D':List Nat),i = .int .i64 j∧j≤f.len∧Hid (J ((f.drop j).cnt+m) ((f.take j).fold step st) D' wr)∧Hid (Touch D D' W wr)) (fun i _=>f.len-(intOf i).toNat)
 case atStart=>exact⟨0,D,rfl,Nat.zero_le _,by rw[Fo.fold_zero,show f.drop 0=f by cases f<;>rfl];exact HJ,hide (Touch.refl _ _)⟩
 case round =>
  obtain⟨j,D1,rfl,hj,oW,HT1⟩:=hrel;by_cases hlt:j<f.len
  ·obtain⟨b,o,KA,kc,k,t,n,ks,r,rfl,hd,d0,d1,d2,d3,g1,g2,g3,g4,g5,g6,hcnt⟩:=H.out.at_ hlt;have hbl:=H.out.blk (by omega);have hB0:wr.heap[b]?=w0.heap[b]?:=EE.out.below oW.out b hbl (block_lt_of_cell d0);have hrg:wr.rangeAt b (o+j*4) (eP k t n KA ks.len kc):=fun i v hv=>by
    match i,hv with
    | 0,hv=>injection hv with hv;subst hv;exact(World.cell?_of_block (a:=⟨b,o+j*4,none⟩) hB0).trans d0
    | 1,hv=>injection hv with hv;subst hv;exact(World.cell?_of_block (a:=⟨b,o+j*4+1,none⟩) hB0).trans d1
    | 2,hv=>injection hv with hv;subst hv;exact(World.cell?_of_block (a:=⟨b,o+j*4+2,none⟩) hB0).trans d2
    | 3,hv=>injection hv with hv;subst hv;exact(World.cell?_of_block (a:=⟨b,o+j*4+3,none⟩) hB0).trans d3
   have Hd:=hide hd;have Bc:=hide hrg;have HG:=hide g6;clear hd hrg g6 d0 d1 d2 d3 hB0 hbl
   go_upto_region 2 with fail
   refine wp_region_lit ?_;refine sk ?_;refine gl (off:=o+j*4) ?_ Bc.out Tryz.underlying152 yw;refine gw (w':=wr.alloc (.cells gW.toArray 152)) (v:= .pointer (some ⟨wr.heap.size,0,none⟩)) ?_;have hX:=Bx.new wr gW 152;refine gs (cells:=(eP k t n KA ks.len kc).toArray) ?_ (hX.th (o:=0) (by simp)) yw (I9 _ _ _ _ _ _);refine wpList_nil ?_;rename_i hK;refine hK _ _ ?_;clear hK;have HX:=hide (hX.puts 0 (eP k t n KA ks.len kc) (eP k t n KA ks.len kc) (by simp));have HB1:=hide (dK (aC wr.heap.size) (eP k t n KA ks.len kc) 0 (bg wr (.cells gW.toArray 152)));clear hX;change Code.wp _ _ _ _ ((wr.alloc (.cells gW.toArray 152)).setCells wr.heap.size 0 (eP k t n KA ks.len kc));generalize (wr.alloc (.cells gW.toArray 152)).setCells wr.heap.size 0 (eP k t n KA ks.len kc)=W1 at HX HB1⊢
   go_upto_region 3 with fail
   refine wp_region_lit ?_;refine sk ?_;refine gl ?_ HX.out.c Tryz.underlying152 yw;have hcn:(f.drop j).cnt+m=(ks.cnt+(r.cnt+m))+1:=by rw[Hd.out];simp only[Fo.cnt];omega
   rw[hcn]at oW;clear hcn;refine gc (EE.out.ca k t n KA ks.len kc (EE.out.keep oW.out HB1.out) g1 (aI (I8 Hd.out) hb)) ?_;rintro e2 W2 ⟨rfl,D2,hJ2,hT2⟩;refine⟨_,rfl,?_⟩;have hnm:wr.heap.size∉D1:=fun hm=>by have:=EE.out.lt oW.out _ hm;omega
   have vN:=hide (HX.out.keep (hT2.block _ HX.out.lt hnm) hT2.size);have HJ2:=hide hJ2;have HT2:=hide (HT1.out.trans ((Touch.below HB1.out).trans hT2));clear hJ2 hT2 hnm;refine wpList_nil ?_;rename_i hK;refine hK _ _ ?_;clear hK;have k3:=vN.out.cell 3
   go_upto_region 4 with fail
   refine wp_region_lit ?_;refine sk ?_;refine sk ?_;refine sk ?_;refine gc (oO.out ks KA kc (r.cnt+m) _ D2 W2 hcnt HG.out g4 g5 (aI (ED Hd.out) hb) HJ2.out) ?_;rintro e3 W3 ⟨rfl,D3,hJ3,Bd⟩;refine⟨_,rfl,?_⟩;have EP:=hide hJ3;have HT3:=hide (HT2.out.trans Bd);clear hJ3 Bd k3;refine wpList_nil ?_
   go_wp2_with fail
   exact⟨⟨j+1,D3,by go_num,by omega,by rw[Fo.fold_next step Hd.out,Fo.drop_succ Hd.out];exact EP,HT3⟩,by simp[intOf];omega⟩
  ·have hje:j=f.len:=by omega
   have HJ2:Hid (J m (f.fold step st) D1 wr):=by have:=oW;rwa [hje,Fo.take_whole,Fo.drop_len f f.len (aC _),show Fo.nil.cnt+m=m by simp[Fo.cnt]]at this
   go_wp2_with fail
   go_end0
   exact⟨rfl,D1,HJ2.out,HT1.out⟩
theorem MH{σ:Type}{fn:FuncId}{cs:Array Value}{S:Nat→Prop}{w0:World}{J:Nat→σ→List Nat→World→Prop}{step:σ→Nat→ByteArray→σ}(E:iK fn cs S w0 J step)(N:Nat):∀(f:Fo) (A:Option Addr) (c m:Nat) (st:σ) (D:List Nat) (W:World),f.cnt<N→bu S w0 A f→f.len≤c→c≤9223372036854775807→(fC f).length≤549755813888→J (f.cnt+m) st D W→
   Calls Tryz.prog 252 #[.func (.func fn) #[] cs,.slice A f.len c] W fun e W'=>e = .returned (.tuple #[])∧∃D',J m (f.fold step st) D' W'∧Touch D D' W W':=by
 induction N with
 | zero=>intro f A c m st D W h;omega
 | succ N ih=>intro f A c m st D W hN h hc hc2 hb hJ;exact MG E f (fun g A' c' m' st' D' W' hg=>ih g A' c' m' st' D' W' (by omega)) h hc hc2 hb hJ
theorem MI{σ:Type}{fn:FuncId}{cs:Array Value}{S:Nat→Prop}{w0:World}{J:Nat→σ→List Nat→World→Prop}{step:σ→Nat→ByteArray→σ}(E:iK fn cs S w0 J step){f:Fo}{A:Option Addr}{c m:Nat}{st:σ}{D:List Nat}{W:World}(h:bu S w0 A f)(hc:f.len≤c)(hc2:c≤9223372036854775807)(hb:(fC f).length≤549755813888)(hJ:J (f.cnt+m) st D W):
   Calls Tryz.prog 252 #[.func (.func fn) #[] cs,.slice A f.len c] W fun e W'=>e = .returned (.tuple #[])∧∃D',J m (f.fold step st) D' W'∧Touch D D' W W':=MH E (f.cnt+1) f A c m st D W (by omega) h hc hc2 hb hJ
theorem MJ{σ:Type}{fn:FuncId}{cs:Array Value}{S:Nat→Prop}{w0:World}{J:Nat→σ→List Nat→World→Prop}{step:σ→Nat→ByteArray→σ}(E:iK fn cs S w0 J step)(f:Fo){A:Option Addr}{c m:Nat}{st:σ}{D:List Nat}{W:World}
  (ih :∀(g:Fo) (A':Option Addr) (c' m':Nat) (st':σ) (D':List Nat) (W':World),g.cnt<f.cnt→bu S w0 A' g→g.len≤c'→c'≤9223372036854775807→(fC g).length≤549755813888→J (g.cnt+m') st' D' W'→
   Calls Tryz.prog 226 #[.func (.func fn) #[] cs,.slice A' g.len c'] W' fun e W''=>e = .returned (.tuple #[])∧∃wZ,J m' (g.fold step st') wZ W''∧Touch D' wZ W' W'')
  (h:bu S w0 A f) (hc:f.len≤c) (hc2:c≤9223372036854775807) (hb:(fC f).length≤549755813888) (hJ:J (f.cnt+m) st D W):
  Calls Tryz.prog 226 #[.func (.func fn) #[] cs,.slice A f.len c] W fun e W'=>e = .returned (.tuple #[])∧∃D',J m (f.fold step st) D' W'∧Touch D D' W W':=by
 have EE:=hide E;have oO:=hide ih;have H:=hide h;have HJ:=hide hJ;have hen :∀(args:Array Value) (W:World),(callFunc fn args).run Tryz.prog W = .ok (.enter fn args) W:=E.en;clear E ih h hJ;go_enter Tryz.func226,Tryz.ntmps226
 go_wp2_with fail
 go_loopw [8] (fun i wr=>∃(j:Nat) (D':List Nat),i = .int .i64 j∧j≤f.len∧Hid (J ((f.drop j).cnt+m) ((f.take j).fold step st) D' wr)∧Hid (Touch D D' W wr)) (fun i _=>f.len-(intOf i).toNat)
 case atStart=>exact⟨0,D,rfl,Nat.zero_le _,by rw[Fo.fold_zero,show f.drop 0=f by cases f<;>rfl];exact HJ,hide (Touch.refl _ _)⟩
 case round =>
  obtain⟨j,D1,rfl,hj,oW,HT1⟩:=hrel;by_cases hlt:j<f.len
  ·obtain⟨b,o,KA,kc,k,t,n,ks,r,rfl,hd,d0,d1,d2,d3,g1,g2,g3,g4,g5,g6,hcnt⟩:=H.out.at_ hlt;have hbl:=H.out.blk (by omega);have hB0:wr.heap[b]?=w0.heap[b]?:=EE.out.below oW.out b hbl (block_lt_of_cell d0);have hrg:wr.rangeAt b (o+j*4) (eP k t n KA ks.len kc):=fun i v hv=>by
    match i,hv with
    | 0,hv=>injection hv with hv;subst hv;exact(World.cell?_of_block (a:=⟨b,o+j*4,none⟩) hB0).trans d0
    | 1,hv=>injection hv with hv;subst hv;exact(World.cell?_of_block (a:=⟨b,o+j*4+1,none⟩) hB0).trans d1
    | 2,hv=>injection hv with hv;subst hv;exact(World.cell?_of_block (a:=⟨b,o+j*4+2,none⟩) hB0).trans d2
    | 3,hv=>injection hv with hv;subst hv;exact(World.cell?_of_block (a:=⟨b,o+j*4+3,none⟩) hB0).trans d3
   have Hd:=hide hd;have Bc:=hide hrg;have HG:=hide g6;clear hd hrg g6 d0 d1 d2 d3 hB0 hbl
   go_upto_region 2 with fail
   refine wp_region_lit ?_;refine sk ?_;refine gl (off:=o+j*4) ?_ Bc.out Tryz.underlying152 yw;refine gw (w':=wr.alloc (.cells gW.toArray 152)) (v:= .pointer (some ⟨wr.heap.size,0,none⟩)) ?_;have hX:=Bx.new wr gW 152;refine gs (cells:=(eP k t n KA ks.len kc).toArray) ?_ (hX.th (o:=0) (by simp)) yw (I9 _ _ _ _ _ _);refine wpList_nil ?_;rename_i hK;refine hK _ _ ?_;clear hK;have HX:=hide (hX.puts 0 (eP k t n KA ks.len kc) (eP k t n KA ks.len kc) (by simp));have HB1:=hide (dK (aC wr.heap.size) (eP k t n KA ks.len kc) 0 (bg wr (.cells gW.toArray 152)));clear hX;change Code.wp _ _ _ _ ((wr.alloc (.cells gW.toArray 152)).setCells wr.heap.size 0 (eP k t n KA ks.len kc));generalize (wr.alloc (.cells gW.toArray 152)).setCells wr.heap.size 0 (eP k t n KA ks.len kc)=W1 at HX HB1⊢
   go_upto_region 3 with fail
   refine wp_region_lit ?_;refine sk ?_;refine gl ?_ HX.out.c Tryz.underlying152 yw;have hcn:(f.drop j).cnt+m=(ks.cnt+(r.cnt+m))+1:=by rw[Hd.out];simp only[Fo.cnt];omega
   rw[hcn]at oW;clear hcn;refine gc (EE.out.ca k t n KA ks.len kc (EE.out.keep oW.out HB1.out) g1 (aI (I8 Hd.out) hb)) ?_;rintro e2 W2 ⟨rfl,D2,hJ2,hT2⟩;refine⟨_,rfl,?_⟩;have hnm:wr.heap.size∉D1:=fun hm=>by have:=EE.out.lt oW.out _ hm;omega
   have vN:=hide (HX.out.keep (hT2.block _ HX.out.lt hnm) hT2.size);have HJ2:=hide hJ2;have HT2:=hide (HT1.out.trans ((Touch.below HB1.out).trans hT2));clear hJ2 hT2 hnm;refine wpList_nil ?_;rename_i hK;refine hK _ _ ?_;clear hK;have k3:=vN.out.cell 3
   go_upto_region 4 with fail
   refine wp_region_lit ?_;refine sk ?_;refine sk ?_;refine sk ?_;refine gc (oO.out ks KA kc (r.cnt+m) _ D2 W2 hcnt HG.out g4 g5 (aI (ED Hd.out) hb) HJ2.out) ?_;rintro e3 W3 ⟨rfl,D3,hJ3,Bd⟩;refine⟨_,rfl,?_⟩;have EP:=hide hJ3;have HT3:=hide (HT2.out.trans Bd);clear hJ3 Bd k3;refine wpList_nil ?_
   go_wp2_with fail
   exact⟨⟨j+1,D3,by go_num,by omega,by rw[Fo.fold_next step Hd.out,Fo.drop_succ Hd.out];exact EP,HT3⟩,by simp[intOf];omega⟩
  ·have hje:j=f.len:=by omega
   have HJ2:Hid (J m (f.fold step st) D1 wr):=by have:=oW;rwa [hje,Fo.take_whole,Fo.drop_len f f.len (aC _),show Fo.nil.cnt+m=m by simp[Fo.cnt]]at this
   go_wp2_with fail
   go_end0
   exact⟨rfl,D1,HJ2.out,HT1.out⟩
theorem MK{σ:Type}{fn:FuncId}{cs:Array Value}{S:Nat→Prop}{w0:World}{J:Nat→σ→List Nat→World→Prop}{step:σ→Nat→ByteArray→σ}(E:iK fn cs S w0 J step)(N:Nat):∀(f:Fo) (A:Option Addr) (c m:Nat) (st:σ) (D:List Nat) (W:World),f.cnt<N→bu S w0 A f→f.len≤c→c≤9223372036854775807→(fC f).length≤549755813888→J (f.cnt+m) st D W→
   Calls Tryz.prog 226 #[.func (.func fn) #[] cs,.slice A f.len c] W fun e W'=>e = .returned (.tuple #[])∧∃D',J m (f.fold step st) D' W'∧Touch D D' W W':=by
 induction N with
 | zero=>intro f A c m st D W h;omega
 | succ N ih=>intro f A c m st D W hN h hc hc2 hb hJ;exact MJ E f (fun g A' c' m' st' D' W' hg=>ih g A' c' m' st' D' W' (by omega)) h hc hc2 hb hJ
theorem ML{σ:Type}{fn:FuncId}{cs:Array Value}{S:Nat→Prop}{w0:World}{J:Nat→σ→List Nat→World→Prop}{step:σ→Nat→ByteArray→σ}(E:iK fn cs S w0 J step){f:Fo}{A:Option Addr}{c m:Nat}{st:σ}{D:List Nat}{W:World}(h:bu S w0 A f)(hc:f.len≤c)(hc2:c≤9223372036854775807)(hb:(fC f).length≤549755813888)(hJ:J (f.cnt+m) st D W):
   Calls Tryz.prog 226 #[.func (.func fn) #[] cs,.slice A f.len c] W fun e W'=>e = .returned (.tuple #[])∧∃D',J m (f.fold step st) D' W'∧Touch D D' W W':=MK E (f.cnt+1) f A c m st D W (by omega) h hc hc2 hb hJ
end
end Go.Proofs.YtialngdffhmobaaGreatDoor
