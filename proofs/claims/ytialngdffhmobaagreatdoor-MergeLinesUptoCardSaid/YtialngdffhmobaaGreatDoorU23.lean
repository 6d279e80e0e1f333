/- Part 24 of what mgTop rests on. -/
import Derived.Shelf.Abstract
import Derived.LoopTactic
import Derived.Test.YtialngdffhmobaaGreatDoorShelf
import Derived.Test.YtialngdffhmobaaGreatDoorU16
import Derived.Test.YtialngdffhmobaaGreatDoorU04
import Derived.Test.YtialngdffhmobaaGreatDoorU05
import Derived.Test.YtialngdffhmobaaGreatDoorU01
import Derived.Test.YtialngdffhmobaaGreatDoorU00
set_option linter.unusedVariables false
set_option linter.unusedSimpArgs false
set_option maxHeartbeats 16000000
set_option maxRecDepth 1000000
namespace Go.Proofs.YtialngdffhmobaaGreatDoor
section
open Go.RowKit
def Fo.fold{σ:Type}(step:σ→Nat→ByteArray→σ):σ→Fo→σ
 | st,.nil=>st
 | st,.cons k t _ ks r=>Fo.fold step (Fo.fold step (step st k t) ks) r
theorem Fo.fold_app{σ:Type}(step:σ→Nat→ByteArray→σ):∀(f g:Fo) (st:σ),(f.app g).fold step st=g.fold step (f.fold step st)
 | .nil,_,_=>rfl
 | .cons k t n ks r,g,st=>by simp only[Fo.app,Fo.fold];exact Fo.fold_app step r g _
theorem Fo.fold_next{σ:Type}(step:σ→Nat→ByteArray→σ){f:Fo}{i k:Nat}{t:ByteArray}{n:Int}{ks r:Fo}(h:f.drop i = .cons k t n ks r)(st:σ):(f.take (i+1)).fold step st=ks.fold step (step ((f.take i).fold step st) k t):=by
 rw[Fo.take_next h,Fo.fold_app];rfl
theorem Fo.fold_zero{σ:Type}(step:σ→Nat→ByteArray→σ)(f:Fo)(st:σ):(f.take 0).fold step st=st:=by cases f<;>rfl
theorem drop_txt :∀{f:Fo} {i k:Nat} {t:ByteArray} {n:Int} {ks r:Fo},f.drop i = .cons k t n ks r→t.size≤(foB f).length:=by
 intro f
 induction f with
 | nil=>intro i k t n ks r h;cases i<;>cases h
 | cons k' t' n' ks' r' _ ih =>
  intro i k t n ks r h;cases i with
  | zero=>cases h;have hz:t'.data.toList.length=t'.size:=Array.length_toList;simp[foB,txtB];omega
  | succ i=>have:=ih (i:=i) h;simp[foB];omega
structure Touch(D D':List Nat)(W W':World):Prop where
 size:W.heap.size≤W'.heap.size
 block :∀b,b<W.heap.size→b∉D→W'.heap[b]?=W.heap[b]?
 own :∀b∈D',b∈D∨W.heap.size≤b
theorem Touch.refl(D:List Nat)(W:World):Touch D D W W:=⟨Nat.le_refl _,fun _ _ _=>rfl,fun _ h=> .inl h⟩
theorem Touch.trans{D D' D'':List Nat}{W W' W'':World}(h:Touch D D' W W')(h':Touch D' D'' W' W''):Touch D D'' W W'' :=
 ⟨Nat.le_trans h.size h'.size,fun b hb hD=>(h'.block b (Nat.lt_of_lt_of_le hb h.size) (fun hm=>by rcases h.own b hm with h1|h1;exact hD h1;omega)).trans (h.block b hb hD),fun b hb=>by
  rcases h'.own b hb with h1|h1
  ·exact h.own b h1
  ·exact .inr (Nat.le_trans h.size h1)⟩
theorem Touch.below{D:List Nat}{W W':World}(hB:Below W.heap.size W W'):Touch D D W W':=⟨hB.size,fun b hb _=>hB.block b hb,fun _ h=> .inl h⟩
theorem FoIn.blk{S:Nat→Prop}{w:World}{b:Nat}{o:Nat}{f:Fo}(h:FoIn S w (some ⟨b,o,none⟩) f)(hl:0<f.len):S b:=by
 cases f with
 | nil=>simp[Fo.len]at hl
 | cons k t n ks r =>
  obtain⟨b',o',KA,c,e,hS,_⟩:=h;injection e with e;injection e with e1;rw[e1];exact hS
structure EachOk{σ:Type}(f:FuncId)(cs:Array Value)(S:Nat→Prop)(w0:World)(J:Nat→σ→List Nat→World→Prop)(step:σ→Nat→ByteArray→σ):Prop where
 en:Enters Tryz.prog f
 lt :∀{m st D W},J m st D W→∀b∈D,b<W.heap.size
 below :∀{m st D W},J m st D W→∀b,S b→b<w0.heap.size→W.heap[b]?=w0.heap[b]?
 keep :∀{m st D W W'},J m st D W→Below W.heap.size W W'→J m st D W'
 ca :∀{m st D W} (k:Nat) (t:ByteArray) (n:Int) (A:Option Addr) (l c:Nat),J (m+1) st D W→k<256→t.size≤549755813888→Calls Tryz.prog f (#[.agg #[.int .u8 k,.string t,.int .i64 n,.slice A l c]]++cs) W fun e W'=>e = .returned (.tuple #[])∧∃D',J m (step st k t) D' W'∧Touch D D' W W'
abbrev ndVs(k:Nat)(t:ByteArray)(n:Int)(A:Option Addr)(l c:Nat):List Value:=[.int .u8 k,.string t,.int .i64 n,.slice A l c]
abbrev zeroNd:List Value:=[.int .u8 0,.string ⟨#[]⟩,.int .i64 0,.slice none 0 0]
theorem infoNd:(Tryz.prog.info? 152).map (·.size)=some 4:=by kernel_rfl
theorem ndVs_one(k:Nat)(t:ByteArray)(n:Int)(A:Option Addr)(l c:Nat):(ndVs k t n A l c).toArray.all (·.oneCell')=true:=all_oneCell_toArray (by
 intro v hv;simp only[List.mem_cons,List.not_mem_nil,or_false]at hv;rcases hv with rfl|rfl|rfl|rfl<;>rfl)
theorem treeEach_of{σ:Type}{fn:FuncId}{cs:Array Value}{S:Nat→Prop}{w0:World}{J:Nat→σ→List Nat→World→Prop}{step:σ→Nat→ByteArray→σ}(E:EachOk fn cs S w0 J step)(f:Fo){A:Option Addr}{c m:Nat}{st:σ}{D:List Nat}{W:World}
  (ih :∀(g:Fo) (A':Option Addr) (c' m':Nat) (st':σ) (D':List Nat) (W':World),g.cnt<f.cnt→FoIn S w0 A' g→g.len≤c'→c'≤9223372036854775807→(foB g).length≤549755813888→J (g.cnt+m') st' D' W'→
   Calls Tryz.prog 252 #[.func (.func fn) #[] cs,.slice A' g.len c'] W' fun e W''=>e = .returned (.tuple #[])∧∃D'',J m' (g.fold step st') D'' W''∧Touch D' D'' W' W'')
  (h:FoIn S w0 A f) (hc:f.len≤c) (hc2:c≤9223372036854775807) (hb:(foB f).length≤549755813888) (hJ:J (f.cnt+m) st D W):
  Calls Tryz.prog 252 #[.func (.func fn) #[] cs,.slice A f.len c] W fun e W'=>e = .returned (.tuple #[])∧∃D',J m (f.fold step st) D' W'∧Touch D D' W W':=by
 have EE:=hide E;have Hih:=hide ih;have H:=hide h;have HJ:=hide hJ;have hen :∀(args:Array Value) (W:World),(callFunc fn args).run Tryz.prog W = .ok (.enter fn args) W:=E.en;clear E ih h hJ;go_enter Tryz.func252,Tryz.ntmps252
 go_wp2_with fail
 go_loopw [8] (fun i wr=>∃(j:Nat) (D':List Nat),i = .int .i64 j∧j≤f.len∧Hid (J ((f.drop j).cnt+m) ((f.take j).fold step st) D' wr)∧Hid (Touch D D' W wr)) (fun i _=>f.len-(intOf i).toNat)
 case atStart=>exact⟨0,D,rfl,Nat.zero_le _,by rw[Fo.fold_zero,show f.drop 0=f by cases f<;>rfl];exact HJ,hide (Touch.refl _ _)⟩
 case round =>
  obtain⟨j,D1,rfl,hj,HJ1,HT1⟩:=hrel;by_cases hlt:j<f.len
  ·obtain⟨b,o,KA,kc,k,t,n,ks,r,rfl,hd,d0,d1,d2,d3,g1,g2,g3,g4,g5,g6,hcnt⟩:=H.out.at_ hlt;have hbl:=H.out.blk (by omega);have hB0:wr.heap[b]?=w0.heap[b]?:=EE.out.below HJ1.out b hbl (block_lt_of_cell d0);have hrg:wr.rangeAt b (o+j*4) (ndVs k t n KA ks.len kc):=fun i v hv=>by
    match i,hv with
    | 0,hv=>injection hv with hv;subst hv;exact(World.cell?_of_block (a:=⟨b,o+j*4,none⟩) hB0).trans d0
    | 1,hv=>injection hv with hv;subst hv;exact(World.cell?_of_block (a:=⟨b,o+j*4+1,none⟩) hB0).trans d1
    | 2,hv=>injection hv with hv;subst hv;exact(World.cell?_of_block (a:=⟨b,o+j*4+2,none⟩) hB0).trans d2
    | 3,hv=>injection hv with hv;subst hv;exact(World.cell?_of_block (a:=⟨b,o+j*4+3,none⟩) hB0).trans d3
   have Hd:=hide hd;have Hrg:=hide hrg;have HG:=hide g6;clear hd hrg g6 d0 d1 d2 d3 hB0 hbl
   go_upto_region 2 with fail
   refine wp_region_lit ?_;refine sk ?_;refine gl (off:=o+j*4) ?_ Hrg.out Tryz.underlying152 infoNd;refine gw (w':=wr.alloc (.cells zeroNd.toArray 152)) (v:= .pointer (some ⟨wr.heap.size,0,none⟩)) ?_;have hX:=Bx.new wr zeroNd 152;refine gs (cells:=(ndVs k t n KA ks.len kc).toArray) ?_ (hX.th (o:=0) (by simp)) infoNd (ndVs_one _ _ _ _ _ _);refine wpList_nil ?_;rename_i hK;refine hK _ _ ?_;clear hK;have HX:=hide (hX.puts 0 (ndVs k t n KA ks.len kc) (ndVs k t n KA ks.len kc) (by simp));have HB1:=hide (bx_below (Nat.le_refl wr.heap.size) (ndVs k t n KA ks.len kc) 0 (below_alloc wr (.cells zeroNd.toArray 152)));clear hX;change Code.wp _ _ _ _ ((wr.alloc (.cells zeroNd.toArray 152)).setCells wr.heap.size 0 (ndVs k t n KA ks.len kc));generalize (wr.alloc (.cells zeroNd.toArray 152)).setCells wr.heap.size 0 (ndVs k t n KA ks.len kc)=W1 at HX HB1⊢
   go_upto_region 3 with fail
   refine wp_region_lit ?_;refine sk ?_;refine gl ?_ HX.out.c Tryz.underlying152 infoNd;have hcn:(f.drop j).cnt+m=(ks.cnt+(r.cnt+m))+1:=by rw[Hd.out];simp only[Fo.cnt];omega
   rw[hcn]at HJ1;clear hcn;refine gc (EE.out.ca k t n KA ks.len kc (EE.out.keep HJ1.out HB1.out) g1 (Nat.le_trans (drop_txt Hd.out) hb)) ?_;rintro e2 W2 ⟨rfl,D2,hJ2,hT2⟩;refine⟨_,rfl,?_⟩;have hnm:wr.heap.size∉D1:=fun hm=>by have:=EE.out.lt HJ1.out _ hm;omega
   have HX2:=hide (HX.out.keep (hT2.block _ HX.out.lt hnm) hT2.size);have HJ2:=hide hJ2;have HT2:=hide (HT1.out.trans ((Touch.below HB1.out).trans hT2));clear hJ2 hT2 hnm;refine wpList_nil ?_;rename_i hK;refine hK _ _ ?_;clear hK;have k3:=HX2.out.cell 3
   go_upto_region 4 with fail
   refine wp_region_lit ?_;refine sk ?_;refine sk ?_;refine sk ?_;refine gc (Hih.out ks KA kc (r.cnt+m) _ D2 W2 hcnt HG.out g4 g5 (Nat.le_trans (drop_foB Hd.out) hb) HJ2.out) ?_;rintro e3 W3 ⟨rfl,D3,hJ3,hT3⟩;refine⟨_,rfl,?_⟩;have HJ3:=hide hJ3;have HT3:=hide (HT2.out.trans hT3);clear hJ3 hT3 k3;refine wpList_nil ?_
   go_wp2_with fail
   exact⟨⟨j+1,D3,by go_num,by omega,by rw[Fo.fold_next step Hd.out,Fo.drop_succ Hd.out];exact HJ3,HT3⟩,by simp[intOf];omega⟩
  ·have hje:j=f.len:=by omega
   have HJ2:Hid (J m (f.fold step st) D1 wr):=by have:=HJ1;rwa [hje,Fo.take_whole,Fo.drop_len f f.len (Nat.le_refl _),show Fo.nil.cnt+m=m by simp[Fo.cnt]]at this
   go_wp2_with fail
   go_end0
   exact⟨rfl,D1,HJ2.out,HT1.out⟩
theorem treeEach_upto{σ:Type}{fn:FuncId}{cs:Array Value}{S:Nat→Prop}{w0:World}{J:Nat→σ→List Nat→World→Prop}{step:σ→Nat→ByteArray→σ}(E:EachOk fn cs S w0 J step)(N:Nat):∀(f:Fo) (A:Option Addr) (c m:Nat) (st:σ) (D:List Nat) (W:World),f.cnt<N→FoIn S w0 A f→f.len≤c→c≤9223372036854775807→(foB f).length≤549755813888→J (f.cnt+m) st D W→
   Calls Tryz.prog 252 #[.func (.func fn) #[] cs,.slice A f.len c] W fun e W'=>e = .returned (.tuple #[])∧∃D',J m (f.fold step st) D' W'∧Touch D D' W W':=by
 induction N with
 | zero=>intro f A c m st D W h;omega
 | succ N ih=>intro f A c m st D W hN h hc hc2 hb hJ;exact treeEach_of E f (fun g A' c' m' st' D' W' hg=>ih g A' c' m' st' D' W' (by omega)) h hc hc2 hb hJ
theorem treeEach_any{σ:Type}{fn:FuncId}{cs:Array Value}{S:Nat→Prop}{w0:World}{J:Nat→σ→List Nat→World→Prop}{step:σ→Nat→ByteArray→σ}(E:EachOk fn cs S w0 J step){f:Fo}{A:Option Addr}{c m:Nat}{st:σ}{D:List Nat}{W:World}(h:FoIn S w0 A f)(hc:f.len≤c)(hc2:c≤9223372036854775807)(hb:(foB f).length≤549755813888)(hJ:J (f.cnt+m) st D W):
   Calls Tryz.prog 252 #[.func (.func fn) #[] cs,.slice A f.len c] W fun e W'=>e = .returned (.tuple #[])∧∃D',J m (f.fold step st) D' W'∧Touch D D' W W':=treeEach_upto E (f.cnt+1) f A c m st D W (by omega) h hc hc2 hb hJ
theorem swapEach_of{σ:Type}{fn:FuncId}{cs:Array Value}{S:Nat→Prop}{w0:World}{J:Nat→σ→List Nat→World→Prop}{step:σ→Nat→ByteArray→σ}(E:EachOk fn cs S w0 J step)(f:Fo){A:Option Addr}{c m:Nat}{st:σ}{D:List Nat}{W:World}
  (ih :∀(g:Fo) (A':Option Addr) (c' m':Nat) (st':σ) (D':List Nat) (W':World),g.cnt<f.cnt→FoIn S w0 A' g→g.len≤c'→c'≤9223372036854775807→(foB g).length≤549755813888→J (g.cnt+m') st' D' W'→
   Calls Tryz.prog 226 #[.func (.func fn) #[] cs,.slice A' g.len c'] W' fun e W''=>e = .returned (.tuple #[])∧∃D'',J m' (g.fold step st') D'' W''∧Touch D' D'' W' W'')
  (h:FoIn S w0 A f) (hc:f.len≤c) (hc2:c≤9223372036854775807) (hb:(foB f).length≤549755813888) (hJ:J (f.cnt+m) st D W):
  Calls Tryz.prog 226 #[.func (.func fn) #[] cs,.slice A f.len c] W fun e W'=>e = .returned (.tuple #[])∧∃D',J m (f.fold step st) D' W'∧Touch D D' W W':=by
 have EE:=hide E;have Hih:=hide ih;have H:=hide h;have HJ:=hide hJ;have hen :∀(args:Array Value) (W:World),(callFunc fn args).run Tryz.prog W = .ok (.enter fn args) W:=E.en;clear E ih h hJ;go_enter Tryz.func226,Tryz.ntmps226
 go_wp2_with fail
 go_loopw [8] (fun i wr=>∃(j:Nat) (D':List Nat),i = .int .i64 j∧j≤f.len∧Hid (J ((f.drop j).cnt+m) ((f.take j).fold step st) D' wr)∧Hid (Touch D D' W wr)) (fun i _=>f.len-(intOf i).toNat)
 case atStart=>exact⟨0,D,rfl,Nat.zero_le _,by rw[Fo.fold_zero,show f.drop 0=f by cases f<;>rfl];exact HJ,hide (Touch.refl _ _)⟩
 case round =>
  obtain⟨j,D1,rfl,hj,HJ1,HT1⟩:=hrel;by_cases hlt:j<f.len
  ·obtain⟨b,o,KA,kc,k,t,n,ks,r,rfl,hd,d0,d1,d2,d3,g1,g2,g3,g4,g5,g6,hcnt⟩:=H.out.at_ hlt;have hbl:=H.out.blk (by omega);have hB0:wr.heap[b]?=w0.heap[b]?:=EE.out.below HJ1.out b hbl (block_lt_of_cell d0);have hrg:wr.rangeAt b (o+j*4) (ndVs k t n KA ks.len kc):=fun i v hv=>by
    match i,hv with
    | 0,hv=>injection hv with hv;subst hv;exact(World.cell?_of_block (a:=⟨b,o+j*4,none⟩) hB0).trans d0
    | 1,hv=>injection hv with hv;subst hv;exact(World.cell?_of_block (a:=⟨b,o+j*4+1,none⟩) hB0).trans d1
    | 2,hv=>injection hv with hv;subst hv;exact(World.cell?_of_block (a:=⟨b,o+j*4+2,none⟩) hB0).trans d2
    | 3,hv=>injection hv with hv;subst hv;exact(World.cell?_of_block (a:=⟨b,o+j*4+3,none⟩) hB0).trans d3
   have Hd:=hide hd;have Hrg:=hide hrg;have HG:=hide g6;clear hd hrg g6 d0 d1 d2 d3 hB0 hbl
   go_upto_region 2 with fail
   refine wp_region_lit ?_;refine sk ?_;refine gl (off:=o+j*4) ?_ Hrg.out Tryz.underlying152 infoNd;refine gw (w':=wr.alloc (.cells zeroNd.toArray 152)) (v:= .pointer (some ⟨wr.heap.size,0,none⟩)) ?_;have hX:=Bx.new wr zeroNd 152;refine gs (cells:=(ndVs k t n KA ks.len kc).toArray) ?_ (hX.th (o:=0) (by simp)) infoNd (ndVs_one _ _ _ _ _ _);refine wpList_nil ?_;rename_i hK;refine hK _ _ ?_;clear hK;have HX:=hide (hX.puts 0 (ndVs k t n KA ks.len kc) (ndVs k t n KA ks.len kc) (by simp));have HB1:=hide (bx_below (Nat.le_refl wr.heap.size) (ndVs k t n KA ks.len kc) 0 (below_alloc wr (.cells zeroNd.toArray 152)));clear hX;change Code.wp _ _ _ _ ((wr.alloc (.cells zeroNd.toArray 152)).setCells wr.heap.size 0 (ndVs k t n KA ks.len kc));generalize (wr.alloc (.cells zeroNd.toArray 152)).setCells wr.heap.size 0 (ndVs k t n KA ks.len kc)=W1 at HX HB1⊢
   go_upto_region 3 with fail
   refine wp_region_lit ?_;refine sk ?_;refine gl ?_ HX.out.c Tryz.underlying152 infoNd;have hcn:(f.drop j).cnt+m=(ks.cnt+(r.cnt+m))+1:=by rw[Hd.out];simp only[Fo.cnt];omega
   rw[hcn]at HJ1;clear hcn;refine gc (EE.out.ca k t n KA ks.len kc (EE.out.keep HJ1.out HB1.out) g1 (Nat.le_trans (drop_txt Hd.out) hb)) ?_;rintro e2 W2 ⟨rfl,D2,hJ2,hT2⟩;refine⟨_,rfl,?_⟩;have hnm:wr.heap.size∉D1:=fun hm=>by have:=EE.out.lt HJ1.out _ hm;omega
   have HX2:=hide (HX.out.keep (hT2.block _ HX.out.lt hnm) hT2.size);have HJ2:=hide hJ2;have HT2:=hide (HT1.out.trans ((Touch.below HB1.out).trans hT2));clear hJ2 hT2 hnm;refine wpList_nil ?_;rename_i hK;refine hK _ _ ?_;clear hK;have k3:=HX2.out.cell 3
   go_upto_region 4 with fail
   refine wp_region_lit ?_;refine sk ?_;refine sk ?_;refine sk ?_;refine gc (Hih.out ks KA kc (r.cnt+m) _ D2 W2 hcnt HG.out g4 g5 (Nat.le_trans (drop_foB Hd.out) hb) HJ2.out) ?_;rintro e3 W3 ⟨rfl,D3,hJ3,hT3⟩;refine⟨_,rfl,?_⟩;have HJ3:=hide hJ3;have HT3:=hide (HT2.out.trans hT3);clear hJ3 hT3 k3;refine wpList_nil ?_
   go_wp2_with fail
   exact⟨⟨j+1,D3,by go_num,by omega,by rw[Fo.fold_next step Hd.out,Fo.drop_succ Hd.out];exact HJ3,HT3⟩,by simp[intOf];omega⟩
  ·have hje:j=f.len:=by omega
   have HJ2:Hid (J m (f.fold step st) D1 wr):=by have:=HJ1;rwa [hje,Fo.take_whole,Fo.drop_len f f.len (Nat.le_refl _),show Fo.nil.cnt+m=m by simp[Fo.cnt]]at this
   go_wp2_with fail
   go_end0
   exact⟨rfl,D1,HJ2.out,HT1.out⟩
theorem swapEach_upto{σ:Type}{fn:FuncId}{cs:Array Value}{S:Nat→Prop}{w0:World}{J:Nat→σ→List Nat→World→Prop}{step:σ→Nat→ByteArray→σ}(E:EachOk fn cs S w0 J step)(N:Nat):∀(f:Fo) (A:Option Addr) (c m:Nat) (st:σ) (D:List Nat) (W:World),f.cnt<N→FoIn S w0 A f→f.len≤c→c≤9223372036854775807→(foB f).length≤549755813888→J (f.cnt+m) st D W→
   Calls Tryz.prog 226 #[.func (.func fn) #[] cs,.slice A f.len c] W fun e W'=>e = .returned (.tuple #[])∧∃D',J m (f.fold step st) D' W'∧Touch D D' W W':=by
 induction N with
 | zero=>intro f A c m st D W h;omega
 | succ N ih=>intro f A c m st D W hN h hc hc2 hb hJ;exact swapEach_of E f (fun g A' c' m' st' D' W' hg=>ih g A' c' m' st' D' W' (by omega)) h hc hc2 hb hJ
theorem swapEach_any{σ:Type}{fn:FuncId}{cs:Array Value}{S:Nat→Prop}{w0:World}{J:Nat→σ→List Nat→World→Prop}{step:σ→Nat→ByteArray→σ}(E:EachOk fn cs S w0 J step){f:Fo}{A:Option Addr}{c m:Nat}{st:σ}{D:List Nat}{W:World}(h:FoIn S w0 A f)(hc:f.len≤c)(hc2:c≤9223372036854775807)(hb:(foB f).length≤549755813888)(hJ:J (f.cnt+m) st D W):
   Calls Tryz.prog 226 #[.func (.func fn) #[] cs,.slice A f.len c] W fun e W'=>e = .returned (.tuple #[])∧∃D',J m (f.fold step st) D' W'∧Touch D D' W W':=swapEach_upto E (f.cnt+1) f A c m st D W (by omega) h hc hc2 hb hJ
structure RowJ(w0:World)(b0:Nat)(v:Value)(m:Nat)(st:List ByteArray)(D:List Nat)(W:World):Prop where
 d:D=b0::ob v
 own:W.ownsRow 0 9 1 v st.length (st.map .string)
 nb:b0∉ob v
 ge :∀b∈D,w0.heap.size≤b
 below:Below w0.heap.size w0 W
 len:st.length+m≤549755813887
 sz :∀s∈st,s.size≤549755813888
theorem RowJ.keep{w0 W W':World}{b0 m:Nat}{v:Value}{st:List ByteArray}{D:List Nat}(h:RowJ w0 b0 v m st D W)(hB:Below W.heap.size W W'):RowJ w0 b0 v m st D W' :=
 ⟨h.d,own_below h.own (fun g hg=>(h.own.lt g hg).2) hB,h.nb,h.ge,h.below.trans (hB.mono h.below.size),h.len,h.sz⟩
theorem RowJ.push{w0 W W':World}{b0 m o:Nat}{v v':Value}{st:List ByteArray}{D:List Nat}{t:ByteArray}(h:RowJ w0 b0 v (m+1) st D W)(hb0:b0<W.heap.size)(hp:Pushed 9 W v (st.length+1) (st.map .string++[.string t]) v' W')(ht:t.size≤549755813888)(u:List Value):
  RowJ w0 b0 v' m (st++[t]) (b0::ob v') (W'.setCells b0 o u)∧Touch D (b0::ob v') W (W'.setCells b0 o u):=by
 obtain⟨p1,p2,p3⟩:=hp;have hv :∀b∈ob v',b∈ob v∨b=W.heap.size:=fun b hb=>by
  rcases p3 with e|e
  ·exact .inl (mem_ob.2 (e▸mem_ob.1 hb))
  ·right;have:=mem_ob.1 hb;rw[e]at this;injection this with this;exact this.symm
 have hnb:b0∉ob v':=fun hb=>by
  rcases hv b0 hb with h1|h1
  ·exact h.nb h1
  ·omega
 have hge0:=h.ge b0 (by rw[h.d];simp);refine⟨⟨rfl,own_kept (w:=W') (by simpa using p1) (bx_keep fun b hb e=>hnb (e▸hb)),hnb,fun b hb=>?_,?_,by have:=h.len;simp;omega,fun s hs=>?_⟩,⟨by rw[bx_size];exact p2.size,fun b hb hD=>?_,fun b hb=>?_⟩⟩
 ·rcases List.mem_cons.1 hb with rfl|hb
  ·exact hge0
  ·rcases hv b hb with h1|h1
   ·exact h.ge b (by rw[h.d];simp[h1])
   ·have:=h.below.size;omega
 ·exact bx_below hge0 _ _ (Below.grown h.below p2 h.below.size (fun k hk=>h.ge k (by rw[h.d];simp[mem_ob,hk])))
 ·rcases List.mem_append.1 hs with hs|hs
  ·exact h.sz s hs
  ·rw[List.mem_singleton]at hs;subst hs;exact ht
 ·rw[h.d]at hD;simp only[List.mem_cons,not_or]at hD;rw[bx_heap b0 hD.1];exact p2.block b hb (fun e=>hD.2 (mem_ob.2 e.symm))
 ·rcases List.mem_cons.1 hb with rfl|hb
  ·exact .inl (by rw[h.d];simp)
  ·rcases hv b hb with h1|h1
   ·exact .inl (by rw[h.d];simp[h1])
   ·exact .inr (Nat.le_of_eq h1.symm)
def NamesJ(w0:World)(b0:Nat)(m:Nat)(st:List ByteArray)(D:List Nat)(W:World):Prop:=∃v,RowJ w0 b0 v m st D W∧Bx W b0 [v]
def nameStep(st:List ByteArray)(k:Nat)(t:ByteArray):List ByteArray:=if Named k then st++[t]else st
theorem names_fold :∀(f:Fo) (st:List ByteArray),f.fold nameStep st=st++f.names
 | .nil,st=>by simp[Fo.fold,Fo.names]
 | .cons k t n ks r,st=>by
  simp only[Fo.fold,Fo.names,names_fold ks,names_fold r,nameStep];split<;>simp
theorem strClone_any{s:ByteArray}{w:World}(h:s.size≤549755813888):Calls Tryz.prog 254 #[.string s] w fun e w'=>e = .returned (.string s)∧Below w.heap.size w w':=by
 have H:=hide (Tryz.stringslite_Clone s w (by omega));clear h;go_enter Tryz.func254,Tryz.ntmps254
 go_wp2_with(go_at_call 274;(with_reducible refine H.out.mono ?_);rintro e1 w1 ⟨rfl,hB⟩;have HB:=hide hB;clear hB)
 go_ret;exact⟨rfl,HB.out⟩
theorem namesFn{w0 W:World}{b0 m k l c:Nat}{st:List ByteArray}{D:List Nat}{t:ByteArray}{n:Int}{A:Option Addr}(hJ:NamesJ w0 b0 (m+1) st D W)(hk:k<256)(ht:t.size≤549755813888):
  Calls Tryz.prog 253 #[.agg #[.int .u8 k,.string t,.int .i64 n,.slice A l c],.pointer (some ⟨b0,0,none⟩)] W fun e W'=>e = .returned (.tuple #[])∧∃D',NamesJ w0 b0 m (nameStep st k t) D' W'∧Touch D D' W W':=by
 obtain⟨v,hr,hb⟩:=hJ;have hX:=Bx.new W (ndVs k t n A l c) 152;have hB:=below_alloc W (.cells (ndVs k t n A l c).toArray 152);have HR:=hide (hr.keep hB);have HT:=hide (Touch.below (D:=D) hB);have HX:=hide hX;have HBx:=hide (hb.call hB);have Hlt:=hide hb.lt;have hne:W.heap.size≠b0:=by have:=hb.lt;omega
 clear hr hb hX hB;go_enter Tryz.func253,Tryz.ntmps253
 go_upto_region 1 with fail
 change Code.wp _ _ _ _ (W.alloc (.cells (ndVs k t n A l c).toArray 152));generalize W.alloc (.cells (ndVs k t n A l c).toArray 152)=W1 at HR HT HX HBx⊢;have k0:=HX.out.cell 0;refine wp_region_lit ?_;refine sk ?_;refine sk ?_;refine gc (named_any k W1) ?_;rintro e1 W2 ⟨⟨q,rfl,hq⟩,hB⟩;refine⟨_,rfl,?_⟩;have HR2:=hide (HR.out.keep hB);have HT2:=hide (HT.out.trans (Touch.below hB));have HX2:=hide (HX.out.call hB);have HBx2:=hide (HBx.out.call hB);clear hB k0 HR HT HX HBx;refine wpList_nil ?_;rename_i hK;refine hK _ _ ?_;clear hK;by_cases hn:Named k
 ·have hq1:q=true:=hq.mpr hn;subst hq1;clear hq;have hstep:nameStep st k t=st++[t]:=by unfold nameStep;rw[if_pos hn]
  have Hstep:=hide hstep;clear hstep
  go_upto_region 2 with fail
  refine wp_region_held_drew (S:=fun _=>True) (by kernel_rfl) trivial (fun hS0=>?_);have HRd:Hid (RowJ w0 b0 v (m+1) st D W2.drew):=hide (HR2.out.keep (Below.refl _ _).drew);have HTd:Hid (Touch D D W W2.drew):=hide (HT2.out.trans (Touch.below (Below.refl _ _).drew));have HXd:=hide HX2.out.drew;have HBd:=hide HBx2.out.drew;generalize W2.drew=E0 at HRd HTd HXd HBd⊢;clear HR2 HT2 HX2 HBx2;refine tka 1 trivial ?_;have ko:=HBd.out.cell 0;have kt:=HXd.out.cell 1;have fin :∀(E1:World) (gb:Nat),Below E0.heap.size E0 E1→E1.cell? ((⟨gb,0,none⟩:Addr).add 0)=some (.string t)→∃A' c' E2,(Builtin.append_ #[23,23] 23 #[v,.slice (some ⟨gb,0,none⟩) 1 1]).run Tryz.prog E1 = .ok (.slice A' (st.length+1) c') E2∧E2.cell? ⟨b0,0,none⟩=some v∧E2.frozen? ⟨b0,0,none⟩=false∧
    (∃D',NamesJ w0 b0 m (st++[t]) D' (E2.setCells b0 0 [.slice A' (st.length+1) c'])∧Touch D D' W (E2.setCells b0 0 [.slice A' (st.length+1) c'])):=by
   intro E1 gb hB hc;have hr1:=HRd.out.keep hB;obtain⟨v',E2,hrun,hp⟩:=push_str hr1.own hc rfl (by have:=hr1.len;omega);obtain⟨A',c',rfl⟩:=own_shape hp.1;have hbx1:=HBd.out.call hB;have hbx2:Bx E2 b0 [v]:=hbx1.keep (hp.2.1.block b0 hbx1.lt (fun e=>hr1.nb (mem_ob.2 e.symm))) hp.2.1.size;obtain⟨q1,q2⟩:=hr1.push (o:=0) hbx1.lt hp ht [.slice A' (st.length+1) c'];exact⟨A',c',E2,hrun,hbx2.cell 0,hbx2.f 0,_,⟨_,q1,hbx2.puts 0 [.slice A' (st.length+1) c'] [.slice A' (st.length+1) c'] (by simp)⟩,HTd.out.trans ((Touch.below hB).trans q2)⟩
  have Fin:=hide fin;clear fin;refine dr2 0 2 ?_ ?_
  ·refine bw (w':=E0) (v:=v) ?_ (hy:=by have:=ko;go_simp);refine⟨trivial,?_⟩;refine dr1 2 ?_;refine bw (w':=E0) (v:= .string t) ?_ (hy:=by have:=kt;go_simp);refine⟨trivial,?_⟩;refine dr1 3 ?_;refine bc (strClone_any ht) ?_;rintro e1 E1 ⟨rfl,hB⟩;refine⟨_,rfl,⟨trivial,?_⟩⟩;have ko1:=(HBd.out.call hB).cell 0;refine dr1 4 ?_;refine bw (w':=E1.alloc (.cells #[.string t] 9)) (v:= .slice (some ⟨E1.heap.size,0,none⟩) 1 1) ?_;refine⟨trivial,?_⟩;have hb2:=below_alloc E1 (.cells #[.string t] 9);have hBB:=hB.trans (hb2.mono hB.size);have ko2:=(HBd.out.call hBB).cell 0;obtain⟨A',c',E2,hrun,c1,c2,D',hJ',hT'⟩:=Fin.out _ E1.heap.size hBB (by rw[Addr.add_lit];simp);refine dr1 5 ?_;refine bw (hy:=exec_append hrun rfl rfl rfl) ?_;refine⟨trivial,?_⟩;refine dr1 6 ?_;refine bs (w':=E2.setCells b0 0 [.slice A' (st.length+1) c']) ?_ (hy:=by have:=c1;have:=c2;simp only[World.setCells];go_simp);refine⟨trivial,?_⟩;refine wpAnyH_done (by kernel_rfl) ?_ _
   go_wp2_with fail
   go_end0
   exact⟨rfl,D',by rw[Hstep.out];exact hJ',hT'⟩
  ·refine bw (w':=E0) (v:= .string t) ?_ (hy:=by have:=kt;go_simp);refine⟨trivial,?_⟩;refine dr2 0 3 ?_ ?_
   ·refine bw (w':=E0) (v:=v) ?_ (hy:=by have:=ko;go_simp);refine⟨trivial,?_⟩;refine dr1 3 ?_;refine bc (strClone_any ht) ?_;rintro e1 E1 ⟨rfl,hB⟩;refine⟨_,rfl,⟨trivial,?_⟩⟩;have ko1:=(HBd.out.call hB).cell 0;refine dr1 4 ?_;refine bw (w':=E1.alloc (.cells #[.string t] 9)) (v:= .slice (some ⟨E1.heap.size,0,none⟩) 1 1) ?_;refine⟨trivial,?_⟩;have hb2:=below_alloc E1 (.cells #[.string t] 9);have hBB:=hB.trans (hb2.mono hB.size);have ko2:=(HBd.out.call hBB).cell 0;obtain⟨A',c',E2,hrun,c1,c2,D',hJ',hT'⟩:=Fin.out _ E1.heap.size hBB (by rw[Addr.add_lit];simp);refine dr1 5 ?_;refine bw (hy:=exec_append hrun rfl rfl rfl) ?_;refine⟨trivial,?_⟩;refine dr1 6 ?_;refine bs (w':=E2.setCells b0 0 [.slice A' (st.length+1) c']) ?_ (hy:=by have:=c1;have:=c2;simp only[World.setCells];go_simp);refine⟨trivial,?_⟩;refine wpAnyH_done (by kernel_rfl) ?_ _
    go_wp2_with fail
    go_end0
    exact⟨rfl,D',by rw[Hstep.out];exact hJ',hT'⟩
   ·refine bc (strClone_any ht) ?_;rintro e1 E1 ⟨rfl,hB⟩;refine⟨_,rfl,⟨trivial,?_⟩⟩;have ko1:=(HBd.out.call hB).cell 0;refine dr2 0 4 ?_ ?_
    ·refine bw (w':=E1) (v:=v) ?_ (hy:=by have:=ko1;go_simp);refine⟨trivial,?_⟩;refine dr1 4 ?_;refine bw (w':=E1.alloc (.cells #[.string t] 9)) (v:= .slice (some ⟨E1.heap.size,0,none⟩) 1 1) ?_;refine⟨trivial,?_⟩;have hb2:=below_alloc E1 (.cells #[.string t] 9);have hBB:=hB.trans (hb2.mono hB.size);have ko2:=(HBd.out.call hBB).cell 0;obtain⟨A',c',E2,hrun,c1,c2,D',hJ',hT'⟩:=Fin.out _ E1.heap.size hBB (by rw[Addr.add_lit];simp);refine dr1 5 ?_;refine bw (hy:=exec_append hrun rfl rfl rfl) ?_;refine⟨trivial,?_⟩;refine dr1 6 ?_;refine bs (w':=E2.setCells b0 0 [.slice A' (st.length+1) c']) ?_ (hy:=by have:=c1;have:=c2;simp only[World.setCells];go_simp);refine⟨trivial,?_⟩;refine wpAnyH_done (by kernel_rfl) ?_ _
     go_wp2_with fail
     go_end0
     exact⟨rfl,D',by rw[Hstep.out];exact hJ',hT'⟩
    ·refine bw (w':=E1.alloc (.cells #[.string t] 9)) (v:= .slice (some ⟨E1.heap.size,0,none⟩) 1 1) ?_;refine⟨trivial,?_⟩;have hb2:=below_alloc E1 (.cells #[.string t] 9);have hBB:=hB.trans (hb2.mono hB.size);have ko2:=(HBd.out.call hBB).cell 0;refine dr1 0 ?_;refine bw (w':=E1.alloc (.cells #[.string t] 9)) (v:=v) ?_ (hy:=by have:=ko2;go_simp);refine⟨trivial,?_⟩;obtain⟨A',c',E2,hrun,c1,c2,D',hJ',hT'⟩:=Fin.out _ E1.heap.size hBB (by rw[Addr.add_lit];simp);refine dr1 5 ?_;refine bw (hy:=exec_append hrun rfl rfl rfl) ?_;refine⟨trivial,?_⟩;refine dr1 6 ?_;refine bs (w':=E2.setCells b0 0 [.slice A' (st.length+1) c']) ?_ (hy:=by have:=c1;have:=c2;simp only[World.setCells];go_simp);refine⟨trivial,?_⟩;refine wpAnyH_done (by kernel_rfl) ?_ _
     go_wp2_with fail
     go_end0
     exact⟨rfl,D',by rw[Hstep.out];exact hJ',hT'⟩
 ·have hq1:q=false:=Bool.eq_false_iff.2 fun e=>hn (hq.mp e);subst hq1;clear hq;have hstep:nameStep st k t=st:=by unfold nameStep;rw[if_neg hn]
  have Hstep:=hide hstep;clear hstep
  go_wp2_with fail
  go_end0
  exact⟨rfl,D,by rw[Hstep.out];exact⟨v,⟨HR2.out.d,HR2.out.own,HR2.out.nb,HR2.out.ge,HR2.out.below,by have:=HR2.out.len;omega,HR2.out.sz⟩,HBx2.out⟩,HT2.out⟩
end
end Go.Proofs.YtialngdffhmobaaGreatDoor
