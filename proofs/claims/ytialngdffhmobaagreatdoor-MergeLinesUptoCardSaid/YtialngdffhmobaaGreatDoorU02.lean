/- Part 3 of what mgTop rests on. -/
import Derived.Test.YtialngdffhmobaaGreatDoorProg
import Derived.Test.YtialngdffhmobaaGreatDoorU01
import Derived.Test.YtialngdffhmobaaGreatDoorU00
set_option linter.unusedVariables false
set_option linter.unusedSimpArgs false
set_option maxHeartbeats 16000000
set_option maxRecDepth 1000000
namespace Go.Proofs.YtialngdffhmobaaGreatDoor
section
open Go.RowKit
def kindRows:List (Int×(List Int×Bool)):=
  [(1,[2],true),(2,[3,5],false),(3,[4],true),(4,[],false),(5,[201],true),(6,[200],false),(7,[202,200],false),(8,[200,5,5],false),(9,[200,5],false),
   (10,[200],false),(11,[200],false),(12,[25],false),(20,[],false),(21,[],false),(22,[],false),(23,[200],false),(24,[200,200],false),(25,[200],true),
   (26,[200,200],false),(27,[200,200],false),(28,[200],false),(29,[],false)]
def kindRow(k:Nat):Option (Int×(List Int×Bool)):=kindRows.find? fun p=>(k:Int) == p.1
def RowIn(r:Nat)(w:World)(v:Value)(x:List Int×Bool):Prop:=∃A c,v = .agg #[.slice A x.1.length c,.bool x.2]∧Rd (fun b=>r<b) w A (x.1.map (.int .u8))
theorem RowIn.stable(r:Nat):Stable r (RowIn r):=by
 rintro w w' v x hk ⟨A,c,rfl,h⟩;refine⟨A,c,rfl,?_⟩;have h2:Rd (fun b=>r<b∧b<w.heap.size) w A (x.1.map (.int .u8)):=h.mono fun b hlt hS=>⟨hS,hlt⟩;exact(h2.keep fun b hb=>hk b hb.2 (by omega)).mono fun b _ hS=>hS.1
theorem rd_new{S:Nat→Prop}{w:World}{cs:List Value}{t:TypeId}(hS:S w.heap.size):Rd S (w.alloc (.cells cs.toArray t)) (some ⟨w.heap.size,0,none⟩) cs:=by
 refine .inr ⟨_,_,rfl,hS,fun j u hu=>?_⟩;rw[Nat.zero_add,World.cell?_alloc_new]
 simpa using hu
theorem one_any(A:Option Addr)(n c:Nat)(w:World):
  Calls Tryz.prog 245 #[.slice A n c] w fun e w'=>e = .returned (.agg #[.slice A n c,.bool false])∧w.alloc (.cells #[.slice A n c,.bool false] 268)=w':=by
 go_enter Tryz.func245,Tryz.ntmps245
 go_wp2
 exact bodyPost_ret (v:= .agg #[.slice A n c,.bool false]) (by simp[results,Tryz.results245,go_sem]) rfl ⟨rfl,rfl⟩
theorem many_any(k:Int)(w:World):
  Calls Tryz.prog 246 #[.int .u8 k] w fun e w'=>e = .returned (.agg #[.slice (some ⟨w.heap.size+1,0,none⟩) 1 1,.bool true])∧
   (w.alloc (.cells #[.slice (some ⟨w.heap.size+1,0,none⟩) 1 1,.bool true] 268)).alloc (.cells #[.int .u8 k] 150)=w':=by
 go_enter Tryz.func246,Tryz.ntmps246
 go_wp2
 exact bodyPost_ret (v:= .agg #[.slice (some ⟨w.heap.size+1,0,none⟩) 1 1,.bool true]) (by simp[results,Tryz.results246,go_sem]) rfl ⟨rfl,rfl⟩
theorem row_many{r:Nat}{w:World}{o:Obj}{k:Int}{t:TypeId}(h:r<w.heap.size):RowIn r ((w.alloc o).alloc (.cells #[.int .u8 k] t)) (.agg #[.slice (some ⟨w.heap.size+1,0,none⟩) 1 1,.bool true]) ([k],true):=by
 refine⟨_,_,rfl,?_⟩;have:=rd_new (S:=fun b=>r<b) (w:=w.alloc o) (cs:=[.int .u8 k]) (t:=t) (by simp;omega)
 simpa using this
theorem row_one1{r:Nat}{w:World}{o:Obj}{k:Int}{t:TypeId}(h:r<w.heap.size):RowIn r ((w.alloc (.cells #[.int .u8 k] t)).alloc o) (.agg #[.slice (some ⟨w.heap.size,0,none⟩) 1 1,.bool false]) ([k],false):=
 ⟨_,_,rfl,(rd_new (S:=fun b=>r<b) (cs:=[.int .u8 k]) (by omega)).alloc o⟩
theorem row_one2{r:Nat}{w:World}{o:Obj}{k l:Int}{t:TypeId}(h:r<w.heap.size):RowIn r ((w.alloc (.cells #[.int .u8 k,.int .u8 l] t)).alloc o) (.agg #[.slice (some ⟨w.heap.size,0,none⟩) 2 2,.bool false]) ([k,l],false):=
 ⟨_,_,rfl,(rd_new (S:=fun b=>r<b) (cs:=[.int .u8 k,.int .u8 l]) (by omega)).alloc o⟩
theorem row_one3{r:Nat}{w:World}{o:Obj}{k l m:Int}{t:TypeId}(h:r<w.heap.size):RowIn r ((w.alloc (.cells #[.int .u8 k,.int .u8 l,.int .u8 m] t)).alloc o) (.agg #[.slice (some ⟨w.heap.size,0,none⟩) 3 3,.bool false]) ([k,l,m],false):=
 ⟨_,_,rfl,(rd_new (S:=fun b=>r<b) (cs:=[.int .u8 k,.int .u8 l,.int .u8 m]) (by omega)).alloc o⟩
theorem row_nil{r:Nat}{w:World}{o:Obj}(_h:r<w.heap.size):RowIn r (w.alloc o) (.agg #[.slice none 0 0,.bool false]) ([],false):=⟨_,_,rfl,Rd.nil⟩
theorem tab_below{w0 wb W w1:World}{r:Nat}(h0:Below r w0 wb)(h:Below wb.heap.size wb W)(hr:r≤w0.heap.size)(hg:W.grownBy w1 (some r)):Below r w0 w1 :=
 (h0.trans (h.mono (Nat.le_trans hr h0.size))).grown hg (Nat.le_trans hr (Nat.le_trans h0.size h.size)) (by rintro k ⟨⟩;exact Nat.le_refl _)
theorem upon_row_many{P:Program}{T K E:TypeId}{o:Oper}{a:Act}{K':Act→World→Prop}{Q:Exit→Act→World→Prop}{w0 wb:World}{r:Nat}{t:List (Int×(List Int×Bool))}{k:Int}{o1:Obj}{k1:Int}{t1:TypeId}
  (hd:o.dst=none) (ht:P.underlying T=some (.map K E)) (hK:P.underlying K=some (.int .u8)) (hT:Tab (RowIn r) .u8 wb r t) (HB:Below r w0 wb) (hr:r≤w0.heap.size) (hn:t.find? (fun p=>k == p.1)=none)
  (h :∀w',Hid (Tab (RowIn r) .u8 w' r (t++[(k,([k1],true))]))→Hid (Below r w0 w')→K' a w'):
  Oper.upon P o a K' Q (((Instr.mapUpdate T (.map (some r)) (.int .u8 k) (.agg #[.slice (some ⟨wb.heap.size+1,0,none⟩) 1 1,.bool true])).run P ((wb.alloc o1).alloc (.cells #[.int .u8 k1] t1))).andThen fun _ w'=> .ok .skip w'):=
 upon_insert_tab hd ht hK hT (RowIn.stable r) (below2 _ _) (row_many hT.lt) hn fun w' h1 h2=>h w' (hide h1) (hide (tab_below HB (below2 _ _) hr h2))
theorem upon_row_one1{P:Program}{T K E:TypeId}{o:Oper}{a:Act}{K':Act→World→Prop}{Q:Exit→Act→World→Prop}{w0 wb:World}{r:Nat}{t:List (Int×(List Int×Bool))}{k:Int}{o1:Obj}{k1:Int}{t1:TypeId}
  (hd:o.dst=none) (ht:P.underlying T=some (.map K E)) (hK:P.underlying K=some (.int .u8)) (hT:Tab (RowIn r) .u8 wb r t) (HB:Below r w0 wb) (hr:r≤w0.heap.size) (hn:t.find? (fun p=>k == p.1)=none)
  (h :∀w',Hid (Tab (RowIn r) .u8 w' r (t++[(k,([k1],false))]))→Hid (Below r w0 w')→K' a w'):
  Oper.upon P o a K' Q (((Instr.mapUpdate T (.map (some r)) (.int .u8 k) (.agg #[.slice (some ⟨wb.heap.size,0,none⟩) 1 1,.bool false])).run P ((wb.alloc (.cells #[.int .u8 k1] t1)).alloc o1)).andThen fun _ w'=> .ok .skip w'):=
 upon_insert_tab hd ht hK hT (RowIn.stable r) (below2 _ _) (row_one1 hT.lt) hn fun w' h1 h2=>h w' (hide h1) (hide (tab_below HB (below2 _ _) hr h2))
theorem upon_row_one2{P:Program}{T K E:TypeId}{o:Oper}{a:Act}{K':Act→World→Prop}{Q:Exit→Act→World→Prop}{w0 wb:World}{r:Nat}{t:List (Int×(List Int×Bool))}{k:Int}{o1:Obj}{k1 k2:Int}{t1:TypeId}
  (hd:o.dst=none) (ht:P.underlying T=some (.map K E)) (hK:P.underlying K=some (.int .u8)) (hT:Tab (RowIn r) .u8 wb r t) (HB:Below r w0 wb) (hr:r≤w0.heap.size) (hn:t.find? (fun p=>k == p.1)=none)
  (h :∀w',Hid (Tab (RowIn r) .u8 w' r (t++[(k,([k1,k2],false))]))→Hid (Below r w0 w')→K' a w'):
  Oper.upon P o a K' Q (((Instr.mapUpdate T (.map (some r)) (.int .u8 k) (.agg #[.slice (some ⟨wb.heap.size,0,none⟩) 2 2,.bool false])).run P ((wb.alloc (.cells #[.int .u8 k1,.int .u8 k2] t1)).alloc o1)).andThen fun _ w'=> .ok .skip w'):=
 upon_insert_tab hd ht hK hT (RowIn.stable r) (below2 _ _) (row_one2 hT.lt) hn fun w' h1 h2=>h w' (hide h1) (hide (tab_below HB (below2 _ _) hr h2))
theorem upon_row_one3{P:Program}{T K E:TypeId}{o:Oper}{a:Act}{K':Act→World→Prop}{Q:Exit→Act→World→Prop}{w0 wb:World}{r:Nat}{t:List (Int×(List Int×Bool))}{k:Int}{o1:Obj}{k1 k2 k3:Int}{t1:TypeId}
  (hd:o.dst=none) (ht:P.underlying T=some (.map K E)) (hK:P.underlying K=some (.int .u8)) (hT:Tab (RowIn r) .u8 wb r t) (HB:Below r w0 wb) (hr:r≤w0.heap.size) (hn:t.find? (fun p=>k == p.1)=none)
  (h :∀w',Hid (Tab (RowIn r) .u8 w' r (t++[(k,([k1,k2,k3],false))]))→Hid (Below r w0 w')→K' a w'):
  Oper.upon P o a K' Q (((Instr.mapUpdate T (.map (some r)) (.int .u8 k) (.agg #[.slice (some ⟨wb.heap.size,0,none⟩) 3 3,.bool false])).run P ((wb.alloc (.cells #[.int .u8 k1,.int .u8 k2,.int .u8 k3] t1)).alloc o1)).andThen fun _ w'=> .ok .skip w'):=
 upon_insert_tab hd ht hK hT (RowIn.stable r) (below2 _ _) (row_one3 hT.lt) hn fun w' h1 h2=>h w' (hide h1) (hide (tab_below HB (below2 _ _) hr h2))
theorem upon_row_nil{P:Program}{T K E:TypeId}{o:Oper}{a:Act}{K':Act→World→Prop}{Q:Exit→Act→World→Prop}{w0 wb:World}{r:Nat}{t:List (Int×(List Int×Bool))}{k:Int}{o1:Obj}
  (hd:o.dst=none) (ht:P.underlying T=some (.map K E)) (hK:P.underlying K=some (.int .u8)) (hT:Tab (RowIn r) .u8 wb r t) (HB:Below r w0 wb) (hr:r≤w0.heap.size) (hn:t.find? (fun p=>k == p.1)=none)
  (h :∀w',Hid (Tab (RowIn r) .u8 w' r (t++[(k,([],false))]))→Hid (Below r w0 w')→K' a w'):
  Oper.upon P o a K' Q (((Instr.mapUpdate T (.map (some r)) (.int .u8 k) (.agg #[.slice none 0 0,.bool false])).run P (wb.alloc o1)).andThen fun _ w'=> .ok .skip w'):=
 upon_insert_tab hd ht hK hT (RowIn.stable r) (below_alloc _ _) (row_nil hT.lt) hn fun w' h1 h2=>h w' (hide h1) (hide (tab_below HB (below_alloc _ _) hr h2))
theorem two_set{w1:World}{b:Nat}{x y u v:Value}{o:Obj}(h0:w1.cell? ⟨b,0,none⟩=some x)(h1:w1.cell? ⟨b,1,none⟩=some y):
  (((w1.setCell ⟨b,0,none⟩ u).setCell ⟨b,1,none⟩ v).alloc o).cell? ⟨b,0,none⟩=some u∧(((w1.setCell ⟨b,0,none⟩ u).setCell ⟨b,1,none⟩ v).alloc o).cell? ⟨b,1,none⟩=some v:=by
 have hb:b<w1.heap.size:=block_lt_of_cell h0;rw[World.cell?_alloc_lt _ _ _ (by simpa[World.setCell]using hb),World.cell?_alloc_lt _ _ _ (by simpa[World.setCell]using hb)];rw[World.cell?_setCell_other _ _ _ _ (by simp)];exact⟨World.cell?_setCell_same _ _ _ h0,World.cell?_setCell_same _ _ _ (u:=y) ((World.cell?_setCell_other _ _ _ _ (by simp)).trans h1)⟩
def RowsPost(k:Nat)(w:World)(e:Ending)(w':World):Prop :=
 Below w.heap.size w w'∧((kindRow k=none∧e = .returned (.tuple #[.agg #[.slice none 0 0,.bool false],.bool false]))∨
  ∃k' ks all A c,kindRow k=some (k',ks,all)∧e = .returned (.tuple #[.agg #[.slice A ks.length c,.bool all],.bool true])∧Rd (fun _=>True) w' A (ks.map (.int .u8)))
theorem rows_any(k:Nat)(w:World):Calls Tryz.prog 216 #[.int .u8 k] w (RowsPost k w):=by
 have hmm:=@run_makeMap Tryz.prog;have T:Hid (Tab (RowIn (w.heap.size+1)) .u8 ((w.alloc (.cells #[.slice none 0 0,.bool false] 268)).alloc (.map #[] 0)) (w.heap.size+1) []):=hide (by
  have:=Tab.new (V:=RowIn (w.heap.size+1)) (kd:= .u8) (w.alloc (.cells #[.slice none 0 0,.bool false] 268));rw[show(w.alloc (.cells #[.slice none 0 0,.bool false] 268)).heap.size=w.heap.size+1 from by simp]at this;exact this)
 have HB:Hid (Below (w.heap.size+1) (w.alloc (.cells #[.slice none 0 0,.bool false] 268)) ((w.alloc (.cells #[.slice none 0 0,.bool false] 268)).alloc (.map #[] 0))):=hide ((Below.refl _ _).alloc (by simp) _);have Hr:Hid (w.heap.size+1≤(w.alloc (.cells #[.slice none 0 0,.bool false] 268)).heap.size):=hide (by simp);go_enter Tryz.func216,Tryz.ntmps216
 go_wp2_with fail
 generalize (w.alloc (.cells #[.slice none 0 0,.bool false] 268)).alloc (.map #[] 0)=wb at T HB⊢
 go_wp2_with(first
  | (go_at_call 245;refine(one_any _ _ _ _).mono ?_;rintro e w' ⟨rfl,rfl⟩)
  | (go_at_call 246;refine(many_any _ _).mono ?_;rintro e w' ⟨rfl,rfl⟩)
  | ((with_reducible refine upon_row_many ?_ Tryz.underlying289 Tryz.underlying150 T.out HB.out Hr.out ?_ ?_);exact rfl;exact rfl;clear T HB;intro w1 T HB)
  | ((with_reducible refine upon_row_one1 ?_ Tryz.underlying289 Tryz.underlying150 T.out HB.out Hr.out ?_ ?_);exact rfl;exact rfl;clear T HB;intro w1 T HB)
  | ((with_reducible refine upon_row_one2 ?_ Tryz.underlying289 Tryz.underlying150 T.out HB.out Hr.out ?_ ?_);exact rfl;exact rfl;clear T HB;intro w1 T HB)
  | ((with_reducible refine upon_row_one3 ?_ Tryz.underlying289 Tryz.underlying150 T.out HB.out Hr.out ?_ ?_);exact rfl;exact rfl;clear T HB;intro w1 T HB)
  | ((with_reducible refine upon_row_nil ?_ Tryz.underlying289 Tryz.underlying150 T.out HB.out Hr.out ?_ ?_);exact rfl;exact rfl;clear T HB;intro w1 T HB))
 have hT:Tab (RowIn (w.heap.size+1)) .u8 w1 (w.heap.size+1) kindRows:=T.out;clear T;have c0:w1.cell? ⟨w.heap.size,0,none⟩=some (.slice none 0 0):=(HB.out.cell (p:=⟨w.heap.size,0,none⟩) (by simp)).trans (by simp);have c1:w1.cell? ⟨w.heap.size,1,none⟩=some (.bool false):=(HB.out.cell (p:=⟨w.heap.size,1,none⟩) (by simp)).trans (by simp);have f0:w1.frozen? ⟨w.heap.size,0,none⟩=false:=(HB.out.frozen (p:=⟨w.heap.size,0,none⟩) (by simp)).trans (by unfold World.frozen?;rw[heap_alloc_new];simp);have f1:w1.frozen? ⟨w.heap.size,1,none⟩=false:=(HB.out.frozen (p:=⟨w.heap.size,1,none⟩) (by simp)).trans (by unfold World.frozen?;rw[heap_alloc_new];simp);have hz:w.heap.size<w1.heap.size:=Nat.lt_of_succ_lt hT.lt;have HB':Hid (Below w.heap.size w w1):=hide ((below_alloc w _).trans (HB.out.mono (Nat.le_succ _)));clear HB Hr;have hzero :∀W:World,(zeroValue 268).run Tryz.prog W = .ok (.agg #[.slice none 0 0,.bool false]) W:=fun _=>by kernel_rfl
 rcases run_lookup_tab hT Tryz.underlying289 Tryz.underlying150 (hzero w1) (k:Int)with⟨hf,hrun⟩|⟨k',⟨ks,all⟩,v,hf,⟨A,c,rfl,hrd⟩,hrun⟩
 ·have Hf:=hide hf;clear hf hT hzero;rw[hrun];clear hrun
  go_wp2
  refine bodyPost_ret (v:= .tuple #[.agg #[.slice none 0 0,.bool false],.bool false]) ?_ rfl ?_
  ·obtain⟨r0,r1⟩:=two_set (o:= .cells #[.slice none 0 0,.bool false] 268) (u:= .slice none 0 0) (v:= .bool false) c0 c1;simp[results,Tryz.results216,go_sem,r0,r1]
  exact⟨((HB'.out.setCell (Nat.le_refl _) _).setCell (Nat.le_refl _) _).alloc (by simpa[World.setCell]using HB'.out.size) _,.inl ⟨Hf.out,rfl⟩⟩
 ·have Hf:=hide hf;have Hrd:=hide hrd;clear hf hT hzero hrd;rw[hrun];clear hrun
  go_wp2
  refine bodyPost_ret (v:= .tuple #[.agg #[.slice A ks.length c,.bool all],.bool true]) ?_ rfl ?_
  ·obtain⟨r0,r1⟩:=two_set (o:= .cells #[.slice A ks.length c,.bool all] 268) (u:= .slice A ks.length c) (v:= .bool all) c0 c1;simp[results,Tryz.results216,go_sem,r0,r1]
  refine⟨((HB'.out.setCell (Nat.le_refl _) _).setCell (Nat.le_refl _) _).alloc (by simpa[World.setCell]using HB'.out.size) _,.inr ⟨k',ks,all,A,c,Hf.out,rfl,?_⟩⟩;refine Rd.alloc ((Hrd.out.keep fun b hb=>?_).mono fun _ _ _=>trivial) _;rw[Below.heap_setCell _ _ _ _ (by simp;omega),Below.heap_setCell _ _ _ _ (by simp;omega)]
end
end Go.Proofs.YtialngdffhmobaaGreatDoor
