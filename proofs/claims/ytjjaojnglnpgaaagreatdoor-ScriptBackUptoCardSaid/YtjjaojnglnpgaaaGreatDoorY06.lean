/- Part 7 of what scriptBack_cardUpto rests on. -/
import Derived.ChangeMaps5
import Derived.Test.YtjjaojnglnpgaaaGreatDoorProg
import Derived.Test.YtjjaojnglnpgaaaGreatDoorY01
import Derived.Test.YtjjaojnglnpgaaaGreatDoorY00
set_option linter.unusedVariables false
set_option linter.unusedSimpArgs false
set_option maxHeartbeats 16000000
set_option maxRecDepth 1000000
namespace Go.Proofs.YtjjaojnglnpgaaaGreatDoor
section
open Go.RowKit
section
variable {α : Type} {V : World → Value → α → Prop} {r : Nat} {w w' : World}
def Stable(r:Nat)(V:World→Value→α→Prop):Prop :=
 ∀(w w':World) v x,(∀i,i<w.heap.size→i≠r→w'.heap[i]?=w.heap[i]?)→V w v x→V w' v x
def Match(V:World→Value→α→Prop)(kd:IntKind)(w:World):List MapEntry→List (Int×α)→Prop
 | [],[]=>True
 | e::es,(k,x)::t=>e.key = .int kd k∧V w e.val x∧Match V kd w es t
 | _,_=>False
def Tab(V:World→Value→α→Prop)(kd:IntKind)(w:World)(r:Nat)(t:List (Int×α)):Prop :=
 ∃(es:Array MapEntry) (c:Nat),w.heap[r]?=some (.map es c)∧Match V kd w es.toList t
variable {kd : IntKind}
theorem Match.keep(hV:Stable r V)(hk :∀i,i<w.heap.size→i≠r→w'.heap[i]?=w.heap[i]?):∀{es:List MapEntry} {t:List (Int×α)},Match V kd w es t→Match V kd w' es t
 | [],[],_=>trivial
 | _::_,(_,_)::_,⟨h1,h2,h3⟩=>⟨h1,hV w w' _ _ hk h2,Match.keep hV hk h3⟩
 | [],_::_,h=>h.elim
 | _::_,[],h=>h.elim
theorem Match.snoc :∀{es:List MapEntry} {t:List (Int×α)} {e:MapEntry} {k:Int} {x:α},Match V kd w es t→e.key = .int kd k→V w e.val x→Match V kd w (es++[e]) (t++[(k,x)])
 | [],[],_,_,_,_,h1,h2=>⟨h1,h2,trivial⟩
 | _::_,(_,_)::_,_,_,_,⟨a,b,c⟩,h1,h2=>⟨a,b,Match.snoc c h1 h2⟩
 | [],_::_,_,_,_,h,_,_=>h.elim
 | _::_,[],_,_,_,h,_,_=>h.elim
theorem Match.find :∀{es:List MapEntry} {t:List (Int×α)} (k:Int) (i:Nat),Match V kd w es t→
  (t.find? (fun p=>k == p.1)=none∧Instr.findNow (.int kd) (.int kd k) es i=some none)∨
  ∃k' x j v,t.find? (fun p=>k == p.1)=some (k',x)∧V w v x∧Instr.findNow (.int kd) (.int kd k) es i=some (some (j,v))
 | [],[],_,_,_=> .inl ⟨rfl,rfl⟩
 | e::es,(k',x)::t,k,i,⟨h1,h2,h3⟩=>by
  by_cases hk:k=k'
  ·subst hk;exact .inr ⟨k,x,i,e.val,by simp,h2,by simp[Instr.findNow,h1,Instr.sameNow]⟩
  ·have hk':(k == k')=false:=by simp[hk]
   rcases Match.find k (i+1) h3 with⟨ha,hb⟩|⟨k'',x',j,v,ha,hv,hb⟩
   ·exact .inl ⟨by simp[hk,ha],by simp[Instr.findNow,h1,Instr.sameNow,hb,hk']⟩
   ·exact .inr ⟨k'',x',j,v,by simp[hk,ha],hv,by simp[Instr.findNow,h1,Instr.sameNow,hb,hk']⟩
 | [],_::_,_,_,h=>h.elim
 | _::_,[],_,_,h=>h.elim
theorem Tab.keep{t:List (Int×α)}(h:Tab V kd w r t)(hV:Stable r V)(hb:Below w.heap.size w w'):Tab V kd w' r t:=by
 obtain⟨es,c,h1,h2⟩:=h;exact⟨es,c,(hb.block r (Array.getElem?_eq_some_iff.1 h1).1).trans h1,h2.keep hV fun i hi _=>hb.block i hi⟩
theorem Tab.new(w:World):Tab V kd (w.alloc (.map #[] 0)) w.heap.size []:=⟨#[],0,heap_alloc_new w _,trivial⟩
theorem Tab.lt{t:List (Int×α)}(h:Tab V kd w r t):r<w.heap.size:=by obtain⟨es,c,h1,_⟩:=h;exact(Array.getElem?_eq_some_iff.1 h1).1
variable {P : Program} {T K E : TypeId}
theorem V8{t:List (Int×α)}(hT:Tab V kd w r t)(hV:Stable r V)(ht:P.underlying T=some (.map K E))(hK:P.underlying K=some (.int kd)){k:Int}{v:Value}{x:α}(hv:V w v x)
  (hn:t.find? (fun p=>k == p.1)=none):
  ∃w',(Instr.mapUpdate T (.map (some r)) (.int kd k) v).run P w = .ok () w'∧Tab V kd w' r (t++[(k,x)])∧w.grownBy w' (some r):=by
 obtain⟨es,c,h1,h2⟩:=hT;rcases h2.find k 0 with⟨_,hf⟩|⟨k',x',j,v',ha,_,_⟩
 ·refine⟨{w with heap:=w.heap.setIfInBounds r (.map (es.push {key:= .int kd k,val:=v,born:=c}) (c+1)) },?_,?_,?_⟩
  ·unfold Instr.mapUpdate;simp only[Sem.run_bind,run_underlying ht,Result.andThen,MapKept.run_getObj_map h1,MapKept.run_checkKey hK (k:= .int kd k) (by simp[MapKept.IsKey]) false 9999,MapKept.run_findKey hK hf,MapKept.run_setObj_map _ h1]
  ·obtain⟨ha,hb⟩:=MapKept.heap_set (o':= .map (es.push {key:= .int kd k,val:=v,born:=c}) (c+1)) h1;refine⟨_,_,ha,?_⟩;simp only[Array.toList_push];have hk :∀i,i<w.heap.size→i≠r→(w.heap.setIfInBounds r (.map (es.push {key:= .int kd k,val:=v,born:=c}) (c+1)))[i]?=w.heap[i]?:=fun i _ hne=>hb i hne;exact Match.snoc (h2.keep hV hk) rfl (hV _ _ _ _ hk hv)
  ·exact⟨rfl,rfl,rfl,by simp,fun i _ hne=>(MapKept.heap_set h1).2 i (by simpa using hne)⟩
 ·rw[hn]at ha;cases ha
theorem Gh{o:Oper}{a:Act}{K':Act→World→Prop}{Q:Exit→Act→World→Prop}{wb:World}{t:List (Int×α)}{k:Int}{v:Value}{x:α}
  (hd:o.dst=none) (ht:P.underlying T=some (.map K E)) (hK:P.underlying K=some (.int kd)) (hT:Tab V kd wb r t) (hV:Stable r V)
  (hB:Below wb.heap.size wb w) (hv:V w v x) (hn:t.find? (fun p=>k == p.1)=none)
  (h :∀w',Tab V kd w' r (t++[(k,x)])→w.grownBy w' (some r)→K' a w'):
  Oper.upon P o a K' Q (((Instr.mapUpdate T (.map (some r)) (.int kd k) v).run P w).andThen fun _ w'=> .ok .skip w'):=by
 obtain⟨w',hrun,h1,h2⟩:=V8 (hT.keep hV hB) hV ht hK hv hn;rw[hrun];show K' (a.put o.dst undef) w';rw[hd];exact h w' h1 h2
theorem V9{t:List (Int×α)}(hT:Tab V kd w r t)(ht:P.underlying T=some (.map K E))(hK:P.underlying K=some (.int kd)){z:Value}(hz:(zeroValue E).run P w = .ok z w)(k:Int):
  (t.find? (fun p=>k == p.1)=none∧(Instr.lookup T (.map (some r)) (.int kd k) true).run P w = .ok (.tuple #[z,.bool false]) w)∨
  ∃k' x v,t.find? (fun p=>k == p.1)=some (k',x)∧V w v x∧(Instr.lookup T (.map (some r)) (.int kd k) true).run P w = .ok (.tuple #[v,.bool true]) w:=by
 obtain⟨es,c,e1,e2⟩:=hT;rcases e2.find k 0 with⟨hf,hn⟩|⟨k',x,j,v,hf,hv,hn⟩
 ·refine .inl ⟨hf,?_⟩;unfold Instr.lookup;simp[Sem.run_bind,run_underlying ht,Result.andThen,MapKept.run_getObj_map e1,MapKept.run_checkKey hK (k:= .int kd k) (by simp[MapKept.IsKey]) _ 9999,MapKept.run_findKey hK hn,hz]
 ·refine .inr ⟨k',x,v,hf,hv,?_⟩;unfold Instr.lookup;simp[Sem.run_bind,run_underlying ht,Result.andThen,MapKept.run_getObj_map e1,MapKept.run_checkKey hK (k:= .int kd k) (by simp[MapKept.IsKey]) _ 9999,MapKept.run_findKey hK hn]
end
end
section
open Go.RowKit
def dE:List (Int×(List Int×Bool)):=
  [(1,[2],true),(2,[3,5],false),(3,[4],true),(4,[],false),(5,[201],true),(6,[200],false),(7,[202,200],false),(8,[200,5,5],false),(9,[200,5],false),
   (10,[200],false),(11,[200],false),(12,[25],false),(20,[],false),(21,[],false),(22,[],false),(23,[200],false),(24,[200,200],false),(25,[200],true),
   (26,[200,200],false),(27,[200,200],false),(28,[200],false),(29,[],false)]
def kindRow(k:Nat):Option (Int×(List Int×Bool)):=dE.find? fun p=>(k:Int) == p.1
def cu(r:Nat)(w:World)(v:Value)(x:List Int×Bool):Prop:=∃A c,v = .agg #[.slice A x.1.length c,.bool x.2]∧Rd (fun b=>r<b) w A (x.1.map (.int .u8))
theorem cu.stable(r:Nat):Stable r (cu r):=by
 rintro w w' v x hk ⟨A,c,rfl,h⟩;refine⟨A,c,rfl,?_⟩;have h2:Rd (fun b=>r<b∧b<w.heap.size) w A (x.1.map (.int .u8)):=h.mono fun b hlt hS=>⟨hS,hlt⟩;exact(h2.keep fun b hb=>hk b hb.2 (by omega)).mono fun b _ hS=>hS.1
theorem ED{S:Nat→Prop}{w:World}{cs:List Value}{t:TypeId}(hS:S w.heap.size):Rd S (w.alloc (.cells cs.toArray t)) (some ⟨w.heap.size,0,none⟩) cs:=by
 refine .inr ⟨_,_,rfl,hS,fun j u hu=>?_⟩;rw[Nat.zero_add,World.cell?_alloc_new]
 simpa using hu
theorem one_any(A:Option Addr)(n c:Nat)(w:World):
  Calls Tryz.prog 294 #[.slice A n c] w fun e w'=>e = .returned (.agg #[.slice A n c,.bool false])∧w.alloc (.cells #[.slice A n c,.bool false] 352)=w':=by
 go_enter Tryz.func294,Tryz.ntmps294
 go_wp2
 exact bodyPost_ret (v:= .agg #[.slice A n c,.bool false]) (by simp[results,Tryz.results294,go_sem]) rfl ⟨rfl,rfl⟩
theorem uK(k:Int)(w:World):
  Calls Tryz.prog 295 #[.int .u8 k] w fun e w'=>e = .returned (.agg #[.slice (some ⟨w.heap.size+1,0,none⟩) 1 1,.bool true])∧
   (w.alloc (.cells #[.slice (some ⟨w.heap.size+1,0,none⟩) 1 1,.bool true] 352)).alloc (.cells #[.int .u8 k] 216)=w':=by
 go_enter Tryz.func295,Tryz.ntmps295
 go_wp2
 exact bodyPost_ret (v:= .agg #[.slice (some ⟨w.heap.size+1,0,none⟩) 1 1,.bool true]) (by simp[results,Tryz.results295,go_sem]) rfl ⟨rfl,rfl⟩
theorem uM{r:Nat}{w:World}{o:Obj}{k:Int}{t:TypeId}(h:r<w.heap.size):cu r ((w.alloc o).alloc (.cells #[.int .u8 k] t)) (.agg #[.slice (some ⟨w.heap.size+1,0,none⟩) 1 1,.bool true]) ([k],true):=by
 refine⟨_,_,rfl,?_⟩;have:=ED (S:=fun b=>r<b) (w:=w.alloc o) (cs:=[.int .u8 k]) (t:=t) (by simp;omega)
 simpa using this
theorem uN{r:Nat}{w:World}{o:Obj}{k:Int}{t:TypeId}(h:r<w.heap.size):cu r ((w.alloc (.cells #[.int .u8 k] t)).alloc o) (.agg #[.slice (some ⟨w.heap.size,0,none⟩) 1 1,.bool false]) ([k],false):=
 ⟨_,_,rfl,(ED (S:=fun b=>r<b) (cs:=[.int .u8 k]) (by omega)).alloc o⟩
theorem uO{r:Nat}{w:World}{o:Obj}{k l:Int}{t:TypeId}(h:r<w.heap.size):cu r ((w.alloc (.cells #[.int .u8 k,.int .u8 l] t)).alloc o) (.agg #[.slice (some ⟨w.heap.size,0,none⟩) 2 2,.bool false]) ([k,l],false):=
 ⟨_,_,rfl,(ED (S:=fun b=>r<b) (cs:=[.int .u8 k,.int .u8 l]) (by omega)).alloc o⟩
theorem uP{r:Nat}{w:World}{o:Obj}{k l m:Int}{t:TypeId}(h:r<w.heap.size):cu r ((w.alloc (.cells #[.int .u8 k,.int .u8 l,.int .u8 m] t)).alloc o) (.agg #[.slice (some ⟨w.heap.size,0,none⟩) 3 3,.bool false]) ([k,l,m],false):=
 ⟨_,_,rfl,(ED (S:=fun b=>r<b) (cs:=[.int .u8 k,.int .u8 l,.int .u8 m]) (by omega)).alloc o⟩
theorem yY{r:Nat}{w:World}{o:Obj}(_h:r<w.heap.size):cu r (w.alloc o) (.agg #[.slice none 0 0,.bool false]) ([],false):=⟨_,_,rfl,Rd.nil⟩
theorem Gi{w0 wb W w1:World}{r:Nat}(h0:Below r w0 wb)(h:Below wb.heap.size wb W)(hr:r≤w0.heap.size)(hg:W.grownBy w1 (some r)):Below r w0 w1 :=
 (h0.trans (h.mono (aI hr h0.size))).grown hg (aI hr (aI h0.size h.size)) (by rintro k ⟨⟩;exact aC _)
theorem We{P:Program}{T K E:TypeId}{o:Oper}{a:Act}{K':Act→World→Prop}{Q:Exit→Act→World→Prop}{w0 wb:World}{r:Nat}{t:List (Int×(List Int×Bool))}{k:Int}{o1:Obj}{k1:Int}{t1:TypeId}
  (hd:o.dst=none) (ht:P.underlying T=some (.map K E)) (hK:P.underlying K=some (.int .u8)) (hT:Tab (cu r) .u8 wb r t) (HB:Below r w0 wb) (hr:r≤w0.heap.size) (hn:t.find? (fun p=>k == p.1)=none)
  (h :∀w',Hid (Tab (cu r) .u8 w' r (t++[(k,([k1],true))]))→Hid (Below r w0 w')→K' a w'):
  Oper.upon P o a K' Q (((Instr.mapUpdate T (.map (some r)) (.int .u8 k) (.agg #[.slice (some ⟨wb.heap.size+1,0,none⟩) 1 1,.bool true])).run P ((wb.alloc o1).alloc (.cells #[.int .u8 k1] t1))).andThen fun _ w'=> .ok .skip w'):=
 Gh hd ht hK hT (cu.stable r) (fO _ _) (uM hT.lt) hn fun w' h1 h2=>h w' (hide h1) (hide (Gi HB (fO _ _) hr h2))
theorem Wh{P:Program}{T K E:TypeId}{o:Oper}{a:Act}{K':Act→World→Prop}{Q:Exit→Act→World→Prop}{w0 wb:World}{r:Nat}{t:List (Int×(List Int×Bool))}{k:Int}{o1:Obj}{k1:Int}{t1:TypeId}
  (hd:o.dst=none) (ht:P.underlying T=some (.map K E)) (hK:P.underlying K=some (.int .u8)) (hT:Tab (cu r) .u8 wb r t) (HB:Below r w0 wb) (hr:r≤w0.heap.size) (hn:t.find? (fun p=>k == p.1)=none)
  (h :∀w',Hid (Tab (cu r) .u8 w' r (t++[(k,([k1],false))]))→Hid (Below r w0 w')→K' a w'):
  Oper.upon P o a K' Q (((Instr.mapUpdate T (.map (some r)) (.int .u8 k) (.agg #[.slice (some ⟨wb.heap.size,0,none⟩) 1 1,.bool false])).run P ((wb.alloc (.cells #[.int .u8 k1] t1)).alloc o1)).andThen fun _ w'=> .ok .skip w'):=
 Gh hd ht hK hT (cu.stable r) (fO _ _) (uN hT.lt) hn fun w' h1 h2=>h w' (hide h1) (hide (Gi HB (fO _ _) hr h2))
theorem Wi{P:Program}{T K E:TypeId}{o:Oper}{a:Act}{K':Act→World→Prop}{Q:Exit→Act→World→Prop}{w0 wb:World}{r:Nat}{t:List (Int×(List Int×Bool))}{k:Int}{o1:Obj}{k1 k2:Int}{t1:TypeId}
  (hd:o.dst=none) (ht:P.underlying T=some (.map K E)) (hK:P.underlying K=some (.int .u8)) (hT:Tab (cu r) .u8 wb r t) (HB:Below r w0 wb) (hr:r≤w0.heap.size) (hn:t.find? (fun p=>k == p.1)=none)
  (h :∀w',Hid (Tab (cu r) .u8 w' r (t++[(k,([k1,k2],false))]))→Hid (Below r w0 w')→K' a w'):
  Oper.upon P o a K' Q (((Instr.mapUpdate T (.map (some r)) (.int .u8 k) (.agg #[.slice (some ⟨wb.heap.size,0,none⟩) 2 2,.bool false])).run P ((wb.alloc (.cells #[.int .u8 k1,.int .u8 k2] t1)).alloc o1)).andThen fun _ w'=> .ok .skip w'):=
 Gh hd ht hK hT (cu.stable r) (fO _ _) (uO hT.lt) hn fun w' h1 h2=>h w' (hide h1) (hide (Gi HB (fO _ _) hr h2))
theorem Wj{P:Program}{T K E:TypeId}{o:Oper}{a:Act}{K':Act→World→Prop}{Q:Exit→Act→World→Prop}{w0 wb:World}{r:Nat}{t:List (Int×(List Int×Bool))}{k:Int}{o1:Obj}{k1 k2 k3:Int}{t1:TypeId}
  (hd:o.dst=none) (ht:P.underlying T=some (.map K E)) (hK:P.underlying K=some (.int .u8)) (hT:Tab (cu r) .u8 wb r t) (HB:Below r w0 wb) (hr:r≤w0.heap.size) (hn:t.find? (fun p=>k == p.1)=none)
  (h :∀w',Hid (Tab (cu r) .u8 w' r (t++[(k,([k1,k2,k3],false))]))→Hid (Below r w0 w')→K' a w'):
  Oper.upon P o a K' Q (((Instr.mapUpdate T (.map (some r)) (.int .u8 k) (.agg #[.slice (some ⟨wb.heap.size,0,none⟩) 3 3,.bool false])).run P ((wb.alloc (.cells #[.int .u8 k1,.int .u8 k2,.int .u8 k3] t1)).alloc o1)).andThen fun _ w'=> .ok .skip w'):=
 Gh hd ht hK hT (cu.stable r) (fO _ _) (uP hT.lt) hn fun w' h1 h2=>h w' (hide h1) (hide (Gi HB (fO _ _) hr h2))
theorem Wl{P:Program}{T K E:TypeId}{o:Oper}{a:Act}{K':Act→World→Prop}{Q:Exit→Act→World→Prop}{w0 wb:World}{r:Nat}{t:List (Int×(List Int×Bool))}{k:Int}{o1:Obj}
  (hd:o.dst=none) (ht:P.underlying T=some (.map K E)) (hK:P.underlying K=some (.int .u8)) (hT:Tab (cu r) .u8 wb r t) (HB:Below r w0 wb) (hr:r≤w0.heap.size) (hn:t.find? (fun p=>k == p.1)=none)
  (h :∀w',Hid (Tab (cu r) .u8 w' r (t++[(k,([],false))]))→Hid (Below r w0 w')→K' a w'):
  Oper.upon P o a K' Q (((Instr.mapUpdate T (.map (some r)) (.int .u8 k) (.agg #[.slice none 0 0,.bool false])).run P (wb.alloc o1)).andThen fun _ w'=> .ok .skip w'):=
 Gh hd ht hK hT (cu.stable r) (az _ _) (yY hT.lt) hn fun w' h1 h2=>h w' (hide h1) (hide (Gi HB (az _ _) hr h2))
theorem oU{w1:World}{b:Nat}{x y u v:Value}{o:Obj}(h0:w1.cell? ⟨b,0,none⟩=some x)(h1:w1.cell? ⟨b,1,none⟩=some y):
  (((w1.setCell ⟨b,0,none⟩ u).setCell ⟨b,1,none⟩ v).alloc o).cell? ⟨b,0,none⟩=some u∧(((w1.setCell ⟨b,0,none⟩ u).setCell ⟨b,1,none⟩ v).alloc o).cell? ⟨b,1,none⟩=some v:=by
 have hb:b<w1.heap.size:=block_lt_of_cell h0;rw[World.cell?_alloc_lt _ _ _ (by simpa[World.setCell]using hb),World.cell?_alloc_lt _ _ _ (by simpa[World.setCell]using hb)];rw[World.cell?_setCell_other _ _ _ _ (by simp)];exact⟨World.cell?_setCell_same _ _ _ h0,World.cell?_setCell_same _ _ _ (u:=y) ((World.cell?_setCell_other _ _ _ _ (by simp)).trans h1)⟩
def uQ(k:Nat)(w:World)(e:Ending)(w':World):Prop :=
 Below w.heap.size w w'∧((kindRow k=none∧e = .returned (.tuple #[.agg #[.slice none 0 0,.bool false],.bool false]))∨
  ∃k' ks all A c,kindRow k=some (k',ks,all)∧e = .returned (.tuple #[.agg #[.slice A ks.length c,.bool all],.bool true])∧Rd (fun _=>True) w' A (ks.map (.int .u8)))
theorem Rw(k:Nat)(w:World):Calls Tryz.prog 283 #[.int .u8 k] w (uQ k w):=by
 have hmm:=@run_makeMap Tryz.prog;have T:Hid (Tab (cu (w.heap.size+1)) .u8 ((w.alloc (.cells #[.slice none 0 0,.bool false] 352)).alloc (.map #[] 0)) (w.heap.size+1) []):=hide (by
  have:=Tab.new (V:=cu (w.heap.size+1)) (kd:= .u8) (w.alloc (.cells #[.slice none 0 0,.bool false] 352));rw[show(w.alloc (.cells #[.slice none 0 0,.bool false] 352)).heap.size=w.heap.size+1 from by simp]at this;exact this)
 have HB:Hid (Below (w.heap.size+1) (w.alloc (.cells #[.slice none 0 0,.bool false] 352)) ((w.alloc (.cells #[.slice none 0 0,.bool false] 352)).alloc (.map #[] 0))):=hide ((Below.refl _ _).alloc (by simp) _);have Hr:Hid (w.heap.size+1≤(w.alloc (.cells #[.slice none 0 0,.bool false] 352)).heap.size):=hide (by simp);go_enter Tryz.func283,Tryz.ntmps283
 go_wp2_with fail
 generalize (w.alloc (.cells #[.slice none 0 0,.bool false] 352)).alloc (.map #[] 0)=wb at T HB⊢
 go_wp2_with(first
  | (go_at_call 294;refine(one_any _ _ _ _).mono ?_;rintro e w' ⟨rfl,rfl⟩)
  | (go_at_call 295;refine(uK _ _).mono ?_;rintro e w' ⟨rfl,rfl⟩)
  | ((with_reducible refine We ?_ Tryz.underlying363 Tryz.underlying216 T.out HB.out Hr.out ?_ ?_);exact rfl;exact rfl;clear T HB;intro w1 T HB)
  | ((with_reducible refine Wh ?_ Tryz.underlying363 Tryz.underlying216 T.out HB.out Hr.out ?_ ?_);exact rfl;exact rfl;clear T HB;intro w1 T HB)
  | ((with_reducible refine Wi ?_ Tryz.underlying363 Tryz.underlying216 T.out HB.out Hr.out ?_ ?_);exact rfl;exact rfl;clear T HB;intro w1 T HB)
  | ((with_reducible refine Wj ?_ Tryz.underlying363 Tryz.underlying216 T.out HB.out Hr.out ?_ ?_);exact rfl;exact rfl;clear T HB;intro w1 T HB)
  | ((with_reducible refine Wl ?_ Tryz.underlying363 Tryz.underlying216 T.out HB.out Hr.out ?_ ?_);exact rfl;exact rfl;clear T HB;intro w1 T HB))
 have hT:Tab (cu (w.heap.size+1)) .u8 w1 (w.heap.size+1) dE:=T.out;clear T;have c0:w1.cell? ⟨w.heap.size,0,none⟩=some (.slice none 0 0):=(HB.out.cell (p:=⟨w.heap.size,0,none⟩) (by simp)).trans (by simp);have c1:w1.cell? ⟨w.heap.size,1,none⟩=some (.bool false):=(HB.out.cell (p:=⟨w.heap.size,1,none⟩) (by simp)).trans (by simp);have f0:w1.frozen? ⟨w.heap.size,0,none⟩=false:=(HB.out.frozen (p:=⟨w.heap.size,0,none⟩) (by simp)).trans (by unfold World.frozen?;rw[heap_alloc_new];simp);have f1:w1.frozen? ⟨w.heap.size,1,none⟩=false:=(HB.out.frozen (p:=⟨w.heap.size,1,none⟩) (by simp)).trans (by unfold World.frozen?;rw[heap_alloc_new];simp);have hz:w.heap.size<w1.heap.size:=Nat.lt_of_succ_lt hT.lt;have HB':Hid (Below w.heap.size w w1):=hide ((az w _).trans (HB.out.mono (Nat.le_succ _)));clear HB Hr;have hzero :∀W:World,(zeroValue 352).run Tryz.prog W = .ok (.agg #[.slice none 0 0,.bool false]) W:=fun _=>by kernel_rfl
 rcases V9 hT Tryz.underlying363 Tryz.underlying216 (hzero w1) (k:Int)with⟨hf,hrun⟩|⟨k',⟨ks,all⟩,v,hf,⟨A,c,rfl,hrd⟩,hrun⟩
 ·have Hf:=hide hf;clear hf hT hzero;rw[hrun];clear hrun
  go_wp2
  refine bodyPost_ret (v:= .tuple #[.agg #[.slice none 0 0,.bool false],.bool false]) ?_ rfl ?_
  ·obtain⟨r0,r1⟩:=oU (o:= .cells #[.slice none 0 0,.bool false] 352) (u:= .slice none 0 0) (v:= .bool false) c0 c1;simp[results,Tryz.results283,go_sem,r0,r1]
  exact⟨((HB'.out.setCell (aC _) _).setCell (aC _) _).alloc (by simpa[World.setCell]using HB'.out.size) _,.inl ⟨Hf.out,rfl⟩⟩
 ·have Hf:=hide hf;have Rx:=hide hrd;clear hf hT hzero hrd;rw[hrun];clear hrun
  go_wp2
  refine bodyPost_ret (v:= .tuple #[.agg #[.slice A ks.length c,.bool all],.bool true]) ?_ rfl ?_
  ·obtain⟨r0,r1⟩:=oU (o:= .cells #[.slice A ks.length c,.bool all] 352) (u:= .slice A ks.length c) (v:= .bool all) c0 c1;simp[results,Tryz.results283,go_sem,r0,r1]
  refine⟨((HB'.out.setCell (aC _) _).setCell (aC _) _).alloc (by simpa[World.setCell]using HB'.out.size) _,.inr ⟨k',ks,all,A,c,Hf.out,rfl,?_⟩⟩;refine Rd.alloc ((Rx.out.keep fun b hb=>?_).mono fun _ _ _=>trivial) _;rw[Below.heap_setCell _ _ _ _ (by simp;omega),Below.heap_setCell _ _ _ _ (by simp;omega)]
end
end Go.Proofs.YtjjaojnglnpgaaaGreatDoor
