/- Part 48 of what scriptBack_cardUpto rests on. -/
import Derived.Deep.RegionWith
import Derived.Deep.DeepCutAuto
import Derived.Test.YtjjaojnglnpgaaaGreatDoorY15
import Derived.Test.YtjjaojnglnpgaaaGreatDoorY35
import Derived.Test.YtjjaojnglnpgaaaGreatDoorY16
import Derived.Test.YtjjaojnglnpgaaaGreatDoorY02
import Derived.Test.YtjjaojnglnpgaaaGreatDoorY00
set_option linter.unusedVariables false
set_option linter.unusedSimpArgs false
set_option maxHeartbeats 16000000
set_option maxRecDepth 1000000
namespace Go.Proofs.YtjjaojnglnpgaaaGreatDoor
section
open Go.RowKit
theorem BK{w:World}{b:Nat}(hT:jW w b):(Instr.lookup 100 (.map (some b)) (.int .u8 9) true).run Tryz.prog w = .ok (.tuple #[.agg #[.string {data:=#[105,109,112,111,114,116]},.func (.func 111) #[] #[]],.bool true]) w:=TI (p:=(9,iC)) hT (by simp[dS])
abbrev kH:List Value:=(.int .u8 9)::(.string {data:=#[114]})::aY.drop 2
structure iF(w wx:World)(b:Nat):Prop where
 below:Below w.heap.size w wx
 box:wx.rangeAt w.heap.size 0 kH
 word:wx.cell? ⟨b,0,none⟩=some (.string {data:=#[105,109,112,111,114,116]})
 lt:w.heap.size<wx.heap.size
theorem iF.next{w wx w':World}{b:Nat}(h:iF w wx b)(hb:Below wx.heap.size wx w'):iF w w' b :=
 ⟨h.below.trans (hb.mono (Nat.le_of_lt h.lt)),fun j v hv=>(hb.cell (p:=⟨w.heap.size,0+j,none⟩) h.lt).trans (h.box j v hv),(hb.cell (p:=⟨b,0,none⟩) (block_lt_of_cell h.word)).trans h.word,aH h.lt hb.size⟩
theorem PH:(Tryz.prog.info? 9).map (fun i=>(i.zero,i.size,i.bytes))=some (some (.string ByteArray.empty),1,16):=by kernel_rfl
abbrev jJ(W:World)(r0:Nat)(w':World):Prop:=Keep (fun k=>k<W.heap.size∧k≠r0∧k≠r0+1) W w'
theorem IU{W x y:World}{r0:Nat}(h:jJ W r0 x)(hb:Below x.heap.size x y):jJ W r0 y:=Keep.trans h (Keep.of_below hb fun k hk=>aH hk.1 h.size)
theorem PI{W x y:World}{r0:Nat}(h:jJ W r0 x)(hg:x.grownBy y (some r0)):jJ W r0 y:=Keep.grown h hg (fun k hk=>hk.1) (fun k hk hp=>by injection hk with hk;exact hp.2.1 hk.symm)
theorem PK{W x:World}{r0:Nat}(h:jJ W r0 x)(u:Value):jJ W r0 (x.setCell ⟨r0+1,0,none⟩ u):=Keep.setCell h (fun hp=>hp.2.2 rfl) u
theorem U4(w:World):Calls Tryz.prog 46 #[.slice none 0 0] w fun e w'=>e = .returned (.string {data:=#[45]})∧Below w.heap.size w w':=Ff (S:=fun _=>True) (A:=none) (c:=0) (l:=[]) ⟨.nil,Nat.zero_le _⟩ (Nat.zero_le _)
theorem PL{w:World}{B c:Nat}{A:Option Addr}(ho:w.ownsRow B 9 1 (.slice A 3 c) 3 [.string {data:=#[105,109,112,111,114,116]},.string {data:=#[114]},.string {data:=#[45]}]):
  Calls Tryz.prog 47 #[.slice A 3 c] w fun e w'=>e = .returned (.string {data:=#[105,109,112,111,114,116,32,114,32,45]})∧Below w.heap.size w w' :=
 JH (ws:=[{data:=#[105,109,112,111,114,116]},{data:=#[114]},{data:=#[45]}]) ho rfl (by decide) (by decide) (by decide)
theorem PM{P:Program}{T e:TypeId}{z:Value}{size bytes:Nat}{w:World}{base n m cB q:Nat}{v:Value}{xs us:List Value}{B:Option Addr}(ht:P.underlying T=some (.slice e))(hI:(P.info? e).map (fun i=>(i.zero,i.size,i.bytes))=some (some z,size,bytes))(hz:z.cells.size=size)(h0:0<size)
  (hown:w.ownsRow base e size v n xs) (hB:B=none→m=0) (hlen:us.length=m*size) (hone :∀u∈us,u.oneCell'=true) (hc :∀a,B=some a→∀j u,us[j]?=some u→w.cell? (a.add j)=some u)
  (hbase:base≤w.heap.size) (hmax:n+m≤maxLen) (hl:(n+m)*bytes≤140737488355328) (hq :∀g∈ob v,g≠q) (hqw:q<w.heap.size) (ty:TypeId):
  ∃v' w',(Builtin.append_ #[T,T] ty #[v,.slice B m cB]).run P w = .ok v' w'∧w'.ownsRow base e size v' (n+m) (xs++us)∧w.grownBy w' v.ownBlock∧∀g∈ob v',g≠q:=by
 obtain⟨i0,hi,hz0,hz1,hz2⟩:=info_parts hI;rcases B with _|a
 ·have hm:=hB rfl;subst hm;have hu:us=[]:=List.length_eq_zero_iff.1 (by simpa using hlen);subst hu;exact⟨v,w,LG ht hi hown ty,by simpa using hown,⟨rfl,rfl,rfl,aC _,fun _ _ _=>rfl⟩,hq⟩
 ·obtain⟨v',w',hrun,hown',hgr,hrest⟩:=run_append_own (P:=P) w base T ty e i0 z size bytes ht hi hz0 hz1 hz2 hz h0 v n xs hown a m cB us hlen (hc a rfl) hone hmax hl hbase;refine⟨v',w',hrun,hown',hgr,fun g hg=>?_⟩;have hw:=LM base T ty e i0 z size bytes ht hi hz0 hz1 hz2 v n xs hown a m cB us hlen (hc a rfl) hone hmax hl v' w' hrun;rcases hw with⟨A,c,e1,e2⟩|⟨h,_⟩
  ·rw[e2,J3 A (n+m) n c,←e1]at hg;exact hq g hg
  ·rw[ob,h]at hg;simp at hg;omega
theorem Ef{w X w2:World}{v:Value}{t:TypeId}(hX:X.rangeAt w.heap.size 0 kH)(DL:Below w.heap.size w X)(hlt:w.heap.size<X.heap.size)(hB:Below X.heap.size X w2):
  iF w (w2.alloc (.cells #[.string {data:=#[105,109,112,111,114,116]},v] t)) w2.heap.size:=by
 have hz:=hB.size;have hb2:=az w2 (.cells #[.string {data:=#[105,109,112,111,114,116]},v] t);refine⟨(DL.trans (hB.mono (Nat.le_of_lt hlt))).trans (hb2.mono (by omega)),fun j u hu=>?_,by rw[Lib.cell_of_heap (heap_alloc_new w2 _)];rfl,by simp;omega⟩;exact(hb2.cell (p:=⟨w.heap.size,0+j,none⟩) (by show w.heap.size<_;omega)).trans ((hB.cell (p:=⟨w.heap.size,0+j,none⟩) hlt).trans (hX j u hu))
theorem Eg{w X w2:World}{z v:Value}(hX:X.rangeAt w.heap.size 0 kH)(DL:Below w.heap.size w X)(hlt:w.heap.size+1<X.heap.size)(hB:Below X.heap.size X w2)(hz:X.cell? ⟨w.heap.size+1,0,none⟩=some z):
  iF w ((w2.setCell ⟨w.heap.size+1,0,none⟩ (.string {data:=#[105,109,112,111,114,116]})).setCell ⟨w.heap.size+1,1,none⟩ v) (w.heap.size+1):=by
 have hs:=hB.size;have hc:w2.cell? ⟨w.heap.size+1,0,none⟩=some z:=(hB.cell (p:=⟨w.heap.size+1,0,none⟩) hlt).trans hz;refine⟨((DL.trans (hB.mono (by omega))).setCell (p:=⟨w.heap.size+1,0,none⟩) (Nat.le_succ _) _).setCell (p:=⟨w.heap.size+1,1,none⟩) (Nat.le_succ _) _,fun j u hu=>?_,?_,by simp;omega⟩
 ·rw[World.cell?_setCell_other _ _ _ _ (by intro e;injection e with e;omega),World.cell?_setCell_other _ _ _ _ (by intro e;injection e with e;omega)];exact(hB.cell (p:=⟨w.heap.size,0+j,none⟩) (by show w.heap.size<_;omega)).trans (hX j u hu)
 ·rw[World.cell?_setCell_other _ _ _ _ (by simp)];exact World.cell?_setCell_same _ _ _ hc
theorem cell_new1(w:World)(o:Obj)(v0 v1:Value)(t:TypeId):((w.alloc o).alloc (.cells #[v0,v1] t)).cell? ⟨w.heap.size+1,0,none⟩=some v0:=by
 rw[Lib.cell_of_heap (vW (by simp))];rfl
theorem Zr{w:World}{b o n:Nat}{cs:List Value}(h:w.rangeAt b o cs):(w.drewN n).rangeAt b o cs:=h
theorem PN{w:World}{b o:Nat}{cs:List Value}(h:w.rangeAt b o cs):w.drew.rangeAt b o cs:=h
theorem xm(w:World)(x y:Value)(o:Obj){B:Nat}(hB:B≤w.heap.size):
  ((w.alloc (.cells #[x,y] 9)).alloc o).ownsRow B 9 1 (.slice (some ⟨w.heap.size,0,none⟩) 2 2) 2 [x,y]:=by
 have h:(w.alloc (.cells #[x,y] 9)).ownsRow B 9 1 (.slice (some ⟨w.heap.size,0,none⟩) 2 2) 2 [x,y]:=World.ownsRow_lit w #[x,y] 2 hB (by decide) rfl;exact zap h fun b hb=>(az _ o).block b (zag h b hb).2
theorem KY:isWord {data:=#[114]}=true:=by
 have h:(ByteArray.toList {data:=#[114]}).isEmpty=false:=by
  rw[Bool.eq_false_iff,ne_eq,List.isEmpty_iff,lH];decide
 unfold isWord;rw[h];decide
theorem zU{w:World}{a:Addr}{u v:Value}(h:w.cell? a=some u):(w.setCell a v).cell? a=some v:=World.cell?_setCell_same _ _ _ h
theorem IV(w:World):Calls Tryz.prog 41 #[.int .u8 9] w fun e w'=>e = .returned (.tuple #[.bool false,.bool false,.bool false,.bool false,.bool true])∧Below w.heap.size w w':=by
 refine(pF 9 w).mono ?_;rintro e w' ⟨rfl,h⟩;exact⟨rfl,h⟩
theorem Zt(w:World):Calls Tryz.prog 15 #[.agg #[.int .u8 9,.string {data:=#[114]},.string {data:=#[]},.string {data:=#[]},.string {data:=#[]},.int .u8 0,.string {data:=#[]},.string {data:=#[]},.int .i64 0,.slice none 0 0,.slice none 0 0,.int .u8 0,.slice none 0 0,.int .i64 0,.int .i64 0,.string {data:=#[]},.string {data:=#[]},.slice none 0 0,.slice none 0 0,.slice none 0 0]] w fun e w'=>e = .returned (.string {data:=#[105,109,112,111,114,116,32,114,32,45]})∧Below w.heap.size w w':=by
 have hB:=az w (.cells kH.toArray 46);have HB:=hide hB;clear hB;go_enter Tryz.func15,Tryz.ntmps15
 go_upto_region 1 with fail
 go_cut [3,4] (fun p q wx=>∃b:Nat,p = .pointer (some ⟨b,0,none⟩)∧q = .bool true∧iF w wx b)
 case first =>
  go_region_with (go_at_call 40;(with_reducible refine(Nz _).mono ?_);rintro e2 w2 ⟨rfl,hT,hB⟩;have hc0:=hB.cell (p:=⟨w.heap.size,0,none⟩) (by simp<;>omega);have hc1:=hB.cell (p:=⟨w.heap.size+1,0,none⟩);have hc2:=hB.cell (p:=⟨w.heap.size+1,1,none⟩);have hf1:=hB.frozen (p:=⟨w.heap.size+1,0,none⟩);have hf2:=hB.frozen (p:=⟨w.heap.size+1,1,none⟩);simp at hc1 hc2 hf1 hf2;have hlk:=BK hT;have hlk2:=(fun o=>BK (World.ownsMap.alloc hT o));simp at hlk hlk2;have hlt2:w.heap.size<w2.heap.size:=(by have h:=hB.size;simp at h;omega);have hne2 :¬w.heap.size=w2.heap.size:=(by omega);have HT:=hide hT;have HB2:=hide hB;clear hT hB)
  all_goals(try simp only[Act.put,aG,aE,aF,aD,aA,aB])
  all_goals go_wp2_with fail
  all_goals go_meet
  all_goals
   first
    | exact⟨_,rfl,rfl,Ef (by first|exact Bl w kH _|exact PN (Bl w kH _)|exact Zr (Bl w kH _)) (by first|exact HB.out|exact HB.out.drew|exact bW HB.out _) (by simp) HB2.out⟩
    | exact⟨_,rfl,rfl,Eg (by first|exact World.rangeAt_alloc (Bl w kH _) _|exact PN (World.rangeAt_alloc (Bl w kH _) _)|exact World.rangeAt_alloc (PN (Bl w kH _)) _) (by first|exact HB.out.alloc (by simp) _|exact(HB.out.alloc (by simp) _).drew|exact HB.out.drew.alloc (by simp) _) (by simp) HB2.out (cell_new1 _ _ _ _ _)⟩
 case rest =>
 obtain⟨b3,rfl,rfl,hA⟩:=hcut;have HA:=hide hA;have k0:wc.cell? ⟨w.heap.size,0,none⟩=some (.int .u8 9):=hA.box 0 _ rfl;clear hA
 go_upto_region 3 with(go_at_call 41;(with_reducible refine(IV _).mono ?_);rintro e2 w2 ⟨rfl,hB2⟩;have HA2:=hide (HA.out.next hB2);clear hB2)
 have q1:w2.cell? ⟨w.heap.size,1,none⟩=some (.string {data:=#[114]}):=HA2.out.box 1 _ rfl;have qb:w2.cell? ⟨b3,0,none⟩=some (.string {data:=#[105,109,112,111,114,116]}):=HA2.out.word;have ji:Hid (iF w ((w2.alloc (.cells #[.string {data:=#[105,109,112,111,114,116]},.string {data:=#[114]}] 9)).alloc (.cells #[.slice (some ⟨w2.heap.size,0,none⟩) 2 2] 34)) b3):=hide ((HA2.out.next (az _ _)).next (az _ _));have PO:Hid (((w2.alloc (.cells #[.string {data:=#[105,109,112,111,114,116]},.string {data:=#[114]}] 9)).alloc (.cells #[.slice (some ⟨w2.heap.size,0,none⟩) 2 2] 34)).ownsRow w.heap.size 9 1 (.slice (some ⟨w2.heap.size,0,none⟩) 2 2) 2 [.string {data:=#[105,109,112,111,114,116]},.string {data:=#[114]}]):=hide (xm _ _ _ _ (Nat.le_of_lt HA2.out.lt));have dJ:Hid (((w2.alloc (.cells #[.string {data:=#[105,109,112,111,114,116]},.string {data:=#[114]}] 9)).alloc (.cells #[.slice (some ⟨w2.heap.size,0,none⟩) 2 2] 34)).cell? ⟨w2.heap.size+1,0,none⟩=some (.slice (some ⟨w2.heap.size,0,none⟩) 2 2)):=hide (by rw[Lib.cell_of_heap (vW (by simp))];rfl);have U5:Hid (((w2.alloc (.cells #[.string {data:=#[105,109,112,111,114,116]},.string {data:=#[114]}] 9)).alloc (.cells #[.slice (some ⟨w2.heap.size,0,none⟩) 2 2] 34)).frozen? ⟨w2.heap.size+1,0,none⟩=false):=hide (by unfold World.frozen?;rw[vW (by simp)];rfl);have U6:Hid (((w2.alloc (.cells #[.string {data:=#[105,109,112,111,114,116]},.string {data:=#[114]}] 9)).alloc (.cells #[.slice (some ⟨w2.heap.size,0,none⟩) 2 2] 34)).heap.size=w2.heap.size+1+1):=hide (by simp);have hz2:=HA2.out.lt
 go_upto_region 4 with fail
 generalize (w2.alloc (.cells #[.string {data:=#[105,109,112,111,114,116]},.string {data:=#[114]}] 9)).alloc (.cells #[.slice (some ⟨w2.heap.size,0,none⟩) 2 2] 34)=W4 at ji PO dJ U5 U6⊢;clear k0 q1 qb HA HA2;have k1:W4.cell? ⟨w.heap.size,1,none⟩=some (.string {data:=#[114]}):=ji.out.box 1 _ rfl;have k2:W4.cell? ⟨w.heap.size,2,none⟩=some (.string {data:=#[]}):=ji.out.box 2 _ rfl;have k3:W4.cell? ⟨w.heap.size,3,none⟩=some (.string {data:=#[]}):=ji.out.box 3 _ rfl;have k4:W4.cell? ⟨w.heap.size,4,none⟩=some (.string {data:=#[]}):=ji.out.box 4 _ rfl;have k5:W4.cell? ⟨w.heap.size,5,none⟩=some (.int .u8 0):=ji.out.box 5 _ rfl;have k6:W4.cell? ⟨w.heap.size,6,none⟩=some (.string {data:=#[]}):=ji.out.box 6 _ rfl;have k7:W4.cell? ⟨w.heap.size,7,none⟩=some (.string {data:=#[]}):=ji.out.box 7 _ rfl;have k8:W4.cell? ⟨w.heap.size,8,none⟩=some (.int .i64 0):=ji.out.box 8 _ rfl;have k9:W4.cell? ⟨w.heap.size,9,none⟩=some (.slice none 0 0):=ji.out.box 9 _ rfl;have k10:W4.cell? ⟨w.heap.size,10,none⟩=some (.slice none 0 0):=ji.out.box 10 _ rfl;have k11:W4.cell? ⟨w.heap.size,11,none⟩=some (.int .u8 0):=ji.out.box 11 _ rfl;have k12:W4.cell? ⟨w.heap.size,12,none⟩=some (.slice none 0 0):=ji.out.box 12 _ rfl;have k13:W4.cell? ⟨w.heap.size,13,none⟩=some (.int .i64 0):=ji.out.box 13 _ rfl;have k14:W4.cell? ⟨w.heap.size,14,none⟩=some (.int .i64 0):=ji.out.box 14 _ rfl;have k15:W4.cell? ⟨w.heap.size,15,none⟩=some (.string {data:=#[]}):=ji.out.box 15 _ rfl;have k16:W4.cell? ⟨w.heap.size,16,none⟩=some (.string {data:=#[]}):=ji.out.box 16 _ rfl;have k17:W4.cell? ⟨w.heap.size,17,none⟩=some (.slice none 0 0):=ji.out.box 17 _ rfl;have k18:W4.cell? ⟨w.heap.size,18,none⟩=some (.slice none 0 0):=ji.out.box 18 _ rfl;have k19:W4.cell? ⟨w.heap.size,19,none⟩=some (.slice none 0 0):=ji.out.box 19 _ rfl
 go_upto_region 5 with(first
  | (go_at_call 42;(with_reducible refine(CB _ _).mono ?_);rintro e3 w3 ⟨rfl,rfl⟩;rw[KY])
  | (go_at_call 43;(with_reducible refine(rE _).mono ?_);rintro e5 w5 ⟨rfl,fA⟩;have dV:=hide fA;have EJ:=hide (ji.out.next fA);have n19:w5.cell? ⟨w.heap.size,19,none⟩=some (.slice none 0 0):=EJ.out.box 19 _ rfl;clear fA))
 have hmf :∀(fn:Fn) (first cap:Array Value) (w:World),(Instr.makeFunc fn first cap).run Tryz.prog w = .ok (.func fn first cap) w:=fun _ _ _ _=>rfl;have hz3:w2.heap.size+1<w3.heap.size:=by have:=U6.out;omega
 have yf:=dV.out.size;have nC:Hid (iF w (w5.alloc (.cells #[.bool true] 4)) b3):=hide (EJ.out.next (az _ _));have KZ:Below w3.heap.size w3 (w5.alloc (.cells #[.bool true] 4)):=dV.out.trans ((az _ _).mono dV.out.size);have Cm:Hid ((w5.alloc (.cells #[.bool true] 4)).ownsRow w.heap.size 9 1 (.slice (some ⟨w2.heap.size,0,none⟩) 2 2) 2 [.string {data:=#[105,109,112,111,114,116]},.string {data:=#[114]}]):=hide (zap PO.out fun b hb=>KZ.block b (zag PO.out b hb).2);have p6:(w5.alloc (.cells #[.bool true] 4)).cell? ⟨w2.heap.size+1,0,none⟩=some (.slice (some ⟨w2.heap.size,0,none⟩) 2 2):=(KZ.cell (p:=⟨w2.heap.size+1,0,none⟩) hz3).trans dJ.out;have PQ:(w5.alloc (.cells #[.bool true] 4)).frozen? ⟨w2.heap.size+1,0,none⟩=false:=(KZ.frozen (p:=⟨w2.heap.size+1,0,none⟩) hz3).trans U5.out;have r6:(w5.alloc (.cells #[.bool true] 4)).cell? ⟨w5.heap.size,0,none⟩=some (.bool true):=by rw[Lib.cell_of_heap (heap_alloc_new w5 _)];rfl
 have EZ:(w5.alloc (.cells #[.bool true] 4)).frozen? ⟨w5.heap.size,0,none⟩=false:=by unfold World.frozen?;rw[heap_alloc_new];rfl
 have Dp:(w5.alloc (.cells #[.bool true] 4)).heap.size=w5.heap.size+1:=by simp
 have U7:=hide Dp;clear n19 KZ Dp k1 k2 k3 k4 k5 k6 k7 k8 k9 k10 k11 k12 k13 k14 k15 k16 k17 k18 k19;generalize w5.alloc (.cells #[.bool true] 4)=W6 at nC Cm p6 PQ r6 EZ U7⊢;have j2:W6.cell? ⟨w.heap.size,2,none⟩=some (.string {data:=#[]}):=nC.out.box 2 _ rfl;have j3:W6.cell? ⟨w.heap.size,3,none⟩=some (.string {data:=#[]}):=nC.out.box 3 _ rfl;have j4:W6.cell? ⟨w.heap.size,4,none⟩=some (.string {data:=#[]}):=nC.out.box 4 _ rfl;have j19:W6.cell? ⟨w.heap.size,19,none⟩=some (.slice none 0 0):=nC.out.box 19 _ rfl;have hne1 :¬w.heap.size=w5.heap.size:=by have:=ji.out.lt;omega
 have hne2 :¬w2.heap.size+1=w5.heap.size:=by omega
 obtain⟨R,hR⟩:∃R,R=w5.heap.size:=⟨_,rfl⟩;rw[←hR]at r6 EZ hne1 hne2⊢;have HR:=hide hR;clear hR
 go_upto_region 14 with(go_at_call 44;(with_reducible refine(vX (by first|exact r6|exact zU r6|exact zU (zU r6)) (by first|exact EZ|exact(World.frozen?_setCell _ _ _ _).trans EZ|exact(World.frozen?_setCell _ _ _ _).trans ((World.frozen?_setCell _ _ _ _).trans EZ))).mono ?_);rintro e7 w7 ⟨rfl,hw7⟩;rw[show(true && decide ((ByteArray.mk #[]).size=0))=true from rfl]at hw7;rw[hw7];clear hw7)
 have U8:Below w.heap.size w (((W6.setCell ⟨R,0,none⟩ (.bool true)).setCell ⟨R,0,none⟩ (.bool true)).setCell ⟨R,0,none⟩ (.bool true)):=((nC.out.below.setCell (p:=⟨R,0,none⟩) (by show w.heap.size≤R;have:=HR.out;omega) _).setCell (p:=⟨R,0,none⟩) (by show w.heap.size≤R;have:=HR.out;omega) _).setCell (p:=⟨R,0,none⟩) (by show w.heap.size≤R;have:=HR.out;omega) _;have kF:=hide U8;have hne :∀(o:Nat) (X:World) (v:Value),X.cell? ⟨w.heap.size,o,none⟩=some v→(X.setCell ⟨R,0,none⟩ (.bool true)).cell? ⟨w.heap.size,o,none⟩=some v:=fun o X v h=>EI h (by intro e;injection e with e;omega);have vG :∀(X:World) (v:Value),X.cell? ⟨w2.heap.size+1,0,none⟩=some v→(X.setCell ⟨R,0,none⟩ (.bool true)).cell? ⟨w2.heap.size+1,0,none⟩=some v:=fun X v h=>EI h (by intro e;injection e with e;omega);have j7:=hne _ _ _ (hne _ _ _ (hne _ _ _ j19));have p7:=vG _ _ (vG _ _ (vG _ _ p6));have r7:(((W6.setCell ⟨R,0,none⟩ (.bool true)).setCell ⟨R,0,none⟩ (.bool true)).setCell ⟨R,0,none⟩ (.bool true)).cell? ⟨R,0,none⟩=some (.bool true):=zU (zU (zU r6));have PR:(((W6.setCell ⟨R,0,none⟩ (.bool true)).setCell ⟨R,0,none⟩ (.bool true)).setCell ⟨R,0,none⟩ (.bool true)).frozen? ⟨w2.heap.size+1,0,none⟩=false:=by rw[World.frozen?_setCell,World.frozen?_setCell,World.frozen?_setCell];exact PQ
 have BL:(((W6.setCell ⟨R,0,none⟩ (.bool true)).setCell ⟨R,0,none⟩ (.bool true)).setCell ⟨R,0,none⟩ (.bool true)).ownsRow w.heap.size 9 1 (.slice (some ⟨w2.heap.size,0,none⟩) 2 2) 2 [.string {data:=#[105,109,112,111,114,116]},.string {data:=#[114]}]:=zap Cm.out fun b hb=>by
  have hb:b=w2.heap.size:=by simp[ob,Value.ownBlock]at hb;omega
  have:=HR.out;rw[Below.heap_setCell _ _ _ _ (by show b≠R;omega),Below.heap_setCell _ _ _ _ (by show b≠R;omega),Below.heap_setCell _ _ _ _ (by show b≠R;omega)]
 have TN:(((W6.setCell ⟨R,0,none⟩ (.bool true)).setCell ⟨R,0,none⟩ (.bool true)).setCell ⟨R,0,none⟩ (.bool true)).heap.size=R+1:=by have h1:=U7.out;have h2:=HR.out;simp;omega
 have hRw:w2.heap.size+1<R:=by have:=HR.out;omega
 clear hne vG j2 j3 j4 j19 p6 PQ r6 EZ U8 hne1 hne2 hz3 yf;generalize ((W6.setCell ⟨R,0,none⟩ (.bool true)).setCell ⟨R,0,none⟩ (.bool true)).setCell ⟨R,0,none⟩ (.bool true)=W7 at kF j7 p7 r7 PR BL TN⊢;have hS7:jJ W7 w2.heap.size W7.drew:=(Keep.refl _ W7).drew;have IW:W7.drew.ownsRow w.heap.size 9 1 (.slice (some ⟨w2.heap.size,0,none⟩) 2 2) 2 [.string {data:=#[105,109,112,111,114,116]},.string {data:=#[114]}]:=BL;have hP0:W7.drew.cell? ⟨w2.heap.size+1,0,none⟩=some (.slice (some ⟨w2.heap.size,0,none⟩) 2 2):=p7;have Ei:W7.drew.frozen? ⟨w2.heap.size+1,0,none⟩=false:=PR;refine wp_region_held_drew (S:=jJ W7 w2.heap.size) (by kernel_rfl) hS7 (fun hS0=>?_);generalize W7.drew=wD at hS0 IW hP0 Ei⊢;clear hS7 BL p7 PR;refine dC 1 hS0 ?_;refine tk (v:=?_) 2 hS0 ?_ ?_;rotate_left
 ·intro w' hSw;have hc':=(Keep.cell hSw (a:=⟨w.heap.size,19,none⟩) ⟨by show w.heap.size<_;omega,by show¬w.heap.size=_;omega,by show¬w.heap.size=_;omega⟩).trans j7
  first|(go_simp;done)|(go_simp;with_reducible rfl)
 try simp only[aA,aB]
 refine wpAnyH_ready (rs:=[0,3]) (by kernel_rfl) (by simp) ?_;refine AllReadyH.cons rfl (fun K hK=>?_) ?_
 ·go_simp
  go_wp2_with fail
  refine hK.out _ _ hS0 (fun PS=>?_);clear hK K
  try simp only[Act.put,aG,aE,aF,aD,aA,aB]
  refine wpAnyH_ready (rs:=[3]) (by kernel_rfl) (by simp) ?_;refine AllReadyH.cons rfl (fun K hK=>?_) AllReadyH.nil;go_simp
  go_wp2_with(go_at_call 46;(with_reducible refine(U4 _).mono ?_);rintro e2 v2 ⟨rfl,hB2⟩)
  have hS2:=IU hS0 hB2;have hO2:=zap IW fun b hb=>hB2.block b (zag IW b hb).2;have hP2:v2.cell? ⟨w2.heap.size+1,0,none⟩=some (.slice (some ⟨w2.heap.size,0,none⟩) 2 2):=(hB2.cell (p:=⟨w2.heap.size+1,0,none⟩) (block_lt_of_cell hP0)).trans hP0;have PT:v2.frozen? ⟨w2.heap.size+1,0,none⟩=false:=(hB2.frozen (p:=⟨w2.heap.size+1,0,none⟩) (block_lt_of_cell hP0)).trans Ei;refine hK.out _ _ hS2 (fun PU=>?_);clear hK K
  try simp only[Act.put,aG,aE,aF,aD,aA,aB]
  refine wpAnyH_ready (rs:=[4]) (by kernel_rfl) (by simp) ?_;refine AllReadyH.cons rfl (fun K hK=>?_) AllReadyH.nil;go_simp
  go_wp2_with fail
  have hB3:=az v2 (.cells #[.string {data:=#[45]}] 9);have hS3:=IU hS2 hB3;have hO3:=zap hO2 fun b hb=>hB3.block b (zag hO2 b hb).2;have hP3:(v2.alloc (.cells #[.string {data:=#[45]}] 9)).cell? ⟨w2.heap.size+1,0,none⟩=some (.slice (some ⟨w2.heap.size,0,none⟩) 2 2):=(hB3.cell (p:=⟨w2.heap.size+1,0,none⟩) (block_lt_of_cell hP2)).trans hP2;have PV:(v2.alloc (.cells #[.string {data:=#[45]}] 9)).frozen? ⟨w2.heap.size+1,0,none⟩=false:=(hB3.frozen (p:=⟨w2.heap.size+1,0,none⟩) (block_lt_of_cell hP2)).trans PT;refine hK.out _ _ hS3 (fun uy=>?_);clear hK K
  try simp only[Act.put,aG,aE,aF,aD,aA,aB]
  refine wpAnyH_ready (rs:=[5]) (by kernel_rfl) (by simp) ?_;refine AllReadyH.cons rfl (fun K hK=>?_) AllReadyH.nil;obtain⟨v',w9,hrun,hO4,hg4,IX⟩:=PM (q:=w2.heap.size+1) (P:=Tryz.prog) (T:=34) (us:=[.string {data:=#[45]}]) (B:=some ⟨v2.heap.size,0,none⟩) (m:=1) (cB:=1) Tryz.underlying34 PH rfl (by decide) hO3 (fun e=>by cases e) rfl (by intro u hu;simp at hu;subst hu;rfl) (fun ad e=>by injection e with e;subst e;intro j u hu;rw[Addr.add_lit,Nat.zero_add,Lib.cell_of_heap (heap_alloc_new v2 _)];simpa using hu) (aI (by omega) (Keep.size hS3)) (by decide) (by decide) (by intro g hg;simp[ob,Value.ownBlock]at hg;omega) (block_lt_of_cell hP3) 34;refine uk (v1:= .slice (some ⟨w2.heap.size,0,none⟩) 2 2) (v2:= .slice (some ⟨v2.heap.size,0,none⟩) 1 1) rfl _ _ _ rfl (by rfl) (by rfl) hrun ?_;have hS4:=PI hS3 hg4;have Zu :∃z,w9.cell? ⟨w2.heap.size+1,0,none⟩=some z:=⟨_,(World.cell?_of_block (a:=⟨w2.heap.size+1,0,none⟩) (hg4.block (w2.heap.size+1) (block_lt_of_cell hP3) (by intro e;injection e with e;exact Nat.succ_ne_self w2.heap.size e))).trans hP3⟩;have Zv:w9.frozen? ⟨w2.heap.size+1,0,none⟩=false:=(World.frozen?_of_block (a:=⟨w2.heap.size+1,0,none⟩) (hg4.block (w2.heap.size+1) (block_lt_of_cell hP3) (by intro e;injection e with e;exact Nat.succ_ne_self w2.heap.size e))).trans PV;have hO4:w9.ownsRow w.heap.size 9 1 v' 3 [.string {data:=#[105,109,112,111,114,116]},.string {data:=#[114]},.string {data:=#[45]}]:=hO4;obtain⟨A9,c9,rfl⟩:=iw hO4;have xn :∀b∈ob (.slice A9 3 c9),b≠w2.heap.size+1:=fun b hb=>IX b hb;refine hK.out _ _ hS4 (fun PW=>?_);clear hK K
  try simp only[Act.put,aG,aE,aF,aD,aA,aB]
  refine wpAnyH_ready (rs:=[6]) (by kernel_rfl) (by simp) ?_;refine AllReadyH.cons rfl (fun K hK=>?_) AllReadyH.nil;obtain⟨z5,yf⟩:=Zu;go_simp
  go_wp2_with fail
  have hS5:=PK hS4 (.slice A9 3 c9);have U9:=zap hO4 (w':=w9.setCell ⟨w2.heap.size+1,0,none⟩ (.slice A9 3 c9)) fun b hb=>Below.heap_setCell _ _ _ _ (xn b hb);have Zw:=zU (v:= .slice A9 3 c9) yf;refine hK.out _ _ hS5 (fun PX=>?_);clear hK K
  try simp only[Act.put,aG,aE,aF,aD,aA,aB]
  refine wpAnyH_done (by kernel_rfl) ?_ _
  try simp only[Act.put,aG,aE,aF,aD,aA,aB]
  have Zx:=(Keep.cell hS5 (a:=⟨R,0,none⟩) ⟨by show R<_;omega,by show¬R=_;omega,by show¬R=_;omega⟩).trans r7;have Dp:=Keep.size hS5;have hb6:Below w.heap.size w (w9.setCell ⟨w2.heap.size+1,0,none⟩ (.slice A9 3 c9)):=kF.out.trans (Keep.below (Keep.mono hS5 fun k hk=>⟨by omega,by omega,by omega⟩));have HJ:=hide (PL U9);have Va:=hide hb6;generalize w9.setCell ⟨w2.heap.size+1,0,none⟩ (.slice A9 3 c9)=wZ at Zw Zx HJ Va Dp⊢;clear U9
  go_wp2_with(go_at_call 47;(with_reducible refine HJ.out.mono ?_);rintro e6 x6 ⟨rfl,uz⟩;have Zy:=hide uz;clear uz)
  go_ret;exact⟨rfl,Va.out.trans (Zy.out.mono (aI (by omega) Dp))⟩
 refine AllReadyH.cons rfl (fun K hK=>?_) AllReadyH.nil
 ·go_simp
  go_wp2_with(go_at_call 46;(with_reducible refine(U4 _).mono ?_);rintro e7 v7 ⟨rfl,ku⟩)
  have hS7:=IU hS0 ku;have BL:=zap IW fun b hb=>ku.block b (zag IW b hb).2;have E5:v7.cell? ⟨w2.heap.size+1,0,none⟩=some (.slice (some ⟨w2.heap.size,0,none⟩) 2 2):=(ku.cell (p:=⟨w2.heap.size+1,0,none⟩) (block_lt_of_cell hP0)).trans hP0;have IY:v7.frozen? ⟨w2.heap.size+1,0,none⟩=false:=(ku.frozen (p:=⟨w2.heap.size+1,0,none⟩) (block_lt_of_cell hP0)).trans Ei;refine hK.out _ _ hS7 (fun PY=>?_);clear hK K
  try simp only[Act.put,aG,aE,aF,aD,aA,aB]
  refine wpAnyH_ready (rs:=[0,4]) (by kernel_rfl) (by simp) ?_;refine AllReadyH.cons rfl (fun K hK=>?_) ?_
  ·go_simp
   go_wp2_with fail
   refine hK.out _ _ hS7 (fun PZ=>?_);clear hK K
   try simp only[Act.put,aG,aE,aF,aD,aA,aB]
   refine wpAnyH_ready (rs:=[4]) (by kernel_rfl) (by simp) ?_;refine AllReadyH.cons rfl (fun K hK=>?_) AllReadyH.nil;go_simp
   go_wp2_with fail
   have kM:=az v7 (.cells #[.string {data:=#[45]}] 9);have ig:=IU hS7 kM;have Zz:=zap BL fun b hb=>kM.block b (zag BL b hb).2;have La:(v7.alloc (.cells #[.string {data:=#[45]}] 9)).cell? ⟨w2.heap.size+1,0,none⟩=some (.slice (some ⟨w2.heap.size,0,none⟩) 2 2):=(kM.cell (p:=⟨w2.heap.size+1,0,none⟩) (block_lt_of_cell E5)).trans E5;have P5:(v7.alloc (.cells #[.string {data:=#[45]}] 9)).frozen? ⟨w2.heap.size+1,0,none⟩=false:=(kM.frozen (p:=⟨w2.heap.size+1,0,none⟩) (block_lt_of_cell E5)).trans IY;refine hK.out _ _ ig (fun P6=>?_);clear hK K
   try simp only[Act.put,aG,aE,aF,aD,aA,aB]
   refine wpAnyH_ready (rs:=[5]) (by kernel_rfl) (by simp) ?_;refine AllReadyH.cons rfl (fun K hK=>?_) AllReadyH.nil;obtain⟨v',w9,hrun,zV,ru,IX⟩:=PM (q:=w2.heap.size+1) (P:=Tryz.prog) (T:=34) (us:=[.string {data:=#[45]}]) (B:=some ⟨v7.heap.size,0,none⟩) (m:=1) (cB:=1) Tryz.underlying34 PH rfl (by decide) Zz (fun e=>by cases e) rfl (by intro u hu;simp at hu;subst hu;rfl) (fun ad e=>by injection e with e;subst e;intro j u hu;rw[Addr.add_lit,Nat.zero_add,Lib.cell_of_heap (heap_alloc_new v7 _)];simpa using hu) (aI (by omega) (Keep.size ig)) (by decide) (by decide) (by intro g hg;simp[ob,Value.ownBlock]at hg;omega) (block_lt_of_cell La) 34;refine uk (v1:= .slice (some ⟨w2.heap.size,0,none⟩) 2 2) (v2:= .slice (some ⟨v7.heap.size,0,none⟩) 1 1) rfl _ _ _ rfl (by rfl) (by rfl) hrun ?_;have IZ:=PI ig ru;have P7 :∃z,w9.cell? ⟨w2.heap.size+1,0,none⟩=some z:=⟨_,(World.cell?_of_block (a:=⟨w2.heap.size+1,0,none⟩) (ru.block (w2.heap.size+1) (block_lt_of_cell La) (by intro e;injection e with e;exact Nat.succ_ne_self w2.heap.size e))).trans La⟩;have Vb:w9.frozen? ⟨w2.heap.size+1,0,none⟩=false:=(World.frozen?_of_block (a:=⟨w2.heap.size+1,0,none⟩) (ru.block (w2.heap.size+1) (block_lt_of_cell La) (by intro e;injection e with e;exact Nat.succ_ne_self w2.heap.size e))).trans P5;have zV:w9.ownsRow w.heap.size 9 1 v' 3 [.string {data:=#[105,109,112,111,114,116]},.string {data:=#[114]},.string {data:=#[45]}]:=zV;obtain⟨A9,c9,rfl⟩:=iw zV;have xn :∀b∈ob (.slice A9 3 c9),b≠w2.heap.size+1:=fun b hb=>IX b hb;refine hK.out _ _ IZ (fun Lc=>?_);clear hK K
   try simp only[Act.put,aG,aE,aF,aD,aA,aB]
   refine wpAnyH_ready (rs:=[6]) (by kernel_rfl) (by simp) ?_;refine AllReadyH.cons rfl (fun K hK=>?_) AllReadyH.nil;obtain⟨z11,P8⟩:=P7;go_simp
   go_wp2_with fail
   have zW:=PK IZ (.slice A9 3 c9);have I4:=zap zV (w':=w9.setCell ⟨w2.heap.size+1,0,none⟩ (.slice A9 3 c9)) fun b hb=>Below.heap_setCell _ _ _ _ (xn b hb);have P9:=zU (v:= .slice A9 3 c9) P8;refine hK.out _ _ zW (fun Ld=>?_);clear hK K
   try simp only[Act.put,aG,aE,aF,aD,aA,aB]
   refine wpAnyH_done (by kernel_rfl) ?_ _
   try simp only[Act.put,aG,aE,aF,aD,aA,aB]
   have Qa:=(Keep.cell zW (a:=⟨R,0,none⟩) ⟨by show R<_;omega,by show¬R=_;omega,by show¬R=_;omega⟩).trans r7;have I5:=Keep.size zW;have Ee:Below w.heap.size w (w9.setCell ⟨w2.heap.size+1,0,none⟩ (.slice A9 3 c9)):=kF.out.trans (Keep.below (Keep.mono zW fun k hk=>⟨by omega,by omega,by omega⟩));have HJ:=hide (PL I4);have I7:=hide Ee;generalize w9.setCell ⟨w2.heap.size+1,0,none⟩ (.slice A9 3 c9)=wZ at P9 Qa HJ I7 I5⊢;clear I4
   go_wp2_with(go_at_call 47;(with_reducible refine HJ.out.mono ?_);rintro e12 x12 ⟨rfl,zT⟩;have Qb:=hide zT;clear zT)
   go_ret;exact⟨rfl,I7.out.trans (Qb.out.mono (aI (by omega) I5))⟩
  refine AllReadyH.cons rfl (fun K hK=>?_) AllReadyH.nil
  ·go_simp
   go_wp2_with fail
   have zX:=az v7 (.cells #[.string {data:=#[45]}] 9);have zY:=IU hS7 zX;have Qc:=zap BL fun b hb=>zX.block b (zag BL b hb).2;have zZ:(v7.alloc (.cells #[.string {data:=#[45]}] 9)).cell? ⟨w2.heap.size+1,0,none⟩=some (.slice (some ⟨w2.heap.size,0,none⟩) 2 2):=(zX.cell (p:=⟨w2.heap.size+1,0,none⟩) (block_lt_of_cell E5)).trans E5;have I8:(v7.alloc (.cells #[.string {data:=#[45]}] 9)).frozen? ⟨w2.heap.size+1,0,none⟩=false:=(zX.frozen (p:=⟨w2.heap.size+1,0,none⟩) (block_lt_of_cell E5)).trans IY;refine hK.out _ _ zY (fun Le=>?_);clear hK K
   try simp only[Act.put,aG,aE,aF,aD,aA,aB]
   refine wpAnyH_ready (rs:=[0]) (by kernel_rfl) (by simp) ?_;refine AllReadyH.cons rfl (fun K hK=>?_) AllReadyH.nil;go_simp
   go_wp2_with fail
   refine hK.out _ _ zY (fun Lh=>?_);clear hK K
   try simp only[Act.put,aG,aE,aF,aD,aA,aB]
   refine wpAnyH_ready (rs:=[5]) (by kernel_rfl) (by simp) ?_;refine AllReadyH.cons rfl (fun K hK=>?_) AllReadyH.nil;obtain⟨v',w9,hrun,Aa,Ej,IX⟩:=PM (q:=w2.heap.size+1) (P:=Tryz.prog) (T:=34) (us:=[.string {data:=#[45]}]) (B:=some ⟨v7.heap.size,0,none⟩) (m:=1) (cB:=1) Tryz.underlying34 PH rfl (by decide) Qc (fun e=>by cases e) rfl (by intro u hu;simp at hu;subst hu;rfl) (fun ad e=>by injection e with e;subst e;intro j u hu;rw[Addr.add_lit,Nat.zero_add,Lib.cell_of_heap (heap_alloc_new v7 _)];simpa using hu) (aI (by omega) (Keep.size zY)) (by decide) (by decide) (by intro g hg;simp[ob,Value.ownBlock]at hg;omega) (block_lt_of_cell zZ) 34;refine uk (v1:= .slice (some ⟨w2.heap.size,0,none⟩) 2 2) (v2:= .slice (some ⟨v7.heap.size,0,none⟩) 1 1) rfl _ _ _ rfl (by rfl) (by rfl) hrun ?_;have I9:=PI zY Ej;have Qd :∃z,w9.cell? ⟨w2.heap.size+1,0,none⟩=some z:=⟨_,(World.cell?_of_block (a:=⟨w2.heap.size+1,0,none⟩) (Ej.block (w2.heap.size+1) (block_lt_of_cell zZ) (by intro e;injection e with e;exact Nat.succ_ne_self w2.heap.size e))).trans zZ⟩;have Vd:w9.frozen? ⟨w2.heap.size+1,0,none⟩=false:=(World.frozen?_of_block (a:=⟨w2.heap.size+1,0,none⟩) (Ej.block (w2.heap.size+1) (block_lt_of_cell zZ) (by intro e;injection e with e;exact Nat.succ_ne_self w2.heap.size e))).trans I8;have Aa:w9.ownsRow w.heap.size 9 1 v' 3 [.string {data:=#[105,109,112,111,114,116]},.string {data:=#[114]},.string {data:=#[45]}]:=Aa;obtain⟨A9,c9,rfl⟩:=iw Aa;have xn :∀b∈ob (.slice A9 3 c9),b≠w2.heap.size+1:=fun b hb=>IX b hb;refine hK.out _ _ I9 (fun Lj=>?_);clear hK K
   try simp only[Act.put,aG,aE,aF,aD,aA,aB]
   refine wpAnyH_ready (rs:=[6]) (by kernel_rfl) (by simp) ?_;refine AllReadyH.cons rfl (fun K hK=>?_) AllReadyH.nil;obtain⟨z16,Qe⟩:=Qd;go_simp
   go_wp2_with fail
   have Ac:=PK I9 (.slice A9 3 c9);have Ja:=zap Aa (w':=w9.setCell ⟨w2.heap.size+1,0,none⟩ (.slice A9 3 c9)) fun b hb=>Below.heap_setCell _ _ _ _ (xn b hb);have Qg:=zU (v:= .slice A9 3 c9) Qe;refine hK.out _ _ Ac (fun Ll=>?_);clear hK K
   try simp only[Act.put,aG,aE,aF,aD,aA,aB]
   refine wpAnyH_done (by kernel_rfl) ?_ _
   try simp only[Act.put,aG,aE,aF,aD,aA,aB]
   have Qh:=(Keep.cell Ac (a:=⟨R,0,none⟩) ⟨by show R<_;omega,by show¬R=_;omega,by show¬R=_;omega⟩).trans r7;have Jb:=Keep.size Ac;have Qi:Below w.heap.size w (w9.setCell ⟨w2.heap.size+1,0,none⟩ (.slice A9 3 c9)):=kF.out.trans (Keep.below (Keep.mono Ac fun k hk=>⟨by omega,by omega,by omega⟩));have HJ:=hide (PL Ja);have Jc:=hide Qi;generalize w9.setCell ⟨w2.heap.size+1,0,none⟩ (.slice A9 3 c9)=wZ at Qg Qh HJ Jc Jb⊢;clear Ja
   go_wp2_with(go_at_call 47;(with_reducible refine HJ.out.mono ?_);rintro e17 x17 ⟨rfl,Jd⟩;have Qj:=hide Jd;clear Jd)
   go_ret;exact⟨rfl,Jc.out.trans (Qj.out.mono (aI (by omega) Jb))⟩
end
end Go.Proofs.YtjjaojnglnpgaaaGreatDoor
