/- Part 46 of what scriptShows_cardUpto rests on. -/
import Derived.Deep.RegionWith
import Derived.Deep.DeepCutAuto
import Derived.Test.YtjjaojnglnpgaaaGreatDoorZ25
import Derived.Test.YtjjaojnglnpgaaaGreatDoorZ39
import Derived.Test.YtjjaojnglnpgaaaGreatDoorZ09
import Derived.Test.YtjjaojnglnpgaaaGreatDoorZ03
import Derived.Test.YtjjaojnglnpgaaaGreatDoorZ00
set_option linter.unusedVariables false
set_option linter.unusedSimpArgs false
set_option maxHeartbeats 16000000
set_option maxRecDepth 1000000
namespace Go.Proofs.YtjjaojnglnpgaaaGreatDoor
section
open Go.RowKit
theorem EG{w:World}{b:Nat}(hT:mJ w b):(Instr.lookup 100 (.map (some b)) (.int .u8 9) true).run Tryz.prog w = .ok (.tuple #[.agg #[.string {data:=#[105,109,112,111,114,116]},.func (.func 111) #[] #[]],.bool true]) w:=WQ (p:=(9,aV)) hT (by simp[dP])
abbrev nz:List Value:=(.int .u8 9)::(.string {data:=#[114]})::ak.drop 2
structure jM(w wx:World)(b:Nat):Prop where
 below:Below w.heap.size w wx
 box:wx.rangeAt w.heap.size 0 nz
 word:wx.cell? ⟨b,0,none⟩=some (.string {data:=#[105,109,112,111,114,116]})
 lt:w.heap.size<wx.heap.size
theorem jM.next{w wx w':World}{b:Nat}(h:jM w wx b)(hb:Below wx.heap.size wx w'):jM w w' b :=
 ⟨h.below.trans (hb.mono (Nat.le_of_lt h.lt)),fun j v hv=>(hb.cell (p:=⟨w.heap.size,0+j,none⟩) h.lt).trans (h.box j v hv),(hb.cell (p:=⟨b,0,none⟩) (block_lt_of_cell h.word)).trans h.word,aH h.lt hb.size⟩
theorem SS:(Tryz.prog.info? 9).map (fun i=>(i.zero,i.size,i.bytes))=some (some (.string ByteArray.empty),1,16):=by kernel_rfl
abbrev lW(W:World)(r0:Nat)(w':World):Prop:=Keep (fun k=>k<W.heap.size∧k≠r0∧k≠r0+1) W w'
theorem LG{W x y:World}{r0:Nat}(h:lW W r0 x)(hb:Below x.heap.size x y):lW W r0 y:=Keep.trans h (Keep.of_below hb fun k hk=>aH hk.1 h.size)
theorem SV{W x y:World}{r0:Nat}(h:lW W r0 x)(hg:x.grownBy y (some r0)):lW W r0 y:=Keep.grown h hg (fun k hk=>hk.1) (fun k hk hp=>by injection hk with hk;exact hp.2.1 hk.symm)
theorem SX{W x:World}{r0:Nat}(h:lW W r0 x)(u:Value):lW W r0 (x.setCell ⟨r0+1,0,none⟩ u):=Keep.setCell h (fun hp=>hp.2.2 rfl) u
theorem XB(w:World):Calls Tryz.prog 46 #[.slice none 0 0] w fun e w'=>e = .returned (.string {data:=#[45]})∧Below w.heap.size w w':=JE (S:=fun _=>True) (A:=none) (c:=0) (l:=[]) ⟨.nil,Nat.zero_le _⟩ (Nat.zero_le _)
theorem SY{w:World}{B c:Nat}{A:Option Addr}(ho:w.ownsRow B 9 1 (.slice A 3 c) 3 [.string {data:=#[105,109,112,111,114,116]},.string {data:=#[114]},.string {data:=#[45]}]):
  Calls Tryz.prog 47 #[.slice A 3 c] w fun e w'=>e = .returned (.string {data:=#[105,109,112,111,114,116,32,114,32,45]})∧Below w.heap.size w w' :=
 Nv (ws:=[{data:=#[105,109,112,111,114,116]},{data:=#[114]},{data:=#[45]}]) ho rfl (by decide) (by decide) (by decide)
theorem Tc{P:Program}{T e:TypeId}{z:Value}{size bytes:Nat}{w:World}{base n m cB q:Nat}{v:Value}{xs us:List Value}{B:Option Addr}(ht:P.underlying T=some (.slice e))(hI:(P.info? e).map (fun i=>(i.zero,i.size,i.bytes))=some (some z,size,bytes))(hz:z.cells.size=size)(h0:0<size)
  (hown:w.ownsRow base e size v n xs) (hB:B=none→m=0) (hlen:us.length=m*size) (hone :∀u∈us,u.oneCell'=true) (hc :∀a,B=some a→∀j u,us[j]?=some u→w.cell? (a.add j)=some u)
  (hbase:base≤w.heap.size) (hmax:n+m≤maxLen) (hl:(n+m)*bytes≤140737488355328) (hq :∀g∈ob v,g≠q) (hqw:q<w.heap.size) (ty:TypeId):
  ∃v' w',(Builtin.append_ #[T,T] ty #[v,.slice B m cB]).run P w = .ok v' w'∧w'.ownsRow base e size v' (n+m) (xs++us)∧w.grownBy w' v.ownBlock∧∀g∈ob v',g≠q:=by
 obtain⟨i0,hi,hz0,hz1,hz2⟩:=info_parts hI;rcases B with _|a
 ·have hm:=hB rfl;subst hm;have hu:us=[]:=List.length_eq_zero_iff.1 (by simpa using hlen);subst hu;exact⟨v,w,MW ht hi hown ty,by simpa using hown,⟨rfl,rfl,rfl,aC _,fun _ _ _=>rfl⟩,hq⟩
 ·obtain⟨v',w',hrun,hown',hgr,hrest⟩:=run_append_own (P:=P) w base T ty e i0 z size bytes ht hi hz0 hz1 hz2 hz h0 v n xs hown a m cB us hlen (hc a rfl) hone hmax hl hbase;refine⟨v',w',hrun,hown',hgr,fun g hg=>?_⟩;have hw:=PD base T ty e i0 z size bytes ht hi hz0 hz1 hz2 v n xs hown a m cB us hlen (hc a rfl) hone hmax hl v' w' hrun;rcases hw with⟨A,c,e1,e2⟩|⟨h,_⟩
  ·rw[e2,QV A (n+m) n c,←e1]at hg;exact hq g hg
  ·rw[ob,h]at hg;simp at hg;omega
theorem GY{w X w2:World}{v:Value}{t:TypeId}(hX:X.rangeAt w.heap.size 0 nz)(F9:Below w.heap.size w X)(hlt:w.heap.size<X.heap.size)(hB:Below X.heap.size X w2):
  jM w (w2.alloc (.cells #[.string {data:=#[105,109,112,111,114,116]},v] t)) w2.heap.size:=by
 have hz:=hB.size;have hb2:=az w2 (.cells #[.string {data:=#[105,109,112,111,114,116]},v] t);refine⟨(F9.trans (hB.mono (Nat.le_of_lt hlt))).trans (hb2.mono (by omega)),fun j u hu=>?_,by rw[Lib.cell_of_heap (heap_alloc_new w2 _)];rfl,by simp;omega⟩;exact(hb2.cell (p:=⟨w.heap.size,0+j,none⟩) (by show w.heap.size<_;omega)).trans ((hB.cell (p:=⟨w.heap.size,0+j,none⟩) hlt).trans (hX j u hu))
theorem GZ{w X w2:World}{z v:Value}(hX:X.rangeAt w.heap.size 0 nz)(F9:Below w.heap.size w X)(hlt:w.heap.size+1<X.heap.size)(hB:Below X.heap.size X w2)(hz:X.cell? ⟨w.heap.size+1,0,none⟩=some z):
  jM w ((w2.setCell ⟨w.heap.size+1,0,none⟩ (.string {data:=#[105,109,112,111,114,116]})).setCell ⟨w.heap.size+1,1,none⟩ v) (w.heap.size+1):=by
 have hs:=hB.size;have hc:w2.cell? ⟨w.heap.size+1,0,none⟩=some z:=(hB.cell (p:=⟨w.heap.size+1,0,none⟩) hlt).trans hz;refine⟨((F9.trans (hB.mono (by omega))).setCell (p:=⟨w.heap.size+1,0,none⟩) (Nat.le_succ _) _).setCell (p:=⟨w.heap.size+1,1,none⟩) (Nat.le_succ _) _,fun j u hu=>?_,?_,by simp;omega⟩
 ·rw[World.cell?_setCell_other _ _ _ _ (by intro e;injection e with e;omega),World.cell?_setCell_other _ _ _ _ (by intro e;injection e with e;omega)];exact(hB.cell (p:=⟨w.heap.size,0+j,none⟩) (by show w.heap.size<_;omega)).trans (hX j u hu)
 ·rw[World.cell?_setCell_other _ _ _ _ (by simp)];exact World.cell?_setCell_same _ _ _ hc
theorem cell_new1(w:World)(o:Obj)(v0 v1:Value)(t:TypeId):((w.alloc o).alloc (.cells #[v0,v1] t)).cell? ⟨w.heap.size+1,0,none⟩=some v0:=by
 rw[Lib.cell_of_heap (yB (by simp))];rfl
theorem zia{w:World}{b o n:Nat}{cs:List Value}(h:w.rangeAt b o cs):(w.drewN n).rangeAt b o cs:=h
theorem Td{w:World}{b o:Nat}{cs:List Value}(h:w.rangeAt b o cs):w.drew.rangeAt b o cs:=h
theorem zF(w:World)(x y:Value)(o:Obj){B:Nat}(hB:B≤w.heap.size):
  ((w.alloc (.cells #[x,y] 9)).alloc o).ownsRow B 9 1 (.slice (some ⟨w.heap.size,0,none⟩) 2 2) 2 [x,y]:=by
 have h:(w.alloc (.cells #[x,y] 9)).ownsRow B 9 1 (.slice (some ⟨w.heap.size,0,none⟩) 2 2) 2 [x,y]:=World.ownsRow_lit w #[x,y] 2 hB (by decide) rfl;exact nZ h fun b hb=>(az _ o).block b (og h b hb).2
theorem OW:isWord {data:=#[114]}=true:=by
 have h:(ByteArray.toList {data:=#[114]}).isEmpty=false:=by
  rw[Bool.eq_false_iff,ne_eq,List.isEmpty_iff,mg];decide
 unfold isWord;rw[h];decide
theorem Di{w:World}{a:Addr}{u v:Value}(h:w.cell? a=some u):(w.setCell a v).cell? a=some v:=World.cell?_setCell_same _ _ _ h
theorem LH(w:World):Calls Tryz.prog 41 #[.int .u8 9] w fun e w'=>e = .returned (.tuple #[.bool false,.bool false,.bool false,.bool false,.bool true])∧Below w.heap.size w w':=by
 refine(rC 9 w).mono ?_;rintro e w' ⟨rfl,h⟩;exact⟨rfl,h⟩
theorem zib(w:World):Calls Tryz.prog 15 #[.agg #[.int .u8 9,.string {data:=#[114]},.string {data:=#[]},.string {data:=#[]},.string {data:=#[]},.int .u8 0,.string {data:=#[]},.string {data:=#[]},.int .i64 0,.slice none 0 0,.slice none 0 0,.int .u8 0,.slice none 0 0,.int .i64 0,.int .i64 0,.string {data:=#[]},.string {data:=#[]},.slice none 0 0,.slice none 0 0,.slice none 0 0]] w fun e w'=>e = .returned (.string {data:=#[105,109,112,111,114,116,32,114,32,45]})∧Below w.heap.size w w':=by
 have hB:=az w (.cells nz.toArray 46);have HB:=hide hB;clear hB;go_enter Tryz.func15,Tryz.ntmps15
 go_upto_region 1 with fail
 go_cut [3,4] (fun p q wx=>∃b:Nat,p = .pointer (some ⟨b,0,none⟩)∧q = .bool true∧jM w wx b)
 case first =>
  go_region_with (go_at_call 40;(with_reducible refine(QK _).mono ?_);rintro e2 w2 ⟨rfl,hT,hB⟩;have hc0:=hB.cell (p:=⟨w.heap.size,0,none⟩) (by simp<;>omega);have hc1:=hB.cell (p:=⟨w.heap.size+1,0,none⟩);have hc2:=hB.cell (p:=⟨w.heap.size+1,1,none⟩);have hf1:=hB.frozen (p:=⟨w.heap.size+1,0,none⟩);have hf2:=hB.frozen (p:=⟨w.heap.size+1,1,none⟩);simp at hc1 hc2 hf1 hf2;have hlk:=EG hT;have hlk2:=(fun o=>EG (World.ownsMap.alloc hT o));simp at hlk hlk2;have hlt2:w.heap.size<w2.heap.size:=(by have h:=hB.size;simp at h;omega);have hne2 :¬w.heap.size=w2.heap.size:=(by omega);have HT:=hide hT;have HB2:=hide hB;clear hT hB)
  all_goals(try simp only[Act.put,aG,aE,aF,aD,aA,aB])
  all_goals go_wp2_with fail
  all_goals go_meet
  all_goals
   first
    | exact⟨_,rfl,rfl,GY (by first|exact FZ w nz _|exact Td (FZ w nz _)|exact zia (FZ w nz _)) (by first|exact HB.out|exact HB.out.drew|exact di HB.out _) (by simp) HB2.out⟩
    | exact⟨_,rfl,rfl,GZ (by first|exact World.rangeAt_alloc (FZ w nz _) _|exact Td (World.rangeAt_alloc (FZ w nz _) _)|exact World.rangeAt_alloc (Td (FZ w nz _)) _) (by first|exact HB.out.alloc (by simp) _|exact(HB.out.alloc (by simp) _).drew|exact HB.out.drew.alloc (by simp) _) (by simp) HB2.out (cell_new1 _ _ _ _ _)⟩
 case rest =>
 obtain⟨b3,rfl,rfl,hA⟩:=hcut;have HA:=hide hA;have k0:wc.cell? ⟨w.heap.size,0,none⟩=some (.int .u8 9):=hA.box 0 _ rfl;clear hA
 go_upto_region 3 with(go_at_call 41;(with_reducible refine(LH _).mono ?_);rintro e2 w2 ⟨rfl,hB2⟩;have HA2:=hide (HA.out.next hB2);clear hB2)
 have q1:w2.cell? ⟨w.heap.size,1,none⟩=some (.string {data:=#[114]}):=HA2.out.box 1 _ rfl;have qb:w2.cell? ⟨b3,0,none⟩=some (.string {data:=#[105,109,112,111,114,116]}):=HA2.out.word;have kV:Hid (jM w ((w2.alloc (.cells #[.string {data:=#[105,109,112,111,114,116]},.string {data:=#[114]}] 9)).alloc (.cells #[.slice (some ⟨w2.heap.size,0,none⟩) 2 2] 34)) b3):=hide ((HA2.out.next (az _ _)).next (az _ _));have Tf:Hid (((w2.alloc (.cells #[.string {data:=#[105,109,112,111,114,116]},.string {data:=#[114]}] 9)).alloc (.cells #[.slice (some ⟨w2.heap.size,0,none⟩) 2 2] 34)).ownsRow w.heap.size 9 1 (.slice (some ⟨w2.heap.size,0,none⟩) 2 2) 2 [.string {data:=#[105,109,112,111,114,116]},.string {data:=#[114]}]):=hide (zF _ _ _ _ (Nat.le_of_lt HA2.out.lt));have fF:Hid (((w2.alloc (.cells #[.string {data:=#[105,109,112,111,114,116]},.string {data:=#[114]}] 9)).alloc (.cells #[.slice (some ⟨w2.heap.size,0,none⟩) 2 2] 34)).cell? ⟨w2.heap.size+1,0,none⟩=some (.slice (some ⟨w2.heap.size,0,none⟩) 2 2)):=hide (by rw[Lib.cell_of_heap (yB (by simp))];rfl);have XC:Hid (((w2.alloc (.cells #[.string {data:=#[105,109,112,111,114,116]},.string {data:=#[114]}] 9)).alloc (.cells #[.slice (some ⟨w2.heap.size,0,none⟩) 2 2] 34)).frozen? ⟨w2.heap.size+1,0,none⟩=false):=hide (by unfold World.frozen?;rw[yB (by simp)];rfl);have AB:Hid (((w2.alloc (.cells #[.string {data:=#[105,109,112,111,114,116]},.string {data:=#[114]}] 9)).alloc (.cells #[.slice (some ⟨w2.heap.size,0,none⟩) 2 2] 34)).heap.size=w2.heap.size+1+1):=hide (by simp);have hz2:=HA2.out.lt
 go_upto_region 4 with fail
 generalize (w2.alloc (.cells #[.string {data:=#[105,109,112,111,114,116]},.string {data:=#[114]}] 9)).alloc (.cells #[.slice (some ⟨w2.heap.size,0,none⟩) 2 2] 34)=W4 at kV Tf fF XC AB⊢;clear k0 q1 qb HA HA2;have k1:W4.cell? ⟨w.heap.size,1,none⟩=some (.string {data:=#[114]}):=kV.out.box 1 _ rfl;have k2:W4.cell? ⟨w.heap.size,2,none⟩=some (.string {data:=#[]}):=kV.out.box 2 _ rfl;have k3:W4.cell? ⟨w.heap.size,3,none⟩=some (.string {data:=#[]}):=kV.out.box 3 _ rfl;have k4:W4.cell? ⟨w.heap.size,4,none⟩=some (.string {data:=#[]}):=kV.out.box 4 _ rfl;have k5:W4.cell? ⟨w.heap.size,5,none⟩=some (.int .u8 0):=kV.out.box 5 _ rfl;have k6:W4.cell? ⟨w.heap.size,6,none⟩=some (.string {data:=#[]}):=kV.out.box 6 _ rfl;have k7:W4.cell? ⟨w.heap.size,7,none⟩=some (.string {data:=#[]}):=kV.out.box 7 _ rfl;have k8:W4.cell? ⟨w.heap.size,8,none⟩=some (.int .i64 0):=kV.out.box 8 _ rfl;have k9:W4.cell? ⟨w.heap.size,9,none⟩=some (.slice none 0 0):=kV.out.box 9 _ rfl;have k10:W4.cell? ⟨w.heap.size,10,none⟩=some (.slice none 0 0):=kV.out.box 10 _ rfl;have k11:W4.cell? ⟨w.heap.size,11,none⟩=some (.int .u8 0):=kV.out.box 11 _ rfl;have k12:W4.cell? ⟨w.heap.size,12,none⟩=some (.slice none 0 0):=kV.out.box 12 _ rfl;have k13:W4.cell? ⟨w.heap.size,13,none⟩=some (.int .i64 0):=kV.out.box 13 _ rfl;have k14:W4.cell? ⟨w.heap.size,14,none⟩=some (.int .i64 0):=kV.out.box 14 _ rfl;have k15:W4.cell? ⟨w.heap.size,15,none⟩=some (.string {data:=#[]}):=kV.out.box 15 _ rfl;have k16:W4.cell? ⟨w.heap.size,16,none⟩=some (.string {data:=#[]}):=kV.out.box 16 _ rfl;have k17:W4.cell? ⟨w.heap.size,17,none⟩=some (.slice none 0 0):=kV.out.box 17 _ rfl;have k18:W4.cell? ⟨w.heap.size,18,none⟩=some (.slice none 0 0):=kV.out.box 18 _ rfl;have k19:W4.cell? ⟨w.heap.size,19,none⟩=some (.slice none 0 0):=kV.out.box 19 _ rfl
 go_upto_region 5 with(first
  | (go_at_call 42;(with_reducible refine(Fe _ _).mono ?_);rintro e3 w3 ⟨rfl,rfl⟩;rw[OW])
  | (go_at_call 43;(with_reducible refine(uI _).mono ?_);rintro e5 w5 ⟨rfl,gy⟩;have iE:=hide gy;have IG:=hide (kV.out.next gy);have n19:w5.cell? ⟨w.heap.size,19,none⟩=some (.slice none 0 0):=IG.out.box 19 _ rfl;clear gy))
 have hmf :∀(fn:Fn) (first cap:Array Value) (w:World),(Instr.makeFunc fn first cap).run Tryz.prog w = .ok (.func fn first cap) w:=fun _ _ _ _=>rfl;have hz3:w2.heap.size+1<w3.heap.size:=by have:=AB.out;omega
 have Ad:=iE.out.size;have qw:Hid (jM w (w5.alloc (.cells #[.bool true] 4)) b3):=hide (IG.out.next (az _ _));have OX:Below w3.heap.size w3 (w5.alloc (.cells #[.bool true] 4)):=iE.out.trans ((az _ _).mono iE.out.size);have Fb:Hid ((w5.alloc (.cells #[.bool true] 4)).ownsRow w.heap.size 9 1 (.slice (some ⟨w2.heap.size,0,none⟩) 2 2) 2 [.string {data:=#[105,109,112,111,114,116]},.string {data:=#[114]}]):=hide (nZ Tf.out fun b hb=>OX.block b (og Tf.out b hb).2);have p6:(w5.alloc (.cells #[.bool true] 4)).cell? ⟨w2.heap.size+1,0,none⟩=some (.slice (some ⟨w2.heap.size,0,none⟩) 2 2):=(OX.cell (p:=⟨w2.heap.size+1,0,none⟩) hz3).trans fF.out;have Ti:(w5.alloc (.cells #[.bool true] 4)).frozen? ⟨w2.heap.size+1,0,none⟩=false:=(OX.frozen (p:=⟨w2.heap.size+1,0,none⟩) hz3).trans XC.out;have r6:(w5.alloc (.cells #[.bool true] 4)).cell? ⟨w5.heap.size,0,none⟩=some (.bool true):=by rw[Lib.cell_of_heap (heap_alloc_new w5 _)];rfl
 have I9:(w5.alloc (.cells #[.bool true] 4)).frozen? ⟨w5.heap.size,0,none⟩=false:=by unfold World.frozen?;rw[heap_alloc_new];rfl
 have DN:(w5.alloc (.cells #[.bool true] 4)).heap.size=w5.heap.size+1:=by simp
 have XD:=hide DN;clear n19 OX DN k1 k2 k3 k4 k5 k6 k7 k8 k9 k10 k11 k12 k13 k14 k15 k16 k17 k18 k19;generalize w5.alloc (.cells #[.bool true] 4)=W6 at qw Fb p6 Ti r6 I9 XD⊢;have j2:W6.cell? ⟨w.heap.size,2,none⟩=some (.string {data:=#[]}):=qw.out.box 2 _ rfl;have j3:W6.cell? ⟨w.heap.size,3,none⟩=some (.string {data:=#[]}):=qw.out.box 3 _ rfl;have j4:W6.cell? ⟨w.heap.size,4,none⟩=some (.string {data:=#[]}):=qw.out.box 4 _ rfl;have j19:W6.cell? ⟨w.heap.size,19,none⟩=some (.slice none 0 0):=qw.out.box 19 _ rfl;have hne1 :¬w.heap.size=w5.heap.size:=by have:=kV.out.lt;omega
 have hne2 :¬w2.heap.size+1=w5.heap.size:=by omega
 obtain⟨R,hR⟩:∃R,R=w5.heap.size:=⟨_,rfl⟩;rw[←hR]at r6 I9 hne1 hne2⊢;have HR:=hide hR;clear hR
 go_upto_region 14 with(go_at_call 44;(with_reducible refine(yH (by first|exact r6|exact Di r6|exact Di (Di r6)) (by first|exact I9|exact(World.frozen?_setCell _ _ _ _).trans I9|exact(World.frozen?_setCell _ _ _ _).trans ((World.frozen?_setCell _ _ _ _).trans I9))).mono ?_);rintro e7 w7 ⟨rfl,hw7⟩;rw[show(true && decide ((ByteArray.mk #[]).size=0))=true from rfl]at hw7;rw[hw7];clear hw7)
 have XE:Below w.heap.size w (((W6.setCell ⟨R,0,none⟩ (.bool true)).setCell ⟨R,0,none⟩ (.bool true)).setCell ⟨R,0,none⟩ (.bool true)):=((qw.out.below.setCell (p:=⟨R,0,none⟩) (by show w.heap.size≤R;have:=HR.out;omega) _).setCell (p:=⟨R,0,none⟩) (by show w.heap.size≤R;have:=HR.out;omega) _).setCell (p:=⟨R,0,none⟩) (by show w.heap.size≤R;have:=HR.out;omega) _;have DR:=hide XE;have hne :∀(o:Nat) (X:World) (v:Value),X.cell? ⟨w.heap.size,o,none⟩=some v→(X.setCell ⟨R,0,none⟩ (.bool true)).cell? ⟨w.heap.size,o,none⟩=some v:=fun o X v h=>IE h (by intro e;injection e with e;omega);have uK :∀(X:World) (v:Value),X.cell? ⟨w2.heap.size+1,0,none⟩=some v→(X.setCell ⟨R,0,none⟩ (.bool true)).cell? ⟨w2.heap.size+1,0,none⟩=some v:=fun X v h=>IE h (by intro e;injection e with e;omega);have j7:=hne _ _ _ (hne _ _ _ (hne _ _ _ j19));have p7:=uK _ _ (uK _ _ (uK _ _ p6));have r7:(((W6.setCell ⟨R,0,none⟩ (.bool true)).setCell ⟨R,0,none⟩ (.bool true)).setCell ⟨R,0,none⟩ (.bool true)).cell? ⟨R,0,none⟩=some (.bool true):=Di (Di (Di r6));have Tj:(((W6.setCell ⟨R,0,none⟩ (.bool true)).setCell ⟨R,0,none⟩ (.bool true)).setCell ⟨R,0,none⟩ (.bool true)).frozen? ⟨w2.heap.size+1,0,none⟩=false:=by rw[World.frozen?_setCell,World.frozen?_setCell,World.frozen?_setCell];exact Ti
 have EH:(((W6.setCell ⟨R,0,none⟩ (.bool true)).setCell ⟨R,0,none⟩ (.bool true)).setCell ⟨R,0,none⟩ (.bool true)).ownsRow w.heap.size 9 1 (.slice (some ⟨w2.heap.size,0,none⟩) 2 2) 2 [.string {data:=#[105,109,112,111,114,116]},.string {data:=#[114]}]:=nZ Fb.out fun b hb=>by
  have hb:b=w2.heap.size:=by simp[ob,Value.ownBlock]at hb;omega
  have:=HR.out;rw[Below.heap_setCell _ _ _ _ (by show b≠R;omega),Below.heap_setCell _ _ _ _ (by show b≠R;omega),Below.heap_setCell _ _ _ _ (by show b≠R;omega)]
 have P6:(((W6.setCell ⟨R,0,none⟩ (.bool true)).setCell ⟨R,0,none⟩ (.bool true)).setCell ⟨R,0,none⟩ (.bool true)).heap.size=R+1:=by have h1:=XD.out;have h2:=HR.out;simp;omega
 have hRw:w2.heap.size+1<R:=by have:=HR.out;omega
 clear hne uK j2 j3 j4 j19 p6 Ti r6 I9 XE hne1 hne2 hz3 Ad;generalize ((W6.setCell ⟨R,0,none⟩ (.bool true)).setCell ⟨R,0,none⟩ (.bool true)).setCell ⟨R,0,none⟩ (.bool true)=W7 at DR j7 p7 r7 Tj EH P6⊢;have hS7:lW W7 w2.heap.size W7.drew:=(Keep.refl _ W7).drew;have LJ:W7.drew.ownsRow w.heap.size 9 1 (.slice (some ⟨w2.heap.size,0,none⟩) 2 2) 2 [.string {data:=#[105,109,112,111,114,116]},.string {data:=#[114]}]:=EH;have hP0:W7.drew.cell? ⟨w2.heap.size+1,0,none⟩=some (.slice (some ⟨w2.heap.size,0,none⟩) 2 2):=p7;have G8:W7.drew.frozen? ⟨w2.heap.size+1,0,none⟩=false:=Tj;refine wp_region_held_drew (S:=lW W7 w2.heap.size) (by kernel_rfl) hS7 (fun hS0=>?_);generalize W7.drew=wD at hS0 LJ hP0 G8⊢;clear hS7 EH p7 Tj;refine aj 1 hS0 ?_;refine tk (v:=?_) 2 hS0 ?_ ?_;rotate_left
 ·intro w' hSw;have hc':=(Keep.cell hSw (a:=⟨w.heap.size,19,none⟩) ⟨by show w.heap.size<_;omega,by show¬w.heap.size=_;omega,by show¬w.heap.size=_;omega⟩).trans j7
  first|(go_simp;done)|(go_simp;with_reducible rfl)
 try simp only[aA,aB]
 refine wpAnyH_ready (rs:=[0,3]) (by kernel_rfl) (by simp) ?_;refine AllReadyH.cons rfl (fun K hK=>?_) ?_
 ·go_simp
  go_wp2_with fail
  refine hK.out _ _ hS0 (fun Tm=>?_);clear hK K
  try simp only[Act.put,aG,aE,aF,aD,aA,aB]
  refine wpAnyH_ready (rs:=[3]) (by kernel_rfl) (by simp) ?_;refine AllReadyH.cons rfl (fun K hK=>?_) AllReadyH.nil;go_simp
  go_wp2_with(go_at_call 46;(with_reducible refine(XB _).mono ?_);rintro e2 v2 ⟨rfl,hB2⟩)
  have hS2:=LG hS0 hB2;have hO2:=nZ LJ fun b hb=>hB2.block b (og LJ b hb).2;have hP2:v2.cell? ⟨w2.heap.size+1,0,none⟩=some (.slice (some ⟨w2.heap.size,0,none⟩) 2 2):=(hB2.cell (p:=⟨w2.heap.size+1,0,none⟩) (block_lt_of_cell hP0)).trans hP0;have Tn:v2.frozen? ⟨w2.heap.size+1,0,none⟩=false:=(hB2.frozen (p:=⟨w2.heap.size+1,0,none⟩) (block_lt_of_cell hP0)).trans G8;refine hK.out _ _ hS2 (fun Tq=>?_);clear hK K
  try simp only[Act.put,aG,aE,aF,aD,aA,aB]
  refine wpAnyH_ready (rs:=[4]) (by kernel_rfl) (by simp) ?_;refine AllReadyH.cons rfl (fun K hK=>?_) AllReadyH.nil;go_simp
  go_wp2_with fail
  have hB3:=az v2 (.cells #[.string {data:=#[45]}] 9);have hS3:=LG hS2 hB3;have hO3:=nZ hO2 fun b hb=>hB3.block b (og hO2 b hb).2;have hP3:(v2.alloc (.cells #[.string {data:=#[45]}] 9)).cell? ⟨w2.heap.size+1,0,none⟩=some (.slice (some ⟨w2.heap.size,0,none⟩) 2 2):=(hB3.cell (p:=⟨w2.heap.size+1,0,none⟩) (block_lt_of_cell hP2)).trans hP2;have Tt:(v2.alloc (.cells #[.string {data:=#[45]}] 9)).frozen? ⟨w2.heap.size+1,0,none⟩=false:=(hB3.frozen (p:=⟨w2.heap.size+1,0,none⟩) (block_lt_of_cell hP2)).trans Tn;refine hK.out _ _ hS3 (fun mr=>?_);clear hK K
  try simp only[Act.put,aG,aE,aF,aD,aA,aB]
  refine wpAnyH_ready (rs:=[5]) (by kernel_rfl) (by simp) ?_;refine AllReadyH.cons rfl (fun K hK=>?_) AllReadyH.nil;obtain⟨v',w9,hrun,hO4,hg4,LK⟩:=Tc (q:=w2.heap.size+1) (P:=Tryz.prog) (T:=34) (us:=[.string {data:=#[45]}]) (B:=some ⟨v2.heap.size,0,none⟩) (m:=1) (cB:=1) Tryz.underlying34 SS rfl (by decide) hO3 (fun e=>by cases e) rfl (by intro u hu;simp at hu;subst hu;rfl) (fun ad e=>by injection e with e;subst e;intro j u hu;rw[Addr.add_lit,Nat.zero_add,Lib.cell_of_heap (heap_alloc_new v2 _)];simpa using hu) (aI (by omega) (Keep.size hS3)) (by decide) (by decide) (by intro g hg;simp[ob,Value.ownBlock]at hg;omega) (block_lt_of_cell hP3) 34;refine uV (v1:= .slice (some ⟨w2.heap.size,0,none⟩) 2 2) (v2:= .slice (some ⟨v2.heap.size,0,none⟩) 1 1) rfl _ _ _ rfl (by rfl) (by rfl) hrun ?_;have hS4:=SV hS3 hg4;have hP4 :∃z,w9.cell? ⟨w2.heap.size+1,0,none⟩=some z:=⟨_,(World.cell?_of_block (a:=⟨w2.heap.size+1,0,none⟩) (hg4.block (w2.heap.size+1) (block_lt_of_cell hP3) (by intro e;injection e with e;exact Nat.succ_ne_self w2.heap.size e))).trans hP3⟩;have hPf4:w9.frozen? ⟨w2.heap.size+1,0,none⟩=false:=(World.frozen?_of_block (a:=⟨w2.heap.size+1,0,none⟩) (hg4.block (w2.heap.size+1) (block_lt_of_cell hP3) (by intro e;injection e with e;exact Nat.succ_ne_self w2.heap.size e))).trans Tt;have hO4:w9.ownsRow w.heap.size 9 1 v' 3 [.string {data:=#[105,109,112,111,114,116]},.string {data:=#[114]},.string {data:=#[45]}]:=hO4;obtain⟨A9,c9,rfl⟩:=jD hO4;have zG :∀b∈ob (.slice A9 3 c9),b≠w2.heap.size+1:=fun b hb=>LK b hb;refine hK.out _ _ hS4 (fun Tu=>?_);clear hK K
  try simp only[Act.put,aG,aE,aF,aD,aA,aB]
  refine wpAnyH_ready (rs:=[6]) (by kernel_rfl) (by simp) ?_;refine AllReadyH.cons rfl (fun K hK=>?_) AllReadyH.nil;obtain⟨z5,Ad⟩:=hP4;go_simp
  go_wp2_with fail
  have hS5:=SX hS4 (.slice A9 3 c9);have XF:=nZ hO4 (w':=w9.setCell ⟨w2.heap.size+1,0,none⟩ (.slice A9 3 c9)) fun b hb=>Below.heap_setCell _ _ _ _ (zG b hb);have hP5:=Di (v:= .slice A9 3 c9) Ad;refine hK.out _ _ hS5 (fun Tv=>?_);clear hK K
  try simp only[Act.put,aG,aE,aF,aD,aA,aB]
  refine wpAnyH_done (by kernel_rfl) ?_ _
  try simp only[Act.put,aG,aE,aF,aD,aA,aB]
  have Oj:=(Keep.cell hS5 (a:=⟨R,0,none⟩) ⟨by show R<_;omega,by show¬R=_;omega,by show¬R=_;omega⟩).trans r7;have DN:=Keep.size hS5;have hb6:Below w.heap.size w (w9.setCell ⟨w2.heap.size+1,0,none⟩ (.slice A9 3 c9)):=DR.out.trans (Keep.below (Keep.mono hS5 fun k hk=>⟨by omega,by omega,by omega⟩));have HJ:=hide (SY XF);have Em:=hide hb6;generalize w9.setCell ⟨w2.heap.size+1,0,none⟩ (.slice A9 3 c9)=wZ at hP5 Oj HJ Em DN⊢;clear XF
  go_wp2_with(go_at_call 47;(with_reducible refine HJ.out.mono ?_);rintro e6 x6 ⟨rfl,nT⟩;have HY6:=hide nT;clear nT)
  go_ret;exact⟨rfl,Em.out.trans (HY6.out.mono (aI (by omega) DN))⟩
 refine AllReadyH.cons rfl (fun K hK=>?_) AllReadyH.nil
 ·go_simp
  go_wp2_with(go_at_call 46;(with_reducible refine(XB _).mono ?_);rintro e7 v7 ⟨rfl,lJ⟩)
  have hS7:=LG hS0 lJ;have EH:=nZ LJ fun b hb=>lJ.block b (og LJ b hb).2;have Ja:v7.cell? ⟨w2.heap.size+1,0,none⟩=some (.slice (some ⟨w2.heap.size,0,none⟩) 2 2):=(lJ.cell (p:=⟨w2.heap.size+1,0,none⟩) (block_lt_of_cell hP0)).trans hP0;have LM:v7.frozen? ⟨w2.heap.size+1,0,none⟩=false:=(lJ.frozen (p:=⟨w2.heap.size+1,0,none⟩) (block_lt_of_cell hP0)).trans G8;refine hK.out _ _ hS7 (fun Tz=>?_);clear hK K
  try simp only[Act.put,aG,aE,aF,aD,aA,aB]
  refine wpAnyH_ready (rs:=[0,4]) (by kernel_rfl) (by simp) ?_;refine AllReadyH.cons rfl (fun K hK=>?_) ?_
  ·go_simp
   go_wp2_with fail
   refine hK.out _ _ hS7 (fun TA=>?_);clear hK K
   try simp only[Act.put,aG,aE,aF,aD,aA,aB]
   refine wpAnyH_ready (rs:=[4]) (by kernel_rfl) (by simp) ?_;refine AllReadyH.cons rfl (fun K hK=>?_) AllReadyH.nil;go_simp
   go_wp2_with fail
   have OY:=az v7 (.cells #[.string {data:=#[45]}] 9);have jB:=LG hS7 OY;have hO9:=nZ EH fun b hb=>OY.block b (og EH b hb).2;have OZ:(v7.alloc (.cells #[.string {data:=#[45]}] 9)).cell? ⟨w2.heap.size+1,0,none⟩=some (.slice (some ⟨w2.heap.size,0,none⟩) 2 2):=(OY.cell (p:=⟨w2.heap.size+1,0,none⟩) (block_lt_of_cell Ja)).trans Ja;have TB:(v7.alloc (.cells #[.string {data:=#[45]}] 9)).frozen? ⟨w2.heap.size+1,0,none⟩=false:=(OY.frozen (p:=⟨w2.heap.size+1,0,none⟩) (block_lt_of_cell Ja)).trans LM;refine hK.out _ _ jB (fun TC=>?_);clear hK K
   try simp only[Act.put,aG,aE,aF,aD,aA,aB]
   refine wpAnyH_ready (rs:=[5]) (by kernel_rfl) (by simp) ?_;refine AllReadyH.cons rfl (fun K hK=>?_) AllReadyH.nil;obtain⟨v',w9,hrun,Dj,uG,LK⟩:=Tc (q:=w2.heap.size+1) (P:=Tryz.prog) (T:=34) (us:=[.string {data:=#[45]}]) (B:=some ⟨v7.heap.size,0,none⟩) (m:=1) (cB:=1) Tryz.underlying34 SS rfl (by decide) hO9 (fun e=>by cases e) rfl (by intro u hu;simp at hu;subst hu;rfl) (fun ad e=>by injection e with e;subst e;intro j u hu;rw[Addr.add_lit,Nat.zero_add,Lib.cell_of_heap (heap_alloc_new v7 _)];simpa using hu) (aI (by omega) (Keep.size jB)) (by decide) (by decide) (by intro g hg;simp[ob,Value.ownBlock]at hg;omega) (block_lt_of_cell OZ) 34;refine uV (v1:= .slice (some ⟨w2.heap.size,0,none⟩) 2 2) (v2:= .slice (some ⟨v7.heap.size,0,none⟩) 1 1) rfl _ _ _ rfl (by rfl) (by rfl) hrun ?_;have LP:=SV jB uG;have TD :∃z,w9.cell? ⟨w2.heap.size+1,0,none⟩=some z:=⟨_,(World.cell?_of_block (a:=⟨w2.heap.size+1,0,none⟩) (uG.block (w2.heap.size+1) (block_lt_of_cell OZ) (by intro e;injection e with e;exact Nat.succ_ne_self w2.heap.size e))).trans OZ⟩;have XG:w9.frozen? ⟨w2.heap.size+1,0,none⟩=false:=(World.frozen?_of_block (a:=⟨w2.heap.size+1,0,none⟩) (uG.block (w2.heap.size+1) (block_lt_of_cell OZ) (by intro e;injection e with e;exact Nat.succ_ne_self w2.heap.size e))).trans TB;have Dj:w9.ownsRow w.heap.size 9 1 v' 3 [.string {data:=#[105,109,112,111,114,116]},.string {data:=#[114]},.string {data:=#[45]}]:=Dj;obtain⟨A9,c9,rfl⟩:=jD Dj;have zG :∀b∈ob (.slice A9 3 c9),b≠w2.heap.size+1:=fun b hb=>LK b hb;refine hK.out _ _ LP (fun O0=>?_);clear hK K
   try simp only[Act.put,aG,aE,aF,aD,aA,aB]
   refine wpAnyH_ready (rs:=[6]) (by kernel_rfl) (by simp) ?_;refine AllReadyH.cons rfl (fun K hK=>?_) AllReadyH.nil;obtain⟨z11,TE⟩:=TD;go_simp
   go_wp2_with fail
   have pz:=SX LP (.slice A9 3 c9);have LQ:=nZ Dj (w':=w9.setCell ⟨w2.heap.size+1,0,none⟩ (.slice A9 3 c9)) fun b hb=>Below.heap_setCell _ _ _ _ (zG b hb);have TF:=Di (v:= .slice A9 3 c9) TE;refine hK.out _ _ pz (fun O1=>?_);clear hK K
   try simp only[Act.put,aG,aE,aF,aD,aA,aB]
   refine wpAnyH_done (by kernel_rfl) ?_ _
   try simp only[Act.put,aG,aE,aF,aD,aA,aB]
   have ou:=(Keep.cell pz (a:=⟨R,0,none⟩) ⟨by show R<_;omega,by show¬R=_;omega,by show¬R=_;omega⟩).trans r7;have LU:=Keep.size pz;have TG:Below w.heap.size w (w9.setCell ⟨w2.heap.size+1,0,none⟩ (.slice A9 3 c9)):=DR.out.trans (Keep.below (Keep.mono pz fun k hk=>⟨by omega,by omega,by omega⟩));have HJ:=hide (SY LQ);have LV:=hide TG;generalize w9.setCell ⟨w2.heap.size+1,0,none⟩ (.slice A9 3 c9)=wZ at TF ou HJ LV LU⊢;clear LQ
   go_wp2_with(go_at_call 47;(with_reducible refine HJ.out.mono ?_);rintro e12 x12 ⟨rfl,LW⟩;have TI:=hide LW;clear LW)
   go_ret;exact⟨rfl,LV.out.trans (TI.out.mono (aI (by omega) LU))⟩
  refine AllReadyH.cons rfl (fun K hK=>?_) AllReadyH.nil
  ·go_simp
   go_wp2_with fail
   have Dk:=az v7 (.cells #[.string {data:=#[45]}] 9);have Dl:=LG hS7 Dk;have TJ:=nZ EH fun b hb=>Dk.block b (og EH b hb).2;have Dn:(v7.alloc (.cells #[.string {data:=#[45]}] 9)).cell? ⟨w2.heap.size+1,0,none⟩=some (.slice (some ⟨w2.heap.size,0,none⟩) 2 2):=(Dk.cell (p:=⟨w2.heap.size+1,0,none⟩) (block_lt_of_cell Ja)).trans Ja;have LX:(v7.alloc (.cells #[.string {data:=#[45]}] 9)).frozen? ⟨w2.heap.size+1,0,none⟩=false:=(Dk.frozen (p:=⟨w2.heap.size+1,0,none⟩) (block_lt_of_cell Ja)).trans LM;refine hK.out _ _ Dl (fun O3=>?_);clear hK K
   try simp only[Act.put,aG,aE,aF,aD,aA,aB]
   refine wpAnyH_ready (rs:=[0]) (by kernel_rfl) (by simp) ?_;refine AllReadyH.cons rfl (fun K hK=>?_) AllReadyH.nil;go_simp
   go_wp2_with fail
   refine hK.out _ _ Dl (fun O4=>?_);clear hK K
   try simp only[Act.put,aG,aE,aF,aD,aA,aB]
   refine wpAnyH_ready (rs:=[5]) (by kernel_rfl) (by simp) ?_;refine AllReadyH.cons rfl (fun K hK=>?_) AllReadyH.nil;obtain⟨v',w9,hrun,Dp,G9,LK⟩:=Tc (q:=w2.heap.size+1) (P:=Tryz.prog) (T:=34) (us:=[.string {data:=#[45]}]) (B:=some ⟨v7.heap.size,0,none⟩) (m:=1) (cB:=1) Tryz.underlying34 SS rfl (by decide) TJ (fun e=>by cases e) rfl (by intro u hu;simp at hu;subst hu;rfl) (fun ad e=>by injection e with e;subst e;intro j u hu;rw[Addr.add_lit,Nat.zero_add,Lib.cell_of_heap (heap_alloc_new v7 _)];simpa using hu) (aI (by omega) (Keep.size Dl)) (by decide) (by decide) (by intro g hg;simp[ob,Value.ownBlock]at hg;omega) (block_lt_of_cell Dn) 34;refine uV (v1:= .slice (some ⟨w2.heap.size,0,none⟩) 2 2) (v2:= .slice (some ⟨v7.heap.size,0,none⟩) 1 1) rfl _ _ _ rfl (by rfl) (by rfl) hrun ?_;have LY:=SV Dl G9;have TK :∃z,w9.cell? ⟨w2.heap.size+1,0,none⟩=some z:=⟨_,(World.cell?_of_block (a:=⟨w2.heap.size+1,0,none⟩) (G9.block (w2.heap.size+1) (block_lt_of_cell Dn) (by intro e;injection e with e;exact Nat.succ_ne_self w2.heap.size e))).trans Dn⟩;have XH:w9.frozen? ⟨w2.heap.size+1,0,none⟩=false:=(World.frozen?_of_block (a:=⟨w2.heap.size+1,0,none⟩) (G9.block (w2.heap.size+1) (block_lt_of_cell Dn) (by intro e;injection e with e;exact Nat.succ_ne_self w2.heap.size e))).trans LX;have Dp:w9.ownsRow w.heap.size 9 1 v' 3 [.string {data:=#[105,109,112,111,114,116]},.string {data:=#[114]},.string {data:=#[45]}]:=Dp;obtain⟨A9,c9,rfl⟩:=jD Dp;have zG :∀b∈ob (.slice A9 3 c9),b≠w2.heap.size+1:=fun b hb=>LK b hb;refine hK.out _ _ LY (fun O5=>?_);clear hK K
   try simp only[Act.put,aG,aE,aF,aD,aA,aB]
   refine wpAnyH_ready (rs:=[6]) (by kernel_rfl) (by simp) ?_;refine AllReadyH.cons rfl (fun K hK=>?_) AllReadyH.nil;obtain⟨z16,E5⟩:=TK;go_simp
   go_wp2_with fail
   have Dq:=SX LY (.slice A9 3 c9);have LZ:=nZ Dp (w':=w9.setCell ⟨w2.heap.size+1,0,none⟩ (.slice A9 3 c9)) fun b hb=>Below.heap_setCell _ _ _ _ (zG b hb);have TL:=Di (v:= .slice A9 3 c9) E5;refine hK.out _ _ Dq (fun O6=>?_);clear hK K
   try simp only[Act.put,aG,aE,aF,aD,aA,aB]
   refine wpAnyH_done (by kernel_rfl) ?_ _
   try simp only[Act.put,aG,aE,aF,aD,aA,aB]
   have TM:=(Keep.cell Dq (a:=⟨R,0,none⟩) ⟨by show R<_;omega,by show¬R=_;omega,by show¬R=_;omega⟩).trans r7;have L6:=Keep.size Dq;have TN:Below w.heap.size w (w9.setCell ⟨w2.heap.size+1,0,none⟩ (.slice A9 3 c9)):=DR.out.trans (Keep.below (Keep.mono Dq fun k hk=>⟨by omega,by omega,by omega⟩));have HJ:=hide (SY LZ);have L8:=hide TN;generalize w9.setCell ⟨w2.heap.size+1,0,none⟩ (.slice A9 3 c9)=wZ at TL TM HJ L8 L6⊢;clear LZ
   go_wp2_with(go_at_call 47;(with_reducible refine HJ.out.mono ?_);rintro e17 x17 ⟨rfl,L9⟩;have TP:=hide L9;clear L9)
   go_ret;exact⟨rfl,L8.out.trans (TP.out.mono (aI (by omega) L6))⟩
end
end Go.Proofs.YtjjaojnglnpgaaaGreatDoor
