/- Part 27 of what scriptShows_cardUpto rests on. -/
import Derived.Deep.RegionHeld
import Derived.BigQuiet
import Derived.Test.YtjjaojnglnpgaaaGreatDoorZ09
import Derived.Test.YtjjaojnglnpgaaaGreatDoorZ17
import Derived.Test.YtjjaojnglnpgaaaGreatDoorZ03
import Derived.Test.YtjjaojnglnpgaaaGreatDoorZ00
set_option linter.unusedVariables false
set_option linter.unusedSimpArgs false
set_option maxHeartbeats 16000000
set_option maxRecDepth 1000000
namespace Go.Proofs.YtjjaojnglnpgaaaGreatDoor
section
open Go.RowKit
theorem Cm:(Tryz.prog.info? 5).map (fun i=>(i.zero,i.size,i.bytes))=some (some (.int .u8 0),1,1):=by kernel_rfl
def mO(i:Nat):UInt8:=UInt8.ofNat (Am 1 i).toNat
def fG:List UInt8:=(List.range 12).map mO
theorem IQ:fG.length=12:=by simp[fG]
theorem Gs(a b:Int):0≤Am a b∧Am a b<256:=by unfold Am;omega
theorem W9(i:Nat):((mO i).toNat:Int)=Am 1 i:=by
 have:=Gs 1 i;unfold mO;rw[UInt8.toNat_ofNat'];omega
theorem Xa{n:Int}(h:0≤n∧n<12)(w:World):Calls Tryz.prog 104 #[.int .i64 1,.int .i64 n] w fun e w'=>e = .returned (.int .u8 (Am 1 n))∧Below w.heap.size w w' :=
 (Zy 1 n w (by omega) (by omega)).mono fun _ _ ⟨h1,h2⟩=>⟨h1,h2▸Below.refl _ _⟩
theorem zek{q:Nat}(h:q<12):(fG.take (q+1)).map (fun c:UInt8=>Value.int .u8 c.toNat)=(fG.take q).map (fun c:UInt8=>Value.int .u8 c.toNat)++[.int .u8 (Am 1 (q:Int))]:=by
 have e:fG[q]'(by rw[IQ];omega)=mO q:=by simp[fG]
 rw[List.take_succ_eq_append_getElem (by rw[IQ];omega),List.map_append,e];simp only[List.map_cons,List.map_nil,W9]
def bY(S:Nat→Prop)(w:World)(A:Option Addr)(c:Nat)(l:List UInt8):Prop :=
 dA S w A c l.length 5 ((l++fG).map (fun c:UInt8=>Value.int .u8 c.toNat))∧l.length≤9223372036854775807
theorem bY.below{S:Nat→Prop}{w w':World}{A:Option Addr}{c:Nat}{l:List UInt8}(h:bY S w A c l)(hB:Below w.heap.size w w'):bY S w' A c l:=by
 obtain⟨⟨g,cs,h1,h2,h3,h4⟩,h5⟩:=h;exact⟨⟨g,cs,h1,h2,(hB.block g (Array.getElem?_eq_some_iff.1 h3).1).trans h3,h4⟩,h5⟩
theorem bY.bytes{S:Nat→Prop}{w:World}{A:Option Addr}{c:Nat}{l:List UInt8}(h:bY S w A c l):BytesIn S w A l:=by
 obtain⟨h1,h2⟩:=h;rw[List.map_append]at h1;exact⟨h1.rd,h2⟩
theorem zfR{S:Nat→Prop}{A:Option Addr}{c:Nat}{l:List UInt8}{w:World}(h:BytesIn S w A l)(hl:l.length≤1099511627776):
  Calls Tryz.prog 39 #[.slice A l.length c] w fun e w'=>∃A' c',e = .returned (.slice A' l.length c')∧bY (fun b=>w.heap.size≤b) w' A' c' l∧Below w.heap.size w w':=by
 have H:=hide h;obtain⟨i0,hi,E8,qg,Fa⟩:=info_parts Cm;clear h;go_enter Tryz.func39,Tryz.ntmps39
 go_wp2_with(first
  | (at_make;refine wpList_make_own _ rfl _ _ 44 rfl w.heap.size 5 i0 (.int .u8 0) 1 Tryz.underlying44 hi E8 qg _ _ _ (l.length+12) rfl rfl (by omega) (by rw[Fa];omega) (by unfold maxLen;omega) (aC _) ?_;intro w1 hown hgrow;have iI:=hide hown;have HB1:Hid (Below w.heap.size w w1):=hide ((Below.refl _ _).grown hgrow (aC _) (fun k hk=>by cases hk));clear hown hgrow)
  | (at_builtin;refine DF _ rfl _ _ 44 rfl w.heap.size 5 i0 1 Tryz.underlying44 hi qg w.heap.size 0 (l.length+12) [] rfl iI.out A l.length c (l.map (fun c:UInt8=>Value.int .u8 c.toNat)) rfl (by simp) (Nr (f:=(fun c:UInt8=>Value.int .u8 c.toNat)) (l:=l) (H.out.below HB1.out).1) (Ns (H.out.below HB1.out).1) (Nu _ (fun _=>rfl)) (by omega) ?_;intro w2 hown2 hgrow2;have kC:=hide hown2;have HB2:=hide (DI HB1.out (aC _) hgrow2);clear hown2 hgrow2 iI HB1))
 have DT:Hid (w2.ownsRow w.heap.size 5 1 (.slice (some ⟨w.heap.size,0,none⟩) l.length (l.length+12)) l.length (l.map (fun c:UInt8=>Value.int .u8 c.toNat)++(fG.take 0).map (fun c:UInt8=>Value.int .u8 c.toNat))):=hide (by have:=kC.out;simpa using this);clear kC
 go_loopw [4,3] (fun i v wr=>∃q:Nat,q≤12∧i = .int .i64 q∧v = .slice (some ⟨w.heap.size,0,none⟩) (l.length+q) (l.length+12)∧Hid (wr.ownsRow w.heap.size 5 1 (.slice (some ⟨w.heap.size,0,none⟩) (l.length+q) (l.length+12)) (l.length+q) (l.map (fun c:UInt8=>Value.int .u8 c.toNat)++(fG.take q).map (fun c:UInt8=>Value.int .u8 c.toNat)))∧Hid (Below w.heap.size w wr)) (fun i _ _=>12-(intOf i).toNat)
 case atStart=>exact⟨0,by omega,rfl,rfl,DT,HB2⟩
 case round =>
  clear DT HB2;obtain⟨q,hq,rfl,rfl,HO,HB⟩:=hrel;by_cases hlt:q<12
  ·have hq12:(0:Int)≤(q:Int)∧(q:Int)<12:=by omega
   have Hm:=hide (zek hlt);have hsz:=HB.out.size
   go_wp2_with(first
    | (go_at_call 104;(with_reducible refine(Xa hq12 _).mono ?_);rintro e1 w1 ⟨rfl,hB⟩;have iI:=hide (Js HO.out hB);have HB1:=hide (HB.out.trans (hB.mono hsz));clear hB)
    | (at_builtin;refine DF _ rfl _ _ 44 rfl w.heap.size 5 i0 1 Tryz.underlying44 hi qg w.heap.size (l.length+q) (l.length+12) _ rfl (iI.out.alloc _) (some ⟨w1.heap.size,0,none⟩) 1 1 [.int .u8 (Am 1 (q:Int))] rfl rfl (by intro h;cases h) (P9 _ _ _) (by intro u hu;simp at hu;subst hu;rfl) (by omega) ?_;intro w2 hown2 hgrow2;have kC:=hide hown2;have HB2:=hide (DI (HB1.out.alloc HB1.out.size _) (aC _) hgrow2);clear hown2 hgrow2 iI HB1))
   go_roundw
   case rel=>exact⟨q+1,by omega,by go_num,by rw[Nat.add_assoc],hide (by have h5:=kC.out;rw[Nat.add_assoc]at h5;rw[Hm.out];simpa using h5),HB2⟩
   case measure=>simp[intOf];omega
  ·obtain rfl:q=12:=by omega
   have hcap:=Jt HO.out
   go_wp2_with fail
   go_ret;refine⟨_,_,rfl,⟨?_,H.out.2⟩,HB.out⟩;have h5:=HO.out;rw[List.take_of_length_le (by rw[IQ];omega),←List.map_append]at h5;exact PE h5 (aC _)
theorem zfS{S S':Nat→Prop}{A A':Option Addr}{c c':Nat}{l:List UInt8}{w:World}(ho:bY S w A c l)(hl:BytesIn S' w A' l):
  Calls Tryz.prog 53 #[.slice A l.length c,.slice A' l.length c'] w fun e w'=>e = .returned (.bool true)∧Below w.heap.size w w':=by
 have Ho:=hide ho;have Hl:=hide hl;have hcap:l.length+12≤c∧c≤9223372036854775807:=by obtain⟨_,_,_,_,_,h1,h2,_⟩:=ho.1;exact⟨h1,h2⟩
 obtain⟨g,rfl⟩:∃g,A=some ⟨g,0,none⟩:=by obtain⟨g,_,e,_⟩:=ho.1;exact⟨g,e⟩
 have hd:((l.length:Int) != (l.length:Int))=false:=by simp
 clear ho hl;go_enter Tryz.func53,Tryz.ntmps53
 go_wp2_with fail
 go_loopw [6] (fun i wr=>∃q:Nat,q≤l.length+12∧i = .int .i64 q∧Hid (Below w.heap.size w wr)) (fun i _=>l.length+12-(intOf i).toNat)
 case atStart=>exact⟨0,by omega,rfl,hide (Below.refl _ _)⟩
 case round =>
  obtain⟨q,hq,rfl,HB⟩:=hrel;by_cases hlt:q<l.length+12
  ·obtain⟨g',e1,hc1⟩:=(Ho.out.below HB.out).1.at_ (j:=q) (by simp[IQ];omega);injection e1 with e1;injection e1 with e1;subst e1;have hgb:=block_lt_of_cell hc1;by_cases hin:q<l.length
   ·obtain⟨b,o,rfl,hc2⟩:=(Hl.out.below HB.out).1.at_ (j:=q) (by simpa[bytesV]using hin);simp only[bytesV,List.getElem_map]at hc1 hc2;rw[List.getElem_append_left hin]at hc1;generalize l[q]=s at hc1 hc2;have hbb:=block_lt_of_cell hc2;have g1:decide ((q:Int)<(l.length:Int))=true:=by simp;omega
    have g2:decide ((l.length:Int)≤(q:Int))=false:=by simp;omega
    have g3:decide (q<l.length)=true:=by simp;omega
    have g4:decide (l.length≤q)=false:=by simp;omega
    go_wp2_with fail
    have hd1:Below wr.heap.size wr wr.drew:=di (Below.refl _ _) 1;refine wp_region_held_drew (S:=Below wr.heap.size wr) (by kernel_rfl) hd1 (fun hHeld=>?_);generalize wr.drew=wD at hHeld⊢;refine aj 0 hHeld ?_;refine aj 1 hHeld ?_;refine aj 2 hHeld ?_;refine aj 3 hHeld ?_;refine aj 4 hHeld ?_;refine aj 5 hHeld ?_;refine aj 6 hHeld ?_;refine aj 7 hHeld ?_;refine tk (v:=?_) 8 hHeld ?_ ?_;rotate_left
    ·intro w' hSw;have hc1':=(hSw.cell (p:=⟨g,_,none⟩) hgb).trans hc1
     first|(go_simp;done)|(go_simp;with_reducible rfl)
    try simp only[aA,aB]
    refine aj 9 hHeld ?_;refine aj 10 hHeld ?_;refine aj 11 hHeld ?_;refine tk (v:=?_) 12 hHeld ?_ ?_;rotate_left
    ·intro w' hSw;have hc2':=(hSw.cell (p:=⟨b,_,none⟩) hbb).trans hc2
     first|(go_simp;done)|(go_simp;with_reducible rfl)
    try simp only[aA,aB]
    refine aj 13 hHeld ?_;refine aj 14 hHeld ?_;refine aj 15 hHeld ?_;refine aj 16 hHeld ?_;refine aj 17 hHeld ?_;refine aj 18 hHeld ?_;refine aj 19 hHeld ?_;refine aj 20 hHeld ?_;refine aj 21 hHeld ?_;refine tn 22 hHeld ?_
    try simp only[aA,aB]
    refine tn 23 hHeld ?_
    try simp only[aA,aB]
    refine tn 24 hHeld ?_
    try simp only[aA,aB]
    refine tn 25 hHeld ?_
    try simp only[aA,aB]
    refine tn 26 hHeld ?_
    try simp only[aA,aB]
    refine tn 27 hHeld ?_
    try simp only[aA,aB]
    refine tn 28 hHeld ?_
    try simp only[aA,aB]
    refine tn 29 hHeld ?_
    try simp only[aA,aB]
    refine tn 30 hHeld ?_
    try simp only[aA,aB]
    refine tn 31 hHeld ?_
    try simp only[aA,aB]
    refine tn 32 hHeld ?_
    try simp only[aA,aB]
    refine aj 33 hHeld ?_;refine aj 34 hHeld ?_;have HB4:Hid (Below w.heap.size w _):=hide (aW HB.out hHeld);refine wpAnyH_done (by kernel_rfl) ?_ _
    try simp only[Act.put,aG,aE,aF,aD,aA,aB]
    go_wp2_with fail
    go_roundw
    case rel=>exact⟨q+1,by omega,by go_num,HB4⟩
    case measure=>simp[intOf];omega
   ·simp only[List.getElem_map]at hc1;rw[List.getElem_append_right (by omega)]at hc1;have g1:decide ((q:Int)<(l.length:Int))=false:=by simp;omega
    have g2:decide ((l.length:Int)≤(q:Int))=true:=by simp;omega
    have g3:decide (q<l.length)=false:=by simp;omega
    have g4:decide (l.length≤q)=true:=by simp;omega
    have ou:(0:Int)≤(q:Int)-(l.length:Int)∧(q:Int)-(l.length:Int)<12:=by omega
    have hw64:IntKind.i64.wrap ((q:Int)-(l.length:Int))=(q:Int)-(l.length:Int):=by rw[IntKind.wrap_i64];omega
    have hmk:(((fG[q-l.length]'(by rw[IQ];omega)).toNat:Nat):Int)=Am 1 ((q:Int)-(l.length:Int)):=by
     have h9:fG[q-l.length]'(by rw[IQ];omega)=mO (q-l.length):=by simp[fG]
     rw[h9,W9];congr 1;omega
    rw[hmk]at hc1
    go_wp2_with fail
    have hd1:Below wr.heap.size wr wr.drew:=di (Below.refl _ _) 1;refine wp_region_held_drew (S:=Below wr.heap.size wr) (by kernel_rfl) hd1 (fun hHeld=>?_);generalize wr.drew=wD at hHeld⊢;refine aj 0 hHeld ?_;refine aj 1 hHeld ?_;refine aj 2 hHeld ?_;refine aj 3 hHeld ?_;refine aj 4 hHeld ?_;refine tn 5 hHeld ?_
    try simp only[aA,aB]
    refine tn 6 hHeld ?_
    try simp only[aA,aB]
    refine tn 7 hHeld ?_
    try simp only[aA,aB]
    refine tn 8 hHeld ?_
    try simp only[aA,aB]
    refine tn 9 hHeld ?_
    try simp only[aA,aB]
    refine tn 10 hHeld ?_
    try simp only[aA,aB]
    refine tn 11 hHeld ?_
    try simp only[aA,aB]
    refine tn 12 hHeld ?_
    try simp only[aA,aB]
    refine tn 13 hHeld ?_
    try simp only[aA,aB]
    refine tn 14 hHeld ?_
    try simp only[aA,aB]
    refine aj 15 hHeld ?_;refine aj 16 hHeld ?_;refine aj 17 hHeld ?_;refine aj 18 hHeld ?_;refine aj 19 hHeld ?_;refine aj 20 hHeld ?_;refine aj 21 hHeld ?_;refine aj 22 hHeld ?_;refine aj 23 hHeld ?_;refine aj 24 hHeld ?_;refine tk (v:=?_) 25 hHeld ?_ ?_;rotate_left
    ·intro w' hSw;have hc1':=(hSw.cell (p:=⟨g,_,none⟩) hgb).trans hc1
     first|(go_simp;done)|(go_simp;with_reducible rfl)
    try simp only[aA,aB]
    refine aj 26 hHeld ?_;refine aj 27 hHeld ?_;refine aj 28 hHeld ?_;refine aj 29 hHeld ?_;refine wpAnyH_ready (rs:=[30]) (by kernel_rfl) (by simp) ?_;refine AllReadyH.cons rfl (fun K hK=>?_) AllReadyH.nil;go_simp
    go_wp2_with(go_at_call 104;(with_reducible refine(Xa ou _).mono ?_);rintro e1 w1 ⟨rfl,hB1⟩)
    have hH2:=hHeld.trans (hB1.mono hHeld.size);refine hK.out _ _ hH2 (fun _=>?_);clear hK K
    try simp only[Act.put,aG,aE,aF,aD,aA,aB]
    refine aj 31 hH2 ?_;refine aj 32 hH2 ?_;refine aj 33 hH2 ?_;refine aj 34 hH2 ?_;have HB4:Hid (Below w.heap.size w _):=hide (aW HB.out hH2);refine wpAnyH_done (by kernel_rfl) ?_ _
    try simp only[Act.put,aG,aE,aF,aD,aA,aB]
    go_wp2_with fail
    go_roundw
    case rel=>exact⟨q+1,by omega,by go_num,HB4⟩
    case measure=>simp[intOf];omega
  ·go_wp2_with fail
   go_ret;exact⟨rfl,HB.out⟩
end
end Go.Proofs.YtjjaojnglnpgaaaGreatDoor
