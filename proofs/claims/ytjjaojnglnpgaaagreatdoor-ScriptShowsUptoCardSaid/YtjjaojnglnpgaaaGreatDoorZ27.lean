/- Part 28 of what scriptShows_cardUpto rests on. -/
import Derived.Deep.RegionHeld
import Derived.BigQuiet
import Derived.Test.YtjjaojnglnpgaaaGreatDoorZ11
import Derived.Test.YtjjaojnglnpgaaaGreatDoorZ03
import Derived.Test.YtjjaojnglnpgaaaGreatDoorZ00
set_option linter.unusedVariables false
set_option linter.unusedSimpArgs false
set_option maxHeartbeats 16000000
set_option maxRecDepth 1000000
namespace Go.Proofs.YtjjaojnglnpgaaaGreatDoor
section
open Go.RowKit
theorem Xb{S S':Nat→Prop}{A A':Option Addr}{c c':Nat}{l:List ByteArray}{w:World}(ho:bT S w A c l)(hl:bJ S' w A' l):
  Calls Tryz.prog 56 #[.slice A l.length c,.slice A' l.length c'] w fun e w'=>e = .returned (.bool true)∧Below w.heap.size w w':=by
 have Ho:=hide ho;have Hl:=hide hl;have hcap:l.length+12≤c∧c≤9223372036854775807:=by obtain⟨_,_,_,_,_,h1,h2,_⟩:=ho.1;exact⟨h1,h2⟩
 obtain⟨g,rfl⟩:∃g,A=some ⟨g,0,none⟩:=by obtain⟨g,_,e,_⟩:=ho.1;exact⟨g,e⟩
 have hd:((l.length:Int) != (l.length:Int))=false:=by simp
 clear ho hl;go_enter Tryz.func56,Tryz.ntmps56
 go_wp2_with fail
 go_loopw [6] (fun i wr=>∃q:Nat,q≤l.length+12∧i = .int .i64 q∧Hid (Below w.heap.size w wr)) (fun i _=>l.length+12-(intOf i).toNat)
 case atStart=>exact⟨0,by omega,rfl,hide (Below.refl _ _)⟩
 case round =>
  obtain⟨q,hq,rfl,HB⟩:=hrel;by_cases hlt:q<l.length+12
  ·obtain⟨g',e1,hc1⟩:=(Ho.out.below HB.out).1.at_ (j:=q) (by simp[Jn];omega);injection e1 with e1;injection e1 with e1;subst e1;have hgb:=block_lt_of_cell hc1;by_cases hin:q<l.length
   ·obtain⟨b,o,rfl,hc2⟩:=(Hl.out.below HB.out).1.at_ (j:=q) (by simpa using hin);simp only[List.getElem_map]at hc1 hc2;rw[List.getElem_append_left hin]at hc1;generalize l[q]=s at hc1 hc2;have hbb:=block_lt_of_cell hc2;have g1:decide ((q:Int)<(l.length:Int))=true:=by simp;omega
    have g2:decide ((l.length:Int)≤(q:Int))=false:=by simp;omega
    have g3:decide (q<l.length)=true:=by simp;omega
    have g4:decide (l.length≤q)=false:=by simp;omega
    go_wp2_with fail
    have hd1:Below wr.heap.size wr wr.drew:=di (Below.refl _ _) 1;refine wp_region_held_drew (S:=Below wr.heap.size wr) (by kernel_rfl) hd1 (fun hHeld=>?_);generalize wr.drew=wD at hHeld⊢;refine aj 0 hHeld ?_;refine aj 1 hHeld ?_;refine aj 2 hHeld ?_;refine aj 3 hHeld ?_;refine aj 4 hHeld ?_;refine aj 5 hHeld ?_;refine aj 6 hHeld ?_;refine aj 7 hHeld ?_;refine tk (v:=?_) 8 hHeld ?_ ?_;rotate_left
    ·intro w' hSw;have hc1':=(hSw.cell (p:=⟨g,_,none⟩) hgb).trans hc1
     first|(go_simp;done)|(go_simp;with_reducible rfl)
    try simp only[aA,aB]
    refine aj 9 hHeld ?_;refine aj 10 hHeld ?_;refine aj 11 hHeld ?_;refine tk (v:=?_) 12 hHeld ?_ ?_;rotate_left
    ·intro w' hSw;have hc2':=(hSw.cell (p:=⟨b,_,none⟩) hbb).trans hc2
     first|(go_simp;done)|(go_simp;with_reducible rfl)
    try simp only[aA,aB]
    refine aj 13 hHeld ?_;refine aj 14 hHeld ?_;refine aj 15 hHeld ?_;refine aj 16 hHeld ?_;refine aj 17 hHeld ?_;refine aj 18 hHeld ?_;refine aj 19 hHeld ?_;refine aj 20 hHeld ?_;refine aj 21 hHeld ?_;refine tn 22 hHeld ?_
    try simp only[aA,aB]
    refine tn 23 hHeld ?_
    try simp only[aA,aB]
    refine tn 24 hHeld ?_
    try simp only[aA,aB]
    refine tn 25 hHeld ?_
    try simp only[aA,aB]
    refine tn 26 hHeld ?_
    try simp only[aA,aB]
    refine tn 27 hHeld ?_
    try simp only[aA,aB]
    refine tn 28 hHeld ?_
    try simp only[aA,aB]
    refine tn 29 hHeld ?_
    try simp only[aA,aB]
    refine tn 30 hHeld ?_
    try simp only[aA,aB]
    refine tn 31 hHeld ?_
    try simp only[aA,aB]
    refine tn 32 hHeld ?_
    try simp only[aA,aB]
    refine aj 33 hHeld ?_;refine aj 34 hHeld ?_;have HB4:Hid (Below w.heap.size w _):=hide (aW HB.out hHeld);refine wpAnyH_done (by kernel_rfl) ?_ _
    try simp only[Act.put,aG,aE,aF,aD,aA,aB]
    go_wp2_with fail
    go_roundw
    case rel=>exact⟨q+1,by omega,by go_num,HB4⟩
    case measure=>simp[intOf];omega
   ·simp only[List.getElem_map]at hc1;rw[List.getElem_append_right (by omega)]at hc1;have g1:decide ((q:Int)<(l.length:Int))=false:=by simp;omega
    have g2:decide ((l.length:Int)≤(q:Int))=true:=by simp;omega
    have g3:decide (q<l.length)=false:=by simp;omega
    have g4:decide (l.length≤q)=true:=by simp;omega
    have ou:(0:Int)≤(q:Int)-(l.length:Int)∧(q:Int)-(l.length:Int)<12:=by omega
    have hw64:IntKind.i64.wrap ((q:Int)-(l.length:Int))=(q:Int)-(l.length:Int):=by rw[IntKind.wrap_i64];omega
    have hmk:iL[q-l.length]'(by rw[Jn];omega)=markT ((q:Int)-(l.length:Int)).toNat:=by
     have h9:((q:Int)-(l.length:Int)).toNat=q-l.length:=by omega
     rw[h9];simp[iL]
    rw[hmk]at hc1
    go_wp2_with fail
    have hd1:Below wr.heap.size wr wr.drew:=di (Below.refl _ _) 1;refine wp_region_held_drew (S:=Below wr.heap.size wr) (by kernel_rfl) hd1 (fun hHeld=>?_);generalize wr.drew=wD at hHeld⊢;refine aj 0 hHeld ?_;refine aj 1 hHeld ?_;refine aj 2 hHeld ?_;refine aj 3 hHeld ?_;refine aj 4 hHeld ?_;refine tn 5 hHeld ?_
    try simp only[aA,aB]
    refine tn 6 hHeld ?_
    try simp only[aA,aB]
    refine tn 7 hHeld ?_
    try simp only[aA,aB]
    refine tn 8 hHeld ?_
    try simp only[aA,aB]
    refine tn 9 hHeld ?_
    try simp only[aA,aB]
    refine tn 10 hHeld ?_
    try simp only[aA,aB]
    refine tn 11 hHeld ?_
    try simp only[aA,aB]
    refine tn 12 hHeld ?_
    try simp only[aA,aB]
    refine tn 13 hHeld ?_
    try simp only[aA,aB]
    refine tn 14 hHeld ?_
    try simp only[aA,aB]
    refine aj 15 hHeld ?_;refine aj 16 hHeld ?_;refine aj 17 hHeld ?_;refine aj 18 hHeld ?_;refine aj 19 hHeld ?_;refine aj 20 hHeld ?_;refine aj 21 hHeld ?_;refine aj 22 hHeld ?_;refine aj 23 hHeld ?_;refine aj 24 hHeld ?_;refine tk (v:=?_) 25 hHeld ?_ ?_;rotate_left
    ·intro w' hSw;have hc1':=(hSw.cell (p:=⟨g,_,none⟩) hgb).trans hc1
     first|(go_simp;done)|(go_simp;with_reducible rfl)
    try simp only[aA,aB]
    refine aj 26 hHeld ?_;refine aj 27 hHeld ?_;refine aj 28 hHeld ?_;refine aj 29 hHeld ?_;refine wpAnyH_ready (rs:=[30]) (by kernel_rfl) (by simp) ?_;refine AllReadyH.cons rfl (fun K hK=>?_) AllReadyH.nil;go_simp
    go_wp2_with(go_at_call 127;(with_reducible refine(Ur _ ou _).mono ?_);rintro e1 w1 ⟨rfl,hB1⟩)
    have hH2:=hHeld.trans (hB1.mono hHeld.size);refine hK.out _ _ hH2 (fun _=>?_);clear hK K
    try simp only[Act.put,aG,aE,aF,aD,aA,aB]
    refine aj 31 hH2 ?_;refine aj 32 hH2 ?_;refine aj 33 hH2 ?_;refine aj 34 hH2 ?_;have HB4:Hid (Below w.heap.size w _):=hide (aW HB.out hH2);refine wpAnyH_done (by kernel_rfl) ?_ _
    try simp only[Act.put,aG,aE,aF,aD,aA,aB]
    go_wp2_with fail
    go_roundw
    case rel=>exact⟨q+1,by omega,by go_num,HB4⟩
    case measure=>simp[intOf];omega
  ·go_wp2_with fail
   go_ret;exact⟨rfl,HB.out⟩
theorem zg3{S S':Nat→Prop}{A A':Option Addr}{c c':Nat}{l:List Int}{w:World}(ho:cZ S w A c l)(hl:IntsIn S' w A' l):
  Calls Tryz.prog 189 #[.slice A l.length c,.slice A' l.length c'] w fun e w'=>e = .returned (.bool true)∧Below w.heap.size w w':=by
 have Ho:=hide ho;have Hl:=hide hl;have hcap:l.length+12≤c∧c≤9223372036854775807:=by obtain⟨_,_,_,_,_,h1,h2,_⟩:=ho.1;exact⟨h1,h2⟩
 obtain⟨g,rfl⟩:∃g,A=some ⟨g,0,none⟩:=by obtain⟨g,_,e,_⟩:=ho.1;exact⟨g,e⟩
 have hd:((l.length:Int) != (l.length:Int))=false:=by simp
 clear ho hl;go_enter Tryz.func189,Tryz.ntmps189
 go_wp2_with fail
 go_loopw [6] (fun i wr=>∃q:Nat,q≤l.length+12∧i = .int .i64 q∧Hid (Below w.heap.size w wr)) (fun i _=>l.length+12-(intOf i).toNat)
 case atStart=>exact⟨0,by omega,rfl,hide (Below.refl _ _)⟩
 case round =>
  obtain⟨q,hq,rfl,HB⟩:=hrel;by_cases hlt:q<l.length+12
  ·obtain⟨g',e1,hc1⟩:=(Ho.out.below HB.out).1.at_ (j:=q) (by simp[Jm];omega);injection e1 with e1;injection e1 with e1;subst e1;have hgb:=block_lt_of_cell hc1;by_cases hin:q<l.length
   ·obtain⟨b,o,rfl,hc2⟩:=(Hl.out.below HB.out).1.at_ (j:=q) (by simpa using hin);simp only[List.getElem_map]at hc1 hc2;rw[List.getElem_append_left hin]at hc1;generalize l[q]=s at hc1 hc2;have hbb:=block_lt_of_cell hc2;have g1:decide ((q:Int)<(l.length:Int))=true:=by simp;omega
    have g2:decide ((l.length:Int)≤(q:Int))=false:=by simp;omega
    have g3:decide (q<l.length)=true:=by simp;omega
    have g4:decide (l.length≤q)=false:=by simp;omega
    go_wp2_with fail
    have hd1:Below wr.heap.size wr wr.drew:=di (Below.refl _ _) 1;refine wp_region_held_drew (S:=Below wr.heap.size wr) (by kernel_rfl) hd1 (fun hHeld=>?_);generalize wr.drew=wD at hHeld⊢;refine aj 0 hHeld ?_;refine aj 1 hHeld ?_;refine aj 2 hHeld ?_;refine aj 3 hHeld ?_;refine aj 4 hHeld ?_;refine aj 5 hHeld ?_;refine aj 6 hHeld ?_;refine aj 7 hHeld ?_;refine tk (v:=?_) 8 hHeld ?_ ?_;rotate_left
    ·intro w' hSw;have hc1':=(hSw.cell (p:=⟨g,_,none⟩) hgb).trans hc1
     first|(go_simp;done)|(go_simp;with_reducible rfl)
    try simp only[aA,aB]
    refine aj 9 hHeld ?_;refine aj 10 hHeld ?_;refine aj 11 hHeld ?_;refine tk (v:=?_) 12 hHeld ?_ ?_;rotate_left
    ·intro w' hSw;have hc2':=(hSw.cell (p:=⟨b,_,none⟩) hbb).trans hc2
     first|(go_simp;done)|(go_simp;with_reducible rfl)
    try simp only[aA,aB]
    refine aj 13 hHeld ?_;refine aj 14 hHeld ?_;refine aj 15 hHeld ?_;refine aj 16 hHeld ?_;refine aj 17 hHeld ?_;refine aj 18 hHeld ?_;refine aj 19 hHeld ?_;refine aj 20 hHeld ?_;refine aj 21 hHeld ?_;refine tn 22 hHeld ?_
    try simp only[aA,aB]
    refine tn 23 hHeld ?_
    try simp only[aA,aB]
    refine tn 24 hHeld ?_
    try simp only[aA,aB]
    refine tn 25 hHeld ?_
    try simp only[aA,aB]
    refine tn 26 hHeld ?_
    try simp only[aA,aB]
    refine tn 27 hHeld ?_
    try simp only[aA,aB]
    refine tn 28 hHeld ?_
    try simp only[aA,aB]
    refine tn 29 hHeld ?_
    try simp only[aA,aB]
    refine tn 30 hHeld ?_
    try simp only[aA,aB]
    refine tn 31 hHeld ?_
    try simp only[aA,aB]
    refine tn 32 hHeld ?_
    try simp only[aA,aB]
    refine aj 33 hHeld ?_;refine aj 34 hHeld ?_;have HB4:Hid (Below w.heap.size w _):=hide (aW HB.out hHeld);refine wpAnyH_done (by kernel_rfl) ?_ _
    try simp only[Act.put,aG,aE,aF,aD,aA,aB]
    go_wp2_with fail
    go_roundw
    case rel=>exact⟨q+1,by omega,by go_num,HB4⟩
    case measure=>simp[intOf];omega
   ·simp only[List.getElem_map]at hc1;rw[List.getElem_append_right (by omega)]at hc1;have g1:decide ((q:Int)<(l.length:Int))=false:=by simp;omega
    have g2:decide ((l.length:Int)≤(q:Int))=true:=by simp;omega
    have g3:decide (q<l.length)=false:=by simp;omega
    have g4:decide (l.length≤q)=true:=by simp;omega
    have ou:(0:Int)≤(q:Int)-(l.length:Int)∧(q:Int)-(l.length:Int)<12:=by omega
    have hw64:IntKind.i64.wrap ((q:Int)-(l.length:Int))=(q:Int)-(l.length:Int):=by rw[IntKind.wrap_i64];omega
    have hmk:iK[q-l.length]'(by rw[Jm];omega)=8000024+((q:Int)-(l.length:Int)):=by
     have h9:((q:Int)-(l.length:Int)).toNat=q-l.length:=by omega
     simp[iK,lL];omega
    rw[hmk]at hc1
    go_wp2_with fail
    have hd1:Below wr.heap.size wr wr.drew:=di (Below.refl _ _) 1;refine wp_region_held_drew (S:=Below wr.heap.size wr) (by kernel_rfl) hd1 (fun hHeld=>?_);generalize wr.drew=wD at hHeld⊢;refine aj 0 hHeld ?_;refine aj 1 hHeld ?_;refine aj 2 hHeld ?_;refine aj 3 hHeld ?_;refine aj 4 hHeld ?_;refine tn 5 hHeld ?_
    try simp only[aA,aB]
    refine tn 6 hHeld ?_
    try simp only[aA,aB]
    refine tn 7 hHeld ?_
    try simp only[aA,aB]
    refine tn 8 hHeld ?_
    try simp only[aA,aB]
    refine tn 9 hHeld ?_
    try simp only[aA,aB]
    refine tn 10 hHeld ?_
    try simp only[aA,aB]
    refine tn 11 hHeld ?_
    try simp only[aA,aB]
    refine tn 12 hHeld ?_
    try simp only[aA,aB]
    refine tn 13 hHeld ?_
    try simp only[aA,aB]
    refine tn 14 hHeld ?_
    try simp only[aA,aB]
    refine aj 15 hHeld ?_;refine aj 16 hHeld ?_;refine aj 17 hHeld ?_;refine aj 18 hHeld ?_;refine aj 19 hHeld ?_;refine aj 20 hHeld ?_;refine aj 21 hHeld ?_;refine aj 22 hHeld ?_;refine aj 23 hHeld ?_;refine aj 24 hHeld ?_;refine tk (v:=?_) 25 hHeld ?_ ?_;rotate_left
    ·intro w' hSw;have hc1':=(hSw.cell (p:=⟨g,_,none⟩) hgb).trans hc1
     first|(go_simp;done)|(go_simp;with_reducible rfl)
    try simp only[aA,aB]
    refine aj 26 hHeld ?_;refine aj 27 hHeld ?_;refine aj 28 hHeld ?_;refine aj 29 hHeld ?_;refine wpAnyH_ready (rs:=[30]) (by kernel_rfl) (by simp) ?_;refine AllReadyH.cons rfl (fun K hK=>?_) AllReadyH.nil;go_simp
    go_wp2_with(go_at_call 144;(with_reducible refine(zip ou _).mono ?_);rintro e1 w1 ⟨rfl,hB1⟩)
    have hH2:=hHeld.trans (hB1.mono hHeld.size);refine hK.out _ _ hH2 (fun _=>?_);clear hK K
    try simp only[Act.put,aG,aE,aF,aD,aA,aB]
    refine aj 31 hH2 ?_;refine aj 32 hH2 ?_;refine aj 33 hH2 ?_;refine aj 34 hH2 ?_;have HB4:Hid (Below w.heap.size w _):=hide (aW HB.out hH2);refine wpAnyH_done (by kernel_rfl) ?_ _
    try simp only[Act.put,aG,aE,aF,aD,aA,aB]
    go_wp2_with fail
    go_roundw
    case rel=>exact⟨q+1,by omega,by go_num,HB4⟩
    case measure=>simp[intOf];omega
  ·go_wp2_with fail
   go_ret;exact⟨rfl,HB.out⟩
end
end Go.Proofs.YtjjaojnglnpgaaaGreatDoor
