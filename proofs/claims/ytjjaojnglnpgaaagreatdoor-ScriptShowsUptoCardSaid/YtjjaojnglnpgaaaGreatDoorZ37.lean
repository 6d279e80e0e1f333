/- Part 38 of what scriptShows_cardUpto rests on. -/
import Derived.Deep.RegionHeld
import Derived.BigQuiet
import Derived.Deep.CutBlock
import Derived.Test.YtjjaojnglnpgaaaGreatDoorZ21
import Derived.Test.YtjjaojnglnpgaaaGreatDoorZ01
import Derived.Test.YtjjaojnglnpgaaaGreatDoorZ03
import Derived.Test.YtjjaojnglnpgaaaGreatDoorZ27
import Derived.Test.YtjjaojnglnpgaaaGreatDoorZ07
import Derived.Test.YtjjaojnglnpgaaaGreatDoorZ00
set_option linter.unusedVariables false
set_option linter.unusedSimpArgs false
set_option maxHeartbeats 16000000
set_option maxRecDepth 1000000
namespace Go.Proofs.YtjjaojnglnpgaaaGreatDoor
section
open Go.RowKit
section
variable {S : Nat → Prop} {w w' : World}
theorem bK.node_at :∀{f:Fo} {g o i k:Nat} {t:ByteArray} {n:Int} {ks r:Fo},bK S w g o f→f.drop i = .cons k t n ks r→∃g' kc,w.cell? ⟨g,o+i*4,none⟩=some (.int .u8 k)∧w.cell? ⟨g,o+i*4+1,none⟩=some (.string t)∧w.cell? ⟨g,o+i*4+2,none⟩=some (.int .i64 n)∧w.cell? ⟨g,o+i*4+3,none⟩=some (.slice (some ⟨g',0,none⟩) ks.len kc)∧bQ S w (some ⟨g',0,none⟩) kc ks
 | .nil,_,_,i,_,_,_,_,_,_,hd=>by cases i<;>cases hd
 | .cons k' t' n' ks' r',g,o,0,k,t,n,ks,r,⟨g',kc,c0,c1,c2,c3,h1,h2,h3,h4,h5,h6,h7,h8⟩,hd=>by
  cases hd;exact⟨g',kc,by simpa using c0,by simpa using c1,by simpa using c2,by simpa using c3,g',rfl,h6,h4,h5,h7⟩
 | .cons k' t' n' ks' r',g,o,i+1,k,t,n,ks,r,⟨g',kc,c0,c1,c2,c3,h1,h2,h3,h4,h5,h6,h7,h8⟩,hd=>by
  have:=bK.node_at (i:=i) h8 hd
  rwa [show o+4+i*4=o+(i+1)*4 by omega]at this
theorem bK.mark_at :∀{f:Fo} {g o i:Nat},bK S w g o f→i<12→w.cell? ⟨g,o+(f.len+i)*4,none⟩=some (.int .u8 0)∧w.cell? ⟨g,o+(f.len+i)*4+1,none⟩=some (.string ⟨#[]⟩)∧w.cell? ⟨g,o+(f.len+i)*4+2,none⟩=some (.int .i64 (lL i))∧w.cell? ⟨g,o+(f.len+i)*4+3,none⟩=some (.slice none 0 0)
 | .nil,g,o,i,h,hi=>by simpa[Fo.len]using h i hi
 | .cons k t n ks r,g,o,i,⟨g',kc,c0,c1,c2,c3,h1,h2,h3,h4,h5,h6,h7,h8⟩,hi=>by
  have:=bK.mark_at h8 hi
  rwa [show o+4+(r.len+i)*4=o+((Fo.cons k t n ks r).len+i)*4 by simp only[Fo.len];omega]at this
theorem Xn{S S':Nat→Prop}{k:Nat}{t:ByteArray}{n:Int}{A A':Option Addr}{c c':Nat}{ks:Fo}{w:World}(h:bG S w A ks)(h':bG S' w A' ks)(hl:ks.len≤9223372036854775807):
  Calls Tryz.prog 148 #[.agg #[.int .u8 k,.string t,.int .i64 n,.slice A ks.len c],.agg #[.int .u8 k,.string t,.int .i64 n,.slice A' ks.len c']] w fun e w'=>e = .returned (.bool true)∧Below w.heap.size w w':=by
 refine(Uc h h' hl hl).mono ?_;rintro e w' ⟨⟨b,rfl,hb⟩,hB⟩;exact⟨by rw[hb.2 ⟨rfl,rfl,rfl,rfl⟩],hB⟩
theorem zhb(n:Int)(w:World):Calls Tryz.prog 148 #[.agg #[.int .u8 0,.string ⟨#[]⟩,.int .i64 n,.slice none 0 0],.agg #[.int .u8 0,.string ⟨#[]⟩,.int .i64 n,.slice none 0 0]] w fun e w'=>e = .returned (.bool true)∧Below w.heap.size w w':=by
 have h:=Xn (S:=fun _=>True) (S':=fun _=>True) (k:=0) (t:=⟨#[]⟩) (n:=n) (A:=none) (A':=none) (c:=0) (c':=0) (ks:= .nil) (w:=w) trivial trivial (by simp[Fo.len]);exact h
end
abbrev mP(A:Option Addr)(c:Nat)(A':Option Addr)(c':Nat)(f:Fo)(W:World):Prop :=
 Calls Tryz.prog 190 #[.slice A f.len c,.slice A' f.len c'] W fun e w'=>e = .returned (.bool true)∧Below W.heap.size W w'
theorem zh3{S S':Nat→Prop}{k:Nat}{t:ByteArray}{n:Int}{A A':Option Addr}{c c':Nat}{ks:Fo}{w:World}(ho:bG S w A ks)(hl:bG S' w A' ks)(hlen:ks.len≤9223372036854775807)(hk :∀W,Below w.heap.size w W→mP A c A' c' ks W):
  Calls Tryz.prog 234 #[.agg #[.int .u8 k,.string t,.int .i64 n,.slice A ks.len c],.agg #[.int .u8 k,.string t,.int .i64 n,.slice A' ks.len c']] w fun e w'=>e = .returned (.bool true)∧Below w.heap.size w w':=by
 have Ho:=hide ho;have Hl:=hide hl;have Hk:=hide hk;clear ho hl hk;go_enter Tryz.func234,Tryz.ntmps234
 go_wp2_with(first
  | (go_at_call 148;(with_reducible refine(Xn (Ho.out.below (iD _ _)) (Hl.out.below (iD _ _)) hlen).mono ?_);rintro e1 w1 ⟨rfl,hB⟩;have hx:=(hB.cell (p:=⟨w.heap.size,3,none⟩) (by simp;omega)).trans (World.cell?_alloc2_first ..);have hy:=(hB.cell (p:=⟨w.heap.size+1,3,none⟩) (by simp)).trans (World.cell?_alloc2_new ..);simp only[List.getElem?_toArray,List.getElem?_cons_zero,List.getElem?_cons_succ]at hx hy;have HB1:=hide (aW (iD _ _) hB);have hs1:=HB1.out.size;clear hB)
  | (go_at_call 190;(with_reducible refine(Hk.out _ HB1.out).mono ?_);rintro e2 w2 ⟨rfl,hB⟩;have HB2:=hide (HB1.out.trans (hB.mono hs1));clear hB))
 go_ret;exact⟨rfl,HB2.out⟩
theorem zeC(N:Nat):∀(S S':Nat→Prop) (A A':Option Addr) (c c':Nat) (f:Fo) (w:World),f.cnt<N→bQ S w A c f→bG S' w A' f→mP A c A' c' f w:=by
 induction N with
 | zero=>intro _ _ _ _ _ _ _ _ h;omega
 | succ N ih =>
  intro S S' A A' c c' f w hN ho hl;have nH:=hide ih;have HN:=hide hN;have Ho:=hide ho;have Hl:=hide hl;have hcap:f.len+12≤c∧c≤9223372036854775807:=by obtain⟨_,_,_,h1,h2,_⟩:=ho;exact⟨h1,h2⟩
  obtain⟨g,rfl⟩:∃g,A=some ⟨g,0,none⟩:=by obtain⟨g,e,_⟩:=ho;exact⟨g,e⟩
  have hd:((f.len:Int) != (f.len:Int))=false:=by simp
  clear ih hN ho hl;show Calls Tryz.prog 190 #[.slice (some ⟨g,0,none⟩) f.len c,.slice A' f.len c'] w fun e w'=>e = .returned (.bool true)∧Below w.heap.size w w';go_enter Tryz.func190,Tryz.ntmps190
  go_wp2_with fail
  go_loopw [6] (fun i wr=>∃q:Nat,q≤f.len+12∧i = .int .i64 q∧Hid (Below w.heap.size w wr)) (fun i _=>f.len+12-(intOf i).toNat)
  case atStart=>exact⟨0,by omega,rfl,hide (Below.refl _ _)⟩
  case round =>
   obtain⟨q,hq,rfl,HB⟩:=hrel;by_cases hlt:q<f.len+12
   ·obtain⟨g',e1,_,_,_,hat⟩:=Ho.out.below HB.out;injection e1 with e1;injection e1 with e1;subst e1;by_cases hin:q<f.len
    ·obtain⟨b,o,KA,kc,k,t,n,ks,r,rfl,hdr,c0,c1,c2,c3,e1,e2,e3,e4,e5,hks,hcn⟩:=(Hl.out.below HB.out).at_ hin;obtain⟨g2,OE,d0,d1,d2,d3,hL⟩:=hat.node_at hdr;have hgb:=block_lt_of_cell d0;have hbb:=block_lt_of_cell c0;simp only[Nat.zero_add]at d0 d1 d2 d3;have hR:Hid (∀W,Below wr.heap.size wr W→Calls Tryz.prog 234 #[.agg #[.int .u8 k,.string t,.int .i64 n,.slice (some ⟨g2,0,none⟩) ks.len OE],.agg #[.int .u8 k,.string t,.int .i64 n,.slice KA ks.len kc]] W fun e w'=>e = .returned (.bool true)∧Below W.heap.size W w'):=
      hide fun W hW=>zh3 (hL.below hW).fo.1 (hks.below hW) (by omega) (fun W2 hW2=>nH.out S S' _ KA OE kc ks W2 (by have:=HN.out;omega) ((hL.below hW).below hW2) ((hks.below hW).below hW2))
     clear hL hks hat hdr hcn;have g1:decide ((q:Int)<(f.len:Int))=true:=by simp;omega
     have g2:decide ((f.len:Int)≤(q:Int))=false:=by simp;omega
     have g3:decide (q<f.len)=true:=by simp;omega
     have g4:decide (f.len≤q)=false:=by simp;omega
     go_wp2_with fail
     have hd1:Below wr.heap.size wr wr.drew:=di (Below.refl _ _) 1;refine wp_region_held_drew (S:=Below wr.heap.size wr) (by kernel_rfl) hd1 (fun hHeld=>?_);generalize wr.drew=wD at hHeld⊢;refine aj 0 hHeld ?_;refine aj 1 hHeld ?_;refine aj 2 hHeld ?_;refine aj 3 hHeld ?_;refine aj 4 hHeld ?_;refine aj 5 hHeld ?_;refine aj 6 hHeld ?_;refine aj 7 hHeld ?_;refine tk (v:=?_) 8 hHeld ?_ ?_;rotate_left
     ·intro w' hSw;have d0':=(hSw.cell (p:=⟨g,_,none⟩) hgb).trans d0;have d1':=(hSw.cell (p:=⟨g,_,none⟩) hgb).trans d1;have d2':=(hSw.cell (p:=⟨g,_,none⟩) hgb).trans d2;have d3':=(hSw.cell (p:=⟨g,_,none⟩) hgb).trans d3
      first|(go_simp;done)|(go_simp;with_reducible rfl)
     try simp only[aA,aB]
     refine aj 9 hHeld ?_;refine aj 10 hHeld ?_;refine aj 11 hHeld ?_;refine tk (v:=?_) 12 hHeld ?_ ?_;rotate_left
     ·intro w' hSw;have c0':=(hSw.cell (p:=⟨b,_,none⟩) hbb).trans c0;have c1':=(hSw.cell (p:=⟨b,_,none⟩) hbb).trans c1;have c2':=(hSw.cell (p:=⟨b,_,none⟩) hbb).trans c2;have c3':=(hSw.cell (p:=⟨b,_,none⟩) hbb).trans c3
      first|(go_simp;done)|(go_simp;with_reducible rfl)
     try simp only[aA,aB]
     refine wpAnyH_ready (rs:=[13]) (by kernel_rfl) (by simp) ?_;refine AllReadyH.cons rfl (fun K hK=>?_) AllReadyH.nil;go_simp
     go_wp2_with(go_at_call 234;(with_reducible refine(hR.out _ hHeld).mono ?_);rintro e1 w1 ⟨rfl,hB1⟩)
     have hH2:=hHeld.trans (hB1.mono hHeld.size);refine hK.out _ _ hH2 (fun _=>?_);clear hK K
     try simp only[Act.put,aG,aE,aF,aD,aA,aB]
     refine aj 14 hH2 ?_;refine aj 15 hH2 ?_;refine aj 16 hH2 ?_;refine aj 17 hH2 ?_;refine aj 18 hH2 ?_;refine aj 19 hH2 ?_;refine aj 20 hH2 ?_;refine aj 21 hH2 ?_;refine tn 22 hH2 ?_
     try simp only[aA,aB]
     refine tn 23 hH2 ?_
     try simp only[aA,aB]
     refine tn 24 hH2 ?_
     try simp only[aA,aB]
     refine tn 25 hH2 ?_
     try simp only[aA,aB]
     refine tn 26 hH2 ?_
     try simp only[aA,aB]
     refine tn 27 hH2 ?_
     try simp only[aA,aB]
     refine tn 28 hH2 ?_
     try simp only[aA,aB]
     refine tn 29 hH2 ?_
     try simp only[aA,aB]
     refine tn 30 hH2 ?_
     try simp only[aA,aB]
     refine tn 31 hH2 ?_
     try simp only[aA,aB]
     refine tn 32 hH2 ?_
     try simp only[aA,aB]
     refine aj 33 hH2 ?_;refine aj 34 hH2 ?_;have HB4:Hid (Below w.heap.size w _):=hide (aW HB.out hH2);refine wpAnyH_done (by kernel_rfl) ?_ _
     try simp only[Act.put,aG,aE,aF,aD,aA,aB]
     go_wp2_with fail
     go_roundw
     case rel=>exact⟨q+1,by omega,by go_num,HB4⟩
     case measure=>simp[intOf];omega
    ·obtain⟨d0,d1,d2,d3⟩:=hat.mark_at (i:=q-f.len) (by omega);have hgb:=block_lt_of_cell d0;have hqe:f.len+(q-f.len)=q:=by omega
     have hmk:lL (q-f.len)=8000024+((q:Int)-(f.len:Int)):=by unfold lL;omega
     rw[hqe]at d0 d1 d2 d3;rw[hmk]at d2;simp only[Nat.zero_add]at d0 d1 d2 d3;clear hat hqe hmk;have g1:decide ((q:Int)<(f.len:Int))=false:=by simp;omega
     have g2:decide ((f.len:Int)≤(q:Int))=true:=by simp;omega
     have g3:decide (q<f.len)=false:=by simp;omega
     have g4:decide (f.len≤q)=true:=by simp;omega
     have ou:(0:Int)≤(q:Int)-(f.len:Int)∧(q:Int)-(f.len:Int)<12:=by omega
     have hw64:IntKind.i64.wrap ((q:Int)-(f.len:Int))=(q:Int)-(f.len:Int):=by rw[IntKind.wrap_i64];omega
     go_wp2_with fail
     have hd1:Below wr.heap.size wr wr.drew:=di (Below.refl _ _) 1;refine wp_region_held_drew (S:=Below wr.heap.size wr) (by kernel_rfl) hd1 (fun hHeld=>?_);generalize wr.drew=wD at hHeld⊢;refine aj 0 hHeld ?_;refine aj 1 hHeld ?_;refine aj 2 hHeld ?_;refine aj 3 hHeld ?_;refine aj 4 hHeld ?_;refine tn 5 hHeld ?_
     try simp only[aA,aB]
     refine tn 6 hHeld ?_
     try simp only[aA,aB]
     refine tn 7 hHeld ?_
     try simp only[aA,aB]
     refine tn 8 hHeld ?_
     try simp only[aA,aB]
     refine tn 9 hHeld ?_
     try simp only[aA,aB]
     refine tn 10 hHeld ?_
     try simp only[aA,aB]
     refine tn 11 hHeld ?_
     try simp only[aA,aB]
     refine tn 12 hHeld ?_
     try simp only[aA,aB]
     refine tn 13 hHeld ?_
     try simp only[aA,aB]
     refine tn 14 hHeld ?_
     try simp only[aA,aB]
     refine aj 15 hHeld ?_;refine aj 16 hHeld ?_;refine aj 17 hHeld ?_;refine aj 18 hHeld ?_;refine aj 19 hHeld ?_;refine aj 20 hHeld ?_;refine aj 21 hHeld ?_;refine aj 22 hHeld ?_;refine aj 23 hHeld ?_;refine aj 24 hHeld ?_;refine tk (v:=?_) 25 hHeld ?_ ?_;rotate_left
     ·intro w' hSw;have d0':=(hSw.cell (p:=⟨g,_,none⟩) hgb).trans d0;have d1':=(hSw.cell (p:=⟨g,_,none⟩) hgb).trans d1;have d2':=(hSw.cell (p:=⟨g,_,none⟩) hgb).trans d2;have d3':=(hSw.cell (p:=⟨g,_,none⟩) hgb).trans d3
      first|(go_simp;done)|(go_simp;with_reducible rfl)
     try simp only[aA,aB]
     refine aj 26 hHeld ?_;refine aj 27 hHeld ?_;refine aj 28 hHeld ?_;refine aj 29 hHeld ?_;refine wpAnyH_ready (rs:=[30]) (by kernel_rfl) (by simp) ?_;refine AllReadyH.cons rfl (fun K hK=>?_) AllReadyH.nil;go_simp
     go_wp2_with(go_at_call 147;(with_reducible refine(V3 ou _).mono ?_);rintro e1 w1 ⟨rfl,hB1⟩)
     have hH2:=hHeld.trans (hB1.mono hHeld.size);refine hK.out _ _ hH2 (fun _=>?_);clear hK K
     try simp only[Act.put,aG,aE,aF,aD,aA,aB]
     refine wpAnyH_ready (rs:=[31]) (by kernel_rfl) (by simp) ?_;refine AllReadyH.cons rfl (fun K hK=>?_) AllReadyH.nil;go_simp
     go_wp2_with(go_at_call 148;(with_reducible refine(zhb _ _).mono ?_);rintro e2 w2 ⟨rfl,hB2⟩)
     have hH3:=hH2.trans (hB2.mono hH2.size);refine hK.out _ _ hH3 (fun _=>?_);clear hK K
     try simp only[Act.put,aG,aE,aF,aD,aA,aB]
     refine aj 32 hH3 ?_;refine aj 33 hH3 ?_;refine aj 34 hH3 ?_;have HB4:Hid (Below w.heap.size w _):=hide (aW HB.out hH3);refine wpAnyH_done (by kernel_rfl) ?_ _
     try simp only[Act.put,aG,aE,aF,aD,aA,aB]
     go_wp2_with fail
     go_roundw
     case rel=>exact⟨q+1,by omega,by go_num,HB4⟩
     case measure=>simp[intOf];omega
   ·go_wp2_with fail
    go_ret;exact⟨rfl,HB.out⟩
theorem Xo{S S':Nat→Prop}{A A':Option Addr}{c c':Nat}{f:Fo}{w:World}(ho:bQ S w A c f)(hl:bG S' w A' f):mP A c A' c' f w:=zeC (f.cnt+1) S S' A A' c c' f w (Nat.lt_succ_self _) ho hl
end
section
open Go.RowKit
theorem zhc{S S':Nat→Prop}{x y:Hh}{a:Hk}{w:World}(h:gB S w x a)(h':gB S' w y a):
  Calls Tryz.prog 153 #[.agg #[.int .i64 a.at_,.slice x.oA a.old.length x.oc,.slice x.nA a.new.length x.nc],.agg #[.int .i64 a.at_,.slice y.oA a.old.length y.oc,.slice y.nA a.new.length y.nc]] w fun e w'=>e = .returned (.bool true)∧Below w.heap.size w w':=by
 refine(UQ h h').mono ?_;rintro e w' ⟨⟨b,rfl,hb⟩,hB⟩;exact⟨by rw[hb.2 rfl],hB⟩
theorem zhd{S S':Nat→Prop}{x y:Eh}{a:Ed}{w:World}(h:dm S w x a)(h':dm S' w y a):
  Calls Tryz.prog 155 #[.agg #[.int .u8 a.kind,.slice x.pA a.path.length x.pc,.int .i64 a.at_,.int .i64 a.far,.string a.frm,.string a.to,.slice x.oA a.old.len x.oc,.slice x.nA a.new.len x.nc],.agg #[.int .u8 a.kind,.slice y.pA a.path.length y.pc,.int .i64 a.at_,.int .i64 a.far,.string a.frm,.string a.to,.slice y.oA a.old.len y.oc,.slice y.nA a.new.len y.nc]] w fun e w'=>e = .returned (.bool true)∧Below w.heap.size w w':=by
 refine(wI h h').mono ?_;rintro e w' ⟨⟨b,rfl,hb⟩,hB⟩;exact⟨by rw[hb.2 rfl],hB⟩
theorem zfU{S S':Nat→Prop}{x y:Ph}{a:Pt}{w:World}(h:bM S w x a)(h':bM S' w y a):
  Calls Tryz.prog 124 #[.agg #[.int .u8 a.kind,.string a.file,.string a.text,.int .i64 a.hunk.at_,.slice x.h.oA a.hunk.old.length x.h.oc,.slice x.h.nA a.hunk.new.length x.h.nc,.int .u8 a.edit.kind,.slice x.e.pA a.edit.path.length x.e.pc,.int .i64 a.edit.at_,.int .i64 a.edit.far,.string a.edit.frm,.string a.edit.to,.slice x.e.oA a.edit.old.len x.e.oc,.slice x.e.nA a.edit.new.len x.e.nc],.agg #[.int .u8 a.kind,.string a.file,.string a.text,.int .i64 a.hunk.at_,.slice y.h.oA a.hunk.old.length y.h.oc,.slice y.h.nA a.hunk.new.length y.h.nc,.int .u8 a.edit.kind,.slice y.e.pA a.edit.path.length y.e.pc,.int .i64 a.edit.at_,.int .i64 a.edit.far,.string a.edit.frm,.string a.edit.to,.slice y.e.oA a.edit.old.len y.e.oc,.slice y.e.nA a.edit.new.len y.e.nc]] w fun e w'=>e = .returned (.bool true)∧Below w.heap.size w w':=by
 refine(Io h h').mono ?_;rintro e w' ⟨⟨b,rfl,hb⟩,hB⟩;exact⟨by rw[hb.2 rfl],hB⟩
theorem zhe{S S':Nat→Prop}{x y:Hh}{h:Hk}{w:World}(ho:eG S w x h)(hl:gB S' w y h):
  Calls Tryz.prog 125 #[.agg #[.int .i64 h.at_,.slice x.oA h.old.length x.oc,.slice x.nA h.new.length x.nc],.agg #[.int .i64 h.at_,.slice y.oA h.old.length y.oc,.slice y.nA h.new.length y.nc]] w fun e w'=>e = .returned (.bool true)∧Below w.heap.size w w':=by
 have Ho:=hide ho;have Hl:=hide hl;clear ho hl;obtain⟨W0,hW0⟩:∃W0,W0=(w.alloc (.cells #[.int .i64 h.at_,.slice x.oA h.old.length x.oc,.slice x.nA h.new.length x.nc] 36)).alloc (.cells #[.int .i64 h.at_,.slice y.oA h.old.length y.oc,.slice y.nA h.new.length y.nc] 36):=⟨_,rfl⟩;have hB0:dw w W0 [.int .i64 h.at_,.slice x.oA h.old.length x.oc,.slice x.nA h.new.length x.nc] [.int .i64 h.at_,.slice y.oA h.old.length y.oc,.slice y.nA h.new.length y.nc]:=by rw[hW0];exact dw.start w #[.int .i64 h.at_,.slice x.oA h.old.length x.oc,.slice x.nA h.new.length x.nc] #[.int .i64 h.at_,.slice y.oA h.old.length y.oc,.slice y.nA h.new.length y.nc] _ _
 have HW0:=hide hW0;clear hW0;go_enter Tryz.func125,Tryz.ntmps125
 go_upto_region 1 with fail
 change Code.wp _ _ _ _ ((w.alloc (.cells #[.int .i64 h.at_,.slice x.oA h.old.length x.oc,.slice x.nA h.new.length x.nc] 36)).alloc (.cells #[.int .i64 h.at_,.slice y.oA h.old.length y.oc,.slice y.nA h.new.length y.nc] 36));rw[←HW0.out];clear HW0;have b0:=hB0.c 0 _ rfl;have b1:=hB0.c 1 _ rfl;have b2:=hB0.c 2 _ rfl;have r0:=hB0.r 0 _ rfl;have r1:=hB0.r 1 _ rfl;have r2:=hB0.r 2 _ rfl;have HB0:=hide hB0;clear hB0
 go_wp2_with(first
  | (go_at_call 153;(with_reducible refine(zhc (Ho.out.below HB0.out.b).hk (Hl.out.below HB0.out.b)).mono ?_);rintro e0 w1 ⟨rfl,hB⟩;have hC:=HB0.out.call hB;clear b0 r0 b1 r1 b2 r2;have b0:=hC.c 0 _ rfl;have b1:=hC.c 1 _ rfl;have b2:=hC.c 2 _ rfl;have r0:=hC.r 0 _ rfl;have r1:=hC.r 1 _ rfl;have r2:=hC.r 2 _ rfl;have HB1:=hide hC;clear hB hC)
  | (go_at_call 56;(with_reducible refine(Xb (Ho.out.old.below HB1.out.b) (Hl.out.old.below HB1.out.b)).mono ?_);rintro e1 w2 ⟨rfl,hB⟩;have hC:=HB1.out.call hB;clear b0 r0 b1 r1 b2 r2;have b0:=hC.c 0 _ rfl;have b1:=hC.c 1 _ rfl;have b2:=hC.c 2 _ rfl;have r0:=hC.r 0 _ rfl;have r1:=hC.r 1 _ rfl;have r2:=hC.r 2 _ rfl;have HB2:=hide hC;clear hB hC)
  | (go_at_call 56;(with_reducible refine(Xb (Ho.out.new.below HB2.out.b) (Hl.out.new.below HB2.out.b)).mono ?_);rintro e2 w3 ⟨rfl,hB⟩;have hC:=HB2.out.call hB;have HB3:=hide hC;clear hB hC))
 go_ret;exact⟨rfl,HB3.out.b⟩
theorem zhf{S S':Nat→Prop}{x y:Eh}{h:Ed}{w:World}(ho:fK S w x h)(hl:dm S' w y h):
  Calls Tryz.prog 126 #[.agg #[.int .u8 h.kind,.slice x.pA h.path.length x.pc,.int .i64 h.at_,.int .i64 h.far,.string h.frm,.string h.to,.slice x.oA h.old.len x.oc,.slice x.nA h.new.len x.nc],.agg #[.int .u8 h.kind,.slice y.pA h.path.length y.pc,.int .i64 h.at_,.int .i64 h.far,.string h.frm,.string h.to,.slice y.oA h.old.len y.oc,.slice y.nA h.new.len y.nc]] w fun e w'=>e = .returned (.bool true)∧Below w.heap.size w w':=by
 have Ho:=hide ho;have Hl:=hide hl;clear ho hl;obtain⟨W0,hW0⟩:∃W0,W0=(w.alloc (.cells #[.int .u8 h.kind,.slice x.pA h.path.length x.pc,.int .i64 h.at_,.int .i64 h.far,.string h.frm,.string h.to,.slice x.oA h.old.len x.oc,.slice x.nA h.new.len x.nc] 41)).alloc (.cells #[.int .u8 h.kind,.slice y.pA h.path.length y.pc,.int .i64 h.at_,.int .i64 h.far,.string h.frm,.string h.to,.slice y.oA h.old.len y.oc,.slice y.nA h.new.len y.nc] 41):=⟨_,rfl⟩;have hB0:dw w W0 [.int .u8 h.kind,.slice x.pA h.path.length x.pc,.int .i64 h.at_,.int .i64 h.far,.string h.frm,.string h.to,.slice x.oA h.old.len x.oc,.slice x.nA h.new.len x.nc] [.int .u8 h.kind,.slice y.pA h.path.length y.pc,.int .i64 h.at_,.int .i64 h.far,.string h.frm,.string h.to,.slice y.oA h.old.len y.oc,.slice y.nA h.new.len y.nc]:=by rw[hW0];exact dw.start w #[.int .u8 h.kind,.slice x.pA h.path.length x.pc,.int .i64 h.at_,.int .i64 h.far,.string h.frm,.string h.to,.slice x.oA h.old.len x.oc,.slice x.nA h.new.len x.nc] #[.int .u8 h.kind,.slice y.pA h.path.length y.pc,.int .i64 h.at_,.int .i64 h.far,.string h.frm,.string h.to,.slice y.oA h.old.len y.oc,.slice y.nA h.new.len y.nc] _ _
 have HW0:=hide hW0;clear hW0;go_enter Tryz.func126,Tryz.ntmps126
 go_upto_region 1 with fail
 change Code.wp _ _ _ _ ((w.alloc (.cells #[.int .u8 h.kind,.slice x.pA h.path.length x.pc,.int .i64 h.at_,.int .i64 h.far,.string h.frm,.string h.to,.slice x.oA h.old.len x.oc,.slice x.nA h.new.len x.nc] 41)).alloc (.cells #[.int .u8 h.kind,.slice y.pA h.path.length y.pc,.int .i64 h.at_,.int .i64 h.far,.string h.frm,.string h.to,.slice y.oA h.old.len y.oc,.slice y.nA h.new.len y.nc] 41));rw[←HW0.out];clear HW0;have b0:=hB0.c 0 _ rfl;have b1:=hB0.c 1 _ rfl;have b2:=hB0.c 2 _ rfl;have b3:=hB0.c 3 _ rfl;have b4:=hB0.c 4 _ rfl;have b5:=hB0.c 5 _ rfl;have b6:=hB0.c 6 _ rfl;have b7:=hB0.c 7 _ rfl;have r0:=hB0.r 0 _ rfl;have r1:=hB0.r 1 _ rfl;have r2:=hB0.r 2 _ rfl;have r3:=hB0.r 3 _ rfl;have r4:=hB0.r 4 _ rfl;have r5:=hB0.r 5 _ rfl;have r6:=hB0.r 6 _ rfl;have r7:=hB0.r 7 _ rfl;have HB0:=hide hB0;clear hB0
 go_wp2_with(first
  | (go_at_call 155;(with_reducible refine(zhd (Ho.out.below HB0.out.b).ed (Hl.out.below HB0.out.b)).mono ?_);rintro e0 w1 ⟨rfl,hB⟩;have hC:=HB0.out.call hB;clear b0 r0 b1 r1 b2 r2 b3 r3 b4 r4 b5 r5 b6 r6 b7 r7;have b0:=hC.c 0 _ rfl;have b1:=hC.c 1 _ rfl;have b2:=hC.c 2 _ rfl;have b3:=hC.c 3 _ rfl;have b4:=hC.c 4 _ rfl;have b5:=hC.c 5 _ rfl;have b6:=hC.c 6 _ rfl;have b7:=hC.c 7 _ rfl;have r0:=hC.r 0 _ rfl;have r1:=hC.r 1 _ rfl;have r2:=hC.r 2 _ rfl;have r3:=hC.r 3 _ rfl;have r4:=hC.r 4 _ rfl;have r5:=hC.r 5 _ rfl;have r6:=hC.r 6 _ rfl;have r7:=hC.r 7 _ rfl;have HB1:=hide hC;clear hB hC)
  | (go_at_call 189;(with_reducible refine(zg3 (Ho.out.path.below HB1.out.b) (Hl.out.path.below HB1.out.b)).mono ?_);rintro e1 w2 ⟨rfl,hB⟩;have hC:=HB1.out.call hB;clear b0 r0 b1 r1 b2 r2 b3 r3 b4 r4 b5 r5 b6 r6 b7 r7;have b0:=hC.c 0 _ rfl;have b1:=hC.c 1 _ rfl;have b2:=hC.c 2 _ rfl;have b3:=hC.c 3 _ rfl;have b4:=hC.c 4 _ rfl;have b5:=hC.c 5 _ rfl;have b6:=hC.c 6 _ rfl;have b7:=hC.c 7 _ rfl;have r0:=hC.r 0 _ rfl;have r1:=hC.r 1 _ rfl;have r2:=hC.r 2 _ rfl;have r3:=hC.r 3 _ rfl;have r4:=hC.r 4 _ rfl;have r5:=hC.r 5 _ rfl;have r6:=hC.r 6 _ rfl;have r7:=hC.r 7 _ rfl;have HB2:=hide hC;clear hB hC)
  | (go_at_call 190;(with_reducible refine(Xo (Ho.out.old.below HB2.out.b) (Hl.out.old.below HB2.out.b)).mono ?_);rintro e2 w3 ⟨rfl,hB⟩;have hC:=HB2.out.call hB;clear b0 r0 b1 r1 b2 r2 b3 r3 b4 r4 b5 r5 b6 r6 b7 r7;have b0:=hC.c 0 _ rfl;have b1:=hC.c 1 _ rfl;have b2:=hC.c 2 _ rfl;have b3:=hC.c 3 _ rfl;have b4:=hC.c 4 _ rfl;have b5:=hC.c 5 _ rfl;have b6:=hC.c 6 _ rfl;have b7:=hC.c 7 _ rfl;have r0:=hC.r 0 _ rfl;have r1:=hC.r 1 _ rfl;have r2:=hC.r 2 _ rfl;have r3:=hC.r 3 _ rfl;have r4:=hC.r 4 _ rfl;have r5:=hC.r 5 _ rfl;have r6:=hC.r 6 _ rfl;have r7:=hC.r 7 _ rfl;have HB3:=hide hC;clear hB hC)
  | (go_at_call 190;(with_reducible refine(Xo (Ho.out.new.below HB3.out.b) (Hl.out.new.below HB3.out.b)).mono ?_);rintro e3 w4 ⟨rfl,hB⟩;have hC:=HB3.out.call hB;have HB4:=hide hC;clear hB hC))
 go_ret;exact⟨rfl,HB4.out.b⟩
end
end Go.Proofs.YtjjaojnglnpgaaaGreatDoor
