/- Part 47 of what commuteFiles_cardUpto rests on. -/
import Derived.Test.YtialngdffhmobaaGreatDoorProg
import Derived.BigQuiet
import Derived.Deep.RegionWith
import Derived.LoopTactic
import Derived.Deep.LoopGhost
import Derived.Test.YtialngdffhmobaaGreatDoorV03
import Derived.Test.YtialngdffhmobaaGreatDoorV02
import Derived.Test.YtialngdffhmobaaGreatDoorV43
import Derived.Test.YtialngdffhmobaaGreatDoorV39
import Derived.Test.YtialngdffhmobaaGreatDoorV00
set_option linter.unusedVariables false
set_option linter.unusedSimpArgs false
set_option maxHeartbeats 16000000
set_option maxRecDepth 1000000
namespace Go.Proofs.YtialngdffhmobaaGreatDoor
section
open Go.RowKit
def uA(e:Ending):Prop:=∃r:Int,e = .returned (.int .i64 r)∧gp r
theorem qU(x:Int):gp (wrap64 x):=by unfold gp wrap64;omega
def cnt:List ByteArray→Int→Int→Int
 | [],_,n=>n
 | s::r,m,n=>if n≤m then cnt r m (wrap64 (n+wrap64 ((s.size:Int) / 8)))else n
theorem uB{l:List ByteArray}{q:Nat}{m n r:Int}(hq:q<l.length)(h:cnt (l.drop q) m n=r)(hn:n≤m):cnt (l.drop (q+1)) m (wrap64 (n+wrap64 ((l[q].size:Int) / 8)))=r:=by
 rw[List.drop_eq_getElem_cons hq]at h;unfold cnt at h
 rwa [if_pos hn]at h
theorem J8{l:List ByteArray}{q:Nat}{m n r:Int}(h:cnt (l.drop q) m n=r)(hn :¬(q<l.length∧n≤m)):n=r:=by
 by_cases hq:q<l.length
 ·rw[List.drop_eq_getElem_cons hq]at h;unfold cnt at h
  rwa [if_neg (fun e=>hn ⟨hq,e⟩)]at h
 ·rw[List.drop_eq_nil_of_le (by omega)]at h;exact h
theorem J9{S:Nat→Prop}{A:Option Addr}{c:Nat}{l:List ByteArray}{w:World}{m:Int}(hl:bU S w A l):
  Calls Tryz.prog 123 #[.slice A l.length c,.int .i64 m] w fun e w'=>e = .returned (.int .i64 (cnt l m l.length))∧w=w':=by
 have Hl:=hide hl;have hlen:l.length≤9223372036854775807:=hl.2.2;clear hl;go_enter Tryz.func123,Tryz.ntmps123
 go_wp2_with fail
 go_loopw [5,6] (fun v i wr=>∃(q:Nat) (n:Int),q≤l.length∧i = .int .i64 q∧v = .int .i64 n∧Hid (cnt (l.drop q) m n=cnt l m l.length)∧w=wr) (fun _ i _=>l.length-(intOf i).toNat)
 case atStart=>exact⟨0,l.length,Nat.zero_le _,rfl,rfl,hide rfl,rfl⟩
 case round =>
  obtain⟨q,n,hq,rfl,rfl,Hn,rfl⟩:=hrel;by_cases hlt:q<l.length
  ·obtain⟨b,o,rfl,hc⟩:=Hl.out.1.at_ (j:=q) (by simpa using hlt);simp only[List.getElem_map]at hc;by_cases hnm:n≤m
   ·have Hs:=hide (uB hlt Hn.out hnm)
    go_wp2_with fail
    go_roundw
    case rel=>exact⟨q+1,_,by omega,by go_num,rfl,Hs,(by first|rfl|trivial)⟩
    case measure=>simp[intOf];omega
   ·have hs:=hide (J8 Hn.out (fun e=>hnm e.2))
    go_wp2_with fail
    go_ret;exact⟨by rw[←hs.out];rfl,rfl⟩
  ·have hs:=hide (J8 Hn.out (fun e=>hlt e.1))
   go_wp2_with fail
   go_ret;exact⟨by rw[←hs.out];rfl,rfl⟩
theorem Oz(N:Nat):∀(S:Nat→Prop) (k:Nat) (t:ByteArray) (n:Int) (A:Option Addr) (c:Nat) (ks:Fo) (m:Int) (w:World),ks.cnt<N→bu S w A ks→ks.len≤9223372036854775807→gp m→
    Calls Tryz.prog 185 #[.agg #[.int .u8 k,.string t,.int .i64 n,.slice A ks.len c],.int .i64 m] w fun e w'=>uA e∧Below w.heap.size w w':=by
  induction N with
  | zero=>intro S k t n A c ks m w h;omega
  | succ N ih =>
    intro S k t n A c ks m w hcnt hks hlen hm;have mW:=hide hks;have oO:=hide ih;clear hks ih;go_enter Tryz.func185,Tryz.ntmps185
    go_wp2_with fail
    go_loopw [5,6] (fun v i wr=>∃(q:Nat) (n:Int),q≤ks.len∧i = .int .i64 q∧v = .int .i64 n∧Hid (gp n)∧Hid (Below w.heap.size w wr)∧w.heap.size<wr.heap.size∧wr.cell? ⟨w.heap.size,3,none⟩=some (.slice A ks.len c)) (fun _ i _=>ks.len-(intOf i).toNat)
    case atStart=>exact⟨0,_,Nat.zero_le _,rfl,rfl,hide (by first|exact qU _|(unfold gp;omega)),hide (bg _ _),by simp,by simp⟩
    case round =>
      obtain⟨q,n,hq,rfl,rfl,Hn,HB,hz,hc⟩:=hrel;by_cases hlt:q<ks.len
      · obtain⟨b,o,KA,c',k',t',n',ks',r,rfl,hd,c0,c1,c2,c3,e1,e2,e3,e4,e5,fD,hcn⟩:=(mW.out.below HB.out).at_ hlt
        have ji:=hide fD;clear hd e3 fD
        go_wp2_with(go_at_call 185;(with_reducible refine(oO.out S k' t' n' KA c' ks' _ _ (by omega) ji.out (by omega) (by first|exact qU _|(unfold gp;omega))).mono ?_);rintro e w2 ⟨⟨r2,rfl,hr2⟩,hB⟩;have HB2:=hide (HB.out.trans (hB.mono HB.out.size));have hcell:=(hB.cell (p:=⟨w.heap.size,3,none⟩) hz).trans hc;have hz2:=aH hz hB.size;clear hB)
        all_goals first
          | (go_ret;exact⟨⟨_,rfl,Hn.out⟩,HB.out⟩)
          | (go_roundw
             case rel=>exact⟨q+1,_,by omega,by go_num,rfl,hide (by first|exact qU _|(unfold gp;omega)),HB2,hz2,hcell⟩
             case measure=>simp[intOf];omega)
      · go_wp2_with fail
        all_goals(go_ret;exact⟨⟨_,rfl,Hn.out⟩,HB.out⟩)
theorem Gv{S:Nat→Prop}{k:Nat}{t:ByteArray}{n:Int}{A:Option Addr}{c:Nat}{ks:Fo}{m:Int}{w:World}(h:bu S w A ks)(hl:ks.len≤9223372036854775807)(hm:gp m):
  Calls Tryz.prog 185 #[.agg #[.int .u8 k,.string t,.int .i64 n,.slice A ks.len c],.int .i64 m] w fun e w'=>uA e∧Below w.heap.size w w':=Oz (ks.cnt+1) S k t n A c ks m w (by omega) h hl hm
theorem OA{S:Nat→Prop}{x:Eh}{e:Ed}{w:World}{m:Int}(he:gq S w x e)(hm:gp m):
  Calls Tryz.prog 124 #[.agg #[.int .u8 e.kind,.slice x.pA e.path.length x.pc,.int .i64 e.at_,.int .i64 e.far,.string e.frm,.string e.to,.slice x.oA e.old.len x.oc,.slice x.nA e.new.len x.nc],.int .i64 m] w fun e1 w'=>uA e1∧Below w.heap.size w w':=by
 have Ho:=hide he.old;have Hn:=hide he.new;have hoc:=he.oc;have hnc:=he.nc;have hpc:=he.pc;clear he;go_enter Tryz.func124,Tryz.ntmps124
 go_wp2_with fail
 go_loopw [5,6] (fun v i wr=>∃(q:Nat) (n:Int),q≤e.old.len∧i = .int .i64 q∧v = .int .i64 n∧Hid (gp n)∧Hid (Below w.heap.size w wr)∧w.heap.size<wr.heap.size∧(∀o,wr.cell? ⟨w.heap.size,o,none⟩=(w.alloc (.cells #[.int .u8 e.kind,.slice x.pA e.path.length x.pc,.int .i64 e.at_,.int .i64 e.far,.string e.frm,.string e.to,.slice x.oA e.old.len x.oc,.slice x.nA e.new.len x.nc] 30)).cell? ⟨w.heap.size,o,none⟩)) (fun _ i _=>e.old.len-(intOf i).toNat)
 case atStart=>exact⟨0,_,Nat.zero_le _,rfl,rfl,hide (qU _),hide (bg _ _),by simp,fun o=>rfl⟩
 case round =>
  obtain⟨q,n,hq,rfl,rfl,uQ,HB,hz,hc⟩:=hrel;by_cases hlt:q<e.old.len
  ·by_cases hnm:n≤m
   ·skip
    obtain⟨b,o,KA,c',k',t',n',ks',r,hA,hd,c0,c1,c2,c3,e1,e2,e3,e4,e5,fD,hcn⟩:=(Ho.out.below HB.out).at_ hlt;have ji:=hide fD;clear hd e3 fD
    go_wp2_with(go_at_call 185;(with_reducible refine(Gv ji.out (by omega) (by first|exact qU _|(unfold gp;omega))).mono ?_);rintro e3 w2 ⟨⟨r2,rfl,hr2⟩,hB⟩;have HB3:=hide (HB.out.trans (hB.mono HB.out.size));have hcell :∀o,w2.cell? ⟨w.heap.size,o,none⟩=(w.alloc (.cells #[.int .u8 e.kind,.slice x.pA e.path.length x.pc,.int .i64 e.at_,.int .i64 e.far,.string e.frm,.string e.to,.slice x.oA e.old.len x.oc,.slice x.nA e.new.len x.nc] 30)).cell? ⟨w.heap.size,o,none⟩:=(fun o=>(hB.cell (p:=⟨w.heap.size,o,none⟩) hz).trans (hc o));have hz3:=aH hz hB.size;clear hB)
    go_roundw
    case rel=>exact⟨_,.int .i64 ((q:Int)+1),_,_,_,_,_,_,_,_,_,_,_,_,_,_,_,_,_,_,_,_,_,_,_,⟨q+1,wrap64 (n+r2),by omega,by go_num,rfl,hide (qU _),HB3,hz3,hcell⟩,(by rw[hA])⟩
    case measure=>simp[intOf];omega
   ·go_wp2_with fail
    go_loopw [5,7] (fun v i wr=>∃(q:Nat) (n:Int),q≤e.new.len∧i = .int .i64 q∧v = .int .i64 n∧Hid (gp n)∧Hid (Below w.heap.size w wr)∧w.heap.size<wr.heap.size∧(∀o,wr.cell? ⟨w.heap.size,o,none⟩=(w.alloc (.cells #[.int .u8 e.kind,.slice x.pA e.path.length x.pc,.int .i64 e.at_,.int .i64 e.far,.string e.frm,.string e.to,.slice x.oA e.old.len x.oc,.slice x.nA e.new.len x.nc] 30)).cell? ⟨w.heap.size,o,none⟩)) (fun _ i _=>e.new.len-(intOf i).toNat)
    case atStart=>exact⟨0,_,Nat.zero_le _,rfl,rfl,uQ,HB,hz,hc⟩
    case round =>
     clear HB hz hc uQ;obtain⟨q,n,hq,rfl,rfl,uQ,HB,hz,hc⟩:=hrel;by_cases hlt:q<e.new.len
     ·by_cases hnm:n≤m
      ·skip
       obtain⟨b,o,KA,c',k',t',n',ks',r,hA,hd,c0,c1,c2,c3,e1,e2,e3,e4,e5,fD,hcn⟩:=(Hn.out.below HB.out).at_ hlt;have ji:=hide fD;clear hd e3 fD
       go_wp2_with(go_at_call 185;(with_reducible refine(Gv ji.out (by omega) (by first|exact qU _|(unfold gp;omega))).mono ?_);rintro e3 w2 ⟨⟨r2,rfl,hr2⟩,hB⟩;have HB3:=hide (HB.out.trans (hB.mono HB.out.size));have hcell :∀o,w2.cell? ⟨w.heap.size,o,none⟩=(w.alloc (.cells #[.int .u8 e.kind,.slice x.pA e.path.length x.pc,.int .i64 e.at_,.int .i64 e.far,.string e.frm,.string e.to,.slice x.oA e.old.len x.oc,.slice x.nA e.new.len x.nc] 30)).cell? ⟨w.heap.size,o,none⟩:=(fun o=>(hB.cell (p:=⟨w.heap.size,o,none⟩) hz).trans (hc o));have hz3:=aH hz hB.size;clear hB)
       go_roundw
       case rel=>exact⟨_,.int .i64 ((q:Int)+1),_,_,_,_,_,_,_,_,_,_,_,_,_,_,_,_,_,_,_,_,_,_,_,⟨q+1,wrap64 (n+r2),by omega,by go_num,rfl,hide (qU _),HB3,hz3,hcell⟩,(by rw[hA])⟩
       case measure=>simp[intOf];omega
      ·go_wp2_with fail
       all_goals(go_ret;exact⟨⟨_,rfl,uQ.out⟩,HB.out⟩)
     ·go_wp2_with fail
      all_goals(go_ret;exact⟨⟨_,rfl,uQ.out⟩,HB.out⟩)
  ·go_wp2_with fail
   go_loopw [5,7] (fun v i wr=>∃(q:Nat) (n:Int),q≤e.new.len∧i = .int .i64 q∧v = .int .i64 n∧Hid (gp n)∧Hid (Below w.heap.size w wr)∧w.heap.size<wr.heap.size∧(∀o,wr.cell? ⟨w.heap.size,o,none⟩=(w.alloc (.cells #[.int .u8 e.kind,.slice x.pA e.path.length x.pc,.int .i64 e.at_,.int .i64 e.far,.string e.frm,.string e.to,.slice x.oA e.old.len x.oc,.slice x.nA e.new.len x.nc] 30)).cell? ⟨w.heap.size,o,none⟩)) (fun _ i _=>e.new.len-(intOf i).toNat)
   case atStart=>exact⟨0,_,Nat.zero_le _,rfl,rfl,uQ,HB,hz,hc⟩
   case round =>
    clear HB hz hc uQ;obtain⟨q,n,hq,rfl,rfl,uQ,HB,hz,hc⟩:=hrel;by_cases hlt:q<e.new.len
    ·by_cases hnm:n≤m
     ·skip
      obtain⟨b,o,KA,c',k',t',n',ks',r,hA,hd,c0,c1,c2,c3,e1,e2,e3,e4,e5,fD,hcn⟩:=(Hn.out.below HB.out).at_ hlt;have ji:=hide fD;clear hd e3 fD
      go_wp2_with(go_at_call 185;(with_reducible refine(Gv ji.out (by omega) (by first|exact qU _|(unfold gp;omega))).mono ?_);rintro e3 w2 ⟨⟨r2,rfl,hr2⟩,hB⟩;have HB3:=hide (HB.out.trans (hB.mono HB.out.size));have hcell :∀o,w2.cell? ⟨w.heap.size,o,none⟩=(w.alloc (.cells #[.int .u8 e.kind,.slice x.pA e.path.length x.pc,.int .i64 e.at_,.int .i64 e.far,.string e.frm,.string e.to,.slice x.oA e.old.len x.oc,.slice x.nA e.new.len x.nc] 30)).cell? ⟨w.heap.size,o,none⟩:=(fun o=>(hB.cell (p:=⟨w.heap.size,o,none⟩) hz).trans (hc o));have hz3:=aH hz hB.size;clear hB)
      go_roundw
      case rel=>exact⟨_,.int .i64 ((q:Int)+1),_,_,_,_,_,_,_,_,_,_,_,_,_,_,_,_,_,_,_,_,_,_,_,⟨q+1,wrap64 (n+r2),by omega,by go_num,rfl,hide (qU _),HB3,hz3,hcell⟩,(by rw[hA])⟩
      case measure=>simp[intOf];omega
     ·go_wp2_with fail
      all_goals(go_ret;exact⟨⟨_,rfl,uQ.out⟩,HB.out⟩)
    ·go_wp2_with fail
     all_goals(go_ret;exact⟨⟨_,rfl,uQ.out⟩,HB.out⟩)
theorem Ko{S:Nat→Prop}{x:Ph}{p:Pt}{w:World}{m:Int}(hp:gu S w x p)(hm:gp m):
  Calls Tryz.prog 51 #[.agg #[.int .u8 p.kind,.string p.file,.string p.text,.int .i64 p.hunk.at_,.slice x.h.oA p.hunk.old.length x.h.oc,.slice x.h.nA p.hunk.new.length x.h.nc,.int .u8 p.edit.kind,.slice x.e.pA p.edit.path.length x.e.pc,.int .i64 p.edit.at_,.int .i64 p.edit.far,.string p.edit.frm,.string p.edit.to,.slice x.e.oA p.edit.old.len x.e.oc,.slice x.e.nA p.edit.new.len x.e.nc],.int .i64 m] w fun e1 w'=>uA e1∧Below w.heap.size w w':=by
 have Hp:=hide hp;have Hm:=hide hm;clear hp hm;go_enter Tryz.func51,Tryz.ntmps51
 go_wp2_with fail
 go_quiet ((go_at_call 123;first
  | ((with_reducible refine(J9 (Hp.out.hunk.old.below (dM (bg _ _) _))).mono ?_);rintro e2 w2 ⟨rfl,rfl⟩;exact⟨rfl,_,rfl⟩)
  | ((with_reducible refine(J9 (Hp.out.hunk.new.below (dM (bg _ _) _))).mono ?_);rintro e3 w3 ⟨rfl,rfl⟩;exact⟨rfl,_,rfl⟩)))
 go_wp2_with(go_at_call 124;(with_reducible refine(OA (Hp.out.edit.below (dM (bg _ _) _)) (qU _)).mono ?_);rintro e4 w4 ⟨⟨r4,rfl,hr4⟩,hB⟩;have HB:Hid (Below w.heap.size w w4):=hide (aQ (dM (bg _ _) _) hB);clear hB)
 all_goals(go_ret;exact⟨⟨_,rfl,qU _⟩,(by first|exact HB.out|exact dM (bg _ _) _)⟩)
theorem Ea(x:Int):gp (IntKind.i64.wrap x):=by unfold gp;rw[IntKind.wrap_i64];omega
theorem uC{w:World}{m:Int}:Calls Tryz.prog 22 #[.slice none 0 0,.int .i64 m] w fun e w'=>e = .returned (.int .i64 0)∧w'=w:=by
 go_enter Tryz.func22,Tryz.ntmps22
 go_wp2_with fail
 go_loopw [6,5] (fun i n wr=>i = .int .i64 0∧n = .int .i64 0∧w=wr) (fun _ _ _=>0)
 case atStart=>exact⟨rfl,rfl,rfl⟩
 case round =>
  obtain⟨rfl,rfl,rfl⟩:=hrel
  go_wp2_with fail
  go_ret;exact⟨rfl,rfl⟩
theorem OB{p q:Pt}{x y:Ph}{R:Nat}{w:World}{m:Int}(hb:Bx w R (ax p x q y))(hp:gX w x p)(hq:gX w y q)(hm:gp m):
  Calls Tryz.prog 23 #[.slice (some ⟨R,0,none⟩) 2 2,.int .i64 m] w fun e w'=>uA e∧Below w.heap.size w w':=by
 have Hb:=hide hb;have HP:=hide hp;have HQ:=hide hq;have Hm:=hide hm;clear hb hp hq hm;go_enter Tryz.func23,Tryz.ntmps23
 go_wp2_with fail
 go_loopw [5,6] (fun v i wr=>∃(j:Nat) (n:Int),j≤2∧i = .int .i64 j∧v = .int .i64 n∧Hid (gp n)∧Hid (Below w.heap.size w wr)) (fun _ i _=>2-(intOf i).toNat)
 case atStart=>exact⟨0,0,by omega,rfl,rfl,hide (by unfold gp;omega),hide (Below.refl _ _)⟩
 case round =>
  obtain⟨j,n,hj,rfl,rfl,Hn,HB⟩:=hrel;by_cases hnm:n≤m
  ·match j,hj with
   | 0,_ =>
    have hdm:decide (n≤m)=true:=by simpa using hnm
    have HR:=hide ((Hb.out.call HB.out).part 0 14:wr.rangeAt R 0 (ai p x));clear hnm
    go_upto_region 5 with fail
    refine wp_region_lit ?_;refine sk ?_;refine sk ?_;refine sk ?_;refine sk (v:= .pointer (some ⟨R,0,none⟩)) ?_;refine gl (off:=0) (cs:=ai p x) ?_ HR.out Tryz.underlying32 dL;refine sk ?_;refine sk ?_;refine sk ?_;refine gc (Ko (HP.out.r.below HB.out) (Ea _)) ?_;rintro e2 w2 ⟨⟨r2,rfl,h2⟩,hd⟩;refine⟨_,rfl,?_⟩;have HB2:=hide (aQ HB.out hd);clear hd h2;simp only[aA,aB];refine sk ?_;refine sk ?_;refine wpList_nil ?_
    first
     | (rename_i hK;refine hK _ _ ?_;clear hK)
     | (rename_i hK zK;refine hK _ _ ?_;clear hK)
    clear hdm
    go_wp2_with fail
    exact⟨⟨1,_,by omega,rfl,rfl,hide (Ea _),HB2⟩,by simp[intOf]⟩
   | 1,_ =>
    have hdm:decide (n≤m)=true:=by simpa using hnm
    have HR:=hide ((Hb.out.call HB.out).part 14 14:wr.rangeAt R 14 (ai q y));clear hnm
    go_upto_region 5 with fail
    refine wp_region_lit ?_;refine sk ?_;refine sk ?_;refine sk ?_;refine sk (v:= .pointer (some ⟨R,14,none⟩)) ?_;refine gl (off:=14) (cs:=ai q y) ?_ HR.out Tryz.underlying32 dL;refine sk ?_;refine sk ?_;refine sk ?_;refine gc (Ko (HQ.out.r.below HB.out) (Ea _)) ?_;rintro e2 w2 ⟨⟨r2,rfl,h2⟩,hd⟩;refine⟨_,rfl,?_⟩;have HB2:=hide (aQ HB.out hd);clear hd h2;simp only[aA,aB];refine sk ?_;refine sk ?_;refine wpList_nil ?_
    first
     | (rename_i hK;refine hK _ _ ?_;clear hK)
     | (rename_i hK zK;refine hK _ _ ?_;clear hK)
    clear hdm
    go_wp2_with fail
    exact⟨⟨2,_,by omega,rfl,rfl,hide (Ea _),HB2⟩,by simp[intOf]⟩
   | 2,_ =>
    go_wp2_with fail
    go_ret;exact⟨⟨n,rfl,Hn.out⟩,HB.out⟩
  ·have hdm:decide (n≤m)=false:=by simpa using hnm
   match j,hj with
   | 0,_ =>
    go_wp2_with fail
    go_ret;exact⟨⟨n,rfl,Hn.out⟩,HB.out⟩
   | 1,_ =>
    go_wp2_with fail
    go_ret;exact⟨⟨n,rfl,Hn.out⟩,HB.out⟩
   | 2,_ =>
    go_wp2_with fail
    go_ret;exact⟨⟨n,rfl,Hn.out⟩,HB.out⟩
def Gw(e:Ending):Prop:=∃b:Bool,e = .returned (.bool b)
theorem wK{p q:Pt}{x y:Ph}{R:Nat}{w:World}(hb:Bx w R (ax p x q y))(hp:gX w x p)(hq:gX w y q):
  Calls Tryz.prog 8 #[.slice none 0 0,.slice (some ⟨R,0,none⟩) 2 2] w fun e w'=>Gw e∧Below w.heap.size w w':=by
 have Hp:=hide (OB (m:=300) hb hp hq (by unfold gp;omega));clear hb hp hq;go_enter Tryz.func8,Tryz.ntmps8
 go_upto_region 1 with fail
 refine wp_region_lit ?_;refine sk ?_;refine sk ?_;refine sk ?_;refine sk ?_;refine sk ?_;refine sk ?_;refine sk ?_;refine sk ?_;refine sk ?_;refine sk ?_;refine gc uC ?_;rintro e1 w1 ⟨rfl,rfl⟩;refine⟨_,rfl,?_⟩;simp only[aA,aB];refine sk ?_;refine sk ?_;refine sk ?_;refine sk ?_;refine gc Hp.out ?_;rintro e2 w2 ⟨⟨r,rfl,_⟩,hd⟩;refine⟨_,rfl,?_⟩;have HB:=hide hd;clear hd Hp;simp only[aA,aB];refine sk (v:= .bool (decide (r≤300))) ?_;refine sk (v:= .bool (decide (r≤300))) ?_;refine sk (v:= .bool (decide (r≤300))) ?_;refine wpList_nil ?_
 first
  | (rename_i hK;refine hK _ _ ?_;clear hK)
  | (rename_i hK zK;refine hK _ _ ?_;clear hK)
 go_wp2_with fail
 go_ret;exact⟨⟨_,rfl⟩,HB.out⟩
theorem jm.of{a h:Hk}(hb:jm h)(ho:a.old=h.old)(hn:a.new=h.new)(ok:dN a):jm a :=
 ⟨⟨by have:=ok.1;omega,by have:=ok.2.1;omega⟩,by rw[ho];exact hb.old,by rw[hn];exact hb.new⟩
theorem OC{p q a b:Hk}(bp:jm p)(bq:jm q)(h:di p q=some (a,b)):jm a∧jm b:=by
 have ok:=GL h;unfold di at h;split at h
 ·split at h
  ·cases h;exact⟨bq.of rfl rfl ok.1,bp.of rfl rfl ok.2⟩
  ·cases h
 ·split at h
  ·split at h
   ·cases h;exact⟨bq.of rfl rfl ok.1,bp.of rfl rfl ok.2⟩
   ·cases h
  ·cases h
theorem OD{p q a b:Ed}(hp:bQ p)(hq:bQ q)(bp:ja p)(bq:ja q)(h:bT p q=some (a,b)):ja a∧ja b:=by
 by_cases hm:iH p q
 ·rw[JG hm]at h;cases h
 ·rw[BQ hm]at h;obtain⟨⟨x,y⟩,h1,h2⟩:=Option.bind_eq_some_iff.1 h;simp only at h2;split at h2
  ·cases h2;by_cases hl:listed p∧listed q∧p.path=q.path
   ·rw[JE hl]at h1;obtain⟨⟨j,i⟩,h3,h4⟩:=Option.map_eq_some_iff.1 h1;cases h4;have hs:=JD hp.nums.1 hq.nums.1 h3;exact⟨bq.withAt hs.1,bp.withAt hs.2⟩
   ·rw[JF hl]at h1;obtain⟨l,h3,h4⟩:=Option.bind_eq_some_iff.1 h1;obtain⟨r,h5,h6⟩:=Option.map_eq_some_iff.1 h4;cases h6;have s1:=DJ hq.1 hp.inv.nums.2 h3;have s2:=DJ hp.1 (e:={q with path:=l}) hq.nums.2 h5;exact⟨bq.withPath s1.2 s1.1,bp.withPath s2.2 s2.1⟩
  ·cases h2
theorem OE{p q a b:Pt}(hp:bF p)(hq:bF q)(bp:qj p)(bq:qj q)(h:bz p q=some (a,b)):qj a∧qj b:=by
 unfold bz at h;split at h
 ·cases h;exact⟨bq,bp⟩
 ·split at h
  ·cases h
  ·next hk =>
   simp only[ne_eq,Decidable.not_not]at hk;split at h
   ·obtain⟨⟨x,y⟩,h1,h2⟩:=Option.map_eq_some_iff.1 h;cases h2;have hb:=OC bp.hunk bq.hunk h1;exact⟨⟨bq.kind,bq.file,bq.text,hb.1,bq.edit⟩,⟨bp.kind,bp.file,bp.text,hb.2,bp.edit⟩⟩
   ·split at h
    ·next h4 =>
     obtain⟨⟨x,y⟩,h1,h2⟩:=Option.map_eq_some_iff.1 h;cases h2;have hb:=OD (hp.ed h4) (hq.ed (hk▸h4)) bp.edit bq.edit h1;exact⟨⟨bq.kind,bq.file,bq.text,bq.hunk,hb.1⟩,⟨bp.kind,bp.file,bp.text,bp.hunk,hb.2⟩⟩
    ·cases h
end
end Go.Proofs.YtialngdffhmobaaGreatDoor
