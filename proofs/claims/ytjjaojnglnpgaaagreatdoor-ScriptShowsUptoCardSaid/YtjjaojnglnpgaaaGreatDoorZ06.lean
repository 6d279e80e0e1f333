/- Part 7 of what scriptShows_cardUpto rests on. -/
import Derived.Deep.RegionWith
import Derived.BigQuiet
import Derived.Test.YtjjaojnglnpgaaaGreatDoorZ01
import Derived.Test.YtjjaojnglnpgaaaGreatDoorZ03
import Derived.Test.YtjjaojnglnpgaaaGreatDoorZ05
import Derived.Test.YtjjaojnglnpgaaaGreatDoorZ02
import Derived.Test.YtjjaojnglnpgaaaGreatDoorZ00
set_option linter.unusedVariables false
set_option linter.unusedSimpArgs false
set_option maxHeartbeats 16000000
set_option maxRecDepth 1000000
namespace Go.Proofs.YtjjaojnglnpgaaaGreatDoor
section
open Go.RowKit
theorem Yn{S S':Nat→Prop}{A A':Option Addr}{c c':Nat}{l m:List UInt8}{w:World}(hl:BytesIn S w A l)(hm:BytesIn S' w A' m):
  Calls Tryz.prog 66 #[.slice A l.length c,.slice A' m.length c'] w fun e w'=>ah (l=m) e∧∃n,w'=w.drewN n:=by
 have hl3:=hl.2;have nG:=hm.2;have Hl:=hide hl.1;have Hm:=hide hm.1;clear hl hm;by_cases hn:l.length=m.length
 ·have hd:((l.length:Int) != (m.length:Int))=false:=by simp[hn]
  have Hn:=hide hn;clear hn;go_enter Tryz.func66,Tryz.ntmps66
  go_wp2
  go_loopw [5] (fun i wr=>∃k q:Nat,k≤l.length∧i = .int .i64 k∧wr=w.drewN q∧Hid (∀j,j<k→l[j]?=m[j]?)) (fun i _=>l.length-(intOf i).toNat)
  case atStart=>exact⟨0,0,Nat.zero_le _,rfl,rfl,hide (fun j h=>absurd h (by omega))⟩
  case round =>
   obtain⟨k,q,hk,rfl,rfl,hall⟩:=hrel;by_cases hlt:k<l.length
   ·obtain⟨b,o,rfl,h1⟩:=Hl.out.at_ (j:=k) (by simpa[bytesV]using hlt);obtain⟨b',o',rfl,h2⟩:=Hm.out.at_ (j:=k) (by have:=Hn.out;simp[bytesV];omega);simp only[bytesV,List.getElem_map]at h1 h2;have hlt2:k<m.length:=by have:=Hn.out;omega
    have e1:l[k]?=some l[k]:=by simp[hlt]
    have e2:m[k]?=some m[k]:=by simp[hlt2]
    have E1:=hide e1;have E2:=hide e2;clear e1 e2;generalize l[k]=s at h1 E1;generalize m[k]=s' at h2 E2
    go_wp2
    go_quiet (fail)
    go_wp2
    ·have ht:((s.toNat:Int) != (s'.toNat:Int))=true:=by assumption
     go_ret;exact⟨ah.no (Je E1.out E2.out (by intro e;subst e;simp at ht)),_,World.drewN_drewN _ _ _⟩
    ·have ht:((s.toNat:Int) != (s'.toNat:Int))=false:=by assumption
     go_roundw
     case rel=>exact⟨k+1,_,by omega,by go_num,rfl,hide (Jb hall.out (by rw[E1.out,E2.out,(UInt8.toNat_inj.mp (by simp at ht;omega):s=s')]))⟩
     case measure=>simp[intOf];omega
   ·go_wp2
    go_ret;exact⟨ah.yes (Jc hall.out Hn.out hlt),_,rfl⟩
 ·have hd:((l.length:Int) != (m.length:Int))=true:=by simp;omega
  have Hn:=hide hn;clear hn;go_enter Tryz.func66,Tryz.ntmps66
  go_wp2
  go_ret;exact⟨ah.no (Jf Hn.out),0,rfl⟩
theorem UO(s:List UInt8)(ws:List (List UInt8))(bx:Nat)(t:ByteArray)(w:World)(ht:bF w)(hf:Lib.fields s=ws)(hs:s.length<4294967281)(ha :∀b∈s,b.toNat<128)(hl:(iY ws).length≤9223372036854775807)
  (hc:w.cell? ⟨bx,1,none⟩=some (.string t)) (hemp:[]∉ws):
  Calls Tryz.prog 296 #[.string ⟨s.toArray⟩,.pointer (some ⟨bx,0,none⟩)] w fun e w'=>ah (t.data.toList∈ws) e∧Below w.heap.size w w':=by
 have Ht:Hid (bF w):=ht;have Hf:=hide hf;have Ha:=hide ha;have Hl:=hide hl;have He:=hide hemp;have hbx:=block_lt_of_cell hc;clear ht hf ha hl hemp;by_cases h0:t.toList=[]
 ·have hz:t.data.toList=[]:=by rw[←ByteArray.toList_eq];exact h0
  have Hz:=hide hz;clear hz;go_enter Tryz.func296,Tryz.ntmps296
  go_wp2_with fail
  go_quiet (fail)
  go_wp2_with fail
  go_ret;exact⟨ah.no (by rw[Hz.out];exact He.out),di (Below.refl _ _) _⟩
 ·have h1:t.toList.isEmpty=false:=by simpa using h0
  go_enter Tryz.func296,Tryz.ntmps296
  go_wp2_with fail
  go_region_with (first
   | (go_at_call 281;refine(UH s ws _ (Ht.out.below (di (Below.refl _ _) 1)) Hf.out hs Ha.out).mono ?_;rintro e w1 ⟨A,c,rfl,hr,hB⟩;have hcw:=(hB.cell (p:=⟨bx,1,none⟩) hbx).trans hc;have Hr:=hide hr;have HB:=hide hB;clear hr hB)
   | (go_at_call 256;refine(Um (l:=iY ws) (x:=t) Hr.out Hl.out).mono ?_;rintro e w2 ⟨⟨b2,rfl,hb⟩,rfl⟩;have Hc:=hide hb;clear hb))
  all_goals
   go_wp2_with fail
   go_ret;exact⟨ah.mk (by rw[Hc.out,PR]),Ik HB.out⟩
def qc:List (List UInt8):=[[45],[33]]
theorem Yo{k:Nat}{t:ByteArray}(h:Named k):dN k t↔dM t:=by unfold dN;rw[if_pos h]
theorem Yp{t:ByteArray}:dN 23 t↔t.data.toList∈qc:=by
 unfold dN;rw[if_neg (by unfold Named;omega),if_pos rfl];simp[qc]
theorem Yq{t:ByteArray}:dN 24 t↔t.data.toList∈binaries:=by
 unfold dN;rw[if_neg (by unfold Named;omega),if_neg (by omega),if_pos rfl]
theorem Jz{k:Nat}{t:ByteArray}(h :¬Named k)(h3:k≠23)(h4:k≠24):dN k t↔t.toList=[]:=by
 unfold dN;rw[if_neg h,if_neg h3,if_neg h4,ByteArray.toList_eq]
theorem PV(k:Nat)(t:ByteArray)(n:Int)(A:Option Addr)(l c:Nat)(w:World)(ht:bF w)(hk:k<256)(hs:t.size≤9223372036854775807)(hn:ai n):
  Calls Tryz.prog 284 #[.agg #[.int .u8 k,.string t,.int .i64 n,.slice A l c]] w fun e w'=>ah (oK k n∧dN k t) e∧Below w.heap.size w w':=by
 have Ht:Hid (bF w):=ht;unfold ai at hn;have hmf :∀(fn:Fn) (first cap:Array Value) (w:World),(Instr.makeFunc fn first cap).run Tryz.prog w = .ok (.func fn first cap) w:=fun _ _ _ _=>rfl;clear ht;go_enter Tryz.func284,Tryz.ntmps284
 go_wp2_with(first
  | (go_at_call 297;refine(sJ k _).mono ?_;rintro e w1 ⟨⟨_|_,rfl,hb⟩,hB⟩<;>(have Hb:=hide hb;have HB:=hide (aW (az _ _) hB);obtain⟨hc1,hf1⟩:=iP hB;have hz:w.heap.size<w1.heap.size:=(by have:=hB.size;simp at this;omega);clear hb hB))
  | (go_at_call 219;refine(kH t _ hs (Ht.out.below HB.out)).mono ?_;rintro e w2 ⟨⟨b2,rfl,hb⟩,hB⟩;have Hb2:=hide hb;have HB2:=hide (aW HB.out hB);clear hb hB)
  | (go_at_call 296;first
   | ((with_reducible refine(UO [45,32,33] qc _ t _ (Ht.out.below HB.out) (by decide +kernel) (by decide) (by decide) (by decide) ?_ (by decide)).mono ?_);(rw[hc1 _ _ (by simp)];simp);rintro e w2 ⟨⟨b2,rfl,hb⟩,hB⟩;have Hb2:=hide hb;have HB2:=hide (aW HB.out hB);clear hb hB)
   | ((with_reducible refine(UO [124,124,32,38,38,32,61,61,32,33,61,32,60,32,60,61,32,62,32,62,61,32,43,32,45,32,42,32,47,32,37] binaries _ t _ (Ht.out.below HB.out) (by decide +kernel) (by decide) (by decide) (by decide) ?_ (by decide)).mono ?_);(rw[hc1 _ _ (by simp)];simp);rintro e w2 ⟨⟨b2,rfl,hb⟩,hB⟩;have Hb2:=hide hb;have HB2:=hide (aW HB.out hB);clear hb hB)))
 all_goals go_ret
 all_goals go_tidy
 all_goals(try have hb:=Hb.out)
 all_goals(try have hb2:=Hb2.out)
 all_goals(try clear hc1 hf1 hz)
 all_goals refine⟨ah.mk ?_,(by first|exact HB2.out|exact HB.out|exact az _ _)⟩
 all_goals(try clear HB2)
 all_goals(try clear HB)
 all_goals(try clear Hb)
 all_goals(try clear Hb2)
 all_goals clear Ht
 all_goals(try clear hk hs)
 all_goals simp only[beq_iff_eq,aK,bne_eq_false_iff_eq,bne_iff_ne,ne_eq,decide_eq_true_eq,List.isEmpty_iff]at *
 all_goals unfold oK
 ·have hk:k=20:=by omega
  subst hk;rw[Jz (by unfold Named;omega) (by omega) (by omega)];constructor
  ·intro h;exact⟨by omega,by assumption⟩
  ·rintro⟨h,_⟩;omega
 ·have hk:k=20:=by omega
  subst hk;rw[Jz (by unfold Named;omega) (by omega) (by omega)];constructor
  ·intro h;exact absurd h (by decide)
  ·rintro⟨_,h⟩;exact absurd h (by assumption)
 ·have hk:k=21:=by omega
  subst hk;rw[Jz (by unfold Named;omega) (by omega) (by omega)];constructor
  ·intro h;exact⟨by omega,by assumption⟩
  ·rintro⟨h,_⟩;omega
 ·have hk:k=21:=by omega
  subst hk;rw[Jz (by unfold Named;omega) (by omega) (by omega)];constructor
  ·intro h;exact absurd h (by decide)
  ·rintro⟨_,h⟩;exact absurd h (by assumption)
 ·constructor
  ·intro h;exact absurd h (by decide)
  ·rintro⟨h,_⟩;omega
 ·have hk:k=23:=by omega
  subst hk;rw[Yp,hb2];constructor
  ·intro h;exact⟨by omega,h⟩
  ·rintro⟨_,h⟩;exact h
 ·have hk:k=24:=by omega
  subst hk;rw[Yq,hb2];constructor
  ·intro h;exact⟨by omega,h⟩
  ·rintro⟨_,h⟩;exact h
 ·rw[Jz (fun h=>absurd (hb.mpr h) (by decide)) (by omega) (by omega)];constructor
  ·intro h;exact⟨by omega,h⟩
  ·rintro⟨_,h⟩;exact h
 ·rw[Yo (hb.mp trivial),hb2];constructor
  ·intro h;exact⟨by omega,h⟩
  ·rintro⟨_,h⟩;exact h
theorem sO{A:Option Addr}{k l c:Nat}{t:ByteArray}{n:Int}{w:World}(ht:t.size≤9223372036854775807):
  Calls Tryz.prog 301 #[.agg #[.int .u8 k,.string t,.int .i64 n,.slice A l c]] w fun e w'=>ah (dN k t) e∧Below w.heap.size w w':=by
 by_cases hN:Named k
 ·have HN:=hide hN;have e:dN k t↔dM t:=by unfold dN;rw[if_pos hN]
  have He:=hide e;clear hN e;go_enter Tryz.func301,Tryz.ntmps301
  go_wp2_with(first
   | (go_at_call 305;(with_reducible refine(Nb k _).mono ?_);rintro e w1 ⟨⟨b,rfl,hb⟩,rfl⟩;have hb2:=hb.2 HN.out;subst hb2;clear hb)
   | (go_at_call 230;(with_reducible refine(PT t _ ht).mono ?_);rintro e w2 ⟨⟨b,rfl,hb⟩,hB⟩;have Hb:=hide hb;have HB:=hide hB;clear hb hB))
  go_ret;exact⟨ah.mk (by rw[He.out];exact Hb.out),aW (az _ _) HB.out⟩
 ·have HN:=hide hN;by_cases h23:k=23
  ·have e:dN k t↔(t.data.toList=[45]∨t.data.toList=[33]):=by unfold dN;rw[if_neg hN,if_pos h23]
   have He:=hide e;have g23:((k:Int) == 23)=true:=by rw[beq_iff_eq];omega
   clear hN e h23;go_enter Tryz.func301,Tryz.ntmps301
   go_wp2_with(go_at_call 305;(with_reducible refine(Nb k _).mono ?_);rintro e w1 ⟨⟨b,rfl,hb⟩,rfl⟩;have hb2:b=false:=(by cases b with|false=>rfl|true=>exact absurd (hb.1 rfl) HN.out);subst hb2;clear hb)
   all_goals(go_ret;go_tidy;exact⟨ah.mk (by rw[He.out,←ByteArray.toList_eq];clear He HN;grind),az _ _⟩)
  ·by_cases Nh:k=24
   ·have e:dN k t↔t∈iY binaries:=by
     unfold dN;rw[if_neg hN,if_neg h23,if_pos Nh];exact PR.symm
    have He:=hide e;have g23:((k:Int) == 23)=false:=by rw[aK];omega
    have g24:((k:Int) == 24)=true:=by rw[beq_iff_eq];omega
    clear hN e h23 Nh;go_enter Tryz.func301,Tryz.ntmps301
    go_wp2_with(go_at_call 305;(with_reducible refine(Nb k _).mono ?_);rintro e w1 ⟨⟨b,rfl,hb⟩,rfl⟩;have hb2:b=false:=(by cases b with|false=>rfl|true=>exact absurd (hb.1 rfl) HN.out);subst hb2;clear hb)
    have EX:(iY binaries).length=13:=by decide
    obtain⟨W,hW⟩:∃W,W=(w.alloc (.cells #[.int .u8 k,.string t,.int .i64 n,.slice A l c] 218)).alloc (.cells ((iY binaries).map Value.string).toArray 9):=⟨_,rfl⟩;have hz:(w.alloc (.cells #[.int .u8 k,.string t,.int .i64 n,.slice A l c] 218)).heap.size=w.heap.size+1:=by simp
    have EY:Hid (∀(j:Nat) s,(iY binaries)[j]?=some s→W.cell? ⟨w.heap.size+1,j,none⟩=some (.string s)):=hide (by
     intro j s hs;have h1:=Lib.cell_of_heap (heap_alloc_new (w.alloc (.cells #[.int .u8 k,.string t,.int .i64 n,.slice A l c] 218)) (.cells ((iY binaries).map Value.string).toArray 9)) j;rw[hz,←hW]at h1;rw[h1];simp[hs])
    have wH:Hid (W.cell? ⟨w.heap.size,1,none⟩=some (.string t)):=hide (by
     rw[hW];exact((az (w.alloc (.cells #[.int .u8 k,.string t,.int .i64 n,.slice A l c] 218)) _).cell (p:=⟨w.heap.size,1,none⟩) (by simp)).trans (Lib.cell_of_heap (heap_alloc_new w _) 1))
    have HB0:Hid (Below w.heap.size w W):=hide (by rw[hW];exact(az w _).alloc (by simp) _);have hsW:w.heap.size+1<W.heap.size:=by rw[hW];simp
    change Code.wp _ _ _ _ ((w.alloc (.cells #[.int .u8 k,.string t,.int .i64 n,.slice A l c] 218)).alloc (.cells ((iY binaries).map Value.string).toArray 9));rw[←hW];clear hW hz
    go_loopw [4] (fun i wr=>∃q:Nat,q≤13∧i = .int .i64 q∧Hid (Below W.heap.size W wr)∧Hid (∀j,j<q→(iY binaries)[j]?≠some t)) (fun i _=>13-(intOf i).toNat)
    case atStart=>exact⟨0,by omega,rfl,hide (Below.refl _ _),hide (fun j h=>absurd h (by omega))⟩
    case round =>
     obtain⟨q,hq,rfl,HB,aQ⟩:=hrel;have hbx:=(HB.out.cell (p:=⟨w.heap.size,1,none⟩) (by simp;omega)).trans wH.out;by_cases hlt:q<13
     ·obtain⟨s,E⟩:∃s,(iY binaries)[q]?=some s:=⟨_,List.getElem?_eq_getElem (by omega)⟩;have hrw:=(HB.out.cell (p:=⟨w.heap.size+1,q,none⟩) (by simp;omega)).trans (EY.out q s E);have E':=hide E;clear E
      go_wp2_with fail
      go_quiet (fail)
      go_wp2_with fail
      ·have ht:(t.toList == s.toList)=true:=by assumption
       go_ret;exact⟨ah.yes (He.out.2 (List.mem_of_getElem? (E'.out.trans (congrArg some (Jd.1 ht).symm)))),aW HB0.out (di HB.out _)⟩
      ·have ht:(t.toList == s.toList)=false:=by assumption
       go_roundw
       case rel=>exact⟨q+1,by omega,by go_num,hide (di HB.out _),hide (Jo aQ.out E'.out (fun e=>by subst e;simp at ht))⟩
       case measure=>simp[intOf];omega
     ·have hqe:q=13:=by omega
      subst hqe
      go_wp2_with fail
      go_ret;exact⟨ah.no (fun h=>Jp aQ.out (by rw[EX];omega) (He.out.1 h)),aW HB0.out HB.out⟩
   ·have e:dN k t↔t.data.toList=[]:=by unfold dN;rw[if_neg hN,if_neg h23,if_neg Nh]
    have He:=hide e;have g23:((k:Int) == 23)=false:=by rw[aK];omega
    have g24:((k:Int) == 24)=false:=by rw[aK];omega
    clear hN e h23 Nh;go_enter Tryz.func301,Tryz.ntmps301
    go_wp2_with(go_at_call 305;(with_reducible refine(Nb k _).mono ?_);rintro e w1 ⟨⟨b,rfl,hb⟩,rfl⟩;have hb2:b=false:=(by cases b with|false=>rfl|true=>exact absurd (hb.1 rfl) HN.out);subst hb2;clear hb)
    all_goals(go_ret;go_tidy;exact⟨ah.mk (by rw[He.out,←ByteArray.toList_eq];clear He HN;grind),az _ _⟩)
theorem Yr{S:Nat→Prop}{x:Hh}{a:Hk}{w:World}(ha:gB S w x a):
  Calls Tryz.prog 181 #[.agg #[.int .i64 a.at_,.slice x.oA a.old.length x.oc,.slice x.nA a.new.length x.nc]] w
   fun e w'=>ah (pO a) e∧Below w.heap.size w w':=by
 have h1:=ha.at_;unfold ai at h1;have Ha:=hide ha;have gK:Hid (pO a↔0≤a.at_∧a.at_≤1099511627776∧LinesOk a.old∧LinesOk a.new∧a.old≠a.new):=hide Iff.rfl;have hcell :∀w1,Below (w.heap.size+1) (w.alloc (.cells #[.int .i64 a.at_,.slice x.oA a.old.length x.oc,.slice x.nA a.new.length x.nc] 36)) w1→∀o,w1.cell? ⟨w.heap.size,o,none⟩=(#[.int .i64 a.at_,.slice x.oA a.old.length x.oc,.slice x.nA a.new.length x.nc]:Array Value)[o]? :=
  fun w1 hB o=>(hB.cell (p:=⟨w.heap.size,o,none⟩) (by simp)).trans (Lib.cell_of_heap (heap_alloc_new w _) o)
 have iR:=hide hcell;have hz:(w.alloc (.cells #[.int .i64 a.at_,.slice x.oA a.old.length x.oc,.slice x.nA a.new.length x.nc] 36)).heap.size=w.heap.size+1:=by simp
 have Hz:=hide hz;clear ha hcell hz;go_enter Tryz.func181,Tryz.ntmps181
 go_wp2_with(first
  | (go_at_call 228;(with_reducible refine(Un (Ha.out.old.below (az _ _))).mono ?_);rintro e1 w1 ⟨⟨b1,rfl,hb⟩,hB1⟩;have Ba:=hB1;rw[Hz.out]at Ba;have HB1:=hide (aW (az _ _) hB1);have hc1:=iR.out w1 Ba;have JA:=hide Ba;have Hb1:=hide hb;clear hb hB1 Ba)
  | (go_at_call 228;(with_reducible refine(Un (Ha.out.new.below HB1.out)).mono ?_);rintro e2 w2 ⟨⟨b2,rfl,hb⟩,hB2⟩;have HB2:=hide (aW HB1.out hB2);have hC2:=hide (JA.out.trans (hB2.mono (by have:=JA.out.size;rw[Hz.out]at this;exact this)));have hc2:=iR.out w2 hC2.out;have Hb2:=hide hb;clear hb hB2)
  | (go_at_call 65;(with_reducible refine(O8 (Ha.out.old.below HB2.out) (Ha.out.new.below HB2.out)).mono ?_);rintro e3 w3 ⟨⟨b3,rfl,hb⟩,q,rfl⟩;have Hb3:=hide hb;clear hb))
 all_goals
  go_ret;go_tidy;refine⟨ah.mk ?_,?_⟩
  ·rw[gK.out]
   first
    | (have h1:=Hb1.out;have h2:=Hb2.out;have h3:=Hb3.out;clear Hb1 Hb2 Hb3 Ha gK iR;grind)
    | (have h1:=Hb1.out;have h2:=Hb2.out;clear Hb1 Hb2 Ha gK iR;grind)
    | (have h1:=Hb1.out;clear Hb1 Ha gK iR;grind)
    | (clear Ha gK iR;grind)
  ·first
    | exact di HB2.out _
    | exact HB2.out
    | exact HB1.out
    | exact az _ _
theorem qJ(n:Int)(w:World):Calls Tryz.prog 229 #[.int .i64 n] w fun e w'=>ah (Number n) e∧w=w':=by
 go_enter Tryz.func229,Tryz.ntmps229
 go_wp2
 all_goals(go_ret;go_tidy;exact⟨ah.mk (by unfold Number;grind),rfl⟩)
end
end Go.Proofs.YtjjaojnglnpgaaaGreatDoor
