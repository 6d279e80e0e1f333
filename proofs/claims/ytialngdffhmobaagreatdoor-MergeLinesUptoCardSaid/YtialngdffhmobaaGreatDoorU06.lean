/- Part 7 of what mgTop rests on. -/
import Derived.Deep.RegionWith
import Derived.Test.YtialngdffhmobaaGreatDoorU05
import Derived.Test.YtialngdffhmobaaGreatDoorU00
set_option linter.unusedVariables false
set_option linter.unusedSimpArgs false
set_option maxHeartbeats 16000000
set_option maxRecDepth 1000000
namespace Go.Proofs.YtialngdffhmobaaGreatDoor
section
open Go.RowKit
theorem among_any(s:List UInt8)(ws:List (List UInt8))(bx:Nat)(t:ByteArray)(w:World)(ht:TabOk w)(hf:Lib.fields s=ws)(hs:s.length<4294967281)(ha :∀b∈s,b.toNat<128)(hl:(txts ws).length≤9223372036854775807)
  (hc:w.cell? ⟨bx,1,none⟩=some (.string t)) (hemp:[]∉ws):
  Calls Tryz.prog 247 #[.string ⟨s.toArray⟩,.pointer (some ⟨bx,0,none⟩)] w fun e w'=>RetB (t.data.toList∈ws) e∧Below w.heap.size w w':=by
 have Ht:Hid (TabOk w):=ht;have Hf:=hide hf;have Ha:=hide ha;have Hl:=hide hl;have He:=hide hemp;have hbx:=block_lt_of_cell hc;clear ht hf ha hl hemp;by_cases h0:t.toList=[]
 ·have hz:t.data.toList=[]:=by rw[←ByteArray.toList_eq];exact h0
  have Hz:=hide hz;clear hz;go_enter Tryz.func247,Tryz.ntmps247
  go_wp2_with fail
  go_quiet (fail)
  go_wp2_with fail
  go_ret;exact⟨RetB.no (by rw[Hz.out];exact He.out),blw_drewN (Below.refl _ _) _⟩
 ·have h1:t.toList.isEmpty=false:=by simpa using h0
  go_enter Tryz.func247,Tryz.ntmps247
  go_wp2_with fail
  go_region_with (first
   | (go_at_call 214;refine(fields_any s ws _ (Ht.out.below (blw_drewN (Below.refl _ _) 1)) Hf.out hs Ha.out).mono ?_;rintro e w1 ⟨A,c,rfl,hr,hB⟩;have hcw:=(hB.cell (p:=⟨bx,1,none⟩) hbx).trans hc;have Hr:=hide hr;have HB:=hide hB;clear hr hB)
   | (go_at_call 177;refine(containsText_any (l:=txts ws) (x:=t) Hr.out Hl.out).mono ?_;rintro e w2 ⟨⟨b2,rfl,hb⟩,rfl⟩;have Hc:=hide hb;clear hb))
  all_goals
   go_wp2_with fail
   go_ret;exact⟨RetB.mk (by rw[Hc.out,mem_txts]),blw_undrew HB.out⟩
def signs1:List (List UInt8):=[[45],[33]]
theorem textOk_named{k:Nat}{t:ByteArray}(h:Named k):TextOk k t↔LexName t:=by unfold TextOk;rw[if_pos h]
theorem textOk_unary{t:ByteArray}:TextOk 23 t↔t.data.toList∈signs1:=by
 unfold TextOk;rw[if_neg (by unfold Named;omega),if_pos rfl];simp[signs1]
theorem textOk_binary{t:ByteArray}:TextOk 24 t↔t.data.toList∈binaries:=by
 unfold TextOk;rw[if_neg (by unfold Named;omega),if_neg (by omega),if_pos rfl]
theorem textOk_else{k:Nat}{t:ByteArray}(h :¬Named k)(h3:k≠23)(h4:k≠24):TextOk k t↔t.toList=[]:=by
 unfold TextOk;rw[if_neg h,if_neg h3,if_neg h4,ByteArray.toList_eq]
theorem shr1(n:Int):n / 2=0↔n=0∨n=1:=by omega
theorem says_any(k:Nat)(t:ByteArray)(n:Int)(A:Option Addr)(l c:Nat)(w:World)(ht:TabOk w)(hk:k<256)(hs:t.size≤9223372036854775807)(hn:isInt64 n):
  Calls Tryz.prog 217 #[.agg #[.int .u8 k,.string t,.int .i64 n,.slice A l c]] w fun e w'=>RetB (NumOk k n∧TextOk k t) e∧Below w.heap.size w w':=by
 have Ht:Hid (TabOk w):=ht;unfold isInt64 at hn;have hmf :∀(fn:Fn) (first cap:Array Value) (w:World),(Instr.makeFunc fn first cap).run Tryz.prog w = .ok (.func fn first cap) w:=fun _ _ _ _=>rfl;clear ht;go_enter Tryz.func217,Tryz.ntmps217
 go_wp2_with(first
  | (go_at_call 248;refine(named_any k _).mono ?_;rintro e w1 ⟨⟨_|_,rfl,hb⟩,hB⟩<;>(have Hb:=hide hb;have HB:=hide (blw_up (below_alloc _ _) hB);obtain⟨hc1,hf1⟩:=bcell hB;have hz:w.heap.size<w1.heap.size:=(by have:=hB.size;simp at this;omega);clear hb hB))
  | (go_at_call 108;refine(lexName_any t _ hs (Ht.out.below HB.out)).mono ?_;rintro e w2 ⟨⟨b2,rfl,hb⟩,hB⟩;have Hb2:=hide hb;have HB2:=hide (blw_up HB.out hB);clear hb hB)
  | (go_at_call 247;first
   | ((with_reducible refine(among_any [45,32,33] signs1 _ t _ (Ht.out.below HB.out) (by decide +kernel) (by decide) (by decide) (by decide) ?_ (by decide)).mono ?_);(rw[hc1 _ _ (by simp)];simp);rintro e w2 ⟨⟨b2,rfl,hb⟩,hB⟩;have Hb2:=hide hb;have HB2:=hide (blw_up HB.out hB);clear hb hB)
   | ((with_reducible refine(among_any [124,124,32,38,38,32,61,61,32,33,61,32,60,32,60,61,32,62,32,62,61,32,43,32,45,32,42,32,47,32,37] binaries _ t _ (Ht.out.below HB.out) (by decide +kernel) (by decide) (by decide) (by decide) ?_ (by decide)).mono ?_);(rw[hc1 _ _ (by simp)];simp);rintro e w2 ⟨⟨b2,rfl,hb⟩,hB⟩;have Hb2:=hide hb;have HB2:=hide (blw_up HB.out hB);clear hb hB)))
 all_goals go_ret
 all_goals go_tidy
 all_goals(try have hb:=Hb.out)
 all_goals(try have hb2:=Hb2.out)
 all_goals(try clear hc1 hf1 hz)
 all_goals refine⟨RetB.mk ?_,(by first|exact HB2.out|exact HB.out|exact below_alloc _ _)⟩
 all_goals(try clear HB2)
 all_goals(try clear HB)
 all_goals(try clear Hb)
 all_goals(try clear Hb2)
 all_goals clear Ht
 all_goals(try clear hk hs)
 all_goals simp only[beq_iff_eq,beq_eq_false_iff_ne,bne_eq_false_iff_eq,bne_iff_ne,ne_eq,decide_eq_true_eq,List.isEmpty_iff]at *
 all_goals unfold NumOk
 ·have hk:k=20:=by omega
  subst hk;rw[textOk_else (by unfold Named;omega) (by omega) (by omega)];constructor
  ·intro h;exact⟨by omega,by assumption⟩
  ·rintro⟨h,_⟩;omega
 ·have hk:k=20:=by omega
  subst hk;rw[textOk_else (by unfold Named;omega) (by omega) (by omega)];constructor
  ·intro h;exact absurd h (by decide)
  ·rintro⟨_,h⟩;exact absurd h (by assumption)
 ·have hk:k=21:=by omega
  subst hk;rw[textOk_else (by unfold Named;omega) (by omega) (by omega)];constructor
  ·intro h;exact⟨by omega,by assumption⟩
  ·rintro⟨h,_⟩;omega
 ·have hk:k=21:=by omega
  subst hk;rw[textOk_else (by unfold Named;omega) (by omega) (by omega)];constructor
  ·intro h;exact absurd h (by decide)
  ·rintro⟨_,h⟩;exact absurd h (by assumption)
 ·constructor
  ·intro h;exact absurd h (by decide)
  ·rintro⟨h,_⟩;omega
 ·have hk:k=23:=by omega
  subst hk;rw[textOk_unary,hb2];constructor
  ·intro h;exact⟨by omega,h⟩
  ·rintro⟨_,h⟩;exact h
 ·have hk:k=24:=by omega
  subst hk;rw[textOk_binary,hb2];constructor
  ·intro h;exact⟨by omega,h⟩
  ·rintro⟨_,h⟩;exact h
 ·rw[textOk_else (fun h=>absurd (hb.mpr h) (by decide)) (by omega) (by omega)];constructor
  ·intro h;exact⟨by omega,h⟩
  ·rintro⟨_,h⟩;exact h
 ·rw[textOk_named (hb.mp trivial),hb2];constructor
  ·intro h;exact⟨by omega,h⟩
  ·rintro⟨_,h⟩;exact h
end
end Go.Proofs.YtialngdffhmobaaGreatDoor
