/- Part 14 of what mgTop rests on. -/
import Derived.Test.YtialngdffhmobaaGreatDoorU12
import Derived.Test.YtialngdffhmobaaGreatDoorU00
set_option linter.unusedVariables false
set_option linter.unusedSimpArgs false
set_option maxHeartbeats 16000000
set_option maxRecDepth 1000000
namespace Go.Proofs.YtialngdffhmobaaGreatDoor
section
open Go.RowKit
def moveOf(frm tgt k:Int):Int:=if k=frm then tgt else upOf tgt (downOf frm k)
theorem movedP_eq(x l:List Int)(frm tgt:Int):movedP x l frm tgt=thru x l (moveOf frm tgt):=rfl
theorem downOf_wide{a k:Int}(h:smallI k):wideI (downOf a k):=by
 unfold downOf;obtain⟨h1,h2⟩:=h;split<;>exact⟨by omega,by omega⟩
theorem movedFn_any{W:World}{b d:Nat}{frm tgt k:Int}(hf:W.cell? ⟨b,0,none⟩=some (.int .i64 frm))(ht:W.cell? ⟨d,0,none⟩=some (.int .i64 tgt))(hk:smallI k):
  Calls Tryz.prog 264 #[.int .i64 k,.pointer (some ⟨b,0,none⟩),.pointer (some ⟨d,0,none⟩)] W fun e w'=>e = .returned (.int .i64 (moveOf frm tgt k))∧Below W.heap.size W w':=by
 have Hk:=hide hk;clear hk;unfold moveOf;by_cases h:k=frm
 ·subst h;rw[if_pos rfl];go_enter Tryz.func264,Tryz.ntmps264
  go_wp2_with fail
  go_ret;exact⟨rfl,Below.refl _ _⟩
 ·have hd:(k == frm)=false:=by simpa using h
  rw[if_neg h];have hbl:=block_lt_of_cell hf;have hdl:=block_lt_of_cell ht;go_enter Tryz.func264,Tryz.ntmps264
  go_upto_region 3 with fail
  go_region_with (first
   | (go_at_call 262;(with_reducible refine(up_any).mono ?_);rintro e2 w2 ⟨rfl,rfl⟩)
   | (go_at_call 263;(with_reducible refine(down_any).mono ?_);rintro e3 w3 ⟨rfl,rfl⟩)
   | (go_at_call 280;(with_reducible refine(downFn_any (at_:=frm) (by simp) Hk.out.wide).mono ?_);rintro e4 w4 ⟨rfl,rfl⟩)
   | (go_at_call 279;(with_reducible refine(upFn_any (at_:=tgt) (by simp) (downOf_wide Hk.out)).mono ?_);rintro e5 w5 ⟨rfl,rfl⟩))
  all_goals
   go_wp2_with fail
   go_ret;exact⟨rfl,by repeat first|exact Below.refl _ _|refine Below.drew ?_|refine Below.alloc ?_ (by simp) _⟩
theorem movedOk(w:World)(frm tgt:Int):FnOk 264 #[.pointer (some ⟨w.heap.size,0,none⟩),.pointer (some ⟨w.heap.size+1,0,none⟩)] ((w.alloc (.cells #[.int .i64 frm] 3)).alloc (.cells #[.int .i64 tgt] 3)) (moveOf frm tgt):=
 ⟨enters_of Tryz.func264 (by kernel_rfl) rfl,fun W k hW hk=>movedFn_any (b:=w.heap.size) (d:=w.heap.size+1) (frm:=frm) (tgt:=tgt) (by rw[hW.cell (p:=⟨w.heap.size,0,none⟩) (by simp;omega),World.cell?_alloc2_first];rfl) (by rw[hW.cell (p:=⟨w.heap.size+1,0,none⟩) (by simp),World.cell?_alloc2_new];rfl) hk⟩
theorem moved_any{w:World}{A A':Option Addr}{c c':Nat}{a b:List Int}{frm tgt:Int}(h:TwoP w A A' c a b):
  Calls Tryz.prog 238 #[.slice A a.length c,.slice A' b.length c',.int .i64 frm,.int .i64 tgt] w fun e w'=>(∃A1 c1,e = .returned (.slice A1 a.length c1)∧IntsO w w' A1 c1 (movedP a b frm tgt))∧Below w.heap.size w w':=by
 have hmf:=hmf;have H:=hide (h.below (below2 (.cells #[.int .i64 frm] 3) (.cells #[.int .i64 tgt] 3)));have HF:=hide (movedOk w frm tgt);clear h;go_enter Tryz.func238,Tryz.ntmps238
 go_upto_region 1 with fail
 refine wp_region_lit ?_;refine sk ?_;refine sk ?_;refine gc (through_any H.out.pa H.out.pb H.out.ca) ?_;rintro e1 w1 ⟨⟨j,hj,rfl⟩,hB⟩;refine⟨_,rfl,?_⟩;have HB1:=hide hB;clear hB;refine sk ?_;refine gc ((H.out.below HB1.out).past (HF.out.up HB1.out) hj) ?_;rintro e3 w3 ⟨⟨A3,c3,rfl,hi⟩,hB⟩;refine⟨_,rfl,?_⟩;have HI:=hide hi;have HB3:=hide hB;clear hi hB;refine sk ?_;refine wpList_nil ?_;rename_i hK;refine hK _ _ ?_;clear hK
 go_wp2_with fail
 go_ret;have hB:Below w.heap.size w w1:=blw_up (below2 _ _) HB1.out;exact⟨⟨_,_,rfl,HI.out.up hB.size⟩,blw_up hB HB3.out⟩
end
end Go.Proofs.YtialngdffhmobaaGreatDoor
