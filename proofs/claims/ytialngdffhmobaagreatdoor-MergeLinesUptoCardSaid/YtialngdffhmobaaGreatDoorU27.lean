/- Part 28 of what mgTop rests on. -/
import Derived.Test.YtialngdffhmobaaGreatDoorU26
import Derived.Test.YtialngdffhmobaaGreatDoorU16
import Derived.Test.YtialngdffhmobaaGreatDoorU01
import Derived.Test.YtialngdffhmobaaGreatDoorU00
set_option linter.unusedVariables false
set_option linter.unusedSimpArgs false
set_option maxHeartbeats 16000000
set_option maxRecDepth 1000000
namespace Go.Proofs.YtialngdffhmobaaGreatDoor
section
open Go.RowKit
abbrev P5(M N:Nat)(A:Option Addr)(c:Nat)(x:List Int)(y:Eh)(e:Ed)(V:World):Prop :=
 V.cell? ⟨M,0,none⟩=some (.slice A x.length c)∧V.cell? ⟨N,1,none⟩=some (.slice y.pA e.path.length y.pc)∧V.cell? ⟨N,2,none⟩=some (.int .i64 e.at_)∧V.cell? ⟨N,3,none⟩=some (.int .i64 e.far)
theorem P5.below{M N:Nat}{A:Option Addr}{c:Nat}{x:List Int}{y:Eh}{e:Ed}{V V':World}(h:P5 M N A c x y e V)(hB:Below V.heap.size V V'):P5 M N A c x y e V' :=
 ⟨(hB.cell (p:=⟨M,0,none⟩) (block_lt_of_cell h.1)).trans h.1,(hB.cell (p:=⟨N,1,none⟩) (block_lt_of_cell h.2.1)).trans h.2.1,(hB.cell (p:=⟨N,2,none⟩) (block_lt_of_cell h.2.2.1)).trans h.2.2.1,(hB.cell (p:=⟨N,3,none⟩) (block_lt_of_cell h.2.2.2)).trans h.2.2.2⟩
theorem pushed_below{e:TypeId}{w:World}{v:Value}{n:Nat}{xs:List Value}{v':Value}{w' W:World}{m:Nat}{ys:List Value}(h:Pushed e w v n xs v' w')(hg :∀g,v.ownBlock=some g→W.heap.size≤g)(hW:Below W.heap.size W w)(_ho:w.ownsRow 0 e 1 v m ys):Below W.heap.size W w' :=
 Below.grown hW h.2.1 hW.size hg
theorem past5{W:World}{M N:Nat}{A:Option Addr}{c:Nat}{x:List Int}{y:Eh}{e:Ed}(h:PastBx W M N A c x y e)(hk:e.kind=5):
  Calls Tryz.prog 237 #[.pointer (some ⟨N,0,none⟩),.pointer (some ⟨M,0,none⟩)] W fun r w'=>PastPost e x W r w':=by
 have hp:pastOf e x=if underP x (e.path++[e.at_])then none else some (movedP x e.path e.at_ e.far):=by unfold pastOf;rw[if_neg (by omega),if_neg (by omega),if_neg (by omega),if_pos hk]
 have H:=hide h;have hS:P5 M N A c x y e W.drew:=⟨h.m.cell 0,h.n.cell 1,h.n.cell 2,h.n.cell 3⟩;have Hp:=hide hp;clear h hp;go_enter Tryz.func237,Tryz.ntmps237
 go_upto_region 1 with fail
 refine wp_region_held_drew (S:=P5 M N A c x y e) (by kernel_rfl) hS (fun hS0=>?_);have HI0:Hid (PastIn W.drew A c x y e):=hide (H.out.i.below ((Below.refl _ _).drew));have HB0:Hid (Below W.heap.size W W.drew):=hide ((Below.refl _ _).drew);generalize W.drew=D0 at hS0 HI0 HB0⊢;clear hS;refine tka 0 hS0 ?_;refine tka 1 hS0 ?_;refine tka 3 hS0 ?_;refine tka 4 hS0 ?_;refine dr2 2 5 ?_ ?_
 case' refine_1 =>
  refine bc (cloneInts_any HI0.out.ed.r.path.1 (by simp) (ints_one e.path) HI0.out.ed.b.path.2) ?_;rintro e1 D1 ⟨v,rfl,hown,hg,hB⟩;obtain⟨A1,c1,rfl⟩:=own_shape hown;refine⟨_,rfl,⟨hS0.below hB,?_⟩⟩;refine dr1 5 ?_;refine bw (w':=D1.alloc (.cells #[.int .i64 e.at_] 3)) (v:= .slice (some ⟨D1.heap.size,0,none⟩) 1 1) ?_;have hb:=below_alloc D1 (.cells #[.int .i64 e.at_] 3);have hown2:=own_below hown (fun g hg=>(hown.lt g hg).2) hb;have hc:(D1.alloc (.cells #[.int .i64 e.at_] 3)).cell? ((⟨D1.heap.size,0,none⟩:Addr).add 0)=some (.int .i64 e.at_):=by rw[Addr.add_lit];simp
  have hg2 :∀g,(Value.slice A1 e.path.length c1).ownBlock=some g→D0.heap.size≤g:=hg;have hBw:=hB.trans (hb.mono hB.size);refine⟨hS0.below hBw,?_⟩;generalize D1.alloc (.cells #[.int .i64 e.at_] 3)=D2 at hown2 hc hBw⊢;generalize D1.heap.size=gb at hc⊢;clear hb hown hg hB
 case' refine_2 =>
  refine bw (w':=D0.alloc (.cells #[.int .i64 e.at_] 3)) (v:= .slice (some ⟨D0.heap.size,0,none⟩) 1 1) ?_;have hb:=below_alloc D0 (.cells #[.int .i64 e.at_] 3);refine⟨hS0.below hb,?_⟩;refine dr1 2 ?_;refine bc (cloneInts_any (HI0.out.ed.r.path.below hb).1 (by simp) (ints_one e.path) HI0.out.ed.b.path.2) ?_;rintro e1 D2 ⟨v,rfl,hown2,hg,hB⟩;obtain⟨A1,c1,rfl⟩:=own_shape hown2;have hc:D2.cell? ((⟨D0.heap.size,0,none⟩:Addr).add 0)=some (.int .i64 e.at_):=by rw[Addr.add_lit,hB.cell (p:=⟨D0.heap.size,0+0,none⟩) (by simp)];simp
  have hg2 :∀g,(Value.slice A1 e.path.length c1).ownBlock=some g→D0.heap.size≤g:=fun g hgg=>Nat.le_trans hb.size (hg g hgg);have hBw:=hb.trans (hB.mono hb.size);refine⟨_,rfl,⟨hS0.below hBw,?_⟩⟩;generalize D0.heap.size=gb at hc⊢;clear hb hg hB
 all_goals
  obtain⟨v',D3,hrun,hpu⟩:=push_int hown2 hc rfl HI0.out.ed.b.path.2;refine dr1 6 ?_;refine bw (hy:=exec_append hrun rfl rfl rfl) ?_;have hB3:=pushed_below hpu (W:=D0) (by first|exact hg2|(rename_i gb;exact hg2)) hBw hown2;have hS3:=hS0.below hB3;refine⟨hS3,?_⟩;refine dr1 7 ?_;refine bw ?_;refine⟨hS3,?_⟩;refine wpAnyH_done (by kernel_rfl) ?_ _;rename_i hK;refine hK _ _ ?_;clear hK;have HI3:=hide (HI0.out.below hB3);have HB3:=hide (blw_up HB0.out hB3);obtain⟨A3,c3,hv3,hrd,hc3,_⟩:=own_rd (S:=Any) hpu.1 (fun _ _=>trivial);subst hv3;have hin:IntsIn Any D3 A3 (e.path++[e.at_]):=⟨by rw[List.map_append];exact hrd,fun n hn=>by
   rcases List.mem_append.1 hn with hn|hn
   ·exact HI0.out.ed.r.path.2.1 n hn
   ·rw[List.mem_singleton]at hn;subst hn;exact HI0.out.ed.r.at_,by have:=HI0.out.ed.b.path.2;simp;omega⟩
  have hlen:(e.path++[e.at_]).length=e.path.length+1:=by simp
  have Hin:=hide hin;have Hlen:=hide hlen;clear hpu hown2 hc hg2 hBw hrun hB3 hrd hin hlen hS0
  go_upto_region 2 with fail
  have hS:P5 M N A c x y e D3.drew:=hS3;refine wp_region_held_drew (S:=P5 M N A c x y e) (by kernel_rfl) hS (fun hS4=>?_);have HI4:Hid (PastIn D3.drew A c x y e):=hide (HI3.out.below ((Below.refl _ _).drew));have HB4:Hid (Below W.heap.size W D3.drew):=hide (HB3.out.drew);have Hin4:Hid (IntsIn Any D3.drew A3 (e.path++[e.at_])):=hide (Hin.out.below ((Below.refl _ _).drew));generalize D3.drew=D4 at hS4 HI4 HB4 Hin4⊢;clear hS hS3 Hin;refine tka 0 hS4 ?_;refine tka 1 hS4 ?_;refine tka 2 hS4 ?_;refine tka 3 hS4 ?_;refine tka 4 hS4 ?_;refine tka 5 hS4 ?_;refine tka 6 hS4 ?_;refine tka 8 hS4 ?_;refine tka 9 hS4 ?_;refine dr1 7 ?_;refine bc (moved_any (frm:=e.at_) (tgt:=e.far) HI4.out.two) ?_;rintro e5 D5 ⟨⟨A5,c5,rfl,hi⟩,hB⟩;have HB5:=hide (blw_up HB4.out hB);have HI5:=hide (hi.up HB4.out.size);have hu:=under_any (c':=c3) (HI4.out.two.pa.below hB) (Hin4.out.below hB) HI4.out.two.ca;rw[Hlen.out]at hu;have hS5:=hS4.below hB;refine⟨_,rfl,⟨hS5,?_⟩⟩;clear hB hi;refine dr1 10 ?_;refine bc hu ?_;rintro e6 D6 ⟨⟨q,rfl,hq⟩,hB⟩;have HB6:=hide (blw_up HB5.out hB);have HI6:=hide (HI5.out.below hB);have Hq:=hide hq;have hS6:=hS5.below hB;refine⟨_,rfl,⟨hS6,?_⟩⟩;clear hB hq hu;refine tka (v:= .bool !q) 11 hS6 ?_;refine dr1 12 ?_;refine bw ?_;refine⟨hS6,?_⟩;refine dr1 13 ?_;refine bw ?_;refine⟨hS6,?_⟩;refine wpAnyH_done (by kernel_rfl) ?_ _;rename_i hK;refine hK _ _ ?_;clear hK;refine wp_ret ?_
  try simp only[Exit.then,Exit.inBlock]
  go_ret2
  refine⟨⟨_,_,_,_,rfl,?_⟩,HB6.out⟩;unfold PastIs;rw[Hp.out];have hml:(movedP x e.path e.at_ e.far).length=x.length:=thru_len _ _ _;have hq:=Hq.out;cases q
  ·have hn :¬underP x (e.path++[e.at_]):=fun h=>by have:=hq.mpr h;cases this
   rw[if_neg hn];exact .inr ⟨_,rfl,hml.symm,rfl,HI6.out⟩
  ·rw[if_pos (hq.mp rfl)];exact .inl ⟨rfl,rfl⟩
end
end Go.Proofs.YtialngdffhmobaaGreatDoor
