/- Part 18 of what mgTop rests on. -/
import Derived.Laws.IdiomCopy
import Derived.Deep.RegionHeld
import Derived.Test.YtialngdffhmobaaGreatDoorU03
import Derived.Test.YtialngdffhmobaaGreatDoorU12
import Derived.Test.YtialngdffhmobaaGreatDoorU07
import Derived.Test.YtialngdffhmobaaGreatDoorU09
import Derived.Test.YtialngdffhmobaaGreatDoorU00
set_option linter.unusedVariables false
set_option linter.unusedSimpArgs false
set_option maxHeartbeats 16000000
set_option maxRecDepth 1000000
namespace Go.Proofs.YtialngdffhmobaaGreatDoor
section
open Go.RowKit
abbrev Apart(N:Nat)(w w':World):Prop:=Keep (fun b=>b<w.heap.size∧b≠N∧b≠N+1) w w'
abbrev Free(S:Nat→Prop)(N:Nat):Nat→Prop:=fun b=>S b∧b≠N∧b≠N+1
section
variable {S : Nat → Prop} {N : Nat} {w w' w'' : World} {A : Option Addr}
theorem Apart.refl(N:Nat)(w:World):Apart N w w:=Keep.refl _ _
theorem Apart.below(h:Apart N w w')(hB:Below w'.heap.size w' w''):Apart N w w'':=Keep.trans h (Keep.of_below hB fun _ hk=>Nat.lt_of_lt_of_le hk.1 h.size)
theorem Apart.set(h:Apart N w w'){a:Addr}(ha:a.block=N∨a.block=N+1)(u:Value):Apart N w (w'.setCell a u):=
 Keep.setCell h (fun hk=>by rcases ha with e|e;exact hk.2.1 e;exact hk.2.2 e) u
theorem Rd.apart{xs:List Value}(h:Rd (Free S N) w A xs)(hl:Apart N w w'):Rd (Free S N) w' A xs :=
 ((h.mono (S':=fun b=>(b<w.heap.size∧b≠N∧b≠N+1)∧S b) fun _ h1 h2=>⟨⟨h1,h2.2⟩,h2.1⟩).keep (fun b hb=>hl.block b hb.1)).mono fun _ _ h=>⟨h.2,h.1.2⟩
theorem IntsIn.apart{l:List Int}(h:IntsIn (Free S N) w A l)(hl:Apart N w w'):IntsIn (Free S N) w' A l:=⟨h.1.apart hl,h.2⟩
theorem StrsIn.apart{l:List ByteArray}(h:StrsIn (Free S N) w A l)(hl:Apart N w w'):StrsIn (Free S N) w' A l:=⟨h.1.apart hl,h.2⟩
theorem FoIn.apart{f:Fo}(h:FoIn (Free S N) w A f)(hl:Apart N w w'):FoIn (Free S N) w' A f :=
 ((h.mono (S':=fun b=>(b<w.heap.size∧b≠N∧b≠N+1)∧S b) fun _ h1 h2=>⟨⟨h1,h2.2⟩,h2.1⟩).keep (fun b hb=>hl.block b hb.1)).mono fun _ _ h=>⟨h.2,h.1.2⟩
theorem HkIn.apart{x:Hh}{h:Hk}(a:HkIn (Free S N) w x h)(hl:Apart N w w'):HkIn (Free S N) w' x h:=⟨a.at_,a.old.apart hl,a.new.apart hl,a.oc,a.nc⟩
theorem EdIn.apart{x:Eh}{e:Ed}(a:EdIn (Free S N) w x e)(hl:Apart N w w'):EdIn (Free S N) w' x e :=
 ⟨a.kind,a.path.apart hl,a.at_,a.far,a.frm,a.to,a.old.apart hl,a.new.apart hl,a.pc,a.oc,a.nc⟩
end
theorem cells_first(w:World)(cs ds:Array Value)(t u:TypeId):Cells ((w.alloc (.cells cs t)).alloc (.cells ds u)) w.heap.size cs.toList:=fun j v hv=>by
 rw[World.cell?_alloc2_first];simpa using hv
theorem cells_second(w:World)(o:Obj)(ds:Array Value)(u:TypeId):Cells ((w.alloc o).alloc (.cells ds u)) (w.heap.size+1) ds.toList:=fun j v hv=>by
 rw[World.cell?_alloc2_new];simpa using hv
theorem cells_first_drew(w:World)(cs ds:Array Value)(t u:TypeId):Cells ((w.alloc (.cells cs t)).alloc (.cells ds u)).drew w.heap.size cs.toList:=cells_first w cs ds t u
theorem cells_second_drew(w:World)(o:Obj)(ds:Array Value)(u:TypeId):Cells ((w.alloc o).alloc (.cells ds u)).drew (w.heap.size+1) ds.toList:=cells_second w o ds u
theorem Apart.puts{N M:Nat}{w w' wF:World}(h:Apart N w w')(hk :∀P:Nat→Prop,¬P M→Keep P w' wF)(hM:M=N∨M=N+1):Apart N w wF :=
 Keep.trans h (Keep.mono (hk (fun b=>b≠N∧b≠N+1) (fun h=>by rcases hM with e|e;exact h.1 e;exact h.2 e)) (fun _ hb=>hb.2))
theorem hunkInvert_any{S:Nat→Prop}{x:Hh}{h:Hk}{w:World}(H:HkIn S w x h)(h1:h.old.length≤549755813888)(h2:h.new.length≤549755813888)(hS :∀b,w.heap.size≤b→S b):
  Calls Tryz.prog 181 #[.agg #[.int .i64 h.at_,.slice x.oA h.old.length x.oc,.slice x.nA h.new.length x.nc]] w fun e w' =>
   (∃y:Hh,e = .returned (.agg #[.int .i64 h.at_,.slice y.oA h.new.length y.oc,.slice y.nA h.old.length y.nc])∧HkIn S w' y ⟨h.at_,h.new,h.old⟩)∧Below w.heap.size w w':=by
 have Ho:=hide H.old;have Hn:=hide H.new;have hat:=H.at_;have HS:=hide hS;clear H hS;go_enter Tryz.func181,Tryz.ntmps181
 go_upto_region 1 with fail
 go_region_held (fun w'=>w'.cell? ⟨w.heap.size,0,none⟩=some (.int .i64 h.at_)∧w'.cell? ⟨w.heap.size,1,none⟩=some (.slice x.oA h.old.length x.oc)∧w'.cell? ⟨w.heap.size,2,none⟩=some (.slice x.nA h.new.length x.nc)) (go_keep) (first
  | (go_at_call 122;(with_reducible refine(cloneStrs_in (l:=h.new) (Hn.out.below (by first|exact HBO.out|exact HBN.out|(repeat first|exact Below.refl _ _|refine Below.drew ?_|refine Below.alloc ?_ (by simp) _))) rfl h2).mono ?_);rintro eN wN ⟨⟨AN,cN,rfl,hN,hN1,hN2⟩,hB⟩;obtain⟨hxN,hfN,hzN⟩:=bbox (N:=w.heap.size) hB (by first|exact hzO|(simp<;>omega));obtain⟨hyN,hgN,huN⟩:=bbox (N:=w.heap.size+1) hB (by first|exact huO|(simp<;>omega));have HN:Hid (StrsIn (Free S w.heap.size) wN AN h.new):=hide (hN.mono (fun b _ hb=>by first|exact⟨HS.out b (by have:=Nat.lt_of_lt_of_le huO hb;omega),by have:=Nat.lt_of_lt_of_le huO hb;omega,by have:=Nat.lt_of_lt_of_le huO hb;omega⟩|(simp at hb;exact⟨HS.out b (by omega),by omega,by omega⟩)));have HBN:Hid (Below w.heap.size w wN):=hide (by first|exact blw_up HBO.out hB|exact blw_up (by repeat first|exact Below.refl _ _|refine Below.drew ?_|refine Below.alloc ?_ (by simp) _) hB);have HAN:=hide hB;clear hN hB)
  | (go_at_call 122;(with_reducible refine(cloneStrs_in (l:=h.old) (Ho.out.below (by first|exact HBN.out|exact HBO.out|(repeat first|exact Below.refl _ _|refine Below.drew ?_|refine Below.alloc ?_ (by simp) _))) rfl h1).mono ?_);rintro eO wO ⟨⟨AO,cO,rfl,hO,hO1,hO2⟩,hB⟩;obtain⟨hxO,hfO,hzO⟩:=bbox (N:=w.heap.size) hB (by first|exact hzN|(simp<;>omega));obtain⟨hyO,hgO,huO⟩:=bbox (N:=w.heap.size+1) hB (by first|exact huN|(simp<;>omega));have HO:Hid (StrsIn (Free S w.heap.size) wO AO h.old):=hide (hO.mono (fun b _ hb=>by first|exact⟨HS.out b (by have:=Nat.lt_of_lt_of_le huN hb;omega),by have:=Nat.lt_of_lt_of_le huN hb;omega,by have:=Nat.lt_of_lt_of_le huN hb;omega⟩|(simp at hb;exact⟨HS.out b (by omega),by omega,by omega⟩)));have HBO:Hid (Below w.heap.size w wO):=hide (by first|exact blw_up HBN.out hB|exact blw_up (by repeat first|exact Below.refl _ _|refine Below.drew ?_|refine Below.alloc ?_ (by simp) _) hB);have HAO:=hide hB;clear hO hB))
 all_goals
  have hc:Cells wO (w.heap.size+1) [.int .i64 0,.slice none 0 0,.slice none 0 0]:=((cells_second_drew w _ #[.int .i64 0,.slice none 0 0,.slice none 0 0] _).of_eq hyN).of_eq hyO;obtain⟨wF,hF,hcF,hoth,hkeep,hfz,hsz⟩:=puts hc 0 [.int .i64 h.at_,.slice AN h.new.length cN,.slice AO h.old.length cO] (by simp);simp only[World.setCells,Nat.zero_add,Nat.reduceAdd]at hF;rw[←hF];have f0:=hcF 0 _ rfl;have f1:=hcF 1 _ rfl;have f2:=hcF 2 _ rfl;have HF:=hide hF;clear hF
  go_wp2_with fail
  refine bodyPost_ret (v:= .agg #[.int .i64 h.at_,.slice AN h.new.length cN,.slice AO h.old.length cO]) ?_ rfl ?_
  ·simp only[results,Tryz.results181];go_simp
  ·exact⟨⟨⟨AN,cN,AO,cO⟩,rfl,⟨hat,(HN.out.apart (((Apart.refl _ _).below HAO.out).puts hkeep (.inr rfl))).mono (fun _ _ h=>h.1),(HO.out.apart ((Apart.refl _ _).puts hkeep (.inr rfl))).mono (fun _ _ h=>h.1),⟨hN1,hN2⟩,⟨hO1,hO2⟩⟩⟩,HBO.out.trans (hkeep (fun b=>b<w.heap.size) (by simp)).below⟩
end
section
open Go.RowKit
theorem edRight_4a2{S:Nat→Prop}{x:Eh}{e:Ed}{w:World}(he:EdIn S w x e)(htab:TabOk w)(hsum:e.frm.size+e.to.size≤9223372036854775807)(hfe:e.frm=noTxt)(hte:e.to=noTxt)(hnot :¬(PartOk e.old∧PartOk e.new∧e.at_=0∧e.far=0)):
  Calls Tryz.prog 36 #[.agg #[.int .u8 4,.slice x.pA e.path.length x.pc,.int .i64 e.at_,.int .i64 e.far,.string {data:=#[]},.string {data:=#[]},.slice x.oA e.old.len x.oc,.slice x.nA e.new.len x.nc]] w fun e1 w'=>RetB (EdOk {e with kind:=4}) e1∧Below w.heap.size w w':=by
 have Htab:Hid (TabOk w):=htab;have Hpath:=hide he.path;have Hat:=hide he.at_;have Hfar:=hide he.far;have hfrm:=he.frm;have hto:=he.to;have Hold:=hide he.old;have Hnew:=hide he.new;have hold:=he.oc;have hnew:=he.nc;have Hok:=hide (@edOk_iff_4 e);have Hfe:=hide hfe;have Hte:=hide hte;clear hfe hte hfrm hto hsum;have hE:(!(({data:=#[]}:ByteArray)++({data:=#[]}:ByteArray)).toList.isEmpty)=false:=txt_nil;have Hnot:=hide hnot;clear hnot;clear he htab;go_enter Tryz.func36,Tryz.ntmps36
 go_wp2_with(first
  | (go_at_call 105;(with_reducible refine(hasNumber_any (l:=e.path) (Hpath.out.below (blw_drewN (below_alloc _ _) _))).mono ?_);rintro e1 w1 ⟨⟨_|_,rfl,hb⟩,rfl⟩<;>(have Hp:=hide hb;clear hb))
  | (go_at_call 107;(with_reducible refine(number_any e.at_ _ Hat.out).mono ?_);rintro e1 w1 ⟨⟨_|_,rfl,hb⟩,rfl⟩<;>(have Ha:=hide hb;clear hb))
  | (go_at_call 107;(with_reducible refine(number_any e.far _ Hfar.out).mono ?_);rintro e1 w1 ⟨⟨_|_,rfl,hb⟩,rfl⟩<;>(have Hf:=hide hb;clear hb))
  | (go_at_call 108;(with_reducible refine(lexName_any {data:=#[]} _ (by decide) (Htab.out.below (blw_drewN (below_alloc _ _) _))).mono ?_);rintro e1 w1 ⟨⟨_|_,rfl,hb⟩,hB⟩<;>first|(exact absurd (hb.mp (by first|rfl|trivial)) lexName_noTxt)|(have Hn:=hide hb;have HB:=hide (blw_up (blw_drewN (below_alloc _ _) _) hB);obtain⟨hc1,hf1,hz1⟩:=bbox (N:=w.heap.size) hB (by simp);clear hb hB))
  | (go_at_call 108;(with_reducible refine(lexName_any {data:=#[]} _ (by decide) (Htab.out.below HB.out)).mono ?_);rintro e1 w2 ⟨⟨_|_,rfl,hb⟩,hB⟩<;>first|(exact absurd (hb.mp (by first|rfl|trivial)) lexName_noTxt)|(have Hm:=hide hb;have HB2:=hide (blw_up HB.out hB);obtain⟨hc2,hf2,hz2⟩:=bbox (N:=w.heap.size) hB hz1;clear hb hB))
  | (go_at_call 109;(with_reducible refine(part_any (f:=e.old) (Hold.out.below HB2.out) hold.1 hold.2 (Htab.out.below HB2.out)).mono ?_);rintro e1 w3 ⟨⟨_|_,rfl,hb⟩,hB⟩<;>(have Hpo:=hide hb;have HB3:=hide (blw_up HB2.out hB);obtain⟨hc3,hf3,hz3⟩:=bbox (N:=w.heap.size) hB hz2;clear hb hB))
  | (go_at_call 109;(with_reducible refine(part_any (f:=e.old) (Hold.out.below HB.out) hold.1 hold.2 (Htab.out.below HB.out)).mono ?_);rintro e1 w3 ⟨⟨_|_,rfl,hb⟩,hB⟩<;>(have Hpo:=hide hb;have HB3:=hide (blw_up HB.out hB);obtain⟨hc3,hf3,hz3⟩:=bbox (N:=w.heap.size) hB hz1;clear hb hB))
  | (go_at_call 109;(with_reducible refine(part_any (f:=e.new) (Hnew.out.below HB3.out) hnew.1 hnew.2 (Htab.out.below HB3.out)).mono ?_);rintro e1 w4 ⟨⟨_|_,rfl,hb⟩,hB⟩<;>first|(exact absurd (And.intro (Hpo.out.mp (by first|rfl|trivial)) (And.intro (hb.mp (by first|rfl|trivial)) (And.intro (by omega) (by omega)))) Hnot.out)|(have Hpn:=hide hb;have HB4:=hide (blw_up HB3.out hB);obtain⟨hc4,hf4,hz4⟩:=bbox (N:=w.heap.size) hB hz3;clear hb hB)))
 go_quiet (fail)
 go_upto_region 20 with(first
  | (go_at_call 105;(with_reducible refine(hasNumber_any (l:=e.path) (Hpath.out.below (blw_drewN (below_alloc _ _) _))).mono ?_);rintro e1 w1 ⟨⟨_|_,rfl,hb⟩,rfl⟩<;>(have Hp:=hide hb;clear hb))
  | (go_at_call 107;(with_reducible refine(number_any e.at_ _ Hat.out).mono ?_);rintro e1 w1 ⟨⟨_|_,rfl,hb⟩,rfl⟩<;>(have Ha:=hide hb;clear hb))
  | (go_at_call 107;(with_reducible refine(number_any e.far _ Hfar.out).mono ?_);rintro e1 w1 ⟨⟨_|_,rfl,hb⟩,rfl⟩<;>(have Hf:=hide hb;clear hb))
  | (go_at_call 108;(with_reducible refine(lexName_any {data:=#[]} _ (by decide) (Htab.out.below (blw_drewN (below_alloc _ _) _))).mono ?_);rintro e1 w1 ⟨⟨_|_,rfl,hb⟩,hB⟩<;>first|(exact absurd (hb.mp (by first|rfl|trivial)) lexName_noTxt)|(have Hn:=hide hb;have HB:=hide (blw_up (blw_drewN (below_alloc _ _) _) hB);obtain⟨hc1,hf1,hz1⟩:=bbox (N:=w.heap.size) hB (by simp);clear hb hB))
  | (go_at_call 108;(with_reducible refine(lexName_any {data:=#[]} _ (by decide) (Htab.out.below HB.out)).mono ?_);rintro e1 w2 ⟨⟨_|_,rfl,hb⟩,hB⟩<;>first|(exact absurd (hb.mp (by first|rfl|trivial)) lexName_noTxt)|(have Hm:=hide hb;have HB2:=hide (blw_up HB.out hB);obtain⟨hc2,hf2,hz2⟩:=bbox (N:=w.heap.size) hB hz1;clear hb hB))
  | (go_at_call 109;(with_reducible refine(part_any (f:=e.old) (Hold.out.below HB2.out) hold.1 hold.2 (Htab.out.below HB2.out)).mono ?_);rintro e1 w3 ⟨⟨_|_,rfl,hb⟩,hB⟩<;>(have Hpo:=hide hb;have HB3:=hide (blw_up HB2.out hB);obtain⟨hc3,hf3,hz3⟩:=bbox (N:=w.heap.size) hB hz2;clear hb hB))
  | (go_at_call 109;(with_reducible refine(part_any (f:=e.old) (Hold.out.below HB.out) hold.1 hold.2 (Htab.out.below HB.out)).mono ?_);rintro e1 w3 ⟨⟨_|_,rfl,hb⟩,hB⟩<;>(have Hpo:=hide hb;have HB3:=hide (blw_up HB.out hB);obtain⟨hc3,hf3,hz3⟩:=bbox (N:=w.heap.size) hB hz1;clear hb hB))
  | (go_at_call 109;(with_reducible refine(part_any (f:=e.new) (Hnew.out.below HB3.out) hnew.1 hnew.2 (Htab.out.below HB3.out)).mono ?_);rintro e1 w4 ⟨⟨_|_,rfl,hb⟩,hB⟩<;>first|(exact absurd (And.intro (Hpo.out.mp (by first|rfl|trivial)) (And.intro (hb.mp (by first|rfl|trivial)) (And.intro (by omega) (by omega)))) Hnot.out)|(have Hpn:=hide hb;have HB4:=hide (blw_up HB3.out hB);obtain⟨hc4,hf4,hz4⟩:=bbox (N:=w.heap.size) hB hz3;clear hb hB)))
 all_goals(first|go_ret|(go_quiet (fail);go_wp2;go_ret))
 all_goals go_tidy
 all_goals(try have hp:=Hp.out)
 all_goals(try have ha:=Ha.out)
 all_goals(try have hf:=Hf.out)
 all_goals(try have hn:=Hn.out)
 all_goals(try have hm:=Hm.out)
 all_goals(try have hpo:=Hpo.out)
 all_goals(try have hpn:=Hpn.out)
 all_goals refine⟨RetB.mk ?_,(by first|exact below_drewN HB4.out _|exact HB4.out|exact HB3.out|exact HB2.out|exact HB.out|exact blw_drewN (below_alloc _ _) _)⟩
 all_goals clear Htab Hpath Hat Hfar Hold Hnew
 all_goals(try clear Hp)
 all_goals(try clear Ha)
 all_goals(try clear Hf)
 all_goals(try clear Hpn hc4 hf4 HB4 hz4)
 all_goals(try clear Hpo hc3 hf3 HB3 hz3)
 all_goals(try clear Hm hc2 hf2 HB2 hz2)
 all_goals(try clear Hn hc1 hf1 hz1 HB)
 all_goals rw[Hok.out]
 all_goals clear Hok
 all_goals(try have pp:=@part_pos e.old)
 all_goals(try have pq:=@part_pos e.new)
 all_goals have n0:=number0
 all_goals(try have hfe:=Hfe.out)
 all_goals(try have hte:=Hte.out)
 all_goals(try have hnot:=Hnot.out)
 all_goals(try(exfalso;simp only[txt_nil,Bool.false_eq_true,reduceCtorEq]at *;done))
 all_goals(try(exfalso;simp only[txt_full Hfe.out,Bool.true_eq_false,reduceCtorEq]at *;done))
 all_goals grind
end
end Go.Proofs.YtialngdffhmobaaGreatDoor
