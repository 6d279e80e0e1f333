/- Part 28 of what scriptBack_cardUpto rests on. -/
import Derived.BigRegion
import Derived.IntWalk
import Derived.Test.YtjjaojnglnpgaaaGreatDoorY16
import Derived.Test.YtjjaojnglnpgaaaGreatDoorY05
import Derived.Test.YtjjaojnglnpgaaaGreatDoorY14
import Derived.Test.YtjjaojnglnpgaaaGreatDoorY00
set_option linter.unusedVariables false
set_option linter.unusedSimpArgs false
set_option maxHeartbeats 16000000
set_option maxRecDepth 1000000
namespace Go.Proofs.YtjjaojnglnpgaaaGreatDoor
section
open Go.RowKit
theorem Pt.zero_iff{p:Pt}:p=Pt.zero↔p.kind=0∧p.file=ae∧p.text=ae∧p.hunk.at_=0∧p.hunk.old.length+p.hunk.new.length=0∧p.edit.kind=0∧p.edit.at_=0∧p.edit.far=0∧p.edit.frm=ae∧p.edit.to=ae∧p.edit.path.length+p.edit.old.len+p.edit.new.len=0:=by
 obtain⟨k,f,t,⟨ha,ho,hn⟩,⟨ek,ep,ea,ef,er,et,eo,en⟩⟩:=p;simp only[Pt.zero,Hk.zero,Ed.zero,Pt.mk.injEq,Hk.mk.injEq,Ed.mk.injEq,EN];constructor
 ·rintro⟨h1,h2,h3,⟨h4,h5,h6⟩,h7,h8,h9,h10,h11,h12,h13,h14⟩;subst h5 h6 h8;simp_all
 ·rintro⟨h1,h2,h3,h4,h5,h6,h7,h8,h9,h10,h11⟩;exact⟨h1,h2,h3,⟨h4,List.length_eq_zero_iff.1 (by omega),List.length_eq_zero_iff.1 (by omega)⟩,h6,List.length_eq_zero_iff.1 (by omega),h7,h8,h9,h10,by omega,by omega⟩
theorem Yp{s:ByteArray}:s.toList.isEmpty=true↔s=ae:=by
 rw[List.isEmpty_iff];have h:ae.toList=[]:=(lH _).2 (by decide);constructor
 ·intro e;exact dW.1 (e.trans h.symm)
 ·rintro rfl;exact h
theorem wI{p:Pt}(hl1:p.hunk.old.length+p.hunk.new.length≤4611686018427387904)(hl2:p.edit.path.length+p.edit.old.len+p.edit.new.len≤4611686018427387904){g1 g2 g3 g4 g5 g6 g7 g8 g9 g10 g11:Bool}
  (h1:((p.kind:Int) == 0)=g1) (h2:(g1 && p.file.toList.isEmpty)=g2) (h3:(g2 && p.text.toList.isEmpty)=g3) (h4:(g3 && (p.hunk.at_ == 0))=g4)
  (h5:(g4 && (IntKind.i64.wrap ((p.hunk.old.length:Int)+p.hunk.new.length) == 0))=g5) (h6:(g5 && ((p.edit.kind:Int) == 0))=g6) (h7:(g6 && (p.edit.at_ == 0))=g7) (h8:(g7 && (p.edit.far == 0))=g8)
  (h9:(g8 && p.edit.frm.toList.isEmpty)=g9) (h10:(g9 && p.edit.to.toList.isEmpty)=g10) (h11:(g10 && (IntKind.i64.wrap (IntKind.i64.wrap ((p.edit.path.length:Int)+p.edit.old.len)+p.edit.new.len) == 0))=g11):g11=true↔p=Pt.zero:=by
 have hw1:IntKind.i64.wrap ((p.hunk.old.length:Int)+p.hunk.new.length)=(p.hunk.old.length:Int)+p.hunk.new.length:=IntWalk.i64_in _ (by omega);have hw2:IntKind.i64.wrap ((p.edit.path.length:Int)+p.edit.old.len)=(p.edit.path.length:Int)+p.edit.old.len:=IntWalk.i64_in _ (by omega);have hw3:IntKind.i64.wrap ((p.edit.path.length:Int)+p.edit.old.len+p.edit.new.len)=(p.edit.path.length:Int)+p.edit.old.len+p.edit.new.len:=IntWalk.i64_in _ (by omega);have i1:((p.kind:Int)=0)↔p.kind=0:=by omega
 have i2:((p.edit.kind:Int)=0)↔p.edit.kind=0:=by omega
 have i3:((p.hunk.old.length:Int)+p.hunk.new.length=0)↔p.hunk.old.length+p.hunk.new.length=0:=by omega
 have i4:((p.edit.path.length:Int)+p.edit.old.len+p.edit.new.len=0)↔p.edit.path.length+p.edit.old.len+p.edit.new.len=0:=by omega
 rw[hw2,hw3]at h11;rw[hw1]at h5;rw[Pt.zero_iff,←h11,←h10,←h9,←h8,←h7,←h6,←h5,←h4,←h3,←h2,←h1];clear h1 h2 h3 h4 h5 h6 h7 h8 h9 h10 h11 hw1 hw2 hw3 hl1 hl2;simp only[Bool.and_eq_true,beq_iff_eq,Yp,and_assoc,i1,i2,i3,i4]
theorem wJ{w:World}{b o:Nat}{cs:List Value}(h:w.rangeAt b o cs):w.drew.rangeAt b o cs:=h
theorem wK{w:World}{b:Nat}(hb:b=w.heap.size)(cs:List Value)(t:TypeId):(w.alloc (.cells cs.toArray t)).rangeAt b 0 cs:=fun j v hv=>by
 subst hb;rw[Lib.cell_of_heap (heap_alloc_new w _),Nat.zero_add]
 simpa using hv
theorem wL{p:Pt}{x:Ph}(hl1:p.hunk.old.length+p.hunk.new.length≤4611686018427387904)(hl2:p.edit.path.length+p.edit.old.len+p.edit.new.len≤4611686018427387904)(w:World):
  Calls Tryz.prog 43 #[.agg (gQ p x).toArray] w fun e w'=>ag (p=Pt.zero) e∧Below w.heap.size w w':=by
 have HZ:=hide (@Pt.zero_iff p);have hB:=az w (.cells (gQ p x).toArray 43);have HB:=hide hB;clear hB;go_enter Tryz.func43,Tryz.ntmps43
 go_upto_region 1 with fail
 go_cut [3,4] (fun a b wx=>∃h e:Nat,a = .pointer (some ⟨h,0,none⟩)∧b = .pointer (some ⟨e,0,none⟩)∧Below w.heap.size w wx∧wx.rangeAt w.heap.size 0 (gQ p x)∧wx.rangeAt h 0 (((gQ p x).drop 3).take 3)∧wx.rangeAt e 0 ((gQ p x).drop 6))
 case first =>
  go_region
  all_goals go_wp2_with fail
  all_goals go_meet
  all_goals refine⟨_,_,rfl,rfl,((HB.out.alloc HB.out.size _).alloc (aI HB.out.size (by simp)) _).drew,wJ (World.rangeAt_alloc (World.rangeAt_alloc (wK rfl _ _) _) _),?_,?_⟩
  all_goals first
   | exact wJ (World.rangeAt_alloc (wK (by simp) _ _) _)
   | exact wJ (wK (by simp) _ _)
 case rest =>
 obtain⟨h3,h4,rfl,rfl,hB,hr,Ky,hre⟩:=hcut;have HB2:=hide hB;clear hB HB;have c0:=hr 0 _ rfl;have c1:=hr 1 _ rfl;have c2:=hr 2 _ rfl;have h10:=Ky 0 _ rfl;have h11:=Ky 1 _ rfl;have h12:=Ky 2 _ rfl;have e0:=hre 0 _ rfl;have e1:=hre 1 _ rfl;have e2:=hre 2 _ rfl;have e3:=hre 3 _ rfl;have e4:=hre 4 _ rfl;have e5:=hre 5 _ rfl;have e6:=hre 6 _ rfl;have e7:=hre 7 _ rfl;simp only[Nat.zero_add]at c0 c1 c2 h10 h11 h12 e0 e1 e2 e3 e4 e5 e6 e7;clear hr Ky hre
 go_upto_region 2 with fail
 refine wp_region_list ?_;simp only[List.append_eq,List.cons_append,List.nil_append];refine sk ?_;refine sk ?_;refine sk ?_;refine sk ?_;generalize hg1:((p.kind:Int) == 0)=g1;have Yq:=hide hg1;clear hg1;refine sg (b:=g1) ?_ (hw:=by cases g1<;>rfl);refine sg (b:=g1) ?_ (hw:=by cases g1<;>rfl);refine sg (b:=g1) ?_ (hw:=by cases g1<;>rfl);refine sp (g:=g1) ?_;generalize hg2:(g1 && _)=g2;have HG2:=hide hg2;clear hg2;refine sk ?_;refine sg (b:=g2) ?_ (hw:=by cases g2<;>rfl);refine sg (b:=g2) ?_ (hw:=by cases g2<;>rfl);refine sg (b:=g2) ?_ (hw:=by cases g2<;>rfl);refine sp (g:=g2) ?_;generalize hg3:(g2 && _)=g3;have GN:=hide hg3;clear hg3;refine sk ?_;refine sg (b:=g3) ?_ (hw:=by cases g3<;>rfl);refine sg (b:=g3) ?_ (hw:=by cases g3<;>rfl);refine sg (b:=g3) ?_ (hw:=by cases g3<;>rfl);refine sp (g:=g3) ?_;generalize hg4:(g3 && _)=g4;have J9:=hide hg4;clear hg4;refine sk ?_;refine sg (b:=g4) ?_ (hw:=by cases g4<;>rfl);refine sg (b:=g4) ?_ (hw:=by cases g4<;>rfl);refine sg (b:=g4) ?_ (hw:=by cases g4<;>rfl);refine sg (b:=g4) ?_ (hw:=by cases g4<;>rfl);refine sg (b:=g4) ?_ (hw:=by cases g4<;>rfl);refine sg (b:=g4) ?_ (hw:=by cases g4<;>rfl);refine sg (b:=g4) ?_ (hw:=by cases g4<;>rfl);refine sg (b:=g4) ?_ (hw:=by cases g4<;>rfl);refine sp (g:=g4) ?_;generalize hg5:(g4 && _)=g5;have Yr:=hide hg5;clear hg5;refine sk ?_;refine sg (b:=g5) ?_ (hw:=by cases g5<;>rfl);refine sg (b:=g5) ?_ (hw:=by cases g5<;>rfl);refine sg (b:=g5) ?_ (hw:=by cases g5<;>rfl);refine sp (g:=g5) ?_;generalize TV:(g5 && _)=g6;have Yt:=hide TV;clear TV;refine sk ?_;refine sg (b:=g6) ?_ (hw:=by cases g6<;>rfl);refine sg (b:=g6) ?_ (hw:=by cases g6<;>rfl);refine sg (b:=g6) ?_ (hw:=by cases g6<;>rfl);refine sp (g:=g6) ?_;generalize TW:(g6 && _)=g7;have Yu:=hide TW;clear TW;refine sk ?_;refine sg (b:=g7) ?_ (hw:=by cases g7<;>rfl);refine sg (b:=g7) ?_ (hw:=by cases g7<;>rfl);refine sg (b:=g7) ?_ (hw:=by cases g7<;>rfl);refine sp (g:=g7) ?_;generalize TY:(g7 && _)=g8;have Yv:=hide TY;clear TY;refine sk ?_;refine sg (b:=g8) ?_ (hw:=by cases g8<;>rfl);refine sg (b:=g8) ?_ (hw:=by cases g8<;>rfl);refine sg (b:=g8) ?_ (hw:=by cases g8<;>rfl);refine sp (g:=g8) ?_;generalize TZ:(g8 && _)=g9;have Yw:=hide TZ;clear TZ;refine sk ?_;refine sg (b:=g9) ?_ (hw:=by cases g9<;>rfl);refine sg (b:=g9) ?_ (hw:=by cases g9<;>rfl);refine sg (b:=g9) ?_ (hw:=by cases g9<;>rfl);refine sp (g:=g9) ?_;generalize ru:(g9 && _)=g10;have Oy:=hide ru;clear ru;refine sk ?_;refine sg (b:=g10) ?_ (hw:=by cases g10<;>rfl);refine sg (b:=g10) ?_ (hw:=by cases g10<;>rfl);refine sg (b:=g10) ?_ (hw:=by cases g10<;>rfl);refine sg (b:=g10) ?_ (hw:=by cases g10<;>rfl);refine sg (b:=g10) ?_ (hw:=by cases g10<;>rfl);refine sg (b:=g10) ?_ (hw:=by cases g10<;>rfl);refine sg (b:=g10) ?_ (hw:=by cases g10<;>rfl);refine sg (b:=g10) ?_ (hw:=by cases g10<;>rfl);refine sg (b:=g10) ?_ (hw:=by cases g10<;>rfl);refine sg (b:=g10) ?_ (hw:=by cases g10<;>rfl);refine sg (b:=g10) ?_ (hw:=by cases g10<;>rfl);refine sg (b:=g10) ?_ (hw:=by cases g10<;>rfl);refine sp (g:=g10) ?_;generalize H6:(g10 && _)=g11;have Oz:=hide H6;clear H6;refine sk ?_;refine wpList_nil ?_;rename_i hK;refine hK _ _ ?_;clear hK;refine wp_ret ?_;go_ret;refine⟨ag.mk ?_,HB2.out⟩;exact wI hl1 hl2 Yq.out HG2.out GN.out J9.out Yr.out Yt.out Yu.out Yv.out Yw.out Oy.out Oz.out
theorem ry{S:Nat→Prop}{x:Eh}{e:Ed}{w:World}(he:dD S w x e)(htab:ax w)(hsum:e.frm.size+e.to.size≤9223372036854775807):
  Calls Tryz.prog 173 #[.agg #[.int .u8 1,.slice x.pA e.path.length x.pc,.int .i64 e.at_,.int .i64 e.far,.string e.frm,.string e.to,.slice x.oA e.old.len x.oc,.slice x.nA e.new.len x.nc]] w fun e1 w'=>ag (eY {e with kind:=1}) e1∧Below w.heap.size w w':=by
 have ai:Hid (ax w):=htab;have bK:=hide he.path;have iH:=hide he.at_;have dP:=hide he.far;have iJ:=he.frm;have hto:=he.to;have bT:=hide he.old;have dQ:=hide he.new;have hold:=he.oc;have hnew:=he.nc;have fU:=hide (@XO e);clear he htab;go_enter Tryz.func173,Tryz.ntmps173
 go_wp2_with(first
  | (go_at_call 216;(with_reducible refine(pJ (l:=e.path) (bK.out.below (bW (az _ _) _))).mono ?_);rintro e1 w1 ⟨⟨_|_,rfl,hb⟩,rfl⟩<;>(have Hp:=hide hb;clear hb))
  | (go_at_call 218;(with_reducible refine(jc e.at_ _ iH.out).mono ?_);rintro e1 w1 ⟨⟨_|_,rfl,hb⟩,rfl⟩<;>(have Ha:=hide hb;clear hb))
  | (go_at_call 218;(with_reducible refine(jc e.far _ dP.out).mono ?_);rintro e1 w1 ⟨⟨_|_,rfl,hb⟩,rfl⟩<;>(have Hf:=hide hb;clear hb))
  | (go_at_call 219;(with_reducible refine(iZ e.frm _ iJ (ai.out.below (bW (az _ _) _))).mono ?_);rintro e1 w1 ⟨⟨_|_,rfl,hb⟩,hB⟩<;>(have Hn:=hide hb;have HB:=hide (aZ (bW (az _ _) _) hB);obtain⟨hc1,hf1,hz1⟩:=aO (N:=w.heap.size) hB (by simp);clear hb hB))
  | (go_at_call 219;(with_reducible refine(iZ e.to _ hto (ai.out.below HB.out)).mono ?_);rintro e1 w2 ⟨⟨_|_,rfl,hb⟩,hB⟩<;>(have Hm:=hide hb;have HB2:=hide (aZ HB.out hB);obtain⟨hc2,hf2,hz2⟩:=aO (N:=w.heap.size) hB hz1;clear hb hB))
  | (go_at_call 220;(with_reducible refine(gY (f:=e.old) (bT.out.below HB2.out) hold.1 hold.2 (ai.out.below HB2.out)).mono ?_);rintro e1 w3 ⟨⟨_|_,rfl,hb⟩,hB⟩<;>(have gq:=hide hb;have HB3:=hide (aZ HB2.out hB);obtain⟨hc3,hf3,hz3⟩:=aO (N:=w.heap.size) hB hz2;clear hb hB))
  | (go_at_call 220;(with_reducible refine(gY (f:=e.old) (bT.out.below HB.out) hold.1 hold.2 (ai.out.below HB.out)).mono ?_);rintro e1 w3 ⟨⟨_|_,rfl,hb⟩,hB⟩<;>(have gq:=hide hb;have HB3:=hide (aZ HB.out hB);obtain⟨hc3,hf3,hz3⟩:=aO (N:=w.heap.size) hB hz1;clear hb hB))
  | (go_at_call 220;(with_reducible refine(gY (f:=e.new) (dQ.out.below HB3.out) hnew.1 hnew.2 (ai.out.below HB3.out)).mono ?_);rintro e1 w4 ⟨⟨_|_,rfl,hb⟩,hB⟩<;>(have jP:=hide hb;have HB4:=hide (aZ HB3.out hB);obtain⟨hc4,hf4,jH⟩:=aO (N:=w.heap.size) hB hz3;clear hb hB)))
 go_quiet (fail)
 go_upto_region 20 with(first
  | (go_at_call 216;(with_reducible refine(pJ (l:=e.path) (bK.out.below (bW (az _ _) _))).mono ?_);rintro e1 w1 ⟨⟨_|_,rfl,hb⟩,rfl⟩<;>(have Hp:=hide hb;clear hb))
  | (go_at_call 218;(with_reducible refine(jc e.at_ _ iH.out).mono ?_);rintro e1 w1 ⟨⟨_|_,rfl,hb⟩,rfl⟩<;>(have Ha:=hide hb;clear hb))
  | (go_at_call 218;(with_reducible refine(jc e.far _ dP.out).mono ?_);rintro e1 w1 ⟨⟨_|_,rfl,hb⟩,rfl⟩<;>(have Hf:=hide hb;clear hb))
  | (go_at_call 219;(with_reducible refine(iZ e.frm _ iJ (ai.out.below (bW (az _ _) _))).mono ?_);rintro e1 w1 ⟨⟨_|_,rfl,hb⟩,hB⟩<;>(have Hn:=hide hb;have HB:=hide (aZ (bW (az _ _) _) hB);obtain⟨hc1,hf1,hz1⟩:=aO (N:=w.heap.size) hB (by simp);clear hb hB))
  | (go_at_call 219;(with_reducible refine(iZ e.to _ hto (ai.out.below HB.out)).mono ?_);rintro e1 w2 ⟨⟨_|_,rfl,hb⟩,hB⟩<;>(have Hm:=hide hb;have HB2:=hide (aZ HB.out hB);obtain⟨hc2,hf2,hz2⟩:=aO (N:=w.heap.size) hB hz1;clear hb hB))
  | (go_at_call 220;(with_reducible refine(gY (f:=e.old) (bT.out.below HB2.out) hold.1 hold.2 (ai.out.below HB2.out)).mono ?_);rintro e1 w3 ⟨⟨_|_,rfl,hb⟩,hB⟩<;>(have gq:=hide hb;have HB3:=hide (aZ HB2.out hB);obtain⟨hc3,hf3,hz3⟩:=aO (N:=w.heap.size) hB hz2;clear hb hB))
  | (go_at_call 220;(with_reducible refine(gY (f:=e.old) (bT.out.below HB.out) hold.1 hold.2 (ai.out.below HB.out)).mono ?_);rintro e1 w3 ⟨⟨_|_,rfl,hb⟩,hB⟩<;>(have gq:=hide hb;have HB3:=hide (aZ HB.out hB);obtain⟨hc3,hf3,hz3⟩:=aO (N:=w.heap.size) hB hz1;clear hb hB))
  | (go_at_call 220;(with_reducible refine(gY (f:=e.new) (dQ.out.below HB3.out) hnew.1 hnew.2 (ai.out.below HB3.out)).mono ?_);rintro e1 w4 ⟨⟨_|_,rfl,hb⟩,hB⟩<;>(have jP:=hide hb;have HB4:=hide (aZ HB3.out hB);obtain⟨hc4,hf4,jH⟩:=aO (N:=w.heap.size) hB hz3;clear hb hB)))
 all_goals(first|go_ret|(go_quiet (fail);go_wp2;go_ret))
 all_goals go_tidy
 all_goals(try have hp:=Hp.out)
 all_goals(try have ha:=Ha.out)
 all_goals(try have hf:=Hf.out)
 all_goals(try have hn:=Hn.out)
 all_goals(try have hm:=Hm.out)
 all_goals(try have hpo:=gq.out)
 all_goals(try have hpn:=jP.out)
 all_goals refine⟨ag.mk ?_,(by first|exact Ak HB4.out _|exact HB4.out|exact HB3.out|exact HB2.out|exact HB.out|exact bW (az _ _) _)⟩
 all_goals clear ai bK iH dP bT dQ
 all_goals(try clear Hp)
 all_goals(try clear Ha)
 all_goals(try clear Hf)
 all_goals(try clear jP hc4 hf4 HB4 jH)
 all_goals(try clear gq hc3 hf3 HB3 hz3)
 all_goals(try clear Hm hc2 hf2 HB2 hz2)
 all_goals(try clear Hn hc1 hf1 hz1 HB)
 all_goals rw[fU.out]
 all_goals clear fU
 all_goals(try have pp:=@sQ e.old)
 all_goals(try have pq:=@sQ e.new)
 all_goals have n0:=Du
 all_goals(try have hfe:=mF.out)
 all_goals(try have hte:=Hte.out)
 all_goals(try have hnot:=lU.out)
 all_goals(try(exfalso;simp only[yg,Bool.false_eq_true,reduceCtorEq]at *;done))
 all_goals(try(exfalso;simp only[Bo mF.out,Bool.true_eq_false,reduceCtorEq]at *;done))
 all_goals grind
end
end Go.Proofs.YtjjaojnglnpgaaaGreatDoor
