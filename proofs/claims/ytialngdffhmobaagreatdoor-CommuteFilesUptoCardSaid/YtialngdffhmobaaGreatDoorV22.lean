/- Part 23 of what commuteFiles_cardUpto rests on. -/
import Derived.Test.YtialngdffhmobaaGreatDoorV11
import Derived.Test.YtialngdffhmobaaGreatDoorV00
set_option linter.unusedVariables false
set_option linter.unusedSimpArgs false
set_option maxHeartbeats 16000000
set_option maxRecDepth 1000000
namespace Go.Proofs.YtialngdffhmobaaGreatDoor
section
open Go.RowKit
theorem ET{k:Int}{K:Nat}(hk:k=2∧K=2∨k=3∧K=3∨k=5∧K=5){S:Nat→Prop}{x:Eh}{e:Ed}{w:World}(he:gq S w x e)(htab:aW w)(hsum:e.frm.size+e.to.size≤9223372036854775807)(hfe:e.frm=aV)(hte:e.to=aV):
  Calls Tryz.prog 36 #[.agg #[.int .u8 k,.slice x.pA e.path.length x.pc,.int .i64 e.at_,.int .i64 e.far,.string {data:=#[]},.string {data:=#[]},.slice x.oA e.old.len x.oc,.slice x.nA e.new.len x.nc]] w fun e1 w'=>ay (bQ {e with kind:=K}) e1∧Below w.heap.size w w':=by
 have aS:Hid (aW w):=htab;have dm:=hide he.path;have jO:=hide he.at_;have fH:=hide he.far;have jA:=he.frm;have hto:=he.to;have dn:=hide he.old;have fJ:=hide he.new;have hold:=he.oc;have hnew:=he.nc;have fQ:=hide (@IA e);have sK:=hide (@IB e);have sN:=hide (@IC e);have ny:=hide hfe;have Hte:=hide hte;clear hfe hte jA hto hsum;have hE:(!(({data:=#[]}:ByteArray)++({data:=#[]}:ByteArray)).toList.isEmpty)=false:=uJ;clear he htab;rcases hk with⟨rfl,rfl⟩|⟨rfl,rfl⟩|⟨rfl,rfl⟩<;>(
  go_enter Tryz.func36,Tryz.ntmps36
  go_wp2_with(first
   | (go_at_call 105;(with_reducible refine(oQ (l:=e.path) (dm.out.below (dM (bg _ _) _))).mono ?_);rintro e1 w1 ⟨⟨_|_,rfl,hb⟩,rfl⟩<;>(have Hp:=hide hb;clear hb))
   | (go_at_call 107;(with_reducible refine(jy e.at_ _ jO.out).mono ?_);rintro e1 w1 ⟨⟨_|_,rfl,hb⟩,rfl⟩<;>(have Ha:=hide hb;clear hb))
   | (go_at_call 107;(with_reducible refine(jy e.far _ fH.out).mono ?_);rintro e1 w1 ⟨⟨_|_,rfl,hb⟩,rfl⟩<;>(have Hf:=hide hb;clear hb))
   | (go_at_call 108;(with_reducible refine(jw {data:=#[]} _ (by decide) (aS.out.below (dM (bg _ _) _))).mono ?_);rintro e1 w1 ⟨⟨_|_,rfl,hb⟩,hB⟩<;>first|(exact absurd (hb.mp (by first|rfl|trivial)) zap)|(have Hn:=hide hb;have HB:=hide (aQ (dM (bg _ _) _) hB);obtain⟨hc1,hf1,hz1⟩:=aY (N:=w.heap.size) hB (by simp);clear hb hB))
   | (go_at_call 108;(with_reducible refine(jw {data:=#[]} _ (by decide) (aS.out.below HB.out)).mono ?_);rintro e1 w2 ⟨⟨_|_,rfl,hb⟩,hB⟩<;>first|(exact absurd (hb.mp (by first|rfl|trivial)) zap)|(have Hm:=hide hb;have HB2:=hide (aQ HB.out hB);obtain⟨hc2,hf2,hz2⟩:=aY (N:=w.heap.size) hB hz1;clear hb hB))
   | (go_at_call 109;(with_reducible refine(iE (f:=e.old) (dn.out.below HB2.out) hold.1 hold.2 (aS.out.below HB2.out)).mono ?_);rintro e1 w3 ⟨⟨_|_,rfl,hb⟩,hB⟩<;>(have gZ:=hide hb;have HB3:=hide (aQ HB2.out hB);obtain⟨hc3,hf3,hz3⟩:=aY (N:=w.heap.size) hB hz2;clear hb hB))
   | (go_at_call 109;(with_reducible refine(iE (f:=e.old) (dn.out.below HB.out) hold.1 hold.2 (aS.out.below HB.out)).mono ?_);rintro e1 w3 ⟨⟨_|_,rfl,hb⟩,hB⟩<;>(have gZ:=hide hb;have HB3:=hide (aQ HB.out hB);obtain⟨hc3,hf3,hz3⟩:=aY (N:=w.heap.size) hB hz1;clear hb hB))
   | (go_at_call 109;(with_reducible refine(iE (f:=e.new) (fJ.out.below HB3.out) hnew.1 hnew.2 (aS.out.below HB3.out)).mono ?_);rintro e1 w4 ⟨⟨_|_,rfl,hb⟩,hB⟩<;>(have kz:=hide hb;have HB4:=hide (aQ HB3.out hB);obtain⟨hc4,hf4,lI⟩:=aY (N:=w.heap.size) hB hz3;clear hb hB)))
  go_quiet (fail)
  go_upto_region 20 with(first
   | (go_at_call 105;(with_reducible refine(oQ (l:=e.path) (dm.out.below (dM (bg _ _) _))).mono ?_);rintro e1 w1 ⟨⟨_|_,rfl,hb⟩,rfl⟩<;>(have Hp:=hide hb;clear hb))
   | (go_at_call 107;(with_reducible refine(jy e.at_ _ jO.out).mono ?_);rintro e1 w1 ⟨⟨_|_,rfl,hb⟩,rfl⟩<;>(have Ha:=hide hb;clear hb))
   | (go_at_call 107;(with_reducible refine(jy e.far _ fH.out).mono ?_);rintro e1 w1 ⟨⟨_|_,rfl,hb⟩,rfl⟩<;>(have Hf:=hide hb;clear hb))
   | (go_at_call 108;(with_reducible refine(jw {data:=#[]} _ (by decide) (aS.out.below (dM (bg _ _) _))).mono ?_);rintro e1 w1 ⟨⟨_|_,rfl,hb⟩,hB⟩<;>first|(exact absurd (hb.mp (by first|rfl|trivial)) zap)|(have Hn:=hide hb;have HB:=hide (aQ (dM (bg _ _) _) hB);obtain⟨hc1,hf1,hz1⟩:=aY (N:=w.heap.size) hB (by simp);clear hb hB))
   | (go_at_call 108;(with_reducible refine(jw {data:=#[]} _ (by decide) (aS.out.below HB.out)).mono ?_);rintro e1 w2 ⟨⟨_|_,rfl,hb⟩,hB⟩<;>first|(exact absurd (hb.mp (by first|rfl|trivial)) zap)|(have Hm:=hide hb;have HB2:=hide (aQ HB.out hB);obtain⟨hc2,hf2,hz2⟩:=aY (N:=w.heap.size) hB hz1;clear hb hB))
   | (go_at_call 109;(with_reducible refine(iE (f:=e.old) (dn.out.below HB2.out) hold.1 hold.2 (aS.out.below HB2.out)).mono ?_);rintro e1 w3 ⟨⟨_|_,rfl,hb⟩,hB⟩<;>(have gZ:=hide hb;have HB3:=hide (aQ HB2.out hB);obtain⟨hc3,hf3,hz3⟩:=aY (N:=w.heap.size) hB hz2;clear hb hB))
   | (go_at_call 109;(with_reducible refine(iE (f:=e.old) (dn.out.below HB.out) hold.1 hold.2 (aS.out.below HB.out)).mono ?_);rintro e1 w3 ⟨⟨_|_,rfl,hb⟩,hB⟩<;>(have gZ:=hide hb;have HB3:=hide (aQ HB.out hB);obtain⟨hc3,hf3,hz3⟩:=aY (N:=w.heap.size) hB hz1;clear hb hB))
   | (go_at_call 109;(with_reducible refine(iE (f:=e.new) (fJ.out.below HB3.out) hnew.1 hnew.2 (aS.out.below HB3.out)).mono ?_);rintro e1 w4 ⟨⟨_|_,rfl,hb⟩,hB⟩<;>(have kz:=hide hb;have HB4:=hide (aQ HB3.out hB);obtain⟨hc4,hf4,lI⟩:=aY (N:=w.heap.size) hB hz3;clear hb hB))))
 all_goals(first|go_ret|(go_quiet (fail);go_wp2;go_ret))
 all_goals go_tidy
 all_goals(try have hp:=Hp.out)
 all_goals(try have ha:=Ha.out)
 all_goals(try have hf:=Hf.out)
 all_goals(try have hn:=Hn.out)
 all_goals(try have hm:=Hm.out)
 all_goals(try have hpo:=gZ.out)
 all_goals(try have hpn:=kz.out)
 all_goals refine⟨ay.mk ?_,(by first|exact qX HB4.out _|exact HB4.out|exact HB3.out|exact HB2.out|exact HB.out|exact dM (bg _ _) _)⟩
 all_goals clear aS dm jO fH dn fJ
 all_goals(try clear Hp)
 all_goals(try clear Ha)
 all_goals(try clear Hf)
 all_goals(try clear kz hc4 hf4 HB4 lI)
 all_goals(try clear gZ hc3 hf3 HB3 hz3)
 all_goals(try clear Hm hc2 hf2 HB2 hz2)
 all_goals(try clear Hn hc1 hf1 hz1 HB)
 all_goals first|rw[fQ.out]|rw[sK.out]|rw[sN.out]
 all_goals clear fQ sK sN
 all_goals(try have pp:=@qQ e.old)
 all_goals(try have pq:=@qQ e.new)
 all_goals have n0:=yh
 all_goals(try have hfe:=ny.out)
 all_goals(try have hte:=Hte.out)
 all_goals(try have hnot:=mY.out)
 all_goals(try(exfalso;simp only[uJ,Bool.false_eq_true,reduceCtorEq]at *;done))
 all_goals(try(exfalso;simp only[wX ny.out,Bool.true_eq_false,reduceCtorEq]at *;done))
 all_goals grind
theorem Dx{k:Int}{K:Nat}(hk:k=2∧K=2∨k=3∧K=3∨k=5∧K=5∨k=4∧K=4){S:Nat→Prop}{x:Eh}{e:Ed}{w:World}(he:gq S w x e)(htab:aW w)(hsum:e.frm.size+e.to.size≤9223372036854775807)(hfe :¬(e.frm=aV∧e.to=aV)):
  Calls Tryz.prog 36 #[.agg #[.int .u8 k,.slice x.pA e.path.length x.pc,.int .i64 e.at_,.int .i64 e.far,.string e.frm,.string e.to,.slice x.oA e.old.len x.oc,.slice x.nA e.new.len x.nc]] w fun e1 w'=>ay (bQ {e with kind:=K}) e1∧Below w.heap.size w w':=by
 have aS:Hid (aW w):=htab;have dm:=hide he.path;have jO:=hide he.at_;have fH:=hide he.far;have jA:=he.frm;have hto:=he.to;have dn:=hide he.old;have fJ:=hide he.new;have hold:=he.oc;have hnew:=he.nc;have fQ:=hide (@IA e);have sK:=hide (@IB e);have sN:=hide (@IC e);have Be:=hide (@EC e);have ny:=hide hfe;have hE:=wX hfe;clear hfe;clear he htab;rcases hk with⟨rfl,rfl⟩|⟨rfl,rfl⟩|⟨rfl,rfl⟩|⟨rfl,rfl⟩<;>(
  go_enter Tryz.func36,Tryz.ntmps36
  go_wp2_with(first
   | (go_at_call 105;(with_reducible refine(oQ (l:=e.path) (dm.out.below (dM (bg _ _) _))).mono ?_);rintro e1 w1 ⟨⟨_|_,rfl,hb⟩,rfl⟩<;>(have Hp:=hide hb;clear hb))
   | (go_at_call 107;(with_reducible refine(jy e.at_ _ jO.out).mono ?_);rintro e1 w1 ⟨⟨_|_,rfl,hb⟩,rfl⟩<;>(have Ha:=hide hb;clear hb))
   | (go_at_call 107;(with_reducible refine(jy e.far _ fH.out).mono ?_);rintro e1 w1 ⟨⟨_|_,rfl,hb⟩,rfl⟩<;>(have Hf:=hide hb;clear hb))
   | (go_at_call 108;(with_reducible refine(jw e.frm _ jA (aS.out.below (dM (bg _ _) _))).mono ?_);rintro e1 w1 ⟨⟨_|_,rfl,hb⟩,hB⟩<;>(have Hn:=hide hb;have HB:=hide (aQ (dM (bg _ _) _) hB);obtain⟨hc1,hf1,hz1⟩:=aY (N:=w.heap.size) hB (by simp);clear hb hB))
   | (go_at_call 108;(with_reducible refine(jw e.to _ hto (aS.out.below HB.out)).mono ?_);rintro e1 w2 ⟨⟨_|_,rfl,hb⟩,hB⟩<;>(have Hm:=hide hb;have HB2:=hide (aQ HB.out hB);obtain⟨hc2,hf2,hz2⟩:=aY (N:=w.heap.size) hB hz1;clear hb hB))
   | (go_at_call 109;(with_reducible refine(iE (f:=e.old) (dn.out.below HB2.out) hold.1 hold.2 (aS.out.below HB2.out)).mono ?_);rintro e1 w3 ⟨⟨_|_,rfl,hb⟩,hB⟩<;>(have gZ:=hide hb;have HB3:=hide (aQ HB2.out hB);obtain⟨hc3,hf3,hz3⟩:=aY (N:=w.heap.size) hB hz2;clear hb hB))
   | (go_at_call 109;(with_reducible refine(iE (f:=e.old) (dn.out.below HB.out) hold.1 hold.2 (aS.out.below HB.out)).mono ?_);rintro e1 w3 ⟨⟨_|_,rfl,hb⟩,hB⟩<;>(have gZ:=hide hb;have HB3:=hide (aQ HB.out hB);obtain⟨hc3,hf3,hz3⟩:=aY (N:=w.heap.size) hB hz1;clear hb hB))
   | (go_at_call 109;(with_reducible refine(iE (f:=e.new) (fJ.out.below HB3.out) hnew.1 hnew.2 (aS.out.below HB3.out)).mono ?_);rintro e1 w4 ⟨⟨_|_,rfl,hb⟩,hB⟩<;>(have kz:=hide hb;have HB4:=hide (aQ HB3.out hB);obtain⟨hc4,hf4,lI⟩:=aY (N:=w.heap.size) hB hz3;clear hb hB)))
  go_quiet (fail)
  go_upto_region 20 with(first
   | (go_at_call 105;(with_reducible refine(oQ (l:=e.path) (dm.out.below (dM (bg _ _) _))).mono ?_);rintro e1 w1 ⟨⟨_|_,rfl,hb⟩,rfl⟩<;>(have Hp:=hide hb;clear hb))
   | (go_at_call 107;(with_reducible refine(jy e.at_ _ jO.out).mono ?_);rintro e1 w1 ⟨⟨_|_,rfl,hb⟩,rfl⟩<;>(have Ha:=hide hb;clear hb))
   | (go_at_call 107;(with_reducible refine(jy e.far _ fH.out).mono ?_);rintro e1 w1 ⟨⟨_|_,rfl,hb⟩,rfl⟩<;>(have Hf:=hide hb;clear hb))
   | (go_at_call 108;(with_reducible refine(jw e.frm _ jA (aS.out.below (dM (bg _ _) _))).mono ?_);rintro e1 w1 ⟨⟨_|_,rfl,hb⟩,hB⟩<;>(have Hn:=hide hb;have HB:=hide (aQ (dM (bg _ _) _) hB);obtain⟨hc1,hf1,hz1⟩:=aY (N:=w.heap.size) hB (by simp);clear hb hB))
   | (go_at_call 108;(with_reducible refine(jw e.to _ hto (aS.out.below HB.out)).mono ?_);rintro e1 w2 ⟨⟨_|_,rfl,hb⟩,hB⟩<;>(have Hm:=hide hb;have HB2:=hide (aQ HB.out hB);obtain⟨hc2,hf2,hz2⟩:=aY (N:=w.heap.size) hB hz1;clear hb hB))
   | (go_at_call 109;(with_reducible refine(iE (f:=e.old) (dn.out.below HB2.out) hold.1 hold.2 (aS.out.below HB2.out)).mono ?_);rintro e1 w3 ⟨⟨_|_,rfl,hb⟩,hB⟩<;>(have gZ:=hide hb;have HB3:=hide (aQ HB2.out hB);obtain⟨hc3,hf3,hz3⟩:=aY (N:=w.heap.size) hB hz2;clear hb hB))
   | (go_at_call 109;(with_reducible refine(iE (f:=e.old) (dn.out.below HB.out) hold.1 hold.2 (aS.out.below HB.out)).mono ?_);rintro e1 w3 ⟨⟨_|_,rfl,hb⟩,hB⟩<;>(have gZ:=hide hb;have HB3:=hide (aQ HB.out hB);obtain⟨hc3,hf3,hz3⟩:=aY (N:=w.heap.size) hB hz1;clear hb hB))
   | (go_at_call 109;(with_reducible refine(iE (f:=e.new) (fJ.out.below HB3.out) hnew.1 hnew.2 (aS.out.below HB3.out)).mono ?_);rintro e1 w4 ⟨⟨_|_,rfl,hb⟩,hB⟩<;>(have kz:=hide hb;have HB4:=hide (aQ HB3.out hB);obtain⟨hc4,hf4,lI⟩:=aY (N:=w.heap.size) hB hz3;clear hb hB))))
 all_goals(try(exfalso;exact Bool.noConfusion ((‹(!(e.frm.toList == e.to.toList))=true›).symm.trans ‹(!(e.frm.toList == e.to.toList))=false›)))
 all_goals(first|go_ret|(go_quiet (fail);go_wp2;go_ret))
 all_goals go_tidy
 all_goals(try have hp:=Hp.out)
 all_goals(try have ha:=Ha.out)
 all_goals(try have hf:=Hf.out)
 all_goals(try have hn:=Hn.out)
 all_goals(try have hm:=Hm.out)
 all_goals(try have hpo:=gZ.out)
 all_goals(try have hpn:=kz.out)
 all_goals refine⟨ay.mk ?_,(by first|exact qX HB4.out _|exact HB4.out|exact HB3.out|exact HB2.out|exact HB.out|exact dM (bg _ _) _)⟩
 all_goals clear aS dm jO fH dn fJ
 all_goals(try clear Hp)
 all_goals(try clear Ha)
 all_goals(try clear Hf)
 all_goals(try clear kz hc4 hf4 HB4 lI)
 all_goals(try clear gZ hc3 hf3 HB3 hz3)
 all_goals(try clear Hm hc2 hf2 HB2 hz2)
 all_goals(try clear Hn hc1 hf1 hz1 HB)
 all_goals first|rw[fQ.out]|rw[sK.out]|rw[sN.out]|rw[Be.out]
 all_goals clear fQ sK sN Be
 all_goals(try have pp:=@qQ e.old)
 all_goals(try have pq:=@qQ e.new)
 all_goals have n0:=yh
 all_goals(try have hfe:=ny.out)
 all_goals(try have hte:=Hte.out)
 all_goals(try have hnot:=mY.out)
 all_goals(try(exfalso;simp only[uJ,Bool.false_eq_true,reduceCtorEq]at *;done))
 all_goals(try(exfalso;simp only[wX ny.out,Bool.true_eq_false,reduceCtorEq]at *;done))
 all_goals grind
end
end Go.Proofs.YtialngdffhmobaaGreatDoor
