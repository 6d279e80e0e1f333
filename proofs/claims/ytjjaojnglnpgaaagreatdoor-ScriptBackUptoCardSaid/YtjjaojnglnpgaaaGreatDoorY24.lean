/- Part 25 of what scriptBack_cardUpto rests on. -/
import Derived.Test.YtjjaojnglnpgaaaGreatDoorY14
import Derived.Test.YtjjaojnglnpgaaaGreatDoorY00
set_option linter.unusedVariables false
set_option linter.unusedSimpArgs false
set_option maxHeartbeats 16000000
set_option maxRecDepth 1000000
namespace Go.Proofs.YtjjaojnglnpgaaaGreatDoor
section
open Go.RowKit
theorem Ox{k:Int}{K:Nat}(hk:k=2∧K=2∨k=3∧K=3∨k=5∧K=5){S:Nat→Prop}{x:Eh}{e:Ed}{w:World}(he:dD S w x e)(htab:ax w)(hsum:e.frm.size+e.to.size≤9223372036854775807)(hfe:e.frm=ae)(hte:e.to=ae):
  Calls Tryz.prog 173 #[.agg #[.int .u8 k,.slice x.pA e.path.length x.pc,.int .i64 e.at_,.int .i64 e.far,.string {data:=#[]},.string {data:=#[]},.slice x.oA e.old.len x.oc,.slice x.nA e.new.len x.nc]] w fun e1 w'=>ag (eY {e with kind:=K}) e1∧Below w.heap.size w w':=by
 have ai:Hid (ax w):=htab;have bK:=hide he.path;have iH:=hide he.at_;have dP:=hide he.far;have iJ:=he.frm;have hto:=he.to;have bT:=hide he.old;have dQ:=hide he.new;have hold:=he.oc;have hnew:=he.nc;have fU:=hide (@Tj e);have wG:=hide (@Tm e);have wH:=hide (@Tn e);have mF:=hide hfe;have Hte:=hide hte;clear hfe hte iJ hto hsum;have hE:(!(({data:=#[]}:ByteArray)++({data:=#[]}:ByteArray)).toList.isEmpty)=false:=yg;clear he htab;rcases hk with⟨rfl,rfl⟩|⟨rfl,rfl⟩|⟨rfl,rfl⟩<;>(
  go_enter Tryz.func173,Tryz.ntmps173
  go_wp2_with(first
   | (go_at_call 216;(with_reducible refine(pJ (l:=e.path) (bK.out.below (bW (az _ _) _))).mono ?_);rintro e1 w1 ⟨⟨_|_,rfl,hb⟩,rfl⟩<;>(have Hp:=hide hb;clear hb))
   | (go_at_call 218;(with_reducible refine(jc e.at_ _ iH.out).mono ?_);rintro e1 w1 ⟨⟨_|_,rfl,hb⟩,rfl⟩<;>(have Ha:=hide hb;clear hb))
   | (go_at_call 218;(with_reducible refine(jc e.far _ dP.out).mono ?_);rintro e1 w1 ⟨⟨_|_,rfl,hb⟩,rfl⟩<;>(have Hf:=hide hb;clear hb))
   | (go_at_call 219;(with_reducible refine(iZ {data:=#[]} _ (by decide) (ai.out.below (bW (az _ _) _))).mono ?_);rintro e1 w1 ⟨⟨_|_,rfl,hb⟩,hB⟩<;>first|(exact absurd (hb.mp (by first|rfl|trivial)) mD)|(have Hn:=hide hb;have HB:=hide (aZ (bW (az _ _) _) hB);obtain⟨hc1,hf1,hz1⟩:=aO (N:=w.heap.size) hB (by simp);clear hb hB))
   | (go_at_call 219;(with_reducible refine(iZ {data:=#[]} _ (by decide) (ai.out.below HB.out)).mono ?_);rintro e1 w2 ⟨⟨_|_,rfl,hb⟩,hB⟩<;>first|(exact absurd (hb.mp (by first|rfl|trivial)) mD)|(have Hm:=hide hb;have HB2:=hide (aZ HB.out hB);obtain⟨hc2,hf2,hz2⟩:=aO (N:=w.heap.size) hB hz1;clear hb hB))
   | (go_at_call 220;(with_reducible refine(gY (f:=e.old) (bT.out.below HB2.out) hold.1 hold.2 (ai.out.below HB2.out)).mono ?_);rintro e1 w3 ⟨⟨_|_,rfl,hb⟩,hB⟩<;>(have gq:=hide hb;have HB3:=hide (aZ HB2.out hB);obtain⟨hc3,hf3,hz3⟩:=aO (N:=w.heap.size) hB hz2;clear hb hB))
   | (go_at_call 220;(with_reducible refine(gY (f:=e.old) (bT.out.below HB.out) hold.1 hold.2 (ai.out.below HB.out)).mono ?_);rintro e1 w3 ⟨⟨_|_,rfl,hb⟩,hB⟩<;>(have gq:=hide hb;have HB3:=hide (aZ HB.out hB);obtain⟨hc3,hf3,hz3⟩:=aO (N:=w.heap.size) hB hz1;clear hb hB))
   | (go_at_call 220;(with_reducible refine(gY (f:=e.new) (dQ.out.below HB3.out) hnew.1 hnew.2 (ai.out.below HB3.out)).mono ?_);rintro e1 w4 ⟨⟨_|_,rfl,hb⟩,hB⟩<;>(have jP:=hide hb;have HB4:=hide (aZ HB3.out hB);obtain⟨hc4,hf4,jH⟩:=aO (N:=w.heap.size) hB hz3;clear hb hB)))
  go_quiet (fail)
  go_upto_region 20 with(first
   | (go_at_call 216;(with_reducible refine(pJ (l:=e.path) (bK.out.below (bW (az _ _) _))).mono ?_);rintro e1 w1 ⟨⟨_|_,rfl,hb⟩,rfl⟩<;>(have Hp:=hide hb;clear hb))
   | (go_at_call 218;(with_reducible refine(jc e.at_ _ iH.out).mono ?_);rintro e1 w1 ⟨⟨_|_,rfl,hb⟩,rfl⟩<;>(have Ha:=hide hb;clear hb))
   | (go_at_call 218;(with_reducible refine(jc e.far _ dP.out).mono ?_);rintro e1 w1 ⟨⟨_|_,rfl,hb⟩,rfl⟩<;>(have Hf:=hide hb;clear hb))
   | (go_at_call 219;(with_reducible refine(iZ {data:=#[]} _ (by decide) (ai.out.below (bW (az _ _) _))).mono ?_);rintro e1 w1 ⟨⟨_|_,rfl,hb⟩,hB⟩<;>first|(exact absurd (hb.mp (by first|rfl|trivial)) mD)|(have Hn:=hide hb;have HB:=hide (aZ (bW (az _ _) _) hB);obtain⟨hc1,hf1,hz1⟩:=aO (N:=w.heap.size) hB (by simp);clear hb hB))
   | (go_at_call 219;(with_reducible refine(iZ {data:=#[]} _ (by decide) (ai.out.below HB.out)).mono ?_);rintro e1 w2 ⟨⟨_|_,rfl,hb⟩,hB⟩<;>first|(exact absurd (hb.mp (by first|rfl|trivial)) mD)|(have Hm:=hide hb;have HB2:=hide (aZ HB.out hB);obtain⟨hc2,hf2,hz2⟩:=aO (N:=w.heap.size) hB hz1;clear hb hB))
   | (go_at_call 220;(with_reducible refine(gY (f:=e.old) (bT.out.below HB2.out) hold.1 hold.2 (ai.out.below HB2.out)).mono ?_);rintro e1 w3 ⟨⟨_|_,rfl,hb⟩,hB⟩<;>(have gq:=hide hb;have HB3:=hide (aZ HB2.out hB);obtain⟨hc3,hf3,hz3⟩:=aO (N:=w.heap.size) hB hz2;clear hb hB))
   | (go_at_call 220;(with_reducible refine(gY (f:=e.old) (bT.out.below HB.out) hold.1 hold.2 (ai.out.below HB.out)).mono ?_);rintro e1 w3 ⟨⟨_|_,rfl,hb⟩,hB⟩<;>(have gq:=hide hb;have HB3:=hide (aZ HB.out hB);obtain⟨hc3,hf3,hz3⟩:=aO (N:=w.heap.size) hB hz1;clear hb hB))
   | (go_at_call 220;(with_reducible refine(gY (f:=e.new) (dQ.out.below HB3.out) hnew.1 hnew.2 (ai.out.below HB3.out)).mono ?_);rintro e1 w4 ⟨⟨_|_,rfl,hb⟩,hB⟩<;>(have jP:=hide hb;have HB4:=hide (aZ HB3.out hB);obtain⟨hc4,hf4,jH⟩:=aO (N:=w.heap.size) hB hz3;clear hb hB))))
 all_goals(first|go_ret|(go_quiet (fail);go_wp2;go_ret))
 all_goals go_tidy
 all_goals(try have hp:=Hp.out)
 all_goals(try have ha:=Ha.out)
 all_goals(try have hf:=Hf.out)
 all_goals(try have hn:=Hn.out)
 all_goals(try have hm:=Hm.out)
 all_goals(try have hpo:=gq.out)
 all_goals(try have hpn:=jP.out)
 all_goals refine⟨ag.mk ?_,(by first|exact Ak HB4.out _|exact HB4.out|exact HB3.out|exact HB2.out|exact HB.out|exact bW (az _ _) _)⟩
 all_goals clear ai bK iH dP bT dQ
 all_goals(try clear Hp)
 all_goals(try clear Ha)
 all_goals(try clear Hf)
 all_goals(try clear jP hc4 hf4 HB4 jH)
 all_goals(try clear gq hc3 hf3 HB3 hz3)
 all_goals(try clear Hm hc2 hf2 HB2 hz2)
 all_goals(try clear Hn hc1 hf1 hz1 HB)
 all_goals first|rw[fU.out]|rw[wG.out]|rw[wH.out]
 all_goals clear fU wG wH
 all_goals(try have pp:=@sQ e.old)
 all_goals(try have pq:=@sQ e.new)
 all_goals have n0:=Du
 all_goals(try have hfe:=mF.out)
 all_goals(try have hte:=Hte.out)
 all_goals(try have hnot:=lU.out)
 all_goals(try(exfalso;simp only[yg,Bool.false_eq_true,reduceCtorEq]at *;done))
 all_goals(try(exfalso;simp only[Bo mF.out,Bool.true_eq_false,reduceCtorEq]at *;done))
 all_goals grind
theorem Kw{k:Int}{K:Nat}(hk:k=2∧K=2∨k=3∧K=3∨k=5∧K=5∨k=4∧K=4){S:Nat→Prop}{x:Eh}{e:Ed}{w:World}(he:dD S w x e)(htab:ax w)(hsum:e.frm.size+e.to.size≤9223372036854775807)(hfe :¬(e.frm=ae∧e.to=ae)):
  Calls Tryz.prog 173 #[.agg #[.int .u8 k,.slice x.pA e.path.length x.pc,.int .i64 e.at_,.int .i64 e.far,.string e.frm,.string e.to,.slice x.oA e.old.len x.oc,.slice x.nA e.new.len x.nc]] w fun e1 w'=>ag (eY {e with kind:=K}) e1∧Below w.heap.size w w':=by
 have ai:Hid (ax w):=htab;have bK:=hide he.path;have iH:=hide he.at_;have dP:=hide he.far;have iJ:=he.frm;have hto:=he.to;have bT:=hide he.old;have dQ:=hide he.new;have hold:=he.oc;have hnew:=he.nc;have fU:=hide (@Tj e);have wG:=hide (@Tm e);have wH:=hide (@Tn e);have H5:=hide (@Oa e);have mF:=hide hfe;have hE:=Bo hfe;clear hfe;clear he htab;rcases hk with⟨rfl,rfl⟩|⟨rfl,rfl⟩|⟨rfl,rfl⟩|⟨rfl,rfl⟩<;>(
  go_enter Tryz.func173,Tryz.ntmps173
  go_wp2_with(first
   | (go_at_call 216;(with_reducible refine(pJ (l:=e.path) (bK.out.below (bW (az _ _) _))).mono ?_);rintro e1 w1 ⟨⟨_|_,rfl,hb⟩,rfl⟩<;>(have Hp:=hide hb;clear hb))
   | (go_at_call 218;(with_reducible refine(jc e.at_ _ iH.out).mono ?_);rintro e1 w1 ⟨⟨_|_,rfl,hb⟩,rfl⟩<;>(have Ha:=hide hb;clear hb))
   | (go_at_call 218;(with_reducible refine(jc e.far _ dP.out).mono ?_);rintro e1 w1 ⟨⟨_|_,rfl,hb⟩,rfl⟩<;>(have Hf:=hide hb;clear hb))
   | (go_at_call 219;(with_reducible refine(iZ e.frm _ iJ (ai.out.below (bW (az _ _) _))).mono ?_);rintro e1 w1 ⟨⟨_|_,rfl,hb⟩,hB⟩<;>(have Hn:=hide hb;have HB:=hide (aZ (bW (az _ _) _) hB);obtain⟨hc1,hf1,hz1⟩:=aO (N:=w.heap.size) hB (by simp);clear hb hB))
   | (go_at_call 219;(with_reducible refine(iZ e.to _ hto (ai.out.below HB.out)).mono ?_);rintro e1 w2 ⟨⟨_|_,rfl,hb⟩,hB⟩<;>(have Hm:=hide hb;have HB2:=hide (aZ HB.out hB);obtain⟨hc2,hf2,hz2⟩:=aO (N:=w.heap.size) hB hz1;clear hb hB))
   | (go_at_call 220;(with_reducible refine(gY (f:=e.old) (bT.out.below HB2.out) hold.1 hold.2 (ai.out.below HB2.out)).mono ?_);rintro e1 w3 ⟨⟨_|_,rfl,hb⟩,hB⟩<;>(have gq:=hide hb;have HB3:=hide (aZ HB2.out hB);obtain⟨hc3,hf3,hz3⟩:=aO (N:=w.heap.size) hB hz2;clear hb hB))
   | (go_at_call 220;(with_reducible refine(gY (f:=e.old) (bT.out.below HB.out) hold.1 hold.2 (ai.out.below HB.out)).mono ?_);rintro e1 w3 ⟨⟨_|_,rfl,hb⟩,hB⟩<;>(have gq:=hide hb;have HB3:=hide (aZ HB.out hB);obtain⟨hc3,hf3,hz3⟩:=aO (N:=w.heap.size) hB hz1;clear hb hB))
   | (go_at_call 220;(with_reducible refine(gY (f:=e.new) (dQ.out.below HB3.out) hnew.1 hnew.2 (ai.out.below HB3.out)).mono ?_);rintro e1 w4 ⟨⟨_|_,rfl,hb⟩,hB⟩<;>(have jP:=hide hb;have HB4:=hide (aZ HB3.out hB);obtain⟨hc4,hf4,jH⟩:=aO (N:=w.heap.size) hB hz3;clear hb hB)))
  go_quiet (fail)
  go_upto_region 20 with(first
   | (go_at_call 216;(with_reducible refine(pJ (l:=e.path) (bK.out.below (bW (az _ _) _))).mono ?_);rintro e1 w1 ⟨⟨_|_,rfl,hb⟩,rfl⟩<;>(have Hp:=hide hb;clear hb))
   | (go_at_call 218;(with_reducible refine(jc e.at_ _ iH.out).mono ?_);rintro e1 w1 ⟨⟨_|_,rfl,hb⟩,rfl⟩<;>(have Ha:=hide hb;clear hb))
   | (go_at_call 218;(with_reducible refine(jc e.far _ dP.out).mono ?_);rintro e1 w1 ⟨⟨_|_,rfl,hb⟩,rfl⟩<;>(have Hf:=hide hb;clear hb))
   | (go_at_call 219;(with_reducible refine(iZ e.frm _ iJ (ai.out.below (bW (az _ _) _))).mono ?_);rintro e1 w1 ⟨⟨_|_,rfl,hb⟩,hB⟩<;>(have Hn:=hide hb;have HB:=hide (aZ (bW (az _ _) _) hB);obtain⟨hc1,hf1,hz1⟩:=aO (N:=w.heap.size) hB (by simp);clear hb hB))
   | (go_at_call 219;(with_reducible refine(iZ e.to _ hto (ai.out.below HB.out)).mono ?_);rintro e1 w2 ⟨⟨_|_,rfl,hb⟩,hB⟩<;>(have Hm:=hide hb;have HB2:=hide (aZ HB.out hB);obtain⟨hc2,hf2,hz2⟩:=aO (N:=w.heap.size) hB hz1;clear hb hB))
   | (go_at_call 220;(with_reducible refine(gY (f:=e.old) (bT.out.below HB2.out) hold.1 hold.2 (ai.out.below HB2.out)).mono ?_);rintro e1 w3 ⟨⟨_|_,rfl,hb⟩,hB⟩<;>(have gq:=hide hb;have HB3:=hide (aZ HB2.out hB);obtain⟨hc3,hf3,hz3⟩:=aO (N:=w.heap.size) hB hz2;clear hb hB))
   | (go_at_call 220;(with_reducible refine(gY (f:=e.old) (bT.out.below HB.out) hold.1 hold.2 (ai.out.below HB.out)).mono ?_);rintro e1 w3 ⟨⟨_|_,rfl,hb⟩,hB⟩<;>(have gq:=hide hb;have HB3:=hide (aZ HB.out hB);obtain⟨hc3,hf3,hz3⟩:=aO (N:=w.heap.size) hB hz1;clear hb hB))
   | (go_at_call 220;(with_reducible refine(gY (f:=e.new) (dQ.out.below HB3.out) hnew.1 hnew.2 (ai.out.below HB3.out)).mono ?_);rintro e1 w4 ⟨⟨_|_,rfl,hb⟩,hB⟩<;>(have jP:=hide hb;have HB4:=hide (aZ HB3.out hB);obtain⟨hc4,hf4,jH⟩:=aO (N:=w.heap.size) hB hz3;clear hb hB))))
 all_goals(try(exfalso;exact Bool.noConfusion ((‹(!(e.frm.toList == e.to.toList))=true›).symm.trans ‹(!(e.frm.toList == e.to.toList))=false›)))
 all_goals(first|go_ret|(go_quiet (fail);go_wp2;go_ret))
 all_goals go_tidy
 all_goals(try have hp:=Hp.out)
 all_goals(try have ha:=Ha.out)
 all_goals(try have hf:=Hf.out)
 all_goals(try have hn:=Hn.out)
 all_goals(try have hm:=Hm.out)
 all_goals(try have hpo:=gq.out)
 all_goals(try have hpn:=jP.out)
 all_goals refine⟨ag.mk ?_,(by first|exact Ak HB4.out _|exact HB4.out|exact HB3.out|exact HB2.out|exact HB.out|exact bW (az _ _) _)⟩
 all_goals clear ai bK iH dP bT dQ
 all_goals(try clear Hp)
 all_goals(try clear Ha)
 all_goals(try clear Hf)
 all_goals(try clear jP hc4 hf4 HB4 jH)
 all_goals(try clear gq hc3 hf3 HB3 hz3)
 all_goals(try clear Hm hc2 hf2 HB2 hz2)
 all_goals(try clear Hn hc1 hf1 hz1 HB)
 all_goals first|rw[fU.out]|rw[wG.out]|rw[wH.out]|rw[H5.out]
 all_goals clear fU wG wH H5
 all_goals(try have pp:=@sQ e.old)
 all_goals(try have pq:=@sQ e.new)
 all_goals have n0:=Du
 all_goals(try have hfe:=mF.out)
 all_goals(try have hte:=Hte.out)
 all_goals(try have hnot:=lU.out)
 all_goals(try(exfalso;simp only[yg,Bool.false_eq_true,reduceCtorEq]at *;done))
 all_goals(try(exfalso;simp only[Bo mF.out,Bool.true_eq_false,reduceCtorEq]at *;done))
 all_goals grind
end
end Go.Proofs.YtjjaojnglnpgaaaGreatDoor
