/- Part 15 of what scriptShows_cardUpto rests on. -/
import Derived.Test.YtjjaojnglnpgaaaGreatDoorZ12
import Derived.Test.YtjjaojnglnpgaaaGreatDoorZ00
set_option linter.unusedVariables false
set_option linter.unusedSimpArgs false
set_option maxHeartbeats 16000000
set_option maxRecDepth 1000000
namespace Go.Proofs.YtjjaojnglnpgaaaGreatDoor
section
open Go.RowKit
theorem Qv{k:Int}{K:Nat}(hk:k=2∧K=2∨k=3∧K=3∨k=5∧K=5){S:Nat→Prop}{x:Eh}{e:Ed}{w:World}(he:dm S w x e)(htab:bF w)(hsum:e.frm.size+e.to.size≤9223372036854775807)(hfe:e.frm=ae)(hte:e.to=ae):
  Calls Tryz.prog 173 #[.agg #[.int .u8 k,.slice x.pA e.path.length x.pc,.int .i64 e.at_,.int .i64 e.far,.string {data:=#[]},.string {data:=#[]},.slice x.oA e.old.len x.oc,.slice x.nA e.new.len x.nc]] w fun e1 w'=>ah (dC {e with kind:=K}) e1∧Below w.heap.size w w':=by
 have aN:Hid (bF w):=htab;have bC:=hide he.path;have jO:=hide he.at_;have gq:=hide he.far;have jw:=he.frm;have hto:=he.to;have dH:=hide he.old;have gu:=hide he.new;have hold:=he.oc;have hnew:=he.nc;have gK:=hide (@Vx e);have xI:=hide (@Vy e);have xJ:=hide (@Vz e);have pF:=hide hfe;have Hte:=hide hte;clear hfe hte jw hto hsum;have hE:(!(({data:=#[]}:ByteArray)++({data:=#[]}:ByteArray)).toList.isEmpty)=false:=Ak;clear he htab;rcases hk with⟨rfl,rfl⟩|⟨rfl,rfl⟩|⟨rfl,rfl⟩<;>(
  go_enter Tryz.func173,Tryz.ntmps173
  go_wp2_with(first
   | (go_at_call 216;(with_reducible refine(qR (l:=e.path) (bC.out.below (di (az _ _) _))).mono ?_);rintro e1 w1 ⟨⟨_|_,rfl,hb⟩,rfl⟩<;>(have Hp:=hide hb;clear hb))
   | (go_at_call 218;(with_reducible refine(kJ e.at_ _ jO.out).mono ?_);rintro e1 w1 ⟨⟨_|_,rfl,hb⟩,rfl⟩<;>(have Ha:=hide hb;clear hb))
   | (go_at_call 218;(with_reducible refine(kJ e.far _ gq.out).mono ?_);rintro e1 w1 ⟨⟨_|_,rfl,hb⟩,rfl⟩<;>(have Hf:=hide hb;clear hb))
   | (go_at_call 219;(with_reducible refine(kH {data:=#[]} _ (by decide) (aN.out.below (di (az _ _) _))).mono ?_);rintro e1 w1 ⟨⟨_|_,rfl,hb⟩,hB⟩<;>first|(exact absurd (hb.mp (by first|rfl|trivial)) zap)|(have Hn:=hide hb;have HB:=hide (aW (di (az _ _) _) hB);obtain⟨hc1,hf1,hz1⟩:=bz (N:=w.heap.size) hB (by simp);clear hb hB))
   | (go_at_call 219;(with_reducible refine(kH {data:=#[]} _ (by decide) (aN.out.below HB.out)).mono ?_);rintro e1 w2 ⟨⟨_|_,rfl,hb⟩,hB⟩<;>first|(exact absurd (hb.mp (by first|rfl|trivial)) zap)|(have Hm:=hide hb;have HB2:=hide (aW HB.out hB);obtain⟨hc2,hf2,hz2⟩:=bz (N:=w.heap.size) hB hz1;clear hb hB))
   | (go_at_call 220;(with_reducible refine(jy (f:=e.old) (dH.out.below HB2.out) hold.1 hold.2 (aN.out.below HB2.out)).mono ?_);rintro e1 w3 ⟨⟨_|_,rfl,hb⟩,hB⟩<;>(have jd:=hide hb;have HB3:=hide (aW HB2.out hB);obtain⟨hc3,hf3,hz3⟩:=bz (N:=w.heap.size) hB hz2;clear hb hB))
   | (go_at_call 220;(with_reducible refine(jy (f:=e.old) (dH.out.below HB.out) hold.1 hold.2 (aN.out.below HB.out)).mono ?_);rintro e1 w3 ⟨⟨_|_,rfl,hb⟩,hB⟩<;>(have jd:=hide hb;have HB3:=hide (aW HB.out hB);obtain⟨hc3,hf3,hz3⟩:=bz (N:=w.heap.size) hB hz1;clear hb hB))
   | (go_at_call 220;(with_reducible refine(jy (f:=e.new) (gu.out.below HB3.out) hnew.1 hnew.2 (aN.out.below HB3.out)).mono ?_);rintro e1 w4 ⟨⟨_|_,rfl,hb⟩,hB⟩<;>(have lY:=hide hb;have HB4:=hide (aW HB3.out hB);obtain⟨hc4,hf4,kU⟩:=bz (N:=w.heap.size) hB hz3;clear hb hB)))
  go_quiet (fail)
  go_upto_region 20 with(first
   | (go_at_call 216;(with_reducible refine(qR (l:=e.path) (bC.out.below (di (az _ _) _))).mono ?_);rintro e1 w1 ⟨⟨_|_,rfl,hb⟩,rfl⟩<;>(have Hp:=hide hb;clear hb))
   | (go_at_call 218;(with_reducible refine(kJ e.at_ _ jO.out).mono ?_);rintro e1 w1 ⟨⟨_|_,rfl,hb⟩,rfl⟩<;>(have Ha:=hide hb;clear hb))
   | (go_at_call 218;(with_reducible refine(kJ e.far _ gq.out).mono ?_);rintro e1 w1 ⟨⟨_|_,rfl,hb⟩,rfl⟩<;>(have Hf:=hide hb;clear hb))
   | (go_at_call 219;(with_reducible refine(kH {data:=#[]} _ (by decide) (aN.out.below (di (az _ _) _))).mono ?_);rintro e1 w1 ⟨⟨_|_,rfl,hb⟩,hB⟩<;>first|(exact absurd (hb.mp (by first|rfl|trivial)) zap)|(have Hn:=hide hb;have HB:=hide (aW (di (az _ _) _) hB);obtain⟨hc1,hf1,hz1⟩:=bz (N:=w.heap.size) hB (by simp);clear hb hB))
   | (go_at_call 219;(with_reducible refine(kH {data:=#[]} _ (by decide) (aN.out.below HB.out)).mono ?_);rintro e1 w2 ⟨⟨_|_,rfl,hb⟩,hB⟩<;>first|(exact absurd (hb.mp (by first|rfl|trivial)) zap)|(have Hm:=hide hb;have HB2:=hide (aW HB.out hB);obtain⟨hc2,hf2,hz2⟩:=bz (N:=w.heap.size) hB hz1;clear hb hB))
   | (go_at_call 220;(with_reducible refine(jy (f:=e.old) (dH.out.below HB2.out) hold.1 hold.2 (aN.out.below HB2.out)).mono ?_);rintro e1 w3 ⟨⟨_|_,rfl,hb⟩,hB⟩<;>(have jd:=hide hb;have HB3:=hide (aW HB2.out hB);obtain⟨hc3,hf3,hz3⟩:=bz (N:=w.heap.size) hB hz2;clear hb hB))
   | (go_at_call 220;(with_reducible refine(jy (f:=e.old) (dH.out.below HB.out) hold.1 hold.2 (aN.out.below HB.out)).mono ?_);rintro e1 w3 ⟨⟨_|_,rfl,hb⟩,hB⟩<;>(have jd:=hide hb;have HB3:=hide (aW HB.out hB);obtain⟨hc3,hf3,hz3⟩:=bz (N:=w.heap.size) hB hz1;clear hb hB))
   | (go_at_call 220;(with_reducible refine(jy (f:=e.new) (gu.out.below HB3.out) hnew.1 hnew.2 (aN.out.below HB3.out)).mono ?_);rintro e1 w4 ⟨⟨_|_,rfl,hb⟩,hB⟩<;>(have lY:=hide hb;have HB4:=hide (aW HB3.out hB);obtain⟨hc4,hf4,kU⟩:=bz (N:=w.heap.size) hB hz3;clear hb hB))))
 all_goals(first|go_ret|(go_quiet (fail);go_wp2;go_ret))
 all_goals go_tidy
 all_goals(try have hp:=Hp.out)
 all_goals(try have ha:=Ha.out)
 all_goals(try have hf:=Hf.out)
 all_goals(try have hn:=Hn.out)
 all_goals(try have hm:=Hm.out)
 all_goals(try have hpo:=jd.out)
 all_goals(try have hpn:=lY.out)
 all_goals refine⟨ah.mk ?_,(by first|exact Dx HB4.out _|exact HB4.out|exact HB3.out|exact HB2.out|exact HB.out|exact di (az _ _) _)⟩
 all_goals clear aN bC jO gq dH gu
 all_goals(try clear Hp)
 all_goals(try clear Ha)
 all_goals(try clear Hf)
 all_goals(try clear lY hc4 hf4 HB4 kU)
 all_goals(try clear jd hc3 hf3 HB3 hz3)
 all_goals(try clear Hm hc2 hf2 HB2 hz2)
 all_goals(try clear Hn hc1 hf1 hz1 HB)
 all_goals first|rw[gK.out]|rw[xI.out]|rw[xJ.out]
 all_goals clear gK xI xJ
 all_goals(try have pp:=@vg e.old)
 all_goals(try have pq:=@vg e.new)
 all_goals have n0:=FO
 all_goals(try have hfe:=pF.out)
 all_goals(try have hte:=Hte.out)
 all_goals(try have hnot:=oU.out)
 all_goals(try(exfalso;simp only[Ak,Bool.false_eq_true,reduceCtorEq]at *;done))
 all_goals(try(exfalso;simp only[D7 pF.out,Bool.true_eq_false,reduceCtorEq]at *;done))
 all_goals grind
theorem NM{k:Int}{K:Nat}(hk:k=2∧K=2∨k=3∧K=3∨k=5∧K=5∨k=4∧K=4){S:Nat→Prop}{x:Eh}{e:Ed}{w:World}(he:dm S w x e)(htab:bF w)(hsum:e.frm.size+e.to.size≤9223372036854775807)(hfe :¬(e.frm=ae∧e.to=ae)):
  Calls Tryz.prog 173 #[.agg #[.int .u8 k,.slice x.pA e.path.length x.pc,.int .i64 e.at_,.int .i64 e.far,.string e.frm,.string e.to,.slice x.oA e.old.len x.oc,.slice x.nA e.new.len x.nc]] w fun e1 w'=>ah (dC {e with kind:=K}) e1∧Below w.heap.size w w':=by
 have aN:Hid (bF w):=htab;have bC:=hide he.path;have jO:=hide he.at_;have gq:=hide he.far;have jw:=he.frm;have hto:=he.to;have dH:=hide he.old;have gu:=hide he.new;have hold:=he.oc;have hnew:=he.nc;have gK:=hide (@Vx e);have xI:=hide (@Vy e);have xJ:=hide (@Vz e);have JO:=hide (@Qu e);have pF:=hide hfe;have hE:=D7 hfe;clear hfe;clear he htab;rcases hk with⟨rfl,rfl⟩|⟨rfl,rfl⟩|⟨rfl,rfl⟩|⟨rfl,rfl⟩<;>(
  go_enter Tryz.func173,Tryz.ntmps173
  go_wp2_with(first
   | (go_at_call 216;(with_reducible refine(qR (l:=e.path) (bC.out.below (di (az _ _) _))).mono ?_);rintro e1 w1 ⟨⟨_|_,rfl,hb⟩,rfl⟩<;>(have Hp:=hide hb;clear hb))
   | (go_at_call 218;(with_reducible refine(kJ e.at_ _ jO.out).mono ?_);rintro e1 w1 ⟨⟨_|_,rfl,hb⟩,rfl⟩<;>(have Ha:=hide hb;clear hb))
   | (go_at_call 218;(with_reducible refine(kJ e.far _ gq.out).mono ?_);rintro e1 w1 ⟨⟨_|_,rfl,hb⟩,rfl⟩<;>(have Hf:=hide hb;clear hb))
   | (go_at_call 219;(with_reducible refine(kH e.frm _ jw (aN.out.below (di (az _ _) _))).mono ?_);rintro e1 w1 ⟨⟨_|_,rfl,hb⟩,hB⟩<;>(have Hn:=hide hb;have HB:=hide (aW (di (az _ _) _) hB);obtain⟨hc1,hf1,hz1⟩:=bz (N:=w.heap.size) hB (by simp);clear hb hB))
   | (go_at_call 219;(with_reducible refine(kH e.to _ hto (aN.out.below HB.out)).mono ?_);rintro e1 w2 ⟨⟨_|_,rfl,hb⟩,hB⟩<;>(have Hm:=hide hb;have HB2:=hide (aW HB.out hB);obtain⟨hc2,hf2,hz2⟩:=bz (N:=w.heap.size) hB hz1;clear hb hB))
   | (go_at_call 220;(with_reducible refine(jy (f:=e.old) (dH.out.below HB2.out) hold.1 hold.2 (aN.out.below HB2.out)).mono ?_);rintro e1 w3 ⟨⟨_|_,rfl,hb⟩,hB⟩<;>(have jd:=hide hb;have HB3:=hide (aW HB2.out hB);obtain⟨hc3,hf3,hz3⟩:=bz (N:=w.heap.size) hB hz2;clear hb hB))
   | (go_at_call 220;(with_reducible refine(jy (f:=e.old) (dH.out.below HB.out) hold.1 hold.2 (aN.out.below HB.out)).mono ?_);rintro e1 w3 ⟨⟨_|_,rfl,hb⟩,hB⟩<;>(have jd:=hide hb;have HB3:=hide (aW HB.out hB);obtain⟨hc3,hf3,hz3⟩:=bz (N:=w.heap.size) hB hz1;clear hb hB))
   | (go_at_call 220;(with_reducible refine(jy (f:=e.new) (gu.out.below HB3.out) hnew.1 hnew.2 (aN.out.below HB3.out)).mono ?_);rintro e1 w4 ⟨⟨_|_,rfl,hb⟩,hB⟩<;>(have lY:=hide hb;have HB4:=hide (aW HB3.out hB);obtain⟨hc4,hf4,kU⟩:=bz (N:=w.heap.size) hB hz3;clear hb hB)))
  go_quiet (fail)
  go_upto_region 20 with(first
   | (go_at_call 216;(with_reducible refine(qR (l:=e.path) (bC.out.below (di (az _ _) _))).mono ?_);rintro e1 w1 ⟨⟨_|_,rfl,hb⟩,rfl⟩<;>(have Hp:=hide hb;clear hb))
   | (go_at_call 218;(with_reducible refine(kJ e.at_ _ jO.out).mono ?_);rintro e1 w1 ⟨⟨_|_,rfl,hb⟩,rfl⟩<;>(have Ha:=hide hb;clear hb))
   | (go_at_call 218;(with_reducible refine(kJ e.far _ gq.out).mono ?_);rintro e1 w1 ⟨⟨_|_,rfl,hb⟩,rfl⟩<;>(have Hf:=hide hb;clear hb))
   | (go_at_call 219;(with_reducible refine(kH e.frm _ jw (aN.out.below (di (az _ _) _))).mono ?_);rintro e1 w1 ⟨⟨_|_,rfl,hb⟩,hB⟩<;>(have Hn:=hide hb;have HB:=hide (aW (di (az _ _) _) hB);obtain⟨hc1,hf1,hz1⟩:=bz (N:=w.heap.size) hB (by simp);clear hb hB))
   | (go_at_call 219;(with_reducible refine(kH e.to _ hto (aN.out.below HB.out)).mono ?_);rintro e1 w2 ⟨⟨_|_,rfl,hb⟩,hB⟩<;>(have Hm:=hide hb;have HB2:=hide (aW HB.out hB);obtain⟨hc2,hf2,hz2⟩:=bz (N:=w.heap.size) hB hz1;clear hb hB))
   | (go_at_call 220;(with_reducible refine(jy (f:=e.old) (dH.out.below HB2.out) hold.1 hold.2 (aN.out.below HB2.out)).mono ?_);rintro e1 w3 ⟨⟨_|_,rfl,hb⟩,hB⟩<;>(have jd:=hide hb;have HB3:=hide (aW HB2.out hB);obtain⟨hc3,hf3,hz3⟩:=bz (N:=w.heap.size) hB hz2;clear hb hB))
   | (go_at_call 220;(with_reducible refine(jy (f:=e.old) (dH.out.below HB.out) hold.1 hold.2 (aN.out.below HB.out)).mono ?_);rintro e1 w3 ⟨⟨_|_,rfl,hb⟩,hB⟩<;>(have jd:=hide hb;have HB3:=hide (aW HB.out hB);obtain⟨hc3,hf3,hz3⟩:=bz (N:=w.heap.size) hB hz1;clear hb hB))
   | (go_at_call 220;(with_reducible refine(jy (f:=e.new) (gu.out.below HB3.out) hnew.1 hnew.2 (aN.out.below HB3.out)).mono ?_);rintro e1 w4 ⟨⟨_|_,rfl,hb⟩,hB⟩<;>(have lY:=hide hb;have HB4:=hide (aW HB3.out hB);obtain⟨hc4,hf4,kU⟩:=bz (N:=w.heap.size) hB hz3;clear hb hB))))
 all_goals(try(exfalso;exact Bool.noConfusion ((‹(!(e.frm.toList == e.to.toList))=true›).symm.trans ‹(!(e.frm.toList == e.to.toList))=false›)))
 all_goals(first|go_ret|(go_quiet (fail);go_wp2;go_ret))
 all_goals go_tidy
 all_goals(try have hp:=Hp.out)
 all_goals(try have ha:=Ha.out)
 all_goals(try have hf:=Hf.out)
 all_goals(try have hn:=Hn.out)
 all_goals(try have hm:=Hm.out)
 all_goals(try have hpo:=jd.out)
 all_goals(try have hpn:=lY.out)
 all_goals refine⟨ah.mk ?_,(by first|exact Dx HB4.out _|exact HB4.out|exact HB3.out|exact HB2.out|exact HB.out|exact di (az _ _) _)⟩
 all_goals clear aN bC jO gq dH gu
 all_goals(try clear Hp)
 all_goals(try clear Ha)
 all_goals(try clear Hf)
 all_goals(try clear lY hc4 hf4 HB4 kU)
 all_goals(try clear jd hc3 hf3 HB3 hz3)
 all_goals(try clear Hm hc2 hf2 HB2 hz2)
 all_goals(try clear Hn hc1 hf1 hz1 HB)
 all_goals first|rw[gK.out]|rw[xI.out]|rw[xJ.out]|rw[JO.out]
 all_goals clear gK xI xJ JO
 all_goals(try have pp:=@vg e.old)
 all_goals(try have pq:=@vg e.new)
 all_goals have n0:=FO
 all_goals(try have hfe:=pF.out)
 all_goals(try have hte:=Hte.out)
 all_goals(try have hnot:=oU.out)
 all_goals(try(exfalso;simp only[Ak,Bool.false_eq_true,reduceCtorEq]at *;done))
 all_goals(try(exfalso;simp only[D7 pF.out,Bool.true_eq_false,reduceCtorEq]at *;done))
 all_goals grind
end
end Go.Proofs.YtjjaojnglnpgaaaGreatDoor
