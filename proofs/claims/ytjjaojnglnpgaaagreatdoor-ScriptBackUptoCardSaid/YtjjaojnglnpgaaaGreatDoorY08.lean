/- Part 9 of what scriptBack_cardUpto rests on. -/
import Derived.StillTailTactics
import Derived.Test.YtjjaojnglnpgaaaGreatDoorY03
import Derived.Test.YtjjaojnglnpgaaaGreatDoorY01
import Derived.Test.YtjjaojnglnpgaaaGreatDoorY00
set_option linter.unusedVariables false
set_option linter.unusedSimpArgs false
set_option maxHeartbeats 16000000
set_option maxRecDepth 1000000
namespace Go.Proofs.YtjjaojnglnpgaaaGreatDoor
section
open Go.RowKit
theorem Wv{k k':Nat}{t t':ByteArray}{n n':Int}{A A':Option Addr}{c c':Nat}{ks ks':Fo}{w:World}
  (hk :∀W,Below w.heap.size w W→Calls Tryz.prog 206 #[.slice A ks.len c,.slice A' ks'.len c'] W fun e w'=>ag (ks=ks') e∧Below W.heap.size W w'):
  Calls Tryz.prog 148 #[.agg #[.int .u8 k,.string t,.int .i64 n,.slice A ks.len c],.agg #[.int .u8 k',.string t',.int .i64 n',.slice A' ks'.len c']] w
   fun e w'=>ag (k=k'∧t=t'∧n=n'∧ks=ks') e∧Below w.heap.size w w':=by
 have Hk:=hide hk;clear hk;have htt:=hide (dW (s:=t) (t:=t'));go_enter Tryz.func148,Tryz.ntmps148
 go_wp2_with(go_at_call 206;refine(Hk.out _ (fO _ _)).mono ?_;rintro e w' ⟨⟨b,rfl,hb⟩,hw⟩;have Hb:=hide hb;have Hw:=hide hw;clear hb hw)
 all_goals
  go_ret;go_tidy;have htt:=htt.out;refine⟨ag.mk (by first|(rw[Hb.out];grind)|grind),?_⟩
  first
   | exact Am Hw.out
   | exact fO _ _
theorem RG{k k':Nat}{t t':ByteArray}{n n':Int}{A A':Option Addr}{c c':Nat}{ks ks':Fo}{w:World}
  (hk :∀W,Below w.heap.size w W→Calls Tryz.prog 224 #[.slice A ks.len c,.slice A' ks'.len c',.func (.func 221) #[] #[]] W fun e w'=>ag (ks=ks') e∧Below W.heap.size W w'):
  Calls Tryz.prog 221 #[.agg #[.int .u8 k,.string t,.int .i64 n,.slice A ks.len c],.agg #[.int .u8 k',.string t',.int .i64 n',.slice A' ks'.len c']] w
   fun e w'=>ag (k=k'∧t=t'∧n=n'∧ks=ks') e∧Below w.heap.size w w':=by
 have Hk:=hide hk;clear hk;have htt:=hide (dW (s:=t) (t:=t'));go_enter Tryz.func221,Tryz.ntmps221
 go_wp2_with(go_at_call 224;refine(Hk.out _ (fO _ _)).mono ?_;rintro e w' ⟨⟨b,rfl,hb⟩,hw⟩;have Hb:=hide hb;have Hw:=hide hw;clear hb hw)
 all_goals
  go_ret;go_tidy;have htt:=htt.out;refine⟨ag.mk (by first|(rw[Hb.out];grind)|grind),?_⟩
  first
   | exact Am Hw.out
   | exact fO _ _
theorem oV{f g:Fo}{i k k':Nat}{t t':ByteArray}{n n':Int}{ks ks' r r':Fo}(h:f=g↔f.drop i=g.drop i)(hf:f.drop i = .cons k t n ks r)(hg:g.drop i = .cons k' t' n' ks' r')
  (he:k=k'∧t=t'∧n=n'∧ks=ks'):f=g↔f.drop (i+1)=g.drop (i+1):=by
 obtain⟨rfl,rfl,rfl,rfl⟩:=he;rw[h,hf,hg,Fo.drop_succ hf,Fo.drop_succ hg];simp
theorem Bc{f g:Fo}{i k k':Nat}{t t':ByteArray}{n n':Int}{ks ks' r r':Fo}(hf:f.drop i = .cons k t n ks r)(hg:g.drop i = .cons k' t' n' ks' r')
  (he :¬(k=k'∧t=t'∧n=n'∧ks=ks')):¬f=g:=by
 rintro rfl;rw[hf]at hg;injection hg with h1 h2 h3 h4;exact he ⟨h1,h2,h3,h4⟩
theorem uT{f g:Fo}{i:Nat}(h:f=g↔f.drop i=g.drop i)(hl:f.len=g.len)(hi :¬i<f.len):f=g:=by
 rw[h,Fo.drop_len f i (by omega),Fo.drop_len g i (by omega)]
theorem WA(N:Nat):∀(S S':Nat→Prop) (A A':Option Addr) (c c':Nat) (f g:Fo) (w:World),f.cnt<N→bz S w A f→bz S' w A' g→f.len≤9223372036854775807→g.len≤9223372036854775807→
  Calls Tryz.prog 206 #[.slice A f.len c,.slice A' g.len c'] w fun e w'=>ag (f=g) e∧Below w.heap.size w w':=by
 induction N with
 | zero=>intro _ _ _ _ _ _ _ _ _ h;omega
 | succ N ih =>
  intro S S' A A' c c' f g w hN hf hg hlf CP;have xU:=hide ih;have HN:=hide hN;have Hf:=hide hf;have Hg:=hide hg;clear ih hN hf hg;by_cases hn:f.len=g.len
  ·have hd:((f.len:Int) != (g.len:Int))=false:=by simp[hn]
   have Hn:=hide hn;clear hn;go_enter Tryz.func206,Tryz.ntmps206
   go_wp2_with fail
   go_loopw [5] (fun i wr=>∃k:Nat,k≤f.len∧i = .int .i64 k∧Below w.heap.size w wr∧Hid (f=g↔f.drop k=g.drop k)) (fun i _=>f.len-(intOf i).toNat)
   case atStart=>exact⟨0,Nat.zero_le _,rfl,Below.refl _ _,hide Iff.rfl⟩
   case round =>
    obtain⟨i,hi,rfl,hB,hall⟩:=hrel;by_cases hlt:i<f.len
    ·obtain⟨b,o,KA,kc,k,t,n,ks,r,rfl,hdf,c0,c1,c2,c3,e1,e2,e3,e4,e5,hks,hcnt⟩:=(Hf.out.below hB).at_ hlt;have hlt2:i<g.len:=by have:=Hn.out;omega
     obtain⟨b',o',nU,Gl,k',t',n',ks',r',rfl,hdg,d0,d1,d2,d3,f1,f2,f3,f4,f5,dR,uU⟩:=(Hg.out.below hB).at_ hlt2;have HB:=hide hB;have kS:=hide hks;have iO:=hide dR;have qI:=hide hdf;have Gm:=hide hdg;have Hc:=hide hcnt;clear hB hks dR hdf hdg hcnt uU;have uV:Hid (∀W,Below wr.heap.size wr W→Calls Tryz.prog 206 #[.slice KA ks.len kc,.slice nU ks'.len Gl] W fun e w'=>ag (ks=ks') e∧Below W.heap.size W w'):=
      hide fun W hW=>xU.out S S' KA nU kc Gl ks ks' W (by have:=Hc.out;have:=HN.out;omega) (kS.out.below hW) (iO.out.below hW) (by omega) (by omega)
     go_wp2_with fail
     go_still_tail 8,(by kernel_rfl)
     change wpList _ _ _ _ _ wr.drew
     go_wp2_with fail
     refine(Wv (w:=wr.drew) fun W hW=>uV.out W (Jm hW)).mono ?_;rintro e w1 ⟨⟨_|_,rfl,hb⟩,hw⟩
     all_goals
      have Hb:=hide hb;have Hw:=hide hw;clear hb hw
      go_wp2_with fail
     ·go_ret;exact⟨ag.no (Bc qI.out Gm.out (by simpa using Hb.out)),aZ HB.out (Jm Hw.out)⟩
     ·go_roundw
      case rel=>exact⟨i+1,by omega,by go_num,aZ HB.out (Jm Hw.out),hide (oV hall.out qI.out Gm.out (by simpa using Hb.out))⟩
      case measure=>simp[intOf];omega
    ·have HB:=hide hB;clear hB
     go_wp2_with fail
     go_ret;exact⟨ag.yes (uT hall.out Hn.out hlt),HB.out⟩
  ·have hd:((f.len:Int) != (g.len:Int))=true:=by simp;omega
   have Hn:=hide hn;clear hn;go_enter Tryz.func206,Tryz.ntmps206
   go_wp2_with fail
   go_ret;exact⟨ag.no (fun h=>Hn.out (by rw[h])),Below.refl _ _⟩
theorem WB(N:Nat):∀(S S':Nat→Prop) (A A':Option Addr) (c c':Nat) (f g:Fo) (w:World),f.cnt<N→bz S w A f→bz S' w A' g→f.len≤9223372036854775807→g.len≤9223372036854775807→
  Calls Tryz.prog 224 #[.slice A f.len c,.slice A' g.len c',.func (.func 221) #[] #[]] w fun e w'=>ag (f=g) e∧Below w.heap.size w w':=by
 induction N with
 | zero=>intro _ _ _ _ _ _ _ _ _ h;omega
 | succ N ih =>
  intro S S' A A' c c' f g w hN hf hg hlf CP;have xU:=hide ih;have HN:=hide hN;have Hf:=hide hf;have Hg:=hide hg;clear ih hN hf hg;by_cases hn:f.len=g.len
  ·have hd:((f.len:Int) != (g.len:Int))=false:=by simp[hn]
   have Hn:=hide hn;clear hn;go_enter Tryz.func224,Tryz.ntmps224
   go_wp2_with fail
   go_loopw [17,7,8,9] (fun i _ _ _ wr=>∃k:Nat,k≤f.len∧i = .int .i64 k∧Below w.heap.size w wr∧Hid (f=g↔f.drop k=g.drop k)) (fun i _ _ _ _=>f.len-(intOf i).toNat)
   case atStart=>exact⟨0,Nat.zero_le _,rfl,Below.refl _ _,hide Iff.rfl⟩
   case round =>
    obtain⟨i,hi,rfl,hB,hall⟩:=hrel;by_cases hlt:i<f.len
    ·obtain⟨b,o,KA,kc,k,t,n,ks,r,rfl,hdf,c0,c1,c2,c3,e1,e2,e3,e4,e5,hks,hcnt⟩:=(Hf.out.below hB).at_ hlt;have hlt2:i<g.len:=by have:=Hn.out;omega
     obtain⟨b',o',nU,Gl,k',t',n',ks',r',rfl,hdg,d0,d1,d2,d3,f1,f2,f3,f4,f5,dR,uU⟩:=(Hg.out.below hB).at_ hlt2;have HB:=hide hB;have kS:=hide hks;have iO:=hide dR;have qI:=hide hdf;have Gm:=hide hdg;have Hc:=hide hcnt;clear hB hks dR hdf hdg hcnt uU;have uV:Hid (∀W,Below wr.heap.size wr W→Calls Tryz.prog 224 #[.slice KA ks.len kc,.slice nU ks'.len Gl,.func (.func 221) #[] #[]] W fun e w'=>ag (ks=ks') e∧Below W.heap.size W w'):=
      hide fun W hW=>xU.out S S' KA nU kc Gl ks ks' W (by have:=Hc.out;have:=HN.out;omega) (kS.out.below hW) (iO.out.below hW) (by omega) (by omega)
     have hb2:b'<wr.heap.size:=block_lt_of_cell d0
     go_wp2_with fail
     refine(RG fun W hW=>uV.out W (Am hW)).mono ?_;rintro e w1 ⟨⟨_|_,rfl,hb⟩,hw⟩
     all_goals
      have Hb:=hide hb;have Hw:=hide hw;clear hb hw
      go_wp2_with fail
     ·go_ret;exact⟨ag.no (Bc qI.out Gm.out (by simpa using Hb.out)),aZ HB.out (Am Hw.out)⟩
     ·go_roundw
      case rel=>exact⟨i+1,by omega,by go_num,aZ HB.out (Am Hw.out),hide (oV hall.out qI.out Gm.out (by simpa using Hb.out))⟩
      case measure=>simp[intOf];omega
    ·have HB:=hide hB;clear hB
     go_wp2_with fail
     go_ret;exact⟨ag.yes (uT hall.out Hn.out hlt),HB.out⟩
  ·have hd:((f.len:Int) != (g.len:Int))=true:=by simp;omega
   have Hn:=hide hn;clear hn;go_enter Tryz.func224,Tryz.ntmps224
   go_wp2_with fail
   go_ret;exact⟨ag.no (fun h=>Hn.out (by rw[h])),Below.refl _ _⟩
theorem RH{S S':Nat→Prop}{A A':Option Addr}{c c':Nat}{f g:Fo}{w:World}(hf:bz S w A f)(hg:bz S' w A' g)(hlf:f.len≤9223372036854775807)(CP:g.len≤9223372036854775807):
  Calls Tryz.prog 206 #[.slice A f.len c,.slice A' g.len c'] w fun e w'=>ag (f=g) e∧Below w.heap.size w w' :=
 WA (f.cnt+1) S S' A A' c c' f g w (by omega) hf hg hlf CP
theorem Nb{S S':Nat→Prop}{A A':Option Addr}{c c':Nat}{f g:Fo}{w:World}(hf:bz S w A f)(hg:bz S' w A' g)(hlf:f.len≤9223372036854775807)(CP:g.len≤9223372036854775807):
  Calls Tryz.prog 224 #[.slice A f.len c,.slice A' g.len c',.func (.func 221) #[] #[]] w fun e w'=>ag (f=g) e∧Below w.heap.size w w' :=
 WB (f.cnt+1) S S' A A' c c' f g w (by omega) hf hg hlf CP
theorem WC{S S':Nat→Prop}{k k':Nat}{t t':ByteArray}{n n':Int}{A A':Option Addr}{c c':Nat}{f g:Fo}{w:World}(hf:bz S w A f)(hg:bz S' w A' g)(hlf:f.len≤9223372036854775807)(CP:g.len≤9223372036854775807):
  Calls Tryz.prog 221 #[.agg #[.int .u8 k,.string t,.int .i64 n,.slice A f.len c],.agg #[.int .u8 k',.string t',.int .i64 n',.slice A' g.len c']] w
   fun e w'=>ag (k=k'∧t=t'∧n=n'∧f=g) e∧Below w.heap.size w w' :=
 RG fun _ hW=>Nb (hf.below hW) (hg.below hW) hlf CP
theorem WE{S S':Nat→Prop}{x y:Hh}{a b:Hk}{w:World}(ha:gW S w x a)(hb:gW S' w y b):
  Calls Tryz.prog 153 #[.agg #[.int .i64 a.at_,.slice x.oA a.old.length x.oc,.slice x.nA a.new.length x.nc],.agg #[.int .i64 b.at_,.slice y.oA b.old.length y.oc,.slice y.nA b.new.length y.nc]] w
   fun e w'=>ag (a=b) e∧Below w.heap.size w w':=by
 have Ha:=hide ha;have Hb:=hide hb;have kC:=hide (@Hk.eq_iff a b);have jM:=hide True.intro;clear ha hb;go_enter Tryz.func153,Tryz.ntmps153
 go_wp2_with(go_at_call 65;first
  | ((with_reducible refine(QD (Ha.out.old.below (fO _ _)) (Hb.out.old.below (fO _ _))).mono ?_);rintro e w1 ⟨⟨b1,rfl,hb⟩,q,rfl⟩;have Hb1:=hide hb;clear hb)
  | ((with_reducible refine(QD (Ha.out.new.below (bW (fO _ _) _)) (Hb.out.new.below (bW (fO _ _) _))).mono ?_);rintro e w2 ⟨⟨b2,rfl,hb⟩,q2,rfl⟩;have Hb2:=hide hb;clear hb))
 all_goals
  go_ret;go_tidy;refine⟨ag.mk ?_,?_⟩
  ·rw[kC.out]
   first
    | (have jl:=Hb1.out;have lN:=Hb2.out;clear Hb1 Hb2;have ht:=jM.out;grind)
    | (have jl:=Hb1.out;clear Hb1;have ht:=jM.out;grind)
    | (have ht:=jM.out;grind)
  ·first
    | exact fO _ _
    | exact bW (fO _ _) _
theorem WG{S S':Nat→Prop}{x y:Eh}{a b:Ed}{w:World}(ha:dD S w x a)(hb:dD S' w y b):
  Calls Tryz.prog 155 #[.agg #[.int .u8 a.kind,.slice x.pA a.path.length x.pc,.int .i64 a.at_,.int .i64 a.far,.string a.frm,.string a.to,.slice x.oA a.old.len x.oc,.slice x.nA a.new.len x.nc],.agg #[.int .u8 b.kind,.slice y.pA b.path.length y.pc,.int .i64 b.at_,.int .i64 b.far,.string b.frm,.string b.to,.slice y.oA b.old.len y.oc,.slice y.nA b.new.len y.nc]] w
   fun e w'=>ag (a=b) e∧Below w.heap.size w w':=by
 have lo:=aI ha.oc.1 ha.oc.2;have ln:=aI ha.nc.1 ha.nc.2;have lo':=aI hb.oc.1 hb.oc.2;have Nc:=aI hb.nc.1 hb.nc.2;have Ha:=hide ha;have Hb:=hide hb;have kC:=hide (@Ed.eq_iff a b);have jM:=hide (And.intro (dW (s:=a.frm) (t:=b.frm)) (dW (s:=a.to) (t:=b.to)));clear ha hb;go_enter Tryz.func155,Tryz.ntmps155
 go_wp2_with(first
  | (go_at_call 207;(with_reducible refine(Vr (Ha.out.path.below (fO _ _)) (Hb.out.path.below (fO _ _))).mono ?_);rintro e w1 ⟨⟨b1,rfl,hb⟩,q,rfl⟩;have Hb1:=hide hb;clear hb)
  | (go_at_call 206;(with_reducible refine(RH (Ha.out.old.below (bW (fO _ _) _)) (Hb.out.old.below (bW (fO _ _) _)) lo lo').mono ?_);rintro e w2 ⟨⟨b2,rfl,hb⟩,hB⟩;have Hb2:=hide hb;have HB:=hide (aZ (bW (fO _ _) _) hB);obtain⟨hc,hf⟩:=fM hB;have hz:w.heap.size+1<w2.heap.size:=(by have:=hB.size;simp at this;omega);clear hb hB)
  | (go_at_call 206;(with_reducible refine(RH (Ha.out.new.below HB.out) (Hb.out.new.below HB.out) ln Nc).mono ?_);rintro e w3 ⟨⟨b3,rfl,hb⟩,hB⟩;have Hb3:=hide hb;have HB3:=hide (aZ HB.out hB);clear hb hB))
 all_goals
  go_ret;go_tidy;refine⟨ag.mk ?_,?_⟩
  ·rw[kC.out]
   first
    | (have jl:=Hb1.out;have lN:=Hb2.out;have CQ:=Hb3.out;clear Hb1 Hb2 Hb3;have ht:=jM.out;grind)
    | (have jl:=Hb1.out;have lN:=Hb2.out;clear Hb1 Hb2;have ht:=jM.out;grind)
    | (have jl:=Hb1.out;clear Hb1;have ht:=jM.out;grind)
    | (have ht:=jM.out;grind)
  ·first
    | exact HB3.out
    | exact HB.out
    | exact fO _ _
    | exact bW (fO _ _) _
theorem WH{S S':Nat→Prop}{x y:Ph}{a b:Pt}{w:World}(ha:aV S w x a)(hb:aV S' w y b):
  Calls Tryz.prog 124 #[.agg #[.int .u8 a.kind,.string a.file,.string a.text,.int .i64 a.hunk.at_,.slice x.h.oA a.hunk.old.length x.h.oc,.slice x.h.nA a.hunk.new.length x.h.nc,.int .u8 a.edit.kind,.slice x.e.pA a.edit.path.length x.e.pc,.int .i64 a.edit.at_,.int .i64 a.edit.far,.string a.edit.frm,.string a.edit.to,.slice x.e.oA a.edit.old.len x.e.oc,.slice x.e.nA a.edit.new.len x.e.nc],.agg #[.int .u8 b.kind,.string b.file,.string b.text,.int .i64 b.hunk.at_,.slice y.h.oA b.hunk.old.length y.h.oc,.slice y.h.nA b.hunk.new.length y.h.nc,.int .u8 b.edit.kind,.slice y.e.pA b.edit.path.length y.e.pc,.int .i64 b.edit.at_,.int .i64 b.edit.far,.string b.edit.frm,.string b.edit.to,.slice y.e.oA b.edit.old.len y.e.oc,.slice y.e.nA b.edit.new.len y.e.nc]] w
   fun e w'=>ag (a=b) e∧Below w.heap.size w w':=by
 have Ha:=hide ha;have Hb:=hide hb;have kC:=hide (@Pt.eq_iff a b);have jM:=hide (And.intro (dW (s:=a.file) (t:=b.file)) (dW (s:=a.text) (t:=b.text)));clear ha hb;go_enter Tryz.func124,Tryz.ntmps124
 go_wp2_with(first
  | (go_at_call 153;(with_reducible refine(WE (Ha.out.hunk.below (fO _ _)) (Hb.out.hunk.below (fO _ _))).mono ?_);rintro e w1 ⟨⟨b1,rfl,hb⟩,hB⟩;have Hb1:=hide hb;have HB:=hide (aZ (fO _ _) hB);obtain⟨hc,hf⟩:=fM hB;have hz:w.heap.size+1<w1.heap.size:=(by have:=hB.size;simp at this;omega);clear hb hB)
  | (go_at_call 155;(with_reducible refine(WG (Ha.out.edit.below HB.out) (Hb.out.edit.below HB.out)).mono ?_);rintro e w2 ⟨⟨b2,rfl,hb⟩,hB⟩;have Hb2:=hide hb;have HB2:=hide (aZ HB.out hB);clear hb hB))
 all_goals
  go_ret;go_tidy;refine⟨ag.mk ?_,?_⟩
  ·rw[kC.out]
   first
    | (have jl:=Hb1.out;have lN:=Hb2.out;clear Hb1 Hb2;have ht:=jM.out;grind)
    | (have jl:=Hb1.out;clear Hb1;have ht:=jM.out;grind)
    | (have ht:=jM.out;grind)
  ·first
    | exact HB2.out
    | exact HB.out
    | exact fO _ _
theorem JM{S S':Nat→Prop}{x y:Ph}{a b:Pt}{w:World}(ha:aV S w x a)(hb:aV S' w y b):
  Calls Tryz.prog 175 #[.agg #[.int .u8 a.kind,.string a.file,.string a.text,.int .i64 a.hunk.at_,.slice x.h.oA a.hunk.old.length x.h.oc,.slice x.h.nA a.hunk.new.length x.h.nc,.int .u8 a.edit.kind,.slice x.e.pA a.edit.path.length x.e.pc,.int .i64 a.edit.at_,.int .i64 a.edit.far,.string a.edit.frm,.string a.edit.to,.slice x.e.oA a.edit.old.len x.e.oc,.slice x.e.nA a.edit.new.len x.e.nc],.agg #[.int .u8 b.kind,.string b.file,.string b.text,.int .i64 b.hunk.at_,.slice y.h.oA b.hunk.old.length y.h.oc,.slice y.h.nA b.hunk.new.length y.h.nc,.int .u8 b.edit.kind,.slice y.e.pA b.edit.path.length y.e.pc,.int .i64 b.edit.at_,.int .i64 b.edit.far,.string b.edit.frm,.string b.edit.to,.slice y.e.oA b.edit.old.len y.e.oc,.slice y.e.nA b.edit.new.len y.e.nc]] w
   fun e w'=>ag (a=b) e∧Below w.heap.size w w':=by
 have lo:=aI ha.edit.oc.1 ha.edit.oc.2;have ln:=aI ha.edit.nc.1 ha.edit.nc.2;have lo':=aI hb.edit.oc.1 hb.edit.oc.2;have Nc:=aI hb.edit.nc.1 hb.edit.nc.2;have Ha:=hide ha;have Hb:=hide hb;have kC:=hide (Pt.eq_all (a:=a) (b:=b));have jM:=hide (And.intro (dW (s:=a.file) (t:=b.file)) (And.intro (dW (s:=a.text) (t:=b.text)) (And.intro (dW (s:=a.edit.frm) (t:=b.edit.frm)) (dW (s:=a.edit.to) (t:=b.edit.to)))));clear ha hb;go_enter Tryz.func175,Tryz.ntmps175
 go_wp2_with fail
 go_region
 all_goals go_wp2_with(first
  | (go_at_call 215;(with_reducible refine(LP (Ha.out.hunk.old.below (Lm _ _ _ _)) (Hb.out.hunk.old.below (Lm _ _ _ _))).mono ?_);rintro e w1 ⟨⟨b1,rfl,hb⟩,q,rfl⟩;have Hb1:=hide hb;clear hb)
  | (go_at_call 215;(with_reducible refine(LP (Ha.out.hunk.new.below (bW (Ap _ _ _ _) _)) (Hb.out.hunk.new.below (bW (Ap _ _ _ _) _))).mono ?_);rintro e w1 ⟨⟨b2,rfl,hb⟩,q,rfl⟩;have Hb2:=hide hb;clear hb)
  | (go_at_call 223;(with_reducible refine(Vs (Ha.out.edit.path.below (bW (Ap _ _ _ _) _)) (Hb.out.edit.path.below (bW (Ap _ _ _ _) _))).mono ?_);rintro e w1 ⟨⟨b3,rfl,hb⟩,q,rfl⟩;have Hb3:=hide hb;clear hb)
  | (go_at_call 224;(with_reducible refine(Nb (Ha.out.edit.old.below (bW (Ap _ _ _ _) _)) (Hb.out.edit.old.below (bW (Ap _ _ _ _) _)) lo lo').mono ?_);rintro e w2 ⟨⟨b4,rfl,hb⟩,hB⟩;have Hb4:=hide hb;have HB:=hide (aZ (bW (Ap _ _ _ _) _) hB);obtain⟨hc,hf⟩:=fM hB;have hz:w.heap.size+3<w2.heap.size:=(by have:=hB.size;simp at this;omega);clear hb hB)
  | (go_at_call 224;(with_reducible refine(Nb (Ha.out.edit.new.below HB.out) (Hb.out.edit.new.below HB.out) ln Nc).mono ?_);rintro e w3 ⟨⟨b5,rfl,hb⟩,hB⟩;have Hb5:=hide hb;have HB3:=hide (aZ HB.out hB);clear hb hB))
 all_goals
  go_ret;go_tidy;refine⟨ag.mk ?_,?_⟩
  ·rw[kC.out]
   first
    | (have jl:=Hb1.out;have lN:=Hb2.out;have CQ:=Hb3.out;have Nh:=Hb4.out;have WI:=Hb5.out;clear Hb1 Hb2 Hb3 Hb4 Hb5;have ht:=jM.out;grind)
    | (have jl:=Hb1.out;have lN:=Hb2.out;have CQ:=Hb3.out;have Nh:=Hb4.out;clear Hb1 Hb2 Hb3 Hb4;have ht:=jM.out;grind)
    | (have jl:=Hb1.out;have lN:=Hb2.out;have CQ:=Hb3.out;clear Hb1 Hb2 Hb3;have ht:=jM.out;grind)
    | (have jl:=Hb1.out;have lN:=Hb2.out;clear Hb1 Hb2;have ht:=jM.out;grind)
    | (have jl:=Hb1.out;clear Hb1;have ht:=jM.out;grind)
    | (have ht:=jM.out;grind)
  ·first
    | exact HB3.out
    | exact HB.out
    | exact Lm _ _ _ _
    | exact bW (Ap _ _ _ _) _
end
end Go.Proofs.YtjjaojnglnpgaaaGreatDoor
