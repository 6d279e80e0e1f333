/- Part 11 of what commuteFiles_cardUpto rests on. -/
import Derived.StillTailTactics
import Derived.Test.YtialngdffhmobaaGreatDoorV02
import Derived.Test.YtialngdffhmobaaGreatDoorV00
set_option linter.unusedVariables false
set_option linter.unusedSimpArgs false
set_option maxHeartbeats 16000000
set_option maxRecDepth 1000000
namespace Go.Proofs.YtialngdffhmobaaGreatDoor
section
open Go.RowKit
theorem KY{k k':Nat}{t t':ByteArray}{n n':Int}{A A':Option Addr}{c c':Nat}{ks ks':Fo}{w:World}
  (hk :∀W,Below w.heap.size w W→Calls Tryz.prog 78 #[.slice A ks.len c,.slice A' ks'.len c'] W fun e w'=>ay (ks=ks') e∧Below W.heap.size W w'):
  Calls Tryz.prog 135 #[.agg #[.int .u8 k,.string t,.int .i64 n,.slice A ks.len c],.agg #[.int .u8 k',.string t',.int .i64 n',.slice A' ks'.len c']] w
   fun e w'=>ay (k=k'∧t=t'∧n=n'∧ks=ks') e∧Below w.heap.size w w':=by
 have Hk:=hide hk;clear hk;have htt:=hide (iZ (s:=t) (t:=t'));go_enter Tryz.func135,Tryz.ntmps135
 go_wp2_with(go_at_call 78;refine(Hk.out _ (dW _ _)).mono ?_;rintro e w' ⟨⟨b,rfl,hb⟩,hw⟩;have Hb:=hide hb;have Hw:=hide hw;clear hb hw)
 all_goals
  go_ret;go_tidy;have htt:=htt.out;refine⟨ay.mk (by first|(rw[Hb.out];grind)|grind),?_⟩
  first
   | exact qY Hw.out
   | exact dW _ _
theorem Ir{k k':Nat}{t t':ByteArray}{n n':Int}{A A':Option Addr}{c c':Nat}{ks ks':Fo}{w:World}
  (hk :∀W,Below w.heap.size w W→Calls Tryz.prog 113 #[.slice A ks.len c,.slice A' ks'.len c',.func (.func 110) #[] #[]] W fun e w'=>ay (ks=ks') e∧Below W.heap.size W w'):
  Calls Tryz.prog 110 #[.agg #[.int .u8 k,.string t,.int .i64 n,.slice A ks.len c],.agg #[.int .u8 k',.string t',.int .i64 n',.slice A' ks'.len c']] w
   fun e w'=>ay (k=k'∧t=t'∧n=n'∧ks=ks') e∧Below w.heap.size w w':=by
 have Hk:=hide hk;clear hk;have htt:=hide (iZ (s:=t) (t:=t'));go_enter Tryz.func110,Tryz.ntmps110
 go_wp2_with(go_at_call 113;refine(Hk.out _ (dW _ _)).mono ?_;rintro e w' ⟨⟨b,rfl,hb⟩,hw⟩;have Hb:=hide hb;have Hw:=hide hw;clear hb hw)
 all_goals
  go_ret;go_tidy;have htt:=htt.out;refine⟨ay.mk (by first|(rw[Hb.out];grind)|grind),?_⟩
  first
   | exact qY Hw.out
   | exact dW _ _
theorem oN{f g:Fo}{i k k':Nat}{t t':ByteArray}{n n':Int}{ks ks' r r':Fo}(h:f=g↔f.drop i=g.drop i)(hf:f.drop i = .cons k t n ks r)(hg:g.drop i = .cons k' t' n' ks' r')
  (he:k=k'∧t=t'∧n=n'∧ks=ks'):f=g↔f.drop (i+1)=g.drop (i+1):=by
 obtain⟨rfl,rfl,rfl,rfl⟩:=he;rw[h,hf,hg,Fo.drop_succ hf,Fo.drop_succ hg];simp
theorem wW{f g:Fo}{i k k':Nat}{t t':ByteArray}{n n':Int}{ks ks' r r':Fo}(hf:f.drop i = .cons k t n ks r)(hg:g.drop i = .cons k' t' n' ks' r')
  (he :¬(k=k'∧t=t'∧n=n'∧ks=ks')):¬f=g:=by
 rintro rfl;rw[hf]at hg;injection hg with h1 h2 h3 h4;exact he ⟨h1,h2,h3,h4⟩
theorem rP{f g:Fo}{i:Nat}(h:f=g↔f.drop i=g.drop i)(hl:f.len=g.len)(hi :¬i<f.len):f=g:=by
 rw[h,Fo.drop_len f i (by omega),Fo.drop_len g i (by omega)]
theorem KZ(N:Nat):∀(S S':Nat→Prop) (A A':Option Addr) (c c':Nat) (f g:Fo) (w:World),f.cnt<N→bu S w A f→bu S' w A' g→f.len≤9223372036854775807→g.len≤9223372036854775807→
  Calls Tryz.prog 78 #[.slice A f.len c,.slice A' g.len c'] w fun e w'=>ay (f=g) e∧Below w.heap.size w w':=by
 induction N with
 | zero=>intro _ _ _ _ _ _ _ _ _ h;omega
 | succ N ih =>
  intro S S' A A' c c' f g w hN hf hg hlf yc;have oO:=hide ih;have HN:=hide hN;have Hf:=hide hf;have Hg:=hide hg;clear ih hN hf hg;by_cases hn:f.len=g.len
  ·have hd:((f.len:Int) != (g.len:Int))=false:=by simp[hn]
   have Hn:=hide hn;clear hn;go_enter Tryz.func78,Tryz.ntmps78
   go_wp2_with fail
   go_loopw [5] (fun i wr=>∃k:Nat,k≤f.len∧i = .int .i64 k∧Below w.heap.size w wr∧Hid (f=g↔f.drop k=g.drop k)) (fun i _=>f.len-(intOf i).toNat)
   case atStart=>exact⟨0,Nat.zero_le _,rfl,Below.refl _ _,hide Iff.rfl⟩
   case round =>
    obtain⟨i,hi,rfl,hB,hall⟩:=hrel;by_cases hlt:i<f.len
    ·obtain⟨b,o,KA,kc,k,t,n,ks,r,rfl,hdf,c0,c1,c2,c3,e1,e2,e3,e4,e5,hks,hcnt⟩:=(Hf.out.below hB).at_ hlt;have hlt2:i<g.len:=by have:=Hn.out;omega
     obtain⟨b',o',jW,AP,k',t',n',ks',r',rfl,hdg,d0,d1,d2,d3,f1,f2,f3,f4,f5,fD,rQ⟩:=(Hg.out.below hB).at_ hlt2;have HB:=hide hB;have mW:=hide hks;have ji:=hide fD;have ql:=hide hdf;have AQ:=hide hdg;have Hc:=hide hcnt;clear hB hks fD hdf hdg hcnt rQ;have yf:Hid (∀W,Below wr.heap.size wr W→Calls Tryz.prog 78 #[.slice KA ks.len kc,.slice jW ks'.len AP] W fun e w'=>ay (ks=ks') e∧Below W.heap.size W w'):=
      hide fun W hW=>oO.out S S' KA jW kc AP ks ks' W (by have:=Hc.out;have:=HN.out;omega) (mW.out.below hW) (ji.out.below hW) (by omega) (by omega)
     go_wp2_with fail
     go_still_tail 8,(by kernel_rfl)
     change wpList _ _ _ _ _ wr.drew
     go_wp2_with fail
     refine(KY (w:=wr.drew) fun W hW=>yf.out W (uF hW)).mono ?_;rintro e w1 ⟨⟨_|_,rfl,hb⟩,hw⟩
     all_goals
      have Hb:=hide hb;have Hw:=hide hw;clear hb hw
      go_wp2_with fail
     ·go_ret;exact⟨ay.no (wW ql.out AQ.out (by simpa using Hb.out)),aQ HB.out (uF Hw.out)⟩
     ·go_roundw
      case rel=>exact⟨i+1,by omega,by go_num,aQ HB.out (uF Hw.out),hide (oN hall.out ql.out AQ.out (by simpa using Hb.out))⟩
      case measure=>simp[intOf];omega
    ·have HB:=hide hB;clear hB
     go_wp2_with fail
     go_ret;exact⟨ay.yes (rP hall.out Hn.out hlt),HB.out⟩
  ·have hd:((f.len:Int) != (g.len:Int))=true:=by simp;omega
   have Hn:=hide hn;clear hn;go_enter Tryz.func78,Tryz.ntmps78
   go_wp2_with fail
   go_ret;exact⟨ay.no (fun h=>Hn.out (by rw[h])),Below.refl _ _⟩
theorem Lc(N:Nat):∀(S S':Nat→Prop) (A A':Option Addr) (c c':Nat) (f g:Fo) (w:World),f.cnt<N→bu S w A f→bu S' w A' g→f.len≤9223372036854775807→g.len≤9223372036854775807→
  Calls Tryz.prog 113 #[.slice A f.len c,.slice A' g.len c',.func (.func 110) #[] #[]] w fun e w'=>ay (f=g) e∧Below w.heap.size w w':=by
 induction N with
 | zero=>intro _ _ _ _ _ _ _ _ _ h;omega
 | succ N ih =>
  intro S S' A A' c c' f g w hN hf hg hlf yc;have oO:=hide ih;have HN:=hide hN;have Hf:=hide hf;have Hg:=hide hg;clear ih hN hf hg;by_cases hn:f.len=g.len
  ·have hd:((f.len:Int) != (g.len:Int))=false:=by simp[hn]
   have Hn:=hide hn;clear hn;go_enter Tryz.func113,Tryz.ntmps113
   go_wp2_with fail
   go_loopw [17,7,8,9] (fun i _ _ _ wr=>∃k:Nat,k≤f.len∧i = .int .i64 k∧Below w.heap.size w wr∧Hid (f=g↔f.drop k=g.drop k)) (fun i _ _ _ _=>f.len-(intOf i).toNat)
   case atStart=>exact⟨0,Nat.zero_le _,rfl,Below.refl _ _,hide Iff.rfl⟩
   case round =>
    obtain⟨i,hi,rfl,hB,hall⟩:=hrel;by_cases hlt:i<f.len
    ·obtain⟨b,o,KA,kc,k,t,n,ks,r,rfl,hdf,c0,c1,c2,c3,e1,e2,e3,e4,e5,hks,hcnt⟩:=(Hf.out.below hB).at_ hlt;have hlt2:i<g.len:=by have:=Hn.out;omega
     obtain⟨b',o',jW,AP,k',t',n',ks',r',rfl,hdg,d0,d1,d2,d3,f1,f2,f3,f4,f5,fD,rQ⟩:=(Hg.out.below hB).at_ hlt2;have HB:=hide hB;have mW:=hide hks;have ji:=hide fD;have ql:=hide hdf;have AQ:=hide hdg;have Hc:=hide hcnt;clear hB hks fD hdf hdg hcnt rQ;have yf:Hid (∀W,Below wr.heap.size wr W→Calls Tryz.prog 113 #[.slice KA ks.len kc,.slice jW ks'.len AP,.func (.func 110) #[] #[]] W fun e w'=>ay (ks=ks') e∧Below W.heap.size W w'):=
      hide fun W hW=>oO.out S S' KA jW kc AP ks ks' W (by have:=Hc.out;have:=HN.out;omega) (mW.out.below hW) (ji.out.below hW) (by omega) (by omega)
     have hb2:b'<wr.heap.size:=block_lt_of_cell d0
     go_wp2_with fail
     refine(Ir fun W hW=>yf.out W (qY hW)).mono ?_;rintro e w1 ⟨⟨_|_,rfl,hb⟩,hw⟩
     all_goals
      have Hb:=hide hb;have Hw:=hide hw;clear hb hw
      go_wp2_with fail
     ·go_ret;exact⟨ay.no (wW ql.out AQ.out (by simpa using Hb.out)),aQ HB.out (qY Hw.out)⟩
     ·go_roundw
      case rel=>exact⟨i+1,by omega,by go_num,aQ HB.out (qY Hw.out),hide (oN hall.out ql.out AQ.out (by simpa using Hb.out))⟩
      case measure=>simp[intOf];omega
    ·have HB:=hide hB;clear hB
     go_wp2_with fail
     go_ret;exact⟨ay.yes (rP hall.out Hn.out hlt),HB.out⟩
  ·have hd:((f.len:Int) != (g.len:Int))=true:=by simp;omega
   have Hn:=hide hn;clear hn;go_enter Tryz.func113,Tryz.ntmps113
   go_wp2_with fail
   go_ret;exact⟨ay.no (fun h=>Hn.out (by rw[h])),Below.refl _ _⟩
theorem Iu{S S':Nat→Prop}{A A':Option Addr}{c c':Nat}{f g:Fo}{w:World}(hf:bu S w A f)(hg:bu S' w A' g)(hlf:f.len≤9223372036854775807)(yc:g.len≤9223372036854775807):
  Calls Tryz.prog 78 #[.slice A f.len c,.slice A' g.len c'] w fun e w'=>ay (f=g) e∧Below w.heap.size w w' :=
 KZ (f.cnt+1) S S' A A' c c' f g w (by omega) hf hg hlf yc
theorem Eu{S S':Nat→Prop}{A A':Option Addr}{c c':Nat}{f g:Fo}{w:World}(hf:bu S w A f)(hg:bu S' w A' g)(hlf:f.len≤9223372036854775807)(yc:g.len≤9223372036854775807):
  Calls Tryz.prog 113 #[.slice A f.len c,.slice A' g.len c',.func (.func 110) #[] #[]] w fun e w'=>ay (f=g) e∧Below w.heap.size w w' :=
 Lc (f.cnt+1) S S' A A' c c' f g w (by omega) hf hg hlf yc
theorem Ld{S S':Nat→Prop}{k k':Nat}{t t':ByteArray}{n n':Int}{A A':Option Addr}{c c':Nat}{f g:Fo}{w:World}(hf:bu S w A f)(hg:bu S' w A' g)(hlf:f.len≤9223372036854775807)(yc:g.len≤9223372036854775807):
  Calls Tryz.prog 110 #[.agg #[.int .u8 k,.string t,.int .i64 n,.slice A f.len c],.agg #[.int .u8 k',.string t',.int .i64 n',.slice A' g.len c']] w
   fun e w'=>ay (k=k'∧t=t'∧n=n'∧f=g) e∧Below w.heap.size w w' :=
 Ir fun _ hW=>Eu (hf.below hW) (hg.below hW) hlf yc
end
end Go.Proofs.YtialngdffhmobaaGreatDoor
