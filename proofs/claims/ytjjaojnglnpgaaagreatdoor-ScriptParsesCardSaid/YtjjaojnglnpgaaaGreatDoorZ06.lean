/- Part 7 of what scriptParses_card rests on. -/
import Derived.Test.YtjjaojnglnpgaaaGreatDoorProg
import Derived.StillTailTactics
import Derived.Test.YtjjaojnglnpgaaaGreatDoorZ01
import Derived.Test.YtjjaojnglnpgaaaGreatDoorZ00
set_option linter.unusedVariables false
set_option linter.unusedSimpArgs false
set_option maxHeartbeats 16000000
set_option maxRecDepth 1000000
namespace Go.Proofs.YtjjaojnglnpgaaaGreatDoor
section
open Go.RowKit
theorem P5(k:Nat)(w:World):Calls Tryz.prog 299 #[.int .u8 k] w fun e w'=>RetB (Expr k) e∧w=w':=by
 go_enter Tryz.func299,Tryz.ntmps299
 go_wp2
 all_goals(go_ret;go_tidy;exact⟨RetB.mk (by unfold Expr;grind),rfl⟩)
theorem lL(k:Nat)(w:World):Calls Tryz.prog 306 #[.int .u8 k] w fun e w'=>RetB (Stmt k) e∧w=w':=by
 go_enter Tryz.func306,Tryz.ntmps306
 go_wp2
 all_goals(go_ret;go_tidy;exact⟨RetB.mk (by unfold Stmt;grind),rfl⟩)
theorem Ij(k:Nat)(w:World):Calls Tryz.prog 305 #[.int .u8 k] w fun e w'=>RetB (Named k) e∧w=w':=by
 go_enter Tryz.func305,Tryz.ntmps305
 go_wp2
 all_goals(go_ret;go_tidy;exact⟨RetB.mk (by unfold Named;grind),rfl⟩)
def manyI(k:Nat):Int :=
 if k=1∨k=3∨k=5∨k=25 then -1
 else if k=2∨k=7∨k=9∨k=24∨k=26∨k=27 then 2
 else if k=8 then 3
 else if k=6∨k=10∨k=11∨k=23∨k=28∨k=12 then 1
 else 0
theorem Ik{k n:Nat}:many k=some n↔manyI k=n:=by
 unfold many manyI
 repeat' split
 all_goals simp<;>omega
theorem KN(k:Nat):-1≤manyI k∧manyI k≤3:=by
 unfold manyI
 repeat' split
 all_goals omega
theorem P6(k:Nat)(w:World):Calls Tryz.prog 300 #[.int .u8 k] w fun e w'=>e = .returned (.int .i64 (manyI k))∧w=w':=by
 go_enter Tryz.func300,Tryz.ntmps300
 go_wp2
 all_goals go_ret
 all_goals go_tidy
 all_goals first
  | (have e:manyI k = -1:=(by unfold manyI;grind);exact⟨by rw[e];rfl,rfl⟩)
  | (have e:manyI k=2:=(by unfold manyI;grind);exact⟨by rw[e];rfl,rfl⟩)
  | (have e:manyI k=3:=(by unfold manyI;grind);exact⟨by rw[e];rfl,rfl⟩)
  | (have e:manyI k=1:=(by unfold manyI;grind);exact⟨by rw[e];rfl,rfl⟩)
  | (have e:manyI k=0:=(by unfold manyI;grind);exact⟨by rw[e];rfl,rfl⟩)
theorem P7(p k i:Nat)(w:World):Calls Tryz.prog 302 #[.int .u8 p,.int .u8 k,.int .i64 i] w fun e w'=>RetB (FitsIn p k i) e∧w=w':=by
  have hm:=KN p;have hF:Hid (∀i:Nat,FitsIn p k i↔(0≤manyI p→(i:Int)<manyI p)∧(if p=1 then k=2
   else if p=2 then(i=0∧k=3)∨(i=1∧k=5)
   else if p=3 then k=4
   else if p=5 then Stmt k
   else if p=7 then(i=0∧(k=22∨k=26))∨(i=1∧Expr k)
   else if p=8∨p=9 then(i=0∧Expr k)∨(0<i∧k=5)
   else if p=12 then k=25
   else Expr k)):=hide (by
    intro i;unfold FitsIn;refine and_congr ⟨fun h h0=>?_,fun h n hn=>?_⟩ Iff.rfl
    · have:=h (manyI p).toNat (Ik.2 (by omega))
      omega
    · have h1:=Ik.1 hn
      have:=h (by omega);omega)
  go_enter Tryz.func302,Tryz.ntmps302
  go_wp2_with(first
    | (go_at_call 300;(with_reducible refine(P6 p _).mono ?_);rintro e w1 ⟨rfl,rfl⟩)
    | (go_at_call 306;(with_reducible refine(lL k _).mono ?_);rintro e w1 ⟨⟨b,rfl,hb⟩,rfl⟩)
    | (go_at_call 299;(with_reducible refine(P5 k _).mono ?_);rintro e w1 ⟨⟨b,rfl,hb⟩,rfl⟩))
  all_goals(go_ret;go_tidy;exact⟨RetB.mk (by rw[hF.out];clear hF;grind),rfl⟩)
theorem P8{k k':Nat}{t t':ByteArray}{n n':Int}{A A':Option Addr}{c c':Nat}{ks ks':Fo}{w:World}
  (hk :∀W,Below w.heap.size w W→Calls Tryz.prog 206 #[.slice A ks.len c,.slice A' ks'.len c'] W fun e w'=>RetB (ks=ks') e∧Below W.heap.size W w'):
  Calls Tryz.prog 148 #[.agg #[.int .u8 k,.string t,.int .i64 n,.slice A ks.len c],.agg #[.int .u8 k',.string t',.int .i64 n',.slice A' ks'.len c']] w
   fun e w'=>RetB (k=k'∧t=t'∧n=n'∧ks=ks') e∧Below w.heap.size w w':=by
 have Hk:=hide hk;clear hk;have htt:=hide (bu (s:=t) (t:=t'));go_enter Tryz.func148,Tryz.ntmps148
 go_wp2_with(go_at_call 206;refine(Hk.out _ (bT _ _)).mono ?_;rintro e w' ⟨⟨b,rfl,hb⟩,hw⟩;have Hb:=hide hb;have Hw:=hide hw;clear hb hw)
 all_goals
  go_ret;go_tidy;have htt:=htt.out;refine⟨RetB.mk (by first|(rw[Hb.out];grind)|grind),?_⟩
  first
   | exact xQ Hw.out
   | exact bT _ _
theorem P9{k k':Nat}{t t':ByteArray}{n n':Int}{A A':Option Addr}{c c':Nat}{ks ks':Fo}{w:World}
  (hk :∀W,Below w.heap.size w W→Calls Tryz.prog 224 #[.slice A ks.len c,.slice A' ks'.len c',.func (.func 221) #[] #[]] W fun e w'=>RetB (ks=ks') e∧Below W.heap.size W w'):
  Calls Tryz.prog 221 #[.agg #[.int .u8 k,.string t,.int .i64 n,.slice A ks.len c],.agg #[.int .u8 k',.string t',.int .i64 n',.slice A' ks'.len c']] w
   fun e w'=>RetB (k=k'∧t=t'∧n=n'∧ks=ks') e∧Below w.heap.size w w':=by
 have Hk:=hide hk;clear hk;have htt:=hide (bu (s:=t) (t:=t'));go_enter Tryz.func221,Tryz.ntmps221
 go_wp2_with(go_at_call 224;refine(Hk.out _ (bT _ _)).mono ?_;rintro e w' ⟨⟨b,rfl,hb⟩,hw⟩;have Hb:=hide hb;have Hw:=hide hw;clear hb hw)
 all_goals
  go_ret;go_tidy;have htt:=htt.out;refine⟨RetB.mk (by first|(rw[Hb.out];grind)|grind),?_⟩
  first
   | exact xQ Hw.out
   | exact bT _ _
theorem kE{f g:Fo}{i k k':Nat}{t t':ByteArray}{n n':Int}{ks ks' r r':Fo}(h:f=g↔f.drop i=g.drop i)(hf:f.drop i = .cons k t n ks r)(hg:g.drop i = .cons k' t' n' ks' r')
  (he:k=k'∧t=t'∧n=n'∧ks=ks'):f=g↔f.drop (i+1)=g.drop (i+1):=by
 obtain⟨rfl,rfl,rfl,rfl⟩:=he;rw[h,hf,hg,Fo.drop_succ hf,Fo.drop_succ hg];simp
theorem yf{f g:Fo}{i k k':Nat}{t t':ByteArray}{n n':Int}{ks ks' r r':Fo}(hf:f.drop i = .cons k t n ks r)(hg:g.drop i = .cons k' t' n' ks' r')
  (he :¬(k=k'∧t=t'∧n=n'∧ks=ks')):¬f=g:=by
 rintro rfl;rw[hf]at hg;injection hg with h1 h2 h3 h4;exact he ⟨h1,h2,h3,h4⟩
theorem pK{f g:Fo}{i:Nat}(h:f=g↔f.drop i=g.drop i)(hl:f.len=g.len)(hi :¬i<f.len):f=g:=by
 rw[h,Fo.drop_len f i (by omega),Fo.drop_len g i (by omega)]
theorem Vp(N:Nat):∀(S S':Nat→Prop) (A A':Option Addr) (c c':Nat) (f g:Fo) (w:World),f.cnt<N→FoIn S w A f→FoIn S' w A' g→f.len≤9223372036854775807→g.len≤9223372036854775807→
  Calls Tryz.prog 206 #[.slice A f.len c,.slice A' g.len c'] w fun e w'=>RetB (f=g) e∧Below w.heap.size w w':=by
 induction N with
 | zero=>intro _ _ _ _ _ _ _ _ _ h;omega
 | succ N ih =>
  intro S S' A A' c c' f g w hN hf hg hlf vF;have uB:=hide ih;have HN:=hide hN;have Hf:=hide hf;have Hg:=hide hg;clear ih hN hf hg;by_cases hn:f.len=g.len
  ·have hd:((f.len:Int) != (g.len:Int))=false:=by simp[hn]
   have Hn:=hide hn;clear hn;go_enter Tryz.func206,Tryz.ntmps206
   go_wp2_with fail
   go_loopw [5] (fun i wr=>∃k:Nat,k≤f.len∧i = .int .i64 k∧Below w.heap.size w wr∧Hid (f=g↔f.drop k=g.drop k)) (fun i _=>f.len-(intOf i).toNat)
   case atStart=>exact⟨0,Nat.zero_le _,rfl,Below.refl _ _,hide Iff.rfl⟩
   case round =>
    obtain⟨i,hi,rfl,hB,hall⟩:=hrel;by_cases hlt:i<f.len
    ·obtain⟨b,o,KA,kc,k,t,n,ks,r,rfl,hdf,c0,c1,c2,c3,e1,e2,e3,e4,e5,hks,hcnt⟩:=(Hf.out.below hB).at_ hlt;have hlt2:i<g.len:=by have:=Hn.out;omega
     obtain⟨b',o',gp,Dx,k',t',n',ks',r',rfl,hdg,d0,d1,d2,d3,f1,f2,f3,f4,f5,dn,pM⟩:=(Hg.out.below hB).at_ hlt2;have HB:=hide hB;have fO:=hide hks;have ji:=hide dn;have iO:=hide hdf;have Dy:=hide hdg;have Hc:=hide hcnt;clear hB hks dn hdf hdg hcnt pM;have zx:Hid (∀W,Below wr.heap.size wr W→Calls Tryz.prog 206 #[.slice KA ks.len kc,.slice gp ks'.len Dx] W fun e w'=>RetB (ks=ks') e∧Below W.heap.size W w'):=
      hide fun W hW=>uB.out S S' KA gp kc Dx ks ks' W (by have:=Hc.out;have:=HN.out;omega) (fO.out.below hW) (ji.out.below hW) (by omega) (by omega)
     go_wp2_with fail
     go_still_tail 8,(by kernel_rfl)
     change wpList _ _ _ _ _ wr.drew
     go_wp2_with fail
     refine(P8 (w:=wr.drew) fun W hW=>zx.out W (uu hW)).mono ?_;rintro e w1 ⟨⟨_|_,rfl,hb⟩,hw⟩
     all_goals
      have Hb:=hide hb;have Hw:=hide hw;clear hb hw
      go_wp2_with fail
     ·go_ret;exact⟨RetB.no (yf iO.out Dy.out (by simpa using Hb.out)),ak HB.out (uu Hw.out)⟩
     ·go_roundw
      case rel=>exact⟨i+1,by omega,by go_num,ak HB.out (uu Hw.out),hide (kE hall.out iO.out Dy.out (by simpa using Hb.out))⟩
      case measure=>simp[intOf];omega
    ·have HB:=hide hB;clear hB
     go_wp2_with fail
     go_ret;exact⟨RetB.yes (pK hall.out Hn.out hlt),HB.out⟩
  ·have hd:((f.len:Int) != (g.len:Int))=true:=by simp;omega
   have Hn:=hide hn;clear hn;go_enter Tryz.func206,Tryz.ntmps206
   go_wp2_with fail
   go_ret;exact⟨RetB.no (fun h=>Hn.out (by rw[h])),Below.refl _ _⟩
theorem Vq(N:Nat):∀(S S':Nat→Prop) (A A':Option Addr) (c c':Nat) (f g:Fo) (w:World),f.cnt<N→FoIn S w A f→FoIn S' w A' g→f.len≤9223372036854775807→g.len≤9223372036854775807→
  Calls Tryz.prog 224 #[.slice A f.len c,.slice A' g.len c',.func (.func 221) #[] #[]] w fun e w'=>RetB (f=g) e∧Below w.heap.size w w':=by
 induction N with
 | zero=>intro _ _ _ _ _ _ _ _ _ h;omega
 | succ N ih =>
  intro S S' A A' c c' f g w hN hf hg hlf vF;have uB:=hide ih;have HN:=hide hN;have Hf:=hide hf;have Hg:=hide hg;clear ih hN hf hg;by_cases hn:f.len=g.len
  ·have hd:((f.len:Int) != (g.len:Int))=false:=by simp[hn]
   have Hn:=hide hn;clear hn;go_enter Tryz.func224,Tryz.ntmps224
   go_wp2_with fail
   go_loopw [17,7,8,9] (fun i _ _ _ wr=>∃k:Nat,k≤f.len∧i = .int .i64 k∧Below w.heap.size w wr∧Hid (f=g↔f.drop k=g.drop k)) (fun i _ _ _ _=>f.len-(intOf i).toNat)
   case atStart=>exact⟨0,Nat.zero_le _,rfl,Below.refl _ _,hide Iff.rfl⟩
   case round =>
    obtain⟨i,hi,rfl,hB,hall⟩:=hrel;by_cases hlt:i<f.len
    ·obtain⟨b,o,KA,kc,k,t,n,ks,r,rfl,hdf,c0,c1,c2,c3,e1,e2,e3,e4,e5,hks,hcnt⟩:=(Hf.out.below hB).at_ hlt;have hlt2:i<g.len:=by have:=Hn.out;omega
     obtain⟨b',o',gp,Dx,k',t',n',ks',r',rfl,hdg,d0,d1,d2,d3,f1,f2,f3,f4,f5,dn,pM⟩:=(Hg.out.below hB).at_ hlt2;have HB:=hide hB;have fO:=hide hks;have ji:=hide dn;have iO:=hide hdf;have Dy:=hide hdg;have Hc:=hide hcnt;clear hB hks dn hdf hdg hcnt pM;have zx:Hid (∀W,Below wr.heap.size wr W→Calls Tryz.prog 224 #[.slice KA ks.len kc,.slice gp ks'.len Dx,.func (.func 221) #[] #[]] W fun e w'=>RetB (ks=ks') e∧Below W.heap.size W w'):=
      hide fun W hW=>uB.out S S' KA gp kc Dx ks ks' W (by have:=Hc.out;have:=HN.out;omega) (fO.out.below hW) (ji.out.below hW) (by omega) (by omega)
     have hb2:b'<wr.heap.size:=block_lt_of_cell d0
     go_wp2_with fail
     refine(P9 fun W hW=>zx.out W (xQ hW)).mono ?_;rintro e w1 ⟨⟨_|_,rfl,hb⟩,hw⟩
     all_goals
      have Hb:=hide hb;have Hw:=hide hw;clear hb hw
      go_wp2_with fail
     ·go_ret;exact⟨RetB.no (yf iO.out Dy.out (by simpa using Hb.out)),ak HB.out (xQ Hw.out)⟩
     ·go_roundw
      case rel=>exact⟨i+1,by omega,by go_num,ak HB.out (xQ Hw.out),hide (kE hall.out iO.out Dy.out (by simpa using Hb.out))⟩
      case measure=>simp[intOf];omega
    ·have HB:=hide hB;clear hB
     go_wp2_with fail
     go_ret;exact⟨RetB.yes (pK hall.out Hn.out hlt),HB.out⟩
  ·have hd:((f.len:Int) != (g.len:Int))=true:=by simp;omega
   have Hn:=hide hn;clear hn;go_enter Tryz.func224,Tryz.ntmps224
   go_wp2_with fail
   go_ret;exact⟨RetB.no (fun h=>Hn.out (by rw[h])),Below.refl _ _⟩
theorem KO{S S':Nat→Prop}{A A':Option Addr}{c c':Nat}{f g:Fo}{w:World}(hf:FoIn S w A f)(hg:FoIn S' w A' g)(hlf:f.len≤9223372036854775807)(vF:g.len≤9223372036854775807):
  Calls Tryz.prog 206 #[.slice A f.len c,.slice A' g.len c'] w fun e w'=>RetB (f=g) e∧Below w.heap.size w w' :=
 Vp (f.cnt+1) S S' A A' c c' f g w (by omega) hf hg hlf vF
theorem Qa{S S':Nat→Prop}{k k':Nat}{t t':ByteArray}{n n':Int}{A A':Option Addr}{c c':Nat}{f g:Fo}{w:World}(hf:FoIn S w A f)(hg:FoIn S' w A' g)(hlf:f.len≤9223372036854775807)(vF:g.len≤9223372036854775807):
  Calls Tryz.prog 148 #[.agg #[.int .u8 k,.string t,.int .i64 n,.slice A f.len c],.agg #[.int .u8 k',.string t',.int .i64 n',.slice A' g.len c']] w
   fun e w'=>RetB (k=k'∧t=t'∧n=n'∧f=g) e∧Below w.heap.size w w' :=
 P8 fun _ hW=>KO (hf.below hW) (hg.below hW) hlf vF
theorem KP{S S':Nat→Prop}{A A':Option Addr}{c c':Nat}{f g:Fo}{w:World}(hf:FoIn S w A f)(hg:FoIn S' w A' g)(hlf:f.len≤9223372036854775807)(vF:g.len≤9223372036854775807):
  Calls Tryz.prog 224 #[.slice A f.len c,.slice A' g.len c',.func (.func 221) #[] #[]] w fun e w'=>RetB (f=g) e∧Below w.heap.size w w' :=
 Vq (f.cnt+1) S S' A A' c c' f g w (by omega) hf hg hlf vF
theorem Vr{S S':Nat→Prop}{k k':Nat}{t t':ByteArray}{n n':Int}{A A':Option Addr}{c c':Nat}{f g:Fo}{w:World}(hf:FoIn S w A f)(hg:FoIn S' w A' g)(hlf:f.len≤9223372036854775807)(vF:g.len≤9223372036854775807):
  Calls Tryz.prog 221 #[.agg #[.int .u8 k,.string t,.int .i64 n,.slice A f.len c],.agg #[.int .u8 k',.string t',.int .i64 n',.slice A' g.len c']] w
   fun e w'=>RetB (k=k'∧t=t'∧n=n'∧f=g) e∧Below w.heap.size w w' :=
 P9 fun _ hW=>KP (hf.below hW) (hg.below hW) hlf vF
end
end Go.Proofs.YtjjaojnglnpgaaaGreatDoor
