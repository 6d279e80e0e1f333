/- Part 12 of what commuteFiles_cardUpto rests on. -/
import Derived.Laws.EntriesVeiled
import Derived.Test.YtialngdffhmobaaGreatDoorV08
import Derived.Test.YtialngdffhmobaaGreatDoorV09
import Derived.Test.YtialngdffhmobaaGreatDoorV03
import Derived.Test.YtialngdffhmobaaGreatDoorV02
import Derived.Test.YtialngdffhmobaaGreatDoorV10
import Derived.Test.YtialngdffhmobaaGreatDoorV00
set_option linter.unusedVariables false
set_option linter.unusedSimpArgs false
set_option maxHeartbeats 16000000
set_option maxRecDepth 1000000
namespace Go.Proofs.YtialngdffhmobaaGreatDoor
section
open Go.RowKit
theorem Iw{p:Nat}{k':Int}{ks:List Int}{all:Bool}(h:kindRow p=some (k',ks,all))(c:Nat):
  (∀m,many p=some m→c=m)↔(all=true∨c=ks.length):=by
 obtain⟨h1,rfl⟩:=xZ h;clear h;simp[dV]at h1;rcases h1 with⟨hp,rfl,rfl⟩|⟨hp,rfl,rfl⟩|⟨hp,rfl,rfl⟩|⟨hp,rfl,rfl⟩|⟨hp,rfl,rfl⟩|⟨hp,rfl,rfl⟩|⟨hp,rfl,rfl⟩|⟨hp,rfl,rfl⟩|⟨hp,rfl,rfl⟩|⟨hp,rfl,rfl⟩|⟨hp,rfl,rfl⟩|⟨hp,rfl,rfl⟩|⟨hp,rfl,rfl⟩|⟨hp,rfl,rfl⟩|⟨hp,rfl,rfl⟩|⟨hp,rfl,rfl⟩|⟨hp,rfl,rfl⟩|⟨hp,rfl,rfl⟩|⟨hp,rfl,rfl⟩|⟨hp,rfl,rfl⟩|⟨hp,rfl,rfl⟩|⟨hp,rfl,rfl⟩
 all_goals
  norm_cast at hp;subst hp;simp[many]
theorem Ew{m p i k:Nat}{t:ByteArray}{n:Int}{ks r:Fo}:iD m p i (.cons k t n ks r)↔bH p k i∧gm m k t n ks∧iD m p (i+1) r:=by
 rw[iD,gm];grind
theorem nM{f:Fo}(h:0<f.len):∃k t n ks r,f = .cons k t n ks r:=by
 cases f with
 | nil=>simp[Fo.len]at h
 | cons k t n ks r=>exact⟨k,t,n,ks,r,rfl⟩
theorem oP{m:Nat}{ks:Fo}(h:iD m 7 0 ks)(hl:ks.len=2):∃k0 t0 n0 qP r,ks = .cons k0 t0 n0 qP r∧(k0=22∨(k0=26∧∃k1 t1 n1 vg r1,qP = .cons k1 t1 n1 vg r1)):=by
 obtain⟨k0,t0,n0,qP,r,rfl⟩:=nM (f:=ks) (by omega);refine⟨k0,t0,n0,qP,r,rfl,?_⟩;rw[Ew]at h;obtain⟨⟨_,hf⟩,⟨_,hh,_⟩,_⟩:=h;simp at hf;rcases hf with rfl|rfl
 ·exact .inl rfl
 ·refine .inr ⟨rfl,nM ?_⟩;have:=hh.2.2.2 2 (by simp[many]);omega
theorem Di{m p i k:Nat}{t:ByteArray}{n:Int}{ks r f:Fo}(hd:f.drop i = .cons k t n ks r)(h:iD m p i (f.drop i)):bH p k i∧gm m k t n ks:=by
 rw[hd,Ew]at h;exact⟨h.1,h.2.1⟩
theorem Iy{m p i k:Nat}{t:ByteArray}{n:Int}{ks r f:Fo}{P:Prop}(hd:f.drop i = .cons k t n ks r)(h:P↔iD m p i (f.drop i))(h1:bH p k i)(h2:gm m k t n ks):P↔iD m p (i+1) (f.drop (i+1)):=by
 rw[h,hd,Ew,Fo.drop_succ hd];exact⟨fun h=>h.2.2,fun h=>⟨h1,h2,h⟩⟩
theorem Dj{w w':World}{fb:Nat}{v:Value}(h:w.cell? ⟨fb,0,none⟩=some v)(hB:Below w.heap.size w w'):w'.cell? ⟨fb,0,none⟩=some v :=
 (hB.cell (p:=⟨fb,0,none⟩) (block_lt_of_cell h)).trans h
theorem Le(N:Nat):∀(S:Nat→Prop) (k:Nat) (t:ByteArray) (n:Int) (ks:Fo) (KA:Option Addr) (c fb deep:Nat) (d:Int) (w:World),ks.cnt<N→d=deep→k<256→t.size≤9223372036854775807→aU n→ks.len≤c→c≤9223372036854775807→
  bu S w KA ks→aW w→w.cell? ⟨fb,0,none⟩=some (.func (.func 215) #[] #[.pointer (some ⟨fb,0,none⟩)])→1≤deep→deep≤41→
  Calls Tryz.prog 215 #[.agg #[.int .u8 k,.string t,.int .i64 n,.slice KA ks.len c],.int .i64 d,.pointer (some ⟨fb,0,none⟩)] w fun e w'=>ay (gm (41-deep) k t n ks) e∧Below w.heap.size w w':=by
 induction N with
 | zero=>intro _ _ _ _ _ _ _ _ _ _ _ h;omega
 | succ N ih =>
  rintro S k t n ks KA c fb deep _ w hN rfl hk ht hn hl hc hks htab hfn hd1 hd2;have oO:=hide ih;have HN:=hide hN;have mW:=hide hks;have aS:Hid (aW w):=htab;have Iz:=hide hfn;have hfb:=block_lt_of_cell hfn;have Hn:=hide hn;clear ih hN hks htab hfn hn;cases hr:kindRow k with
  | none =>
   have H:=hide hr;clear hr;go_enter Tryz.func215,Tryz.ntmps215
   go_wp2_with(go_at_call 216;refine(Io H.out _).mono ?_;rintro e w1 ⟨rfl,hB⟩;have HB:=hide (aQ (bg _ _) hB);obtain⟨hc1,hf1⟩:=gJ hB;have hz:w.heap.size<w1.heap.size:=(by have:=hB.size;simp at this;omega);clear hB)
   go_ret;exact⟨ay.no (fun h=>by have:=(x8 k).mp h.2.1.1;rw[H.out]at this;cases this),HB.out.alloc HB.out.size _⟩
  | some x =>
   obtain⟨k',kinds,all⟩:=x;have H:=hide hr;have hlen:kinds.length≤3:=(Dh _ (xZ hr).1).2.2;clear hr;rcases Nat.lt_or_ge 40 deep with Lh|Lh
   ·have hd:decide (40<(deep:Int))=true:=by simp;omega
    go_enter Tryz.func215,Tryz.ntmps215
    go_wp2_with(go_at_call 216;refine(x9 H.out _).mono ?_;rintro e w1 ⟨A,rc,rfl,hrd,hB⟩;have HB:=hide (aQ (bg _ _) hB);obtain⟨hc1,hf1⟩:=gJ hB;have hz:w.heap.size<w1.heap.size:=(by have:=hB.size;simp at this;omega);clear hB hrd)
    go_ret;exact⟨ay.no (fun h=>by have:=h.1;omega),HB.out.alloc HB.out.size _⟩
   ·have hd:decide (40<(deep:Int))=false:=by simp;omega
    by_cases hm:all=true∨ks.len=kinds.length
    ·have HM:=hide ((Iw H.out ks.len).mpr hm);rcases Bool.eq_false_or_eq_true all with hall|hall
     ·subst hall;clear hm;go_enter Tryz.func215,Tryz.ntmps215
      go_wp2_with(first
       | (go_at_call 216;refine(x9 H.out _).mono ?_;rintro e w1 ⟨A,rc,rfl,hrd,hB⟩;have HB:=hide (aQ (bg _ _) hB);obtain⟨hc1,hf1⟩:=gJ hB;have hz:w.heap.size<w1.heap.size:=(by have:=hB.size;simp at this;omega);clear hB hrd)
       | (go_at_call 217;refine(Ep k t n KA ks.len c _ ((aS.out.below HB.out).below (bg _ _)) hk ht Hn.out).mono ?_;rintro e w2 ⟨⟨_|_,rfl,hb⟩,hB⟩<;>(have Hb:=hide hb;have HB2:=hide (aQ HB.out (aQ (bg _ _) hB));obtain⟨hc2,hf2⟩:=gJ hB;have hz2:w1.heap.size<w2.heap.size:=(by have:=hB.size;simp at this;omega);clear hb hB)))
      ·go_ret;go_tidy;exact⟨ay.no (fun h=>absurd (Hb.out.mpr ⟨h.2.1.2.1,h.2.1.2.2.1⟩) (by decide)),HB2.out⟩
      ·have Hd:=hide (Hb.out.mp (by first|rfl|trivial));have hcw0:=hc2 w.heap.size 0 (by simp;omega);have hcw3:=hc2 w.heap.size 3 (by simp;omega);rw[World.cell?_alloc_past _ _ _ hz,hc1 _ _ (by simp),World.cell?_alloc_new]at hcw0 hcw3
       go_loopw [44,8,9] (fun i _ _ wr=>∃q:Nat,q≤ks.len∧i = .int .i64 q∧Below w2.heap.size w2 wr∧Hid (iD (41-deep-1) k 0 ks↔iD (41-deep-1) k q (ks.drop q))) (fun i _ _ _=>ks.len-(intOf i).toNat)
       case atStart=>exact⟨0,Nat.zero_le _,rfl,Below.refl _ _,hide Iff.rfl⟩
       case round =>
        obtain⟨i,hi,rfl,hB,hall⟩:=hrel;have hz3:w2.heap.size≤wr.heap.size:=hB.size;have HB3:=hide (aQ HB2.out hB);have hB0:=hide hB;have hw0:=(hB.cell (p:=⟨w.heap.size,0,none⟩) (by simp;omega)).trans hcw0;have hw3:=(hB.cell (p:=⟨w.heap.size,3,none⟩) (by simp;omega)).trans hcw3;have hwf:=Dj Iz.out HB3.out;simp only[List.getElem?_toArray,List.getElem?_cons_zero,List.getElem?_cons_succ]at hw0 hw3;by_cases hlt:i<ks.len
        ·obtain⟨b,o,jW,kc,k0,t0,n0,qP,r,rfl,hdf,c0,c1,c2,c3,e1,e2,e3,e4,e5,fD,hcnt⟩:=(mW.out.below HB3.out).at_ hlt;have ji:=hide fD;have ql:=hide hdf;have Hc:=hide hcnt;have Ey:=hide e3;have hbw:b<wr.heap.size:=block_lt_of_cell c0;have hwr:w.heap.size<wr.heap.size:=by omega
         have hfr:fb<wr.heap.size:=by omega
         clear hB fD hdf hcnt e3
         go_wp2_with(first
          | (go_at_call 218;refine(Iq k k0 i _).mono ?_;rintro e w4 ⟨⟨_|_,rfl,hb⟩,hB⟩<;>(have Hf:=hide hb;have HB4:=hide (aQ (bg _ _) hB);obtain⟨hc4,hf4⟩:=gJ hB;have lI:wr.heap.size<w4.heap.size:=(by have:=hB.size;simp at this;omega);clear hb hB))
          | (go_at_call 215;refine(oO.out S k0 t0 n0 qP jW kc fb (deep+1) _ _ (by have:=Hc.out;have:=HN.out;omega) (by omega) e1 e2 Ey.out e4 e5 (ji.out.below HB4.out) (aS.out.below (aQ HB3.out HB4.out)) (Dj hwf HB4.out) (by omega) (by omega)).mono ?_;rintro e w5 ⟨⟨_|_,rfl,hb⟩,hB⟩<;>(have Hr:=hide hb;have iV:=hide (aQ HB4.out hB);clear hb hB)))
         ·go_ret;exact⟨ay.no (fun h=>absurd (Hf.out.mpr (Di ql.out (hall.out.mp h.2.2.1)).1) (by decide)),aQ HB3.out HB4.out⟩
         ·go_ret;exact⟨ay.no (fun h=>absurd (Hr.out.mpr (Di ql.out (hall.out.mp h.2.2.1)).2) (by decide)),aQ HB3.out iV.out⟩
         ·go_roundw
          case rel=>exact⟨i+1,by omega,by go_num,(by have h3:=HB3.out;exact aQ hB0.out iV.out),hide (Iy ql.out hall.out (Hf.out.mp (by first|rfl|trivial)) (Hr.out.mp (by first|rfl|trivial)))⟩
          case measure=>simp[intOf];omega
        ·have hfo:iD (41-deep-1) k 0 ks:=hall.out.mpr (by rw[Fo.drop_len _ _ (by omega)];exact trivial);have nN:=hide hfo;by_cases h7:k=7
         ·subst h7;obtain⟨k0,t0,n0,qP,r,rfl,hset⟩:=oP hfo (HM.out 2 (by simp[many]));clear hfo hB;obtain⟨b,o,Lj,c',rfl,hS,c0,c1,c2,c3,e1,e2,e3,e4,e5,yg,hr⟩:=(mW.out.below HB3.out);have hl0:0<(Fo.cons k0 t0 n0 qP r).len:=by simp[Fo.len]
          rcases hset with rfl|⟨rfl,k1,t1,n1,vg,r1,rfl⟩
          ·go_wp2_with fail
           all_goals
            go_ret;go_tidy;exact⟨ay.mk (iff_of_true (by first|rfl|simp) ⟨by omega,⟨(x8 _).mpr (by rw[H.out];rfl),Hd.out.1,Hd.out.2,HM.out⟩,nN.out,fun h=>by first|(exact absurd h (by assumption))|trivial|rfl⟩),HB3.out⟩
          ·obtain⟨b1,o1,Ll,c1',rfl,hS1,d0,d1,d2,d3,f1,f2,f3,f4,f5,Ez,hr1⟩:=yg;have hl1:0<(Fo.cons k1 t1 n1 vg r1).len:=by simp[Fo.len]
           go_wp2_with fail
           all_goals
            go_ret;go_tidy;have hcore:1≤41-deep∧l7 7 t n (Fo.cons 26 t0 n0 (Fo.cons k1 t1 n1 vg r1) r).len∧iD (41-deep-1) 7 0 (Fo.cons 26 t0 n0 (Fo.cons k1 t1 n1 vg r1) r):=⟨by omega,⟨(x8 _).mpr (by rw[H.out];rfl),Hd.out.1,Hd.out.2,HM.out⟩,nN.out⟩;refine⟨ay.mk ⟨fun hb=>⟨hcore.1,hcore.2.1,hcore.2.2,fun _=>?_⟩,fun h=>?_⟩,HB3.out⟩
            ·have hb':(k1:Int)=22:=by simpa using hb
             show k1=22;omega
            ·have h':k1=22:=h.2.2.2 rfl;subst h';rfl
         ·have zM:((k:Int) != 7)=true:=by simp;omega
          clear hfo hB
          go_wp2_with fail
          all_goals
           go_ret;go_tidy;exact⟨ay.mk (iff_of_true (by first|rfl|simp) ⟨by omega,⟨(x8 _).mpr (by rw[H.out];rfl),Hd.out.1,Hd.out.2,HM.out⟩,nN.out,fun h=>by first|(exact absurd h (by assumption))|trivial|rfl⟩),HB3.out⟩
     ·subst hall;have hq:((ks.len:Int) != (kinds.length:Int))=false:=by simp at hm;simp;omega
      clear hm;go_enter Tryz.func215,Tryz.ntmps215
      go_wp2_with(first
       | (go_at_call 216;refine(x9 H.out _).mono ?_;rintro e w1 ⟨A,rc,rfl,hrd,hB⟩;have HB:=hide (aQ (bg _ _) hB);obtain⟨hc1,hf1⟩:=gJ hB;have hz:w.heap.size<w1.heap.size:=(by have:=hB.size;simp at this;omega);clear hB hrd)
       | (go_at_call 217;refine(Ep k t n KA ks.len c _ ((aS.out.below HB.out).below (bg _ _)) hk ht Hn.out).mono ?_;rintro e w2 ⟨⟨_|_,rfl,hb⟩,hB⟩<;>(have Hb:=hide hb;have HB2:=hide (aQ HB.out (aQ (bg _ _) hB));obtain⟨hc2,hf2⟩:=gJ hB;have hz2:w1.heap.size<w2.heap.size:=(by have:=hB.size;simp at this;omega);clear hb hB)))
      ·go_ret;go_tidy;exact⟨ay.no (fun h=>absurd (Hb.out.mpr ⟨h.2.1.2.1,h.2.1.2.2.1⟩) (by decide)),HB2.out⟩
      ·have Hd:=hide (Hb.out.mp (by first|rfl|trivial));have hcw0:=hc2 w.heap.size 0 (by simp;omega);have hcw3:=hc2 w.heap.size 3 (by simp;omega);rw[World.cell?_alloc_past _ _ _ hz,hc1 _ _ (by simp),World.cell?_alloc_new]at hcw0 hcw3
       go_loopw [44,8,9] (fun i _ _ wr=>∃q:Nat,q≤ks.len∧i = .int .i64 q∧Below w2.heap.size w2 wr∧Hid (iD (41-deep-1) k 0 ks↔iD (41-deep-1) k q (ks.drop q))) (fun i _ _ _=>ks.len-(intOf i).toNat)
       case atStart=>exact⟨0,Nat.zero_le _,rfl,Below.refl _ _,hide Iff.rfl⟩
       case round =>
        obtain⟨i,hi,rfl,hB,hall⟩:=hrel;have hz3:w2.heap.size≤wr.heap.size:=hB.size;have HB3:=hide (aQ HB2.out hB);have hB0:=hide hB;have hw0:=(hB.cell (p:=⟨w.heap.size,0,none⟩) (by simp;omega)).trans hcw0;have hw3:=(hB.cell (p:=⟨w.heap.size,3,none⟩) (by simp;omega)).trans hcw3;have hwf:=Dj Iz.out HB3.out;simp only[List.getElem?_toArray,List.getElem?_cons_zero,List.getElem?_cons_succ]at hw0 hw3;by_cases hlt:i<ks.len
        ·obtain⟨b,o,jW,kc,k0,t0,n0,qP,r,rfl,hdf,c0,c1,c2,c3,e1,e2,e3,e4,e5,fD,hcnt⟩:=(mW.out.below HB3.out).at_ hlt;have ji:=hide fD;have ql:=hide hdf;have Hc:=hide hcnt;have Ey:=hide e3;have hbw:b<wr.heap.size:=block_lt_of_cell c0;have hwr:w.heap.size<wr.heap.size:=by omega
         have hfr:fb<wr.heap.size:=by omega
         clear hB fD hdf hcnt e3
         go_wp2_with(first
          | (go_at_call 218;refine(Iq k k0 i _).mono ?_;rintro e w4 ⟨⟨_|_,rfl,hb⟩,hB⟩<;>(have Hf:=hide hb;have HB4:=hide (aQ (bg _ _) hB);obtain⟨hc4,hf4⟩:=gJ hB;have lI:wr.heap.size<w4.heap.size:=(by have:=hB.size;simp at this;omega);clear hb hB))
          | (go_at_call 215;refine(oO.out S k0 t0 n0 qP jW kc fb (deep+1) _ _ (by have:=Hc.out;have:=HN.out;omega) (by omega) e1 e2 Ey.out e4 e5 (ji.out.below HB4.out) (aS.out.below (aQ HB3.out HB4.out)) (Dj hwf HB4.out) (by omega) (by omega)).mono ?_;rintro e w5 ⟨⟨_|_,rfl,hb⟩,hB⟩<;>(have Hr:=hide hb;have iV:=hide (aQ HB4.out hB);clear hb hB)))
         ·go_ret;exact⟨ay.no (fun h=>absurd (Hf.out.mpr (Di ql.out (hall.out.mp h.2.2.1)).1) (by decide)),aQ HB3.out HB4.out⟩
         ·go_ret;exact⟨ay.no (fun h=>absurd (Hr.out.mpr (Di ql.out (hall.out.mp h.2.2.1)).2) (by decide)),aQ HB3.out iV.out⟩
         ·go_roundw
          case rel=>exact⟨i+1,by omega,by go_num,(by have h3:=HB3.out;exact aQ hB0.out iV.out),hide (Iy ql.out hall.out (Hf.out.mp (by first|rfl|trivial)) (Hr.out.mp (by first|rfl|trivial)))⟩
          case measure=>simp[intOf];omega
        ·have hfo:iD (41-deep-1) k 0 ks:=hall.out.mpr (by rw[Fo.drop_len _ _ (by omega)];exact trivial);have nN:=hide hfo;by_cases h7:k=7
         ·subst h7;obtain⟨k0,t0,n0,qP,r,rfl,hset⟩:=oP hfo (HM.out 2 (by simp[many]));clear hfo hB;obtain⟨b,o,Lj,c',rfl,hS,c0,c1,c2,c3,e1,e2,e3,e4,e5,yg,hr⟩:=(mW.out.below HB3.out);have hl0:0<(Fo.cons k0 t0 n0 qP r).len:=by simp[Fo.len]
          rcases hset with rfl|⟨rfl,k1,t1,n1,vg,r1,rfl⟩
          ·go_wp2_with fail
           all_goals
            go_ret;go_tidy;exact⟨ay.mk (iff_of_true (by first|rfl|simp) ⟨by omega,⟨(x8 _).mpr (by rw[H.out];rfl),Hd.out.1,Hd.out.2,HM.out⟩,nN.out,fun h=>by first|(exact absurd h (by assumption))|trivial|rfl⟩),HB3.out⟩
          ·obtain⟨b1,o1,Ll,c1',rfl,hS1,d0,d1,d2,d3,f1,f2,f3,f4,f5,Ez,hr1⟩:=yg;have hl1:0<(Fo.cons k1 t1 n1 vg r1).len:=by simp[Fo.len]
           go_wp2_with fail
           all_goals
            go_ret;go_tidy;have hcore:1≤41-deep∧l7 7 t n (Fo.cons 26 t0 n0 (Fo.cons k1 t1 n1 vg r1) r).len∧iD (41-deep-1) 7 0 (Fo.cons 26 t0 n0 (Fo.cons k1 t1 n1 vg r1) r):=⟨by omega,⟨(x8 _).mpr (by rw[H.out];rfl),Hd.out.1,Hd.out.2,HM.out⟩,nN.out⟩;refine⟨ay.mk ⟨fun hb=>⟨hcore.1,hcore.2.1,hcore.2.2,fun _=>?_⟩,fun h=>?_⟩,HB3.out⟩
            ·have hb':(k1:Int)=22:=by simpa using hb
             show k1=22;omega
            ·have h':k1=22:=h.2.2.2 rfl;subst h';rfl
         ·have zM:((k:Int) != 7)=true:=by simp;omega
          clear hfo hB
          go_wp2_with fail
          all_goals
           go_ret;go_tidy;exact⟨ay.mk (iff_of_true (by first|rfl|simp) ⟨by omega,⟨(x8 _).mpr (by rw[H.out];rfl),Hd.out.1,Hd.out.2,HM.out⟩,nN.out,fun h=>by first|(exact absurd h (by assumption))|trivial|rfl⟩),HB3.out⟩
    ·have HM:=hide (fun h=>hm ((Iw H.out ks.len).mp h));obtain⟨rfl,hq0⟩:all=false∧ks.len≠kinds.length:=by simpa using hm
     have hq:((ks.len:Int) != (kinds.length:Int))=true:=by simp;omega
     clear hm hq0;go_enter Tryz.func215,Tryz.ntmps215
     go_wp2_with(first
      | (go_at_call 216;refine(x9 H.out _).mono ?_;rintro e w1 ⟨A,rc,rfl,hrd,hB⟩;have HB:=hide (aQ (bg _ _) hB);obtain⟨hc1,hf1⟩:=gJ hB;have hz:w.heap.size<w1.heap.size:=(by have:=hB.size;simp at this;omega);clear hB hrd)
      | (go_at_call 217;refine(Ep k t n KA ks.len c _ ((aS.out.below HB.out).below (bg _ _)) hk ht Hn.out).mono ?_;rintro e w2 ⟨⟨_|_,rfl,hb⟩,hB⟩<;>(have Hb:=hide hb;have HB2:=hide (aQ HB.out (aQ (bg _ _) hB));obtain⟨hc2,hf2⟩:=gJ hB;have hz2:w1.heap.size<w2.heap.size:=(by have:=hB.size;simp at this;omega);clear hb hB)))
     all_goals
      go_ret;go_tidy;exact⟨ay.no (fun h=>HM.out h.2.1.2.2.2),HB2.out⟩
theorem qm{S:Nat→Prop}{k:Nat}{t:ByteArray}{n:Int}{ks:Fo}{KA:Option Addr}{c:Nat}{w:World}(hk:k<256)(ht:t.size≤9223372036854775807)(hn:aU n)(hl:ks.len≤c)(hc:c≤9223372036854775807)
  (hks:bu S w KA ks) (htab:aW w):
  Calls Tryz.prog 180 #[.agg #[.int .u8 k,.string t,.int .i64 n,.slice KA ks.len c]] w fun e w'=>ay (gm 40 k t n ks) e∧Below w.heap.size w w':=by
 have mW:=hide hks;have aS:Hid (aW w):=htab;have Hn:=hide hn;clear hks htab hn;have hmf :∀(fn:Fn) (first cap:Array Value) (w:World),(Instr.makeFunc fn first cap).run Tryz.prog w = .ok (.func fn first cap) w:=fun _ _ _ _=>rfl;go_enter Tryz.func180,Tryz.ntmps180
 go_wp2_with(go_at_call 215;refine(Le (ks.cnt+1) S k t n ks KA c _ 1 _ _ (by omega) (by omega) hk ht Hn.out hl hc (mW.out.below (dW _ _)) (aS.out.below (dW _ _)) (by simp) (by omega) (by omega)).mono ?_;rintro e w1 ⟨⟨b,rfl,hb⟩,hB⟩;have Hb:=hide hb;have HB:=hide (qY hB);clear hb hB)
 go_ret;exact⟨ay.mk Hb.out,HB.out⟩
theorem jy(n:Int)(w:World)(hn:aU n):Calls Tryz.prog 107 #[.int .i64 n] w fun e w'=>ay (Number n) e∧w'=w:=by
 unfold aU at hn;go_enter Tryz.func107,Tryz.ntmps107
 go_wp2_with fail
 all_goals(go_ret;go_tidy;exact⟨ay.mk (by unfold Number;grind),rfl⟩)
theorem Lm(n:Int)(w:World)(hn:aU n):Calls Tryz.prog 106 #[.int .i64 n] w fun e w'=>ay (¬Number n) e∧w'=w:=by
 have Hn:=hide hn;clear hn;go_enter Tryz.func106,Tryz.ntmps106
 go_wp2_with(go_at_call 107;refine(jy n _ Hn.out).mono ?_;rintro e w1 ⟨⟨b,rfl,hb⟩,rfl⟩;have Hb:=hide hb;clear hb)
 go_ret;exact⟨ay.mk (by rw[←Hb.out];simp),rfl⟩
theorem Ls{S:Nat→Prop}{A:Option Addr}{c:Nat}{l:List Int}{w:World}(hl:IntsIn S w A l):
  Calls Tryz.prog 175 #[.slice A l.length c,.func (.func 106) #[] #[]] w fun e w'=>(∃r:Int,e = .returned (.int .i64 r)∧aU r∧(0≤r↔∃n∈l,¬Number n))∧w'=w:=by
 have Hl:=hide hl;have hlen:l.length≤9223372036854775807:=hl.2.2;clear hl;go_enter Tryz.func175,Tryz.ntmps175
 go_wp2_with fail
 go_loopw [8,5] (fun i _ wr=>∃q:Nat,q≤l.length∧i = .int .i64 q∧wr=w∧Hid (∀j,(h:j<l.length)→j<q→Number l[j])) (fun i _ _=>l.length-(intOf i).toNat)
 case atStart=>exact⟨0,Nat.zero_le _,rfl,rfl,hide (by omega)⟩
 case round =>
  obtain⟨i,hi,rfl,rfl,hall⟩:=hrel;by_cases hlt:i<l.length
  ·obtain⟨b,o,rfl,hc⟩:=Hl.out.1.at_ (j:=i) (by simpa using hlt);simp only[List.getElem_map]at hc;have hi64:=hide (Hl.out.2.1 l[i] (List.getElem_mem hlt))
   go_wp2_with(go_at_call 106;refine(Lm l[i] _ hi64.out).mono ?_;rintro e w1 ⟨⟨_|_,rfl,hb⟩,rfl⟩<;>(have Hb:=hide hb;clear hb))
   ·go_roundw
    case rel=>exact⟨i+1,by omega,by go_num,(by first|rfl|trivial),hide fun j hj hji=>if h:j=i then by subst h;exact Classical.byContradiction fun hn=>absurd (Hb.out.mpr hn) (by decide)else hall.out j hj (by omega)⟩
    case measure=>simp[intOf];omega
   ·go_ret;exact⟨⟨i,rfl,by unfold aU;omega,iff_of_true (by omega) ⟨l[i],List.getElem_mem hlt,Hb.out.mp (by first|rfl|trivial)⟩⟩,rfl⟩
  ·go_wp2_with fail
   go_ret;refine⟨⟨-1,rfl,by unfold aU;omega,iff_of_false (by omega) ?_⟩,rfl⟩;rintro⟨n,hn,hnn⟩;obtain⟨j,hj,rfl⟩:=List.getElem_of_mem hn;exact hnn (hall.out j hj (by omega))
theorem oQ{S:Nat→Prop}{A:Option Addr}{c:Nat}{l:List Int}{w:World}(hl:IntsIn S w A l):
  Calls Tryz.prog 105 #[.slice A l.length c,.func (.func 106) #[] #[]] w fun e w'=>ay (∃n∈l,¬Number n) e∧w'=w:=by
 have Hl:=hide hl;clear hl;go_enter Tryz.func105,Tryz.ntmps105
 go_wp2_with(go_at_call 175;refine(Ls Hl.out).mono ?_;rintro e w1 ⟨⟨r,rfl,hr,hb⟩,rfl⟩;have Hb:=hide hb;clear hb)
 go_ret;exact⟨ay.mk (by rw[←Hb.out];simp),rfl⟩
theorem iE{S:Nat→Prop}{A:Option Addr}{c:Nat}{f:Fo}{w:World}(hf:bu S w A f)(hl:f.len≤c)(hc:c≤9223372036854775807)(htab:aW w):
  Calls Tryz.prog 109 #[.slice A f.len c] w fun e w'=>ay (dD f) e∧Below w.heap.size w w':=by
 have aS:Hid (aW w):=htab;by_cases h1:f.len=1
 ·obtain⟨k,t,n,ks,r,rfl⟩:=nM (f:=f) (by omega);have hr:r = .nil:=by cases r with
   | nil=>rfl
   | cons=>simp[Fo.len]at h1
  subst hr;obtain⟨b,o,KA,c',rfl,hS,c0,c1,c2,c3,e1,e2,e3,e4,e5,hks,_⟩:=hf;have mW:=hide hks;have He:=hide e3;have hq:(((Fo.cons k t n ks .nil).len:Int) == 1)=true:=by simp[Fo.len]
  have hl0:0<(Fo.cons k t n ks .nil).len:=by simp[Fo.len]
  clear hks htab h1 e3;go_enter Tryz.func109,Tryz.ntmps109
  go_wp2_with(go_at_call 180;refine(qm e1 e2 He.out e4 e5 mW.out aS.out).mono ?_;rintro e w1 ⟨⟨b,rfl,hb⟩,hB⟩;have Hb:=hide hb;have HB:=hide hB;clear hb hB)
  go_ret;exact⟨ay.mk Hb.out,HB.out⟩
 ·have hq:((f.len:Int) == 1)=false:=by simp;omega
  have H1:=hide h1;clear htab h1 hf;go_enter Tryz.func109,Tryz.ntmps109
  go_wp2_with fail
  go_ret;refine⟨ay.no (fun h=>?_),Below.refl _ _⟩;have h1:=H1.out;cases f with
  | nil=>exact h
  | cons k t n ks r=>cases r with
   | nil=>simp[Fo.len]at h1
   | cons=>exact h
theorem qQ{f:Fo}(h:dD f):(0:Int)<f.len:=by cases f with
 | nil=>exact h.elim
 | cons=>simp only[Fo.len];omega
theorem yh:Number 0:=by unfold Number;omega
theorem AU{f:Fo}:f = .nil↔f.len=0:=by cases f<;>simp[Fo.len]
theorem vk{s t:ByteArray}:s=t↔(s.toList == t.toList)=true:=by
 rw[beq_iff_eq,ByteArray.toList_eq,ByteArray.toList_eq];exact⟨fun h=>by rw[h],nG⟩
theorem Lt{e:Ed}:bQ {e with kind:=1}↔¬(∃n,n∈e.path∧¬Number n)∧e.at_=0∧e.far=0∧e.old.len=0∧e.new.len=0∧¬((e.path.length:Int) == 0)=true∧eH e.frm∧eH e.to∧¬(e.frm.toList == e.to.toList)=true:=by
 rw[←vk,←AU,←AU];unfold bQ;simp
theorem IA{e:Ed}:bQ {e with kind:=2}↔¬(∃n,n∈e.path∧¬Number n)∧e.far=0∧e.frm=aV∧e.to=aV∧e.old.len=0∧Number e.at_∧dD e.new:=by
 rw[←AU];unfold bQ;simp
theorem IB{e:Ed}:bQ {e with kind:=3}↔¬(∃n,n∈e.path∧¬Number n)∧e.far=0∧e.frm=aV∧e.to=aV∧e.new.len=0∧Number e.at_∧dD e.old:=by
 rw[←AU];unfold bQ;simp
theorem EC{e:Ed}:bQ {e with kind:=4}↔¬(∃n,n∈e.path∧¬Number n)∧e.at_=0∧e.far=0∧e.frm=aV∧e.to=aV∧¬((e.path.length:Int) == 0)=true∧dD e.old∧dD e.new∧e.old≠e.new:=by
 unfold bQ;simp
theorem IC{e:Ed}:bQ {e with kind:=5}↔¬(∃n,n∈e.path∧¬Number n)∧e.frm=aV∧e.to=aV∧e.new.len=0∧Number e.at_∧Number e.far∧e.at_≠e.far∧dD e.old:=by
 rw[←AU];unfold bQ;simp
theorem IE{e:Ed}:bQ e↔((e.kind:Int)=1∨(e.kind:Int)=2∨(e.kind:Int)=3∨(e.kind:Int)=4∨(e.kind:Int)=5)∧bQ e:=by
 constructor
 ·intro h;refine⟨?_,h⟩;unfold bQ at h;omega
 ·exact fun h=>h.2
theorem IG{s t:ByteArray}:(!(s++t).toList.isEmpty)=false↔s=aV∧t=aV:=by
 rw[ByteArray.toList_eq];have hd:(s++t).data.toList=s.data.toList++t.data.toList:=by simp
 rw[hd];constructor
 ·intro h;simp only[Bool.not_eq_false',List.isEmpty_iff,List.append_eq_nil_iff]at h;exact⟨nG (by rw[h.1];rfl),nG (by rw[h.2];rfl)⟩
 ·rintro⟨rfl,rfl⟩;rfl
theorem wX{s t:ByteArray}(h :¬(s=aV∧t=aV)):(!(s++t).toList.isEmpty)=true:=by
 rcases hb:(!(s++t).toList.isEmpty)with _|_
 ·exact absurd (IG.mp hb) h
 ·rfl
theorem uJ:(!(({data:=#[]}:ByteArray)++({data:=#[]}:ByteArray)).toList.isEmpty)=false:=IG.mpr ⟨rfl,rfl⟩
theorem zap :¬eH aV:=by
 rintro⟨_,⟨c,l,h,_⟩,_⟩;cases h
theorem aY{W w1:World}{N:Nat}(hB:Below W.heap.size W w1)(hN:N<W.heap.size):(∀o,w1.cell? ⟨N,o,none⟩=W.cell? ⟨N,o,none⟩)∧(∀o,w1.frozen? ⟨N,o,none⟩=W.frozen? ⟨N,o,none⟩)∧N<w1.heap.size :=
 ⟨fun o=>hB.cell (p:=⟨N,o,none⟩) hN,fun o=>hB.frozen (p:=⟨N,o,none⟩) hN,aH hN hB.size⟩
end
end Go.Proofs.YtialngdffhmobaaGreatDoor
