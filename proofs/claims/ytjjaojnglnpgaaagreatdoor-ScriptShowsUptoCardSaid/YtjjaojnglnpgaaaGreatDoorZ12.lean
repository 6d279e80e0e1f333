/- Part 13 of what scriptShows_cardUpto rests on. -/
import Derived.Laws.IdiomCopy
import Derived.Laws.EntriesVeiled
import Derived.Test.YtjjaojnglnpgaaaGreatDoorZ02
import Derived.Test.YtjjaojnglnpgaaaGreatDoorZ06
import Derived.Test.YtjjaojnglnpgaaaGreatDoorZ09
import Derived.Test.YtjjaojnglnpgaaaGreatDoorZ01
import Derived.Test.YtjjaojnglnpgaaaGreatDoorZ00
set_option linter.unusedVariables false
set_option linter.unusedSimpArgs false
set_option maxHeartbeats 16000000
set_option maxRecDepth 1000000
namespace Go.Proofs.YtjjaojnglnpgaaaGreatDoor
section
open Go.RowKit
theorem FN(b:Nat){P:Nat→Prop}(hP :¬P b):∀(vs:List Value) (o:Nat) (w:World),Keep P w (w.setCells b o vs)
 | [],_,w=>Keep.refl _ _
 | v::r,o,w=>Keep.trans ((Keep.refl P w).setCell (a:=⟨b,o,none⟩) hP v) (FN b hP r (o+1) (w.setCell ⟨b,o,none⟩ v))
theorem Qq(b:Nat):∀(vs:List Value) (o:Nat) (w:World),(w.setCells b o vs).heap.size=w.heap.size
 | [],_,_=>rfl
 | v::r,o,w=>by rw[World.setCells,Qq b r];simp[World.setCell]
theorem Vr{p:Nat}{k':Int}{ks:List Int}{all:Bool}(h:kindRow p=some (k',ks,all))(c:Nat):
  (∀m,many p=some m→c=m)↔(all=true∨c=ks.length):=by
 obtain⟨h1,rfl⟩:=EU h;clear h;simp[fB]at h1;rcases h1 with⟨hp,rfl,rfl⟩|⟨hp,rfl,rfl⟩|⟨hp,rfl,rfl⟩|⟨hp,rfl,rfl⟩|⟨hp,rfl,rfl⟩|⟨hp,rfl,rfl⟩|⟨hp,rfl,rfl⟩|⟨hp,rfl,rfl⟩|⟨hp,rfl,rfl⟩|⟨hp,rfl,rfl⟩|⟨hp,rfl,rfl⟩|⟨hp,rfl,rfl⟩|⟨hp,rfl,rfl⟩|⟨hp,rfl,rfl⟩|⟨hp,rfl,rfl⟩|⟨hp,rfl,rfl⟩|⟨hp,rfl,rfl⟩|⟨hp,rfl,rfl⟩|⟨hp,rfl,rfl⟩|⟨hp,rfl,rfl⟩|⟨hp,rfl,rfl⟩|⟨hp,rfl,rfl⟩
 all_goals
  norm_cast at hp;subst hp;simp[many]
theorem Qr{m p i k:Nat}{t:ByteArray}{n:Int}{ks r:Fo}:gm m p i (.cons k t n ks r)↔aZ p k i∧dR m k t n ks∧gm m p (i+1) r:=by
 rw[gm,dR];grind
theorem ql{f:Fo}(h:0<f.len):∃k t n ks r,f = .cons k t n ks r:=by
 cases f with
 | nil=>simp[Fo.len]at h
 | cons k t n ks r=>exact⟨k,t,n,ks,r,rfl⟩
theorem qQ{m:Nat}{ks:Fo}(h:gm m 7 0 ks)(hl:ks.len=2):∃k0 t0 n0 l7 r,ks = .cons k0 t0 n0 l7 r∧(k0=22∨(k0=26∧∃k1 t1 n1 qm r1,l7 = .cons k1 t1 n1 qm r1)):=by
 obtain⟨k0,t0,n0,l7,r,rfl⟩:=ql (f:=ks) (by omega);refine⟨k0,t0,n0,l7,r,rfl,?_⟩;rw[Qr]at h;obtain⟨⟨_,hf⟩,⟨_,hh,_⟩,_⟩:=h;simp at hf;rcases hf with rfl|rfl
 ·exact .inl rfl
 ·refine .inr ⟨rfl,ql ?_⟩;have:=hh.2.2.2 2 (by simp[many]);omega
theorem NJ{m p i k:Nat}{t:ByteArray}{n:Int}{ks r f:Fo}(hd:f.drop i = .cons k t n ks r)(h:gm m p i (f.drop i)):aZ p k i∧dR m k t n ks:=by
 rw[hd,Qr]at h;exact⟨h.1,h.2.1⟩
theorem Vs{m p i k:Nat}{t:ByteArray}{n:Int}{ks r f:Fo}{P:Prop}(hd:f.drop i = .cons k t n ks r)(h:P↔gm m p i (f.drop i))(h1:aZ p k i)(h2:dR m k t n ks):P↔gm m p (i+1) (f.drop (i+1)):=by
 rw[h,hd,Qr,Fo.drop_succ hd];exact⟨fun h=>h.2.2,fun h=>⟨h1,h2,h⟩⟩
theorem NK{w w':World}{fb:Nat}{v:Value}(h:w.cell? ⟨fb,0,none⟩=some v)(hB:Below w.heap.size w w'):w'.cell? ⟨fb,0,none⟩=some v :=
 (hB.cell (p:=⟨fb,0,none⟩) (block_lt_of_cell h)).trans h
theorem Zf(N:Nat):∀(S:Nat→Prop) (k:Nat) (t:ByteArray) (n:Int) (ks:Fo) (KA:Option Addr) (c fb deep:Nat) (d:Int) (w:World),ks.cnt<N→d=deep→k<256→t.size≤9223372036854775807→ai n→ks.len≤c→c≤9223372036854775807→
  bG S w KA ks→bF w→w.cell? ⟨fb,0,none⟩=some (.func (.func 282) #[] #[.pointer (some ⟨fb,0,none⟩)])→1≤deep→deep≤41→
  Calls Tryz.prog 282 #[.agg #[.int .u8 k,.string t,.int .i64 n,.slice KA ks.len c],.int .i64 d,.pointer (some ⟨fb,0,none⟩)] w fun e w'=>ah (dR (41-deep) k t n ks) e∧Below w.heap.size w w':=by
 induction N with
 | zero=>intro _ _ _ _ _ _ _ _ _ _ _ h;omega
 | succ N ih =>
  rintro S k t n ks KA c fb deep _ w hN rfl hk ht hn hl hc hks htab hfn hd1 hd2;have nH:=hide ih;have HN:=hide hN;have kT:=hide hks;have aN:Hid (bF w):=htab;have Vt:=hide hfn;have hfb:=block_lt_of_cell hfn;have Hn:=hide hn;clear ih hN hks htab hfn hn;cases hr:kindRow k with
  | none =>
   have H:=hide hr;clear hr;go_enter Tryz.func282,Tryz.ntmps282
   go_wp2_with(go_at_call 283;refine(U9 H.out _).mono ?_;rintro e w1 ⟨rfl,hB⟩;have HB:=hide (aW (az _ _) hB);obtain⟨hc1,hf1⟩:=iP hB;have hz:w.heap.size<w1.heap.size:=(by have:=hB.size;simp at this;omega);clear hB)
   go_ret;exact⟨ah.no (fun h=>by have:=(EW k).mp h.2.1.1;rw[H.out]at this;cases this),HB.out.alloc HB.out.size _⟩
  | some x =>
   obtain⟨k',kinds,all⟩:=x;have H:=hide hr;have hlen:kinds.length≤3:=(NC _ (EU hr).1).2.2;clear hr;rcases Nat.lt_or_ge 40 deep with Zg|Zg
   ·have hd:decide (40<(deep:Int))=true:=by simp;omega
    go_enter Tryz.func282,Tryz.ntmps282
    go_wp2_with(go_at_call 283;refine(Fj H.out _).mono ?_;rintro e w1 ⟨A,rc,rfl,hrd,hB⟩;have HB:=hide (aW (az _ _) hB);obtain⟨hc1,hf1⟩:=iP hB;have hz:w.heap.size<w1.heap.size:=(by have:=hB.size;simp at this;omega);clear hB hrd)
    go_ret;exact⟨ah.no (fun h=>by have:=h.1;omega),HB.out.alloc HB.out.size _⟩
   ·have hd:decide (40<(deep:Int))=false:=by simp;omega
    by_cases hm:all=true∨ks.len=kinds.length
    ·have HM:=hide ((Vr H.out ks.len).mpr hm);rcases Bool.eq_false_or_eq_true all with hall|hall
     ·subst hall;clear hm;go_enter Tryz.func282,Tryz.ntmps282
      go_wp2_with(first
       | (go_at_call 283;refine(Fj H.out _).mono ?_;rintro e w1 ⟨A,rc,rfl,hrd,hB⟩;have HB:=hide (aW (az _ _) hB);obtain⟨hc1,hf1⟩:=iP hB;have hz:w.heap.size<w1.heap.size:=(by have:=hB.size;simp at this;omega);clear hB hrd)
       | (go_at_call 284;refine(PV k t n KA ks.len c _ ((aN.out.below HB.out).below (az _ _)) hk ht Hn.out).mono ?_;rintro e w2 ⟨⟨_|_,rfl,hb⟩,hB⟩<;>(have Hb:=hide hb;have HB2:=hide (aW HB.out (aW (az _ _) hB));obtain⟨hc2,hf2⟩:=iP hB;have hz2:w1.heap.size<w2.heap.size:=(by have:=hB.size;simp at this;omega);clear hb hB)))
      ·go_ret;go_tidy;exact⟨ah.no (fun h=>absurd (Hb.out.mpr ⟨h.2.1.2.1,h.2.1.2.2.1⟩) (by decide)),HB2.out⟩
      ·have Hd:=hide (Hb.out.mp (by first|rfl|trivial));have hcw0:=hc2 w.heap.size 0 (by simp;omega);have hcw3:=hc2 w.heap.size 3 (by simp;omega);rw[World.cell?_alloc_past _ _ _ hz,hc1 _ _ (by simp),World.cell?_alloc_new]at hcw0 hcw3
       go_loopw [44,8,9] (fun i _ _ wr=>∃q:Nat,q≤ks.len∧i = .int .i64 q∧Below w2.heap.size w2 wr∧Hid (gm (41-deep-1) k 0 ks↔gm (41-deep-1) k q (ks.drop q))) (fun i _ _ _=>ks.len-(intOf i).toNat)
       case atStart=>exact⟨0,Nat.zero_le _,rfl,Below.refl _ _,hide Iff.rfl⟩
       case round =>
        obtain⟨i,hi,rfl,hB,hall⟩:=hrel;have hz3:w2.heap.size≤wr.heap.size:=hB.size;have HB3:=hide (aW HB2.out hB);have hB0:=hide hB;have hw0:=(hB.cell (p:=⟨w.heap.size,0,none⟩) (by simp;omega)).trans hcw0;have hw3:=(hB.cell (p:=⟨w.heap.size,3,none⟩) (by simp;omega)).trans hcw3;have hwf:=NK Vt.out HB3.out;simp only[List.getElem?_toArray,List.getElem?_cons_zero,List.getElem?_cons_succ]at hw0 hw3;by_cases hlt:i<ks.len
        ·obtain⟨b,o,nD,kc,k0,t0,n0,l7,r,rfl,hdf,c0,c1,c2,c3,e1,e2,e3,e4,e5,fJ,hcnt⟩:=(kT.out.below HB3.out).at_ hlt;have jX:=hide fJ;have oL:=hide hdf;have Hc:=hide hcnt;have Qs:=hide e3;have hbw:b<wr.heap.size:=block_lt_of_cell c0;have hwr:w.heap.size<wr.heap.size:=by omega
         have hfr:fb<wr.heap.size:=by omega
         clear hB fJ hdf hcnt e3
         go_wp2_with(first
          | (go_at_call 285;refine(Vb k k0 i _).mono ?_;rintro e w4 ⟨⟨_|_,rfl,hb⟩,hB⟩<;>(have Hf:=hide hb;have HB4:=hide (aW (az _ _) hB);obtain⟨hc4,hf4⟩:=iP hB;have kU:wr.heap.size<w4.heap.size:=(by have:=hB.size;simp at this;omega);clear hb hB))
          | (go_at_call 282;refine(nH.out S k0 t0 n0 l7 nD kc fb (deep+1) _ _ (by have:=Hc.out;have:=HN.out;omega) (by omega) e1 e2 Qs.out e4 e5 (jX.out.below HB4.out) (aN.out.below (aW HB3.out HB4.out)) (NK hwf HB4.out) (by omega) (by omega)).mono ?_;rintro e w5 ⟨⟨_|_,rfl,hb⟩,hB⟩<;>(have Hr:=hide hb;have iE:=hide (aW HB4.out hB);clear hb hB)))
         ·go_ret;exact⟨ah.no (fun h=>absurd (Hf.out.mpr (NJ oL.out (hall.out.mp h.2.2.1)).1) (by decide)),aW HB3.out HB4.out⟩
         ·go_ret;exact⟨ah.no (fun h=>absurd (Hr.out.mpr (NJ oL.out (hall.out.mp h.2.2.1)).2) (by decide)),aW HB3.out iE.out⟩
         ·go_roundw
          case rel=>exact⟨i+1,by omega,by go_num,(by have h3:=HB3.out;exact aW hB0.out iE.out),hide (Vs oL.out hall.out (Hf.out.mp (by first|rfl|trivial)) (Hr.out.mp (by first|rfl|trivial)))⟩
          case measure=>simp[intOf];omega
        ·have hfo:gm (41-deep-1) k 0 ks:=hall.out.mpr (by rw[Fo.drop_len _ _ (by omega)];exact trivial);have aQ:=hide hfo;by_cases h7:k=7
         ·subst h7;obtain⟨k0,t0,n0,l7,r,rfl,hset⟩:=qQ hfo (HM.out 2 (by simp[many]));clear hfo hB;obtain⟨b,o,Vu,c',rfl,hS,c0,c1,c2,c3,e1,e2,e3,e4,e5,xC,hr⟩:=(kT.out.below HB3.out);have hl0:0<(Fo.cons k0 t0 n0 l7 r).len:=by simp[Fo.len]
          rcases hset with rfl|⟨rfl,k1,t1,n1,qm,r1,rfl⟩
          ·go_wp2_with fail
           all_goals
            go_ret;go_tidy;exact⟨ah.mk (iff_of_true (by first|rfl|simp) ⟨by omega,⟨(EW _).mpr (by rw[H.out];rfl),Hd.out.1,Hd.out.2,HM.out⟩,aQ.out,fun h=>by first|(exact absurd h (by assumption))|trivial|rfl⟩),HB3.out⟩
          ·obtain⟨b1,o1,NL,c1',rfl,hS1,d0,d1,d2,d3,f1,f2,f3,f4,f5,JM,hr1⟩:=xC;have hl1:0<(Fo.cons k1 t1 n1 qm r1).len:=by simp[Fo.len]
           go_wp2_with fail
           all_goals
            go_ret;go_tidy;have hcore:1≤41-deep∧jW 7 t n (Fo.cons 26 t0 n0 (Fo.cons k1 t1 n1 qm r1) r).len∧gm (41-deep-1) 7 0 (Fo.cons 26 t0 n0 (Fo.cons k1 t1 n1 qm r1) r):=⟨by omega,⟨(EW _).mpr (by rw[H.out];rfl),Hd.out.1,Hd.out.2,HM.out⟩,aQ.out⟩;refine⟨ah.mk ⟨fun hb=>⟨hcore.1,hcore.2.1,hcore.2.2,fun _=>?_⟩,fun h=>?_⟩,HB3.out⟩
            ·have hb':(k1:Int)=22:=by simpa using hb
             show k1=22;omega
            ·have h':k1=22:=h.2.2.2 rfl;subst h';rfl
         ·have Vw:((k:Int) != 7)=true:=by simp;omega
          clear hfo hB
          go_wp2_with fail
          all_goals
           go_ret;go_tidy;exact⟨ah.mk (iff_of_true (by first|rfl|simp) ⟨by omega,⟨(EW _).mpr (by rw[H.out];rfl),Hd.out.1,Hd.out.2,HM.out⟩,aQ.out,fun h=>by first|(exact absurd h (by assumption))|trivial|rfl⟩),HB3.out⟩
     ·subst hall;have hq:((ks.len:Int) != (kinds.length:Int))=false:=by simp at hm;simp;omega
      clear hm;go_enter Tryz.func282,Tryz.ntmps282
      go_wp2_with(first
       | (go_at_call 283;refine(Fj H.out _).mono ?_;rintro e w1 ⟨A,rc,rfl,hrd,hB⟩;have HB:=hide (aW (az _ _) hB);obtain⟨hc1,hf1⟩:=iP hB;have hz:w.heap.size<w1.heap.size:=(by have:=hB.size;simp at this;omega);clear hB hrd)
       | (go_at_call 284;refine(PV k t n KA ks.len c _ ((aN.out.below HB.out).below (az _ _)) hk ht Hn.out).mono ?_;rintro e w2 ⟨⟨_|_,rfl,hb⟩,hB⟩<;>(have Hb:=hide hb;have HB2:=hide (aW HB.out (aW (az _ _) hB));obtain⟨hc2,hf2⟩:=iP hB;have hz2:w1.heap.size<w2.heap.size:=(by have:=hB.size;simp at this;omega);clear hb hB)))
      ·go_ret;go_tidy;exact⟨ah.no (fun h=>absurd (Hb.out.mpr ⟨h.2.1.2.1,h.2.1.2.2.1⟩) (by decide)),HB2.out⟩
      ·have Hd:=hide (Hb.out.mp (by first|rfl|trivial));have hcw0:=hc2 w.heap.size 0 (by simp;omega);have hcw3:=hc2 w.heap.size 3 (by simp;omega);rw[World.cell?_alloc_past _ _ _ hz,hc1 _ _ (by simp),World.cell?_alloc_new]at hcw0 hcw3
       go_loopw [44,8,9] (fun i _ _ wr=>∃q:Nat,q≤ks.len∧i = .int .i64 q∧Below w2.heap.size w2 wr∧Hid (gm (41-deep-1) k 0 ks↔gm (41-deep-1) k q (ks.drop q))) (fun i _ _ _=>ks.len-(intOf i).toNat)
       case atStart=>exact⟨0,Nat.zero_le _,rfl,Below.refl _ _,hide Iff.rfl⟩
       case round =>
        obtain⟨i,hi,rfl,hB,hall⟩:=hrel;have hz3:w2.heap.size≤wr.heap.size:=hB.size;have HB3:=hide (aW HB2.out hB);have hB0:=hide hB;have hw0:=(hB.cell (p:=⟨w.heap.size,0,none⟩) (by simp;omega)).trans hcw0;have hw3:=(hB.cell (p:=⟨w.heap.size,3,none⟩) (by simp;omega)).trans hcw3;have hwf:=NK Vt.out HB3.out;simp only[List.getElem?_toArray,List.getElem?_cons_zero,List.getElem?_cons_succ]at hw0 hw3;by_cases hlt:i<ks.len
        ·obtain⟨b,o,nD,kc,k0,t0,n0,l7,r,rfl,hdf,c0,c1,c2,c3,e1,e2,e3,e4,e5,fJ,hcnt⟩:=(kT.out.below HB3.out).at_ hlt;have jX:=hide fJ;have oL:=hide hdf;have Hc:=hide hcnt;have Qs:=hide e3;have hbw:b<wr.heap.size:=block_lt_of_cell c0;have hwr:w.heap.size<wr.heap.size:=by omega
         have hfr:fb<wr.heap.size:=by omega
         clear hB fJ hdf hcnt e3
         go_wp2_with(first
          | (go_at_call 285;refine(Vb k k0 i _).mono ?_;rintro e w4 ⟨⟨_|_,rfl,hb⟩,hB⟩<;>(have Hf:=hide hb;have HB4:=hide (aW (az _ _) hB);obtain⟨hc4,hf4⟩:=iP hB;have kU:wr.heap.size<w4.heap.size:=(by have:=hB.size;simp at this;omega);clear hb hB))
          | (go_at_call 282;refine(nH.out S k0 t0 n0 l7 nD kc fb (deep+1) _ _ (by have:=Hc.out;have:=HN.out;omega) (by omega) e1 e2 Qs.out e4 e5 (jX.out.below HB4.out) (aN.out.below (aW HB3.out HB4.out)) (NK hwf HB4.out) (by omega) (by omega)).mono ?_;rintro e w5 ⟨⟨_|_,rfl,hb⟩,hB⟩<;>(have Hr:=hide hb;have iE:=hide (aW HB4.out hB);clear hb hB)))
         ·go_ret;exact⟨ah.no (fun h=>absurd (Hf.out.mpr (NJ oL.out (hall.out.mp h.2.2.1)).1) (by decide)),aW HB3.out HB4.out⟩
         ·go_ret;exact⟨ah.no (fun h=>absurd (Hr.out.mpr (NJ oL.out (hall.out.mp h.2.2.1)).2) (by decide)),aW HB3.out iE.out⟩
         ·go_roundw
          case rel=>exact⟨i+1,by omega,by go_num,(by have h3:=HB3.out;exact aW hB0.out iE.out),hide (Vs oL.out hall.out (Hf.out.mp (by first|rfl|trivial)) (Hr.out.mp (by first|rfl|trivial)))⟩
          case measure=>simp[intOf];omega
        ·have hfo:gm (41-deep-1) k 0 ks:=hall.out.mpr (by rw[Fo.drop_len _ _ (by omega)];exact trivial);have aQ:=hide hfo;by_cases h7:k=7
         ·subst h7;obtain⟨k0,t0,n0,l7,r,rfl,hset⟩:=qQ hfo (HM.out 2 (by simp[many]));clear hfo hB;obtain⟨b,o,Vu,c',rfl,hS,c0,c1,c2,c3,e1,e2,e3,e4,e5,xC,hr⟩:=(kT.out.below HB3.out);have hl0:0<(Fo.cons k0 t0 n0 l7 r).len:=by simp[Fo.len]
          rcases hset with rfl|⟨rfl,k1,t1,n1,qm,r1,rfl⟩
          ·go_wp2_with fail
           all_goals
            go_ret;go_tidy;exact⟨ah.mk (iff_of_true (by first|rfl|simp) ⟨by omega,⟨(EW _).mpr (by rw[H.out];rfl),Hd.out.1,Hd.out.2,HM.out⟩,aQ.out,fun h=>by first|(exact absurd h (by assumption))|trivial|rfl⟩),HB3.out⟩
          ·obtain⟨b1,o1,NL,c1',rfl,hS1,d0,d1,d2,d3,f1,f2,f3,f4,f5,JM,hr1⟩:=xC;have hl1:0<(Fo.cons k1 t1 n1 qm r1).len:=by simp[Fo.len]
           go_wp2_with fail
           all_goals
            go_ret;go_tidy;have hcore:1≤41-deep∧jW 7 t n (Fo.cons 26 t0 n0 (Fo.cons k1 t1 n1 qm r1) r).len∧gm (41-deep-1) 7 0 (Fo.cons 26 t0 n0 (Fo.cons k1 t1 n1 qm r1) r):=⟨by omega,⟨(EW _).mpr (by rw[H.out];rfl),Hd.out.1,Hd.out.2,HM.out⟩,aQ.out⟩;refine⟨ah.mk ⟨fun hb=>⟨hcore.1,hcore.2.1,hcore.2.2,fun _=>?_⟩,fun h=>?_⟩,HB3.out⟩
            ·have hb':(k1:Int)=22:=by simpa using hb
             show k1=22;omega
            ·have h':k1=22:=h.2.2.2 rfl;subst h';rfl
         ·have Vw:((k:Int) != 7)=true:=by simp;omega
          clear hfo hB
          go_wp2_with fail
          all_goals
           go_ret;go_tidy;exact⟨ah.mk (iff_of_true (by first|rfl|simp) ⟨by omega,⟨(EW _).mpr (by rw[H.out];rfl),Hd.out.1,Hd.out.2,HM.out⟩,aQ.out,fun h=>by first|(exact absurd h (by assumption))|trivial|rfl⟩),HB3.out⟩
    ·have HM:=hide (fun h=>hm ((Vr H.out ks.len).mp h));obtain⟨rfl,hq0⟩:all=false∧ks.len≠kinds.length:=by simpa using hm
     have hq:((ks.len:Int) != (kinds.length:Int))=true:=by simp;omega
     clear hm hq0;go_enter Tryz.func282,Tryz.ntmps282
     go_wp2_with(first
      | (go_at_call 283;refine(Fj H.out _).mono ?_;rintro e w1 ⟨A,rc,rfl,hrd,hB⟩;have HB:=hide (aW (az _ _) hB);obtain⟨hc1,hf1⟩:=iP hB;have hz:w.heap.size<w1.heap.size:=(by have:=hB.size;simp at this;omega);clear hB hrd)
      | (go_at_call 284;refine(PV k t n KA ks.len c _ ((aN.out.below HB.out).below (az _ _)) hk ht Hn.out).mono ?_;rintro e w2 ⟨⟨_|_,rfl,hb⟩,hB⟩<;>(have Hb:=hide hb;have HB2:=hide (aW HB.out (aW (az _ _) hB));obtain⟨hc2,hf2⟩:=iP hB;have hz2:w1.heap.size<w2.heap.size:=(by have:=hB.size;simp at this;omega);clear hb hB)))
     all_goals
      go_ret;go_tidy;exact⟨ah.no (fun h=>HM.out h.2.1.2.2.2),HB2.out⟩
theorem tN{S:Nat→Prop}{k:Nat}{t:ByteArray}{n:Int}{ks:Fo}{KA:Option Addr}{c:Nat}{w:World}(hk:k<256)(ht:t.size≤9223372036854775807)(hn:ai n)(hl:ks.len≤c)(hc:c≤9223372036854775807)
  (hks:bG S w KA ks) (htab:bF w):
  Calls Tryz.prog 259 #[.agg #[.int .u8 k,.string t,.int .i64 n,.slice KA ks.len c]] w fun e w'=>ah (dR 40 k t n ks) e∧Below w.heap.size w w':=by
 have kT:=hide hks;have aN:Hid (bF w):=htab;have Hn:=hide hn;clear hks htab hn;have hmf :∀(fn:Fn) (first cap:Array Value) (w:World),(Instr.makeFunc fn first cap).run Tryz.prog w = .ok (.func fn first cap) w:=fun _ _ _ _=>rfl;go_enter Tryz.func259,Tryz.ntmps259
 go_wp2_with(go_at_call 282;refine(Zf (ks.cnt+1) S k t n ks KA c _ 1 _ _ (by omega) (by omega) hk ht Hn.out hl hc (kT.out.below (iD _ _)) (aN.out.below (iD _ _)) (by simp) (by omega) (by omega)).mono ?_;rintro e w1 ⟨⟨b,rfl,hb⟩,hB⟩;have Hb:=hide hb;have HB:=hide (Dy hB);clear hb hB)
 go_ret;exact⟨ah.mk Hb.out,HB.out⟩
theorem kJ(n:Int)(w:World)(hn:ai n):Calls Tryz.prog 218 #[.int .i64 n] w fun e w'=>ah (Number n) e∧w'=w:=by
 unfold ai at hn;go_enter Tryz.func218,Tryz.ntmps218
 go_wp2_with fail
 all_goals(go_ret;go_tidy;exact⟨ah.mk (by unfold Number;grind),rfl⟩)
theorem Zh(n:Int)(w:World)(hn:ai n):Calls Tryz.prog 217 #[.int .i64 n] w fun e w'=>ah (¬Number n) e∧w'=w:=by
 have Hn:=hide hn;clear hn;go_enter Tryz.func217,Tryz.ntmps217
 go_wp2_with(go_at_call 218;refine(kJ n _ Hn.out).mono ?_;rintro e w1 ⟨⟨b,rfl,hb⟩,rfl⟩;have Hb:=hide hb;clear hb)
 go_ret;exact⟨ah.mk (by rw[←Hb.out];simp),rfl⟩
theorem Zi{S:Nat→Prop}{A:Option Addr}{c:Nat}{l:List Int}{w:World}(hl:IntsIn S w A l):
  Calls Tryz.prog 254 #[.slice A l.length c,.func (.func 217) #[] #[]] w fun e w'=>(∃r:Int,e = .returned (.int .i64 r)∧ai r∧(0≤r↔∃n∈l,¬Number n))∧w'=w:=by
 have Hl:=hide hl;have hlen:l.length≤9223372036854775807:=hl.2.2;clear hl;go_enter Tryz.func254,Tryz.ntmps254
 go_wp2_with fail
 go_loopw [8,5] (fun i _ wr=>∃q:Nat,q≤l.length∧i = .int .i64 q∧wr=w∧Hid (∀j,(h:j<l.length)→j<q→Number l[j])) (fun i _ _=>l.length-(intOf i).toNat)
 case atStart=>exact⟨0,Nat.zero_le _,rfl,rfl,hide (by omega)⟩
 case round =>
  obtain⟨i,hi,rfl,rfl,hall⟩:=hrel;by_cases hlt:i<l.length
  ·obtain⟨b,o,rfl,hc⟩:=Hl.out.1.at_ (j:=i) (by simpa using hlt);simp only[List.getElem_map]at hc;have hi64:=hide (Hl.out.2.1 l[i] (List.getElem_mem hlt))
   go_wp2_with(go_at_call 217;refine(Zh l[i] _ hi64.out).mono ?_;rintro e w1 ⟨⟨_|_,rfl,hb⟩,rfl⟩<;>(have Hb:=hide hb;clear hb))
   ·go_roundw
    case rel=>exact⟨i+1,by omega,by go_num,(by first|rfl|trivial),hide fun j hj hji=>if h:j=i then by subst h;exact Classical.byContradiction fun hn=>absurd (Hb.out.mpr hn) (by decide)else hall.out j hj (by omega)⟩
    case measure=>simp[intOf];omega
   ·go_ret;exact⟨⟨i,rfl,by unfold ai;omega,iff_of_true (by omega) ⟨l[i],List.getElem_mem hlt,Hb.out.mp (by first|rfl|trivial)⟩⟩,rfl⟩
  ·go_wp2_with fail
   go_ret;refine⟨⟨-1,rfl,by unfold ai;omega,iff_of_false (by omega) ?_⟩,rfl⟩;rintro⟨n,hn,hnn⟩;obtain⟨j,hj,rfl⟩:=List.getElem_of_mem hn;exact hnn (hall.out j hj (by omega))
theorem qR{S:Nat→Prop}{A:Option Addr}{c:Nat}{l:List Int}{w:World}(hl:IntsIn S w A l):
  Calls Tryz.prog 216 #[.slice A l.length c,.func (.func 217) #[] #[]] w fun e w'=>ah (∃n∈l,¬Number n) e∧w'=w:=by
 have Hl:=hide hl;clear hl;go_enter Tryz.func216,Tryz.ntmps216
 go_wp2_with(go_at_call 254;refine(Zi Hl.out).mono ?_;rintro e w1 ⟨⟨r,rfl,hr,hb⟩,rfl⟩;have Hb:=hide hb;clear hb)
 go_ret;exact⟨ah.mk (by rw[←Hb.out];simp),rfl⟩
theorem jy{S:Nat→Prop}{A:Option Addr}{c:Nat}{f:Fo}{w:World}(hf:bG S w A f)(hl:f.len≤c)(hc:c≤9223372036854775807)(htab:bF w):
  Calls Tryz.prog 220 #[.slice A f.len c] w fun e w'=>ah (bD f) e∧Below w.heap.size w w':=by
 have aN:Hid (bF w):=htab;by_cases h1:f.len=1
 ·obtain⟨k,t,n,ks,r,rfl⟩:=ql (f:=f) (by omega);have hr:r = .nil:=by cases r with
   | nil=>rfl
   | cons=>simp[Fo.len]at h1
  subst hr;obtain⟨b,o,KA,c',rfl,hS,c0,c1,c2,c3,e1,e2,e3,e4,e5,hks,_⟩:=hf;have kT:=hide hks;have He:=hide e3;have hq:(((Fo.cons k t n ks .nil).len:Int) == 1)=true:=by simp[Fo.len]
  have hl0:0<(Fo.cons k t n ks .nil).len:=by simp[Fo.len]
  clear hks htab h1 e3;go_enter Tryz.func220,Tryz.ntmps220
  go_wp2_with(go_at_call 259;refine(tN e1 e2 He.out e4 e5 kT.out aN.out).mono ?_;rintro e w1 ⟨⟨b,rfl,hb⟩,hB⟩;have Hb:=hide hb;have HB:=hide hB;clear hb hB)
  go_ret;exact⟨ah.mk Hb.out,HB.out⟩
 ·have hq:((f.len:Int) == 1)=false:=by simp;omega
  have H1:=hide h1;clear htab h1 hf;go_enter Tryz.func220,Tryz.ntmps220
  go_wp2_with fail
  go_ret;refine⟨ah.no (fun h=>?_),Below.refl _ _⟩;have h1:=H1.out;cases f with
  | nil=>exact h
  | cons k t n ks r=>cases r with
   | nil=>simp[Fo.len]at h1
   | cons=>exact h
theorem vg{f:Fo}(h:bD f):(0:Int)<f.len:=by cases f with
 | nil=>exact h.elim
 | cons=>simp only[Fo.len];omega
theorem FO:Number 0:=by unfold Number;omega
theorem Iy{f:Fo}:f = .nil↔f.len=0:=by cases f<;>simp[Fo.len]
theorem BK{s t:ByteArray}:s=t↔(s.toList == t.toList)=true:=by
 rw[beq_iff_eq,ByteArray.toList_eq,ByteArray.toList_eq];exact⟨fun h=>by rw[h],MR⟩
theorem Zj{e:Ed}:dC {e with kind:=1}↔¬(∃n,n∈e.path∧¬Number n)∧e.at_=0∧e.far=0∧e.old.len=0∧e.new.len=0∧¬((e.path.length:Int) == 0)=true∧dM e.frm∧dM e.to∧¬(e.frm.toList == e.to.toList)=true:=by
 rw[←BK,←Iy,←Iy];unfold dC;simp
theorem Vx{e:Ed}:dC {e with kind:=2}↔¬(∃n,n∈e.path∧¬Number n)∧e.far=0∧e.frm=ae∧e.to=ae∧e.old.len=0∧Number e.at_∧bD e.new:=by
 rw[←Iy];unfold dC;simp
theorem Vy{e:Ed}:dC {e with kind:=3}↔¬(∃n,n∈e.path∧¬Number n)∧e.far=0∧e.frm=ae∧e.to=ae∧e.new.len=0∧Number e.at_∧bD e.old:=by
 rw[←Iy];unfold dC;simp
theorem Qu{e:Ed}:dC {e with kind:=4}↔¬(∃n,n∈e.path∧¬Number n)∧e.at_=0∧e.far=0∧e.frm=ae∧e.to=ae∧¬((e.path.length:Int) == 0)=true∧bD e.old∧bD e.new∧e.old≠e.new:=by
 unfold dC;simp
theorem Vz{e:Ed}:dC {e with kind:=5}↔¬(∃n,n∈e.path∧¬Number n)∧e.frm=ae∧e.to=ae∧e.new.len=0∧Number e.at_∧Number e.far∧e.at_≠e.far∧bD e.old:=by
 rw[←Iy];unfold dC;simp
theorem VA{e:Ed}:dC e↔((e.kind:Int)=1∨(e.kind:Int)=2∨(e.kind:Int)=3∨(e.kind:Int)=4∨(e.kind:Int)=5)∧dC e:=by
 constructor
 ·intro h;refine⟨?_,h⟩;unfold dC at h;omega
 ·exact fun h=>h.2
theorem VB{s t:ByteArray}:(!(s++t).toList.isEmpty)=false↔s=ae∧t=ae:=by
 rw[ByteArray.toList_eq];have hd:(s++t).data.toList=s.data.toList++t.data.toList:=by simp
 rw[hd];constructor
 ·intro h;simp only[Bool.not_eq_false',List.isEmpty_iff,List.append_eq_nil_iff]at h;exact⟨MR (by rw[h.1];rfl),MR (by rw[h.2];rfl)⟩
 ·rintro⟨rfl,rfl⟩;rfl
theorem D7{s t:ByteArray}(h :¬(s=ae∧t=ae)):(!(s++t).toList.isEmpty)=true:=by
 rcases hb:(!(s++t).toList.isEmpty)with _|_
 ·exact absurd (VB.mp hb) h
 ·rfl
theorem Ak:(!(({data:=#[]}:ByteArray)++({data:=#[]}:ByteArray)).toList.isEmpty)=false:=VB.mpr ⟨rfl,rfl⟩
theorem zap :¬dM ae:=by
 rintro⟨_,⟨c,l,h,_⟩,_⟩;cases h
theorem bz{W w1:World}{N:Nat}(hB:Below W.heap.size W w1)(hN:N<W.heap.size):(∀o,w1.cell? ⟨N,o,none⟩=W.cell? ⟨N,o,none⟩)∧(∀o,w1.frozen? ⟨N,o,none⟩=W.frozen? ⟨N,o,none⟩)∧N<w1.heap.size :=
 ⟨fun o=>hB.cell (p:=⟨N,o,none⟩) hN,fun o=>hB.frozen (p:=⟨N,o,none⟩) hN,aH hN hB.size⟩
end
end Go.Proofs.YtjjaojnglnpgaaaGreatDoor
