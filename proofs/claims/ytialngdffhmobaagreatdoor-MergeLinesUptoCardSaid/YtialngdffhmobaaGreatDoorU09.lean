/- Part 10 of what mgTop rests on. -/
import Derived.Laws.EntriesVeiled
import Derived.Test.YtialngdffhmobaaGreatDoorU06
import Derived.Test.YtialngdffhmobaaGreatDoorU08
import Derived.Test.YtialngdffhmobaaGreatDoorU04
import Derived.Test.YtialngdffhmobaaGreatDoorU01
import Derived.Test.YtialngdffhmobaaGreatDoorU07
import Derived.Test.YtialngdffhmobaaGreatDoorU00
set_option linter.unusedVariables false
set_option linter.unusedSimpArgs false
set_option maxHeartbeats 16000000
set_option maxRecDepth 1000000
namespace Go.Proofs.YtialngdffhmobaaGreatDoor
section
open Go.RowKit
theorem many_some{p:Nat}{k':Int}{ks:List Int}{all:Bool}(h:kindRow p=some (k',ks,all))(c:Nat):
  (∀m,many p=some m→c=m)↔(all=true∨c=ks.length):=by
 obtain⟨h1,rfl⟩:=kindRow_mem h;clear h;simp[kindRows]at h1;rcases h1 with⟨hp,rfl,rfl⟩|⟨hp,rfl,rfl⟩|⟨hp,rfl,rfl⟩|⟨hp,rfl,rfl⟩|⟨hp,rfl,rfl⟩|⟨hp,rfl,rfl⟩|⟨hp,rfl,rfl⟩|⟨hp,rfl,rfl⟩|⟨hp,rfl,rfl⟩|⟨hp,rfl,rfl⟩|⟨hp,rfl,rfl⟩|⟨hp,rfl,rfl⟩|⟨hp,rfl,rfl⟩|⟨hp,rfl,rfl⟩|⟨hp,rfl,rfl⟩|⟨hp,rfl,rfl⟩|⟨hp,rfl,rfl⟩|⟨hp,rfl,rfl⟩|⟨hp,rfl,rfl⟩|⟨hp,rfl,rfl⟩|⟨hp,rfl,rfl⟩|⟨hp,rfl,rfl⟩
 all_goals
  norm_cast at hp;subst hp;simp[many]
theorem foOk_cons{m p i k:Nat}{t:ByteArray}{n:Int}{ks r:Fo}:FoOk m p i (.cons k t n ks r)↔FitsIn p k i∧NodeOk m k t n ks∧FoOk m p (i+1) r:=by
 rw[FoOk,NodeOk];grind
theorem fo_one{f:Fo}(h:0<f.len):∃k t n ks r,f = .cons k t n ks r:=by
 cases f with
 | nil=>simp[Fo.len]at h
 | cons k t n ks r=>exact⟨k,t,n,ks,r,rfl⟩
theorem set_has{m:Nat}{ks:Fo}(h:FoOk m 7 0 ks)(hl:ks.len=2):∃k0 t0 n0 ks0 r,ks = .cons k0 t0 n0 ks0 r∧(k0=22∨(k0=26∧∃k1 t1 n1 ks1 r1,ks0 = .cons k1 t1 n1 ks1 r1)):=by
 obtain⟨k0,t0,n0,ks0,r,rfl⟩:=fo_one (f:=ks) (by omega);refine⟨k0,t0,n0,ks0,r,rfl,?_⟩;rw[foOk_cons]at h;obtain⟨⟨_,hf⟩,⟨_,hh,_⟩,_⟩:=h;simp at hf;rcases hf with rfl|rfl
 ·exact .inl rfl
 ·refine .inr ⟨rfl,fo_one ?_⟩;have:=hh.2.2.2 2 (by simp[many]);omega
theorem right_at{m p i k:Nat}{t:ByteArray}{n:Int}{ks r f:Fo}(hd:f.drop i = .cons k t n ks r)(h:FoOk m p i (f.drop i)):FitsIn p k i∧NodeOk m k t n ks:=by
 rw[hd,foOk_cons]at h;exact⟨h.1,h.2.1⟩
theorem right_next{m p i k:Nat}{t:ByteArray}{n:Int}{ks r f:Fo}{P:Prop}(hd:f.drop i = .cons k t n ks r)(h:P↔FoOk m p i (f.drop i))(h1:FitsIn p k i)(h2:NodeOk m k t n ks):P↔FoOk m p (i+1) (f.drop (i+1)):=by
 rw[h,hd,foOk_cons,Fo.drop_succ hd];exact⟨fun h=>h.2.2,fun h=>⟨h1,h2,h⟩⟩
theorem rightFn_cell{w w':World}{fb:Nat}{v:Value}(h:w.cell? ⟨fb,0,none⟩=some v)(hB:Below w.heap.size w w'):w'.cell? ⟨fb,0,none⟩=some v :=
 (hB.cell (p:=⟨fb,0,none⟩) (block_lt_of_cell h)).trans h
theorem right_upto(N:Nat):∀(S:Nat→Prop) (k:Nat) (t:ByteArray) (n:Int) (ks:Fo) (KA:Option Addr) (c fb deep:Nat) (d:Int) (w:World),ks.cnt<N→d=deep→k<256→t.size≤9223372036854775807→isInt64 n→ks.len≤c→c≤9223372036854775807→
  FoIn S w KA ks→TabOk w→w.cell? ⟨fb,0,none⟩=some (.func (.func 215) #[] #[.pointer (some ⟨fb,0,none⟩)])→1≤deep→deep≤41→
  Calls Tryz.prog 215 #[.agg #[.int .u8 k,.string t,.int .i64 n,.slice KA ks.len c],.int .i64 d,.pointer (some ⟨fb,0,none⟩)] w fun e w'=>RetB (NodeOk (41-deep) k t n ks) e∧Below w.heap.size w w':=by
 induction N with
 | zero=>intro _ _ _ _ _ _ _ _ _ _ _ h;omega
 | succ N ih =>
  rintro S k t n ks KA c fb deep _ w hN rfl hk ht hn hl hc hks htab hfn hd1 hd2;have Hih:=hide ih;have HN:=hide hN;have Hks:=hide hks;have Htab:Hid (TabOk w):=htab;have Hfn:=hide hfn;have hfb:=block_lt_of_cell hfn;have Hn:=hide hn;clear ih hN hks htab hfn hn;cases hr:kindRow k with
  | none =>
   have H:=hide hr;clear hr;go_enter Tryz.func215,Tryz.ntmps215
   go_wp2_with(go_at_call 216;refine(rows_none H.out _).mono ?_;rintro e w1 ⟨rfl,hB⟩;have HB:=hide (blw_up (below_alloc _ _) hB);obtain⟨hc1,hf1⟩:=bcell hB;have hz:w.heap.size<w1.heap.size:=(by have:=hB.size;simp at this;omega);clear hB)
   go_ret;exact⟨RetB.no (fun h=>by have:=(known_iff k).mp h.2.1.1;rw[H.out]at this;cases this),HB.out.alloc HB.out.size _⟩
  | some x =>
   obtain⟨k',kinds,all⟩:=x;have H:=hide hr;have hlen:kinds.length≤3:=(kindRows_ok _ (kindRow_mem hr).1).2.2;clear hr;rcases Nat.lt_or_ge 40 deep with h40|h40
   ·have hd:decide (40<(deep:Int))=true:=by simp;omega
    go_enter Tryz.func215,Tryz.ntmps215
    go_wp2_with(go_at_call 216;refine(rows_some H.out _).mono ?_;rintro e w1 ⟨A,rc,rfl,hrd,hB⟩;have HB:=hide (blw_up (below_alloc _ _) hB);obtain⟨hc1,hf1⟩:=bcell hB;have hz:w.heap.size<w1.heap.size:=(by have:=hB.size;simp at this;omega);clear hB hrd)
    go_ret;exact⟨RetB.no (fun h=>by have:=h.1;omega),HB.out.alloc HB.out.size _⟩
   ·have hd:decide (40<(deep:Int))=false:=by simp;omega
    by_cases hm:all=true∨ks.len=kinds.length
    ·have HM:=hide ((many_some H.out ks.len).mpr hm);rcases Bool.eq_false_or_eq_true all with hall|hall
     ·subst hall;clear hm;go_enter Tryz.func215,Tryz.ntmps215
      go_wp2_with(first
       | (go_at_call 216;refine(rows_some H.out _).mono ?_;rintro e w1 ⟨A,rc,rfl,hrd,hB⟩;have HB:=hide (blw_up (below_alloc _ _) hB);obtain⟨hc1,hf1⟩:=bcell hB;have hz:w.heap.size<w1.heap.size:=(by have:=hB.size;simp at this;omega);clear hB hrd)
       | (go_at_call 217;refine(says_any k t n KA ks.len c _ ((Htab.out.below HB.out).below (below_alloc _ _)) hk ht Hn.out).mono ?_;rintro e w2 ⟨⟨_|_,rfl,hb⟩,hB⟩<;>(have Hb:=hide hb;have HB2:=hide (blw_up HB.out (blw_up (below_alloc _ _) hB));obtain⟨hc2,hf2⟩:=bcell hB;have hz2:w1.heap.size<w2.heap.size:=(by have:=hB.size;simp at this;omega);clear hb hB)))
      ·go_ret;go_tidy;exact⟨RetB.no (fun h=>absurd (Hb.out.mpr ⟨h.2.1.2.1,h.2.1.2.2.1⟩) (by decide)),HB2.out⟩
      ·have Hd:=hide (Hb.out.mp (by first|rfl|trivial));have hcw0:=hc2 w.heap.size 0 (by simp;omega);have hcw3:=hc2 w.heap.size 3 (by simp;omega);rw[World.cell?_alloc_past _ _ _ hz,hc1 _ _ (by simp),World.cell?_alloc_new]at hcw0 hcw3
       go_loopw [44,8,9] (fun i _ _ wr=>∃q:Nat,q≤ks.len∧i = .int .i64 q∧Below w2.heap.size w2 wr∧Hid (FoOk (41-deep-1) k 0 ks↔FoOk (41-deep-1) k q (ks.drop q))) (fun i _ _ _=>ks.len-(intOf i).toNat)
       case atStart=>exact⟨0,Nat.zero_le _,rfl,Below.refl _ _,hide Iff.rfl⟩
       case round =>
        obtain⟨i,hi,rfl,hB,hall⟩:=hrel;have hz3:w2.heap.size≤wr.heap.size:=hB.size;have HB3:=hide (blw_up HB2.out hB);have hB0:=hide hB;have hw0:=(hB.cell (p:=⟨w.heap.size,0,none⟩) (by simp;omega)).trans hcw0;have hw3:=(hB.cell (p:=⟨w.heap.size,3,none⟩) (by simp;omega)).trans hcw3;have hwf:=rightFn_cell Hfn.out HB3.out;simp only[List.getElem?_toArray,List.getElem?_cons_zero,List.getElem?_cons_succ]at hw0 hw3;by_cases hlt:i<ks.len
        ·obtain⟨b,o,KA',kc,k0,t0,n0,ks0,r,rfl,hdf,c0,c1,c2,c3,e1,e2,e3,e4,e5,hks',hcnt⟩:=(Hks.out.below HB3.out).at_ hlt;have Hks':=hide hks';have Hdf:=hide hdf;have Hc:=hide hcnt;have He3:=hide e3;have hbw:b<wr.heap.size:=block_lt_of_cell c0;have hwr:w.heap.size<wr.heap.size:=by omega
         have hfr:fb<wr.heap.size:=by omega
         clear hB hks' hdf hcnt e3
         go_wp2_with(first
          | (go_at_call 218;refine(fits_any k k0 i _).mono ?_;rintro e w4 ⟨⟨_|_,rfl,hb⟩,hB⟩<;>(have Hf:=hide hb;have HB4:=hide (blw_up (below_alloc _ _) hB);obtain⟨hc4,hf4⟩:=bcell hB;have hz4:wr.heap.size<w4.heap.size:=(by have:=hB.size;simp at this;omega);clear hb hB))
          | (go_at_call 215;refine(Hih.out S k0 t0 n0 ks0 KA' kc fb (deep+1) _ _ (by have:=Hc.out;have:=HN.out;omega) (by omega) e1 e2 He3.out e4 e5 (Hks'.out.below HB4.out) (Htab.out.below (blw_up HB3.out HB4.out)) (rightFn_cell hwf HB4.out) (by omega) (by omega)).mono ?_;rintro e w5 ⟨⟨_|_,rfl,hb⟩,hB⟩<;>(have Hr:=hide hb;have HB5:=hide (blw_up HB4.out hB);clear hb hB)))
         ·go_ret;exact⟨RetB.no (fun h=>absurd (Hf.out.mpr (right_at Hdf.out (hall.out.mp h.2.2.1)).1) (by decide)),blw_up HB3.out HB4.out⟩
         ·go_ret;exact⟨RetB.no (fun h=>absurd (Hr.out.mpr (right_at Hdf.out (hall.out.mp h.2.2.1)).2) (by decide)),blw_up HB3.out HB5.out⟩
         ·go_roundw
          case rel=>exact⟨i+1,by omega,by go_num,(by have h3:=HB3.out;exact blw_up hB0.out HB5.out),hide (right_next Hdf.out hall.out (Hf.out.mp (by first|rfl|trivial)) (Hr.out.mp (by first|rfl|trivial)))⟩
          case measure=>simp[intOf];omega
        ·have hfo:FoOk (41-deep-1) k 0 ks:=hall.out.mpr (by rw[Fo.drop_len _ _ (by omega)];exact trivial);have Hall:=hide hfo;by_cases h7:k=7
         ·subst h7;obtain⟨k0,t0,n0,ks0,r,rfl,hset⟩:=set_has hfo (HM.out 2 (by simp[many]));clear hfo hB;obtain⟨b,o,KA0,c',rfl,hS,c0,c1,c2,c3,e1,e2,e3,e4,e5,hks0,hr⟩:=(Hks.out.below HB3.out);have hl0:0<(Fo.cons k0 t0 n0 ks0 r).len:=by simp[Fo.len]
          rcases hset with rfl|⟨rfl,k1,t1,n1,ks1,r1,rfl⟩
          ·go_wp2_with fail
           all_goals
            go_ret;go_tidy;exact⟨RetB.mk (iff_of_true (by first|rfl|simp) ⟨by omega,⟨(known_iff _).mpr (by rw[H.out];rfl),Hd.out.1,Hd.out.2,HM.out⟩,Hall.out,fun h=>by first|(exact absurd h (by assumption))|trivial|rfl⟩),HB3.out⟩
          ·obtain⟨b1,o1,KA1,c1',rfl,hS1,d0,d1,d2,d3,f1,f2,f3,f4,f5,hks1,hr1⟩:=hks0;have hl1:0<(Fo.cons k1 t1 n1 ks1 r1).len:=by simp[Fo.len]
           go_wp2_with fail
           all_goals
            go_ret;go_tidy;have hcore:1≤41-deep∧HeadOk 7 t n (Fo.cons 26 t0 n0 (Fo.cons k1 t1 n1 ks1 r1) r).len∧FoOk (41-deep-1) 7 0 (Fo.cons 26 t0 n0 (Fo.cons k1 t1 n1 ks1 r1) r):=⟨by omega,⟨(known_iff _).mpr (by rw[H.out];rfl),Hd.out.1,Hd.out.2,HM.out⟩,Hall.out⟩;refine⟨RetB.mk ⟨fun hb=>⟨hcore.1,hcore.2.1,hcore.2.2,fun _=>?_⟩,fun h=>?_⟩,HB3.out⟩
            ·have hb':(k1:Int)=22:=by simpa using hb
             show k1=22;omega
            ·have h':k1=22:=h.2.2.2 rfl;subst h';rfl
         ·have h7':((k:Int) != 7)=true:=by simp;omega
          clear hfo hB
          go_wp2_with fail
          all_goals
           go_ret;go_tidy;exact⟨RetB.mk (iff_of_true (by first|rfl|simp) ⟨by omega,⟨(known_iff _).mpr (by rw[H.out];rfl),Hd.out.1,Hd.out.2,HM.out⟩,Hall.out,fun h=>by first|(exact absurd h (by assumption))|trivial|rfl⟩),HB3.out⟩
     ·subst hall;have hq:((ks.len:Int) != (kinds.length:Int))=false:=by simp at hm;simp;omega
      clear hm;go_enter Tryz.func215,Tryz.ntmps215
      go_wp2_with(first
       | (go_at_call 216;refine(rows_some H.out _).mono ?_;rintro e w1 ⟨A,rc,rfl,hrd,hB⟩;have HB:=hide (blw_up (below_alloc _ _) hB);obtain⟨hc1,hf1⟩:=bcell hB;have hz:w.heap.size<w1.heap.size:=(by have:=hB.size;simp at this;omega);clear hB hrd)
       | (go_at_call 217;refine(says_any k t n KA ks.len c _ ((Htab.out.below HB.out).below (below_alloc _ _)) hk ht Hn.out).mono ?_;rintro e w2 ⟨⟨_|_,rfl,hb⟩,hB⟩<;>(have Hb:=hide hb;have HB2:=hide (blw_up HB.out (blw_up (below_alloc _ _) hB));obtain⟨hc2,hf2⟩:=bcell hB;have hz2:w1.heap.size<w2.heap.size:=(by have:=hB.size;simp at this;omega);clear hb hB)))
      ·go_ret;go_tidy;exact⟨RetB.no (fun h=>absurd (Hb.out.mpr ⟨h.2.1.2.1,h.2.1.2.2.1⟩) (by decide)),HB2.out⟩
      ·have Hd:=hide (Hb.out.mp (by first|rfl|trivial));have hcw0:=hc2 w.heap.size 0 (by simp;omega);have hcw3:=hc2 w.heap.size 3 (by simp;omega);rw[World.cell?_alloc_past _ _ _ hz,hc1 _ _ (by simp),World.cell?_alloc_new]at hcw0 hcw3
       go_loopw [44,8,9] (fun i _ _ wr=>∃q:Nat,q≤ks.len∧i = .int .i64 q∧Below w2.heap.size w2 wr∧Hid (FoOk (41-deep-1) k 0 ks↔FoOk (41-deep-1) k q (ks.drop q))) (fun i _ _ _=>ks.len-(intOf i).toNat)
       case atStart=>exact⟨0,Nat.zero_le _,rfl,Below.refl _ _,hide Iff.rfl⟩
       case round =>
        obtain⟨i,hi,rfl,hB,hall⟩:=hrel;have hz3:w2.heap.size≤wr.heap.size:=hB.size;have HB3:=hide (blw_up HB2.out hB);have hB0:=hide hB;have hw0:=(hB.cell (p:=⟨w.heap.size,0,none⟩) (by simp;omega)).trans hcw0;have hw3:=(hB.cell (p:=⟨w.heap.size,3,none⟩) (by simp;omega)).trans hcw3;have hwf:=rightFn_cell Hfn.out HB3.out;simp only[List.getElem?_toArray,List.getElem?_cons_zero,List.getElem?_cons_succ]at hw0 hw3;by_cases hlt:i<ks.len
        ·obtain⟨b,o,KA',kc,k0,t0,n0,ks0,r,rfl,hdf,c0,c1,c2,c3,e1,e2,e3,e4,e5,hks',hcnt⟩:=(Hks.out.below HB3.out).at_ hlt;have Hks':=hide hks';have Hdf:=hide hdf;have Hc:=hide hcnt;have He3:=hide e3;have hbw:b<wr.heap.size:=block_lt_of_cell c0;have hwr:w.heap.size<wr.heap.size:=by omega
         have hfr:fb<wr.heap.size:=by omega
         clear hB hks' hdf hcnt e3
         go_wp2_with(first
          | (go_at_call 218;refine(fits_any k k0 i _).mono ?_;rintro e w4 ⟨⟨_|_,rfl,hb⟩,hB⟩<;>(have Hf:=hide hb;have HB4:=hide (blw_up (below_alloc _ _) hB);obtain⟨hc4,hf4⟩:=bcell hB;have hz4:wr.heap.size<w4.heap.size:=(by have:=hB.size;simp at this;omega);clear hb hB))
          | (go_at_call 215;refine(Hih.out S k0 t0 n0 ks0 KA' kc fb (deep+1) _ _ (by have:=Hc.out;have:=HN.out;omega) (by omega) e1 e2 He3.out e4 e5 (Hks'.out.below HB4.out) (Htab.out.below (blw_up HB3.out HB4.out)) (rightFn_cell hwf HB4.out) (by omega) (by omega)).mono ?_;rintro e w5 ⟨⟨_|_,rfl,hb⟩,hB⟩<;>(have Hr:=hide hb;have HB5:=hide (blw_up HB4.out hB);clear hb hB)))
         ·go_ret;exact⟨RetB.no (fun h=>absurd (Hf.out.mpr (right_at Hdf.out (hall.out.mp h.2.2.1)).1) (by decide)),blw_up HB3.out HB4.out⟩
         ·go_ret;exact⟨RetB.no (fun h=>absurd (Hr.out.mpr (right_at Hdf.out (hall.out.mp h.2.2.1)).2) (by decide)),blw_up HB3.out HB5.out⟩
         ·go_roundw
          case rel=>exact⟨i+1,by omega,by go_num,(by have h3:=HB3.out;exact blw_up hB0.out HB5.out),hide (right_next Hdf.out hall.out (Hf.out.mp (by first|rfl|trivial)) (Hr.out.mp (by first|rfl|trivial)))⟩
          case measure=>simp[intOf];omega
        ·have hfo:FoOk (41-deep-1) k 0 ks:=hall.out.mpr (by rw[Fo.drop_len _ _ (by omega)];exact trivial);have Hall:=hide hfo;by_cases h7:k=7
         ·subst h7;obtain⟨k0,t0,n0,ks0,r,rfl,hset⟩:=set_has hfo (HM.out 2 (by simp[many]));clear hfo hB;obtain⟨b,o,KA0,c',rfl,hS,c0,c1,c2,c3,e1,e2,e3,e4,e5,hks0,hr⟩:=(Hks.out.below HB3.out);have hl0:0<(Fo.cons k0 t0 n0 ks0 r).len:=by simp[Fo.len]
          rcases hset with rfl|⟨rfl,k1,t1,n1,ks1,r1,rfl⟩
          ·go_wp2_with fail
           all_goals
            go_ret;go_tidy;exact⟨RetB.mk (iff_of_true (by first|rfl|simp) ⟨by omega,⟨(known_iff _).mpr (by rw[H.out];rfl),Hd.out.1,Hd.out.2,HM.out⟩,Hall.out,fun h=>by first|(exact absurd h (by assumption))|trivial|rfl⟩),HB3.out⟩
          ·obtain⟨b1,o1,KA1,c1',rfl,hS1,d0,d1,d2,d3,f1,f2,f3,f4,f5,hks1,hr1⟩:=hks0;have hl1:0<(Fo.cons k1 t1 n1 ks1 r1).len:=by simp[Fo.len]
           go_wp2_with fail
           all_goals
            go_ret;go_tidy;have hcore:1≤41-deep∧HeadOk 7 t n (Fo.cons 26 t0 n0 (Fo.cons k1 t1 n1 ks1 r1) r).len∧FoOk (41-deep-1) 7 0 (Fo.cons 26 t0 n0 (Fo.cons k1 t1 n1 ks1 r1) r):=⟨by omega,⟨(known_iff _).mpr (by rw[H.out];rfl),Hd.out.1,Hd.out.2,HM.out⟩,Hall.out⟩;refine⟨RetB.mk ⟨fun hb=>⟨hcore.1,hcore.2.1,hcore.2.2,fun _=>?_⟩,fun h=>?_⟩,HB3.out⟩
            ·have hb':(k1:Int)=22:=by simpa using hb
             show k1=22;omega
            ·have h':k1=22:=h.2.2.2 rfl;subst h';rfl
         ·have h7':((k:Int) != 7)=true:=by simp;omega
          clear hfo hB
          go_wp2_with fail
          all_goals
           go_ret;go_tidy;exact⟨RetB.mk (iff_of_true (by first|rfl|simp) ⟨by omega,⟨(known_iff _).mpr (by rw[H.out];rfl),Hd.out.1,Hd.out.2,HM.out⟩,Hall.out,fun h=>by first|(exact absurd h (by assumption))|trivial|rfl⟩),HB3.out⟩
    ·have HM:=hide (fun h=>hm ((many_some H.out ks.len).mp h));obtain⟨rfl,hq0⟩:all=false∧ks.len≠kinds.length:=by simpa using hm
     have hq:((ks.len:Int) != (kinds.length:Int))=true:=by simp;omega
     clear hm hq0;go_enter Tryz.func215,Tryz.ntmps215
     go_wp2_with(first
      | (go_at_call 216;refine(rows_some H.out _).mono ?_;rintro e w1 ⟨A,rc,rfl,hrd,hB⟩;have HB:=hide (blw_up (below_alloc _ _) hB);obtain⟨hc1,hf1⟩:=bcell hB;have hz:w.heap.size<w1.heap.size:=(by have:=hB.size;simp at this;omega);clear hB hrd)
      | (go_at_call 217;refine(says_any k t n KA ks.len c _ ((Htab.out.below HB.out).below (below_alloc _ _)) hk ht Hn.out).mono ?_;rintro e w2 ⟨⟨_|_,rfl,hb⟩,hB⟩<;>(have Hb:=hide hb;have HB2:=hide (blw_up HB.out (blw_up (below_alloc _ _) hB));obtain⟨hc2,hf2⟩:=bcell hB;have hz2:w1.heap.size<w2.heap.size:=(by have:=hB.size;simp at this;omega);clear hb hB)))
     all_goals
      go_ret;go_tidy;exact⟨RetB.no (fun h=>HM.out h.2.1.2.2.2),HB2.out⟩
theorem right_any{S:Nat→Prop}{k:Nat}{t:ByteArray}{n:Int}{ks:Fo}{KA:Option Addr}{c:Nat}{w:World}(hk:k<256)(ht:t.size≤9223372036854775807)(hn:isInt64 n)(hl:ks.len≤c)(hc:c≤9223372036854775807)
  (hks:FoIn S w KA ks) (htab:TabOk w):
  Calls Tryz.prog 180 #[.agg #[.int .u8 k,.string t,.int .i64 n,.slice KA ks.len c]] w fun e w'=>RetB (NodeOk 40 k t n ks) e∧Below w.heap.size w w':=by
 have Hks:=hide hks;have Htab:Hid (TabOk w):=htab;have Hn:=hide hn;clear hks htab hn;have hmf :∀(fn:Fn) (first cap:Array Value) (w:World),(Instr.makeFunc fn first cap).run Tryz.prog w = .ok (.func fn first cap) w:=fun _ _ _ _=>rfl;go_enter Tryz.func180,Tryz.ntmps180
 go_wp2_with(go_at_call 215;refine(right_upto (ks.cnt+1) S k t n ks KA c _ 1 _ _ (by omega) (by omega) hk ht Hn.out hl hc (Hks.out.below (below2 _ _)) (Htab.out.below (below2 _ _)) (by simp) (by omega) (by omega)).mono ?_;rintro e w1 ⟨⟨b,rfl,hb⟩,hB⟩;have Hb:=hide hb;have HB:=hide (blw_up2 hB);clear hb hB)
 go_ret;exact⟨RetB.mk Hb.out,HB.out⟩
theorem number_any(n:Int)(w:World)(hn:isInt64 n):Calls Tryz.prog 107 #[.int .i64 n] w fun e w'=>RetB (Number n) e∧w'=w:=by
 unfold isInt64 at hn;go_enter Tryz.func107,Tryz.ntmps107
 go_wp2_with fail
 all_goals(go_ret;go_tidy;exact⟨RetB.mk (by unfold Number;grind),rfl⟩)
theorem number_not(n:Int)(w:World)(hn:isInt64 n):Calls Tryz.prog 106 #[.int .i64 n] w fun e w'=>RetB (¬Number n) e∧w'=w:=by
 have Hn:=hide hn;clear hn;go_enter Tryz.func106,Tryz.ntmps106
 go_wp2_with(go_at_call 107;refine(number_any n _ Hn.out).mono ?_;rintro e w1 ⟨⟨b,rfl,hb⟩,rfl⟩;have Hb:=hide hb;clear hb)
 go_ret;exact⟨RetB.mk (by rw[←Hb.out];simp),rfl⟩
theorem indexNumber_any{S:Nat→Prop}{A:Option Addr}{c:Nat}{l:List Int}{w:World}(hl:IntsIn S w A l):
  Calls Tryz.prog 175 #[.slice A l.length c,.func (.func 106) #[] #[]] w fun e w'=>(∃r:Int,e = .returned (.int .i64 r)∧isInt64 r∧(0≤r↔∃n∈l,¬Number n))∧w'=w:=by
 have Hl:=hide hl;have hlen:l.length≤9223372036854775807:=hl.2.2;clear hl;go_enter Tryz.func175,Tryz.ntmps175
 go_wp2_with fail
 go_loopw [8,5] (fun i _ wr=>∃q:Nat,q≤l.length∧i = .int .i64 q∧wr=w∧Hid (∀j,(h:j<l.length)→j<q→Number l[j])) (fun i _ _=>l.length-(intOf i).toNat)
 case atStart=>exact⟨0,Nat.zero_le _,rfl,rfl,hide (by omega)⟩
 case round =>
  obtain⟨i,hi,rfl,rfl,hall⟩:=hrel;by_cases hlt:i<l.length
  ·obtain⟨b,o,rfl,hc⟩:=Hl.out.1.at_ (j:=i) (by simpa using hlt);simp only[List.getElem_map]at hc;have hi64:=hide (Hl.out.2.1 l[i] (List.getElem_mem hlt))
   go_wp2_with(go_at_call 106;refine(number_not l[i] _ hi64.out).mono ?_;rintro e w1 ⟨⟨_|_,rfl,hb⟩,rfl⟩<;>(have Hb:=hide hb;clear hb))
   ·go_roundw
    case rel=>exact⟨i+1,by omega,by go_num,(by first|rfl|trivial),hide fun j hj hji=>if h:j=i then by subst h;exact Classical.byContradiction fun hn=>absurd (Hb.out.mpr hn) (by decide)else hall.out j hj (by omega)⟩
    case measure=>simp[intOf];omega
   ·go_ret;exact⟨⟨i,rfl,by unfold isInt64;omega,iff_of_true (by omega) ⟨l[i],List.getElem_mem hlt,Hb.out.mp (by first|rfl|trivial)⟩⟩,rfl⟩
  ·go_wp2_with fail
   go_ret;refine⟨⟨-1,rfl,by unfold isInt64;omega,iff_of_false (by omega) ?_⟩,rfl⟩;rintro⟨n,hn,hnn⟩;obtain⟨j,hj,rfl⟩:=List.getElem_of_mem hn;exact hnn (hall.out j hj (by omega))
theorem hasNumber_any{S:Nat→Prop}{A:Option Addr}{c:Nat}{l:List Int}{w:World}(hl:IntsIn S w A l):
  Calls Tryz.prog 105 #[.slice A l.length c,.func (.func 106) #[] #[]] w fun e w'=>RetB (∃n∈l,¬Number n) e∧w'=w:=by
 have Hl:=hide hl;clear hl;go_enter Tryz.func105,Tryz.ntmps105
 go_wp2_with(go_at_call 175;refine(indexNumber_any Hl.out).mono ?_;rintro e w1 ⟨⟨r,rfl,hr,hb⟩,rfl⟩;have Hb:=hide hb;clear hb)
 go_ret;exact⟨RetB.mk (by rw[←Hb.out];simp),rfl⟩
theorem part_any{S:Nat→Prop}{A:Option Addr}{c:Nat}{f:Fo}{w:World}(hf:FoIn S w A f)(hl:f.len≤c)(hc:c≤9223372036854775807)(htab:TabOk w):
  Calls Tryz.prog 109 #[.slice A f.len c] w fun e w'=>RetB (PartOk f) e∧Below w.heap.size w w':=by
 have Htab:Hid (TabOk w):=htab;by_cases h1:f.len=1
 ·obtain⟨k,t,n,ks,r,rfl⟩:=fo_one (f:=f) (by omega);have hr:r = .nil:=by cases r with
   | nil=>rfl
   | cons=>simp[Fo.len]at h1
  subst hr;obtain⟨b,o,KA,c',rfl,hS,c0,c1,c2,c3,e1,e2,e3,e4,e5,hks,_⟩:=hf;have Hks:=hide hks;have He:=hide e3;have hq:(((Fo.cons k t n ks .nil).len:Int) == 1)=true:=by simp[Fo.len]
  have hl0:0<(Fo.cons k t n ks .nil).len:=by simp[Fo.len]
  clear hks htab h1 e3;go_enter Tryz.func109,Tryz.ntmps109
  go_wp2_with(go_at_call 180;refine(right_any e1 e2 He.out e4 e5 Hks.out Htab.out).mono ?_;rintro e w1 ⟨⟨b,rfl,hb⟩,hB⟩;have Hb:=hide hb;have HB:=hide hB;clear hb hB)
  go_ret;exact⟨RetB.mk Hb.out,HB.out⟩
 ·have hq:((f.len:Int) == 1)=false:=by simp;omega
  have H1:=hide h1;clear htab h1 hf;go_enter Tryz.func109,Tryz.ntmps109
  go_wp2_with fail
  go_ret;refine⟨RetB.no (fun h=>?_),Below.refl _ _⟩;have h1:=H1.out;cases f with
  | nil=>exact h
  | cons k t n ks r=>cases r with
   | nil=>simp[Fo.len]at h1
   | cons=>exact h
theorem part_pos{f:Fo}(h:PartOk f):(0:Int)<f.len:=by cases f with
 | nil=>exact h.elim
 | cons=>simp only[Fo.len];omega
theorem number0:Number 0:=by unfold Number;omega
theorem len_nil{f:Fo}:f = .nil↔f.len=0:=by cases f<;>simp[Fo.len]
theorem tl_same{s t:ByteArray}:s=t↔(s.toList == t.toList)=true:=by
 rw[beq_iff_eq,ByteArray.toList_eq,ByteArray.toList_eq];exact⟨fun h=>by rw[h],ba_ext⟩
theorem edOk_iff_1{e:Ed}:EdOk {e with kind:=1}↔¬(∃n,n∈e.path∧¬Number n)∧e.at_=0∧e.far=0∧e.old.len=0∧e.new.len=0∧¬((e.path.length:Int) == 0)=true∧LexName e.frm∧LexName e.to∧¬(e.frm.toList == e.to.toList)=true:=by
 rw[←tl_same,←len_nil,←len_nil];unfold EdOk;simp
theorem edOk_iff_2{e:Ed}:EdOk {e with kind:=2}↔¬(∃n,n∈e.path∧¬Number n)∧e.far=0∧e.frm=noTxt∧e.to=noTxt∧e.old.len=0∧Number e.at_∧PartOk e.new:=by
 rw[←len_nil];unfold EdOk;simp
theorem edOk_iff_3{e:Ed}:EdOk {e with kind:=3}↔¬(∃n,n∈e.path∧¬Number n)∧e.far=0∧e.frm=noTxt∧e.to=noTxt∧e.new.len=0∧Number e.at_∧PartOk e.old:=by
 rw[←len_nil];unfold EdOk;simp
theorem edOk_iff_4{e:Ed}:EdOk {e with kind:=4}↔¬(∃n,n∈e.path∧¬Number n)∧e.at_=0∧e.far=0∧e.frm=noTxt∧e.to=noTxt∧¬((e.path.length:Int) == 0)=true∧PartOk e.old∧PartOk e.new∧e.old≠e.new:=by
 unfold EdOk;simp
theorem edOk_iff_5{e:Ed}:EdOk {e with kind:=5}↔¬(∃n,n∈e.path∧¬Number n)∧e.frm=noTxt∧e.to=noTxt∧e.new.len=0∧Number e.at_∧Number e.far∧e.at_≠e.far∧PartOk e.old:=by
 rw[←len_nil];unfold EdOk;simp
theorem edOk_iff_0{e:Ed}:EdOk e↔((e.kind:Int)=1∨(e.kind:Int)=2∨(e.kind:Int)=3∨(e.kind:Int)=4∨(e.kind:Int)=5)∧EdOk e:=by
 constructor
 ·intro h;refine⟨?_,h⟩;unfold EdOk at h;omega
 ·exact fun h=>h.2
theorem txt_empty{s t:ByteArray}:(!(s++t).toList.isEmpty)=false↔s=noTxt∧t=noTxt:=by
 rw[ByteArray.toList_eq];have hd:(s++t).data.toList=s.data.toList++t.data.toList:=by simp
 rw[hd];constructor
 ·intro h;simp only[Bool.not_eq_false',List.isEmpty_iff,List.append_eq_nil_iff]at h;exact⟨ba_ext (by rw[h.1];rfl),ba_ext (by rw[h.2];rfl)⟩
 ·rintro⟨rfl,rfl⟩;rfl
theorem txt_full{s t:ByteArray}(h :¬(s=noTxt∧t=noTxt)):(!(s++t).toList.isEmpty)=true:=by
 rcases hb:(!(s++t).toList.isEmpty)with _|_
 ·exact absurd (txt_empty.mp hb) h
 ·rfl
theorem txt_nil:(!(({data:=#[]}:ByteArray)++({data:=#[]}:ByteArray)).toList.isEmpty)=false:=txt_empty.mpr ⟨rfl,rfl⟩
theorem lexName_noTxt :¬LexName noTxt:=by
 rintro⟨_,⟨c,l,h,_⟩,_⟩;cases h
theorem bbox{W w1:World}{N:Nat}(hB:Below W.heap.size W w1)(hN:N<W.heap.size):(∀o,w1.cell? ⟨N,o,none⟩=W.cell? ⟨N,o,none⟩)∧(∀o,w1.frozen? ⟨N,o,none⟩=W.frozen? ⟨N,o,none⟩)∧N<w1.heap.size :=
 ⟨fun o=>hB.cell (p:=⟨N,o,none⟩) hN,fun o=>hB.frozen (p:=⟨N,o,none⟩) hN,Nat.lt_of_lt_of_le hN hB.size⟩
end
end Go.Proofs.YtialngdffhmobaaGreatDoor
