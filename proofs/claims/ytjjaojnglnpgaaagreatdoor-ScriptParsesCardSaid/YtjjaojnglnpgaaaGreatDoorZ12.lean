/- Part 13 of what scriptParses_card rests on. -/
import Derived.Deep.RegionHeld3
import Derived.Deep.CutBlock
import Derived.Deep.DeepCutAuto
import Derived.BigQuiet
import Derived.Test.YtjjaojnglnpgaaaGreatDoorZ09
import Derived.Test.YtjjaojnglnpgaaaGreatDoorZ10
import Derived.Test.YtjjaojnglnpgaaaGreatDoorZ00
set_option linter.unusedVariables false
set_option linter.unusedSimpArgs false
set_option maxHeartbeats 16000000
set_option maxRecDepth 1000000
namespace Go.Proofs.YtjjaojnglnpgaaaGreatDoor
section
open Go.RowKit
theorem Rt{p:Nat}{k':Int}{ks:List Int}{all:Bool}(h:kindRow p=some (k',ks,all))(c:Nat):
  (∀m,many p=some m→c=m)↔(all=true∨c=ks.length):=by
 obtain⟨h1,rfl⟩:=zt h;clear h;simp[kindRows]at h1;rcases h1 with⟨hp,rfl,rfl⟩|⟨hp,rfl,rfl⟩|⟨hp,rfl,rfl⟩|⟨hp,rfl,rfl⟩|⟨hp,rfl,rfl⟩|⟨hp,rfl,rfl⟩|⟨hp,rfl,rfl⟩|⟨hp,rfl,rfl⟩|⟨hp,rfl,rfl⟩|⟨hp,rfl,rfl⟩|⟨hp,rfl,rfl⟩|⟨hp,rfl,rfl⟩|⟨hp,rfl,rfl⟩|⟨hp,rfl,rfl⟩|⟨hp,rfl,rfl⟩|⟨hp,rfl,rfl⟩|⟨hp,rfl,rfl⟩|⟨hp,rfl,rfl⟩|⟨hp,rfl,rfl⟩|⟨hp,rfl,rfl⟩|⟨hp,rfl,rfl⟩|⟨hp,rfl,rfl⟩
 all_goals
  norm_cast at hp;subst hp;simp[many]
theorem Md{m p i k:Nat}{t:ByteArray}{n:Int}{ks r:Fo}:FoOk m p i (.cons k t n ks r)↔FitsIn p k i∧NodeOk m k t n ks∧FoOk m p (i+1) r:=by
 rw[FoOk,NodeOk];grind
theorem jo{f:Fo}(h:0<f.len):∃k t n ks r,f = .cons k t n ks r:=by
 cases f with
 | nil=>simp[Fo.len]at h
 | cons k t n ks r=>exact⟨k,t,n,ks,r,rfl⟩
theorem kN{m:Nat}{ks:Fo}(h:FoOk m 7 0 ks)(hl:ks.len=2):∃k0 t0 n0 fF r,ks = .cons k0 t0 n0 fF r∧(k0=22∨(k0=26∧∃k1 t1 n1 jq r1,fF = .cons k1 t1 n1 jq r1)):=by
 obtain⟨k0,t0,n0,fF,r,rfl⟩:=jo (f:=ks) (by omega);refine⟨k0,t0,n0,fF,r,rfl,?_⟩;rw[Md]at h;obtain⟨⟨_,hf⟩,⟨_,hh,_⟩,_⟩:=h;simp at hf;rcases hf with rfl|rfl
 ·exact .inl rfl
 ·refine .inr ⟨rfl,jo ?_⟩;have:=hh.2.2.2 2 (by simp[many]);omega
theorem IX{m p i k:Nat}{t:ByteArray}{n:Int}{ks r f:Fo}(hd:f.drop i = .cons k t n ks r)(h:FoOk m p i (f.drop i)):FitsIn p k i∧NodeOk m k t n ks:=by
 rw[hd,Md]at h;exact⟨h.1,h.2.1⟩
theorem Ru{m p i k:Nat}{t:ByteArray}{n:Int}{ks r f:Fo}{P:Prop}(hd:f.drop i = .cons k t n ks r)(h:P↔FoOk m p i (f.drop i))(h1:FitsIn p k i)(h2:NodeOk m k t n ks):P↔FoOk m p (i+1) (f.drop (i+1)):=by
 rw[h,hd,Md,Fo.drop_succ hd];exact⟨fun h=>h.2.2,fun h=>⟨h1,h2,h⟩⟩
theorem IY{w w':World}{fb:Nat}{v:Value}(h:w.cell? ⟨fb,0,none⟩=some v)(hB:Below w.heap.size w w'):w'.cell? ⟨fb,0,none⟩=some v :=
 (hB.cell (p:=⟨fb,0,none⟩) (block_lt_of_cell h)).trans h
theorem WQ(N:Nat):∀(S:Nat→Prop) (k:Nat) (t:ByteArray) (n:Int) (ks:Fo) (KA:Option Addr) (c fb deep:Nat) (d:Int) (w:World),ks.cnt<N→d=deep→k<256→t.size≤9223372036854775807→isInt64 n→ks.len≤c→c≤9223372036854775807→
  FoIn S w KA ks→TabOk w→w.cell? ⟨fb,0,none⟩=some (.func (.func 282) #[] #[.pointer (some ⟨fb,0,none⟩)])→1≤deep→deep≤41→
  Calls Tryz.prog 282 #[.agg #[.int .u8 k,.string t,.int .i64 n,.slice KA ks.len c],.int .i64 d,.pointer (some ⟨fb,0,none⟩)] w fun e w'=>RetB (NodeOk (41-deep) k t n ks) e∧Below w.heap.size w w':=by
 induction N with
 | zero=>intro _ _ _ _ _ _ _ _ _ _ _ h;omega
 | succ N ih =>
  rintro S k t n ks KA c fb deep _ w hN rfl hk ht hn hl hc hks htab hfn hd1 hd2;have uB:=hide ih;have HN:=hide hN;have fO:=hide hks;have af:Hid (TabOk w):=htab;have Rw:=hide hfn;have hfb:=block_lt_of_cell hfn;have Hn:=hide hn;clear ih hN hks htab hfn hn;cases hr:kindRow k with
  | none =>
   have H:=hide hr;clear hr;go_enter Tryz.func282,Tryz.ntmps282
   go_wp2_with(go_at_call 283;refine(QB H.out _).mono ?_;rintro e w1 ⟨rfl,hB⟩;have HB:=hide (ak (ag _ _) hB);obtain⟨hc1,hf1⟩:=bV hB;have hz:w.heap.size<w1.heap.size:=(by have:=hB.size;simp at this;omega);clear hB)
   go_ret;exact⟨RetB.no (fun h=>by have:=(zu k).mp h.2.1.1;rw[H.out]at this;cases this),HB.out.alloc HB.out.size _⟩
  | some x =>
   obtain⟨k',kinds,all⟩:=x;have H:=hide hr;have hlen:kinds.length≤3:=(Iz _ (zt hr).1).2.2;clear hr;rcases Nat.lt_or_ge 40 deep with WR|WR
   ·have hd:decide (40<(deep:Int))=true:=by simp;omega
    go_enter Tryz.func282,Tryz.ntmps282
    go_wp2_with(go_at_call 283;refine(zF H.out _).mono ?_;rintro e w1 ⟨A,rc,rfl,hrd,hB⟩;have HB:=hide (ak (ag _ _) hB);obtain⟨hc1,hf1⟩:=bV hB;have hz:w.heap.size<w1.heap.size:=(by have:=hB.size;simp at this;omega);clear hB hrd)
    go_ret;exact⟨RetB.no (fun h=>by have:=h.1;omega),HB.out.alloc HB.out.size _⟩
   ·have hd:decide (40<(deep:Int))=false:=by simp;omega
    by_cases hm:all=true∨ks.len=kinds.length
    ·have HM:=hide ((Rt H.out ks.len).mpr hm);rcases Bool.eq_false_or_eq_true all with hall|hall
     ·subst hall;clear hm;go_enter Tryz.func282,Tryz.ntmps282
      go_wp2_with(first
       | (go_at_call 283;refine(zF H.out _).mono ?_;rintro e w1 ⟨A,rc,rfl,hrd,hB⟩;have HB:=hide (ak (ag _ _) hB);obtain⟨hc1,hf1⟩:=bV hB;have hz:w.heap.size<w1.heap.size:=(by have:=hB.size;simp at this;omega);clear hB hrd)
       | (go_at_call 284;refine(KZ k t n KA ks.len c _ ((af.out.below HB.out).below (ag _ _)) hk ht Hn.out).mono ?_;rintro e w2 ⟨⟨_|_,rfl,hb⟩,hB⟩<;>(have Hb:=hide hb;have HB2:=hide (ak HB.out (ak (ag _ _) hB));obtain⟨hc2,hf2⟩:=bV hB;have hz2:w1.heap.size<w2.heap.size:=(by have:=hB.size;simp at this;omega);clear hb hB)))
      ·go_ret;go_tidy;exact⟨RetB.no (fun h=>absurd (Hb.out.mpr ⟨h.2.1.2.1,h.2.1.2.2.1⟩) (by decide)),HB2.out⟩
      ·have Hd:=hide (Hb.out.mp (by first|rfl|trivial));have hcw0:=hc2 w.heap.size 0 (by simp;omega);have hcw3:=hc2 w.heap.size 3 (by simp;omega);rw[World.cell?_alloc_past _ _ _ hz,hc1 _ _ (by simp),World.cell?_alloc_new]at hcw0 hcw3
       go_loopw [44,8,9] (fun i _ _ wr=>∃q:Nat,q≤ks.len∧i = .int .i64 q∧Below w2.heap.size w2 wr∧Hid (FoOk (41-deep-1) k 0 ks↔FoOk (41-deep-1) k q (ks.drop q))) (fun i _ _ _=>ks.len-(intOf i).toNat)
       case atStart=>exact⟨0,Nat.zero_le _,rfl,Below.refl _ _,hide Iff.rfl⟩
       case round =>
        obtain⟨i,hi,rfl,hB,hall⟩:=hrel;have hz3:w2.heap.size≤wr.heap.size:=hB.size;have HB3:=hide (ak HB2.out hB);have hB0:=hide hB;have hw0:=(hB.cell (p:=⟨w.heap.size,0,none⟩) (by simp;omega)).trans hcw0;have hw3:=(hB.cell (p:=⟨w.heap.size,3,none⟩) (by simp;omega)).trans hcw3;have hwf:=IY Rw.out HB3.out;simp only[List.getElem?_toArray,List.getElem?_cons_zero,List.getElem?_cons_succ]at hw0 hw3;by_cases hlt:i<ks.len
        ·obtain⟨b,o,gp,kc,k0,t0,n0,fF,r,rfl,hdf,c0,c1,c2,c3,e1,e2,e3,e4,e5,dn,hcnt⟩:=(fO.out.below HB3.out).at_ hlt;have ji:=hide dn;have iO:=hide hdf;have Hc:=hide hcnt;have eu:=hide e3;have hbw:b<wr.heap.size:=block_lt_of_cell c0;have hwr:w.heap.size<wr.heap.size:=by omega
         have hfr:fb<wr.heap.size:=by omega
         clear hB dn hdf hcnt e3
         go_wp2_with(first
          | (go_at_call 285;refine(QD k k0 i _).mono ?_;rintro e w4 ⟨⟨_|_,rfl,hb⟩,hB⟩<;>(have Hf:=hide hb;have HB4:=hide (ak (ag _ _) hB);obtain⟨hc4,hf4⟩:=bV hB;have eQ:wr.heap.size<w4.heap.size:=(by have:=hB.size;simp at this;omega);clear hb hB))
          | (go_at_call 282;refine(uB.out S k0 t0 n0 fF gp kc fb (deep+1) _ _ (by have:=Hc.out;have:=HN.out;omega) (by omega) e1 e2 eu.out e4 e5 (ji.out.below HB4.out) (af.out.below (ak HB3.out HB4.out)) (IY hwf HB4.out) (by omega) (by omega)).mono ?_;rintro e w5 ⟨⟨_|_,rfl,hb⟩,hB⟩<;>(have Hr:=hide hb;have dV:=hide (ak HB4.out hB);clear hb hB)))
         ·go_ret;exact⟨RetB.no (fun h=>absurd (Hf.out.mpr (IX iO.out (hall.out.mp h.2.2.1)).1) (by decide)),ak HB3.out HB4.out⟩
         ·go_ret;exact⟨RetB.no (fun h=>absurd (Hr.out.mpr (IX iO.out (hall.out.mp h.2.2.1)).2) (by decide)),ak HB3.out dV.out⟩
         ·go_roundw
          case rel=>exact⟨i+1,by omega,by go_num,(by have h3:=HB3.out;exact ak hB0.out dV.out),hide (Ru iO.out hall.out (Hf.out.mp (by first|rfl|trivial)) (Hr.out.mp (by first|rfl|trivial)))⟩
          case measure=>simp[intOf];omega
        ·have hfo:FoOk (41-deep-1) k 0 ks:=hall.out.mpr (by rw[Fo.drop_len _ _ (by omega)];exact trivial);have ah:=hide hfo;by_cases h7:k=7
         ·subst h7;obtain⟨k0,t0,n0,fF,r,rfl,hset⟩:=kN hfo (HM.out 2 (by simp[many]));clear hfo hB;obtain⟨b,o,Rx,c',rfl,hS,c0,c1,c2,c3,e1,e2,e3,e4,e5,qN,hr⟩:=(fO.out.below HB3.out);have hl0:0<(Fo.cons k0 t0 n0 fF r).len:=by simp[Fo.len]
          rcases hset with rfl|⟨rfl,k1,t1,n1,jq,r1,rfl⟩
          ·go_wp2_with fail
           all_goals
            go_ret;go_tidy;exact⟨RetB.mk (iff_of_true (by first|rfl|simp) ⟨by omega,⟨(zu _).mpr (by rw[H.out];rfl),Hd.out.1,Hd.out.2,HM.out⟩,ah.out,fun h=>by first|(exact absurd h (by assumption))|trivial|rfl⟩),HB3.out⟩
          ·obtain⟨b1,o1,I9,c1',rfl,hS1,d0,d1,d2,d3,f1,f2,f3,f4,f5,Ej,hr1⟩:=qN;have hl1:0<(Fo.cons k1 t1 n1 jq r1).len:=by simp[Fo.len]
           go_wp2_with fail
           all_goals
            go_ret;go_tidy;have hcore:1≤41-deep∧HeadOk 7 t n (Fo.cons 26 t0 n0 (Fo.cons k1 t1 n1 jq r1) r).len∧FoOk (41-deep-1) 7 0 (Fo.cons 26 t0 n0 (Fo.cons k1 t1 n1 jq r1) r):=⟨by omega,⟨(zu _).mpr (by rw[H.out];rfl),Hd.out.1,Hd.out.2,HM.out⟩,ah.out⟩;refine⟨RetB.mk ⟨fun hb=>⟨hcore.1,hcore.2.1,hcore.2.2,fun _=>?_⟩,fun h=>?_⟩,HB3.out⟩
            ·have hb':(k1:Int)=22:=by simpa using hb
             show k1=22;omega
            ·have h':k1=22:=h.2.2.2 rfl;subst h';rfl
         ·have IC:((k:Int) != 7)=true:=by simp;omega
          clear hfo hB
          go_wp2_with fail
          all_goals
           go_ret;go_tidy;exact⟨RetB.mk (iff_of_true (by first|rfl|simp) ⟨by omega,⟨(zu _).mpr (by rw[H.out];rfl),Hd.out.1,Hd.out.2,HM.out⟩,ah.out,fun h=>by first|(exact absurd h (by assumption))|trivial|rfl⟩),HB3.out⟩
     ·subst hall;have hq:((ks.len:Int) != (kinds.length:Int))=false:=by simp at hm;simp;omega
      clear hm;go_enter Tryz.func282,Tryz.ntmps282
      go_wp2_with(first
       | (go_at_call 283;refine(zF H.out _).mono ?_;rintro e w1 ⟨A,rc,rfl,hrd,hB⟩;have HB:=hide (ak (ag _ _) hB);obtain⟨hc1,hf1⟩:=bV hB;have hz:w.heap.size<w1.heap.size:=(by have:=hB.size;simp at this;omega);clear hB hrd)
       | (go_at_call 284;refine(KZ k t n KA ks.len c _ ((af.out.below HB.out).below (ag _ _)) hk ht Hn.out).mono ?_;rintro e w2 ⟨⟨_|_,rfl,hb⟩,hB⟩<;>(have Hb:=hide hb;have HB2:=hide (ak HB.out (ak (ag _ _) hB));obtain⟨hc2,hf2⟩:=bV hB;have hz2:w1.heap.size<w2.heap.size:=(by have:=hB.size;simp at this;omega);clear hb hB)))
      ·go_ret;go_tidy;exact⟨RetB.no (fun h=>absurd (Hb.out.mpr ⟨h.2.1.2.1,h.2.1.2.2.1⟩) (by decide)),HB2.out⟩
      ·have Hd:=hide (Hb.out.mp (by first|rfl|trivial));have hcw0:=hc2 w.heap.size 0 (by simp;omega);have hcw3:=hc2 w.heap.size 3 (by simp;omega);rw[World.cell?_alloc_past _ _ _ hz,hc1 _ _ (by simp),World.cell?_alloc_new]at hcw0 hcw3
       go_loopw [44,8,9] (fun i _ _ wr=>∃q:Nat,q≤ks.len∧i = .int .i64 q∧Below w2.heap.size w2 wr∧Hid (FoOk (41-deep-1) k 0 ks↔FoOk (41-deep-1) k q (ks.drop q))) (fun i _ _ _=>ks.len-(intOf i).toNat)
       case atStart=>exact⟨0,Nat.zero_le _,rfl,Below.refl _ _,hide Iff.rfl⟩
       case round =>
        obtain⟨i,hi,rfl,hB,hall⟩:=hrel;have hz3:w2.heap.size≤wr.heap.size:=hB.size;have HB3:=hide (ak HB2.out hB);have hB0:=hide hB;have hw0:=(hB.cell (p:=⟨w.heap.size,0,none⟩) (by simp;omega)).trans hcw0;have hw3:=(hB.cell (p:=⟨w.heap.size,3,none⟩) (by simp;omega)).trans hcw3;have hwf:=IY Rw.out HB3.out;simp only[List.getElem?_toArray,List.getElem?_cons_zero,List.getElem?_cons_succ]at hw0 hw3;by_cases hlt:i<ks.len
        ·obtain⟨b,o,gp,kc,k0,t0,n0,fF,r,rfl,hdf,c0,c1,c2,c3,e1,e2,e3,e4,e5,dn,hcnt⟩:=(fO.out.below HB3.out).at_ hlt;have ji:=hide dn;have iO:=hide hdf;have Hc:=hide hcnt;have eu:=hide e3;have hbw:b<wr.heap.size:=block_lt_of_cell c0;have hwr:w.heap.size<wr.heap.size:=by omega
         have hfr:fb<wr.heap.size:=by omega
         clear hB dn hdf hcnt e3
         go_wp2_with(first
          | (go_at_call 285;refine(QD k k0 i _).mono ?_;rintro e w4 ⟨⟨_|_,rfl,hb⟩,hB⟩<;>(have Hf:=hide hb;have HB4:=hide (ak (ag _ _) hB);obtain⟨hc4,hf4⟩:=bV hB;have eQ:wr.heap.size<w4.heap.size:=(by have:=hB.size;simp at this;omega);clear hb hB))
          | (go_at_call 282;refine(uB.out S k0 t0 n0 fF gp kc fb (deep+1) _ _ (by have:=Hc.out;have:=HN.out;omega) (by omega) e1 e2 eu.out e4 e5 (ji.out.below HB4.out) (af.out.below (ak HB3.out HB4.out)) (IY hwf HB4.out) (by omega) (by omega)).mono ?_;rintro e w5 ⟨⟨_|_,rfl,hb⟩,hB⟩<;>(have Hr:=hide hb;have dV:=hide (ak HB4.out hB);clear hb hB)))
         ·go_ret;exact⟨RetB.no (fun h=>absurd (Hf.out.mpr (IX iO.out (hall.out.mp h.2.2.1)).1) (by decide)),ak HB3.out HB4.out⟩
         ·go_ret;exact⟨RetB.no (fun h=>absurd (Hr.out.mpr (IX iO.out (hall.out.mp h.2.2.1)).2) (by decide)),ak HB3.out dV.out⟩
         ·go_roundw
          case rel=>exact⟨i+1,by omega,by go_num,(by have h3:=HB3.out;exact ak hB0.out dV.out),hide (Ru iO.out hall.out (Hf.out.mp (by first|rfl|trivial)) (Hr.out.mp (by first|rfl|trivial)))⟩
          case measure=>simp[intOf];omega
        ·have hfo:FoOk (41-deep-1) k 0 ks:=hall.out.mpr (by rw[Fo.drop_len _ _ (by omega)];exact trivial);have ah:=hide hfo;by_cases h7:k=7
         ·subst h7;obtain⟨k0,t0,n0,fF,r,rfl,hset⟩:=kN hfo (HM.out 2 (by simp[many]));clear hfo hB;obtain⟨b,o,Rx,c',rfl,hS,c0,c1,c2,c3,e1,e2,e3,e4,e5,qN,hr⟩:=(fO.out.below HB3.out);have hl0:0<(Fo.cons k0 t0 n0 fF r).len:=by simp[Fo.len]
          rcases hset with rfl|⟨rfl,k1,t1,n1,jq,r1,rfl⟩
          ·go_wp2_with fail
           all_goals
            go_ret;go_tidy;exact⟨RetB.mk (iff_of_true (by first|rfl|simp) ⟨by omega,⟨(zu _).mpr (by rw[H.out];rfl),Hd.out.1,Hd.out.2,HM.out⟩,ah.out,fun h=>by first|(exact absurd h (by assumption))|trivial|rfl⟩),HB3.out⟩
          ·obtain⟨b1,o1,I9,c1',rfl,hS1,d0,d1,d2,d3,f1,f2,f3,f4,f5,Ej,hr1⟩:=qN;have hl1:0<(Fo.cons k1 t1 n1 jq r1).len:=by simp[Fo.len]
           go_wp2_with fail
           all_goals
            go_ret;go_tidy;have hcore:1≤41-deep∧HeadOk 7 t n (Fo.cons 26 t0 n0 (Fo.cons k1 t1 n1 jq r1) r).len∧FoOk (41-deep-1) 7 0 (Fo.cons 26 t0 n0 (Fo.cons k1 t1 n1 jq r1) r):=⟨by omega,⟨(zu _).mpr (by rw[H.out];rfl),Hd.out.1,Hd.out.2,HM.out⟩,ah.out⟩;refine⟨RetB.mk ⟨fun hb=>⟨hcore.1,hcore.2.1,hcore.2.2,fun _=>?_⟩,fun h=>?_⟩,HB3.out⟩
            ·have hb':(k1:Int)=22:=by simpa using hb
             show k1=22;omega
            ·have h':k1=22:=h.2.2.2 rfl;subst h';rfl
         ·have IC:((k:Int) != 7)=true:=by simp;omega
          clear hfo hB
          go_wp2_with fail
          all_goals
           go_ret;go_tidy;exact⟨RetB.mk (iff_of_true (by first|rfl|simp) ⟨by omega,⟨(zu _).mpr (by rw[H.out];rfl),Hd.out.1,Hd.out.2,HM.out⟩,ah.out,fun h=>by first|(exact absurd h (by assumption))|trivial|rfl⟩),HB3.out⟩
    ·have HM:=hide (fun h=>hm ((Rt H.out ks.len).mp h));obtain⟨rfl,hq0⟩:all=false∧ks.len≠kinds.length:=by simpa using hm
     have hq:((ks.len:Int) != (kinds.length:Int))=true:=by simp;omega
     clear hm hq0;go_enter Tryz.func282,Tryz.ntmps282
     go_wp2_with(first
      | (go_at_call 283;refine(zF H.out _).mono ?_;rintro e w1 ⟨A,rc,rfl,hrd,hB⟩;have HB:=hide (ak (ag _ _) hB);obtain⟨hc1,hf1⟩:=bV hB;have hz:w.heap.size<w1.heap.size:=(by have:=hB.size;simp at this;omega);clear hB hrd)
      | (go_at_call 284;refine(KZ k t n KA ks.len c _ ((af.out.below HB.out).below (ag _ _)) hk ht Hn.out).mono ?_;rintro e w2 ⟨⟨_|_,rfl,hb⟩,hB⟩<;>(have Hb:=hide hb;have HB2:=hide (ak HB.out (ak (ag _ _) hB));obtain⟨hc2,hf2⟩:=bV hB;have hz2:w1.heap.size<w2.heap.size:=(by have:=hB.size;simp at this;omega);clear hb hB)))
     all_goals
      go_ret;go_tidy;exact⟨RetB.no (fun h=>HM.out h.2.1.2.2.2),HB2.out⟩
theorem WS:(Tryz.prog.info? 212).map (fun i=>(i.zero,i.size,i.bytes))=some (some (.slice none 0 0),1,24):=by kernel_rfl
theorem Ry{w:World}:Calls Tryz.prog 88 #[.slice none 0 0] w fun e w'=>e = .returned (.bool true)∧Below w.heap.size w w':=by
 obtain⟨i1,hi1,aN,az,aP⟩:=info_parts WS;go_enter Tryz.func88,Tryz.ntmps88
 go_wp2_with fail
 go_loopg [3] 0 (fun g k wx=>k = .int .i64 0∧Hid (Below w.heap.size w wx))
 case atStart=>exact⟨rfl,hide (Below.refl _ _)⟩
 case round =>
 obtain⟨rfl,HB⟩:=hrel
 go_wp2_with(at_make;refine wpList_make_full _ rfl _ _ 78 rfl 0 212 i1 (.slice none 0 0) 1 Tryz.underlying78 hi1 aN az _ _ _ _ 0 rfl rfl rfl rfl (by rw[aP];omega) (by unfold maxLen;omega) (Nat.zero_le _) ?_)
 intro w1 hown hgrow;have HB1:=hide (HB.out.trans ((Below.refl wr.heap.size wr).grown hgrow (aC _) (by simp)|>.mono HB.out.size));clear hown hgrow HB;generalize wr.heap.size=GB
 go_wp2_with fail
 go_loopg [6] 0 (fun g k wx=>k = .int .i64 0∧Hid (Below w.heap.size w wx))
 case atStart=>exact⟨rfl,HB1⟩
 case round =>
 clear HB1;obtain⟨rfl,aV⟩:=hrel
 go_wp2_with fail
 go_loopg [9] 0 (fun g k wx=>k = .int .i64 0∧Hid (Below w.heap.size w wx))
 case atStart=>exact⟨rfl,aV⟩
 case round =>
 clear aV;obtain⟨rfl,aQ⟩:=hrel
 go_wp2_with fail
 go_loopg [11] 0 (fun g k wx=>k = .int .i64 0∧Hid (Below w.heap.size w wx))
 case atStart=>exact⟨rfl,aQ⟩
 case round =>
 clear aQ;obtain⟨rfl,ax⟩:=hrel
 go_wp2_with fail
 go_loopg [14] 0 (fun g k wx=>k = .int .i64 0∧Hid (Below w.heap.size w wx))
 case atStart=>exact⟨rfl,ax⟩
 case round =>
 clear ax;obtain⟨rfl,aS⟩:=hrel
 go_wp2_with fail
 go_ret;exact⟨rfl,aS.out⟩
theorem WT:(Tryz.prog.info? 221).map (fun i=>(i.zero,i.size,i.bytes))=some (some (.slice none 0 0),1,24):=by kernel_rfl
theorem Rz{w:World}:Calls Tryz.prog 90 #[.slice none 0 0] w fun e w'=>e = .returned (.bool true)∧Below w.heap.size w w':=by
 obtain⟨i1,hi1,aN,az,aP⟩:=info_parts WT;go_enter Tryz.func90,Tryz.ntmps90
 go_wp2_with fail
 go_loopg [3] 0 (fun g k wx=>k = .int .i64 0∧Hid (Below w.heap.size w wx))
 case atStart=>exact⟨rfl,hide (Below.refl _ _)⟩
 case round =>
 obtain⟨rfl,HB⟩:=hrel
 go_wp2_with(at_make;refine wpList_make_full _ rfl _ _ 80 rfl 0 221 i1 (.slice none 0 0) 1 Tryz.underlying80 hi1 aN az _ _ _ _ 0 rfl rfl rfl rfl (by rw[aP];omega) (by unfold maxLen;omega) (Nat.zero_le _) ?_)
 intro w1 hown hgrow;have HB1:=hide (HB.out.trans ((Below.refl wr.heap.size wr).grown hgrow (aC _) (by simp)|>.mono HB.out.size));clear hown hgrow HB;generalize wr.heap.size=GB
 go_wp2_with fail
 go_loopg [6] 0 (fun g k wx=>k = .int .i64 0∧Hid (Below w.heap.size w wx))
 case atStart=>exact⟨rfl,HB1⟩
 case round =>
 clear HB1;obtain⟨rfl,aV⟩:=hrel
 go_wp2_with fail
 go_loopg [9] 0 (fun g k wx=>k = .int .i64 0∧Hid (Below w.heap.size w wx))
 case atStart=>exact⟨rfl,aV⟩
 case round =>
 clear aV;obtain⟨rfl,aQ⟩:=hrel
 go_wp2_with fail
 go_loopg [11] 0 (fun g k wx=>k = .int .i64 0∧Hid (Below w.heap.size w wx))
 case atStart=>exact⟨rfl,aQ⟩
 case round =>
 clear aQ;obtain⟨rfl,ax⟩:=hrel
 go_wp2_with fail
 go_loopg [14] 0 (fun g k wx=>k = .int .i64 0∧Hid (Below w.heap.size w wx))
 case atStart=>exact⟨rfl,ax⟩
 case round =>
 clear ax;obtain⟨rfl,aS⟩:=hrel
 go_wp2_with fail
 go_ret;exact⟨rfl,aS.out⟩
theorem WU:(Tryz.prog.info? 223).map (fun i=>(i.zero,i.size,i.bytes))=some (some (.slice none 0 0),1,24):=by kernel_rfl
theorem RD{w:World}:Calls Tryz.prog 91 #[.slice none 0 0] w fun e w'=>e = .returned (.bool true)∧Below w.heap.size w w':=by
 obtain⟨i1,hi1,aN,az,aP⟩:=info_parts WU;go_enter Tryz.func91,Tryz.ntmps91
 go_wp2_with fail
 go_loopg [3] 0 (fun g k wx=>k = .int .i64 0∧Hid (Below w.heap.size w wx))
 case atStart=>exact⟨rfl,hide (Below.refl _ _)⟩
 case round =>
 obtain⟨rfl,HB⟩:=hrel
 go_wp2_with(at_make;refine wpList_make_full _ rfl _ _ 81 rfl 0 223 i1 (.slice none 0 0) 1 Tryz.underlying81 hi1 aN az _ _ _ _ 0 rfl rfl rfl rfl (by rw[aP];omega) (by unfold maxLen;omega) (Nat.zero_le _) ?_)
 intro w1 hown hgrow;have HB1:=hide (HB.out.trans ((Below.refl wr.heap.size wr).grown hgrow (aC _) (by simp)|>.mono HB.out.size));clear hown hgrow HB;generalize wr.heap.size=GB
 go_wp2_with fail
 go_loopg [6] 0 (fun g k wx=>k = .int .i64 0∧Hid (Below w.heap.size w wx))
 case atStart=>exact⟨rfl,HB1⟩
 case round =>
 clear HB1;obtain⟨rfl,aV⟩:=hrel
 go_wp2_with fail
 go_loopg [9] 0 (fun g k wx=>k = .int .i64 0∧Hid (Below w.heap.size w wx))
 case atStart=>exact⟨rfl,aV⟩
 case round =>
 clear aV;obtain⟨rfl,aQ⟩:=hrel
 go_wp2_with fail
 go_loopg [11] 0 (fun g k wx=>k = .int .i64 0∧Hid (Below w.heap.size w wx))
 case atStart=>exact⟨rfl,aQ⟩
 case round =>
 clear aQ;obtain⟨rfl,ax⟩:=hrel
 go_wp2_with fail
 go_loopg [14] 0 (fun g k wx=>k = .int .i64 0∧Hid (Below w.heap.size w wx))
 case atStart=>exact⟨rfl,ax⟩
 case round =>
 clear ax;obtain⟨rfl,aS⟩:=hrel
 go_wp2_with fail
 go_ret;exact⟨rfl,aS.out⟩
theorem WV:(Tryz.prog.info? 228).map (fun i=>(i.zero,i.size,i.bytes))=some (some (.slice none 0 0),1,24):=by kernel_rfl
theorem RF{w:World}:Calls Tryz.prog 92 #[.slice none 0 0] w fun e w'=>e = .returned (.bool true)∧Below w.heap.size w w':=by
 obtain⟨i1,hi1,aN,az,aP⟩:=info_parts WV;go_enter Tryz.func92,Tryz.ntmps92
 go_wp2_with fail
 go_loopg [3] 0 (fun g k wx=>k = .int .i64 0∧Hid (Below w.heap.size w wx))
 case atStart=>exact⟨rfl,hide (Below.refl _ _)⟩
 case round =>
 obtain⟨rfl,HB⟩:=hrel
 go_wp2_with(at_make;refine wpList_make_full _ rfl _ _ 82 rfl 0 228 i1 (.slice none 0 0) 1 Tryz.underlying82 hi1 aN az _ _ _ _ 0 rfl rfl rfl rfl (by rw[aP];omega) (by unfold maxLen;omega) (Nat.zero_le _) ?_)
 intro w1 hown hgrow;have HB1:=hide (HB.out.trans ((Below.refl wr.heap.size wr).grown hgrow (aC _) (by simp)|>.mono HB.out.size));clear hown hgrow HB;generalize wr.heap.size=GB
 go_wp2_with fail
 go_loopg [6] 0 (fun g k wx=>k = .int .i64 0∧Hid (Below w.heap.size w wx))
 case atStart=>exact⟨rfl,HB1⟩
 case round =>
 clear HB1;obtain⟨rfl,aV⟩:=hrel
 go_wp2_with fail
 go_loopg [9] 0 (fun g k wx=>k = .int .i64 0∧Hid (Below w.heap.size w wx))
 case atStart=>exact⟨rfl,aV⟩
 case round =>
 clear aV;obtain⟨rfl,aQ⟩:=hrel
 go_wp2_with fail
 go_loopg [11] 0 (fun g k wx=>k = .int .i64 0∧Hid (Below w.heap.size w wx))
 case atStart=>exact⟨rfl,aQ⟩
 case round =>
 clear aQ;obtain⟨rfl,ax⟩:=hrel
 go_wp2_with fail
 go_loopg [14] 0 (fun g k wx=>k = .int .i64 0∧Hid (Below w.heap.size w wx))
 case atStart=>exact⟨rfl,ax⟩
 case round =>
 clear ax;obtain⟨rfl,aS⟩:=hrel
 go_wp2_with fail
 go_ret;exact⟨rfl,aS.out⟩
theorem WW:(Tryz.prog.info? 230).map (fun i=>(i.zero,i.size,i.bytes))=some (some (.slice none 0 0),1,24):=by kernel_rfl
theorem RG{w:World}:Calls Tryz.prog 93 #[.slice none 0 0] w fun e w'=>e = .returned (.bool true)∧Below w.heap.size w w':=by
 obtain⟨i1,hi1,aN,az,aP⟩:=info_parts WW;go_enter Tryz.func93,Tryz.ntmps93
 go_wp2_with fail
 go_loopg [3] 0 (fun g k wx=>k = .int .i64 0∧Hid (Below w.heap.size w wx))
 case atStart=>exact⟨rfl,hide (Below.refl _ _)⟩
 case round =>
 obtain⟨rfl,HB⟩:=hrel
 go_wp2_with(at_make;refine wpList_make_full _ rfl _ _ 83 rfl 0 230 i1 (.slice none 0 0) 1 Tryz.underlying83 hi1 aN az _ _ _ _ 0 rfl rfl rfl rfl (by rw[aP];omega) (by unfold maxLen;omega) (Nat.zero_le _) ?_)
 intro w1 hown hgrow;have HB1:=hide (HB.out.trans ((Below.refl wr.heap.size wr).grown hgrow (aC _) (by simp)|>.mono HB.out.size));clear hown hgrow HB;generalize wr.heap.size=GB
 go_wp2_with fail
 go_loopg [6] 0 (fun g k wx=>k = .int .i64 0∧Hid (Below w.heap.size w wx))
 case atStart=>exact⟨rfl,HB1⟩
 case round =>
 clear HB1;obtain⟨rfl,aV⟩:=hrel
 go_wp2_with fail
 go_loopg [9] 0 (fun g k wx=>k = .int .i64 0∧Hid (Below w.heap.size w wx))
 case atStart=>exact⟨rfl,aV⟩
 case round =>
 clear aV;obtain⟨rfl,aQ⟩:=hrel
 go_wp2_with fail
 go_loopg [11] 0 (fun g k wx=>k = .int .i64 0∧Hid (Below w.heap.size w wx))
 case atStart=>exact⟨rfl,aQ⟩
 case round =>
 clear aQ;obtain⟨rfl,ax⟩:=hrel
 go_wp2_with fail
 go_loopg [14] 0 (fun g k wx=>k = .int .i64 0∧Hid (Below w.heap.size w wx))
 case atStart=>exact⟨rfl,ax⟩
 case round =>
 clear ax;obtain⟨rfl,aS⟩:=hrel
 go_wp2_with fail
 go_ret;exact⟨rfl,aS.out⟩
theorem WY:(Tryz.prog.info? 234).map (fun i=>(i.zero,i.size,i.bytes))=some (some (.slice none 0 0),1,24):=by kernel_rfl
theorem RH{w:World}:Calls Tryz.prog 95 #[.slice none 0 0] w fun e w'=>e = .returned (.bool true)∧Below w.heap.size w w':=by
 obtain⟨i1,hi1,aN,az,aP⟩:=info_parts WY;go_enter Tryz.func95,Tryz.ntmps95
 go_wp2_with fail
 go_loopg [3] 0 (fun g k wx=>k = .int .i64 0∧Hid (Below w.heap.size w wx))
 case atStart=>exact⟨rfl,hide (Below.refl _ _)⟩
 case round =>
 obtain⟨rfl,HB⟩:=hrel
 go_wp2_with(at_make;refine wpList_make_full _ rfl _ _ 85 rfl 0 234 i1 (.slice none 0 0) 1 Tryz.underlying85 hi1 aN az _ _ _ _ 0 rfl rfl rfl rfl (by rw[aP];omega) (by unfold maxLen;omega) (Nat.zero_le _) ?_)
 intro w1 hown hgrow;have HB1:=hide (HB.out.trans ((Below.refl wr.heap.size wr).grown hgrow (aC _) (by simp)|>.mono HB.out.size));clear hown hgrow HB;generalize wr.heap.size=GB
 go_wp2_with fail
 go_loopg [6] 0 (fun g k wx=>k = .int .i64 0∧Hid (Below w.heap.size w wx))
 case atStart=>exact⟨rfl,HB1⟩
 case round =>
 clear HB1;obtain⟨rfl,aV⟩:=hrel
 go_wp2_with fail
 go_loopg [9] 0 (fun g k wx=>k = .int .i64 0∧Hid (Below w.heap.size w wx))
 case atStart=>exact⟨rfl,aV⟩
 case round =>
 clear aV;obtain⟨rfl,aQ⟩:=hrel
 go_wp2_with fail
 go_loopg [11] 0 (fun g k wx=>k = .int .i64 0∧Hid (Below w.heap.size w wx))
 case atStart=>exact⟨rfl,aQ⟩
 case round =>
 clear aQ;obtain⟨rfl,ax⟩:=hrel
 go_wp2_with fail
 go_loopg [14] 0 (fun g k wx=>k = .int .i64 0∧Hid (Below w.heap.size w wx))
 case atStart=>exact⟨rfl,ax⟩
 case round =>
 clear ax;obtain⟨rfl,aS⟩:=hrel
 go_wp2_with fail
 go_ret;exact⟨rfl,aS.out⟩
end
end Go.Proofs.YtjjaojnglnpgaaaGreatDoor
