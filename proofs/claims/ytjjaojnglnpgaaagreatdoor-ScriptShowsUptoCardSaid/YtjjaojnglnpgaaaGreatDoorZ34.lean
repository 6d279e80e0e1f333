/- Part 35 of what scriptShows_cardUpto rests on. -/
import Derived.Deep.CutBlock
import Derived.Deep.DeepCutAuto
import Derived.Deep.RegionHeld
import Derived.Test.YtjjaojnglnpgaaaGreatDoorZ06
import Derived.Test.YtjjaojnglnpgaaaGreatDoorZ08
import Derived.Test.YtjjaojnglnpgaaaGreatDoorZ00
set_option linter.unusedVariables false
set_option linter.unusedSimpArgs false
set_option maxHeartbeats 16000000
set_option maxRecDepth 1000000
namespace Go.Proofs.YtjjaojnglnpgaaaGreatDoor
section
open Go.RowKit
theorem Sv{m p i k:Nat}{t:ByteArray}{n:Int}{ks r:Fo}:gm m p i (.cons k t n ks r)↔aZ p k i∧dR m k t n ks∧gm m p (i+1) r:=by
 rw[gm,dR];grind
theorem Xj{m p i k:Nat}{t:ByteArray}{n:Int}{ks r f:Fo}(hd:f.drop i = .cons k t n ks r)(h:gm m p i (f.drop i)):aZ p k i∧dR m k t n ks:=by
 rw[hd,Sv]at h;exact⟨h.1,h.2.1⟩
theorem zhW{m p i k:Nat}{t:ByteArray}{n:Int}{ks r f:Fo}{P:Prop}(hd:f.drop i = .cons k t n ks r)(h:P↔gm m p i (f.drop i))(h1:aZ p k i)(h2:dR m k t n ks):P↔gm m p (i+1) (f.drop (i+1)):=by
 rw[h,hd,Sv,Fo.drop_succ hd];exact⟨fun h=>h.2.2,fun h=>⟨h1,h2,h⟩⟩
theorem uH(k c:Nat):(∀m,many k=some m→c=m)↔(0≤dS k→(c:Int)=dS k):=by
 have h:=PU k;constructor
 ·intro h1 h2;have:=h1 (dS k).toNat (Nc.2 (by omega));omega
 ·intro h1 m hm;have h2:=Nc.1 hm;have:=h1 (by omega);omega
theorem rM{f:Fo}(h:0<f.len):∃k t n ks r,f = .cons k t n ks r:=by
 cases f with
 | nil=>simp[Fo.len]at h
 | cons k t n ks r=>exact⟨k,t,n,ks,r,rfl⟩
theorem yZ{m:Nat}{ks:Fo}(h:gm m 7 0 ks)(hl:ks.len=2):∃k0 t0 n0 l7 r,ks = .cons k0 t0 n0 l7 r∧(k0=22∨(k0=26∧∃k1 t1 n1 qm r1,l7 = .cons k1 t1 n1 qm r1)):=by
 obtain⟨k0,t0,n0,l7,r,rfl⟩:=rM (f:=ks) (by omega);refine⟨k0,t0,n0,l7,r,rfl,?_⟩;rw[Sv]at h;obtain⟨⟨_,hf⟩,⟨_,hh,_⟩,_⟩:=h;simp at hf;rcases hf with rfl|rfl
 ·exact .inl rfl
 ·refine .inr ⟨rfl,rM ?_⟩;have:=hh.2.2.2 2 (by simp[many]);omega
theorem nf6{b:Bool}(h:(!b)=false):b=true:=by cases b<;>simp_all
theorem nt6{b:Bool}(h:(!b)=true):¬b=true:=by cases b<;>simp_all
theorem y8{p k i:Nat}(h :¬aZ p k i)(w:World):Calls Tryz.prog 302 #[.int .u8 p,.int .u8 k,.int .i64 i] w fun e w'=>e = .returned (.bool false)∧w=w':=by
 refine(UN p k i w).mono ?_;rintro e w' ⟨⟨_|_,rfl,hb⟩,rfl⟩
 ·exact⟨rfl,rfl⟩
 ·exact absurd (hb.1 rfl) h
theorem zhX(N:Nat):∀(S:Nat→Prop) (k:Nat) (t:ByteArray) (n:Int) (ks:Fo) (KA:Option Addr) (c m:Nat) (d:Int) (w:World),ks.cnt<N→d=m→m≤41→k<256→t.size≤9223372036854775807→ai n→ks.len≤9223372036854775807→bG S w KA ks→
    Calls Tryz.prog 286 #[.agg #[.int .u8 k,.string t,.int .i64 n,.slice KA ks.len c],.int .i64 d] w fun e w'=>ah (dR m k t n ks) e∧Below w.heap.size w w':=by
  induction N with
  | zero=>intro _ _ _ _ _ _ _ _ _ _ h;omega
  | succ N ih =>
    rintro S k t n ks KA c m _ w hN rfl hm hk ht hn hl hks;have nH:=hide ih;have HN:=hide hN;have kT:=hide hks;have vI:=PU k;have hms:=uH k ks.len;have OD:=hide hms;obtain⟨W0,hW0⟩:∃W0,W0=w.alloc (.cells #[.int .u8 k,.string t,.int .i64 n,.slice KA ks.len c] 218):=⟨_,rfl⟩;have hB0:Below w.heap.size w W0:=by rw[hW0];exact az _ _
    have hz0:w.heap.size<W0.heap.size:=by rw[hW0];simp
    have hcell :∀o,W0.cell? ⟨w.heap.size,o,none⟩=(#[.int .u8 k,.string t,.int .i64 n,.slice KA ks.len c]:Array Value)[o]?:=fun o=>by rw[hW0];exact Lib.cell_of_heap (heap_alloc_new w _) o
    have HB0:=hide hB0;have HW0:=hide hW0;have iR:=hide hcell;clear ih hN hks hms hB0 hW0 hcell;go_enter Tryz.func286,Tryz.ntmps286
    go_upto_region 1 with fail
    rw[←HW0.out];have q0:=iR.out 0;have q1:=iR.out 1;have q2:=iR.out 2;have q3:=iR.out 3;simp only[List.getElem?_toArray,List.getElem?_cons_zero,List.getElem?_cons_succ]at q0 q1 q2 q3
    go_cut [5] (fun v wx=>(∃b:Bool,v = .bool b∧(b=true↔nC k))∧wx=W0)
    case first =>
      go_wp2_with(go_at_call 299;(with_reducible refine(UL k _).mono ?_);rintro e w1 ⟨⟨b,rfl,hb⟩,rfl⟩)
      all_goals go_meet
      all_goals exact⟨⟨_,rfl,by unfold nC Expr at *;grind⟩,rfl⟩
    case rest =>
    obtain⟨⟨b1,rfl,hb1⟩,rfl⟩:=hcut;have Hb1:=hide hb1;clear hb1
    go_upto_region 2 with fail
    go_cut [6] (fun v wx=>(∃b:Bool,v = .bool b∧(b=true↔oK k n))∧wx=wc)
    case first =>
      rcases hb0:(n == 0)with _|_<;>rcases Sz:((k:Int) == 20)with _|_<;>rcases hbp:decide (0<n)with _|_<;>rcases SA:((k:Int) == 21)with _|_<;>rcases SB:(n == 1)with _|_
      all_goals
        go_wp2_with fail
        go_meet
        exact⟨⟨_,rfl,by clear iR HW0 HB0 OD HN nH kT;simp at hb0 Sz hbp SA SB;unfold oK;grind⟩,rfl⟩
    case rest =>
    obtain⟨⟨b2,rfl,hb2⟩,rfl⟩:=hcut;have Hb2:=hide hb2;clear hb2
    go_upto_region 4 with(go_at_call 300;(with_reducible refine(UM k _).mono ?_);rintro e w1 ⟨rfl,rfl⟩)
    go_cut [5,6,73] (fun _ _ v wx=>(∃b:Bool,v = .bool b∧(b=false↔1≤m∧jW k t n ks.len))∧Hid (Below w.heap.size w wx)∧wx.cell? ⟨w.heap.size,0,none⟩=some (.int .u8 k)∧wx.cell? ⟨w.heap.size,3,none⟩=some (.slice KA ks.len c)∧w.heap.size<wx.heap.size)
    case first =>
      rcases hm1:decide ((m:Int)<1)with _|_<;>rcases hge:decide (0≤dS k)with _|_<;>rcases hne:((ks.len:Int) != dS k)with _|_
      all_goals go_wp2_with(go_at_call 301;(with_reducible refine(sO (k:=k) (l:=ks.len) (c:=c) (A:=KA) (n:=n) ht).mono ?_);rintro e w1 ⟨⟨b,rfl,hb⟩,hB⟩;have Hb:=hide hb;have HB:=hide hB;have hc0:=(hB.cell (p:=⟨w.heap.size,0,none⟩) hz0).trans q0;have hc3:=(hB.cell (p:=⟨w.heap.size,3,none⟩) hz0).trans q3;have hz1:=aH hz0 hB.size;clear hb hB)
      all_goals go_meet
      all_goals
        refine⟨⟨_,rfl,?_⟩,by first|exact⟨hide (aW HB0.out HB.out),hc0,hc3,hz1⟩|exact⟨HB0,q0,q3,hz0⟩⟩;have h1:=Hb1.out;have h2:=Hb2.out;have h4:=OD.out
        try have h3:=Hb.out
        simp only[decide_eq_true_eq,decide_eq_false_iff_not,bne_iff_ne,bne_eq_false_iff_eq,ne_eq]at hm1 hge hne;clear iR HW0 HB0 OD HN nH kT Hb1 Hb2;unfold jW;rw[h4]
        first
          | grind
    case rest =>
    obtain⟨⟨b3,rfl,hb3⟩,HB1,hc0,hc3,hz1⟩:=hcut;clear HB0 HW0 iR Hb1 Hb2 q0 q1 q2 q3 hz0 OD vI;rcases b3 with _|_
    · have hh:=hide (hb3.1 rfl)
      clear hb3
      go_wp2_with fail
      go_loopg [8] ks.len (fun g i wr=>∃q:Nat,q≤ks.len∧g=ks.len-q∧i = .int .i64 q∧Hid (Below w.heap.size w wr)∧wr.cell? ⟨w.heap.size,0,none⟩=some (.int .u8 k)∧wr.cell? ⟨w.heap.size,3,none⟩=some (.slice KA ks.len c)∧w.heap.size<wr.heap.size∧Hid (gm (m-1) k 0 ks↔gm (m-1) k q (ks.drop q)))
      case atStart=>exact⟨0,Nat.zero_le _,by omega,rfl,HB1,hc0,hc3,hz1,hide (by cases ks<;>rfl)⟩
      case round =>
        clear HB1 hc0 hc3 hz1;obtain⟨q,hq,hg,rfl,HB,hc0,hc3,hz1,aQ⟩:=hrel;by_cases hlt:q<ks.len
        · obtain⟨b,o,nD,kc,k0,t0,n0,l7,r,rfl,hdf,c0,c1,c2,c3,e1,e2,e3,e4,e5,fJ,hcnt⟩:=(kT.out.below HB.out).at_ hlt
          have oL:=hide hdf;have HR:Hid (∀W,Below wr.heap.size wr W→Calls Tryz.prog 286 #[.agg #[.int .u8 k0,.string t0,.int .i64 n0,.slice nD l7.len kc],.int .i64 (IntKind.i64.wrap ((m:Int)-1))] W fun e w'=>ah (dR (m-1) k0 t0 n0 l7) e∧Below W.heap.size W w'):=
            hide fun W hW=>nH.out S k0 t0 n0 l7 nD kc (m-1) _ W (by have:=HN.out;omega) (by have:=hh.out.1;rw[IntKind.wrap_i64];omega) (by omega) e1 e2 e3 (by omega) (fJ.below hW)
          have hm1:=hh.out.1;have hbw:b<wr.heap.size:=block_lt_of_cell c0;clear hdf fJ hcnt e3;by_cases hF:aZ k k0 q
          · have HF:=hide hF
            clear hF
            go_wp2_with fail
            go_region_held (fun w'=>w'.cell? ⟨w.heap.size,0,none⟩=some (.int .u8 k)∧w'.cell? ⟨w.heap.size,3,none⟩=some (.slice (some ⟨b,o,none⟩) ks.len c)∧w'.cell? ⟨b,o+q*4,none⟩=some (.int .u8 k0)∧w'.cell? ⟨b,o+q*4+1,none⟩=some (.string t0)∧w'.cell? ⟨b,o+q*4+2,none⟩=some (.int .i64 n0)∧w'.cell? ⟨b,o+q*4+3,none⟩=some (.slice nD l7.len kc)) (go_keep) (first
              | (go_at_call 302;(with_reducible refine(UN k k0 q _).mono ?_);rintro e1 w4 ⟨⟨b1,rfl,hb⟩,rfl⟩;have hbt:=hb.2 HF.out;subst hbt;clear hb)
              | (go_at_call 286;(with_reducible refine(HR.out wr.drew (di (Below.refl _ _) 1)).mono ?_);rintro e4 w4 ⟨⟨b4,rfl,hb⟩,hB⟩;(have Hr:=hide hb;have hcw :∀j,w4.cell? ⟨w.heap.size,j,none⟩=wr.cell? ⟨w.heap.size,j,none⟩:=(fun j=>(hB.cell (p:=⟨w.heap.size,j,none⟩) hz1));have hcell :∀j,w4.cell? ⟨b,j,none⟩=wr.cell? ⟨b,j,none⟩:=(fun j=>(hB.cell (p:=⟨b,j,none⟩) hbw));have HB4:Hid (Below w.heap.size w w4):=hide (aW HB.out (Ik hB));have kU:=aH hz1 (Ik hB).size;clear hb hB)))
            all_goals go_wp2_with fail
            all_goals first
              | (go_roundg (ks.len-(q+1))
                 case measure=>omega
                 case rel=>exact⟨q+1,by omega,rfl,by go_num,HB4,by first|assumption|(rw[hcw];assumption),by first|assumption|(rw[hcw];assumption),kU,hide (zhW oL.out aQ.out HF.out (Hr.out.mp (nf6 (by assumption))))⟩)
              | (go_ret
                 exact⟨ah.no (fun h=>nt6 (by assumption) (Hr.out.mpr (Xj oL.out (aQ.out.mp h.2.2.1)).2)),HB4.out⟩)
          · have HF:=hide hF
            clear hF
            go_wp2_with fail
            go_quiet ((go_at_call 302;(with_reducible refine(y8 HF.out _).mono ?_);rintro e2 w2 ⟨rfl,rfl⟩;exact⟨rfl,_,rfl⟩))
            go_wp2_with fail
            go_ret;exact⟨ah.no (fun h=>HF.out (Xj oL.out (aQ.out.mp h.2.2.1)).1),di HB.out _⟩
        · have hfo:gm (m-1) k 0 ks:=aQ.out.mpr (by rw[Fo.drop_len _ _ (by omega)];exact trivial)
          have SC:=hide hfo;clear aQ;by_cases h7:k=7
          · subst h7
            obtain⟨k0,t0,n0,l7,r,rfl,hset⟩:=yZ hfo (hh.out.2.2.2.2 2 (by simp[many]));clear hfo;obtain⟨b,o,Vu,c',rfl,hS,c0,c1,c2,c3,e1,e2,e3,e4,e5,xC,hr⟩:=(kT.out.below HB.out);have hl0:0<(Fo.cons k0 t0 n0 l7 r).len:=by simp[Fo.len]
            rcases hset with rfl|⟨rfl,k1,t1,n1,qm,r1,rfl⟩
            · go_wp2_with fail
              go_ret;go_tidy;exact⟨ah.yes ⟨hh.out.1,hh.out.2,SC.out,fun h=>by trivial⟩,HB.out⟩
            · obtain⟨b1,o1,NL,c1',rfl,hS1,d0,d1,d2,d3,f1,f2,f3,f4,f5,JM,hr1⟩:=xC
              have hl1:0<(Fo.cons k1 t1 n1 qm r1).len:=by simp[Fo.len]
              rcases h22:((k1:Int) == 22)with _|_
              all_goals
                have Xk:=hide h22
                go_wp2_with fail
                go_ret;go_tidy
              · exact⟨ah.no (fun h=>by
                  have h':k1=22:=h.2.2.2 rfl;subst h';exact absurd Xk.out (by decide)),HB.out⟩
              · exact⟨ah.yes ⟨hh.out.1,hh.out.2,SC.out,fun _=>by
                  have:=beq_iff_eq.1 Xk.out;show k1=22;omega⟩,HB.out⟩
          · have Vw:((k:Int) != 7)=true:=by simp;omega
            clear hfo
            go_wp2_with fail
            go_ret;go_tidy;exact⟨ah.yes ⟨hh.out.1,hh.out.2,SC.out,fun h=>absurd h h7⟩,HB.out⟩
    · have hh:Hid (¬(1≤m∧jW k t n ks.len)):=hide (fun h=>by have h9:=hb3.2 h;cases h9)
      clear hb3
      go_wp2_with fail
      go_ret;exact⟨ah.no (fun h=>hh.out ⟨h.1,h.2.1⟩),HB1.out⟩
theorem zjm{S:Nat→Prop}{k:Nat}{t:ByteArray}{n:Int}{ks:Fo}{A:Option Addr}{c:Nat}{w:World}(hk:k<256)(ht:t.size≤9223372036854775807)(hn:ai n)(hl:ks.len≤9223372036854775807)(h:bG S w A ks):
  Calls Tryz.prog 265 #[.agg #[.int .u8 k,.string t,.int .i64 n,.slice A ks.len c]] w fun e w'=>ah (dR 40 k t n ks) e∧Below w.heap.size w w':=by
 have H:=hide h;have Hn:=hide hn;clear h hn;go_enter Tryz.func265,Tryz.ntmps265
 go_wp2_with(go_at_call 286;(with_reducible refine(zhX (ks.cnt+1) _ k t n ks A c 40 40 _ (Nat.lt_succ_self _) rfl (by omega) hk ht Hn.out hl (H.out.below (az _ _))).mono ?_);rintro e1 w1 ⟨⟨b,rfl,hb⟩,hB⟩;have Hb:=hide hb;have HB:=hide hB;clear hb hB)
 go_ret;exact⟨ah.mk Hb.out,aW (az _ _) HB.out⟩
theorem Eu{S:Nat→Prop}{A:Option Addr}{c:Nat}{f:Fo}{w:World}(h:bG S w A f)(hl:f.len≤9223372036854775807):
  Calls Tryz.prog 231 #[.slice A f.len c] w fun e w'=>ah (bD f) e∧Below w.heap.size w w':=by
 by_cases h1:f.len=1
 ·match f,h1 with
  | .cons k t n ks .nil,h1 =>
   obtain⟨b,o,KA,kc,rfl,hS,c0,c1,c2,c3,e1,e2,e3,e4,e5,hks,hr⟩:=h;have kT:=hide hks;have H3:=hide e3;have hl1:(Fo.cons k t n ks .nil).len=1:=rfl;clear hks e3 hr;rw[hl1];go_enter Tryz.func231,Tryz.ntmps231
   go_wp2_with(go_at_call 265;(with_reducible refine(zjm e1 e2 H3.out (by omega) kT.out).mono ?_);rintro e1' w1 ⟨⟨b,rfl,hb⟩,hB⟩;have Hb:=hide hb;have HB:=hide hB;clear hb hB)
   go_ret;exact⟨ah.mk Hb.out,HB.out⟩
 ·have hp :¬bD f:=by
   intro h2
   match f,h2,h1 with
   | .cons k t n ks .nil,h2,h1=>exact h1 rfl
  have hd:((f.len:Int) == 1)=false:=by rw[aK];omega
  have Hp:=hide hp;clear h hp;go_enter Tryz.func231,Tryz.ntmps231
  go_wp2_with fail
  go_ret;exact⟨ah.no Hp.out,Below.refl _ _⟩
end
end Go.Proofs.YtjjaojnglnpgaaaGreatDoor
