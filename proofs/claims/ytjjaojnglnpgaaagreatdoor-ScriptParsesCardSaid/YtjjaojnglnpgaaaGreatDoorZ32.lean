/- Part 33 of what scriptParses_card rests on. -/
import Derived.Deep.CutBlock
import Derived.Deep.DeepCutAuto
import Derived.Deep.RegionHeld
import Derived.Test.YtjjaojnglnpgaaaGreatDoorZ08
import Derived.Test.YtjjaojnglnpgaaaGreatDoorZ02
import Derived.Test.YtjjaojnglnpgaaaGreatDoorZ00
set_option linter.unusedVariables false
set_option linter.unusedSimpArgs false
set_option maxHeartbeats 16000000
set_option maxRecDepth 1000000
namespace Go.Proofs.YtjjaojnglnpgaaaGreatDoor
section
open Go.RowKit
theorem NM{m p i k:Nat}{t:ByteArray}{n:Int}{ks r:Fo}:FoOk m p i (.cons k t n ks r)↔FitsIn p k i∧NodeOk m k t n ks∧FoOk m p (i+1) r:=by
 rw[FoOk,NodeOk];grind
theorem TK{m p i k:Nat}{t:ByteArray}{n:Int}{ks r f:Fo}(hd:f.drop i = .cons k t n ks r)(h:FoOk m p i (f.drop i)):FitsIn p k i∧NodeOk m k t n ks:=by
 rw[hd,NM]at h;exact⟨h.1,h.2.1⟩
theorem YU{m p i k:Nat}{t:ByteArray}{n:Int}{ks r f:Fo}{P:Prop}(hd:f.drop i = .cons k t n ks r)(h:P↔FoOk m p i (f.drop i))(h1:FitsIn p k i)(h2:NodeOk m k t n ks):P↔FoOk m p (i+1) (f.drop (i+1)):=by
 rw[h,hd,NM,Fo.drop_succ hd];exact⟨fun h=>h.2.2,fun h=>⟨h1,h2,h⟩⟩
theorem ni(k c:Nat):(∀m,many k=some m→c=m)↔(0≤manyI k→(c:Int)=manyI k):=by
 have h:=KN k;constructor
 ·intro h1 h2;have:=h1 (manyI k).toNat (Ik.2 (by omega));omega
 ·intro h1 m hm;have h2:=Ik.1 hm;have:=h1 (by omega);omega
theorem kU{f:Fo}(h:0<f.len):∃k t n ks r,f = .cons k t n ks r:=by
 cases f with
 | nil=>simp[Fo.len]at h
 | cons k t n ks r=>exact⟨k,t,n,ks,r,rfl⟩
theorem rJ{m:Nat}{ks:Fo}(h:FoOk m 7 0 ks)(hl:ks.len=2):∃k0 t0 n0 fF r,ks = .cons k0 t0 n0 fF r∧(k0=22∨(k0=26∧∃k1 t1 n1 jq r1,fF = .cons k1 t1 n1 jq r1)):=by
 obtain⟨k0,t0,n0,fF,r,rfl⟩:=kU (f:=ks) (by omega);refine⟨k0,t0,n0,fF,r,rfl,?_⟩;rw[NM]at h;obtain⟨⟨_,hf⟩,⟨_,hh,_⟩,_⟩:=h;simp at hf;rcases hf with rfl|rfl
 ·exact .inl rfl
 ·refine .inr ⟨rfl,kU ?_⟩;have:=hh.2.2.2 2 (by simp[many]);omega
theorem YV{b:Bool}(h:(!b)=false):b=true:=by cases b<;>simp_all
theorem YW{b:Bool}(h:(!b)=true):¬b=true:=by cases b<;>simp_all
theorem rM{p k i:Nat}(h :¬FitsIn p k i)(w:World):Calls Tryz.prog 302 #[.int .u8 p,.int .u8 k,.int .i64 i] w fun e w'=>e = .returned (.bool false)∧w=w':=by
 refine(P7 p k i w).mono ?_;rintro e w' ⟨⟨_|_,rfl,hb⟩,rfl⟩
 ·exact⟨rfl,rfl⟩
 ·exact absurd (hb.1 rfl) h
theorem YX(N:Nat):∀(S:Nat→Prop) (k:Nat) (t:ByteArray) (n:Int) (ks:Fo) (KA:Option Addr) (c m:Nat) (d:Int) (w:World),ks.cnt<N→d=m→m≤41→k<256→t.size≤9223372036854775807→isInt64 n→ks.len≤9223372036854775807→FoIn S w KA ks→
    Calls Tryz.prog 286 #[.agg #[.int .u8 k,.string t,.int .i64 n,.slice KA ks.len c],.int .i64 d] w fun e w'=>RetB (NodeOk m k t n ks) e∧Below w.heap.size w w':=by
  induction N with
  | zero=>intro _ _ _ _ _ _ _ _ _ _ h;omega
  | succ N ih =>
    rintro S k t n ks KA c m _ w hN rfl hm hk ht hn hl hks;have uB:=hide ih;have HN:=hide hN;have fO:=hide hks;have oC:=KN k;have hms:=ni k ks.len;have Jt:=hide hms;obtain⟨W0,hW0⟩:∃W0,W0=w.alloc (.cells #[.int .u8 k,.string t,.int .i64 n,.slice KA ks.len c] 218):=⟨_,rfl⟩;have hB0:Below w.heap.size w W0:=by rw[hW0];exact ag _ _
    have hz0:w.heap.size<W0.heap.size:=by rw[hW0];simp
    have hcell :∀o,W0.cell? ⟨w.heap.size,o,none⟩=(#[.int .u8 k,.string t,.int .i64 n,.slice KA ks.len c]:Array Value)[o]?:=fun o=>by rw[hW0];exact Lib.cell_of_heap (heap_alloc_new w _) o
    have HB0:=hide hB0;have HW0:=hide hW0;have bW:=hide hcell;clear ih hN hks hms hB0 hW0 hcell;go_enter Tryz.func286,Tryz.ntmps286
    go_upto_region 1 with fail
    rw[←HW0.out];have q0:=bW.out 0;have q1:=bW.out 1;have q2:=bW.out 2;have q3:=bW.out 3;simp only[List.getElem?_toArray,List.getElem?_cons_zero,List.getElem?_cons_succ]at q0 q1 q2 q3
    go_cut [5] (fun v wx=>(∃b:Bool,v = .bool b∧(b=true↔Known k))∧wx=W0)
    case first =>
      go_wp2_with(go_at_call 299;(with_reducible refine(P5 k _).mono ?_);rintro e w1 ⟨⟨b,rfl,hb⟩,rfl⟩)
      all_goals go_meet
      all_goals exact⟨⟨_,rfl,by unfold Known Expr at *;grind⟩,rfl⟩
    case rest =>
    obtain⟨⟨b1,rfl,hb1⟩,rfl⟩:=hcut;have Hb1:=hide hb1;clear hb1
    go_upto_region 2 with fail
    go_cut [6] (fun v wx=>(∃b:Bool,v = .bool b∧(b=true↔NumOk k n))∧wx=wc)
    case first =>
      rcases hb0:(n == 0)with _|_<;>rcases NP:((k:Int) == 20)with _|_<;>rcases hbp:decide (0<n)with _|_<;>rcases NQ:((k:Int) == 21)with _|_<;>rcases NR:(n == 1)with _|_
      all_goals
        go_wp2_with fail
        go_meet
        exact⟨⟨_,rfl,by clear bW HW0 HB0 Jt HN uB fO;simp at hb0 NP hbp NQ NR;unfold NumOk;grind⟩,rfl⟩
    case rest =>
    obtain⟨⟨b2,rfl,hb2⟩,rfl⟩:=hcut;have Hb2:=hide hb2;clear hb2
    go_upto_region 4 with(go_at_call 300;(with_reducible refine(P6 k _).mono ?_);rintro e w1 ⟨rfl,rfl⟩)
    go_cut [5,6,73] (fun _ _ v wx=>(∃b:Bool,v = .bool b∧(b=false↔1≤m∧HeadOk k t n ks.len))∧Hid (Below w.heap.size w wx)∧wx.cell? ⟨w.heap.size,0,none⟩=some (.int .u8 k)∧wx.cell? ⟨w.heap.size,3,none⟩=some (.slice KA ks.len c)∧w.heap.size<wx.heap.size)
    case first =>
      rcases hm1:decide ((m:Int)<1)with _|_<;>rcases hge:decide (0≤manyI k)with _|_<;>rcases hne:((ks.len:Int) != manyI k)with _|_
      all_goals go_wp2_with(go_at_call 301;(with_reducible refine(lQ (k:=k) (l:=ks.len) (c:=c) (A:=KA) (n:=n) ht).mono ?_);rintro e w1 ⟨⟨b,rfl,hb⟩,hB⟩;have Hb:=hide hb;have HB:=hide hB;have hc0:=(hB.cell (p:=⟨w.heap.size,0,none⟩) hz0).trans q0;have hc3:=(hB.cell (p:=⟨w.heap.size,3,none⟩) hz0).trans q3;have hz1:=aH hz0 hB.size;clear hb hB)
      all_goals go_meet
      all_goals
        refine⟨⟨_,rfl,?_⟩,by first|exact⟨hide (ak HB0.out HB.out),hc0,hc3,hz1⟩|exact⟨HB0,q0,q3,hz0⟩⟩;have h1:=Hb1.out;have h2:=Hb2.out;have h4:=Jt.out
        try have h3:=Hb.out
        simp only[decide_eq_true_eq,decide_eq_false_iff_not,bne_iff_ne,bne_eq_false_iff_eq,ne_eq]at hm1 hge hne;clear bW HW0 HB0 Jt HN uB fO Hb1 Hb2;unfold HeadOk;rw[h4]
        first
          | grind
    case rest =>
    obtain⟨⟨b3,rfl,hb3⟩,HB1,hc0,hc3,hz1⟩:=hcut;clear HB0 HW0 bW Hb1 Hb2 q0 q1 q2 q3 hz0 Jt oC;rcases b3 with _|_
    · have hh:=hide (hb3.1 rfl)
      clear hb3
      go_wp2_with fail
      go_loopg [8] ks.len (fun g i wr=>∃q:Nat,q≤ks.len∧g=ks.len-q∧i = .int .i64 q∧Hid (Below w.heap.size w wr)∧wr.cell? ⟨w.heap.size,0,none⟩=some (.int .u8 k)∧wr.cell? ⟨w.heap.size,3,none⟩=some (.slice KA ks.len c)∧w.heap.size<wr.heap.size∧Hid (FoOk (m-1) k 0 ks↔FoOk (m-1) k q (ks.drop q)))
      case atStart=>exact⟨0,Nat.zero_le _,by omega,rfl,HB1,hc0,hc3,hz1,hide (by cases ks<;>rfl)⟩
      case round =>
        clear HB1 hc0 hc3 hz1;obtain⟨q,hq,hg,rfl,HB,hc0,hc3,hz1,ah⟩:=hrel;by_cases hlt:q<ks.len
        · obtain⟨b,o,gp,kc,k0,t0,n0,fF,r,rfl,hdf,c0,c1,c2,c3,e1,e2,e3,e4,e5,dn,hcnt⟩:=(fO.out.below HB.out).at_ hlt
          have iO:=hide hdf;have HR:Hid (∀W,Below wr.heap.size wr W→Calls Tryz.prog 286 #[.agg #[.int .u8 k0,.string t0,.int .i64 n0,.slice gp fF.len kc],.int .i64 (IntKind.i64.wrap ((m:Int)-1))] W fun e w'=>RetB (NodeOk (m-1) k0 t0 n0 fF) e∧Below W.heap.size W w'):=
            hide fun W hW=>uB.out S k0 t0 n0 fF gp kc (m-1) _ W (by have:=HN.out;omega) (by have:=hh.out.1;rw[IntKind.wrap_i64];omega) (by omega) e1 e2 e3 (by omega) (dn.below hW)
          have hm1:=hh.out.1;have hbw:b<wr.heap.size:=block_lt_of_cell c0;clear hdf dn hcnt e3;by_cases hF:FitsIn k k0 q
          · have HF:=hide hF
            clear hF
            go_wp2_with fail
            go_region_held (fun w'=>w'.cell? ⟨w.heap.size,0,none⟩=some (.int .u8 k)∧w'.cell? ⟨w.heap.size,3,none⟩=some (.slice (some ⟨b,o,none⟩) ks.len c)∧w'.cell? ⟨b,o+q*4,none⟩=some (.int .u8 k0)∧w'.cell? ⟨b,o+q*4+1,none⟩=some (.string t0)∧w'.cell? ⟨b,o+q*4+2,none⟩=some (.int .i64 n0)∧w'.cell? ⟨b,o+q*4+3,none⟩=some (.slice gp fF.len kc)) (go_keep) (first
              | (go_at_call 302;(with_reducible refine(P7 k k0 q _).mono ?_);rintro e1 w4 ⟨⟨b1,rfl,hb⟩,rfl⟩;have hbt:=hb.2 HF.out;subst hbt;clear hb)
              | (go_at_call 286;(with_reducible refine(HR.out wr.drew (aO (Below.refl _ _) 1)).mono ?_);rintro e4 w4 ⟨⟨b4,rfl,hb⟩,hB⟩;(have Hr:=hide hb;have hcw :∀j,w4.cell? ⟨w.heap.size,j,none⟩=wr.cell? ⟨w.heap.size,j,none⟩:=(fun j=>(hB.cell (p:=⟨w.heap.size,j,none⟩) hz1));have hcell :∀j,w4.cell? ⟨b,j,none⟩=wr.cell? ⟨b,j,none⟩:=(fun j=>(hB.cell (p:=⟨b,j,none⟩) hbw));have HB4:Hid (Below w.heap.size w w4):=hide (ak HB.out (uu hB));have eQ:=aH hz1 (uu hB).size;clear hb hB)))
            all_goals go_wp2_with fail
            all_goals first
              | (go_roundg (ks.len-(q+1))
                 case measure=>omega
                 case rel=>exact⟨q+1,by omega,rfl,by go_num,HB4,by first|assumption|(rw[hcw];assumption),by first|assumption|(rw[hcw];assumption),eQ,hide (YU iO.out ah.out HF.out (Hr.out.mp (YV (by assumption))))⟩)
              | (go_ret
                 exact⟨RetB.no (fun h=>YW (by assumption) (Hr.out.mpr (TK iO.out (ah.out.mp h.2.2.1)).2)),HB4.out⟩)
          · have HF:=hide hF
            clear hF
            go_wp2_with fail
            go_quiet ((go_at_call 302;(with_reducible refine(rM HF.out _).mono ?_);rintro e2 w2 ⟨rfl,rfl⟩;exact⟨rfl,_,rfl⟩))
            go_wp2_with fail
            go_ret;exact⟨RetB.no (fun h=>HF.out (TK iO.out (ah.out.mp h.2.2.1)).1),aO HB.out _⟩
        · have hfo:FoOk (m-1) k 0 ks:=ah.out.mpr (by rw[Fo.drop_len _ _ (by omega)];exact trivial)
          have NS:=hide hfo;clear ah;by_cases h7:k=7
          · subst h7
            obtain⟨k0,t0,n0,fF,r,rfl,hset⟩:=rJ hfo (hh.out.2.2.2.2 2 (by simp[many]));clear hfo;obtain⟨b,o,Rx,c',rfl,hS,c0,c1,c2,c3,e1,e2,e3,e4,e5,qN,hr⟩:=(fO.out.below HB.out);have hl0:0<(Fo.cons k0 t0 n0 fF r).len:=by simp[Fo.len]
            rcases hset with rfl|⟨rfl,k1,t1,n1,jq,r1,rfl⟩
            · go_wp2_with fail
              go_ret;go_tidy;exact⟨RetB.yes ⟨hh.out.1,hh.out.2,NS.out,fun h=>by trivial⟩,HB.out⟩
            · obtain⟨b1,o1,I9,c1',rfl,hS1,d0,d1,d2,d3,f1,f2,f3,f4,f5,Ej,hr1⟩:=qN
              have hl1:0<(Fo.cons k1 t1 n1 jq r1).len:=by simp[Fo.len]
              rcases h22:((k1:Int) == 22)with _|_
              all_goals
                have TL:=hide h22
                go_wp2_with fail
                go_ret;go_tidy
              · exact⟨RetB.no (fun h=>by
                  have h':k1=22:=h.2.2.2 rfl;subst h';exact absurd TL.out (by decide)),HB.out⟩
              · exact⟨RetB.yes ⟨hh.out.1,hh.out.2,NS.out,fun _=>by
                  have:=beq_iff_eq.1 TL.out;show k1=22;omega⟩,HB.out⟩
          · have IC:((k:Int) != 7)=true:=by simp;omega
            clear hfo
            go_wp2_with fail
            go_ret;go_tidy;exact⟨RetB.yes ⟨hh.out.1,hh.out.2,NS.out,fun h=>absurd h h7⟩,HB.out⟩
    · have hh:Hid (¬(1≤m∧HeadOk k t n ks.len)):=hide (fun h=>by have h9:=hb3.2 h;cases h9)
      clear hb3
      go_wp2_with fail
      go_ret;exact⟨RetB.no (fun h=>hh.out ⟨h.1,h.2.1⟩),HB1.out⟩
theorem YY{S:Nat→Prop}{k:Nat}{t:ByteArray}{n:Int}{ks:Fo}{A:Option Addr}{c:Nat}{w:World}(hk:k<256)(ht:t.size≤9223372036854775807)(hn:isInt64 n)(hl:ks.len≤9223372036854775807)(h:FoIn S w A ks):
  Calls Tryz.prog 265 #[.agg #[.int .u8 k,.string t,.int .i64 n,.slice A ks.len c]] w fun e w'=>RetB (NodeOk 40 k t n ks) e∧Below w.heap.size w w':=by
 have H:=hide h;have Hn:=hide hn;clear h hn;go_enter Tryz.func265,Tryz.ntmps265
 go_wp2_with(go_at_call 286;(with_reducible refine(YX (ks.cnt+1) _ k t n ks A c 40 40 _ (Nat.lt_succ_self _) rfl (by omega) hk ht Hn.out hl (H.out.below (ag _ _))).mono ?_);rintro e1 w1 ⟨⟨b,rfl,hb⟩,hB⟩;have Hb:=hide hb;have HB:=hide hB;clear hb hB)
 go_ret;exact⟨RetB.mk Hb.out,ak (ag _ _) HB.out⟩
theorem yQ{S:Nat→Prop}{A:Option Addr}{c:Nat}{f:Fo}{w:World}(h:FoIn S w A f)(hl:f.len≤9223372036854775807):
  Calls Tryz.prog 231 #[.slice A f.len c] w fun e w'=>RetB (PartOk f) e∧Below w.heap.size w w':=by
 by_cases h1:f.len=1
 ·match f,h1 with
  | .cons k t n ks .nil,h1 =>
   obtain⟨b,o,KA,kc,rfl,hS,c0,c1,c2,c3,e1,e2,e3,e4,e5,hks,hr⟩:=h;have fO:=hide hks;have H3:=hide e3;have hl1:(Fo.cons k t n ks .nil).len=1:=rfl;clear hks e3 hr;rw[hl1];go_enter Tryz.func231,Tryz.ntmps231
   go_wp2_with(go_at_call 265;(with_reducible refine(YY e1 e2 H3.out (by omega) fO.out).mono ?_);rintro e1' w1 ⟨⟨b,rfl,hb⟩,hB⟩;have Hb:=hide hb;have HB:=hide hB;clear hb hB)
   go_ret;exact⟨RetB.mk Hb.out,HB.out⟩
 ·have hp :¬PartOk f:=by
   intro h2
   match f,h2,h1 with
   | .cons k t n ks .nil,h2,h1=>exact h1 rfl
  have hd:((f.len:Int) == 1)=false:=by rw[aK];omega
  have Hp:=hide hp;clear h hp;go_enter Tryz.func231,Tryz.ntmps231
  go_wp2_with fail
  go_ret;exact⟨RetB.no Hp.out,Below.refl _ _⟩
end
end Go.Proofs.YtjjaojnglnpgaaaGreatDoor
