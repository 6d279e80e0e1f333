/- Part 41 of what scriptBack_cardUpto rests on. -/
import Derived.Test.YtjjaojnglnpgaaaGreatDoorY29
import Derived.Test.YtjjaojnglnpgaaaGreatDoorY15
import Derived.Test.YtjjaojnglnpgaaaGreatDoorY03
import Derived.Test.YtjjaojnglnpgaaaGreatDoorY00
set_option linter.unusedVariables false
set_option linter.unusedSimpArgs false
set_option maxHeartbeats 16000000
set_option maxRecDepth 1000000
namespace Go.Proofs.YtjjaojnglnpgaaaGreatDoor
section
open Go.RowKit
theorem zD{w:World}{t:TypeId}:Buf (fun b=>b<w.heap.size) w.heap.size (w.alloc (.cells #[.slice none 0 0] t)) []:=
 ⟨.slice none 0 0,by rw[World.cell?_alloc_new];rfl,by simp,Nat.lt_irrefl _,fun k hk=>by simp;omega,World.ownsRow_nil _ _ _ _,by simp[Value.ownBlock],.inl rfl⟩
theorem Buf.bytes{P:Nat→Prop}{wb:Nat}{w:World}{l:List UInt8}(h:Buf P wb w l):∃A c,w.cell? ⟨wb,0,none⟩=some (.slice A l.length c)∧BytesIn (fun b=>¬P b) w A l∧l.length≤c∧c≤9223372036854775807:=by
 obtain⟨v,h0,_,_,_,h4,h5,_⟩:=h;rcases h4.2 with⟨rfl,hn⟩|⟨g,cap,cur,rfl,hb,hgg,hn,hc,_⟩
 ·have:l=[]:=List.eq_nil_of_length_eq_zero hn;subst this;exact⟨_,_,h0,⟨.inl rfl,by simp⟩,aC _,by omega⟩
 ·have hc':cap≤9223372036854775807:=by unfold maxLen at hc;omega
  refine⟨_,_,h0,⟨.inr ⟨g,0,rfl,(h5 g rfl).2,fun j u hu=>?_⟩,aI hn hc'⟩,hn,hc'⟩;have:=h4.cells (g:=g) rfl j u hu
  rwa [Addr.add_lit]at this
theorem zF{S:Nat→Prop}{x:Ph}{p:Pt}{w:World}(hp:aV S w x p)(htab:ax w)(hsum:p.edit.frm.size+p.edit.to.size≤9223372036854775807)(hlen:(dX p).length≤lid):
    Calls Tryz.prog 45 #[.agg #[.int .u8 p.kind,.string p.file,.string p.text,.int .i64 p.hunk.at_,.slice x.h.oA p.hunk.old.length x.h.oc,.slice x.h.nA p.hunk.new.length x.h.nc,.int .u8 p.edit.kind,.slice x.e.pA p.edit.path.length x.e.pc,.int .i64 p.edit.at_,.int .i64 p.edit.far,.string p.edit.frm,.string p.edit.to,.slice x.e.oA p.edit.old.len x.e.oc,.slice x.e.nA p.edit.new.len x.e.nc]] w fun e w'=>Below w.heap.size w w'∧
      ((bV p∧∃A c,e = .returned (.tuple #[.slice A (dX p).length c,.int .i64 0])∧BytesIn (fun b=>w.heap.size≤b) w' A (dX p)∧(dX p).length≤c∧c≤9223372036854775807)∨
       (¬bV p∧e = .returned (.tuple #[.slice none 0 0,.int .i64 4]))):=by
  have Hp:=hide hp;have ai:=hide htab;clear hp htab;go_enter Tryz.func45,Tryz.ntmps45
  go_wp2_with(first
    | (go_at_call 114;(with_reducible refine(KC (Hp.out.below (az _ _)) (ai.out.below (az _ _)) hsum).mono ?_);rintro e1 w1 ⟨⟨_|_,rfl,hb⟩,hB⟩<;>(have fU:=hide hb;have HB:Hid (Below w.heap.size w w1):=hide (aZ (az _ _) hB);obtain⟨hc1,hf1,hz1⟩:=aO (N:=w.heap.size) hB (by simp);clear hb hB))
    | (go_at_call 115;(refine(qX (S:=fun b=>S b∧b<w.heap.size) zD ((Hp.out.mono (S':=fun b=>S b∧b<w.heap.size) fun b h1 h2=>⟨h2,h1⟩).below (HB.out.trans ((az _ _).mono HB.out.size))) (fun b hb=>Nat.lt_trans hb.2 hz1) (by simpa using hlen)).mono ?_);rintro e2 w2 ⟨rfl,hb,hB⟩;obtain⟨A,c,q0,q1,q2,q3⟩:=hb.bytes;have Hq:=hide q1;have HB2:Hid (Below w.heap.size w w2):=hide (HB.out.trans (((az _ _).mono HB.out.size).trans (hB.below.mono HB.out.size)));clear hb hB q1))
  · go_ret2
    exact⟨HB.out,.inr ⟨fun h=>absurd (fU.out.mpr h) (by decide),rfl⟩⟩
  · go_ret2
    exact⟨HB2.out,.inl ⟨fU.out.mp trivial,A,c,rfl,Hq.out.mono fun b _ hb=>by have:=HB.out.size;omega,q2,q3⟩⟩
def rM(U:Nat)(m:Int)(e:Ending):Prop:=∃r:Int,e = .returned (.int .i64 r)∧0≤r∧r≤(U:Int)∧(r≤m→(U:Int)≤r)
theorem Ij :∀{f:Fo} {q k:Nat} {t:ByteArray} {n:Int} {ks r:Fo},f.drop q = .cons k t n ks r→(f.take (q+1)).size=(f.take q).size+(1+t.size / 8+ks.size)
 | .nil,q,_,_,_,_,_,h=>by cases q<;>cases h
 | .cons k0 t0 n0 pI r0,0,k,t,n,ks,r,h=>by
  cases h;simp[Fo.take,Fo.size]
 | .cons k0 t0 n0 pI r0,q+1,k,t,n,ks,r,h=>by
  have ih:=Ij (f:=r0) (q:=q) h;simp only[Fo.take,Fo.size]at ih⊢;omega
theorem zG :∀(f:Fo) (q:Nat),(f.take q).size≤f.size
 | .nil,q=>by cases q<;>simp[Fo.take,Fo.size]
 | .cons _ _ _ _ r,0=>by simp[Fo.take,Fo.size]
 | .cons _ _ _ _ r,q+1=>by
  have:=zG r q;simp only[Fo.take,Fo.size];omega
theorem KD(f:Fo):(f.take 0).size=0:=by cases f<;>rfl
theorem Ik :∀f:Fo,f.take f.len=f
 | .nil=>rfl
 | .cons _ _ _ _ r=>by rw[Fo.len,Fo.take,Ik r]
theorem OE(N:Nat):∀(S:Nat→Prop) (k:Nat) (t:ByteArray) (n:Int) (A:Option Addr) (c:Nat) (ks:Fo) (m:Int) (w:World),ks.cnt<N→bz S w A ks→ks.len≤9223372036854775807→t.size≤9223372036854775807→-2199023255552≤m→m≤2199023255552→1+t.size / 8+ks.size≤2199023255552→
  Calls Tryz.prog 166 #[.agg #[.int .u8 k,.string t,.int .i64 n,.slice A ks.len c],.int .i64 m] w fun e w'=>rM (1+t.size / 8+ks.size) m e∧Below w.heap.size w w':=by
 induction N with
 | zero=>intro S k t n A c ks m w h;omega
 | succ N ih =>
  intro S k t n A c ks m w hcnt hks hlen ht hm1 hm2 hU;have kS:=hide hks;have xU:=hide ih;clear hks ih;go_enter Tryz.func166,Tryz.ntmps166
  go_wp2_with fail
  go_loopw [5,6] (fun v i wr=>∃(q:Nat) (n:Int),q≤ks.len∧i = .int .i64 q∧v = .int .i64 n∧0≤n∧n≤2199023255552∧Hid (n≤((1+t.size / 8+(ks.take q).size:Nat):Int)∧(n≤m→((1+t.size / 8+(ks.take q).size:Nat):Int)≤n))∧Hid (Below w.heap.size w wr)∧w.heap.size<wr.heap.size∧wr.cell? ⟨w.heap.size,3,none⟩=some (.slice A ks.len c)) (fun _ i _=>ks.len-(intOf i).toNat)
  case atStart=>exact⟨0,1+(t.size:Int) / 8,Nat.zero_le _,rfl,rfl,by omega,by omega,hide (by rw[KD];omega),hide (az _ _),by simp,by simp⟩
  case round =>
   obtain⟨q,n,hq,rfl,rfl,hn0,hn1,Hn,HB,hz,hc⟩:=hrel;have hle:=zG ks q;by_cases hlt:q<ks.len
   ·by_cases hnm:n≤m
    ·obtain⟨b,o,KA,c',k',t',n',ks',r,rfl,hd,c0,c1,c2,c3,e1,e2,e3,e4,e5,dR,hcn⟩:=(kS.out.below HB.out).at_ hlt;have iO:=hide dR;have hts:=Ij hd;have hle2:=zG ks (q+1);have kY:=hide (And.intro hts hle2);have DU:1+t'.size / 8+ks'.size≤2199023255552:=by omega
     have DV:t'.size≤9223372036854775807:=e2;clear hd e3 dR hts hle2
     go_wp2_with(go_at_call 166;(with_reducible refine(xU.out S k' t' n' KA c' ks' (m-n) _ (by omega) iO.out (by omega) DV (by omega) (by omega) DU).mono ?_);rintro e w2 ⟨⟨r2,rfl,hr0,hr1,hr2⟩,hB⟩;have HB2:=hide (HB.out.trans (hB.mono HB.out.size));have hcell:=(hB.cell (p:=⟨w.heap.size,3,none⟩) hz).trans hc;have hz2:=aH hz hB.size;have kD:=hide hr2;have hnb:n+r2≤2199023255552:=(by have h1:=Hn.out.1;have h2:=kY.out.1;have h3:=kY.out.2;omega);clear hB hr2)
     go_roundw
     case rel=>exact⟨q+1,n+r2,by omega,by go_num,rfl,by omega,hnb,hide (by have h1:=Hn.out;have h2:=kY.out.1;have h3:=kY.out.2;have h4:=kD.out;have h5:=h1.2 hnm;rw[h2];omega),HB2,hz2,hcell⟩
     case measure=>simp[intOf];omega
    ·go_wp2_with fail
     go_ret;exact⟨⟨n,rfl,hn0,by have h1:=Hn.out.1;omega,fun h=>absurd h (by omega)⟩,HB.out⟩
   ·have hqe:q=ks.len:=by omega
    have fK:Hid (n≤((1+t.size / 8+ks.size:Nat):Int)∧(n≤m→((1+t.size / 8+ks.size:Nat):Int)≤n)):=hide (by have h1:=Hn.out;rw[hqe,Ik]at h1;exact h1);clear hqe
    go_wp2_with fail
    go_ret;exact⟨⟨n,rfl,hn0,fK.out.1,fK.out.2⟩,HB.out⟩
theorem YP{S:Nat→Prop}{x:Eh}{e:Ed}{w:World}{m:Int}(he:dD S w x e)(hm1:-2199023255552≤m)(hm2:m≤2199023255552)(hU:1+e.path.length+(e.frm.size+e.to.size) / 8+e.old.size+e.new.size≤2199023255552):
  Calls Tryz.prog 101 #[.agg #[.int .u8 e.kind,.slice x.pA e.path.length x.pc,.int .i64 e.at_,.int .i64 e.far,.string e.frm,.string e.to,.slice x.oA e.old.len x.oc,.slice x.nA e.new.len x.nc],.int .i64 m] w fun e1 w'=>rM (1+e.path.length+(e.frm.size+e.to.size) / 8+e.old.size+e.new.size) m e1∧Below w.heap.size w w':=by
 have Ho:=hide he.old;have Hn:=hide he.new;have hoc:=he.oc;have hnc:=he.nc;have hpc:=he.pc;have HU:=hide hU;have hp1:e.path.length≤2199023255552:=by omega
 have hf1:e.frm.size+e.to.size≤17592186044424:=by omega
 clear he hU;go_enter Tryz.func101,Tryz.ntmps101
 go_wp2_with fail
 go_loopw [5,6] (fun v i wr=>∃(q:Nat) (n:Int),q≤e.old.len∧i = .int .i64 q∧v = .int .i64 n∧0≤n∧n≤2199023255552∧Hid (n≤((1+e.path.length+(e.frm.size+e.to.size) / 8+(e.old.take q).size:Nat):Int)∧(n≤m→((1+e.path.length+(e.frm.size+e.to.size) / 8+(e.old.take q).size:Nat):Int)≤n))∧Hid (Below w.heap.size w wr)∧w.heap.size<wr.heap.size∧(∀o,wr.cell? ⟨w.heap.size,o,none⟩=(w.alloc (.cells #[.int .u8 e.kind,.slice x.pA e.path.length x.pc,.int .i64 e.at_,.int .i64 e.far,.string e.frm,.string e.to,.slice x.oA e.old.len x.oc,.slice x.nA e.new.len x.nc] 41)).cell? ⟨w.heap.size,o,none⟩)) (fun _ i _=>e.old.len-(intOf i).toNat)
 case atStart=>exact⟨0,1+(e.path.length:Int)+((e.frm.size:Int)+e.to.size) / 8,Nat.zero_le _,rfl,rfl,by omega,by have:=HU.out;omega,hide (by rw[KD];omega),hide (az _ _),by simp,fun o=>rfl⟩
 case round =>
  obtain⟨q,n,hq,rfl,rfl,hn0,hn1,mG,HB,hz,hc⟩:=hrel;have hle:=zG e.old q;by_cases hlt:q<e.old.len
  ·by_cases hnm:n≤m
   ·skip
    obtain⟨b,o,KA,c',k',t',n',ks',r,hA,hd,c0,c1,c2,c3,e1,e2,e3,e4,e5,dR,hcn⟩:=(Ho.out.below HB.out).at_ hlt;have iO:=hide dR;have hts:=Ij hd;have hle2:=zG e.old (q+1);have kY:=hide (And.intro hts hle2);have DU:1+t'.size / 8+ks'.size≤2199023255552:=by have:=HU.out;omega
    have DV:t'.size≤9223372036854775807:=e2;clear hd e3 dR hts hle2
    go_wp2_with(go_at_call 166;(with_reducible refine(OE _ _ k' t' n' KA c' ks' (m-n) _ (Nat.lt_succ_self _) iO.out (by omega) DV (by omega) (by omega) DU).mono ?_);rintro e3 w2 ⟨⟨r2,rfl,hr0,hr1,hr2⟩,hB⟩;have HB3:=hide (HB.out.trans (hB.mono HB.out.size));have hcell :∀o,w2.cell? ⟨w.heap.size,o,none⟩=(w.alloc (.cells #[.int .u8 e.kind,.slice x.pA e.path.length x.pc,.int .i64 e.at_,.int .i64 e.far,.string e.frm,.string e.to,.slice x.oA e.old.len x.oc,.slice x.nA e.new.len x.nc] 41)).cell? ⟨w.heap.size,o,none⟩:=(fun o=>(hB.cell (p:=⟨w.heap.size,o,none⟩) hz).trans (hc o));have hz3:=aH hz hB.size;have kD:=hide hr2;have hnb:n+r2≤2199023255552:=(by have h1:=mG.out.1;have h2:=kY.out.1;have h3:=kY.out.2;have h4:=HU.out;omega);clear hB hr2)
    go_roundw
    case rel=>exact⟨_,.int .i64 ((q:Int)+1),_,_,_,_,_,_,_,_,_,_,_,_,_,_,_,_,_,_,_,_,_,_,_,⟨q+1,n+r2,by omega,by go_num,rfl,by omega,hnb,hide (by have h1:=mG.out;have h2:=kY.out.1;have h3:=kY.out.2;have h4:=kD.out;have h5:=h1.2 hnm;rw[h2];omega),HB3,hz3,hcell⟩,(by rw[hA])⟩
    case measure=>simp[intOf];omega
   ·have fK:Hid (n≤((1+e.path.length+(e.frm.size+e.to.size) / 8+e.old.size:Nat):Int)∧(n≤m→((1+e.path.length+(e.frm.size+e.to.size) / 8+e.old.size:Nat):Int)≤n)):=hide ⟨by have h1:=mG.out.1;omega,fun h=>absurd h (by omega)⟩
    go_wp2_with fail
    clear hlt hle
    go_loopw [5,7] (fun v i wr=>∃(q:Nat) (n:Int),q≤e.new.len∧i = .int .i64 q∧v = .int .i64 n∧0≤n∧n≤2199023255552∧Hid (n≤((1+e.path.length+(e.frm.size+e.to.size) / 8+e.old.size+(e.new.take q).size:Nat):Int)∧(n≤m→((1+e.path.length+(e.frm.size+e.to.size) / 8+e.old.size+(e.new.take q).size:Nat):Int)≤n))∧Hid (Below w.heap.size w wr)∧w.heap.size<wr.heap.size∧(∀o,wr.cell? ⟨w.heap.size,o,none⟩=(w.alloc (.cells #[.int .u8 e.kind,.slice x.pA e.path.length x.pc,.int .i64 e.at_,.int .i64 e.far,.string e.frm,.string e.to,.slice x.oA e.old.len x.oc,.slice x.nA e.new.len x.nc] 41)).cell? ⟨w.heap.size,o,none⟩)) (fun _ i _=>e.new.len-(intOf i).toNat)
    case atStart=>exact⟨0,n,Nat.zero_le _,rfl,rfl,hn0,hn1,hide (by rw[KD];exact fK.out),HB,hz,hc⟩
    case round =>
     clear HB hz hc mG hn0 hn1 fK;obtain⟨q,n,hq,rfl,rfl,hn0,hn1,mG,HB,hz,hc⟩:=hrel;have hle:=zG e.new q;by_cases hlt:q<e.new.len
     ·by_cases hnm:n≤m
      ·skip
       obtain⟨b,o,KA,c',k',t',n',ks',r,hA,hd,c0,c1,c2,c3,e1,e2,e3,e4,e5,dR,hcn⟩:=(Hn.out.below HB.out).at_ hlt;have iO:=hide dR;have hts:=Ij hd;have hle2:=zG e.new (q+1);have kY:=hide (And.intro hts hle2);have DU:1+t'.size / 8+ks'.size≤2199023255552:=by have:=HU.out;omega
       have DV:t'.size≤9223372036854775807:=e2;clear hd e3 dR hts hle2
       go_wp2_with(go_at_call 166;(with_reducible refine(OE _ _ k' t' n' KA c' ks' (m-n) _ (Nat.lt_succ_self _) iO.out (by omega) DV (by omega) (by omega) DU).mono ?_);rintro e3 w2 ⟨⟨r2,rfl,hr0,hr1,hr2⟩,hB⟩;have HB3:=hide (HB.out.trans (hB.mono HB.out.size));have hcell :∀o,w2.cell? ⟨w.heap.size,o,none⟩=(w.alloc (.cells #[.int .u8 e.kind,.slice x.pA e.path.length x.pc,.int .i64 e.at_,.int .i64 e.far,.string e.frm,.string e.to,.slice x.oA e.old.len x.oc,.slice x.nA e.new.len x.nc] 41)).cell? ⟨w.heap.size,o,none⟩:=(fun o=>(hB.cell (p:=⟨w.heap.size,o,none⟩) hz).trans (hc o));have hz3:=aH hz hB.size;have kD:=hide hr2;have hnb:n+r2≤2199023255552:=(by have h1:=mG.out.1;have h2:=kY.out.1;have h3:=kY.out.2;have h4:=HU.out;omega);clear hB hr2)
       go_roundw
       case rel=>exact⟨_,.int .i64 ((q:Int)+1),_,_,_,_,_,_,_,_,_,_,_,_,_,_,_,_,_,_,_,_,_,_,_,⟨q+1,n+r2,by omega,by go_num,rfl,by omega,hnb,hide (by have h1:=mG.out;have h2:=kY.out.1;have h3:=kY.out.2;have h4:=kD.out;have h5:=h1.2 hnm;rw[h2];omega),HB3,hz3,hcell⟩,(by rw[hA])⟩
       case measure=>simp[intOf];omega
      ·have fK:Hid (n≤((1+e.path.length+(e.frm.size+e.to.size) / 8+e.old.size+e.new.size:Nat):Int)∧(n≤m→((1+e.path.length+(e.frm.size+e.to.size) / 8+e.old.size+e.new.size:Nat):Int)≤n)):=hide ⟨by have h1:=mG.out.1;omega,fun h=>absurd h (by omega)⟩
       go_wp2_with fail
       go_ret;exact⟨⟨n,rfl,hn0,fK.out.1,fK.out.2⟩,HB.out⟩
     ·have hqe:q=e.new.len:=by omega
      have fK:Hid (n≤((1+e.path.length+(e.frm.size+e.to.size) / 8+e.old.size+e.new.size:Nat):Int)∧(n≤m→((1+e.path.length+(e.frm.size+e.to.size) / 8+e.old.size+e.new.size:Nat):Int)≤n)):=hide (by have h1:=mG.out;rw[hqe,Ik]at h1;exact h1);clear hqe
      go_wp2_with fail
      go_ret;exact⟨⟨n,rfl,hn0,fK.out.1,fK.out.2⟩,HB.out⟩
  ·have hqe:q=e.old.len:=by omega
   have fK:Hid (n≤((1+e.path.length+(e.frm.size+e.to.size) / 8+e.old.size:Nat):Int)∧(n≤m→((1+e.path.length+(e.frm.size+e.to.size) / 8+e.old.size:Nat):Int)≤n)):=hide (by have h1:=mG.out;rw[hqe,Ik]at h1;exact h1);clear hqe
   go_wp2_with fail
   clear hlt hle
   go_loopw [5,7] (fun v i wr=>∃(q:Nat) (n:Int),q≤e.new.len∧i = .int .i64 q∧v = .int .i64 n∧0≤n∧n≤2199023255552∧Hid (n≤((1+e.path.length+(e.frm.size+e.to.size) / 8+e.old.size+(e.new.take q).size:Nat):Int)∧(n≤m→((1+e.path.length+(e.frm.size+e.to.size) / 8+e.old.size+(e.new.take q).size:Nat):Int)≤n))∧Hid (Below w.heap.size w wr)∧w.heap.size<wr.heap.size∧(∀o,wr.cell? ⟨w.heap.size,o,none⟩=(w.alloc (.cells #[.int .u8 e.kind,.slice x.pA e.path.length x.pc,.int .i64 e.at_,.int .i64 e.far,.string e.frm,.string e.to,.slice x.oA e.old.len x.oc,.slice x.nA e.new.len x.nc] 41)).cell? ⟨w.heap.size,o,none⟩)) (fun _ i _=>e.new.len-(intOf i).toNat)
   case atStart=>exact⟨0,n,Nat.zero_le _,rfl,rfl,hn0,hn1,hide (by rw[KD];exact fK.out),HB,hz,hc⟩
   case round =>
    clear HB hz hc mG hn0 hn1 fK;obtain⟨q,n,hq,rfl,rfl,hn0,hn1,mG,HB,hz,hc⟩:=hrel;have hle:=zG e.new q;by_cases hlt:q<e.new.len
    ·by_cases hnm:n≤m
     ·skip
      obtain⟨b,o,KA,c',k',t',n',ks',r,hA,hd,c0,c1,c2,c3,e1,e2,e3,e4,e5,dR,hcn⟩:=(Hn.out.below HB.out).at_ hlt;have iO:=hide dR;have hts:=Ij hd;have hle2:=zG e.new (q+1);have kY:=hide (And.intro hts hle2);have DU:1+t'.size / 8+ks'.size≤2199023255552:=by have:=HU.out;omega
      have DV:t'.size≤9223372036854775807:=e2;clear hd e3 dR hts hle2
      go_wp2_with(go_at_call 166;(with_reducible refine(OE _ _ k' t' n' KA c' ks' (m-n) _ (Nat.lt_succ_self _) iO.out (by omega) DV (by omega) (by omega) DU).mono ?_);rintro e3 w2 ⟨⟨r2,rfl,hr0,hr1,hr2⟩,hB⟩;have HB3:=hide (HB.out.trans (hB.mono HB.out.size));have hcell :∀o,w2.cell? ⟨w.heap.size,o,none⟩=(w.alloc (.cells #[.int .u8 e.kind,.slice x.pA e.path.length x.pc,.int .i64 e.at_,.int .i64 e.far,.string e.frm,.string e.to,.slice x.oA e.old.len x.oc,.slice x.nA e.new.len x.nc] 41)).cell? ⟨w.heap.size,o,none⟩:=(fun o=>(hB.cell (p:=⟨w.heap.size,o,none⟩) hz).trans (hc o));have hz3:=aH hz hB.size;have kD:=hide hr2;have hnb:n+r2≤2199023255552:=(by have h1:=mG.out.1;have h2:=kY.out.1;have h3:=kY.out.2;have h4:=HU.out;omega);clear hB hr2)
      go_roundw
      case rel=>exact⟨_,.int .i64 ((q:Int)+1),_,_,_,_,_,_,_,_,_,_,_,_,_,_,_,_,_,_,_,_,_,_,_,⟨q+1,n+r2,by omega,by go_num,rfl,by omega,hnb,hide (by have h1:=mG.out;have h2:=kY.out.1;have h3:=kY.out.2;have h4:=kD.out;have h5:=h1.2 hnm;rw[h2];omega),HB3,hz3,hcell⟩,(by rw[hA])⟩
      case measure=>simp[intOf];omega
     ·have fK:Hid (n≤((1+e.path.length+(e.frm.size+e.to.size) / 8+e.old.size+e.new.size:Nat):Int)∧(n≤m→((1+e.path.length+(e.frm.size+e.to.size) / 8+e.old.size+e.new.size:Nat):Int)≤n)):=hide ⟨by have h1:=mG.out.1;omega,fun h=>absurd h (by omega)⟩
      go_wp2_with fail
      go_ret;exact⟨⟨n,rfl,hn0,fK.out.1,fK.out.2⟩,HB.out⟩
    ·have hqe:q=e.new.len:=by omega
     have fK:Hid (n≤((1+e.path.length+(e.frm.size+e.to.size) / 8+e.old.size+e.new.size:Nat):Int)∧(n≤m→((1+e.path.length+(e.frm.size+e.to.size) / 8+e.old.size+e.new.size:Nat):Int)≤n)):=hide (by have h1:=mG.out;rw[hqe,Ik]at h1;exact h1);clear hqe
     go_wp2_with fail
     go_ret;exact⟨⟨n,rfl,hn0,fK.out.1,fK.out.2⟩,HB.out⟩
end
end Go.Proofs.YtjjaojnglnpgaaaGreatDoor
