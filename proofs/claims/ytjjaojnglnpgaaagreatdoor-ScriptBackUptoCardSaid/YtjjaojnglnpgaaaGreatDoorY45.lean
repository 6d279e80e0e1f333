/- Part 46 of what scriptBack_cardUpto rests on. -/
import Derived.IntWalk
import Derived.Test.YtjjaojnglnpgaaaGreatDoorY42
import Derived.Test.YtjjaojnglnpgaaaGreatDoorY02
import Derived.Test.YtjjaojnglnpgaaaGreatDoorY00
set_option linter.unusedVariables false
set_option linter.unusedSimpArgs false
set_option maxHeartbeats 16000000
set_option maxRecDepth 1000000
namespace Go.Proofs.YtjjaojnglnpgaaaGreatDoor
section
open Go.RowKit
def bF(l:List dh):Nat:=(l.map fun it=>gZ it.c).sum
theorem Y9{l:List dh}{q:Nat}(h:q<l.length):bF (l.take (q+1))=bF (l.take q)+gZ l[q].c:=by
 unfold bF;rw[List.take_succ_eq_append_getElem h,List.map_append,List.sum_append];simp
theorem O4 :∀(l:List dh) (q:Nat),bF (l.take q)≤bF l
 | [],q=>by simp
 | x::r,0=>by simp[bF]
 | x::r,q+1=>by
  have:=O4 r q;simp only[bF,List.take_succ_cons,List.map_cons,List.sum_cons]at this⊢;omega
theorem Za{S:Nat→Prop}{A:Option Addr}{k:Nat}{l:List dh}{w:World}{m:Int}(h:iP S w A l)(hk:l.length≤k∧k≤9223372036854775807)(hm1:-1099511627776≤m)(hm2:m≤549755813888)(hU:bF l≤549755813888):
  Calls Tryz.prog 13 #[.slice A l.length k,.int .i64 m] w fun e w'=>rM (bF l) m e∧Below w.heap.size w w':=by
 have H:=hide h;have hlen:=h.len;clear h;go_enter Tryz.func13,Tryz.ntmps13
 go_wp2_with fail
 go_loopg [5,6] l.length (fun g v i wr=>∃(q:Nat) (n:Int),q≤l.length∧g=l.length-q∧i = .int .i64 q∧v = .int .i64 n∧0≤n∧n≤549755813888∧Hid (n≤(bF (l.take q):Int)∧(n≤m→(bF (l.take q):Int)≤n))∧Hid (Below w.heap.size w wr))
 case atStart=>exact⟨0,0,Nat.zero_le _,by omega,rfl,rfl,by omega,by omega,hide (by simp[bF]),hide (Below.refl _ _)⟩
 case round =>
  obtain⟨q,n,hq,hg,rfl,rfl,hn0,hn1,Hn,HB⟩:=hrel;by_cases hlt:q<l.length
  ·by_cases hnm:n≤m
   ·obtain⟨b,o,hA,hr,hc⟩:=H.out.at_ q _ (List.getElem?_eq_getElem hlt);subst hA;have hst:bF (l.take (q+1))=bF (l.take q)+gZ l[q].c:=Y9 hlt;have hle2:=O4 l (q+1);generalize l[q]=it at hr hc hst;have hcw:gZ it.c≤549755813888:=by omega
    have hpw:lF it.c.patch≤549755813888:=by unfold gZ at hcw;omega
    have hsz:it.c.repo.size+it.c.frm.size+it.c.name.size+it.c.file.size+it.c.bytes.length≤4398046511111:=by unfold gZ at hcw;omega
    have xW:=hide (And.intro hst hle2);clear hst hle2 hcw;have v1:IntKind.i64.wrap (n+1)=n+1:=IntWalk.i64_in _ (by omega);have v2:IntKind.i64.wrap ((it.c.repo.size:Int)+it.c.frm.size)=(it.c.repo.size:Int)+it.c.frm.size:=IntWalk.i64_in _ (by omega);have v3:IntKind.i64.wrap ((it.c.repo.size:Int)+it.c.frm.size+it.c.name.size)=(it.c.repo.size:Int)+it.c.frm.size+it.c.name.size:=IntWalk.i64_in _ (by omega);have v4:IntKind.i64.wrap ((it.c.repo.size:Int)+it.c.frm.size+it.c.name.size+it.c.file.size)=(it.c.repo.size:Int)+it.c.frm.size+it.c.name.size+it.c.file.size:=IntWalk.i64_in _ (by omega);have v5:IntKind.i64.wrap ((it.c.repo.size:Int)+it.c.frm.size+it.c.name.size+it.c.file.size+it.c.bytes.length)=(it.c.repo.size:Int)+it.c.frm.size+it.c.name.size+it.c.file.size+it.c.bytes.length:=IntWalk.i64_in _ (by omega);have v6:IntKind.i64.wrap (((it.c.repo.size:Int)+it.c.frm.size+it.c.name.size+it.c.file.size+it.c.bytes.length).tdiv 8)=((it.c.repo.size:Int)+it.c.frm.size+it.c.name.size+it.c.file.size+it.c.bytes.length) / 8:=by rw[Int.tdiv_eq_ediv_of_nonneg (by omega)];exact IntWalk.i64_in _ (by omega)
    have v8:IntKind.i64.wrap (n+1+((it.c.repo.size:Int)+it.c.frm.size+it.c.name.size+it.c.file.size+it.c.bytes.length) / 8)=n+1+((it.c.repo.size:Int)+it.c.frm.size+it.c.name.size+it.c.file.size+it.c.bytes.length) / 8:=IntWalk.i64_in _ (by omega);have v7:IntKind.i64.wrap (m-n)=m-n:=IntWalk.i64_in _ (by omega);have hb0:b<w.heap.size:=block_lt_of_cell (hr 0 _ rfl);have hr2:wr.rangeAt b (o+q*20) it.cells:=fun j v hv=>(HB.out.cell (p:=⟨b,o+q*20+j,none⟩) hb0).trans (hr j v hv);have HR:=hide hr2;have HC:=hide (hc.below HB.out);clear hr hr2 hc
    go_upto_region 5 with fail
    refine wp_region_lit ?_;refine sk ?_;refine sk ?_;refine sk (v:= .pointer (some ⟨b,o+q*20,none⟩)) ?_;refine sl ?_ HR.out Tryz.underlying46 mg;refine sw ?_;refine st (cells:=it.cells.toArray) ?_ (pK wr).ct mg (NQ _ _ _ _);refine wpList_nil ?_;obtain⟨X,hX,hX1,hX2,UA,Zb⟩:=(pK wr).stored it.cells rfl;rw[←hX];have BG:=hide hX1;have Zc:=hide UA;clear hX hX1 hX2 UA Zb;rename_i hK;refine hK _ _ ?_;clear hK;have hS:(fun W:World=>W.cell? ⟨wr.heap.size,1,none⟩=some (.string it.c.repo)∧W.cell? ⟨wr.heap.size,2,none⟩=some (.string it.c.frm)∧W.cell? ⟨wr.heap.size,3,none⟩=some (.string it.c.name)∧W.cell? ⟨wr.heap.size,4,none⟩=some (.string it.c.file)∧W.cell? ⟨wr.heap.size,19,none⟩=some (.slice it.A it.c.bytes.length it.n)∧W.rangeAt wr.heap.size 5 (gQ it.c.patch it.x)) X.drew:=⟨BG.out 1 _ rfl,BG.out 2 _ rfl,BG.out 3 _ rfl,BG.out 4 _ rfl,BG.out 19 _ rfl,Kv BG.out⟩;refine wp_region_held_drew (S:=(fun W:World=>W.cell? ⟨wr.heap.size,1,none⟩=some (.string it.c.repo)∧W.cell? ⟨wr.heap.size,2,none⟩=some (.string it.c.frm)∧W.cell? ⟨wr.heap.size,3,none⟩=some (.string it.c.name)∧W.cell? ⟨wr.heap.size,4,none⟩=some (.string it.c.file)∧W.cell? ⟨wr.heap.size,19,none⟩=some (.slice it.A it.c.bytes.length it.n)∧W.rangeAt wr.heap.size 5 (gQ it.c.patch it.x))) (by kernel_rfl) hS (fun hSD=>?_);clear hS;have O5:=hide (Zc.out.drew);have UB:Hid (X.drew.rangeAt wr.heap.size 0 it.cells):=hide BG.out;have O6:Hid (wr.heap.size<X.drew.heap.size):=hide (block_lt_of_cell (BG.out 0 _ rfl));generalize X.drew=D at hSD O5 UB O6⊢;refine dC 0 hSD ?_;refine dC 1 hSD ?_;refine dC 2 hSD ?_;refine dC 3 hSD ?_;refine dC 4 hSD ?_;refine dC 5 hSD ?_;refine dC 6 hSD ?_;refine dC 7 hSD ?_;refine dC 8 hSD ?_;refine dC 9 hSD ?_;refine dC 10 hSD ?_;refine dC 11 hSD ?_;refine dC 12 hSD ?_;refine dC 13 hSD ?_;refine dC 14 hSD ?_;refine dC 15 hSD ?_;refine dC 16 hSD ?_;refine dC 17 hSD ?_;refine dC 18 hSD ?_;refine dC 19 hSD ?_;refine dC 20 hSD ?_;refine dC 21 hSD ?_;refine dC 22 hSD ?_;refine dC 23 hSD ?_;refine dC 24 hSD ?_ (hy:=fun W hW=>GZ rfl rfl hW.2.2.2.2.2 Tryz.underlying43 rfl kZ);refine dC 25 hSD ?_;refine dC 26 hSD ?_;refine dC 27 hSD ?_;refine G6 28 ?_;refine bc (YR (m:=m-n) (HC.out.below O5.out).patch (by omega) (by omega) (by omega)) ?_;rintro e w2 ⟨⟨r,rfl,hr0,hr1,hr2⟩,hB2⟩;refine⟨_,rfl,?_⟩;have lG:Hid (w2.rangeAt wr.heap.size 0 it.cells):=hide (fun j v hv=>(hB2.cell (p:=⟨wr.heap.size,0+j,none⟩) O6.out).trans (UB.out j v hv));have HB2:=hide (HB.out.trans ((O5.out.trans (hB2.mono (Nat.le_of_lt O6.out))).mono HB.out.size));refine⟨⟨lG.out 1 _ rfl,lG.out 2 _ rfl,lG.out 3 _ rfl,lG.out 4 _ rfl,lG.out 19 _ rfl,Kv lG.out⟩,?_⟩;clear hB2 hSD;have hW:(gZ it.c:Int)=1+((it.c.repo.size:Int)+it.c.frm.size+it.c.name.size+it.c.file.size+it.c.bytes.length) / 8+lF it.c.patch:=by unfold gZ;omega
    have hz1:n+1+((it.c.repo.size:Int)+it.c.frm.size+it.c.name.size+it.c.file.size+it.c.bytes.length) / 8+r≤((bF (l.take (q+1)):Nat):Int):=by have h1:=Hn.out.1;rw[xW.out.1];omega
    have hz2:n+1+((it.c.repo.size:Int)+it.c.frm.size+it.c.name.size+it.c.file.size+it.c.bytes.length) / 8+r≤m→((bF (l.take (q+1)):Nat):Int)≤n+1+((it.c.repo.size:Int)+it.c.frm.size+it.c.name.size+it.c.file.size+it.c.bytes.length) / 8+r:=fun h=>by have h1:=Hn.out.2 hnm;have h2:=hr2 (by omega);rw[xW.out.1];omega
    have hz3:n+1+((it.c.repo.size:Int)+it.c.frm.size+it.c.name.size+it.c.file.size+it.c.bytes.length) / 8+r≤549755813888:=by have h1:=xW.out.2;omega
    have v9:IntKind.i64.wrap (n+1+((it.c.repo.size:Int)+it.c.frm.size+it.c.name.size+it.c.file.size+it.c.bytes.length) / 8+r)=n+1+((it.c.repo.size:Int)+it.c.frm.size+it.c.name.size+it.c.file.size+it.c.bytes.length) / 8+r:=IntWalk.i64_in _ (by omega);have Hz:=hide (And.intro hz1 hz2);have hz0:0≤n+1+((it.c.repo.size:Int)+it.c.frm.size+it.c.name.size+it.c.file.size+it.c.bytes.length) / 8+r:=by omega
    have O7:=hide (And.intro hz0 hz3);clear hz1 hz2 hz3 hz0 hW hr0 hr1 hr2 v1 v2 v3 v4 v5 v6 v7 v8;refine G6 29 ?_;refine bw ?_;refine⟨⟨lG.out 1 _ rfl,lG.out 2 _ rfl,lG.out 3 _ rfl,lG.out 4 _ rfl,lG.out 19 _ rfl,Kv lG.out⟩,?_⟩;refine G6 30 ?_;refine bw ?_;refine⟨⟨lG.out 1 _ rfl,lG.out 2 _ rfl,lG.out 3 _ rfl,lG.out 4 _ rfl,lG.out 19 _ rfl,Kv lG.out⟩,?_⟩;refine wpAnyH_done (by kernel_rfl) ?_ _;generalize n+1+((it.c.repo.size:Int)+it.c.frm.size+it.c.name.size+it.c.file.size+it.c.bytes.length) / 8+r=z at Hz O7⊢;clear v9 hsz hpw
    go_wp2_with fail
    go_roundg (l.length-(q+1))
    case rel=>exact⟨q+1,z,by omega,rfl,by go_num,rfl,O7.out.1,O7.out.2,Hz,HB2⟩
    case measure=>omega
   ·go_wp2_with fail
    go_ret;exact⟨⟨n,rfl,hn0,Int.le_trans Hn.out.1 (by have:=O4 l q;omega),fun h=>absurd h (by omega)⟩,HB.out⟩
  ·have hqe:q=l.length:=by omega
   have fK:Hid (n≤(bF l:Int)∧(n≤m→(bF l:Int)≤n)):=hide (by have h1:=Hn.out;rw[hqe,List.take_length]at h1;exact h1);clear hqe
   go_wp2_with fail
   go_ret;exact⟨⟨n,rfl,hn0,fK.out.1,fK.out.2⟩,HB.out⟩
end
end Go.Proofs.YtjjaojnglnpgaaaGreatDoor
