/- Part 48 of what scriptShows_cardUpto rests on. -/
import Derived.Test.YtjjaojnglnpgaaaGreatDoorZ23
import Derived.Test.YtjjaojnglnpgaaaGreatDoorZ28
import Derived.Test.YtjjaojnglnpgaaaGreatDoorZ46
import Derived.Test.YtjjaojnglnpgaaaGreatDoorZ11
import Derived.Test.YtjjaojnglnpgaaaGreatDoorZ21
import Derived.Test.YtjjaojnglnpgaaaGreatDoorZ08
import Derived.Test.YtjjaojnglnpgaaaGreatDoorZ03
import Derived.Test.YtjjaojnglnpgaaaGreatDoorZ00
set_option linter.unusedVariables false
set_option linter.unusedSimpArgs false
set_option maxHeartbeats 16000000
set_option maxRecDepth 1000000
namespace Go.Proofs.YtjjaojnglnpgaaaGreatDoor
section
open Go.RowKit
theorem XI(x:Int):aX (IntKind.i64.wrap x):=by unfold aX;rw[IntKind.wrap_i64];omega
structure zU(S:Nat→Prop)(w:World)(A:Option Addr)(l:List kD):Prop where
 len:l.length≤9223372036854775807
 at_ :∀(q:Nat) (it:kD),l[q]?=some it→∃b o,A=some ⟨b,o,none⟩∧w.rangeAt b (o+q*20) it.cells∧dF S w it.c it.x it.A it.n
theorem zeD{S:Nat→Prop}{A:Option Addr}{k:Nat}{l:List kD}{w:World}{m:Int}(h:zU S w A l)(hk:l.length≤k∧k≤9223372036854775807)(hm:aX m):
  Calls Tryz.prog 13 #[.slice A l.length k,.int .i64 m] w fun e w'=>xA e∧Below w.heap.size w w':=by
 have H:=hide h;have Hm:=hide hm;have hlen:=h.len;clear h hm;go_enter Tryz.func13,Tryz.ntmps13
 go_wp2_with fail
 go_loopg [5,6] l.length (fun g v i wr=>∃(q:Nat) (n:Int),q≤l.length∧g=l.length-q∧i = .int .i64 q∧v = .int .i64 n∧Hid (aX n)∧Hid (Below w.heap.size w wr))
 case atStart=>exact⟨0,0,Nat.zero_le _,by omega,rfl,rfl,hide (by unfold aX;omega),hide (Below.refl _ _)⟩
 case round =>
  obtain⟨q,n,hq,hg,rfl,rfl,Hn,HB⟩:=hrel;by_cases hlt:q<l.length
  ·by_cases hnm:n≤m
   ·obtain⟨b,o,hA,hr,hc⟩:=H.out.at_ q _ (List.getElem?_eq_getElem hlt);subst hA;generalize l[q]=it at hr hc;have hb0:b<w.heap.size:=block_lt_of_cell (hr 0 _ rfl);have hr2:wr.rangeAt b (o+q*20) it.cells:=fun j v hv=>(HB.out.cell (p:=⟨b,o+q*20+j,none⟩) hb0).trans (hr j v hv);have HR:=hide hr2;have HC:=hide (hc.below HB.out);clear hr hr2 hc
    go_upto_region 5 with fail
    refine wp_region_lit ?_;refine sk ?_;refine sk ?_;refine sk (v:= .pointer (some ⟨b,o+q*20,none⟩)) ?_;refine sl ?_ HR.out Tryz.underlying46 zag;refine sw ?_;refine st (cells:=it.cells.toArray) ?_ (lG wr).ct zag (jQ _ _ _ _);refine wpList_nil ?_;obtain⟨X,hX,hX1,hX2,dQ,iH⟩:=(lG wr).stored it.cells rfl;rw[←hX];have fE:=hide hX1;have fD:=hide dQ;clear hX hX1 hX2 dQ iH;rename_i hK;refine hK _ _ ?_;clear hK;have hS:(fun W:World=>W.cell? ⟨wr.heap.size,1,none⟩=some (.string it.c.repo)∧W.cell? ⟨wr.heap.size,2,none⟩=some (.string it.c.frm)∧W.cell? ⟨wr.heap.size,3,none⟩=some (.string it.c.name)∧W.cell? ⟨wr.heap.size,4,none⟩=some (.string it.c.file)∧W.cell? ⟨wr.heap.size,19,none⟩=some (.slice it.A it.c.bytes.length it.n)∧W.rangeAt wr.heap.size 5 (bU it.c.patch it.x)) X.drew:=⟨fE.out 1 _ rfl,fE.out 2 _ rfl,fE.out 3 _ rfl,fE.out 4 _ rfl,fE.out 19 _ rfl,Gt fE.out⟩;refine wp_region_held_drew (S:=(fun W:World=>W.cell? ⟨wr.heap.size,1,none⟩=some (.string it.c.repo)∧W.cell? ⟨wr.heap.size,2,none⟩=some (.string it.c.frm)∧W.cell? ⟨wr.heap.size,3,none⟩=some (.string it.c.name)∧W.cell? ⟨wr.heap.size,4,none⟩=some (.string it.c.file)∧W.cell? ⟨wr.heap.size,19,none⟩=some (.slice it.A it.c.bytes.length it.n)∧W.rangeAt wr.heap.size 5 (bU it.c.patch it.x))) (by kernel_rfl) hS (fun hSD=>?_);clear hS;have uQ:=hide (fD.out.drew);have XJ:Hid (X.drew.rangeAt wr.heap.size 0 it.cells):=hide fE.out;have mf:Hid (wr.heap.size<X.drew.heap.size):=hide (block_lt_of_cell (fE.out 0 _ rfl));generalize X.drew=D at hSD uQ XJ mf⊢;refine aj 0 hSD ?_;refine aj 1 hSD ?_;refine aj 2 hSD ?_;refine aj 3 hSD ?_;refine aj 4 hSD ?_;refine aj 5 hSD ?_;refine aj 6 hSD ?_;refine aj 7 hSD ?_;refine aj 8 hSD ?_;refine aj 9 hSD ?_;refine aj 10 hSD ?_;refine aj 11 hSD ?_;refine aj 12 hSD ?_;refine aj 13 hSD ?_;refine aj 14 hSD ?_;refine aj 15 hSD ?_;refine aj 16 hSD ?_;refine aj 17 hSD ?_;refine aj 18 hSD ?_;refine aj 19 hSD ?_;refine aj 20 hSD ?_;refine aj 21 hSD ?_;refine aj 22 hSD ?_;refine aj 23 hSD ?_;refine aj 24 hSD ?_ (hy:=fun W hW=>yf rfl rfl hW.2.2.2.2.2 Tryz.underlying43 rfl Mc);refine aj 25 hSD ?_;refine aj 26 hSD ?_;refine aj 27 hSD ?_;refine Ei 28 ?_;refine bc (Ze (HC.out.below uQ.out).patch (XI (m-n))) ?_;rintro e w2 ⟨⟨r,rfl,hr⟩,hB2⟩;refine⟨_,rfl,?_⟩;have iG:Hid (w2.rangeAt wr.heap.size 0 it.cells):=hide (fun j v hv=>(hB2.cell (p:=⟨wr.heap.size,0+j,none⟩) mf.out).trans (XJ.out j v hv));have HB2:=hide (HB.out.trans ((uQ.out.trans (hB2.mono (Nat.le_of_lt mf.out))).mono HB.out.size));refine⟨⟨iG.out 1 _ rfl,iG.out 2 _ rfl,iG.out 3 _ rfl,iG.out 4 _ rfl,iG.out 19 _ rfl,Gt iG.out⟩,?_⟩;clear hB2 hSD;refine Ei 29 ?_;refine bw ?_;refine⟨⟨iG.out 1 _ rfl,iG.out 2 _ rfl,iG.out 3 _ rfl,iG.out 4 _ rfl,iG.out 19 _ rfl,Gt iG.out⟩,?_⟩;refine Ei 30 ?_;refine bw ?_;refine⟨⟨iG.out 1 _ rfl,iG.out 2 _ rfl,iG.out 3 _ rfl,iG.out 4 _ rfl,iG.out 19 _ rfl,Gt iG.out⟩,?_⟩;refine wpAnyH_done (by kernel_rfl) ?_ _;generalize hz:IntKind.i64.wrap (_+r)=z;have Hz:Hid (aX z):=hide (by rw[←hz];exact XI _);clear hz
    go_wp2_with fail
    go_roundg (l.length-(q+1))
    case rel=>exact⟨q+1,z,by omega,rfl,by go_num,rfl,Hz,HB2⟩
    case measure=>omega
   ·go_wp2_with fail
    go_ret;exact⟨⟨n,rfl,Hn.out⟩,HB.out⟩
  ·go_wp2_with fail
   go_ret;exact⟨⟨n,rfl,Hn.out⟩,HB.out⟩
end
end Go.Proofs.YtjjaojnglnpgaaaGreatDoor
