/- Part 6 of what scriptBack_cardUpto rests on. -/
import Derived.Deep.RegionHeld
import Derived.Lib.AppendIntMem
import Derived.Shelf.Strconv.Itoa3
import Derived.Deep.Cut
import Derived.Deep.CutRange
import Derived.Deep.CutBlock
import Derived.Deep.DeepCutAuto
import Derived.BigQuiet
import Derived.Lib.SplitLaws
import Derived.Lib.Join
import Derived.Lib.ItoaNum
import Derived.KernelRfl
import Derived.Test.YtjjaojnglnpgaaaGreatDoorY04
import Derived.Test.YtjjaojnglnpgaaaGreatDoorY01
import Derived.Test.YtjjaojnglnpgaaaGreatDoorY02
import Derived.Test.YtjjaojnglnpgaaaGreatDoorY03
import Derived.Test.YtjjaojnglnpgaaaGreatDoorY00
set_option linter.unusedVariables false
set_option linter.unusedSimpArgs false
set_option maxHeartbeats 16000000
set_option maxRecDepth 1000000
namespace Go.Proofs.YtjjaojnglnpgaaaGreatDoor
section
open Go.RowKit
structure Ah where
 nA:Option Addr
 nc:Nat
 bA:Option Addr
 bc:Nat
structure lL(S:Nat→Prop)(w:World)(x:Ah)(a:An):Prop where
 err:ay a.err
 names:bH S w x.nA a.names
 text:a.text.size≤9223372036854775807
 bytes:BytesIn S w x.bA a.bytes
 nc:a.names.length≤x.nc∧x.nc≤9223372036854775807
 bc:a.bytes.length≤x.bc∧x.bc≤9223372036854775807
theorem lL.below{S:Nat→Prop}{w w':World}{x:Ah}{a:An}(h:lL S w x a)(hB:Below w.heap.size w w'):lL S w' x a:=⟨h.err,h.names.below hB,h.text,h.bytes.below hB,h.nc,h.bc⟩
theorem Q7{w w':World}{B e k n:Nat}{v:Value}{xs:List Value}(h:w.ownsRow B e k v n xs)(hb:Below w.heap.size w w'):w'.ownsRow B e k v n xs :=
 ⟨h.1,h.2.imp id fun⟨g,cap,cur,e1,hB,hg,hr⟩=>⟨g,cap,cur,e1,hB,(hb.block g (Array.getElem?_eq_some_iff.1 hg).1).trans hg,hr⟩⟩
def eG (w : World) : Prop := 4 < w.heap.size ∧ Lib.TabIs Tryz.prog w "internal/strconv.uint64pow10" .u64 Lib.pow10Tab
theorem eG.below{w w':World}(h:eG w)(hb:Below w.heap.size w w'):eG w':=⟨aH h.1 hb.size,var?_below hb (by kernel_rfl) h.1 h.2⟩
theorem VM(w:World)(k:Nat)(os:Array Obj):Below w.heap.size w (Go.Sort.grow (w.drewN k) os):=by
 exact⟨rfl,rfl,rfl,by show w.heap.size≤(w.heap++os).size;simp,fun i hi=>Lib.heap_grow_old w k os i hi⟩
theorem JH{w:World}{B n c:Nat}{A:Option Addr}{ws:List ByteArray}(ho:w.ownsRow B 9 1 (.slice A n c) n (ws.map .string))(hn:ws.length=n)(h0:0<n)(h1:n≤140737488355328)(hl:(Lib.join (ws.map (·.data.toList)) [32]).length≤140737488355328):
  Calls Tryz.prog 47 #[.slice A n c] w fun e w'=>e = .returned (.string ⟨(Lib.join (ws.map (·.data.toList)) [32]).toArray⟩)∧Below w.heap.size w w':=by
 subst hn;obtain⟨g,rfl⟩:∃g,A=some ⟨g,0,none⟩:=by
  rcases ho.2 with⟨_,e⟩|⟨g,cap,cur,e,_⟩
  ·omega
  ·injection e with e;exact⟨g,e⟩
 have hg:=(ho.lt g rfl).2;have hc :∀(j:Nat) x,ws[j]?=some x→w.cell? ⟨g,0+j,none⟩=some (.string x):=fun j x hx=>by
  have hj:=(List.getElem?_eq_some_iff.1 hx).1;rw[Nat.zero_add,ho.cellAt j (by omega),List.getElem?_map,hx];rfl
 have hcap:ws.length≤c:=by
  rcases ho.2 with⟨e,_⟩|⟨g,cap,cur,e,_,_,h,_⟩
  ·cases e
  ·injection e with _ _ e;omega
 have HJ:=hide (Tryz.strings_Join g 0 c ws ⟨#[32]⟩ w hc hg h1 hcap hl);clear hc ho;go_enter Tryz.func47,Tryz.ntmps47
 go_wp2_with(go_at_call 23;(with_reducible refine HJ.out.mono ?_);rintro e1 w1 ⟨rfl,hB⟩;have HB:=hide hB;clear hB)
 go_ret;exact⟨rfl,HB.out⟩
theorem qo{S:Nat→Prop}{w:World}{A:Option Addr}{n c:Nat}{l:List UInt8}(hb:BytesIn S w A l)(hn:l.length=n)(hl:n≤1099511627776):
  Calls Tryz.prog 46 #[.slice A n c] w fun e w'=>e = .returned (.string ⟨(hexL l).toArray⟩)∧Below w.heap.size w w':=by
 subst hn;exact Ff hb hl
theorem VN(w:World)(s:ByteArray)(e:TypeId)(cap:Nat)(m:Nat×Nat)(h:s.size≤9223372036854775807:=by omega):BytesIn (fun _=>True) (w.alloc (.cells (bytesRow s cap) e m)).drew (some ⟨w.heap.size,0,none⟩) s.data.toList:=by
 show BytesIn (fun _=>True) (w.alloc (.cells (bytesRow s cap) e m)) (some ⟨w.heap.size,0,none⟩) s.data.toList;refine⟨.inr ⟨w.heap.size,0,rfl,trivial,fun j u hu=>?_⟩,by simpa using h⟩;have hj:j<s.data.size:=by
  have:=(List.getElem?_eq_some_iff.1 hu).1
  simpa[bytesV]using this
 rw[Nat.zero_add,World.cell?_alloc_mark,bytesRow_at s cap j hj];simp only[bytesV,List.getElem?_map,Option.map_eq_some_iff]at hu;obtain⟨a,ha,rfl⟩:=hu;rw[Array.getElem?_toList,Array.getElem?_eq_getElem hj]at ha;injection ha with ha;rw[ha]
theorem JI:(Tryz.prog.info? 9).map (fun i=>(i.zero,i.size,i.bytes))=some (some (.string ByteArray.empty),1,16):=by kernel_rfl
def yQ:ByteArray:=⟨#[111,107]⟩
def iL:ByteArray:=⟨#[110,97,109,101,115]⟩
def wText:ByteArray:=⟨#[116,101,120,116]⟩
def jk:ByteArray:=⟨#[98,121,116,101,115]⟩
def hexS(l:List UInt8):ByteArray:=⟨(hexL l).toArray⟩
def An.wsN(a:An):List ByteArray:=yQ::(if a.names=[]then[]else iL::a.names)
def An.wsT(a:An):List ByteArray:=a.wsN++(if a.text.size=0 then[]else[wText,hexS a.text.data.toList])
def An.ws(a:An):List ByteArray:=a.wsT++(if a.bytes=[]then[]else[jk,hexS a.bytes])
theorem An.ws_line(a:An)(h:a.err=0):Lib.join (a.ws.map (·.data.toList)) [32]=a.line:=by
 rw[An.line,An.parts,if_pos h];congr 1;unfold An.ws An.wsT An.wsN An.partN An.partT An.partB;by_cases h1:a.names=[]<;>by_cases h2:a.text.size=0<;>by_cases h3:a.bytes=[]<;>simp[h1,h2,h3,yQ,iL,wText,jk,hexS,yw,kQ,mV,kR]
theorem Q8(a:An):(a.names.map fun s=>s.size+1).sum≤a.bulk∧a.text.size≤a.bulk∧a.bytes.length≤a.bulk:=by unfold An.bulk;omega
theorem Q9 :∀(l:List ByteArray),((l.map (·.data.toList)).flatMap (fun y=>32::y)).length=(l.map fun s=>s.size+1).sum
 | []=>rfl
 | s::l=>by
  have:=Q9 l;have e:s.data.toList.length=s.size:=by simp
  simp only[List.map_cons,List.flatMap_cons,aJ,List.length_cons,List.sum_cons,e]at this⊢;omega
theorem An.line_len(a:An)(h:a.err=0):a.line.length≤2*a.bulk+100:=by
 rw[a.line_ok h];obtain⟨h1,h2,h3⟩:=Q8 a;have hb:a.bulk=(a.names.map fun s=>s.size+1).sum+a.text.size+a.bytes.length:=rfl;have e1:(a.partN.flatMap (fun y=>32::y)).length≤6+(a.names.map fun s=>s.size+1).sum:=by
  unfold An.partN;split
  ·simp
  ·rw[List.flatMap_cons,aJ,Q9];simp[kQ]
 have e2:(a.partT.flatMap (fun y=>32::y)).length≤10+2*a.text.size:=by
  unfold An.partT;split
  ·simp
  ·have:=LH a.text.data.toList;have e:a.text.data.toList.length=a.text.size:=by simp
   simp[mV];omega
 have e3:(a.partB.flatMap (fun y=>32::y)).length≤10+2*a.bytes.length:=by
  unfold An.partB;split
  ·simp
  ·have:=LH a.bytes;simp[kR];omega
 simp only[aJ];have:yw.length=2:=rfl;omega
theorem qp(l:List ByteArray):l.length≤(l.map fun s=>s.size+1).sum:=by
 induction l with
 | nil=>simp
 | cons s l ih=>simp only[List.length_cons,List.map_cons,List.sum_cons];omega
theorem oN{S:Nat→Prop}{w:World}{x:Ah}{a:An}(h:lL S w x a)(he:a.err=0)(hbk:a.bulk≤1099511627776):
  Calls Tryz.prog 20 #[.agg #[.int .i64 0,.slice x.nA a.names.length x.nc,.string a.text,.slice x.bA a.bytes.length x.bc]] w fun e w'=>e = .returned (.string ⟨a.line.toArray⟩)∧Below w.heap.size w w':=by
 obtain⟨k1,k2,k3⟩:=Q8 a;have hnl:=qp a.names;have hll:=a.line_len he;have hwl:a.ws.length≤a.names.length+6:=by
  unfold An.ws An.wsT An.wsN;by_cases h1:a.names=[]<;>by_cases h2:a.text.size=0<;>by_cases h3:a.bytes=[]<;>simp[h1,h2,h3]<;>omega
 have hwn:a.wsN.length≤a.names.length+2:=by
  unfold An.wsN;by_cases h1:a.names=[]<;>simp[h1]<;>omega
 have hwt:a.wsT.length≤a.names.length+4:=by
  unfold An.wsT;by_cases h2:a.text.size=0<;>simp[h2]<;>omega
 have H:=hide h;clear h;have lM:=hide (a.ws_line he);clear he;go_enter Tryz.func20,Tryz.ntmps20
 go_upto_if 16 with fail
 obtain⟨W1,hW1⟩:∃W1,W1=(w.alloc (.cells #[.int .i64 0,.slice x.nA a.names.length x.nc,.string a.text,.slice x.bA a.bytes.length x.bc] 53)).alloc (.cells #[.string yQ] 9):=⟨_,rfl⟩;have hB1:Below w.heap.size w W1:=by rw[hW1];exact fO _ _
 have hs1:W1.heap.size=w.heap.size+2:=by rw[hW1];simp
 have hx0:W1.heap[w.heap.size]?=some (.cells #[.int .i64 0,.slice x.nA a.names.length x.nc,.string a.text,.slice x.bA a.bytes.length x.bc] 53):=by rw[hW1,heap_alloc_old _ _ (by simp)];exact heap_alloc_new w _
 have oO:Hid (W1.ownsRow (w.heap.size+1) 9 1 (.slice (some ⟨w.heap.size+1,0,none⟩) 1 1) 1 [.string yQ]):=hide ⟨rfl,.inr ⟨w.heap.size+1,1,#[.string yQ],rfl,aC _,by rw[hW1];have:=heap_alloc_new (w.alloc (.cells #[.int .i64 0,.slice x.nA a.names.length x.nc,.string a.text,.slice x.bA a.bytes.length x.bc] 53)) (.cells #[.string yQ] 9);simpa using this,aC _,by decide,rfl,rfl⟩⟩;rw[show(w.alloc (.cells #[.int .i64 0,.slice x.nA a.names.length x.nc,.string a.text,.slice x.bA a.bytes.length x.bc] 53)).alloc (.cells #[.string {data:=#[111,107]}] 9)=W1 from hW1.symm];have a0 :∀W,Below (w.heap.size+1) W1 W→W.cell? ⟨w.heap.size,1,none⟩=some (.slice x.nA a.names.length x.nc):=fun W hW=>by rw[Lib.cell_of_heap ((hW.block _ (Nat.lt_succ_self _)).trans hx0)];rfl
 have a1 :∀W,Below (w.heap.size+1) W1 W→W.cell? ⟨w.heap.size,2,none⟩=some (.string a.text):=fun W hW=>by rw[Lib.cell_of_heap ((hW.block _ (Nat.lt_succ_self _)).trans hx0)];rfl
 have a2 :∀W,Below (w.heap.size+1) W1 W→W.cell? ⟨w.heap.size,3,none⟩=some (.slice x.bA a.bytes.length x.bc):=fun W hW=>by rw[Lib.cell_of_heap ((hW.block _ (Nat.lt_succ_self _)).trans hx0)];rfl
 have MM:Below (w.heap.size+1) W1 W1:=Below.refl _ _;clear hW1 hx0
 go_cut [3,16]from 16 to 22 (fun v b wx=>b = .bool (decide ((0:Int)<(a.names.length:Int)))∧wx.ownsRow (w.heap.size+1) 9 1 v a.wsN.length (a.wsN.map .string)∧Below (w.heap.size+1) W1 wx)
 case first =>
  by_cases hn:a.names=[]
  ·have hn0:a.names.length=0:=by rw[hn];rfl
   go_wp2_with fail
   go_meet
   exact⟨by simp[hn0],by have:=oO.out;simpa[An.wsN,hn]using this,Below.refl _ _⟩
  ·have hn0 :¬a.names.length=0:=fun e=>hn (List.length_eq_zero_iff.1 e);have hgt:(0:Int)<(a.names.length:Int):=by omega
   have hgt2:0<a.names.length:=by omega
   go_upto_region 5 with fail
   have hd1:Below (w.heap.size+1) W1 W1.drew:=MM.drew;have Rf:Hid (W1.drew.ownsRow (w.heap.size+1) 9 1 (.slice (some ⟨w.heap.size+1,0,none⟩) 1 1) 1 [.string yQ]):=oO;refine wp_region_held_drew (S:=Below (w.heap.size+1) W1) (by kernel_rfl) hd1 (fun hHeld=>?_);generalize W1.drew=wD at hHeld Rf⊢;have ZR:=hHeld.size;refine dC 0 hHeld ?_;refine dC 3 hHeld ?_;refine tk (v:=?_) 4 hHeld ?_ ?_;rotate_left
   ·intro w' hSw;have b0:=a0 w' hSw
    first|(go_simp;done)|(go_simp;with_reducible rfl)
   try simp only[aA,aB]
   refine wpAnyH_ready (rs:=[1]) (by kernel_rfl) (by simp) ?_;refine AllReadyH.cons rfl (fun K hK=>?_) AllReadyH.nil;go_simp
   go_wp2_with fail
   have hH2:Below (w.heap.size+1) W1 (wD.alloc (.cells #[.string iL] 9)):=hHeld.alloc (by omega) _;refine hK.out _ _ hH2 (fun _=>?_);clear hK K
   try simp only[Act.put,aG,aE,aF,aD,aA,aB]
   obtain⟨v',w5,hrun,hown,fA⟩:=Qq (P:=Tryz.prog) (T:=34) (us:=[.string iL]) (B:=some ⟨wD.heap.size,0,none⟩) (m:=1) (cB:=1) Tryz.underlying34 JI rfl (by decide) (Rf.out.alloc (.cells #[.string iL] 9)) (fun e=>by cases e) rfl (by intro u hu;simp at hu;subst hu;rfl) (fun ad e=>by injection e with e;subst e;intro j u hu;rw[Addr.add_lit,Nat.zero_add,Lib.cell_of_heap (heap_alloc_new wD _)];simpa using hu) (by simp;omega) (by decide) (by decide) 34;refine wpAnyH_ready (rs:=[2]) (by kernel_rfl) (by simp) ?_;refine AllReadyH.cons rfl (fun K hK=>?_) AllReadyH.nil;refine uk (v1:= .slice (some ⟨w.heap.size+1,0,none⟩) 1 1) (v2:= .slice (some ⟨wD.heap.size,0,none⟩) 1 1) rfl _ _ _ rfl (by rfl) (by rfl) hrun ?_;have hH3:=hH2.trans fA;refine hK.out _ _ hH3 (fun uy=>?_);clear hK K
   try simp only[Act.put,aG,aE,aF,aD,aA,aB]
   have hs5:=hH3.size;have hnm:=(H.out.below (hB1.trans (hH3.mono (Nat.le_succ _)))).names;obtain⟨v6,w6,hrun6,hown6,uz⟩:=Qq (P:=Tryz.prog) (T:=34) (us:=a.names.map .string) (B:=x.nA) (m:=a.names.length) (cB:=x.nc) Tryz.underlying34 JI rfl (by decide) hown (yH hnm.1) (by simp) (pY _ (fun _=>rfl)) (Ce hnm.1) (by omega) (by unfold maxLen;omega) (by omega) 34;refine wpAnyH_ready (rs:=[5]) (by kernel_rfl) (by simp) ?_;refine AllReadyH.cons rfl (fun K hK=>?_) AllReadyH.nil;refine uk (v1:=v') (v2:= .slice x.nA a.names.length x.nc) rfl _ _ _ rfl (by rfl) (by rfl) hrun6 ?_;have hH6:=hH3.trans uz;refine hK.out _ _ hH6 (fun uA=>?_);clear hK K
   try simp only[Act.put,aG,aE,aF,aD,aA,aB]
   refine dC 6 uA ?_;refine wpAnyH_done (by kernel_rfl) ?_ _
   try simp only[Act.put,aG,aE,aF,aD,aA,aB]
   have Cm:=hide hown6;have ng:=hide hH6;clear hrun hown fA hH2 hH3 hHeld uy uA hrun6 hown6 uz hH6
   go_wp2_with fail
   go_meet
   refine⟨by simp;omega,?_,ng.out⟩;have h:=Cm.out;have e:a.wsN=yQ::iL::a.names:=by rw[An.wsN,if_neg hn]
   rw[e];have el:(yQ::iL::a.names).length=1+1+a.names.length:=by simp;omega
   rw[el]
   simpa using h
 case rest =>
 obtain⟨MN,hO,hBc⟩:=hcut;clear MN;obtain⟨Av,cv,rfl⟩:=iw hO;have HO:=hide hO;clear hO oO
 go_upto_if 25 with fail
 go_cut [3,25]from 25 to 32 (fun v b wx=>wx.ownsRow (w.heap.size+1) 9 1 v a.wsT.length (a.wsT.map .string)∧Below (w.heap.size+1) W1 wx)
 case first =>
  by_cases ht:a.text.size=0
  ·have hte:a.text.toList.isEmpty=true:=by rw[List.isEmpty_iff];exact(lH _).2 (by omega)
   go_wp2_with fail
   ·exact absurd ‹(!a.text.toList.isEmpty)=true› (by simp[hte])
   ·go_meet
    exact⟨by have:=HO.out;simpa[An.wsT,ht]using this,hBc⟩
  ·have hte:a.text.toList.isEmpty=false:=by rw[Bool.eq_false_iff,ne_eq,List.isEmpty_iff,lH];omega
   have hcv:=fun w':World=>run_bytes_of_string (P:=Tryz.prog) w' 9 44 5 a.text Tryz.underlying9 Tryz.underlying44 Tryz.underlying5;have hsc:=hBc.size;have jM:Hid (a.text.data.toList.length=a.text.size):=hide (by simp);have VO:Hid (a.text.size≤9223372036854775807):=hide (by omega)
   go_wp2_with(first
    | (go_at_call 46;(with_reducible refine(qo (l:=a.text.data.toList) (VN wc a.text _ _ _ VO.out) jM.out (by omega)).mono ?_);rintro e1 w1 ⟨rfl,hb1⟩;have kz:Hid (Below wc.heap.size wc w1):=hide (((az wc _).drew).trans (hb1.mono (by simp)));have rZ:=hide (Q7 HO.out kz.out);have hs1:=kz.out.size;clear hb1)
    | (at_builtin;refine BQ rfl _ _ 34 rfl (w.heap.size+1) 9 Tryz.underlying34 JI rfl (by decide) _ a.wsN.length (a.wsN.map .string) rfl (rZ.out.alloc _) (some ⟨w1.heap.size,0,none⟩) 2 2 [.string wText,.string (hexS a.text.data.toList)] rfl (by simp) rfl (fun ad e=>by injection e with e;subst e;intro j u hu;rw[Addr.add_lit,Nat.zero_add,Lib.cell_of_heap (heap_alloc_new w1 _)];simpa[wText,jk,hexS]using hu) (by intro u hu;simp at hu;rcases hu with rfl|rfl<;>rfl) (by unfold maxLen;omega) (by omega) (by simp;omega) ?_))
   intro v1 w2 h1 hg1 hw1;have HB2:Hid (Below (w.heap.size+1) W1 w2):=hide (((hBc.trans (kz.out.mono (by omega))).alloc (by omega) _).grown hg1 (by simp;omega) fun k hk=>(rZ.out.lt k hk).1);have H1:=hide h1;clear h1 hg1 hw1
   go_wp2_with fail
   go_meet
   refine⟨?_,HB2.out⟩;have e:a.wsT=a.wsN++[wText,hexS a.text.data.toList]:=by rw[An.wsT,if_neg ht]
   rw[e,aJ,List.map_append];exact H1.out;exact absurd ‹(!a.text.toList.isEmpty)=false› (by simp[hte])
 case rest =>
 clear HO hBc;obtain⟨hO,hBc⟩:=hcut;obtain⟨Av,cv,rfl⟩:=iw hO;have HO:=hide hO;clear hO
 go_upto_if 36 with fail
 go_cut [3,36]from 36 to 42 (fun v b wx=>wx.ownsRow (w.heap.size+1) 9 1 v a.ws.length (a.ws.map .string)∧Below (w.heap.size+1) W1 wx)
 case first =>
  by_cases hb:a.bytes=[]
  ·have hb0:a.bytes.length=0:=by rw[hb];rfl
   go_wp2_with fail
   go_meet
   exact⟨by have:=HO.out;simpa[An.ws,hb]using this,hBc⟩
  ·have hb0:0<a.bytes.length:=List.length_pos_iff.2 hb;have hsc:=hBc.size;have hby:=(H.out.below (hB1.trans (hBc.mono (Nat.le_succ _)))).bytes;have VP:=hide hby;clear hby
   go_wp2_with(first
    | (go_at_call 46;(with_reducible refine(Ff VP.out (by omega)).mono ?_);rintro e1 w1 ⟨rfl,hb1⟩;have rZ:=hide (Q7 HO.out hb1);have hs1:=hb1.size;have kz:=hide hb1;clear hb1)
    | (at_builtin;refine BQ rfl _ _ 34 rfl (w.heap.size+1) 9 Tryz.underlying34 JI rfl (by decide) _ a.wsT.length (a.wsT.map .string) rfl (rZ.out.alloc _) (some ⟨w1.heap.size,0,none⟩) 2 2 [.string jk,.string (hexS a.bytes)] rfl (by simp) rfl (fun ad e=>by injection e with e;subst e;intro j u hu;rw[Addr.add_lit,Nat.zero_add,Lib.cell_of_heap (heap_alloc_new w1 _)];simpa[wText,jk,hexS]using hu) (by intro u hu;simp at hu;rcases hu with rfl|rfl<;>rfl) (by unfold maxLen;omega) (by omega) (by simp;omega) ?_))
   intro v1 w2 h1 hg1 hw1;have HB2:Hid (Below (w.heap.size+1) W1 w2):=hide (((hBc.trans (kz.out.mono (by omega))).alloc (by omega) _).grown hg1 (by simp;omega) fun k hk=>(rZ.out.lt k hk).1);have H1:=hide h1;clear h1 hg1 hw1
   go_wp2_with fail
   go_meet
   refine⟨?_,HB2.out⟩;have e:a.ws=a.wsT++[jk,hexS a.bytes]:=by rw[An.ws,if_neg hb]
   rw[e,aJ,List.map_append];exact H1.out
 case rest =>
 clear HO hBc;obtain⟨hO,hBc⟩:=hcut;obtain⟨Av,cv,rfl⟩:=iw hO;have HO:=hide hO;clear hO;have hwT:0<a.ws.length:=by unfold An.ws An.wsT An.wsN;simp
 go_wp2_with(go_at_call 47;(with_reducible refine(JH HO.out rfl hwT (by omega) (by rw[lM.out];omega)).mono ?_);rintro e1 w1 ⟨rfl,hb1⟩;have VQ:=hide hb1;clear hb1)
 go_ret;exact⟨by rw[lM.out];rfl,(hB1.trans (hBc.mono (Nat.le_succ _))).trans (VQ.out.mono (by have:=hB1.size;have:=hBc.size;omega))⟩
end
section
open Go.RowKit Go.ChangeShapes Go.WideShapes
section
variable {H : Type} {enc : TypeId × Value → H} {w : World} {spare : Nat → Bool} {held : Bool}
theorem n8 :∀n:Int,(au n).length=8:=fun n=>rfl
theorem yR(t:ByteArray):(aP t).length=8+t.size:=by
 have hs:t.data.toList.length=t.size:=rfl;simp only[aP,aJ,n8,hs]
theorem F5{m:Nat}{cs:List Value}{x:DataW H×List MemPlace}(h:DataW.trod enc Tryz.prog w 0 spare held m 36 cs=some x):
  ∃(xx:Hh) (p:Hk),cs=[.int .i64 p.at_,.slice xx.oA p.old.length xx.oc,.slice xx.nA p.new.length xx.nc]∧gW (fun _=>True) w xx p∧8+(bC p.old).length+(bC p.new).length≤40*Rows.uptoBulk x.1:=by
 obtain⟨xs,n,rfl,rfl,hl,hlen,hf⟩:=DataW.trod_struct Tryz.underlying36 h;rw[ug]at hl;obtain⟨c0,c1,c2,rfl⟩:=AB hl;obtain⟨y0,y1,y2,rfl⟩:=AB hlen;have f0:DataW.trod enc Tryz.prog w 0 spare held n 3 (List.take (Tryz.prog.cellsOf 3) (List.drop 0 [c0,c1,c2]))=some y0:=hf 0 _ rfl;rw[oq]at f0;have f0:DataW.trod enc Tryz.prog w 0 spare held n 3 [c0]=some y0:=f0;have f1:DataW.trod enc Tryz.prog w 0 spare held n 34 (List.take (Tryz.prog.cellsOf 34) (List.drop 1 [c0,c1,c2]))=some y1:=hf 1 _ rfl;rw[uf]at f1;have f1:DataW.trod enc Tryz.prog w 0 spare held n 34 [c1]=some y1:=f1;have f2:DataW.trod enc Tryz.prog w 0 spare held n 34 (List.take (Tryz.prog.cellsOf 34) (List.drop 2 [c0,c1,c2]))=some y2:=hf 2 _ rfl;rw[uf]at f2;have f2:DataW.trod enc Tryz.prog w 0 spare held n 34 [c2]=some y2:=f2;obtain⟨k,e0,hx0,w0⟩:=DataW.trod_int oz f0;obtain⟨A1,l1,k1,e1,g1,g2,g3,g4⟩:=oh ui fG iD f1;obtain⟨A2,l2,k2,e2,i1,i2,i3,i4⟩:=oh ui fG iD f2;injection e0 with e0;injection e1 with e1;injection e2 with e2;subst e0 e1 e2 hx0;refine⟨⟨A1,k1,A2,k2⟩,⟨k,l1,l2⟩,rfl,⟨FK w0,g1,i1,⟨g2,g3⟩,⟨i2,i3⟩⟩,?_⟩;simp only[List.map_cons,List.map_nil,Rows.uptoBulk,Rows.uptoBulkAll]at g4 i4⊢;omega
theorem F6{m:Nat}{cs:List Value}{x:DataW H×List MemPlace}(h:DataW.trod enc Tryz.prog w 0 spare held m 41 cs=some x):
  ∃(xx:Eh) (p:Ed),cs=[.int .u8 p.kind,.slice xx.pA p.path.length xx.pc,.int .i64 p.at_,.int .i64 p.far,.string p.frm,.string p.to,.slice xx.oA p.old.len xx.oc,.slice xx.nA p.new.len xx.nc]∧dD (fun _=>True) w xx p∧
   (gV p).length≤40*Rows.uptoBulk x.1∧p.frm.size+p.to.size≤Rows.uptoBulk x.1:=by
 obtain⟨xs,n,rfl,rfl,hl,hlen,hf⟩:=DataW.trod_struct Tryz.underlying41 h;rw[uh]at hl;obtain⟨c0,c1,c2,c3,c4,c5,c6,c7,rfl⟩:=AL hl;obtain⟨y0,y1,y2,y3,y4,y5,y6,y7,rfl⟩:=AL hlen;have f0:DataW.trod enc Tryz.prog w 0 spare held n 37 (List.take (Tryz.prog.cellsOf 37) (List.drop 0 [c0,c1,c2,c3,c4,c5,c6,c7]))=some y0:=hf 0 _ rfl;rw[Md]at f0;have f0:DataW.trod enc Tryz.prog w 0 spare held n 37 [c0]=some y0:=f0;have f1:DataW.trod enc Tryz.prog w 0 spare held n 38 (List.take (Tryz.prog.cellsOf 38) (List.drop 1 [c0,c1,c2,c3,c4,c5,c6,c7]))=some y1:=hf 1 _ rfl;rw[Cb]at f1;have f1:DataW.trod enc Tryz.prog w 0 spare held n 38 [c1]=some y1:=f1;have f2:DataW.trod enc Tryz.prog w 0 spare held n 3 (List.take (Tryz.prog.cellsOf 3) (List.drop 2 [c0,c1,c2,c3,c4,c5,c6,c7]))=some y2:=hf 2 _ rfl;rw[oq]at f2;have f2:DataW.trod enc Tryz.prog w 0 spare held n 3 [c2]=some y2:=f2;have f3:DataW.trod enc Tryz.prog w 0 spare held n 3 (List.take (Tryz.prog.cellsOf 3) (List.drop 3 [c0,c1,c2,c3,c4,c5,c6,c7]))=some y3:=hf 3 _ rfl;rw[oq]at f3;have f3:DataW.trod enc Tryz.prog w 0 spare held n 3 [c3]=some y3:=f3;have f4:DataW.trod enc Tryz.prog w 0 spare held n 9 (List.take (Tryz.prog.cellsOf 9) (List.drop 4 [c0,c1,c2,c3,c4,c5,c6,c7]))=some y4:=hf 4 _ rfl;rw[iD]at f4;have f4:DataW.trod enc Tryz.prog w 0 spare held n 9 [c4]=some y4:=f4;have f5:DataW.trod enc Tryz.prog w 0 spare held n 9 (List.take (Tryz.prog.cellsOf 9) (List.drop 5 [c0,c1,c2,c3,c4,c5,c6,c7]))=some y5:=hf 5 _ rfl;rw[iD]at f5;have f5:DataW.trod enc Tryz.prog w 0 spare held n 9 [c5]=some y5:=f5;have f6:DataW.trod enc Tryz.prog w 0 spare held n 39 (List.take (Tryz.prog.cellsOf 39) (List.drop 6 [c0,c1,c2,c3,c4,c5,c6,c7]))=some y6:=hf 6 _ rfl;rw[Mc]at f6;have f6:DataW.trod enc Tryz.prog w 0 spare held n 39 [c6]=some y6:=f6;have f7:DataW.trod enc Tryz.prog w 0 spare held n 39 (List.take (Tryz.prog.cellsOf 39) (List.drop 7 [c0,c1,c2,c3,c4,c5,c6,c7]))=some y7:=hf 7 _ rfl;rw[Mc]at f7;have f7:DataW.trod enc Tryz.prog w 0 spare held n 39 [c7]=some y7:=f7;obtain⟨k,e0,hx0,w0⟩:=DataW.trod_int MC f0;obtain⟨A1,l1,k1,e1,g1,g2,g3,g4⟩:=yD Cc oz oq f1;obtain⟨Rh,e2,hx2,w2⟩:=DataW.trod_int oz f2;obtain⟨far,e3,hx3,w3⟩:=DataW.trod_int oz f3;obtain⟨frm,e4,hx4,w4⟩:=DataW.trod_string fG f4;obtain⟨ni,e5,hx5,w5⟩:=DataW.trod_string fG f5;obtain⟨A6,o6,k6,e6,i1,i2,i3,i4⟩:=AO _ f6;obtain⟨A7,o7,k7,e7,j1,j2,j3,j4⟩:=AO _ f7;obtain⟨k',rfl,hk⟩:=wf_u8 w0;injection e0 with e0;injection e1 with e1;injection e2 with e2;injection e3 with e3;injection e4 with e4;injection e5 with e5;injection e6 with e6;injection e7 with e7;subst e0 e1 e2 e3 e4 e5 e6 e7 hx0 hx2 hx3 hx4 hx5;have h1:=xQ (H:=H) (.lit (.int .u8 (k':Int)));have h2:=xQ (H:=H) (.lit (.int .i64 Rh));have h3:=xQ (H:=H) (.lit (.int .i64 far));refine⟨⟨A1,k1,A6,k6,A7,k7⟩,⟨k',l1,Rh,far,frm,ni,o6,o7⟩,rfl,⟨hk,g1,FK w2,FK w3,jT w4,jT w5,i1,j1,⟨g2,g3⟩,⟨i2,i3⟩,⟨j2,j3⟩⟩,?_,?_⟩
 ·simp only[gV,List.length_cons,aJ,n8,yR];simp only[List.map_cons,List.map_nil,Rows.uptoBulk,Rows.uptoBulkAll,BX]at g4 i4 j4 h1 h2 h3⊢;omega
 ·simp only[List.map_cons,List.map_nil,Rows.uptoBulk,Rows.uptoBulkAll,BX];omega
end
end
section
open Go.RowKit
theorem CB(s:ByteArray)(w:World):Calls Tryz.prog 42 #[.string s] w fun e w'=>e = .returned (.bool (isWord s))∧w'=w:=by
 go_enter Tryz.func42,Tryz.ntmps42
 go_wp2_with(go_at_call 28;first
  | ((with_reducible refine(Tryz.strings_Contains_one s 32 _).mono ?_);rintro e1 w1 ⟨rfl,rfl⟩)
  | ((with_reducible refine(Tryz.strings_Contains_one s 10 _).mono ?_);rintro e1 w1 ⟨rfl,rfl⟩))
 all_goals
  go_ret;refine⟨?_,rfl⟩;refine congrArg (fun b=>Ending.returned (.bool b)) (?_:(_:Bool)=isWord s);unfold isWord
  first
   | rfl
   | grind
   | (simp_all;done)
abbrev dm:Ending:= .panicked [{v:= .iface 136 (.agg #[]),recovered:=false}]
theorem AV{b:Bool}(hb:b=true)(w:World):Calls Tryz.prog 78 #[.bool b] w fun e w'=>e = .returned (.tuple #[])∧w'=w:=by
 subst hb;go_enter Tryz.func78,Tryz.ntmps78
 go_wp2_with fail
 all_goals go_end0
 all_goals exact⟨rfl,rfl⟩
theorem AX{b:Bool}(hb:b=false)(w:World):Calls Tryz.prog 78 #[.bool b] w fun e w'=>e=dm∧w'=w:=by
 subst hb;go_enter Tryz.func78,Tryz.ntmps78
 go_wp2_with fail
 exact⟨rfl,rfl,rfl⟩
structure dU(D:Nat→Prop)(N:Nat)(w:World)(l:List ByteArray):Prop where
 at_ :∃A c,w.cell? ⟨N,0,none⟩=some (.slice A l.length c)∧Rd D w A (l.map .string)∧l.length≤c∧c≤9223372036854775807
 free:w.frozen? ⟨N,0,none⟩=false
 off :∀b,D b→b≠N
theorem Ri{D:Nat→Prop}{N:Nat}{w:World}(h:dU D N w []):
  Calls Tryz.prog 76 #[.pointer (some ⟨N,0,none⟩)] w fun e w'=>e=dm∧w'=w:=by
 obtain⟨A,c,hc,hr,h1,h2⟩:=h.at_;have hc0:w.cell? ⟨N,0,none⟩=some (.slice A 0 c):=hc;clear h hr hc;go_enter Tryz.func76,Tryz.ntmps76
 go_wp2_with(go_at_call 78;(with_reducible refine(AX rfl _).mono ?_);rintro e1 w1 ⟨rfl,rfl⟩)
 exact⟨rfl,rfl,rfl⟩
theorem yS{D:Nat→Prop}{w:World}{b o:Nat}{x:Value}{xs:List Value}(h:Rd D w (some ⟨b,o,none⟩) (x::xs)):Rd D w (some ⟨b,o+1,none⟩) xs:=by
 rcases h with h|⟨b',o',e,hS,hc⟩
 ·cases h
 ·injection e with e;injection e with e1 e2;subst e1 e2;refine .inr ⟨b,o+1,rfl,hS,fun j u hu=>?_⟩;have:=hc (j+1) u (by simpa using hu)
  rwa [show o+1+j=o+(j+1)by omega]
theorem dU.next{D:Nat→Prop}{N:Nat}{w:World}{s:ByteArray}{r:List ByteArray}{A:Option Addr}{c:Nat}(h:dU D N w (s::r))(hr:Rd D w A (r.map .string))(hc:r.length≤c∧c≤9223372036854775807):
  dU D N (w.setCell ⟨N,0,none⟩ (.slice A r.length c)) r:=by
 obtain⟨A0,c0,hc0,_⟩:=h.at_;refine⟨⟨A,c,World.cell?_setCell_same _ _ _ hc0,hr.keep (fun b hb=>Below.heap_setCell w _ _ b (h.off b hb)),hc⟩,by rw[World.frozen?_setCell];exact h.free,h.off⟩
theorem AY{D:Nat→Prop}{N:Nat}{w:World}{s:ByteArray}{r:List ByteArray}(h:dU D N w (s::r)):
    Calls Tryz.prog 76 #[.pointer (some ⟨N,0,none⟩)] w fun e w'=>e = .returned (.string s)∧dU D N w' r∧∃v,w'=w.setCell ⟨N,0,none⟩ v:=by
  obtain⟨A,c,hc,hr,h1,h2⟩:=h.at_;obtain⟨b,o,rfl,hx⟩:=hr.at_ (j:=0) (by simp);have hx0:w.cell? ⟨b,o,none⟩=some (.string s):=by simpa using hx
  have hc0:w.cell? ⟨N,0,none⟩=some (.slice (some ⟨b,o,none⟩) (r.length+1) c):=hc;have hf:=h.free;have hl:0<r.length+1:=by omega
  have ZT:(0:Int)<(r.length:Int)+1:=by omega
  have hlc:r.length+1≤c:=h1;have Hr:=hide hr;have H:=hide h;clear h hr hc hx;go_enter Tryz.func76,Tryz.ntmps76
  go_wp2_with(go_at_call 78;(with_reducible refine(AV rfl _).mono ?_);rintro e1 w1 ⟨rfl,rfl⟩)
  all_goals
    go_ret
    first
      | exact⟨rfl,H.out.next (yS Hr.out) ⟨by omega,by omega⟩,_,rfl⟩
      | (have hr0:r=[]:=List.eq_nil_of_length_eq_zero (by omega)
         subst hr0;exact⟨rfl,H.out.next (r:=[]) .nil ⟨by simp,by omega⟩,_,rfl⟩)
theorem JJ{D:Nat→Prop}{N:Nat}{w:World}(h:dU D N w []):
  Calls Tryz.prog 77 #[.pointer (some ⟨N,0,none⟩)] w fun e w'=>e=dm∧w'=w:=by
 have H:=hide h;clear h;go_enter Tryz.func77,Tryz.ntmps77
 go_wp2_with(go_at_call 76;(with_reducible refine(Ri H.out).mono ?_);rintro e1 w1 ⟨rfl,rfl⟩)
 exact⟨rfl,rfl,rfl⟩
theorem JK{D:Nat→Prop}{N:Nat}{w:World}{s:ByteArray}{r:List ByteArray}(h:dU D N w (s::r))(hs:isWord s=false):
  Calls Tryz.prog 77 #[.pointer (some ⟨N,0,none⟩)] w fun e w'=>e=dm∧∃v,w'=w.setCell ⟨N,0,none⟩ v:=by
 have H:=hide h;have Hs:=hide hs;clear h hs;go_enter Tryz.func77,Tryz.ntmps77
 go_wp2_with(first
  | (go_at_call 76;(with_reducible refine(AY H.out).mono ?_);rintro e1 w1 ⟨rfl,h1,hv⟩)
  | (go_at_call 42;(with_reducible refine(CB s _).mono ?_);rintro e2 w2 ⟨rfl,rfl⟩)
  | (go_at_call 78;(with_reducible refine(AX Hs.out _).mono ?_);rintro e3 w3 ⟨rfl,rfl⟩))
 exact⟨rfl,rfl,hv⟩
theorem qw{D:Nat→Prop}{N:Nat}{w:World}{s:ByteArray}{r:List ByteArray}(h:dU D N w (s::r))(hs:isWord s=true):
  Calls Tryz.prog 77 #[.pointer (some ⟨N,0,none⟩)] w fun e w'=>e = .returned (.string s)∧dU D N w' r∧∃v,w'=w.setCell ⟨N,0,none⟩ v:=by
 have H:=hide h;have Hs:=hide hs;clear h hs;go_enter Tryz.func77,Tryz.ntmps77
 go_wp2_with(first
  | (go_at_call 76;(with_reducible refine(AY H.out).mono ?_);rintro e1 w1 ⟨rfl,h1,hv⟩;have H1:=hide h1;have Hv:=hide hv;clear h1 hv)
  | (go_at_call 42;(with_reducible refine(CB s _).mono ?_);rintro e2 w2 ⟨rfl,rfl⟩)
  | (go_at_call 78;(with_reducible refine(AV Hs.out _).mono ?_);rintro e3 w3 ⟨rfl,rfl⟩))
 go_ret;exact⟨rfl,H1.out,Hv.out⟩
theorem dU.below{D:Nat→Prop}{N:Nat}{w w':World}{l:List ByteArray}(h:dU D N w l)(hb:Below w.heap.size w w'):dU D N w' l:=by
 obtain⟨A,c,h1,h2,h3⟩:=h.at_;have hN:=block_lt_of_cell h1;exact⟨⟨A,c,(hb.cell (p:=⟨N,0,none⟩) hN).trans h1,h2.below hb,h3⟩,(hb.frozen (p:=⟨N,0,none⟩) hN).trans h.free,h.off⟩
theorem VR{D:Nat→Prop}{N:Nat}{w:World}{s:ByteArray}{r:List ByteArray}(h:dU D N w (s::r))(hs:s=⟨#[45]⟩):
  Calls Tryz.prog 170 #[.pointer (some ⟨N,0,none⟩)] w fun e w'=>e = .returned (.slice none 0 0)∧dU D N w' r∧∃v,w'=w.setCell ⟨N,0,none⟩ v:=by
 subst hs;have H:=hide h;clear h;go_enter Tryz.func170,Tryz.ntmps170
 go_wp2_with(go_at_call 76;(with_reducible refine(AY H.out).mono ?_);rintro e1 w1 ⟨rfl,h1,hv⟩;have H1:=hide h1;have Hv:=hide hv;clear h1 hv)
 go_ret;exact⟨rfl,H1.out,Hv.out⟩
theorem oP:(Tryz.prog.info? 5).map (fun i=>(i.zero,i.size,i.bytes))=some (some (.int .u8 0),1,1):=by kernel_rfl
theorem Rj :∀x,x<16→∀y,y<16→bits BinOp.or IntKind.i64 (((x:Nat):Int)*16) ((y:Nat):Int)=((16*x+y:Nat):Int):=by decide
theorem MO :∀{b:List UInt8} {q:Nat} (h:q<b.length),(hexT b)[2*q]?=some (hexD (b[q].toNat / 16))∧(hexT b)[2*q+1]?=some (hexD (b[q].toNat % 16))
 | c::b,0,_=>by simp[hexT]
 | c::b,q+1,h=>by
  have:=MO (b:=b) (q:=q) (by simpa using h);simp only[hexT,List.flatMap_cons,List.cons_append,List.nil_append,show 2*(q+1)=2*q+1+1 by omega,List.getElem?_cons_succ,aF]at this⊢;exact this
theorem uB{s:ByteArray}{b:List UInt8}{q k:Nat}(hs:s.data.toList=hexT b)(h:q<b.length)(hk:k<s.size)(e:k=2*q):s[k]=hexD (b[q].toNat / 16):=by
 have h1:=(MO h).1;rw[←hs,←e,Array.getElem?_toList]at h1;exact(Array.getElem?_eq_some_iff.1 h1).2
theorem uC{s:ByteArray}{b:List UInt8}{q k:Nat}(hs:s.data.toList=hexT b)(h:q<b.length)(hk:k<s.size)(e:k=2*q+1):s[k]=hexD (b[q].toNat % 16):=by
 have h1:=(MO h).2;rw[←hs,←e,Array.getElem?_toList]at h1;exact(Array.getElem?_eq_some_iff.1 h1).2
theorem VS{D:Nat→Prop}{N:Nat}{w:World}{s:ByteArray}{r:List ByteArray}{b:List UInt8}(h:dU D N w (s::r))(hs:s.data.toList=hexT b)(hb:b≠[])(hl:b.length≤1099511627776):
  Calls Tryz.prog 170 #[.pointer (some ⟨N,0,none⟩)] w fun e w'=>∃v,e = .returned v∧w'.ownsRow w.heap.size 5 1 v b.length (Lib.byteCells b)∧dU D N w' r∧∃u,Below w.heap.size (w.setCell ⟨N,0,none⟩ u) w':=by
 have H:=hide h;have hsz:s.size=2*b.length:=by
  have:=congrArg List.length hs;rw[Ar]at this
  simpa using this
 have hb0:0<b.length:=List.length_pos_iff.2 hb;have hne:s.toList.isEmpty=false:=by rw[Bool.eq_false_iff,ne_eq,List.isEmpty_iff,lH];omega
 have h45:(s.toList == [45])=false:=by
  rw[aK];intro e;have e2:s=⟨#[45]⟩:=dW.1 (by rw[e];decide +kernel);rw[e2]at hsz;have:(⟨#[45]⟩:ByteArray).size=1:=rfl;omega
 have F7:((s.size:Int).tmod 2 == 0)=true:=by rw[hsz,beq_iff_eq];push_cast;rw[Int.tmod_eq_emod_of_nonneg (by omega)];omega
 clear h;go_enter Tryz.func170,Tryz.ntmps170
 go_wp2_with(first
  | (go_at_call 76;(with_reducible refine(AY H.out).mono ?_);rintro e1 w1 ⟨rfl,h1,u,hu⟩;have H1:=hide h1;have HU:=hide hu;clear h1 hu)
  | (go_at_call 78;(with_reducible refine(AV (by first|rfl|(simp;omega)|simp_all) _).mono ?_);rintro e2 w2 ⟨rfl,rfl⟩))
 have hs1:w2.heap.size=w.heap.size:=by rw[HU.out];simp
 have AZ:=hide hs1;have Rk:=hide hsz;clear hs1 hsz
 go_loopg [5,4] b.length (fun g i v wr=>∃q k:Nat,q≤b.length∧g=b.length-q∧Hid (k=2*q)∧i = .int .i64 (k:Int)∧Hid (wr.ownsRow w.heap.size 5 1 v q (Lib.byteCells (b.take q)))∧Hid (Below w2.heap.size w2 wr))
 case atStart=>exact⟨0,0,by omega,by omega,hide rfl,rfl,hide (World.ownsRow_nil _ _ _ _),hide (Below.refl _ _)⟩
 case round =>
  obtain⟨q,k,hq,hg,Hk,rfl,HO,HB⟩:=hrel;by_cases hlt:q<b.length
  ·have hk1:k+1<s.size:=by have:=Hk.out;have:=Rk.out;omega
   have hk0:k<s.size:=by omega
   have hki:(k:Int)<(s.size:Int):=by omega
   have hk9:(k:Int)+1≤9223372036854775807:=by have:=Hk.out;omega
   have VT:k+1≤9223372036854775807:=by omega
   obtain⟨m,hm⟩:∃m,m=k+1:=⟨_,rfl⟩;have hwk:IntKind.i64.wrap ((k:Int)+1)=(m:Int):=by rw[IntKind.wrap_i64];omega
   have MP:(m:Int)<(s.size:Int):=by omega
   have F8:m<s.size:=by omega
   have Hm:=hide hm;clear hm;have HX :∀(c:UInt8) (W:World),Calls Tryz.prog 213 #[.string ⟨#[48,49,50,51,52,53,54,55,56,57,97,98,99,100,101,102]⟩,.int .u8 (c.toNat:Int)] W fun e w'=>e = .returned (.int .i64 (if cO c<16 then(cO c:Int)else -1))∧w'=W:=fun c W=>by
    have h:=Tryz.strings_IndexByte signs (c.toNat:Int) W;rw[show((c.toNat:Int).toNat.toUInt8)=c by simp,Qv]at h;exact h
   go_wp2_with fail
   go_quiet ((go_at_call 213;(with_reducible refine(HX _ _).mono ?_);rintro e2 w2 ⟨rfl,rfl⟩;exact⟨rfl,_,rfl⟩))
   have hx4:=(b[q]).toNat_lt;have hdk:cO s[k]=b[q].toNat / 16:=by
    rw[uB hs hlt hk0 Hk.out];exact Ju _ (by omega)
   have hdm:cO s[m]=b[q].toNat % 16:=by
    rw[uC hs hlt F8 (by rw[Hm.out,Hk.out])];exact Ju _ (by omega)
   rw[hdk,hdm,if_pos (by omega),if_pos (by omega)];clear hdk hdm HX;obtain⟨X,hX⟩:∃X,X=b[q].toNat / 16:=⟨_,rfl⟩;obtain⟨Y,hY⟩:∃Y,Y=b[q].toNat % 16:=⟨_,rfl⟩;rw[←hX,←hY];have qx:X<16:=by omega
   have qy:Y<16:=by omega
   have hX0:(0:Int)≤(X:Int):=by omega
   have hY0:(0:Int)≤(Y:Int):=by omega
   obtain⟨z,hz⟩:∃z,z=b[q].toNat:=⟨_,rfl⟩;have hor:bits BinOp.or IntKind.i64 ((X:Int)*16) (Y:Int)=(z:Int):=by
    rw[Rj X qx Y qy];omega
   have F9:(z:Int) % 256=(z:Int):=by omega
   have Hz:=hide hz;clear hX hY hx4 hz;have hbl:(Lib.byteCells (b.take q)).length=q*1:=by simp[Lib.byteCells];omega
   have oO:Hid ((wr.drewN nq).ownsRow w.heap.size 5 1 u4 q (Lib.byteCells (b.take q))):=HO;have HB1:Hid (Below w2.heap.size w2 (wr.drewN nq)):=hide (bW HB.out _);generalize wr.drewN nq=wq at oO HB1⊢;obtain⟨Av,cv,rfl⟩:=iw oO.out
   go_wp2_with(first
    | (go_at_call 78;(with_reducible refine(AV rfl _).mono ?_);rintro e3 w3 ⟨rfl,rfl⟩)
    | (at_builtin;refine BQ rfl _ _ 44 rfl w.heap.size 5 Tryz.underlying44 oP rfl (by decide) _ q (Lib.byteCells (b.take q)) rfl (oO.out.alloc _) (some ⟨w3.heap.size,0,none⟩) 1 1 [.int .u8 (z:Int)] rfl (by simp) rfl (fun ad e=>by injection e with e;subst e;intro j u hu;rw[Addr.add_lit,Nat.zero_add,Lib.cell_of_heap (heap_alloc_new w3 _)];simpa using hu) (by intro u hu;simp at hu;subst hu;rfl) (by unfold maxLen;omega) (by omega) (by have:=HB1.out.size;have:=AZ.out;simp;omega) ?_))
   intro v1 w4 h4 hg4 hw4;have HB4:Hid (Below w2.heap.size w2 w4):=hide ((HB1.out.alloc HB1.out.size _).grown hg4 (by have:=HB1.out.size;simp;omega) fun j hj=>by have:=(oO.out.lt j hj).1;have:=AZ.out;omega);have H4:=hide h4;clear h4 hg4 hw4
   go_wp2_with fail
   go_roundg (b.length-(q+1))
   case measure=>omega
   case rel =>
    refine⟨q+1,k+2,by omega,rfl,hide (by have:=Hk.out;omega),by rw[show wrap64 ((k:Int)+2)=(k:Int)+2 by have:=Hk.out;unfold wrap64;omega];simp,hide ?_,HB4⟩;have h:=H4.out;rw[List.take_succ_eq_append_getElem hlt];have e1:Lib.byteCells (b.take q++[b[q]])=Lib.byteCells (b.take q)++[.int .u8 (z:Int)]:=by rw[Hz.out];unfold Lib.byteCells;rw[List.map_append];rfl
    rw[e1];exact h
  ·have hki :¬(k:Int)<(s.size:Int):=by have:=Hk.out;have:=Rk.out;omega
   have VU :¬k<s.size:=by omega
   have Qs:q=b.length:=by omega
   subst Qs
   go_wp2_with fail
   go_ret;exact⟨_,rfl,by have:=HO.out;rwa [List.take_length]at this,H1.out.below HB.out,u,by rw[←HU.out,←AZ.out];exact HB.out⟩
theorem uD{n:Nat}(h:n % 2=0):((n:Int).tmod 2 == 0)=true:=by rw[beq_iff_eq,Int.tmod_eq_emod_of_nonneg (by omega)];omega
theorem yT{n:Nat}(h :¬n % 2=0):((n:Int).tmod 2 == 0)=false:=by rw[aK,ne_eq,Int.tmod_eq_emod_of_nonneg (by omega)];omega
theorem VV{s:ByteArray}{k:Nat}(h:unhexT (s.data.toList.drop k)=none)(h0:k<s.size)(h1:k+1<s.size):¬(cO s[k]<16∧cO (s[k+1])<16)∨unhexT (s.data.toList.drop (k+2))=none:=by
 have e0:s.data.toList.drop k=s[k]::s[k+1]::s.data.toList.drop (k+2):=by
  have l0:k<s.data.toList.length:=by simpa using h0
  have l1:k+1<s.data.toList.length:=by simpa using h1
  rw[List.drop_eq_getElem_cons l0,List.drop_eq_getElem_cons l1];rfl
 rw[e0,unhexT]at h;split at h
 ·exact .inr (by simpa using h)
 ·rename_i hd;exact .inl hd
theorem VW{D:Nat→Prop}{N:Nat}{w:World}{s:ByteArray}{r:List ByteArray}(h:dU D N w (s::r))(hs:s.size=0):
  Calls Tryz.prog 170 #[.pointer (some ⟨N,0,none⟩)] w fun e w'=>e=dm∧∃u,w'=w.setCell ⟨N,0,none⟩ u:=by
 have hse:s=⟨#[]⟩:=by
  apply ByteArray.ext;exact Array.eq_empty_of_size_eq_zero hs
 subst hse;have H:=hide h;clear h hs;go_enter Tryz.func170,Tryz.ntmps170
 go_wp2_with(first
  | (go_at_call 76;(with_reducible refine(AY H.out).mono ?_);rintro e1 w1 ⟨rfl,h1,u,hu⟩;have HU:=hide hu;clear h1 hu)
  | (go_at_call 78;(with_reducible refine(AX rfl _).mono ?_);rintro e2 w2 ⟨rfl,rfl⟩))
 exact⟨rfl,rfl,_,HU.out⟩
theorem VX{D:Nat→Prop}{N:Nat}{w:World}{s:ByteArray}{r:List ByteArray}(h:dU D N w (s::r))(h45:(s.toList == [45])=false)(h0:0<s.size)(hs :¬s.size % 2=0):
  Calls Tryz.prog 170 #[.pointer (some ⟨N,0,none⟩)] w fun e w'=>e=dm∧∃u,w'=w.setCell ⟨N,0,none⟩ u:=by
 have hne:s.toList.isEmpty=false:=by rw[Bool.eq_false_iff,ne_eq,List.isEmpty_iff,lH];omega
 have F7:=yT hs;have Hs:=hide hs;have H:=hide h;clear h hs;go_enter Tryz.func170,Tryz.ntmps170
 go_wp2_with(first
  | (go_at_call 76;(with_reducible refine(AY H.out).mono ?_);rintro e1 w1 ⟨rfl,h1,u,hu⟩;have HU:=hide hu;clear h1 hu)
  | (go_at_call 78;(with_reducible refine(AX (by have:=Hs.out;first|rfl|(simp;omega)|simp_all) _).mono ?_);rintro e2 w2 ⟨rfl,rfl⟩))
 exact⟨rfl,rfl,_,HU.out⟩
theorem qA{D:Nat→Prop}{N:Nat}{w:World}{s:ByteArray}{r:List ByteArray}(h:dU D N w (s::r))(h45:(s.toList == [45])=false)(hs0:0<s.size)(hev:s.size % 2=0)(hun:unhexT s.data.toList=none)(hl:s.size≤1099511627776):
  Calls Tryz.prog 170 #[.pointer (some ⟨N,0,none⟩)] w fun e w'=>e=dm∧∃u,Below w.heap.size (w.setCell ⟨N,0,none⟩ u) w':=by
 have H:=hide h;have hne:s.toList.isEmpty=false:=by rw[Bool.eq_false_iff,ne_eq,List.isEmpty_iff,lH];omega
 have F7:=uD hev;have MQ:=hide hev;have VY:=hide hun;clear h hev hun;go_enter Tryz.func170,Tryz.ntmps170
 go_wp2_with(first
  | (go_at_call 76;(with_reducible refine(AY H.out).mono ?_);rintro e1 w1 ⟨rfl,h1,u,hu⟩;have H1:=hide h1;have HU:=hide hu;clear h1 hu)
  | (go_at_call 78;(with_reducible refine(AV (by have:=MQ.out;first|rfl|(simp;omega)|simp_all) _).mono ?_);rintro e2 w2 ⟨rfl,rfl⟩))
 have hs1:w2.heap.size=w.heap.size:=by rw[HU.out];simp
 have AZ:=hide hs1;clear hs1
 go_loopg [5,4] s.size (fun g i v wr=>∃q k:Nat,k≤s.size∧g=s.size-k∧Hid (k=2*q)∧i = .int .i64 (k:Int)∧Hid (∃l:List UInt8,l.length=q∧wr.ownsRow w.heap.size 5 1 v q (Lib.byteCells l))∧Hid (unhexT (s.data.toList.drop k)=none)∧Hid (Below w2.heap.size w2 wr))
 case atStart=>exact⟨0,0,by omega,by omega,hide rfl,rfl,hide ⟨[],rfl,World.ownsRow_nil _ _ _ _⟩,hide VY.out,hide (Below.refl _ _)⟩
 case round =>
  obtain⟨q,k,hq,hg,Hk,rfl,HO,HN,HB⟩:=hrel;by_cases hlt:k<s.size
  ·have hk1:k+1<s.size:=by have:=Hk.out;have:=MQ.out;omega
   have hst:=VV HN.out hlt hk1;obtain⟨m,hm⟩:∃m,m=k+1:=⟨_,rfl⟩;have hki:(k:Int)<(s.size:Int):=by omega
   have hwk:IntKind.i64.wrap ((k:Int)+1)=(m:Int):=by rw[IntKind.wrap_i64];omega
   have MP:(m:Int)<(s.size:Int):=by omega
   have F8:m<s.size:=by omega
   have hst2 :¬(cO s[k]<16∧cO s[m]<16)∨unhexT (s.data.toList.drop (k+2))=none:=by subst hm;exact hst
   have xW:=hide hst2;clear hm hst hst2 hk1;have HX :∀(c:UInt8) (W:World),Calls Tryz.prog 213 #[.string ⟨#[48,49,50,51,52,53,54,55,56,57,97,98,99,100,101,102]⟩,.int .u8 (c.toNat:Int)] W fun e w'=>e = .returned (.int .i64 (if cO c<16 then(cO c:Int)else -1))∧w'=W:=fun c W=>by
    have h:=Tryz.strings_IndexByte signs (c.toNat:Int) W;rw[show((c.toNat:Int).toNat.toUInt8)=c by simp,Qv]at h;exact h
   go_wp2_with fail
   go_quiet ((go_at_call 213;(with_reducible refine(HX _ _).mono ?_);rintro e2 w2 ⟨rfl,rfl⟩;exact⟨rfl,_,rfl⟩))
   clear HX;have oO:Hid (∃l:List UInt8,l.length=q∧(wr.drewN nq).ownsRow w.heap.size 5 1 u4 q (Lib.byteCells l)):=HO;have HB1:Hid (Below w2.heap.size w2 (wr.drewN nq)):=hide (bW HB.out _);generalize wr.drewN nq=wq at oO HB1⊢;obtain⟨l,hll,MR⟩:=oO.out;obtain⟨Av,cv,rfl⟩:=iw MR;have rZ:=hide MR;clear oO MR;generalize hX:cO s[k]=X at xW⊢;generalize hY:cO s[m]=Y at xW⊢;clear hX hY;by_cases qx:X<16
   ·by_cases qy:Y<16
    ·have hnx:unhexT (s.data.toList.drop (k+2))=none:=(xW.out).resolve_left (fun h=>h ⟨qx,qy⟩);have VZ:=hide hnx;rw[if_pos qx,if_pos qy];have hX0:(0:Int)≤(X:Int):=by omega
     have hY0:(0:Int)≤(Y:Int):=by omega
     obtain⟨z,hz⟩:∃z,z=16*X+Y:=⟨_,rfl⟩;have hor:bits BinOp.or IntKind.i64 ((X:Int)*16) (Y:Int)=(z:Int):=by
      rw[Rj X qx Y qy,hz]
     have F9:(z:Int) % 256=(z:Int):=by omega
     have hzu:(z:Int)=((UInt8.ofNat z).toNat:Int):=by rw[UInt8.toNat_ofNat'];omega
     have V3:=hide hzu;clear hz hzu hnx;have hbl:(Lib.byteCells l).length=q*1:=by simp[Lib.byteCells];omega
     have hq2:q≤1099511627776:=by have:=Hk.out;omega
     go_wp2_with(first
      | (go_at_call 78;(with_reducible refine(AV rfl _).mono ?_);rintro e3 w3 ⟨rfl,rfl⟩)
      | (at_builtin;refine BQ rfl _ _ 44 rfl w.heap.size 5 Tryz.underlying44 oP rfl (by decide) _ q (Lib.byteCells l) rfl (rZ.out.alloc _) (some ⟨w3.heap.size,0,none⟩) 1 1 [.int .u8 (z:Int)] rfl (by simp) rfl (fun ad e=>by injection e with e;subst e;intro j u hu;rw[Addr.add_lit,Nat.zero_add,Lib.cell_of_heap (heap_alloc_new w3 _)];simpa using hu) (by intro u hu;simp at hu;subst hu;rfl) (by unfold maxLen;omega) (by omega) (by have:=HB1.out.size;have:=AZ.out;simp;omega) ?_))
     intro v1 w4 h4 hg4 hw4;have HB4:Hid (Below w2.heap.size w2 w4):=hide ((HB1.out.alloc HB1.out.size _).grown hg4 (by have:=HB1.out.size;simp;omega) fun j hj=>by have:=(rZ.out.lt j hj).1;have:=AZ.out;omega);have H4:=hide h4;clear h4 hg4 hw4
     go_wp2_with fail
     go_roundg (s.size-(k+2))
     case measure=>omega
     case rel =>
      refine⟨q+1,k+2,by have:=Hk.out;have:=MQ.out;omega,rfl,hide (by have:=Hk.out;omega),by simp,hide ⟨l++[UInt8.ofNat z],by simp;omega,?_⟩,VZ,HB4⟩;have h:=H4.out;have e1:Lib.byteCells (l++[UInt8.ofNat z])=Lib.byteCells l++[.int .u8 (z:Int)]:=by rw[V3.out];unfold Lib.byteCells;rw[List.map_append];rfl
      rw[e1];exact h
    ·rw[if_neg qy]
     go_wp2_with(go_at_call 78;(with_reducible refine(AX (by simp) _).mono ?_);rintro e3 w3 ⟨rfl,rfl⟩)
     exact⟨rfl,rfl,u,by rw[←HU.out,←AZ.out];exact HB1.out⟩
   ·rw[if_neg qx]
    go_wp2_with(go_at_call 78;(with_reducible refine(AX (by simp) _).mono ?_);rintro e3 w3 ⟨rfl,rfl⟩)
    all_goals exact⟨rfl,rfl,u,by rw[←HU.out,←AZ.out];exact HB1.out⟩
  ·have hks:k=s.size:=by omega
   have hx:=HN.out;rw[hks,List.drop_eq_nil_of_le (by simp)]at hx;cases hx
end
section
open Go.RowKit
structure bu(D:Nat→Prop)(N:Nat)(w:World)(l:List ByteArray)(vs:List Value):Prop where
 wd:dU D N w l
 len:vs.length=20
 cells :∀j u,vs[j]?=some u→w.cell? ⟨N,1+j,none⟩=some u
 free :∀o,w.frozen? ⟨N,o,none⟩=false
section
variable {D : Nat → Prop} {N : Nat} {w w' : World} {l r : List ByteArray} {vs : List Value}
theorem bu.lt(h:bu D N w l vs):N<w.heap.size:=by
 obtain⟨A,c,h1,_⟩:=h.wd.at_;exact block_lt_of_cell h1
theorem bu.below(h:bu D N w l vs)(hb:Below w.heap.size w w'):bu D N w' l vs :=
 ⟨h.wd.below hb,h.len,fun j u hj=>(hb.cell (p:=⟨N,1+j,none⟩) h.lt).trans (h.cells j u hj),fun o=>(hb.frozen (p:=⟨N,o,none⟩) h.lt).trans (h.free o)⟩
theorem bu.take(h:bu D N w l vs){v:Value}(hw:w'=w.setCell ⟨N,0,none⟩ v)(hr:dU D N w' r):bu D N w' r vs:=by
 subst hw;refine⟨hr,h.len,fun j u hj=>?_,fun o=>by rw[World.frozen?_setCell];exact h.free o⟩;rw[World.cell?_setCell_other]
 ·exact h.cells j u hj
 ·simp
theorem bu.put(h:bu D N w l vs){j:Nat}(hj:j<20)(v:Value):bu D N (w.setCell ⟨N,1+j,none⟩ v) l (vs.set j v):=by
 have hjl:j<vs.length:=by rw[h.len];exact hj
 obtain⟨A,c,h1,h2,h3⟩:=h.wd.at_;refine⟨⟨⟨A,c,?_,h2.keep (fun b hb=>Below.heap_setCell w _ _ b (h.wd.off b hb)),h3⟩,by rw[World.frozen?_setCell];exact h.wd.free,h.wd.off⟩,by simpa using h.len,fun i u hi=>?_,fun o=>by rw[World.frozen?_setCell];exact h.free o⟩
 ·rw[World.cell?_setCell_other]
  ·exact h1
  ·simp
 ·by_cases e:i=j
  ·subst e;rw[List.getElem?_set_self hjl]at hi;injection hi with hi;subst hi;exact World.cell?_setCell_same _ _ _ (h.cells i _ (List.getElem?_eq_getElem hjl))
  ·rw[List.getElem?_set_ne (by omega)]at hi;rw[World.cell?_setCell_other]
   ·exact h.cells i u hi
   ·simp
    try omega
theorem bu.cellAt(h:bu D N w l vs)(k:Nat)(hk:1≤k∧k≤20):∃u,w.cell? ⟨N,k,none⟩=some u:=by
 have hj:k-1<vs.length:=by rw[h.len];omega
 have:=h.cells (k-1) _ (List.getElem?_eq_getElem hj);rw[show 1+(k-1)=k by omega]at this;exact⟨_,this⟩
end
abbrev aW(N:Nat)(w w':World):Prop:=Keep (fun k=>k<w.heap.size∧k≠N) w w'
theorem qB(N:Nat)(w:World):Calls Tryz.prog 105 #[.pointer (some ⟨N,0,none⟩)] w fun e w'=>e = .returned (.tuple #[])∧w'=w:=by
 go_enter Tryz.func105,Tryz.ntmps105
 go_wp2_with fail
 all_goals go_end0
 all_goals exact⟨rfl,rfl⟩
theorem V4{D:Nat→Prop}{N:Nat}{w:World}{s:ByteArray}{r:List ByteArray}{vs:List Value}(h:bu D N w (s::r) vs)(hs:isWord s=true):
  Calls Tryz.prog 108 #[.pointer (some ⟨N,0,none⟩)] w fun e w'=>e = .returned (.tuple #[])∧bu D N w' r (vs.set 3 (.string s))∧aW N w w':=by
 have H:=hide h;clear h;go_enter Tryz.func108,Tryz.ntmps108
 go_wp2_with(go_at_call 77;(with_reducible refine(qw H.out.wd hs).mono ?_);rintro e1 w1 ⟨rfl,h1,u,hu⟩;have h2:=H.out.take hu h1;obtain⟨x,hc⟩:=h2.cellAt 4 (by decide);have hf:=h2.free 4;have H2:=hide h2;have HU:=hide hu;clear h1 h2 hu)
 all_goals go_end0
 refine⟨rfl,H2.out.put (j:=3) (by decide) _,?_⟩;rw[HU.out];exact((Keep.refl _ w).setCell (fun hk=>hk.2 rfl) _).setCell (fun hk=>hk.2 rfl) _
theorem qC{D:Nat→Prop}{N:Nat}{w:World}{s:ByteArray}{r:List ByteArray}{vs:List Value}(h:bu D N w (s::r) vs)(hs:isWord s=true):
  Calls Tryz.prog 109 #[.pointer (some ⟨N,0,none⟩)] w fun e w'=>e = .returned (.tuple #[])∧bu D N w' r (vs.set 2 (.string s))∧aW N w w':=by
 have H:=hide h;clear h;go_enter Tryz.func109,Tryz.ntmps109
 go_wp2_with(go_at_call 77;(with_reducible refine(qw H.out.wd hs).mono ?_);rintro e1 w1 ⟨rfl,h1,u,hu⟩;have h2:=H.out.take hu h1;obtain⟨x,hc⟩:=h2.cellAt 3 (by decide);have hf:=h2.free 3;have H2:=hide h2;have HU:=hide hu;clear h1 h2 hu)
 all_goals go_end0
 refine⟨rfl,H2.out.put (j:=2) (by decide) _,?_⟩;rw[HU.out];exact((Keep.refl _ w).setCell (fun hk=>hk.2 rfl) _).setCell (fun hk=>hk.2 rfl) _
theorem V5{D:Nat→Prop}{N:Nat}{w:World}{s:ByteArray}{r:List ByteArray}{vs:List Value}(h:bu D N w (s::r) vs)(hs:isWord s=true):
  Calls Tryz.prog 110 #[.pointer (some ⟨N,0,none⟩)] w fun e w'=>e = .returned (.tuple #[])∧bu D N w' r (vs.set 4 (.string s))∧aW N w w':=by
 have H:=hide h;clear h;go_enter Tryz.func110,Tryz.ntmps110
 go_wp2_with(go_at_call 77;(with_reducible refine(qw H.out.wd hs).mono ?_);rintro e1 w1 ⟨rfl,h1,u,hu⟩;have h2:=H.out.take hu h1;obtain⟨x,hc⟩:=h2.cellAt 5 (by decide);have hf:=h2.free 5;have H2:=hide h2;have HU:=hide hu;clear h1 h2 hu)
 all_goals go_end0
 refine⟨rfl,H2.out.put (j:=4) (by decide) _,?_⟩;rw[HU.out];exact((Keep.refl _ w).setCell (fun hk=>hk.2 rfl) _).setCell (fun hk=>hk.2 rfl) _
theorem Rl{D:Nat→Prop}{N:Nat}{w:World}{l:List ByteArray}{vs:List Value}(h:bu D N w l vs)(hs :∀s r,l=s::r→isWord s=false):
  Calls Tryz.prog 108 #[.pointer (some ⟨N,0,none⟩)] w fun e w'=>e=dm∧aW N w w':=by
 rcases l with _|⟨s,r⟩
 ·have H:=hide h;clear h;go_enter Tryz.func108,Tryz.ntmps108
  go_wp2_with(go_at_call 77;(with_reducible refine(JJ H.out.wd).mono ?_);rintro e1 w1 ⟨rfl,rfl⟩)
  exact⟨rfl,rfl,Keep.refl _ _⟩
 ·have H:=hide h;have Hw:=hide (hs s r rfl);clear h hs;go_enter Tryz.func108,Tryz.ntmps108
  go_wp2_with(go_at_call 77;(with_reducible refine(JK H.out.wd Hw.out).mono ?_);rintro e1 w1 ⟨rfl,u,hu⟩)
  refine⟨rfl,rfl,?_⟩
  try rw[hu]
  exact(Keep.refl _ w).setCell (fun hk=>hk.2 rfl) _
theorem Rn{D:Nat→Prop}{N:Nat}{w:World}{l:List ByteArray}{vs:List Value}(h:bu D N w l vs)(hs :∀s r,l=s::r→isWord s=false):
  Calls Tryz.prog 109 #[.pointer (some ⟨N,0,none⟩)] w fun e w'=>e=dm∧aW N w w':=by
 rcases l with _|⟨s,r⟩
 ·have H:=hide h;clear h;go_enter Tryz.func109,Tryz.ntmps109
  go_wp2_with(go_at_call 77;(with_reducible refine(JJ H.out.wd).mono ?_);rintro e1 w1 ⟨rfl,rfl⟩)
  exact⟨rfl,rfl,Keep.refl _ _⟩
 ·have H:=hide h;have Hw:=hide (hs s r rfl);clear h hs;go_enter Tryz.func109,Tryz.ntmps109
  go_wp2_with(go_at_call 77;(with_reducible refine(JK H.out.wd Hw.out).mono ?_);rintro e1 w1 ⟨rfl,u,hu⟩)
  refine⟨rfl,rfl,?_⟩
  try rw[hu]
  exact(Keep.refl _ w).setCell (fun hk=>hk.2 rfl) _
theorem Ro{D:Nat→Prop}{N:Nat}{w:World}{l:List ByteArray}{vs:List Value}(h:bu D N w l vs)(hs :∀s r,l=s::r→isWord s=false):
  Calls Tryz.prog 110 #[.pointer (some ⟨N,0,none⟩)] w fun e w'=>e=dm∧aW N w w':=by
 rcases l with _|⟨s,r⟩
 ·have H:=hide h;clear h;go_enter Tryz.func110,Tryz.ntmps110
  go_wp2_with(go_at_call 77;(with_reducible refine(JJ H.out.wd).mono ?_);rintro e1 w1 ⟨rfl,rfl⟩)
  exact⟨rfl,rfl,Keep.refl _ _⟩
 ·have H:=hide h;have Hw:=hide (hs s r rfl);clear h hs;go_enter Tryz.func110,Tryz.ntmps110
  go_wp2_with(go_at_call 77;(with_reducible refine(JK H.out.wd Hw.out).mono ?_);rintro e1 w1 ⟨rfl,u,hu⟩)
  refine⟨rfl,rfl,?_⟩
  try rw[hu]
  exact(Keep.refl _ w).setCell (fun hk=>hk.2 rfl) _
end
section
open Go.RowKit
theorem yU{s:ByteArray}(h:s.data.toList=[45]):s=⟨#[45]⟩:=by
 apply ByteArray.ext;apply Array.ext';exact h
theorem oQ{s:ByteArray}(h :¬s.data.toList=[45]):(s.toList == [45])=false:=by
 rw[aK];intro e;have e2:s=⟨#[45]⟩:=dW.1 (by rw[e];decide +kernel);exact h (by rw[e2])
theorem MS{D:Nat→Prop}{N:Nat}{w:World}{s:ByteArray}{r:List ByteArray}{b:List UInt8}(h:dU D N w (s::r))(hu:unhexL s.data.toList=some b)(hl:s.size≤1099511627776):
  Calls Tryz.prog 170 #[.pointer (some ⟨N,0,none⟩)] w fun e w'=>∃v,e = .returned v∧w'.ownsRow w.heap.size 5 1 v b.length (Lib.byteCells b)∧dU D N w' r∧∃u,Below w.heap.size (w.setCell ⟨N,0,none⟩ u) w':=by
 by_cases h45:s.data.toList=[45]
 ·have e:b=[]:=by
   rw[unhexL,if_pos h45]at hu;injection hu with hu;exact hu.symm
  subst e;refine(VR h (yU h45)).mono ?_;rintro e w' ⟨rfl,h1,u,hu⟩;exact⟨_,rfl,World.ownsRow_nil _ _ _ _,h1,u,by rw[hu];have:=Below.refl w.heap.size (w.setCell ⟨N,0,none⟩ u);simpa using this⟩
 ·have hb:b≠[]:=by
   rintro rfl;have:=Fg _ _ hu;rw[hexL,if_pos rfl]at this;exact h45 this.symm
  have ht:s.data.toList=hexT b:=by
   have:=Fg _ _ hu;rw[hexL,if_neg hb]at this;exact this.symm
  refine VS h ht hb ?_;have:=congrArg List.length ht;rw[Ar]at this;simp at this;omega
theorem Rq{D:Nat→Prop}{N:Nat}{w:World}{s:ByteArray}{r:List ByteArray}(h:dU D N w (s::r))(hu:unhexL s.data.toList=none)(hl:s.size≤1099511627776):
  Calls Tryz.prog 170 #[.pointer (some ⟨N,0,none⟩)] w fun e w'=>e=dm∧∃u,Below w.heap.size (w.setCell ⟨N,0,none⟩ u) w':=by
 have set :∀{e:Ending} {w':World},(e=dm∧∃u,w'=w.setCell ⟨N,0,none⟩ u)→e=dm∧∃u,Below w.heap.size (w.setCell ⟨N,0,none⟩ u) w':=by
  rintro e w' ⟨he,u,rfl⟩;exact⟨he,u,Below.refl _ _⟩
 have h45 :¬s.data.toList=[45]:=fun e=>by rw[unhexL,if_pos e]at hu;cases hu
 by_cases h0:s.size=0
 ·exact(VW h h0).mono fun _ _ hx=>set hx
 ·by_cases hev:s.size % 2=0
  ·have hne :¬s.data.toList=[]:=fun e=>h0 (by have:=congrArg List.length e;simpa using this);rw[unhexL,if_neg h45,if_neg hne]at hu;exact qA h (oQ h45) (by omega) hev hu hl
  ·exact(VX h (oQ h45) (by omega) hev).mono fun _ _ hx=>set hx
theorem yV{w:World}{B e k n N o:Nat}{v u:Value}{xs:List Value}(h:w.ownsRow B e k v n xs)(hN:N<B):(w.setCell ⟨N,o,none⟩ u).ownsRow B e k v n xs :=
 ⟨h.1,h.2.imp id fun⟨g,cap,cur,e1,hB,hg,hr⟩=>⟨g,cap,cur,e1,hB,(Below.heap_setCell w _ _ g (by show g≠N;omega)).trans hg,hr⟩⟩
theorem bu.taken{D:Nat→Prop}{N:Nat}{w w':World}{l r:List ByteArray}{vs:List Value}{u:Value}(h:bu D N w l vs)(hB:Below w.heap.size (w.setCell ⟨N,0,none⟩ u) w')(hr:dU D N w' r):bu D N w' r vs:=by
 have hN:=h.lt;refine⟨hr,h.len,fun j v hj=>?_,fun o=>?_⟩
 ·refine(hB.cell (p:=⟨N,1+j,none⟩) hN).trans ?_;rw[World.cell?_setCell_other]
  ·exact h.cells j v hj
  ·simp
 ·refine(hB.frozen (p:=⟨N,o,none⟩) hN).trans ?_;rw[World.frozen?_setCell];exact h.free o
theorem Gf{N:Nat}{w w':World}{u:Value}(hB:Below w.heap.size (w.setCell ⟨N,0,none⟩ u) w'):aW N w w' :=
 ((Keep.refl _ w).setCell (fun hk=>hk.2 rfl) u).trans (Keep.of_below (by simpa using hB) fun _ hk=>by simpa using hk.1)
theorem uF{D:Nat→Prop}{N:Nat}{w:World}{s:ByteArray}{r:List ByteArray}{vs:List Value}{b:List UInt8}(h:bu D N w (s::r) vs)(hu:unhexL s.data.toList=some b)(hl:s.size≤1099511627776):
  Calls Tryz.prog 111 #[.pointer (some ⟨N,0,none⟩)] w fun e w'=>e = .returned (.tuple #[])∧∃v,w'.ownsRow w.heap.size 5 1 v b.length (Lib.byteCells b)∧bu D N w' r (vs.set 19 v)∧aW N w w':=by
 have H:=hide h;have HU:=hide hu;clear h hu;go_enter Tryz.func111,Tryz.ntmps111
 go_wp2_with(go_at_call 170;(with_reducible refine(MS H.out.wd HU.out hl).mono ?_);rintro e1 w1 ⟨v,rfl,ho,h1,u,hB⟩;obtain⟨Av,cv,rfl⟩:=iw ho;have h2:=H.out.taken hB h1;obtain⟨x,hc⟩:=h2.cellAt 20 (by decide);have hf:=h2.free 20;have H2:=hide h2;have HO:=hide ho;have HB:=hide hB;clear h1 h2 ho hB)
 all_goals go_end0
 exact⟨rfl,_,yV HO.out H.out.lt,H2.out.put (j:=19) (by decide) _,(Gf HB.out).setCell (fun hk=>hk.2 rfl) _⟩
theorem yX{D:Nat→Prop}{N:Nat}{w:World}{s:ByteArray}{r:List ByteArray}{vs:List Value}(h:bu D N w (s::r) vs)(hu:unhexL s.data.toList=none)(hl:s.size≤1099511627776):
  Calls Tryz.prog 111 #[.pointer (some ⟨N,0,none⟩)] w fun e w'=>e=dm∧aW N w w':=by
 have H:=hide h;have HU:=hide hu;clear h hu;go_enter Tryz.func111,Tryz.ntmps111
 go_wp2_with(go_at_call 170;(with_reducible refine(Rq H.out.wd HU.out hl).mono ?_);rintro e1 w1 ⟨rfl,u,hB⟩;have HB:=hide hB;clear hB)
 exact⟨rfl,rfl,Gf HB.out⟩
end
section
open Go.RowKit
section
variable {P : Program} {ops : Array Oper} {Q : Exit → Act → World → Prop} {o : Oper} {rest : List Oper} {n : Nat} {L L' : List Value} {df : List Deferred} {w : World} {v : Value}
theorem sk(h:wpList P ops Q rest ⟨L'.toArray,df⟩ w)(hd:o.dst=some n:=by rfl)
  (hy:(execOp (Act.mk L.toArray df).eval o).run P w = .ok (.value v) w:=by first|(go_simp;done)|(go_simp;with_reducible rfl))
  (hL:L.set n v=L':=by(try simp only[aA,aB]);rfl)
  (hw:Region.wanted o (yielded ops L.toArray)=true:=by rfl):wpList P ops Q (o::rest) ⟨L.toArray,df⟩ w:=by
 unfold wpList;rw[if_pos hw];refine .inl ?_;unfold Oper.wp;rw[hy];have e:(Act.mk L.toArray df).put o.dst v=⟨L'.toArray,df⟩:=by rw[hd,←hL];simp[Act.put]
 show wpList P ops Q rest ((Act.mk L.toArray df).put o.dst v) w;rw[e];exact h
theorem sg{b:Bool}(h:wpList P ops Q rest ⟨L'.toArray,df⟩ w)(hd:o.dst=some n:=by rfl)
  (hw:Region.wanted o (yielded ops L.toArray)=b)
  (hy:b=true→(execOp (Act.mk L.toArray df).eval o).run P w = .ok (.value v) w:=by intro hb;first|(go_simp;done)|(go_simp;with_reducible rfl))
  (hL:L.set n (if b then v else undef)=L':=by(try simp only[aA,aB]);rfl):wpList P ops Q (o::rest) ⟨L.toArray,df⟩ w:=by
 cases b with
 | true=>exact sk h hd (hy rfl) hL hw
 | false =>
  unfold wpList;rw[hw,if_neg (by simp)];have e:(Act.mk L.toArray df).put o.dst undef=⟨L'.toArray,df⟩:=by rw[hd,←hL];simp[Act.put]
  rw[e];exact h
theorem sp{a b:Nat}{g X:Bool}{ty:TypeId}{ps:String}{af:Array Edge}(h:wpList P ops Q rest ⟨L'.toArray,df⟩ w)
  (hx:L[a]?=some (.bool g):=by rfl) (hy:L[b]?=some (if g then .bool X else undef):=by simp only[List.getElem?_cons_succ,List.getElem?_cons_zero];with_reducible rfl)
  (hL:L.set n (.bool (g && X))=L':=by(try simp only[aA,aB]);rfl):
  wpList P ops Q ({dst:=some n,op:= .pick (.tmp a) (.tmp b) (.const (.bool false)),type:=ty,pos:=ps,after:=af,guard:=none}::rest) ⟨L.toArray,df⟩ w:=by
 refine sk (v:= .bool (g && X)) h rfl ?_ hL rfl;have e1:(Act.mk L.toArray df).eval (.tmp a) = .bool g:=by show L.toArray.getD a undef=_;simp[hx]
 have e2:(Act.mk L.toArray df).eval (.tmp b)=if g then .bool X else undef:=by show L.toArray.getD b undef=_;simp[hy]
 have e3:(Act.mk L.toArray df).eval (.const (.bool false)) = .bool false:=rfl;generalize (Act.mk L.toArray df).eval=ev at e1 e2 e3⊢;cases g<;>simp[execOp,e1,e2,e3,asBool,go_sem]
theorem ss{w':World}(h:wpList P ops Q rest ⟨L.toArray,df⟩ w')(hy:(execOp (Act.mk L.toArray df).eval o).run P w = .ok .skip w':=by first|(go_simp;done)|(go_simp;with_reducible rfl))(hd:o.dst=none:=by rfl)
  (hw:Region.wanted o (yielded ops L.toArray)=true:=by rfl):wpList P ops Q (o::rest) ⟨L.toArray,df⟩ w:=by
 unfold wpList;rw[if_pos hw];refine .inl ?_;unfold Oper.wp;rw[hy];show wpList P ops Q rest ((Act.mk L.toArray df).put o.dst undef) w';rw[hd];exact h
end
end
open Classical in
noncomputable def kK(c:bJ):ByteArray:=if aQ c then ah c else{data:=#[63]}
theorem MV{c:bJ}(h:aQ c):kK c=ah c:=if_pos h
theorem Ba{c:bJ}(h :¬aQ c):kK c={data:=#[63]}:=if_neg h
structure iM(c:bJ):Prop where
 rows:c.patch.hunk.old.length+c.patch.hunk.new.length≤4611686018427387904
 parts:c.patch.edit.path.length+c.patch.edit.old.len+c.patch.edit.new.len≤4611686018427387904
 names:c.patch.edit.frm.size+c.patch.edit.to.size≤9223372036854775807
 put:(dX c.patch).length≤lid
 bytes:c.bytes.length≤1099511627776
open Classical in
noncomputable def zB(p:Pt):Bool:=decide (p=Pt.zero)
open Classical in
theorem uG{p:Pt}:zB p=true↔p=Pt.zero:=by unfold zB;exact decide_eq_true_iff
open Classical in
noncomputable def okB(p:Pt):Bool:=decide (bV p)
open Classical in
theorem MW{p:Pt}:okB p=true↔bV p:=by unfold okB;exact decide_eq_true_iff
def q0(is wd bp z bb ln:Bool):Bool:=is && wd && (bp || z) && (bb || ln)
theorem Rt(p:Pt):(cZ p).length≤(dX p).length:=by unfold cZ;split<;>simp
theorem V6{c:bJ}:aQ c↔(1≤c.kind∧c.kind≤9)∧isWord c.repo=true∧(if c.kind=2 then bV c.patch else c.patch=Pt.zero)∧(c.kind≠9→c.bytes=[])∧(if c.kind=3∨c.kind=5 then isWord c.frm=true else c.frm=ae)∧
  (if c.kind=2∨c.kind=3∨c.kind=4 then isWord c.name=true else c.name=ae)∧(if c.kind=6 then isWord c.file=true else c.file=ae):=
 ⟨fun⟨h1,h2,h3,h4,h5,h6,h7⟩=>⟨h1,h2,h3,h4,h5,h6,h7⟩,fun⟨h1,h2,h3,h4,h5,h6,h7⟩=>⟨h1,h2,h3,h4,h5,h6,h7⟩⟩
structure kT(k:Nat)(is bf bn bi bp bb:Bool):Prop where
 is:is=decide (1≤k∧k≤9)
 bf:bf=decide ((k:Int)∈[3,5])
 bn:bn=decide ((k:Int)∈[2,3,4])
 bi:bi=decide ((k:Int)∈[6])
 bp:bp=decide ((k:Int)∈[2])
 bb:bb=decide ((k:Int)∈[9])
theorem uH{k:Nat}{is bf bn bi bp bb:Bool}(h:kT k is bf bn bi bp bb)(hp:bp=true):bb=false:=by
 have h1:=h.bp;rw[hp]at h1;have h2:(k:Int)=2:=by simpa using h1.symm
 rw[h.bb,h2];decide
theorem CE{c:bJ}{is bf bn bi bp bb:Bool}(he:kT c.kind is bf bn bi bp bb){ps1 ps2 iY su:List ByteArray}(e1:ps1=if bf then[kwOf c.kind,c.repo]++[c.frm]else[kwOf c.kind,c.repo])(e2:ps2=if bn then ps1++[c.name]else ps1)(e3:iY=if bi then ps2++[c.file]else ps2)
  (eF:su=if bp then iY++[bG (cZ c.patch)]else if bb then iY++[bG c.bytes]else iY):su=aj c:=by
 obtain⟨rfl,rfl,rfl,rfl,rfl,rfl⟩:=he;obtain⟨k,repo,frm,name,file,patch,bytes⟩:=c;subst e1 e2 e3 eF;by_cases h:1≤k∧k≤9
 ·have hk:k=1∨k=2∨k=3∨k=4∨k=5∨k=6∨k=7∨k=8∨k=9:=by omega
  rcases hk with rfl|rfl|rfl|rfl|rfl|rfl|rfl|rfl|rfl<;>simp[aj,aN]
 ·have h2 :¬k=2:=by omega
  have h3 :¬k=3:=by omega
  have h4 :¬k=4:=by omega
  have h5 :¬k=5:=by omega
  have h6 :¬k=6:=by omega
  have h9 :¬k=9:=by omega
  have i2 :¬(k:Int)=2:=by omega
  have i3 :¬(k:Int)=3:=by omega
  have i4 :¬(k:Int)=4:=by omega
  have i5 :¬(k:Int)=5:=by omega
  have i6 :¬(k:Int)=6:=by omega
  have i9 :¬(k:Int)=9:=by omega
  simp[aj,aN,h2,h3,h4,h5,h6,h9,i2,i3,i4,i5,i6,i9]
theorem Gg{c:bJ}{is bf bn bi bp bb:Bool}(he:kT c.kind is bf bn bi bp bb){r1 r2 r3 rF:Bool}(e1:r1=if bf then q0 is (isWord c.repo) bp (zB c.patch) bb ((c.bytes.length:Int) == 0) && isWord c.frm else q0 is (isWord c.repo) bp (zB c.patch) bb ((c.bytes.length:Int) == 0) && decide (c.frm.size=0))
  (e2:r2=if bn then r1 && isWord c.name else r1 && decide (c.name.size=0)) (e3:r3=if bi then r2 && isWord c.file else r2 && decide (c.file.size=0)) (eF:rF=if bp then r3 && okB c.patch else r3):rF=true↔aQ c:=by
 rw[V6];obtain⟨rfl,rfl,rfl,rfl,rfl,rfl⟩:=he;obtain⟨k,repo,frm,name,file,patch,bytes⟩:=c;subst e1 e2 e3 eF;have hb:((bytes.length:Int) == 0)=decide (bytes=[]):=by
  rw[Bool.eq_iff_iff];simp
 have hnt:ae=ByteArray.empty:=rfl;by_cases h:1≤k∧k≤9
 ·have hk:k=1∨k=2∨k=3∨k=4∨k=5∨k=6∨k=7∨k=8∨k=9:=by omega
  rcases hk with rfl|rfl|rfl|rfl|rfl|rfl|rfl|rfl|rfl<;>simp[q0,hb,uG,MW,hnt]<;>grind
 ·simp only[h,false_and,iff_false,q0,decide_false,Bool.false_and];simp
theorem MX(b:List UInt8):(bG b).data.toList.length≤2*b.length+1:=by
 rw[EC];exact LH b
theorem qE(c:UInt8)(M:Nat):∀(l:List (List UInt8)),(∀x∈l,x.length≤M)→(joinC c l).length≤l.length*(M+1)
 | [],_=>by simp[joinC]
 | x::r,h=>by
  have h1:=h x (by simp);have h2 :∀(r:List (List UInt8)),(∀x∈r,x.length≤M)→(r.flatMap (fun y=>c::y)).length≤r.length*(M+1):=by
   intro r
   induction r with
   | nil=>intro _;simp
   | cons y r ih =>
    intro h;have h3:=h y (by simp);have h4:=ih fun z hz=>h z (by simp[hz]);rw[List.flatMap_cons,aJ,List.length_cons,List.length_cons,Nat.add_mul];omega
  have h5:=h2 r fun z hz=>h z (by simp[hz]);rw[joinC,aJ,List.length_cons,Nat.add_mul];omega
theorem JL{s:ByteArray}(h:isWord s=true):s.data.toList.length≤100:=by
 unfold isWord at h;simp only[Bool.and_eq_true,decide_eq_true_eq]at h;have:=h.2.1;rw[Array.length_toList];exact this
theorem uI(k:Nat):(kwOf k).data.toList.length≤100:=by
 unfold kwOf;split<;>decide
theorem Ru(c:bJ):(aj c).length≤7:=by
 unfold aj aN;simp only[List.length_cons,aJ];have one :∀{p:Prop} [Decidable p] {z:ByteArray},(if p then[z]else[]).length≤1:=by intro p _ z;split<;>simp
 have:=@one (c.kind=3∨c.kind=5) _ c.frm;have:=@one (c.kind=2∨c.kind=3∨c.kind=4) _ c.name;have:=@one (c.kind=6) _ c.file;have:=@one (c.kind=2) _ (bG (cZ c.patch));have:=@one (c.kind=9) _ (bG c.bytes);omega
theorem uJ{c:bJ}(h:aQ c)(hz:iM c):(joinC 32 ((aj c).map (·.data.toList))).length≤140737488355328:=by
 have hw :∀x∈(aj c).map (·.data.toList),x.length≤2199023255553:=by
  intro x hx;obtain⟨y,hy,rfl⟩:=List.mem_map.1 hx;unfold aj aN at hy;simp only[List.mem_cons,List.mem_append]at hy;have one :∀{p:Prop} [Decidable p] {z:ByteArray},y∈(if p then[z]else[])→p∧y=z:=by
   intro p _ z hx;split at hx
   ·exact⟨by assumption,by simpa using hx⟩
   ·cases hx
  rcases hy with rfl|rfl|hy|hy|hy|hy|hy
  ·exact aI (uI _) (by decide)
  ·exact aI (JL h.repo) (by decide)
  ·obtain⟨h1,rfl⟩:=one hy;have:=h.frm;rw[if_pos h1]at this;exact aI (JL this) (by decide)
  ·obtain⟨h1,rfl⟩:=one hy;have:=h.name;rw[if_pos h1]at this;exact aI (JL this) (by decide)
  ·obtain⟨h1,rfl⟩:=one hy;have:=h.file;rw[if_pos h1]at this;exact aI (JL this) (by decide)
  ·obtain⟨h1,rfl⟩:=one hy;have h2:=MX (cZ c.patch);have h3:=hz.put;have h4:(cZ c.patch).length≤(dX c.patch).length:=by unfold cZ;split<;>simp
   unfold lid at h3;omega
  ·obtain⟨h1,rfl⟩:=one hy;have h2:=MX c.bytes;have h3:=hz.bytes;omega
 have hn:=Ru c;have:=qE 32 2199023255553 _ hw;rw[List.length_map]at this;have h5:=Nat.mul_le_mul_right 2199023255554 hn;omega
theorem V7(c:bJ):ah c=⟨(Lib.join ((aj c).map (·.data.toList)) [32]).toArray⟩:=by rw[ah,dN,JF]
end Go.Proofs.YtjjaojnglnpgaaaGreatDoor
