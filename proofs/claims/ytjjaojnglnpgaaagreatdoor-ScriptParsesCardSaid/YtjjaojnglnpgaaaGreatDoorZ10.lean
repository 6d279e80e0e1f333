/- Part 11 of what scriptParses_card rests on. -/
import Derived.Deep.RegionHeld
import Derived.Lib.AppendIntMem
import Derived.Shelf.Strconv.Itoa3
import Derived.Deep.Cut
import Derived.Deep.CutRange
import Derived.Deep.CutBlock
import Derived.Deep.DeepCutAuto
import Derived.BigQuiet
import Derived.Laws.IdiomCopy
import Derived.Test.YtjjaojnglnpgaaaGreatDoorZ03
import Derived.Test.YtjjaojnglnpgaaaGreatDoorZ02
import Derived.Test.YtjjaojnglnpgaaaGreatDoorZ01
import Derived.Test.YtjjaojnglnpgaaaGreatDoorZ05
import Derived.Test.YtjjaojnglnpgaaaGreatDoorZ00
set_option linter.unusedVariables false
set_option linter.unusedSimpArgs false
set_option maxHeartbeats 16000000
set_option maxRecDepth 1000000
namespace Go.Proofs.YtjjaojnglnpgaaaGreatDoor
section
open Go.RowKit
structure Ah where
 nA:Option Addr
 nc:Nat
 bA:Option Addr
 bc:Nat
structure AnIn(S:Nat→Prop)(w:World)(x:Ah)(a:An):Prop where
 err:isInt64 a.err
 names:StrsIn S w x.nA a.names
 text:a.text.size≤9223372036854775807
 bytes:BytesIn S w x.bA a.bytes
 nc:a.names.length≤x.nc∧x.nc≤9223372036854775807
 bc:a.bytes.length≤x.bc∧x.bc≤9223372036854775807
theorem AnIn.below{S:Nat→Prop}{w w':World}{x:Ah}{a:An}(h:AnIn S w x a)(hB:Below w.heap.size w w'):AnIn S w' x a:=⟨h.err,h.names.below hB,h.text,h.bytes.below hB,h.nc,h.bc⟩
theorem Qv{w w':World}{B e k n:Nat}{v:Value}{xs:List Value}(h:w.ownsRow B e k v n xs)(hb:Below w.heap.size w w'):w'.ownsRow B e k v n xs :=
 ⟨h.1,h.2.imp id fun⟨g,cap,cur,e1,hB,hg,hr⟩=>⟨g,cap,cur,e1,hB,(hb.block g (Array.getElem?_eq_some_iff.1 hg).1).trans hg,hr⟩⟩
def PowTab (w : World) : Prop := 4 < w.heap.size ∧ Lib.TabIs Tryz.prog w "internal/strconv.uint64pow10" .u64 Lib.pow10Tab
theorem PowTab.below{w w':World}(h:PowTab w)(hb:Below w.heap.size w w'):PowTab w':=⟨aH h.1 hb.size,var?_below hb (by kernel_rfl) h.1 h.2⟩
theorem VO(w:World)(k:Nat)(os:Array Obj):Below w.heap.size w (Go.Sort.grow (w.drewN k) os):=by
 exact⟨rfl,rfl,rfl,by show w.heap.size≤(w.heap++os).size;simp,fun i hi=>Lib.heap_grow_old w k os i hi⟩
theorem La{w:World}{B n c:Nat}{A:Option Addr}{ws:List ByteArray}(ho:w.ownsRow B 9 1 (.slice A n c) n (ws.map .string))(hn:ws.length=n)(h0:0<n)(h1:n≤140737488355328)(hl:(Lib.join (ws.map (·.data.toList)) [32]).length≤140737488355328):
  Calls Tryz.prog 47 #[.slice A n c] w fun e w'=>e = .returned (.string ⟨(Lib.join (ws.map (·.data.toList)) [32]).toArray⟩)∧Below w.heap.size w w':=by
 subst hn;obtain⟨g,rfl⟩:∃g,A=some ⟨g,0,none⟩:=by
  rcases ho.2 with⟨_,e⟩|⟨g,cap,cur,e,_⟩
  ·omega
  ·injection e with e;exact⟨g,e⟩
 have hg:=(ho.lt g rfl).2;have hc :∀(j:Nat) x,ws[j]?=some x→w.cell? ⟨g,0+j,none⟩=some (.string x):=fun j x hx=>by
  have hj:=(List.getElem?_eq_some_iff.1 hx).1;rw[Nat.zero_add,ho.cellAt j (by omega),List.getElem?_map,hx];rfl
 have hcap:ws.length≤c:=by
  rcases ho.2 with⟨e,_⟩|⟨g,cap,cur,e,_,_,h,_⟩
  ·cases e
  ·injection e with _ _ e;omega
 have HJ:=hide (Tryz.strings_Join g 0 c ws ⟨#[32]⟩ w hc hg h1 hcap hl);clear hc ho;go_enter Tryz.func47,Tryz.ntmps47
 go_wp2_with(go_at_call 23;(with_reducible refine HJ.out.mono ?_);rintro e1 w1 ⟨rfl,hB⟩;have HB:=hide hB;clear hB)
 go_ret;exact⟨rfl,HB.out⟩
theorem lV{S:Nat→Prop}{w:World}{A:Option Addr}{n c:Nat}{l:List UInt8}(hb:BytesIn S w A l)(hn:l.length=n)(hl:n≤1099511627776):
  Calls Tryz.prog 46 #[.slice A n c] w fun e w'=>e = .returned (.string ⟨(hexL l).toArray⟩)∧Below w.heap.size w w':=by
 subst hn;exact KF hb hl
theorem VP(w:World)(s:ByteArray)(e:TypeId)(cap:Nat)(m:Nat×Nat)(h:s.size≤9223372036854775807:=by omega):BytesIn (fun _=>True) (w.alloc (.cells (bytesRow s cap) e m)).drew (some ⟨w.heap.size,0,none⟩) s.data.toList:=by
 show BytesIn (fun _=>True) (w.alloc (.cells (bytesRow s cap) e m)) (some ⟨w.heap.size,0,none⟩) s.data.toList;refine⟨.inr ⟨w.heap.size,0,rfl,trivial,fun j u hu=>?_⟩,by simpa using h⟩;have hj:j<s.data.size:=by
  have:=(List.getElem?_eq_some_iff.1 hu).1
  simpa[bytesV]using this
 rw[Nat.zero_add,World.cell?_alloc_mark,bytesRow_at s cap j hj];simp only[bytesV,List.getElem?_map,Option.map_eq_some_iff]at hu;obtain⟨a,ha,rfl⟩:=hu;rw[Array.getElem?_toList,Array.getElem?_eq_getElem hj]at ha;injection ha with ha;rw[ha]
theorem Ir:(Tryz.prog.info? 9).map (fun i=>(i.zero,i.size,i.bytes))=some (some (.string ByteArray.empty),1,16):=by kernel_rfl
def wOk:ByteArray:=⟨#[111,107]⟩
def wNames:ByteArray:=⟨#[110,97,109,101,115]⟩
def wText:ByteArray:=⟨#[116,101,120,116]⟩
def wBytes:ByteArray:=⟨#[98,121,116,101,115]⟩
def hexS(l:List UInt8):ByteArray:=⟨(hexL l).toArray⟩
def An.wsN(a:An):List ByteArray:=wOk::(if a.names=[]then[]else wNames::a.names)
def An.wsT(a:An):List ByteArray:=a.wsN++(if a.text.size=0 then[]else[wText,hexS a.text.data.toList])
def An.ws(a:An):List ByteArray:=a.wsT++(if a.bytes=[]then[]else[wBytes,hexS a.bytes])
theorem An.ws_line(a:An)(h:a.err=0):Lib.join (a.ws.map (·.data.toList)) [32]=a.line:=by
 rw[An.line,An.parts,if_pos h];congr 1;unfold An.ws An.wsT An.wsN An.partN An.partT An.partB;by_cases h1:a.names=[]<;>by_cases h2:a.text.size=0<;>by_cases h3:a.bytes=[]<;>simp[h1,h2,h3,wOk,wNames,wText,wBytes,hexS,kwOk,kwNames,kwText,kwBytes]
theorem Qw(a:An):(a.names.map fun s=>s.size+1).sum≤a.bulk∧a.text.size≤a.bulk∧a.bytes.length≤a.bulk:=by unfold An.bulk;omega
theorem Qx :∀(l:List ByteArray),((l.map (·.data.toList)).flatMap (fun y=>32::y)).length=(l.map fun s=>s.size+1).sum
 | []=>rfl
 | s::l=>by
  have:=Qx l;have e:s.data.toList.length=s.size:=by simp
  simp only[List.map_cons,List.flatMap_cons,aJ,List.length_cons,List.sum_cons,e]at this⊢;omega
theorem An.line_len(a:An)(h:a.err=0):a.line.length≤2*a.bulk+100:=by
 rw[a.line_ok h];obtain⟨h1,h2,h3⟩:=Qw a;have hb:a.bulk=(a.names.map fun s=>s.size+1).sum+a.text.size+a.bytes.length:=rfl;have e1:(a.partN.flatMap (fun y=>32::y)).length≤6+(a.names.map fun s=>s.size+1).sum:=by
  unfold An.partN;split
  ·simp
  ·rw[List.flatMap_cons,aJ,Qx];simp[kwNames]
 have e2:(a.partT.flatMap (fun y=>32::y)).length≤10+2*a.text.size:=by
  unfold An.partT;split
  ·simp
  ·have:=Po a.text.data.toList;have e:a.text.data.toList.length=a.text.size:=by simp
   simp[kwText];omega
 have e3:(a.partB.flatMap (fun y=>32::y)).length≤10+2*a.bytes.length:=by
  unfold An.partB;split
  ·simp
  ·have:=Po a.bytes;simp[kwBytes];omega
 simp only[aJ];have:kwOk.length=2:=rfl;omega
theorem lW(l:List ByteArray):l.length≤(l.map fun s=>s.size+1).sum:=by
 induction l with
 | nil=>simp
 | cons s l ih=>simp only[List.length_cons,List.map_cons,List.sum_cons];omega
theorem kG{S:Nat→Prop}{w:World}{x:Ah}{a:An}(h:AnIn S w x a)(he:a.err=0)(hbk:a.bulk≤1099511627776):
  Calls Tryz.prog 20 #[.agg #[.int .i64 0,.slice x.nA a.names.length x.nc,.string a.text,.slice x.bA a.bytes.length x.bc]] w fun e w'=>e = .returned (.string ⟨a.line.toArray⟩)∧Below w.heap.size w w':=by
 obtain⟨k1,k2,k3⟩:=Qw a;have hnl:=lW a.names;have hll:=a.line_len he;have hwl:a.ws.length≤a.names.length+6:=by
  unfold An.ws An.wsT An.wsN;by_cases h1:a.names=[]<;>by_cases h2:a.text.size=0<;>by_cases h3:a.bytes=[]<;>simp[h1,h2,h3]<;>omega
 have hwn:a.wsN.length≤a.names.length+2:=by
  unfold An.wsN;by_cases h1:a.names=[]<;>simp[h1]<;>omega
 have hwt:a.wsT.length≤a.names.length+4:=by
  unfold An.wsT;by_cases h2:a.text.size=0<;>simp[h2]<;>omega
 have H:=hide h;clear h;have iR:=hide (a.ws_line he);clear he;go_enter Tryz.func20,Tryz.ntmps20
 go_upto_if 16 with fail
 obtain⟨W1,hW1⟩:∃W1,W1=(w.alloc (.cells #[.int .i64 0,.slice x.nA a.names.length x.nc,.string a.text,.slice x.bA a.bytes.length x.bc] 53)).alloc (.cells #[.string wOk] 9):=⟨_,rfl⟩;have hB1:Below w.heap.size w W1:=by rw[hW1];exact bT _ _
 have hs1:W1.heap.size=w.heap.size+2:=by rw[hW1];simp
 have hx0:W1.heap[w.heap.size]?=some (.cells #[.int .i64 0,.slice x.nA a.names.length x.nc,.string a.text,.slice x.bA a.bytes.length x.bc] 53):=by rw[hW1,heap_alloc_old _ _ (by simp)];exact heap_alloc_new w _
 have bC:Hid (W1.ownsRow (w.heap.size+1) 9 1 (.slice (some ⟨w.heap.size+1,0,none⟩) 1 1) 1 [.string wOk]):=hide ⟨rfl,.inr ⟨w.heap.size+1,1,#[.string wOk],rfl,aC _,by rw[hW1];have:=heap_alloc_new (w.alloc (.cells #[.int .i64 0,.slice x.nA a.names.length x.nc,.string a.text,.slice x.bA a.bytes.length x.bc] 53)) (.cells #[.string wOk] 9);simpa using this,aC _,by decide,rfl,rfl⟩⟩;rw[show(w.alloc (.cells #[.int .i64 0,.slice x.nA a.names.length x.nc,.string a.text,.slice x.bA a.bytes.length x.bc] 53)).alloc (.cells #[.string {data:=#[111,107]}] 9)=W1 from hW1.symm];have a0 :∀W,Below (w.heap.size+1) W1 W→W.cell? ⟨w.heap.size,1,none⟩=some (.slice x.nA a.names.length x.nc):=fun W hW=>by rw[Lib.cell_of_heap ((hW.block _ (Nat.lt_succ_self _)).trans hx0)];rfl
 have a1 :∀W,Below (w.heap.size+1) W1 W→W.cell? ⟨w.heap.size,2,none⟩=some (.string a.text):=fun W hW=>by rw[Lib.cell_of_heap ((hW.block _ (Nat.lt_succ_self _)).trans hx0)];rfl
 have a2 :∀W,Below (w.heap.size+1) W1 W→W.cell? ⟨w.heap.size,3,none⟩=some (.slice x.bA a.bytes.length x.bc):=fun W hW=>by rw[Lib.cell_of_heap ((hW.block _ (Nat.lt_succ_self _)).trans hx0)];rfl
 have Lc:Below (w.heap.size+1) W1 W1:=Below.refl _ _;clear hW1 hx0
 go_cut [3,16]from 16 to 22 (fun v b wx=>b = .bool (decide ((0:Int)<(a.names.length:Int)))∧wx.ownsRow (w.heap.size+1) 9 1 v a.wsN.length (a.wsN.map .string)∧Below (w.heap.size+1) W1 wx)
 case first =>
  by_cases hn:a.names=[]
  ·have hn0:a.names.length=0:=by rw[hn];rfl
   go_wp2_with fail
   go_meet
   exact⟨by simp[hn0],by have:=bC.out;simpa[An.wsN,hn]using this,Below.refl _ _⟩
  ·have hn0 :¬a.names.length=0:=fun e=>hn (List.length_eq_zero_iff.1 e);have hgt:(0:Int)<(a.names.length:Int):=by omega
   have hgt2:0<a.names.length:=by omega
   go_upto_region 5 with fail
   have hd1:Below (w.heap.size+1) W1 W1.drew:=Lc.drew;have Qy:Hid (W1.drew.ownsRow (w.heap.size+1) 9 1 (.slice (some ⟨w.heap.size+1,0,none⟩) 1 1) 1 [.string wOk]):=bC;refine wp_region_held_drew (S:=Below (w.heap.size+1) W1) (by kernel_rfl) hd1 (fun hHeld=>?_);generalize W1.drew=wD at hHeld Qy⊢;have hsD:=hHeld.size;refine ae 0 hHeld ?_;refine ae 3 hHeld ?_;refine tk (v:=?_) 4 hHeld ?_ ?_;rotate_left
   ·intro w' hSw;have b0:=a0 w' hSw
    first|(go_simp;done)|(go_simp;with_reducible rfl)
   try simp only[aA,aB]
   refine wpAnyH_ready (rs:=[1]) (by kernel_rfl) (by simp) ?_;refine AllReadyH.cons rfl (fun K hK=>?_) AllReadyH.nil;go_simp
   go_wp2_with fail
   have hH2:Below (w.heap.size+1) W1 (wD.alloc (.cells #[.string wNames] 9)):=hHeld.alloc (by omega) _;refine hK.out _ _ hH2 (fun _=>?_);clear hK K
   try simp only[Act.put,aG,aE,aF,aD,aA,aB]
   obtain⟨v',w5,hrun,hown,nV⟩:=PD (P:=Tryz.prog) (T:=34) (us:=[.string wNames]) (B:=some ⟨wD.heap.size,0,none⟩) (m:=1) (cB:=1) Tryz.underlying34 Ir rfl (by decide) (Qy.out.alloc (.cells #[.string wNames] 9)) (fun e=>by cases e) rfl (by intro u hu;simp at hu;subst hu;rfl) (fun ad e=>by injection e with e;subst e;intro j u hu;rw[Addr.add_lit,Nat.zero_add,Lib.cell_of_heap (heap_alloc_new wD _)];simpa using hu) (by simp;omega) (by decide) (by decide) 34;refine wpAnyH_ready (rs:=[2]) (by kernel_rfl) (by simp) ?_;refine AllReadyH.cons rfl (fun K hK=>?_) AllReadyH.nil;refine Dt (v1:= .slice (some ⟨w.heap.size+1,0,none⟩) 1 1) (v2:= .slice (some ⟨wD.heap.size,0,none⟩) 1 1) rfl _ _ _ rfl (by rfl) (by rfl) hrun ?_;have hH3:=hH2.trans nV;refine hK.out _ _ hH3 (fun qc=>?_);clear hK K
   try simp only[Act.put,aG,aE,aF,aD,aA,aB]
   have hs5:=hH3.size;have hnm:=(H.out.below (hB1.trans (hH3.mono (Nat.le_succ _)))).names;obtain⟨v6,w6,hrun6,hown6,qg⟩:=PD (P:=Tryz.prog) (T:=34) (us:=a.names.map .string) (B:=x.nA) (m:=a.names.length) (cB:=x.nc) Tryz.underlying34 Ir rfl (by decide) hown (vg hnm.1) (by simp) (lI _ (fun _=>rfl)) (zl hnm.1) (by omega) (by unfold maxLen;omega) (by omega) 34;refine wpAnyH_ready (rs:=[5]) (by kernel_rfl) (by simp) ?_;refine AllReadyH.cons rfl (fun K hK=>?_) AllReadyH.nil;refine Dt (v1:=v') (v2:= .slice x.nA a.names.length x.nc) rfl _ _ _ rfl (by rfl) (by rfl) hrun6 ?_;have hH6:=hH3.trans qg;refine hK.out _ _ hH6 (fun qi=>?_);clear hK K
   try simp only[Act.put,aG,aE,aF,aD,aA,aB]
   refine ae 6 qi ?_;refine wpAnyH_done (by kernel_rfl) ?_ _
   try simp only[Act.put,aG,aE,aF,aD,aA,aB]
   have uG:=hide hown6;have aV:=hide hH6;clear hrun hown nV hH2 hH3 hHeld qc qi hrun6 hown6 qg hH6
   go_wp2_with fail
   go_meet
   refine⟨by simp;omega,?_,aV.out⟩;have h:=uG.out;have e:a.wsN=wOk::wNames::a.names:=by rw[An.wsN,if_neg hn]
   rw[e];have el:(wOk::wNames::a.names).length=1+1+a.names.length:=by simp;omega
   rw[el]
   simpa using h
 case rest =>
 obtain⟨Ld,hO,hBc⟩:=hcut;clear Ld;obtain⟨Av,cv,rfl⟩:=bM hO;have HO:=hide hO;clear hO bC
 go_upto_if 25 with fail
 go_cut [3,25]from 25 to 32 (fun v b wx=>wx.ownsRow (w.heap.size+1) 9 1 v a.wsT.length (a.wsT.map .string)∧Below (w.heap.size+1) W1 wx)
 case first =>
  by_cases ht:a.text.size=0
  ·have hte:a.text.toList.isEmpty=true:=by rw[List.isEmpty_iff];exact(fH _).2 (by omega)
   go_wp2_with fail
   ·exact absurd ‹(!a.text.toList.isEmpty)=true› (by simp[hte])
   ·go_meet
    exact⟨by have:=HO.out;simpa[An.wsT,ht]using this,hBc⟩
  ·have hte:a.text.toList.isEmpty=false:=by rw[Bool.eq_false_iff,ne_eq,List.isEmpty_iff,fH];omega
   have hcv:=fun w':World=>run_bytes_of_string (P:=Tryz.prog) w' 9 44 5 a.text Tryz.underlying9 Tryz.underlying44 Tryz.underlying5;have hsc:=hBc.size;have fB:Hid (a.text.data.toList.length=a.text.size):=hide (by simp);have VQ:Hid (a.text.size≤9223372036854775807):=hide (by omega)
   go_wp2_with(first
    | (go_at_call 46;(with_reducible refine(lV (l:=a.text.data.toList) (VP wc a.text _ _ _ VQ.out) fB.out (by omega)).mono ?_);rintro e1 w1 ⟨rfl,hb1⟩;have dI:Hid (Below wc.heap.size wc w1):=hide (((ag wc _).drew).trans (hb1.mono (by simp)));have fU:=hide (Qv HO.out dI.out);have hs1:=dI.out.size;clear hb1)
    | (at_builtin;refine fE rfl _ _ 34 rfl (w.heap.size+1) 9 Tryz.underlying34 Ir rfl (by decide) _ a.wsN.length (a.wsN.map .string) rfl (fU.out.alloc _) (some ⟨w1.heap.size,0,none⟩) 2 2 [.string wText,.string (hexS a.text.data.toList)] rfl (by simp) rfl (fun ad e=>by injection e with e;subst e;intro j u hu;rw[Addr.add_lit,Nat.zero_add,Lib.cell_of_heap (heap_alloc_new w1 _)];simpa[wText,wBytes,hexS]using hu) (by intro u hu;simp at hu;rcases hu with rfl|rfl<;>rfl) (by unfold maxLen;omega) (by omega) (by simp;omega) ?_))
   intro v1 w2 h1 hg1 hw1;have HB2:Hid (Below (w.heap.size+1) W1 w2):=hide (((hBc.trans (dI.out.mono (by omega))).alloc (by omega) _).grown hg1 (by simp;omega) fun k hk=>(fU.out.lt k hk).1);have H1:=hide h1;clear h1 hg1 hw1
   go_wp2_with fail
   go_meet
   refine⟨?_,HB2.out⟩;have e:a.wsT=a.wsN++[wText,hexS a.text.data.toList]:=by rw[An.wsT,if_neg ht]
   rw[e,aJ,List.map_append];exact H1.out;exact absurd ‹(!a.text.toList.isEmpty)=false› (by simp[hte])
 case rest =>
 clear HO hBc;obtain⟨hO,hBc⟩:=hcut;obtain⟨Av,cv,rfl⟩:=bM hO;have HO:=hide hO;clear hO
 go_upto_if 36 with fail
 go_cut [3,36]from 36 to 42 (fun v b wx=>wx.ownsRow (w.heap.size+1) 9 1 v a.ws.length (a.ws.map .string)∧Below (w.heap.size+1) W1 wx)
 case first =>
  by_cases hb:a.bytes=[]
  ·have hb0:a.bytes.length=0:=by rw[hb];rfl
   go_wp2_with fail
   go_meet
   exact⟨by have:=HO.out;simpa[An.ws,hb]using this,hBc⟩
  ·have hb0:0<a.bytes.length:=List.length_pos_iff.2 hb;have hsc:=hBc.size;have hby:=(H.out.below (hB1.trans (hBc.mono (Nat.le_succ _)))).bytes;have VR:=hide hby;clear hby
   go_wp2_with(first
    | (go_at_call 46;(with_reducible refine(KF VR.out (by omega)).mono ?_);rintro e1 w1 ⟨rfl,hb1⟩;have fU:=hide (Qv HO.out hb1);have hs1:=hb1.size;have dI:=hide hb1;clear hb1)
    | (at_builtin;refine fE rfl _ _ 34 rfl (w.heap.size+1) 9 Tryz.underlying34 Ir rfl (by decide) _ a.wsT.length (a.wsT.map .string) rfl (fU.out.alloc _) (some ⟨w1.heap.size,0,none⟩) 2 2 [.string wBytes,.string (hexS a.bytes)] rfl (by simp) rfl (fun ad e=>by injection e with e;subst e;intro j u hu;rw[Addr.add_lit,Nat.zero_add,Lib.cell_of_heap (heap_alloc_new w1 _)];simpa[wText,wBytes,hexS]using hu) (by intro u hu;simp at hu;rcases hu with rfl|rfl<;>rfl) (by unfold maxLen;omega) (by omega) (by simp;omega) ?_))
   intro v1 w2 h1 hg1 hw1;have HB2:Hid (Below (w.heap.size+1) W1 w2):=hide (((hBc.trans (dI.out.mono (by omega))).alloc (by omega) _).grown hg1 (by simp;omega) fun k hk=>(fU.out.lt k hk).1);have H1:=hide h1;clear h1 hg1 hw1
   go_wp2_with fail
   go_meet
   refine⟨?_,HB2.out⟩;have e:a.ws=a.wsT++[wBytes,hexS a.bytes]:=by rw[An.ws,if_neg hb]
   rw[e,aJ,List.map_append];exact H1.out
 case rest =>
 clear HO hBc;obtain⟨hO,hBc⟩:=hcut;obtain⟨Av,cv,rfl⟩:=bM hO;have HO:=hide hO;clear hO;have hwT:0<a.ws.length:=by unfold An.ws An.wsT An.wsN;simp
 go_wp2_with(go_at_call 47;(with_reducible refine(La HO.out rfl hwT (by omega) (by rw[iR.out];omega)).mono ?_);rintro e1 w1 ⟨rfl,hb1⟩;have VS:=hide hb1;clear hb1)
 go_ret;exact⟨by rw[iR.out];rfl,(hB1.trans (hBc.mono (Nat.le_succ _))).trans (VS.out.mono (by have:=hB1.size;have:=hBc.size;omega))⟩
end
section
open Go.RowKit Go.ChangeShapes Go.WideShapes
section
variable {P : Program} {H : Type} {enc : TypeId × Value → H} {w : World} {spare : Nat → Bool} {held : Bool} {t e : TypeId} {fuel : Nat} {cs : List Value} {x : DataW H × List MemPlace}
end
section
variable {H : Type} {enc : TypeId × Value → H} {w : World} {spare : Nat → Bool} {held : Bool}
end
end
structure Cmd where
 kind:Nat
 repo:ByteArray
 frm:ByteArray
 name:ByteArray
 file:ByteArray
 patch:Pt
 bytes:List UInt8
def Cmd.zero:Cmd:=⟨0,noTxt,noTxt,noTxt,noTxt,Pt.zero,[]⟩
def isWord(s:ByteArray):Bool:=!s.toList.isEmpty && (decide (s.size≤100) && (!decide (0≤Lib.indexByte s.data.toList 32) && !decide (0≤Lib.indexByte s.data.toList 10)))
open Classical in
noncomputable def patOf(l:List UInt8):Option Pt:=if h :∃q:Pt,PtFit q∧PtOk q∧l=ptB q then some h.choose else none
theorem Iu{l:List UInt8}{p:Pt}(h:patOf l=some p):PtFit p∧PtOk p∧l=ptB p:=by
 unfold patOf at h;split at h
 ·rename_i hx;injection h with h;subst h;exact hx.choose_spec
 ·cases h
theorem Le{l:List UInt8}(h:patOf l=none):¬∃q:Pt,PtFit q∧PtOk q∧l=ptB q:=by
 unfold patOf at h;split at h
 ·cases h
 ·assumption
theorem qj{p:Pt}(hf:PtFit p)(ho:PtOk p):patOf (ptB p)=some p:=by
 rcases h:patOf (ptB p)with _|q
 ·exact absurd ⟨p,hf,ho,rfl⟩ (Le h)
 ·obtain⟨h1,h2,h3⟩:=Iu h;rw[(G6 h1 hf h2.bare ho.bare (x:=[]) (y:=[]) (by rw[List.append_nil,List.append_nil,h3])).1]
abbrev RestF:=Cmd→List ByteArray→Option (Cmd×List ByteArray)
def restAlone:RestF:=fun c l=>some (c,l)
noncomputable def restRecord:RestF
 | c,n::t::r=>if isWord n then(unhexL t.data.toList).bind fun b=>(patOf b).map fun p=>({c with name:=n,patch:=p},r)else none
 | _,_=>none
def restPull:RestF
 | c,f::n::r=>if isWord f && isWord n then some ({c with frm:=f,name:=n},r)else none
 | _,_=>none
def restUnpull:RestF
 | c,n::r=>if isWord n then some ({c with name:=n},r)else none
 | _,_=>none
def restMerge:RestF
 | c,f::r=>if isWord f then some ({c with frm:=f},r)else none
 | _,_=>none
def restCheckout:RestF
 | c,f::r=>if isWord f then some ({c with file:=f},r)else none
 | _,_=>none
def restLoad:RestF
 | c,t::r=>(unhexL t.data.toList).map fun b=>({c with bytes:=b},r)
 | _,_=>none
noncomputable def restOf:Nat→RestF
 | 2=>restRecord
 | 3=>restPull
 | 4=>restUnpull
 | 5=>restMerge
 | 6=>restCheckout
 | 9=>restLoad
 | _=>restAlone
def kwNew:ByteArray:=⟨#[110,101,119]⟩
def kwRecord:ByteArray:=⟨#[114,101,99,111,114,100]⟩
def kwPull:ByteArray:=⟨#[112,117,108,108]⟩
def kwUnpull:ByteArray:=⟨#[117,110,112,117,108,108]⟩
def kwMerge:ByteArray:=⟨#[109,101,114,103,101]⟩
def kwCheckout:ByteArray:=⟨#[99,104,101,99,107,111,117,116]⟩
def kwLog:ByteArray:=⟨#[108,111,103]⟩
def kwExport:ByteArray:=⟨#[101,120,112,111,114,116]⟩
def kwImport:ByteArray:=⟨#[105,109,112,111,114,116]⟩
def kwL:List (Nat×ByteArray):=[(1,kwNew),(2,kwRecord),(3,kwPull),(4,kwUnpull),(5,kwMerge),(6,kwCheckout),(7,kwLog),(8,kwExport),(9,kwImport)]
def kindOf(s:ByteArray):Option Nat:=(kwL.find? fun p=>decide (p.2=s)).map (·.1)
theorem Lh{s:ByteArray}{k:Nat}(h:kindOf s=some k):(k,s)∈kwL:=by
 unfold kindOf at h;obtain⟨p,hp,rfl⟩:=Option.map_eq_some_iff.1 h;have h1:=List.mem_of_find?_eq_some hp;have h2:=List.find?_some hp;simp only[decide_eq_true_eq]at h2;subst h2;exact h1
theorem zap{s:ByteArray}{k:Nat}(h:(k,s)∈kwL):kindOf s=some k:=by
 simp only[kwL,List.mem_cons,List.not_mem_nil,or_false,Prod.mk.injEq]at h;rcases h with⟨rfl,rfl⟩|⟨rfl,rfl⟩|⟨rfl,rfl⟩|⟨rfl,rfl⟩|⟨rfl,rfl⟩|⟨rfl,rfl⟩|⟨rfl,rfl⟩|⟨rfl,rfl⟩|⟨rfl,rfl⟩<;>decide
noncomputable def lineOf:List ByteArray→Option Cmd
 | first::repo::r=>(kindOf first).bind fun k=>if isWord repo then(match restOf k {Cmd.zero with kind:=k,repo:=repo} r with|some (c,[])=>some c|_=>none)else none
 | _=>none
theorem eP(b repo:ByteArray)(r:List ByteArray):lineOf (b::repo::r)=(kindOf b).bind fun k=>if isWord repo then(match restOf k ⟨k,repo,noTxt,noTxt,noTxt,Pt.zero,[]⟩ r with|some (c,[])=>some c|_=>none)else none:=rfl
section
open Go.RowKit
theorem DN(s:ByteArray)(w:World):Calls Tryz.prog 42 #[.string s] w fun e w'=>e = .returned (.bool (isWord s))∧w'=w:=by
 go_enter Tryz.func42,Tryz.ntmps42
 go_wp2_with(go_at_call 28;first
  | ((with_reducible refine(Tryz.strings_Contains_one s 32 _).mono ?_);rintro e1 w1 ⟨rfl,rfl⟩)
  | ((with_reducible refine(Tryz.strings_Contains_one s 10 _).mono ?_);rintro e1 w1 ⟨rfl,rfl⟩))
 all_goals
  go_ret;refine⟨?_,rfl⟩;refine congrArg (fun b=>Ending.returned (.bool b)) (?_:(_:Bool)=isWord s);unfold isWord
  first
   | rfl
   | grind
   | (simp_all;done)
abbrev nones:Ending:= .panicked [{v:= .iface 136 (.agg #[]),recovered:=false}]
theorem yj{b:Bool}(hb:b=true)(w:World):Calls Tryz.prog 78 #[.bool b] w fun e w'=>e = .returned (.tuple #[])∧w'=w:=by
 subst hb;go_enter Tryz.func78,Tryz.ntmps78
 go_wp2_with fail
 all_goals go_end0
 all_goals exact⟨rfl,rfl⟩
theorem yl{b:Bool}(hb:b=false)(w:World):Calls Tryz.prog 78 #[.bool b] w fun e w'=>e=nones∧w'=w:=by
 subst hb;go_enter Tryz.func78,Tryz.ntmps78
 go_wp2_with fail
 exact⟨rfl,rfl,rfl⟩
structure WdIn(D:Nat→Prop)(N:Nat)(w:World)(l:List ByteArray):Prop where
 at_ :∃A c,w.cell? ⟨N,0,none⟩=some (.slice A l.length c)∧Rd D w A (l.map .string)∧l.length≤c∧c≤9223372036854775807
 free:w.frozen? ⟨N,0,none⟩=false
 off :∀b,D b→b≠N
theorem Qz{D:Nat→Prop}{N:Nat}{w:World}(h:WdIn D N w []):
  Calls Tryz.prog 76 #[.pointer (some ⟨N,0,none⟩)] w fun e w'=>e=nones∧w'=w:=by
 obtain⟨A,c,hc,hr,h1,h2⟩:=h.at_;have hc0:w.cell? ⟨N,0,none⟩=some (.slice A 0 c):=hc;clear h hr hc;go_enter Tryz.func76,Tryz.ntmps76
 go_wp2_with(go_at_call 78;(with_reducible refine(yl rfl _).mono ?_);rintro e1 w1 ⟨rfl,rfl⟩)
 exact⟨rfl,rfl,rfl⟩
theorem vI{D:Nat→Prop}{w:World}{b o:Nat}{x:Value}{xs:List Value}(h:Rd D w (some ⟨b,o,none⟩) (x::xs)):Rd D w (some ⟨b,o+1,none⟩) xs:=by
 rcases h with h|⟨b',o',e,hS,hc⟩
 ·cases h
 ·injection e with e;injection e with e1 e2;subst e1 e2;refine .inr ⟨b,o+1,rfl,hS,fun j u hu=>?_⟩;have:=hc (j+1) u (by simpa using hu)
  rwa [show o+1+j=o+(j+1)by omega]
theorem WdIn.next{D:Nat→Prop}{N:Nat}{w:World}{s:ByteArray}{r:List ByteArray}{A:Option Addr}{c:Nat}(h:WdIn D N w (s::r))(hr:Rd D w A (r.map .string))(hc:r.length≤c∧c≤9223372036854775807):
  WdIn D N (w.setCell ⟨N,0,none⟩ (.slice A r.length c)) r:=by
 obtain⟨A0,c0,hc0,_⟩:=h.at_;refine⟨⟨A,c,World.cell?_setCell_same _ _ _ hc0,hr.keep (fun b hb=>Below.heap_setCell w _ _ b (h.off b hb)),hc⟩,by rw[World.frozen?_setCell];exact h.free,h.off⟩
theorem yt{D:Nat→Prop}{N:Nat}{w:World}{s:ByteArray}{r:List ByteArray}(h:WdIn D N w (s::r)):
    Calls Tryz.prog 76 #[.pointer (some ⟨N,0,none⟩)] w fun e w'=>e = .returned (.string s)∧WdIn D N w' r∧∃v,w'=w.setCell ⟨N,0,none⟩ v:=by
  obtain⟨A,c,hc,hr,h1,h2⟩:=h.at_;obtain⟨b,o,rfl,hx⟩:=hr.at_ (j:=0) (by simp);have hx0:w.cell? ⟨b,o,none⟩=some (.string s):=by simpa using hx
  have hc0:w.cell? ⟨N,0,none⟩=some (.slice (some ⟨b,o,none⟩) (r.length+1) c):=hc;have hf:=h.free;have hl:0<r.length+1:=by omega
  have hli:(0:Int)<(r.length:Int)+1:=by omega
  have hlc:r.length+1≤c:=h1;have Hr:=hide hr;have H:=hide h;clear h hr hc hx;go_enter Tryz.func76,Tryz.ntmps76
  go_wp2_with(go_at_call 78;(with_reducible refine(yj rfl _).mono ?_);rintro e1 w1 ⟨rfl,rfl⟩)
  all_goals
    go_ret
    first
      | exact⟨rfl,H.out.next (vI Hr.out) ⟨by omega,by omega⟩,_,rfl⟩
      | (have hr0:r=[]:=List.eq_nil_of_length_eq_zero (by omega)
         subst hr0;exact⟨rfl,H.out.next (r:=[]) .nil ⟨by simp,by omega⟩,_,rfl⟩)
theorem Iw{D:Nat→Prop}{N:Nat}{w:World}(h:WdIn D N w []):
  Calls Tryz.prog 77 #[.pointer (some ⟨N,0,none⟩)] w fun e w'=>e=nones∧w'=w:=by
 have H:=hide h;clear h;go_enter Tryz.func77,Tryz.ntmps77
 go_wp2_with(go_at_call 76;(with_reducible refine(Qz H.out).mono ?_);rintro e1 w1 ⟨rfl,rfl⟩)
 exact⟨rfl,rfl,rfl⟩
theorem Iy{D:Nat→Prop}{N:Nat}{w:World}{s:ByteArray}{r:List ByteArray}(h:WdIn D N w (s::r))(hs:isWord s=false):
  Calls Tryz.prog 77 #[.pointer (some ⟨N,0,none⟩)] w fun e w'=>e=nones∧∃v,w'=w.setCell ⟨N,0,none⟩ v:=by
 have H:=hide h;have Hs:=hide hs;clear h hs;go_enter Tryz.func77,Tryz.ntmps77
 go_wp2_with(first
  | (go_at_call 76;(with_reducible refine(yt H.out).mono ?_);rintro e1 w1 ⟨rfl,h1,hv⟩)
  | (go_at_call 42;(with_reducible refine(DN s _).mono ?_);rintro e2 w2 ⟨rfl,rfl⟩)
  | (go_at_call 78;(with_reducible refine(yl Hs.out _).mono ?_);rintro e3 w3 ⟨rfl,rfl⟩))
 exact⟨rfl,rfl,hv⟩
theorem lX{D:Nat→Prop}{N:Nat}{w:World}{s:ByteArray}{r:List ByteArray}(h:WdIn D N w (s::r))(hs:isWord s=true):
  Calls Tryz.prog 77 #[.pointer (some ⟨N,0,none⟩)] w fun e w'=>e = .returned (.string s)∧WdIn D N w' r∧∃v,w'=w.setCell ⟨N,0,none⟩ v:=by
 have H:=hide h;have Hs:=hide hs;clear h hs;go_enter Tryz.func77,Tryz.ntmps77
 go_wp2_with(first
  | (go_at_call 76;(with_reducible refine(yt H.out).mono ?_);rintro e1 w1 ⟨rfl,h1,hv⟩;have H1:=hide h1;have Hv:=hide hv;clear h1 hv)
  | (go_at_call 42;(with_reducible refine(DN s _).mono ?_);rintro e2 w2 ⟨rfl,rfl⟩)
  | (go_at_call 78;(with_reducible refine(yj Hs.out _).mono ?_);rintro e3 w3 ⟨rfl,rfl⟩))
 go_ret;exact⟨rfl,H1.out,Hv.out⟩
theorem WdIn.below{D:Nat→Prop}{N:Nat}{w w':World}{l:List ByteArray}(h:WdIn D N w l)(hb:Below w.heap.size w w'):WdIn D N w' l:=by
 obtain⟨A,c,h1,h2,h3⟩:=h.at_;have hN:=block_lt_of_cell h1;exact⟨⟨A,c,(hb.cell (p:=⟨N,0,none⟩) hN).trans h1,h2.below hb,h3⟩,(hb.frozen (p:=⟨N,0,none⟩) hN).trans h.free,h.off⟩
theorem zig{D:Nat→Prop}{N:Nat}{w:World}{s:ByteArray}{r:List ByteArray}(h:WdIn D N w (s::r))(hs:s=⟨#[45]⟩):
  Calls Tryz.prog 170 #[.pointer (some ⟨N,0,none⟩)] w fun e w'=>e = .returned (.slice none 0 0)∧WdIn D N w' r∧∃v,w'=w.setCell ⟨N,0,none⟩ v:=by
 subst hs;have H:=hide h;clear h;go_enter Tryz.func170,Tryz.ntmps170
 go_wp2_with(go_at_call 76;(with_reducible refine(yt H.out).mono ?_);rintro e1 w1 ⟨rfl,h1,hv⟩;have H1:=hide h1;have Hv:=hide hv;clear h1 hv)
 go_ret;exact⟨rfl,H1.out,Hv.out⟩
theorem Lj:(Tryz.prog.info? 5).map (fun i=>(i.zero,i.size,i.bytes))=some (some (.int .u8 0),1,1):=by kernel_rfl
theorem QA :∀x,x<16→∀y,y<16→bits BinOp.or IntKind.i64 (((x:Nat):Int)*16) ((y:Nat):Int)=((16*x+y:Nat):Int):=by decide
theorem Ll :∀{b:List UInt8} {q:Nat} (h:q<b.length),(hexT b)[2*q]?=some (hexD (b[q].toNat / 16))∧(hexT b)[2*q+1]?=some (hexD (b[q].toNat % 16))
 | c::b,0,_=>by simp[hexT]
 | c::b,q+1,h=>by
  have:=Ll (b:=b) (q:=q) (by simpa using h);simp only[hexT,List.flatMap_cons,List.cons_append,List.nil_append,show 2*(q+1)=2*q+1+1 by omega,List.getElem?_cons_succ,aF]at this⊢;exact this
theorem ql{s:ByteArray}{b:List UInt8}{q k:Nat}(hs:s.data.toList=hexT b)(h:q<b.length)(hk:k<s.size)(e:k=2*q):s[k]=hexD (b[q].toNat / 16):=by
 have h1:=(Ll h).1;rw[←hs,←e,Array.getElem?_toList]at h1;exact(Array.getElem?_eq_some_iff.1 h1).2
theorem qm{s:ByteArray}{b:List UInt8}{q k:Nat}(hs:s.data.toList=hexT b)(h:q<b.length)(hk:k<s.size)(e:k=2*q+1):s[k]=hexD (b[q].toNat % 16):=by
 have h1:=(Ll h).2;rw[←hs,←e,Array.getElem?_toList]at h1;exact(Array.getElem?_eq_some_iff.1 h1).2
theorem VT{D:Nat→Prop}{N:Nat}{w:World}{s:ByteArray}{r:List ByteArray}{b:List UInt8}(h:WdIn D N w (s::r))(hs:s.data.toList=hexT b)(hb:b≠[])(hl:b.length≤1099511627776):
  Calls Tryz.prog 170 #[.pointer (some ⟨N,0,none⟩)] w fun e w'=>∃v,e = .returned v∧w'.ownsRow w.heap.size 5 1 v b.length (Lib.byteCells b)∧WdIn D N w' r∧∃u,Below w.heap.size (w.setCell ⟨N,0,none⟩ u) w':=by
 have H:=hide h;have hsz:s.size=2*b.length:=by
  have:=congrArg List.length hs;rw[uX]at this
  simpa using this
 have hb0:0<b.length:=List.length_pos_iff.2 hb;have hne:s.toList.isEmpty=false:=by rw[Bool.eq_false_iff,ne_eq,List.isEmpty_iff,fH];omega
 have h45:(s.toList == [45])=false:=by
  rw[aK];intro e;have e2:s=⟨#[45]⟩:=bu.1 (by rw[e];decide +kernel);rw[e2]at hsz;have:(⟨#[45]⟩:ByteArray).size=1:=rfl;omega
 have DR:((s.size:Int).tmod 2 == 0)=true:=by rw[hsz,beq_iff_eq];push_cast;rw[Int.tmod_eq_emod_of_nonneg (by omega)];omega
 clear h;go_enter Tryz.func170,Tryz.ntmps170
 go_wp2_with(first
  | (go_at_call 76;(with_reducible refine(yt H.out).mono ?_);rintro e1 w1 ⟨rfl,h1,u,hu⟩;have H1:=hide h1;have HU:=hide hu;clear h1 hu)
  | (go_at_call 78;(with_reducible refine(yj (by first|rfl|(simp;omega)|simp_all) _).mono ?_);rintro e2 w2 ⟨rfl,rfl⟩))
 have hs1:w2.heap.size=w.heap.size:=by rw[HU.out];simp
 have yu:=hide hs1;have gy:=hide hsz;clear hs1 hsz
 go_loopg [5,4] b.length (fun g i v wr=>∃q k:Nat,q≤b.length∧g=b.length-q∧Hid (k=2*q)∧i = .int .i64 (k:Int)∧Hid (wr.ownsRow w.heap.size 5 1 v q (Lib.byteCells (b.take q)))∧Hid (Below w2.heap.size w2 wr))
 case atStart=>exact⟨0,0,by omega,by omega,hide rfl,rfl,hide (World.ownsRow_nil _ _ _ _),hide (Below.refl _ _)⟩
 case round =>
  obtain⟨q,k,hq,hg,Hk,rfl,HO,HB⟩:=hrel;by_cases hlt:q<b.length
  ·have hk1:k+1<s.size:=by have:=Hk.out;have:=gy.out;omega
   have hk0:k<s.size:=by omega
   have hki:(k:Int)<(s.size:Int):=by omega
   have hk9:(k:Int)+1≤9223372036854775807:=by have:=Hk.out;omega
   have VU:k+1≤9223372036854775807:=by omega
   obtain⟨m,hm⟩:∃m,m=k+1:=⟨_,rfl⟩;have hwk:IntKind.i64.wrap ((k:Int)+1)=(m:Int):=by rw[IntKind.wrap_i64];omega
   have DT:(m:Int)<(s.size:Int):=by omega
   have zD:m<s.size:=by omega
   have Hm:=hide hm;clear hm;have HX :∀(c:UInt8) (W:World),Calls Tryz.prog 213 #[.string ⟨#[48,49,50,51,52,53,54,55,56,57,97,98,99,100,101,102]⟩,.int .u8 (c.toNat:Int)] W fun e w'=>e = .returned (.int .i64 (if digV c<16 then(digV c:Int)else -1))∧w'=W:=fun c W=>by
    have h:=Tryz.strings_IndexByte signs (c.toNat:Int) W;rw[show((c.toNat:Int).toNat.toUInt8)=c by simp,PQ]at h;exact h
   go_wp2_with fail
   go_quiet ((go_at_call 213;(with_reducible refine(HX _ _).mono ?_);rintro e2 w2 ⟨rfl,rfl⟩;exact⟨rfl,_,rfl⟩))
   have hx4:=(b[q]).toNat_lt;have hdk:digV s[k]=b[q].toNat / 16:=by
    rw[ql hs hlt hk0 Hk.out];exact PN _ (by omega)
   have hdm:digV s[m]=b[q].toNat % 16:=by
    rw[qm hs hlt zD (by rw[Hm.out,Hk.out])];exact PN _ (by omega)
   rw[hdk,hdm,if_pos (by omega),if_pos (by omega)];clear hdk hdm HX;obtain⟨X,hX⟩:∃X,X=b[q].toNat / 16:=⟨_,rfl⟩;obtain⟨Y,hY⟩:∃Y,Y=b[q].toNat % 16:=⟨_,rfl⟩;rw[←hX,←hY];have gK:X<16:=by omega
   have gQ:Y<16:=by omega
   have hX0:(0:Int)≤(X:Int):=by omega
   have hY0:(0:Int)≤(Y:Int):=by omega
   obtain⟨z,hz⟩:∃z,z=b[q].toNat:=⟨_,rfl⟩;have hor:bits BinOp.or IntKind.i64 ((X:Int)*16) (Y:Int)=(z:Int):=by
    rw[QA X gK Y gQ];omega
   have yw:(z:Int) % 256=(z:Int):=by omega
   have Hz:=hide hz;clear hX hY hx4 hz;have hbl:(Lib.byteCells (b.take q)).length=q*1:=by simp[Lib.byteCells];omega
   have bC:Hid ((wr.drewN nq).ownsRow w.heap.size 5 1 u4 q (Lib.byteCells (b.take q))):=HO;have HB1:Hid (Below w2.heap.size w2 (wr.drewN nq)):=hide (aO HB.out _);generalize wr.drewN nq=wq at bC HB1⊢;obtain⟨Av,cv,rfl⟩:=bM bC.out
   go_wp2_with(first
    | (go_at_call 78;(with_reducible refine(yj rfl _).mono ?_);rintro e3 w3 ⟨rfl,rfl⟩)
    | (at_builtin;refine fE rfl _ _ 44 rfl w.heap.size 5 Tryz.underlying44 Lj rfl (by decide) _ q (Lib.byteCells (b.take q)) rfl (bC.out.alloc _) (some ⟨w3.heap.size,0,none⟩) 1 1 [.int .u8 (z:Int)] rfl (by simp) rfl (fun ad e=>by injection e with e;subst e;intro j u hu;rw[Addr.add_lit,Nat.zero_add,Lib.cell_of_heap (heap_alloc_new w3 _)];simpa using hu) (by intro u hu;simp at hu;subst hu;rfl) (by unfold maxLen;omega) (by omega) (by have:=HB1.out.size;have:=yu.out;simp;omega) ?_))
   intro v1 w4 h4 hg4 hw4;have HB4:Hid (Below w2.heap.size w2 w4):=hide ((HB1.out.alloc HB1.out.size _).grown hg4 (by have:=HB1.out.size;simp;omega) fun j hj=>by have:=(bC.out.lt j hj).1;have:=yu.out;omega);have H4:=hide h4;clear h4 hg4 hw4
   go_wp2_with fail
   go_roundg (b.length-(q+1))
   case measure=>omega
   case rel =>
    refine⟨q+1,k+2,by omega,rfl,hide (by have:=Hk.out;omega),by rw[show wrap64 ((k:Int)+2)=(k:Int)+2 by have:=Hk.out;unfold wrap64;omega];simp,hide ?_,HB4⟩;have h:=H4.out;rw[List.take_succ_eq_append_getElem hlt];have e1:Lib.byteCells (b.take q++[b[q]])=Lib.byteCells (b.take q)++[.int .u8 (z:Int)]:=by rw[Hz.out];unfold Lib.byteCells;rw[List.map_append];rfl
    rw[e1];exact h
  ·have hki :¬(k:Int)<(s.size:Int):=by have:=Hk.out;have:=gy.out;omega
   have VV :¬k<s.size:=by omega
   have zk:q=b.length:=by omega
   subst zk
   go_wp2_with fail
   go_ret;exact⟨_,rfl,by have:=HO.out;rwa [List.take_length]at this,H1.out.below HB.out,u,by rw[←HU.out,←yu.out];exact HB.out⟩
def Has(w:World)(N n:Nat):Prop:=∀j,j<n→∃v,w.cell? ⟨N,j,none⟩=some v
theorem Has.set{w:World}{N n:Nat}(h:Has w N n)(a:Addr)(u:Value):Has (w.setCell a u) N n:=by
 intro j hj;obtain⟨v,hv⟩:=h j hj;by_cases e:a=⟨N,j,none⟩
 ·subst e;exact⟨u,World.cell?_setCell_same _ _ _ hv⟩
 ·exact⟨v,(World.cell?_setCell_other _ _ _ _ e).trans hv⟩
theorem Has.of_eq{w w':World}{N n:Nat}(h:Has w N n)(he :∀o,w'.cell? ⟨N,o,none⟩=w.cell? ⟨N,o,none⟩):Has w' N n:=fun j hj=>by
 obtain⟨v,hv⟩:=h j hj;exact⟨v,(he j).trans hv⟩
theorem Has.new(w:World)(cs:Array Value)(t:TypeId)(n:Nat)(hn:n≤cs.size):Has (w.alloc (.cells cs t)) w.heap.size n:=fun j hj =>
 ⟨cs[j],by rw[World.cell?_alloc_new,Array.getElem?_eq_getElem (by omega)]⟩
theorem aT{w:World}{N n j:Nat}{v:Value}(h:Has w N n)(hj:j<n):(w.setCell ⟨N,j,none⟩ v).cell? ⟨N,j,none⟩=some v:=by
 obtain⟨u,hu⟩:=h j hj;exact World.cell?_setCell_same _ _ _ hu
theorem Has.new2(w:World)(a:Obj)(cs:Array Value)(t:TypeId)(n:Nat)(hn:n≤cs.size):Has ((w.alloc a).alloc (.cells cs t)).drew (w.heap.size+1) n:=by
 have h:=Has.new (w.alloc a) cs t n hn;rw[show(w.alloc a).heap.size=w.heap.size+1 by simp]at h;exact h
theorem qo(b:Nat){P:Nat→Prop}(hP :¬P b):∀(vs:List Value) (o:Nat) (w:World),Keep P w (w.setCells b o vs)
 | [],_,w=>Keep.refl _ _
 | v::r,o,w=>Keep.trans ((Keep.refl P w).setCell (a:=⟨b,o,none⟩) hP v) (qo b hP r (o+1) (w.setCell ⟨b,o,none⟩ v))
theorem Lm(b:Nat):∀(vs:List Value) (o:Nat) (w:World),(w.setCells b o vs).heap.size=w.heap.size
 | [],_,_=>rfl
 | v::r,o,w=>by rw[World.setCells,Lm b r];simp[World.setCell]
theorem QB{p:Nat}(h:kindRow p=none)(w:World):
  Calls Tryz.prog 283 #[.int .u8 p] w fun e w'=>e = .returned (.tuple #[.agg #[.slice none 0 0,.bool false],.bool false])∧Below w.heap.size w w':=by
 refine(PT p w).mono ?_;rintro e w' ⟨hB,⟨_,he⟩|⟨k',ks,all,A,c,hf,_⟩⟩
 ·exact⟨he,hB⟩
 ·rw[h]at hf;cases hf
theorem zF{p:Nat}{k':Int}{ks:List Int}{all:Bool}(h:kindRow p=some (k',ks,all))(w:World):
  Calls Tryz.prog 283 #[.int .u8 p] w fun e w'=>∃A c,e = .returned (.tuple #[.agg #[.slice A ks.length c,.bool all],.bool true])∧Rd (fun _=>True) w' A (ks.map (.int .u8))∧Below w.heap.size w w':=by
 refine(PT p w).mono ?_;rintro e w' ⟨hB,⟨hf,_⟩|⟨k'',ks',all',A,c,hf,he,hr⟩⟩
 ·rw[h]at hf;cases hf
 ·rw[h]at hf;cases hf;exact⟨A,c,he,hr,hB⟩
theorem Iz :∀r∈kindRows,(∀x∈r.2.1,0≤x∧x<256)∧(r.2.2=true→r.2.1.length=1)∧r.2.1.length≤3:=by decide
theorem QC{p:Nat}{k':Int}{ks:List Int}{all:Bool}(h:kindRow p=some (k',ks,all)){j:Nat}(hj:j<ks.length):∃n:Nat,ks[j]=n:=by
 have:=(Iz _ (zt h).1).1 ks[j] (List.getElem_mem hj);exact⟨ks[j].toNat,by omega⟩
theorem QD(p k i:Nat)(w:World):Calls Tryz.prog 285 #[.int .u8 p,.int .u8 k,.int .i64 i] w fun e w'=>RetB (FitsIn p k i) e∧Below w.heap.size w w':=by
 cases h:kindRow p with
 | none =>
  have H:=hide h;clear h;go_enter Tryz.func285,Tryz.ntmps285
  go_wp2_with(go_at_call 283;refine(QB H.out _).mono ?_;rintro e w1 ⟨rfl,hB⟩;have HB:=hide hB;clear hB)
  go_ret;exact⟨RetB.no (lK H.out k i),HB.out.alloc HB.out.size _⟩
 | some x =>
  obtain⟨k',ks,all⟩:=x;have H:=hide h;have hlen:=(Iz _ (zt h).1).2.2;have hone:=hide (Iz _ (zt h).1).2.1;simp only at hlen;clear h;by_cases hall:all=true
  ·subst hall;have h0:0<ks.length:=by have:=hone.out rfl;simp only at this;omega
   obtain⟨n,hn⟩:=QC H.out h0;have Hn:=hide hn;clear hn;go_enter Tryz.func285,Tryz.ntmps285
   go_wp2_with(first
    | (go_at_call 283;refine(zF H.out _).mono ?_;rintro e w1 ⟨A,c,rfl,hrd,hB⟩;have HB:=hide hB;clear hB;obtain⟨b,o,rfl,hc⟩:=hrd.at_ (j:=0) (by simpa using h0);simp only[List.getElem_map,Hn.out,Nat.add_zero]at hc;have hb:=block_lt_of_cell hc;clear hrd)
    | (go_at_call 298;refine(pJ k n _).mono ?_;rintro e w2 ⟨⟨b2,rfl,hb2⟩,rfl⟩;have Hb:=hide hb2;clear hb2))
   go_ret;exact⟨RetB.mk (by rw[Hb.out,KL H.out];simp[List.getElem?_eq_getElem h0,Hn.out,Int.natCast_inj]),HB.out.alloc HB.out.size _⟩
  ·obtain rfl:all=false:=by simpa using hall
   by_cases h0:i<ks.length
   ·obtain⟨n,hn⟩:=QC H.out h0;have Hn:=hide hn;clear hn hall;go_enter Tryz.func285,Tryz.ntmps285
    go_wp2_with(first
     | (go_at_call 283;refine(zF H.out _).mono ?_;rintro e w1 ⟨A,c,rfl,hrd,hB⟩;have HB:=hide hB;clear hB;obtain⟨b,o,rfl,hc⟩:=hrd.at_ (j:=i) (by simpa using h0);simp only[List.getElem_map,Hn.out]at hc;have hb:=block_lt_of_cell hc;clear hrd)
     | (go_at_call 298;refine(pJ k n _).mono ?_;rintro e w2 ⟨⟨b2,rfl,hb2⟩,rfl⟩;have Hb:=hide hb2;clear hb2))
    go_ret;exact⟨RetB.mk (by rw[Hb.out,KL H.out];simp[List.getElem?_eq_getElem h0,Hn.out,Int.natCast_inj]),HB.out.alloc HB.out.size _⟩
   ·clear hall;go_enter Tryz.func285,Tryz.ntmps285
    go_wp2_with(go_at_call 283;refine(zF H.out _).mono ?_;rintro e w1 ⟨A,c,rfl,hrd,hB⟩;have HB:=hide hB;clear hB;have PU:=hide hrd;clear hrd)
    go_ret;refine⟨RetB.no ?_,HB.out.alloc HB.out.size _⟩;rw[KL H.out];simp[List.getElem?_eq_none (by omega:ks.length≤i)]
end
section
open Go.RowKit
theorem zG(g:Nat):∀(us:List Value) (o:Nat) (w:World) {b:Nat},b≠g→(w.setCells g o us).heap[b]?=w.heap[b]?
 | [],_,_,_,_=>rfl
 | u::us,o,w,b,hb=>(zG g us (o+1) (w.setCell ⟨g,o,none⟩ u) hb).trans (Below.heap_setCell w ⟨g,o,none⟩ u b hb)
theorem QE(g:Nat):∀(us:List Value) (o:Nat) (w:World),(w.setCells g o us).heap.size=w.heap.size
 | [],_,_=>rfl
 | u::us,o,w=>(QE g us (o+1) (w.setCell ⟨g,o,none⟩ u)).trans (by simp[World.setCell])
theorem zH{B g:Nat}(h:B≤g):∀(us:List Value) (o:Nat) (w:World),Below B w (w.setCells g o us)
 | [],_,_=>Below.refl _ _
 | u::us,o,w=>((Below.refl B w).setCell (p:=⟨g,o,none⟩) h u).trans (zH h us (o+1) (w.setCell ⟨g,o,none⟩ u))
section
variable {s : Nat} {mk : Nat → Nat → List Value} {E E2 : TypeId} {w wr w' : World} {LB GB K B : Nat} {vs : Nat → Value} {ns m m' p : Nat → Nat} {T0 T : Nat → Option Nat} {xs : List Value} {J : Nat → Prop}
def FbG(s:Nat)(mk:Nat→Nat→List Value)(E:TypeId)(w:World)(LB K B:Nat)(vs:Nat→Value)(ns m:Nat→Nat)(T:Nat→Option Nat)(wr:World):Prop :=
 RowsG s mk E B K vs ns m T wr∧(LB<w.heap.size∧T LB=none∧∀b,b<w.heap.size→T b=none→wr.heap[b]?=w.heap[b]?)∧Below B w wr
theorem FbG.head{j:Nat}{v:Value}(h:FbG s mk E w LB K B vs ns m T wr)(hc:w.cell? ⟨LB,j,none⟩=some v):wr.cell? ⟨LB,j,none⟩=some v:=(World.cell?_of_block (a:=⟨LB,j,none⟩) (h.2.1.2.2 LB h.2.1.1 h.2.1.2.1)).trans hc
theorem FbG.below(h:FbG s mk E w LB K B vs ns m T wr)(hw:B≤w.heap.size)(hB:Below wr.heap.size wr w'):FbG s mk E w LB K B vs ns m T w' :=
 ⟨h.1.below hB,⟨h.2.1.1,h.2.1.2.1,fun b hb h0=>(hB.block b (aH hb h.2.2.size)).trans (h.2.1.2.2 b hb h0)⟩,h.2.2.trans (hB.mono (aI hw h.2.2.size))⟩
theorem FbG.mark{k i g c o:Nat}(h:FbG s mk E w LB K B vs ns m T wr)(hk:k<K)(hi:i<ns k)(hm:m k=i)(hv:vs k = .slice (some ⟨g,0,none⟩) (ns k) c)(hT:T g=some k)(hB:B≤g)(ho:o=i*s){wF:World}(hw:wF=wr.setCells g o (mk k i)):
  FbG s mk E w LB K B vs ns (fun j=>if j=k then i+1 else m j) T wF:=by
 have hkeep :∀b,b≠g→wF.heap[b]?=wr.heap[b]?:=fun b hb=>by rw[hw];exact zG _ _ _ _ hb
 have hsz:wF.heap.size=wr.heap.size:=by rw[hw];exact QE _ _ _ _
 refine⟨h.1.mark hk hi hm hv hT ho hw,⟨h.2.1.1,h.2.1.2.1,fun b hb h0=>(hkeep b (fun e=>by rw[e,hT]at h0;cases h0)).trans (h.2.1.2.2 b hb h0)⟩,h.2.2.trans ?_⟩;rw[hw];exact zH hB _ _ _
theorem FbG.mono(h:FbG s mk E w LB K B vs ns m T wr)(hm :∀j,j<K→m' j=m j):FbG s mk E w LB K B vs ns m' T wr:=⟨h.1.mono hm,h.2⟩
theorem FgG.below(h:FgG s mk E E2 w LB GB K B vs ns T0 T xs J p wr)(hB:Below wr.heap.size wr w'):FgG s mk E E2 w LB GB K B vs ns T0 T xs J p w' :=
 h.still hB.size (fun b hb _=>hB.block b hb) (hB.mono (aI h.bw h.b.size))
theorem DU{e n c g k i o:Nat}(hs :∀j i,(mk j i).length=s)(h:wr.ownsRow B e s (.slice (some ⟨g,0,none⟩) n c) n (marksG mk k i++xs))(hi:i<n)(ho:o=i*s){wF:World}(hw:wF=wr.setCells g o (mk k i)):
  wF.ownsRow B e s (.slice (some ⟨g,0,none⟩) n c) n (marksG mk k (i+1)++xs.drop s)∧wr.grownBy wF (some g):=by
 subst ho hw;have hl:=h.1;have hll:(marksG mk k i).length=i*s:=oO hs k i;have hup:i*s+s≤n*s:=by rw[←Nat.succ_mul];exact Nat.mul_le_mul_right _ hi
 obtain⟨h1,h2⟩:=Ku (mk k i) (i*s) wr _ h (by rw[hs,hl];exact hup);refine⟨?_,h2⟩;rw[uy,List.append_assoc];have e1:(marksG mk k i++xs).take (i*s)=marksG mk k i:=by rw[←hll,List.take_left'];rfl
 have e2:(marksG mk k i++xs).drop (i*s+(mk k i).length)=xs.drop s:=by rw[hs,←hll,List.drop_append,List.drop_of_length_le (by omega),List.nil_append];congr 1;omega
 rw[e1,e2]at h1;exact h1
theorem DV{e n c g k:Nat}{B:Nat}(hs :∀j i,(mk j i).length=s)(h:wr.ownsRow B e s (.slice (some ⟨g,0,none⟩) n c) n (marksG mk k n++xs)):wr.ownsRow B e s (.slice (some ⟨g,0,none⟩) n c) n (marksG mk k n):=by
 have hl:=h.1;rw[aJ,oO hs]at hl;have:xs=[]:=List.length_eq_zero_iff.1 (by omega);subst this
 simpa using h
theorem qp{e n:Nat}{v:Value}{B:Nat}(h:w.ownsRow B e s v n xs)(hB:Below w.heap.size w w'):w'.ownsRow B e s v n xs:=oN h fun g hg=>hB.block g (h.lt g hg).2
theorem DW(w:World)(cs:List Value)(t:TypeId):∀j u,cs[j]?=some u→(w.alloc (.cells cs.toArray t)).cell? ((⟨w.heap.size,0,none⟩:Addr).add j)=some u:=by
 intro j u hu;rw[Addr.add_lit,Nat.zero_add,World.cell?_alloc_new]
 simpa using hu
end
end
section
open Go.RowKit
def tyB(j:Nat):TypeId:=([202,204,38,205,34,44,206,207,212,39,221,223,228,230,232,234,238,243,249,23,255]:List TypeId)[j]?.getD 0
theorem zI :∀i,i<21→∀j,j<21→i≠j→tyB i≠tyB j:=by decide
def Hd(w:World)(bb B j:Nat)(E:TypeId)(X:List Value):Prop:=∃v,w.cell? ⟨bb,j,none⟩=some v∧(X=[]→v = .slice none 0 0)∧w.ownsRow B E 1 v X.length X
structure BagG(w:World)(bb B:Nat)(X:Nat→List Value):Prop where
 hd :∀j,j<21→Hd w bb B j (tyB j) (X j)
 fz :∀j,w.frozen? ⟨bb,j,none⟩=false
 lt:bb<B
 le:B≤w.heap.size
def addB(X:Nat→List Value)(j:Nat)(l:List Value):Nat→List Value:=fun i=>if i=j then X i++l else X i
theorem IA(X:Nat→List Value)(j:Nat)(l:List Value):addB X j l j=X j++l:=by simp[addB]
theorem DX(X:Nat→List Value){i j:Nat}(l:List Value)(h:i≠j):addB X j l i=X i:=by simp[addB,h]
theorem Lr(X:Nat→List Value)(j:Nat)(l l':List Value):addB (addB X j l) j l'=addB X j (l++l'):=by
 funext i;by_cases h:i=j<;>simp[addB,h]
section
variable {w w' : World} {bb B j : Nat} {E : TypeId} {X : Nat → List Value}
theorem Hd.keep{X:List Value}(h:Hd w bb B j E X)(hc:w'.cell? ⟨bb,j,none⟩=w.cell? ⟨bb,j,none⟩)(hk :∀g cur,B≤g→w.heap[g]?=some (.cells cur E (0,0))→w'.heap[g]?=w.heap[g]?):Hd w' bb B j E X:=by
 obtain⟨v,h1,h0,h2⟩:=h;refine⟨v,hc.trans h1,h0,h2.1,?_⟩;rcases h2.2 with hn|⟨g,cap,cur,rfl,hb,hgg,rest⟩
 ·exact .inl hn
 ·exact .inr ⟨g,cap,cur,rfl,hb,(hk g cur hb hgg).trans hgg,rest⟩
theorem IB{e:TypeId}{size n g:Nat}{v:Value}{xs:List Value}{B:Nat}(h:w.ownsRow B e size v n xs)(hg:v.ownBlock=some g):∃cur,w.heap[g]?=some (.cells cur e (0,0)):=by
 rcases h.2 with⟨rfl,_⟩|⟨g',cap,cur,rfl,hb,hgg,rest⟩
 ·cases hg
 ·injection hg with hg;subst hg;exact⟨cur,hgg⟩
theorem BagG.bb_lt(h:BagG w bb B X):bb<w.heap.size:=aH h.lt h.le
def HK(bb:Nat)(w w':World):Prop:=Below bb w w'∧∀b,b<w.heap.size→b≠bb→(∀cur j,j<21→w.heap[b]?≠some (.cells cur (tyB j) (0,0)))→w'.heap[b]?=w.heap[b]?
theorem HK.bel(h:HK bb w w'):Below bb w w':=h.1
theorem HK.trans{w'':World}(h:HK bb w w')(h':HK bb w' w''):HK bb w w'':=by
 refine⟨h.1.trans h'.1,fun b hb hne ht=>?_⟩;have e:=h.2 b hb hne ht;exact(h'.2 b (aH hb h.1.size) hne (by rw[e];exact ht)).trans e
theorem HK.of_below(h:Below w.heap.size w w')(hb:bb≤w.heap.size):HK bb w w':=⟨h.mono hb,fun b hb _ _=>h.block b hb⟩
theorem HK.alloc(w:World)(o:Obj)(hb:bb≤w.heap.size):HK bb w (w.alloc o):=HK.of_below (ag w o) hb
theorem BagG.put{W w1:World}{v v1 x:Value}(h:BagG w bb B X)(hj:j<21)(hv:w.cell? ⟨bb,j,none⟩=some v)(ha :∀b,b<w.heap.size→W.heap[b]?=w.heap[b]?)(hs:w.heap.size≤W.heap.size)
  (hown:w.ownsRow B (tyB j) 1 v (X j).length (X j)) (h1:w1.ownsRow B (tyB j) 1 v1 ((X j).length+1) (X j++[x])) (hg:W.grownBy w1 v.ownBlock):BagG (w1.setCell ⟨bb,j,none⟩ v1) bb B (addB X j [x]):=by
 have hbl:=h.bb_lt;have hne:v.ownBlock≠some bb:=fun e=>by have:=(hown.lt bb e).1;have:=h.lt;omega
 have hblk:w1.heap[bb]?=w.heap[bb]?:=(hg.block bb (by omega) (fun e=>hne e.symm)).trans (ha bb hbl);have k0:w1.cell? ⟨bb,j,none⟩=some v:=(World.cell?_of_block (a:=⟨bb,j,none⟩) hblk).trans hv;have hne1:v1.ownBlock≠some bb:=fun e=>by have:=(h1.lt bb e).1;have:=h.lt;omega
 have hset :∀k,k≠bb→(w1.setCell ⟨bb,j,none⟩ v1).heap[k]?=w1.heap[k]?:=fun k hk=>Below.heap_setCell _ _ _ k hk;have hsz:=hg.size;refine⟨fun i hi=>?_,fun i=>?_,h.lt,?_⟩
 ·by_cases e:i=j
  ·subst e;rw[IA];refine⟨v1,World.cell?_setCell_same _ _ _ k0,fun e=>by simp at e,?_⟩;rw[aJ];exact h1.kept (row:=some bb) ⟨rfl,rfl,rfl,by simp[World.setCell],fun k _ hk=>hset k (fun e=>hk (by rw[e]))⟩ (.inr hne1)
  ·rw[DX X _ e];refine(h.hd i hi).keep ?_ fun g cur hgB hgc=>?_
   ·rw[World.cell?_setCell_other _ _ _ _ (fun e2=>e (by injection e2 with _ e3;exact e3.symm))];exact World.cell?_of_block (a:=⟨bb,i,none⟩) hblk
   ·have hgl:g<w.heap.size:=(Array.getElem?_eq_some_iff.1 hgc).1;have hb2:=h.lt;rw[hset g (by omega),hg.block g (by omega) (fun e2=>?_),ha g hgl];obtain⟨Kv,hc2⟩:=IB hown e2.symm;rw[hgc]at hc2;injection hc2 with hc2;injection hc2 with _ hc2;exact zI i hi j hj e hc2
 ·rw[World.frozen?_setCell];exact(World.frozen?_of_block (a:=⟨bb,i,none⟩) hblk).trans (h.fz i)
 ·simp only[World.setCell];have:=h.le;simp;omega
theorem BagG.putK{W w1:World}{v v1:Value}(h:BagG w bb B X)(hj:j<21)(ha :∀b,b<w.heap.size→W.heap[b]?=w.heap[b]?)(hW:Below bb w W)
  (hown:w.ownsRow B (tyB j) 1 v (X j).length (X j)) (hg:W.grownBy w1 v.ownBlock):HK bb w (w1.setCell ⟨bb,j,none⟩ v1):=by
 have hbl:=h.bb_lt;refine⟨(hW.trans ((Below.refl _ _).grown hg (aI (Nat.le_of_lt hbl) hW.size) fun k hk=>by have:=(hown.lt k hk).1;have:=h.lt;omega)).setCell (p:=⟨bb,j,none⟩) (aC _) _,fun b hb hne ht=>?_⟩;rw[Below.heap_setCell _ _ _ b hne,hg.block b (aH hb hW.size) (fun e=>?_),ha b hb];obtain⟨cur,hc⟩:=IB hown e.symm;exact ht cur j hj hc
theorem BagG.below(h:BagG w bb B X)(hB:Below w.heap.size w w'):BagG w' bb B X:=by
 refine⟨fun j hj=>(h.hd j hj).keep (hB.cell (p:=⟨bb,j,none⟩) h.bb_lt) fun g cur _ hg=>hB.block g (Array.getElem?_eq_some_iff.1 hg).1,fun j=>(hB.frozen (p:=⟨bb,j,none⟩) h.bb_lt).trans (h.fz j),h.lt,aI h.le hB.size⟩
end
theorem VW:(Tryz.prog.info? 38).map (fun i=>(i.zero,i.size,i.bytes))=some (some (.slice none 0 0),1,24):=by kernel_rfl
theorem VX{w:World}{bb B m c:Nat}{A:Option Addr}{X:Nat→List Value}(hb:BagG w bb B X)(hn:(X 2).length≤1000000):
  Calls Tryz.prog 246 #[.pointer (some ⟨bb,0,none⟩),.slice A m c] w fun e w'=>e = .returned (.tuple #[])∧BagG w' bb B (addB X 2 [.slice A m c])∧HK bb w w':=by
 obtain⟨v,hv,_,hown⟩:=hb.hd 2 (by decide);obtain⟨Av,cv,rfl⟩:=bM hown;have HB:=hide hb;have aY:=hide hown;have hf:=hb.fz 2;have hbl:=hb.bb_lt;clear hb hown;go_enter Tryz.func246,Tryz.ntmps246
 go_wp2_with(at_builtin;refine fE rfl _ _ 72 rfl B 38 Tryz.underlying72 VW rfl (by decide) _ (X 2).length (X 2) rfl (aY.out.alloc _) (some ⟨w.heap.size,0,none⟩) 1 1 [.slice A m c] rfl (by simp) rfl (fun ad e=>by injection e with e;subst e;exact cell_one_new w _ _) (by simp[Value.oneCell']) (by unfold maxLen;omega) (by omega) (aI HB.out.le (by simp)) ?_)
 intro v1 w1 h1 hg1 hw1;have hblk:w1.heap[bb]?=w.heap[bb]?:=(hg1.block bb (by simp;omega) (fun e=>by have:=(aY.out.lt bb e.symm).1;have:=HB.out.lt;omega)).trans (heap_alloc_old w _ hbl);have k0:w1.cell? ⟨bb,2,none⟩=some (.slice Av (X 2).length cv):=(World.cell?_of_block (a:=⟨bb,2,none⟩) hblk).trans hv;have k1:w1.frozen? ⟨bb,2,none⟩=false:=(World.frozen?_of_block (a:=⟨bb,2,none⟩) hblk).trans hf;have HB1:Hid (HK bb w (w1.setCell ⟨bb,2,none⟩ v1)):=hide (HB.out.putK (j:=2) (by decide) (fun b hb=>heap_alloc_old w _ hb) ((ag w _).mono (Nat.le_of_lt hbl)) aY.out hg1);have HG:=hide (HB.out.put (j:=2) (by decide) hv (fun b hb=>heap_alloc_old w _ hb) (by simp) aY.out h1 hg1);obtain⟨A1,c1,rfl⟩:=bM h1;clear h1 hg1 hw1 hblk hv hf HB aY
 go_wp2
 go_end0
 exact⟨rfl,HG.out,HB1.out⟩
theorem VY:(Tryz.prog.info? 34).map (fun i=>(i.zero,i.size,i.bytes))=some (some (.slice none 0 0),1,24):=by kernel_rfl
theorem QF{w:World}{bb B m c:Nat}{A:Option Addr}{X:Nat→List Value}(hb:BagG w bb B X)(hn:(X 4).length≤1000000):
  Calls Tryz.prog 245 #[.pointer (some ⟨bb,0,none⟩),.slice A m c] w fun e w'=>e = .returned (.tuple #[])∧BagG w' bb B (addB X 4 [.slice A m c])∧HK bb w w':=by
 obtain⟨v,hv,_,hown⟩:=hb.hd 4 (by decide);obtain⟨Av,cv,rfl⟩:=bM hown;have HB:=hide hb;have aY:=hide hown;have hf:=hb.fz 4;have hbl:=hb.bb_lt;clear hb hown;go_enter Tryz.func245,Tryz.ntmps245
 go_wp2_with(at_builtin;refine fE rfl _ _ 74 rfl B 34 Tryz.underlying74 VY rfl (by decide) _ (X 4).length (X 4) rfl (aY.out.alloc _) (some ⟨w.heap.size,0,none⟩) 1 1 [.slice A m c] rfl (by simp) rfl (fun ad e=>by injection e with e;subst e;exact cell_one_new w _ _) (by simp[Value.oneCell']) (by unfold maxLen;omega) (by omega) (aI HB.out.le (by simp)) ?_)
 intro v1 w1 h1 hg1 hw1;have hblk:w1.heap[bb]?=w.heap[bb]?:=(hg1.block bb (by simp;omega) (fun e=>by have:=(aY.out.lt bb e.symm).1;have:=HB.out.lt;omega)).trans (heap_alloc_old w _ hbl);have k0:w1.cell? ⟨bb,4,none⟩=some (.slice Av (X 4).length cv):=(World.cell?_of_block (a:=⟨bb,4,none⟩) hblk).trans hv;have k1:w1.frozen? ⟨bb,4,none⟩=false:=(World.frozen?_of_block (a:=⟨bb,4,none⟩) hblk).trans hf;have HB1:Hid (HK bb w (w1.setCell ⟨bb,4,none⟩ v1)):=hide (HB.out.putK (j:=4) (by decide) (fun b hb=>heap_alloc_old w _ hb) ((ag w _).mono (Nat.le_of_lt hbl)) aY.out hg1);have HG:=hide (HB.out.put (j:=4) (by decide) hv (fun b hb=>heap_alloc_old w _ hb) (by simp) aY.out h1 hg1);obtain⟨A1,c1,rfl⟩:=bM h1;clear h1 hg1 hw1 hblk hv hf HB aY
 go_wp2
 go_end0
 exact⟨rfl,HG.out,HB1.out⟩
theorem VZ:(Tryz.prog.info? 44).map (fun i=>(i.zero,i.size,i.bytes))=some (some (.slice none 0 0),1,24):=by kernel_rfl
theorem V3{w:World}{bb B m c:Nat}{A:Option Addr}{X:Nat→List Value}(hb:BagG w bb B X)(hn:(X 5).length≤1000000):
  Calls Tryz.prog 143 #[.pointer (some ⟨bb,0,none⟩),.slice A m c] w fun e w'=>e = .returned (.tuple #[])∧BagG w' bb B (addB X 5 [.slice A m c])∧HK bb w w':=by
 obtain⟨v,hv,_,hown⟩:=hb.hd 5 (by decide);obtain⟨Av,cv,rfl⟩:=bM hown;have HB:=hide hb;have aY:=hide hown;have hf:=hb.fz 5;have hbl:=hb.bb_lt;clear hb hown;go_enter Tryz.func143,Tryz.ntmps143
 go_wp2_with(at_builtin;refine fE rfl _ _ 75 rfl B 44 Tryz.underlying75 VZ rfl (by decide) _ (X 5).length (X 5) rfl (aY.out.alloc _) (some ⟨w.heap.size,0,none⟩) 1 1 [.slice A m c] rfl (by simp) rfl (fun ad e=>by injection e with e;subst e;exact cell_one_new w _ _) (by simp[Value.oneCell']) (by unfold maxLen;omega) (by omega) (aI HB.out.le (by simp)) ?_)
 intro v1 w1 h1 hg1 hw1;have hblk:w1.heap[bb]?=w.heap[bb]?:=(hg1.block bb (by simp;omega) (fun e=>by have:=(aY.out.lt bb e.symm).1;have:=HB.out.lt;omega)).trans (heap_alloc_old w _ hbl);have k0:w1.cell? ⟨bb,5,none⟩=some (.slice Av (X 5).length cv):=(World.cell?_of_block (a:=⟨bb,5,none⟩) hblk).trans hv;have k1:w1.frozen? ⟨bb,5,none⟩=false:=(World.frozen?_of_block (a:=⟨bb,5,none⟩) hblk).trans hf;have HB1:Hid (HK bb w (w1.setCell ⟨bb,5,none⟩ v1)):=hide (HB.out.putK (j:=5) (by decide) (fun b hb=>heap_alloc_old w _ hb) ((ag w _).mono (Nat.le_of_lt hbl)) aY.out hg1);have HG:=hide (HB.out.put (j:=5) (by decide) hv (fun b hb=>heap_alloc_old w _ hb) (by simp) aY.out h1 hg1);obtain⟨A1,c1,rfl⟩:=bM h1;clear h1 hg1 hw1 hblk hv hf HB aY
 go_wp2
 go_end0
 exact⟨rfl,HG.out,HB1.out⟩
end
section
open Go.RowKit
theorem Fo.cnt_drop :∀(f:Fo) (i:Nat) {k:Nat} {t:ByteArray} {n:Int} {ks r:Fo},f.drop i = .cons k t n ks r→ks.cnt<f.cnt∧r=f.drop (i+1):=by
 intro f
 induction f with
 | nil=>intro i k t n ks r h;cases i<;>cases h
 | cons k' t' n' ks' r' _ ih =>
  intro i k t n ks r h;cases i with
  | zero=>cases h;exact⟨by simp only[Fo.cnt];omega,rfl⟩
  | succ i =>
   obtain⟨h1,h2⟩:=ih i h;exact⟨by simp only[Fo.cnt];omega,h2⟩
theorem FoR.step{w:World}{f:Fo}{vs:List Value}{R:List (Value×Nat)}{i:Nat}(h:FoR w (vs.drop (i*4)) (f.drop i) R)(hi:i<f.len):∃k t n ks KA c ys R1 R2,f.drop i = .cons k t n ks (f.drop (i+1))∧ks.cnt<f.cnt∧
  vs[i*4]?=some (.int .u8 k)∧vs[i*4+1]?=some (.string t)∧vs[i*4+2]?=some (.int .i64 n)∧vs[i*4+3]?=some (.slice KA ks.len c)∧
  w.ownsRow 0 218 4 (.slice KA ks.len c) ks.len ys∧FoR w ys ks R1∧FoR w (vs.drop ((i+1)*4)) (f.drop (i+1)) R2∧R=(.slice KA ks.len c,ks.len)::(R1++R2):=by
 match hd:f.drop i with
 | .nil =>
  have:=Fo.len_drop f i;rw[hd]at this;simp[Fo.len]at this;omega
 | .cons k t n ks r =>
  rw[hd]at h;obtain⟨h1,h2⟩:=Fo.cnt_drop f i hd;obtain⟨KA,c,vs',ys,R1,R2,e,_,h4,h5,h6,h7⟩:=h;have g :∀j,vs[i*4+j]?=(vs.drop (i*4))[j]?:=fun j=>by rw[List.getElem?_drop]
  have e2:vs.drop ((i+1)*4)=vs':=by
   rw[Nat.succ_mul,←List.drop_drop,e];rfl
  subst h2;refine⟨k,t,n,ks,KA,c,ys,R1,R2,rfl,h1,?_,?_,?_,?_,h4,h5,by rw[e2];exact h6,h7⟩
  ·rw[←Nat.add_zero (i*4),g 0,e];rfl
  ·rw[g 1,e];rfl
  ·rw[g 2,e];rfl
  ·rw[g 3,e];rfl
theorem kH(R:List (Value×Nat)):R.flatMap (fun r=>ob r.1)=(R.map Prod.fst).flatMap ob:=by simp[List.flatMap_map]
theorem V4:(Tryz.prog.info? 39).map (fun i=>(i.zero,i.size,i.bytes))=some (some (.slice none 0 0),1,24):=by kernel_rfl
abbrev PutN(bb B:Nat)(w:World)(X:Nat→List Value)(A:Option Addr)(c:Nat)(f:Fo)(R:List (Value×Nat)):Prop :=
 Calls Tryz.prog 247 #[.pointer (some ⟨bb,0,none⟩),.slice A f.len c] w fun e w'=>e = .returned (.tuple #[])∧BagG w' bb B (addB X 9 (.slice A f.len c::R.map Prod.fst))∧HK bb w w'
theorem Ls{e size n:Nat}{v:Value}{xs:List Value}{w w':World}{bb:Nat}(h:w.ownsRow 0 e size v n xs)(hl :∀b∈ob v,b<bb)(hB:Below bb w w'):w'.ownsRow 0 e size v n xs:=Dv h fun b hb=>hB.block b (hl b hb)
theorem FoR.low{f:Fo}{vs:List Value}{R:List (Value×Nat)}{w w':World}{bb:Nat}(h:FoR w vs f R)(hl :∀b∈obs R,b<bb)(hB:Below bb w w'):FoR w' vs f R:=h.keep fun b hb=>hB.block b (hl b hb)
theorem V5{w:World}{bb B m c:Nat}{A:Option Addr}{X:Nat→List Value}{f:Fo}{vs:List Value}{R:List (Value×Nat)}(hm:f.len=m)
  (ih :∀(w':World) (X':Nat→List Value) (A':Option Addr) (c':Nat) (f':Fo) (ys:List Value) (R':List (Value×Nat)),f'.cnt<f.cnt→BagG w' bb B X'→(X' 9).length+R'.length≤1000000→w'.ownsRow 0 218 4 (.slice A' f'.len c') f'.len ys→FoR w' ys f' R'→(∀b∈ob (.slice A' f'.len c')++obs R',b<bb)→PutN bb B w' X' A' c' f' R')
  (hb:BagG w bb B X) (hn:(X 9).length+R.length≤1000000) (ho:w.ownsRow 0 218 4 (.slice A m c) m vs) (hf:FoR w vs f R) (hlow :∀b∈ob (.slice A m c)++obs R,b<bb):
  Calls Tryz.prog 247 #[.pointer (some ⟨bb,0,none⟩),.slice A m c] w fun e w'=>e = .returned (.tuple #[])∧BagG w' bb B (addB X 9 (.slice A m c::R.map Prod.fst))∧HK bb w w':=by
 have Ho:=hide ho;have Hf:=hide hf;have DY:=hide hlow;have Ih:=hide ih;have hmc:=vC ho rfl;clear ih ho hf hlow;obtain⟨v,hv,_,hown⟩:=hb.hd 9 (by decide);obtain⟨Av,cv,rfl⟩:=bM hown;have HB:=hide hb;have aY:=hide hown;have hf:=hb.fz 9;have hbl:=hb.bb_lt;clear hb hown;go_enter Tryz.func247,Tryz.ntmps247
 go_wp2_with(at_builtin;refine fE rfl _ _ 79 rfl B 39 Tryz.underlying79 V4 rfl (by decide) _ (X 9).length (X 9) rfl (aY.out.alloc _) (some ⟨w.heap.size,0,none⟩) 1 1 [.slice A m c] rfl (by simp) rfl (fun ad e=>by injection e with e;subst e;exact cell_one_new w _ _) (by simp[Value.oneCell']) (by unfold maxLen;omega) (by omega) (aI HB.out.le (by simp)) ?_)
 intro v1 w1 h1 hg1 hw1;have hblk:w1.heap[bb]?=w.heap[bb]?:=(hg1.block bb (by simp;omega) (fun e=>by have:=(aY.out.lt bb e.symm).1;have:=HB.out.lt;omega)).trans (heap_alloc_old w _ hbl);have k0:w1.cell? ⟨bb,9,none⟩=some (.slice Av (X 9).length cv):=(World.cell?_of_block (a:=⟨bb,9,none⟩) hblk).trans hv;have k1:w1.frozen? ⟨bb,9,none⟩=false:=(World.frozen?_of_block (a:=⟨bb,9,none⟩) hblk).trans hf;have HB1:Hid (HK bb w (w1.setCell ⟨bb,9,none⟩ v1)):=hide (HB.out.putK (j:=9) (by decide) (fun b hb=>heap_alloc_old w _ hb) ((ag w _).mono (Nat.le_of_lt hbl)) aY.out hg1);have HG:=hide (HB.out.put (j:=9) (by decide) hv (fun b hb=>heap_alloc_old w _ hb) (by simp) aY.out h1 hg1);obtain⟨A1,c1,rfl⟩:=bM h1;clear h1 hg1 hw1 hblk hv hf HB aY
 go_wp2_with fail
 go_loopg [4] m (fun g i wx=>∃(q:Nat) (Rd Rr:List (Value×Nat)),q≤m∧g=m-q∧i = .int .i64 q∧Hid (R=Rd++Rr)∧Hid (FoR w (vs.drop (q*4)) (f.drop q) Rr)∧Hid (BagG wx bb B (addB X 9 (.slice A m c::Rd.map Prod.fst)))∧Hid (HK bb w wx))
 case atStart=>exact⟨0,[],R,by omega,by omega,rfl,hide rfl,hide (by simpa[Fo.drop]using Hf.out),HG,HB1⟩
 case round =>
 clear HG HB1 k0 k1;obtain⟨q,Rd,Rr,hq,hg,rfl,HR,QG,HG,HB⟩:=hrel;by_cases hlt:q<m
 ·obtain⟨k,t,n,ks,KA,kc,ys,R1,R2,hd,hcnt,g0,g1,g2,g3,h4,h5,h6,h7⟩:=QG.out.step (by omega);have fU:=Ho.out;obtain⟨gb,rfl⟩:∃g,A=some ⟨g,0,none⟩:=by
   rcases fU.2 with⟨_,h0⟩|⟨g,cap,cur,e,_⟩
   ·omega
   ·injection e with e;exact⟨g,e⟩
  have hgl:gb<bb:=DY.out gb (by simp[ob,Value.ownBlock]);have hcell :∀j u,vs[j]?=some u→wr.cell? ⟨gb,j,none⟩=some u:=fun j u hu=>by
   have h1:=fU.cells (g:=gb) rfl j u hu;rw[Addr.add_lit,Nat.zero_add]at h1;exact(World.cell?_of_block (a:=⟨gb,j,none⟩) (HB.out.1.block gb hgl)).trans h1
  have x0:=hcell _ _ g0;have x1:=hcell _ _ g1;have x2:=hcell _ _ g2;have x3:=hcell _ _ g3;have hlb :∀b∈ob (.slice KA ks.len kc)++obs R1,b<bb:=fun b hb=>DY.out b (by
   rw[HR.out,h7,zo,BF,zo];simp only[List.mem_append]at hb⊢;rcases hb with hb|hb
   ·exact .inr (.inr (.inl hb))
   ·exact .inr (.inr (.inr (.inl hb))))
  have hlen:Rd.length+(1+R1.length+R2.length)=R.length:=by rw[HR.out,h7];simp;omega
  have HC:Hid (∀(o:Obj),PutN bb B (wr.alloc o) (addB X 9 (.slice (some ⟨gb,0,none⟩) m c::Rd.map Prod.fst)) KA kc ks R1):=hide fun o =>
   Ih.out _ _ _ _ _ ys _ hcnt (HG.out.below (ag wr o)) (by rw[IA];simp;omega) (Ls h4 (fun b hb=>hlb b (by simp[hb])) (HB.out.1.trans ((ag wr o).mono (by have:=HG.out.bb_lt;omega)))) (h5.low (fun b hb=>hlb b (by simp[hb])) (HB.out.1.trans ((ag wr o).mono (by have:=HG.out.bb_lt;omega)))) hlb
  have hone:Hid (Calls Tryz.prog 276 #[.pointer (some ⟨bb,0,none⟩),.agg #[.int .u8 k,.string t,.int .i64 n,.slice KA ks.len kc]] wr fun e w'=>e = .returned (.tuple #[])∧BagG w' bb B (addB X 9 (.slice (some ⟨gb,0,none⟩) m c::(Rd.map Prod.fst ++ .slice KA ks.len kc::R1.map Prod.fst)))∧HK bb wr w'):=hide (by
   have hbw:=HG.out.bb_lt;clear hcell x0 x1 x2 x3 g0 g1 g2 g3 h4 h5 h6 hlb hd;go_enter Tryz.func276,Tryz.ntmps276
   go_wp2_with(go_at_call 247;(with_reducible refine(HC.out _).mono ?_);rintro e1 w1 ⟨rfl,hG1,hB1⟩)
   go_end0
   exact⟨rfl,by rw[Lr]at hG1;simpa using hG1,(HK.alloc wr _ (Nat.le_of_lt hbw)).trans hB1⟩)
  have IC:=hide h7;have h6':=hide h6;clear h4 h5 h6 h7 hcell g0 g1 g2 g3 hd HC fU
  go_wp2_with(go_at_call 276;(with_reducible refine hone.out.mono ?_);rintro e1 w1 ⟨rfl,hG1,hB1⟩)
  go_roundg (m-(q+1))
  case measure=>omega
  case rel=>exact⟨q+1,Rd++(.slice KA ks.len kc,ks.len)::R1,R2,by omega,rfl,by go_num,hide (by rw[HR.out,IC.out];simp),h6',hide (by simpa using hG1),hide (HB.out.trans hB1)⟩
 ·go_wp2_with fail
  go_end0
  have hqm:q=f.len:=by omega
  have h0:=QG.out;rw[Fo.drop_len f q (by omega)]at h0;have hR:R=Rd:=by rw[HR.out,h0.2,List.append_nil]
  exact⟨rfl,by rw[hR];exact HG.out,HB.out⟩
theorem V6(n:Nat):∀(w:World) (X:Nat→List Value) (bb B:Nat) (A:Option Addr) (c:Nat) (f:Fo) (vs:List Value) (R:List (Value×Nat)),f.cnt<n→BagG w bb B X→(X 9).length+R.length≤1000000→w.ownsRow 0 218 4 (.slice A f.len c) f.len vs→FoR w vs f R→(∀b∈ob (.slice A f.len c)++obs R,b<bb)→PutN bb B w X A c f R:=by
 induction n with
 | zero=>intro w X bb B A c f vs R h;omega
 | succ n ih =>
  intro w X bb B A c f vs R h hb hn ho hf hl;exact V5 rfl (fun w' X' A' c' f' ys R' hc hb' hn' ho' hf' hl'=>ih w' X' bb B A' c' f' ys R' (by omega) hb' hn' ho' hf' hl') hb hn ho hf hl
theorem QH{w:World}{bb B c:Nat}{A:Option Addr}{X:Nat→List Value}{f:Fo}{vs:List Value}{R:List (Value×Nat)}(hb:BagG w bb B X)(hn:(X 9).length+R.length≤1000000)(ho:w.ownsRow 0 218 4 (.slice A f.len c) f.len vs)(hf:FoR w vs f R)(hlow :∀b∈ob (.slice A f.len c)++obs R,b<bb):
  PutN bb B w X A c f R:=V6 (f.cnt+1) w X bb B A c f vs R (by omega) hb hn ho hf hlow
def addAll(X F:Nat→List Value):Nat→List Value:=fun j=>X j++F j
theorem qw(X:Nat→List Value)(j:Nat)(l:List Value):addB X j l=addAll X (fun i=>if i=j then l else[]):=by
 funext i;by_cases h:i=j<;>simp[addB,addAll,h]
theorem V7(X F G:Nat→List Value):addAll (addAll X F) G=addAll X (fun j=>F j++G j):=by funext j;simp[addAll]
structure PIt where
 x:Ph
 p:Pt
 vo:List Value
 Ro:List (Value×Nat)
 vn:List Value
 Rn:List (Value×Nat)
def PIt.rows(it:PIt)(j:Nat):List Value :=
 if j=2 then[.slice it.x.e.pA it.p.edit.path.length it.x.e.pc]else if j=4 then[.slice it.x.h.oA it.p.hunk.old.length it.x.h.oc,.slice it.x.h.nA it.p.hunk.new.length it.x.h.nc]else if j=9 then(.slice it.x.e.oA it.p.edit.old.len it.x.e.oc::it.Ro.map Prod.fst)++(.slice it.x.e.nA it.p.edit.new.len it.x.e.nc::it.Rn.map Prod.fst)else[]
structure PIt.ok(it:PIt)(w:World)(bb:Nat):Prop where
 old:w.ownsRow 0 218 4 (.slice it.x.e.oA it.p.edit.old.len it.x.e.oc) it.p.edit.old.len it.vo
 oldR:FoR w it.vo it.p.edit.old it.Ro
 new:w.ownsRow 0 218 4 (.slice it.x.e.nA it.p.edit.new.len it.x.e.nc) it.p.edit.new.len it.vn
 newR:FoR w it.vn it.p.edit.new it.Rn
 oldL :∀b∈ob (.slice it.x.e.oA it.p.edit.old.len it.x.e.oc)++obs it.Ro,b<bb
 newL :∀b∈ob (.slice it.x.e.nA it.p.edit.new.len it.x.e.nc)++obs it.Rn,b<bb
theorem PIt.ok.below{it:PIt}{w w':World}{bb:Nat}(h:it.ok w bb)(hB:Below bb w w'):it.ok w' bb :=
 ⟨Ls h.old (fun b hb=>h.oldL b (by simp[hb])) hB,h.oldR.low (fun b hb=>h.oldL b (by simp[hb])) hB,Ls h.new (fun b hb=>h.newL b (by simp[hb])) hB,h.newR.low (fun b hb=>h.newL b (by simp[hb])) hB,h.oldL,h.newL⟩
theorem QI{α:Type}{s:Nat}(f:α→List Value)(hs :∀a,(f a).length=s):∀{l:List α} {q:Nat} {a:α},l[q]?=some a→∀t,t<s→(l.flatMap f)[q*s+t]?=(f a)[t]?
 | b::l,0,a,h,t,ht=>by
  injection h with h;subst h;rw[List.flatMap_cons,Nat.zero_mul,Nat.zero_add,List.getElem?_append_left (by rw[hs];exact ht)]
 | b::l,q+1,a,h,t,ht=>by
  rw[List.flatMap_cons,List.getElem?_append_right (by rw[hs,Nat.succ_mul];omega),hs,show(q+1)*s+t-s=q*s+t by rw[Nat.succ_mul];omega];exact QI f hs (by simpa using h) t ht
theorem Lt{α:Type}{l:List α}{q:Nat}{a:α}(h:l[q]?=some a):l.take (q+1)=l.take q++[a]:=by
 rw[List.take_add_one,h];rfl
theorem QJ{α:Type}(f:α→List Value){l:List α}{q:Nat}{a:α}(h:l[q]?=some a):((l.take q).flatMap f).length+(f a).length≤(l.flatMap f).length:=by
 have e:=congrArg (fun x=>(List.flatMap f x).length) (List.take_append_drop (q+1) l);simp only[List.flatMap_append,aJ,Lt h,List.flatMap_cons,List.flatMap_nil,List.append_nil]at e;omega
theorem IE{bb:Nat}{w w':World}{cs:Array Value}{T:TypeId}(h:HK bb (w.alloc (.cells cs T)) w')(hb:bb<w.heap.size)(hT :∀j,j<21→tyB j≠T):w'.heap[w.heap.size]?=some (.cells cs T):=by
 rw[h.2 w.heap.size (by simp) (by omega) fun cur j hj e=>?_]
 ·exact heap_alloc_new w _
 ·rw[heap_alloc_new w _]at e;injection e with e;injection e with _ e;exact hT j hj e.symm
theorem IG :∀j,j<21→tyB j≠36∧tyB j≠41∧tyB j≠43:=by decide
theorem zip{w:World}{bb B:Nat}{X:Nat→List Value}{it:PIt}(hb:BagG w bb B X)(hn:(X 4).length+2≤1000000):
  Calls Tryz.prog 204 #[.pointer (some ⟨bb,0,none⟩),.agg #[.int .i64 it.p.hunk.at_,.slice it.x.h.oA it.p.hunk.old.length it.x.h.oc,.slice it.x.h.nA it.p.hunk.new.length it.x.h.nc]] w fun e w'=>e = .returned (.tuple #[])∧BagG w' bb B (addB X 4 [.slice it.x.h.oA it.p.hunk.old.length it.x.h.oc,.slice it.x.h.nA it.p.hunk.new.length it.x.h.nc])∧HK bb w w':=by
 have hbl:=hb.bb_lt;have C1:Hid (∀o,Calls Tryz.prog 245 #[.pointer (some ⟨bb,0,none⟩),.slice it.x.h.oA it.p.hunk.old.length it.x.h.oc] (w.alloc o) fun e w'=>e = .returned (.tuple #[])∧BagG w' bb B (addB X 4 [.slice it.x.h.oA it.p.hunk.old.length it.x.h.oc])∧HK bb (w.alloc o) w'):=hide fun o=>QF (hb.below (ag w o)) (by omega);have C2:Hid (∀W,BagG W bb B (addB X 4 [.slice it.x.h.oA it.p.hunk.old.length it.x.h.oc])→Calls Tryz.prog 245 #[.pointer (some ⟨bb,0,none⟩),.slice it.x.h.nA it.p.hunk.new.length it.x.h.nc] W fun e w'=>e = .returned (.tuple #[])∧BagG w' bb B (addB (addB X 4 [.slice it.x.h.oA it.p.hunk.old.length it.x.h.oc]) 4 [.slice it.x.h.nA it.p.hunk.new.length it.x.h.nc])∧HK bb W w'):=hide fun W hW=>QF hW (by rw[IA];simp;omega);clear hb;go_enter Tryz.func204,Tryz.ntmps204
 go_wp2_with(first
  | (go_at_call 245;(with_reducible refine(C1.out _).mono ?_);rintro e1 w1 ⟨rfl,hG,hK⟩;have hx:=Lib.cell_of_heap (IE hK hbl fun j hj=>(IG j hj).1);have x2:=hx 2;simp only[List.getElem?_toArray,List.getElem?_cons_zero,List.getElem?_cons_succ]at x2;clear hx;have zJ:=hide hG;have vJ:=hide ((HK.alloc w _ (Nat.le_of_lt hbl)).trans hK);clear hG hK)
  | (go_at_call 245;(with_reducible refine(C2.out _ zJ.out).mono ?_);rintro e2 w2 ⟨rfl,hG,hK⟩;have HG2:=hide hG;have yx:=hide (vJ.out.trans hK);clear hG hK))
 go_end0
 exact⟨rfl,by have:=HG2.out;rwa [Lr]at this,yx.out⟩
theorem V8{w:World}{bb B:Nat}{X:Nat→List Value}{it:PIt}(hb:BagG w bb B X)(hi:it.ok w bb)(hn2:(X 2).length+1≤1000000)(hn9:(X 9).length+(it.Ro.length+it.Rn.length+2)≤1000000):
  Calls Tryz.prog 205 #[.pointer (some ⟨bb,0,none⟩),.agg #[.int .u8 it.p.edit.kind,.slice it.x.e.pA it.p.edit.path.length it.x.e.pc,.int .i64 it.p.edit.at_,.int .i64 it.p.edit.far,.string it.p.edit.frm,.string it.p.edit.to,.slice it.x.e.oA it.p.edit.old.len it.x.e.oc,.slice it.x.e.nA it.p.edit.new.len it.x.e.nc]] w fun e w'=>e = .returned (.tuple #[])∧BagG w' bb B (addB (addB X 2 [.slice it.x.e.pA it.p.edit.path.length it.x.e.pc]) 9 ((.slice it.x.e.oA it.p.edit.old.len it.x.e.oc::it.Ro.map Prod.fst)++(.slice it.x.e.nA it.p.edit.new.len it.x.e.nc::it.Rn.map Prod.fst)))∧HK bb w w':=by
 have hbl:=hb.bb_lt;have Hi:=hide hi;have C1:Hid (∀o,Calls Tryz.prog 246 #[.pointer (some ⟨bb,0,none⟩),.slice it.x.e.pA it.p.edit.path.length it.x.e.pc] (w.alloc o) fun e w'=>e = .returned (.tuple #[])∧BagG w' bb B (addB X 2 [.slice it.x.e.pA it.p.edit.path.length it.x.e.pc])∧HK bb (w.alloc o) w'):=hide fun o=>VX (hb.below (ag w o)) (by omega);have C2:Hid (∀W,BagG W bb B (addB X 2 [.slice it.x.e.pA it.p.edit.path.length it.x.e.pc])→Below bb w W→PutN bb B W (addB X 2 [.slice it.x.e.pA it.p.edit.path.length it.x.e.pc]) it.x.e.oA it.x.e.oc it.p.edit.old it.Ro):=hide fun W hW hB=>QH hW (by rw[DX _ _ (by decide)];omega) (Hi.out.below hB).old (Hi.out.below hB).oldR Hi.out.oldL;have C3:Hid (∀W,BagG W bb B (addB (addB X 2 [.slice it.x.e.pA it.p.edit.path.length it.x.e.pc]) 9 (.slice it.x.e.oA it.p.edit.old.len it.x.e.oc::it.Ro.map Prod.fst))→Below bb w W→PutN bb B W (addB (addB X 2 [.slice it.x.e.pA it.p.edit.path.length it.x.e.pc]) 9 (.slice it.x.e.oA it.p.edit.old.len it.x.e.oc::it.Ro.map Prod.fst)) it.x.e.nA it.x.e.nc it.p.edit.new it.Rn):=hide fun W hW hB=>QH hW (by rw[IA,DX _ _ (by decide)];simp;omega) (Hi.out.below hB).new (Hi.out.below hB).newR Hi.out.newL;clear hb hi;go_enter Tryz.func205,Tryz.ntmps205
 go_wp2_with(first
  | (go_at_call 246;(with_reducible refine(C1.out _).mono ?_);rintro e1 w1 ⟨rfl,hG,hK⟩;have hbx:=IE hK hbl fun j hj=>(IG j hj).2.1;have hx:=Lib.cell_of_heap hbx;have x6:=hx 6;have x7:=hx 7;simp only[List.getElem?_toArray,List.getElem?_cons_zero,List.getElem?_cons_succ]at x6 x7;clear hx;have HX:=hide hbx;have zJ:=hide hG;have vJ:=hide ((HK.alloc w _ (Nat.le_of_lt hbl)).trans hK);have hsz1:=hK.1.size;clear hG hK hbx)
  | (go_at_call 247;(with_reducible refine(C2.out _ zJ.out vJ.out.bel).mono ?_);rintro e2 w2 ⟨rfl,hG,hK⟩;have hbx:=(hK.2 w.heap.size (by simp at hsz1;omega) (by omega) (fun cur j hj e=>by rw[HX.out]at e;injection e with e;injection e with _ e;exact(IG j hj).2.1 e.symm)).trans HX.out;have hx:=Lib.cell_of_heap hbx;have y7:=hx 7;simp only[List.getElem?_toArray,List.getElem?_cons_zero,List.getElem?_cons_succ]at y7;clear hx hbx;have HG2:=hide hG;have yx:=hide (vJ.out.trans hK);clear hG hK)
  | (go_at_call 247;(with_reducible refine(C3.out _ HG2.out yx.out.bel).mono ?_);rintro e3 w3 ⟨rfl,hG,hK⟩;have DZ:=hide hG;have V9:=hide (yx.out.trans hK);clear hG hK))
 go_end0
 exact⟨rfl,by have:=DZ.out;rwa [Lr]at this,V9.out⟩
theorem PIt.rows_eq(X:Nat→List Value)(it:PIt):addB (addB (addB X 4 [.slice it.x.h.oA it.p.hunk.old.length it.x.h.oc,.slice it.x.h.nA it.p.hunk.new.length it.x.h.nc]) 2 [.slice it.x.e.pA it.p.edit.path.length it.x.e.pc]) 9 ((.slice it.x.e.oA it.p.edit.old.len it.x.e.oc::it.Ro.map Prod.fst)++(.slice it.x.e.nA it.p.edit.new.len it.x.e.nc::it.Rn.map Prod.fst))=addAll X it.rows:=by
 funext j;simp only[addB,addAll,PIt.rows];by_cases h2:j=2
 ·subst h2;simp
 ·by_cases h4:j=4
  ·subst h4;simp
  ·by_cases h9:j=9
   ·subst h9;simp
   ·simp[h2,h4,h9]
theorem We{w:World}{bb B:Nat}{X:Nat→List Value}{it:PIt}(hb:BagG w bb B X)(hi:it.ok w bb)(hn :∀j,(X j).length+(it.rows j).length≤1000000):
  Calls Tryz.prog 142 #[.pointer (some ⟨bb,0,none⟩),.agg #[.int .u8 it.p.kind,.string it.p.file,.string it.p.text,.int .i64 it.p.hunk.at_,.slice it.x.h.oA it.p.hunk.old.length it.x.h.oc,.slice it.x.h.nA it.p.hunk.new.length it.x.h.nc,.int .u8 it.p.edit.kind,.slice it.x.e.pA it.p.edit.path.length it.x.e.pc,.int .i64 it.p.edit.at_,.int .i64 it.p.edit.far,.string it.p.edit.frm,.string it.p.edit.to,.slice it.x.e.oA it.p.edit.old.len it.x.e.oc,.slice it.x.e.nA it.p.edit.new.len it.x.e.nc]] w fun e w'=>e = .returned (.tuple #[])∧BagG w' bb B (addAll X it.rows)∧HK bb w w':=by
 have hbl:=hb.bb_lt;have h2:=hn 2;have h4:=hn 4;have h9:=hn 9;simp[PIt.rows]at h2 h4 h9;have Hi:=hide hi;have C1:Hid (∀o,Calls Tryz.prog 204 #[.pointer (some ⟨bb,0,none⟩),.agg #[.int .i64 it.p.hunk.at_,.slice it.x.h.oA it.p.hunk.old.length it.x.h.oc,.slice it.x.h.nA it.p.hunk.new.length it.x.h.nc]] (w.alloc o) fun e w'=>e = .returned (.tuple #[])∧BagG w' bb B (addB X 4 [.slice it.x.h.oA it.p.hunk.old.length it.x.h.oc,.slice it.x.h.nA it.p.hunk.new.length it.x.h.nc])∧HK bb (w.alloc o) w'):=hide fun o=>zip (hb.below (ag w o)) (by omega);have C2:Hid (∀W,BagG W bb B (addB X 4 [.slice it.x.h.oA it.p.hunk.old.length it.x.h.oc,.slice it.x.h.nA it.p.hunk.new.length it.x.h.nc])→Below bb w W→Calls Tryz.prog 205 #[.pointer (some ⟨bb,0,none⟩),.agg #[.int .u8 it.p.edit.kind,.slice it.x.e.pA it.p.edit.path.length it.x.e.pc,.int .i64 it.p.edit.at_,.int .i64 it.p.edit.far,.string it.p.edit.frm,.string it.p.edit.to,.slice it.x.e.oA it.p.edit.old.len it.x.e.oc,.slice it.x.e.nA it.p.edit.new.len it.x.e.nc]] W fun e w'=>e = .returned (.tuple #[])∧BagG w' bb B (addB (addB (addB X 4 [.slice it.x.h.oA it.p.hunk.old.length it.x.h.oc,.slice it.x.h.nA it.p.hunk.new.length it.x.h.nc]) 2 [.slice it.x.e.pA it.p.edit.path.length it.x.e.pc]) 9 ((.slice it.x.e.oA it.p.edit.old.len it.x.e.oc::it.Ro.map Prod.fst)++(.slice it.x.e.nA it.p.edit.new.len it.x.e.nc::it.Rn.map Prod.fst)))∧HK bb W w'):=hide fun W hW hB=>V8 hW (Hi.out.below hB) (by rw[DX _ _ (by decide)];omega) (by rw[DX _ _ (by decide)];omega);clear hb hi hn h2 h4 h9;go_enter Tryz.func142,Tryz.ntmps142
 go_wp2_with(first
  | (go_at_call 204;(with_reducible refine(C1.out _).mono ?_);rintro e1 w1 ⟨rfl,hG,hK⟩;have hx:=Lib.cell_of_heap (IE hK hbl fun j hj=>(IG j hj).2.2);have x6:=hx 6;have x7:=hx 7;have x8:=hx 8;have x9:=hx 9;have x10:=hx 10;have x11:=hx 11;have x12:=hx 12;have Wh:=hx 13;simp only[List.getElem?_toArray,List.getElem?_cons_zero,List.getElem?_cons_succ]at x6 x7 x8 x9 x10 x11 x12 Wh;clear hx;have zJ:=hide hG;have vJ:=hide ((HK.alloc w _ (Nat.le_of_lt hbl)).trans hK);clear hG hK)
  | (go_at_call 205;(with_reducible refine(C2.out _ zJ.out vJ.out.bel).mono ?_);rintro e2 w2 ⟨rfl,hG,hK⟩;have HG2:=hide hG;have yx:=hide (vJ.out.trans hK);clear hG hK))
 go_end0
 exact⟨rfl,by have:=HG2.out;rwa [PIt.rows_eq]at this,yx.out⟩
end
section
open Go.RowKit
def OwnL(E:TypeId)(s B:Nat)(l:List Value)(w:World):Prop:=∀v∈l,∃A n c xs,v = .slice A n c∧w.ownsRow B E s v n xs
def vsOf(l:List Value)(j:Nat):Value:=l[j]?.getD (.slice none 0 0)
def lenV:Value→Nat
 | .slice _ n _=>n
 | _=>0
def nsOf(l:List Value)(j:Nat):Nat:=lenV (vsOf l j)
def tagOf(l:List Value)(g:Nat):Option Nat:=l.findIdx? fun v=>decide (v.ownBlock=some g)
theorem D5{l:List Value}{j:Nat}(h:j<l.length):vsOf l j=l[j]:=by simp[vsOf,h]
theorem Lu{l:List Value}{g:Nat}(h:tagOf l g≠none):∃v∈l,v.ownBlock=some g:=by
 unfold tagOf at h
 match hf:l.findIdx? (fun v=>decide (v.ownBlock=some g))with
 | none=>exact absurd hf h
 | some i =>
  obtain⟨hi,h1,_⟩:=List.findIdx?_eq_some_iff_getElem.1 hf;exact⟨l[i],List.getElem_mem hi,by simpa using h1⟩
theorem Wi{l:List Value}(h:(l.flatMap ob).Nodup){i j g:Nat}(hi:i<l.length)(hj:j<l.length)(hij:i<j)(h1:l[i].ownBlock=some g)(h2:l[j].ownBlock=some g):False:=by
 have e:l=l.take j++l[j]::l.drop (j+1):=by rw[←List.drop_eq_getElem_cons hj,List.take_append_drop]
 rw[e,List.flatMap_append,List.flatMap_cons]at h;have hd:=(List.nodup_append.1 h).2.2;refine hd g (List.mem_flatMap.2 ⟨l[i],List.mem_take_iff_getElem.2 ⟨i,by omega,rfl⟩,fA.2 h1⟩) g (List.mem_append_left _ (fA.2 h2)) rfl
theorem qx{l:List Value}(h:(l.flatMap ob).Nodup){j g:Nat}(hj:j<l.length)(hg:l[j].ownBlock=some g):tagOf l g=some j:=by
 unfold tagOf;rw[List.findIdx?_eq_some_iff_getElem];refine⟨hj,by simpa using hg,fun i hi=>?_⟩;simp only[decide_eq_true_eq];exact fun e=>Wi h (Nat.lt_trans hi hj) hj hi e hg
theorem nX{l:List Value}{bb b:Nat}(h :∀v∈l,∀g∈ob v,g<bb)(hb:bb≤b):tagOf l b=none:=by
 match ht:tagOf l b with
 | none=>rfl
 | some i =>
  obtain⟨v,hv,e⟩:=Lu (l:=l) (g:=b) (by rw[ht];exact fun e=>by cases e);have:=h v hv b (fA.2 e);omega
section
variable {w w' : World} {E E' : TypeId} {s s' B : Nat} {l l' : List Value}
theorem OwnL.rows{mk:Nat→Nat→List Value}(h:OwnL E s B l w)(hs :∀j i,(mk j i).length=s)(hd:(l.flatMap ob).Nodup):RowsG s mk E B l.length (vsOf l) (nsOf l) (fun _=>0) (tagOf l) w:=by
 refine⟨hs,fun j hj=>?_,fun j hj g hg=>?_,fun g hg=>?_⟩
 ·obtain⟨A,n,c,xs,e,ho⟩:=h _ (List.getElem_mem hj);have e2:nsOf l j=n:=by rw[nsOf,D5 hj,e];rfl
  exact⟨xs,by rw[D5 hj,e2,xU,List.nil_append];exact ho⟩
 ·rw[D5 hj]at hg;exact qx hd hj hg
 ·obtain⟨v,hv,e⟩:=Lu hg;obtain⟨A,n,c,xs,_,ho⟩:=h v hv;exact ho.lt g e
theorem OwnL.below(h:OwnL E s B l w)(hB:Below w.heap.size w w'):OwnL E s B l w':=fun v hv=>by
 obtain⟨A,n,c,xs,e,ho⟩:=h v hv;exact⟨A,n,c,xs,e,qp ho hB⟩
theorem OwnL.flat{B':Nat}(h:OwnL E s B l w)(h':OwnL E' s' B' l' w)(hE:E≠E')(hk :∀b,b<w.heap.size→tagOf l' b=none→w'.heap[b]?=w.heap[b]?):OwnL E s B l w':=fun v hv=>by
 obtain⟨A,n,c,xs,e,ho⟩:=h v hv;refine⟨A,n,c,xs,e,oN ho fun g hg=>hk g (ho.lt g hg).2 ?_⟩
 match ht:tagOf l' g with
 | none=>rfl
 | some i =>
  obtain⟨v',hv',e'⟩:=Lu (l:=l') (g:=g) (by rw[ht];exact fun e=>by cases e);obtain⟨_,_,_,_,_,ho'⟩:=h' v' hv';obtain⟨c1,k1⟩:=IB ho hg;obtain⟨c2,k2⟩:=IB ho' e';rw[k1]at k2;injection k2 with k2;injection k2 with _ k2;exact absurd k2 hE
theorem bQ{b o:Nat}{v:Value}(h:w'.heap[b]?=w.heap[b]?)(hc:w.cell? ⟨b,o,none⟩=some v):w'.cell? ⟨b,o,none⟩=some v:=(World.cell?_of_block (a:=⟨b,o,none⟩) h).trans hc
theorem BagG.void{bb Bb j:Nat}{X:Nat→List Value}(h:BagG w bb Bb X)(hj:j<21)(h0:X j=[]):w.cell? ⟨bb,j,none⟩=some (.slice none 0 0):=by
 obtain⟨v,h1,h2,_⟩:=h.hd j hj;rw[h1,h2 h0]
theorem BagG.full{bb Bb j:Nat}{X:Nat→List Value}(h:BagG w bb Bb X)(hj:j<21)(h0:X j≠[]):∃L c,Bb≤L∧w.cell? ⟨bb,j,none⟩=some (.slice (some ⟨L,0,none⟩) (X j).length c)∧∀i,i<(X j).length→w.cell? ⟨L,i,none⟩=some (vsOf (X j) i):=by
 obtain⟨v,h1,_,h3⟩:=h.hd j hj;rcases h3.2 with⟨_,e⟩|⟨g,cap,cur,rfl,hb,_⟩
 ·exact absurd (List.length_eq_zero_iff.1 e) h0
 ·exact⟨g,cap,hb,h1,fun i hi=>by rw[h3.cellAt i (by omega),D5 hi,List.getElem?_eq_getElem hi]⟩
end
end
section
open Go.RowKit
def mtB(a b c d e f:Int):List UInt8:=[35,UInt8.ofNat a.toNat,UInt8.ofNat b.toNat,UInt8.ofNat c.toNat,47,UInt8.ofNat d.toNat,UInt8.ofNat e.toNat,UInt8.ofNat f.toNat]
theorem vK(a b c d e f:Int)(ha:0≤a∧a<256)(hb:0≤b∧b<256)(hc:0≤c∧c<256)(hd:0≤d∧d<256)(he:0≤e∧e<256)(hf:0≤f∧f<256)(w:World):
  (convert 44 9 (.slice (some ⟨w.heap.size,0,none⟩) 8 8)).run Tryz.prog (w.alloc (.cells #[.int .u8 35,.int .u8 a,.int .u8 b,.int .u8 c,.int .u8 47,.int .u8 d,.int .u8 e,.int .u8 f] 5)) =
  .ok (.string ⟨(mtB a b c d e f).toArray⟩) (w.alloc (.cells #[.int .u8 35,.int .u8 a,.int .u8 b,.int .u8 c,.int .u8 47,.int .u8 d,.int .u8 e,.int .u8 f] 5)):=by
 have h8 :∀x:Int,0≤x∧x<256→((UInt8.ofNat x.toNat).toNat:Int)=x:=fun x hx=>by rw[UInt8.toNat_ofNat'];omega
 refine Vb (S:=fun _=>True) _ (some ⟨w.heap.size,0,none⟩) 8 (mtB a b c d e f) ⟨.inr ⟨w.heap.size,0,rfl,trivial,fun j u hu=>?_⟩,by simp only[mtB,List.length_cons,List.length_nil];omega⟩;rw[Nat.zero_add,Lib.cell_of_heap (heap_alloc_new w _)];have k1:=h8 a ha;have k2:=h8 b hb;have k3:=h8 c hc;have k4:=h8 d hd;have k5:=h8 e he;have k6:=h8 f hf;have k0:((UInt8.toNat 35:Nat):Int)=35:=rfl;have k7:((UInt8.toNat 47:Nat):Int)=47:=rfl;simp only[bytesV,mtB,List.map_cons,List.map_nil,k0,k1,k2,k3,k4,k5,k6,k7]at hu
 simpa using hu
def mT(a b:Int):ByteArray:=⟨(mtB (a % 256) (a / 256 % 256) (a / 65536 % 256) (b % 256) (b / 256 % 256) (b / 65536 % 256)).toArray⟩
theorem QK(a b:Int)(ha:0≤a∧a≤1099511627776)(hb:0≤b∧b≤2199023255552)(w:World):Calls Tryz.prog 127 #[.int .i64 a,.int .i64 b] w fun e w'=>e = .returned (.string (mT a b))∧Below w.heap.size w w':=by
 obtain⟨ha0,ha1⟩:=ha;obtain⟨hb0,hb1⟩:=hb;have hcv:=vK (a % 256) (a / 256 % 256) (a / 65536 % 256) (b % 256) (b / 256 % 256) (b / 65536 % 256) (by omega) (by omega) (by omega) (by omega) (by omega) (by omega) w;go_enter Tryz.func127,Tryz.ntmps127
 go_wp2_with fail
 go_ret;exact⟨rfl,ag _ _⟩
end
section
open Go.RowKit Go.ChangeShapes Go.WideShapes
section
variable {H : Type} {enc : TypeId × Value → H} {w : World} {spare : Nat → Bool} {held : Bool}
theorem n8 :∀n:Int,(num8 n).length=8:=fun n=>rfl
theorem D6(t:ByteArray):(txtB t).length=8+t.size:=by
 have hs:t.data.toList.length=t.size:=rfl;simp only[txtB,aJ,n8,hs]
end
end
end Go.Proofs.YtjjaojnglnpgaaaGreatDoor
