/- Part 29. -/
import Derived.Lib.ItoaLen
import Derived.Deep.CutBlock
import Derived.Deep.DeepCutAuto
import Derived.Test.YtjjaojnglnpgaaaGreatDoorZ25
import Derived.Test.YtjjaojnglnpgaaaGreatDoorZ11
import Derived.Test.YtjjaojnglnpgaaaGreatDoorZ16
import Derived.Test.YtjjaojnglnpgaaaGreatDoorZ26
import Derived.Test.YtjjaojnglnpgaaaGreatDoorZ15
import Derived.Test.YtjjaojnglnpgaaaGreatDoorZ14
import Derived.Test.YtjjaojnglnpgaaaGreatDoorZ01
import Derived.Test.YtjjaojnglnpgaaaGreatDoorZ10
import Derived.Test.YtjjaojnglnpgaaaGreatDoorZ18
import Derived.Test.YtjjaojnglnpgaaaGreatDoorZ27
import Derived.Test.YtjjaojnglnpgaaaGreatDoorZ17
import Derived.Test.YtjjaojnglnpgaaaGreatDoorZ05
import Derived.Test.YtjjaojnglnpgaaaGreatDoorZ00
set_option linter.unusedVariables false
set_option linter.unusedSimpArgs false
set_option maxHeartbeats 16000000
set_option maxRecDepth 1000000
namespace Go.Proofs.YtjjaojnglnpgaaaGreatDoor
section
open Go.RowKit
def UnhexPost(w:World)(s:ByteArray)(e:Ending)(w':World):Prop :=
 Below w.heap.size w w'∧(unhexL s.data.toList=none→e = .returned (.tuple #[.slice none 0 0,.bool false]))∧
  ∀b,unhexL s.data.toList=some b→∃v,e = .returned (.tuple #[v,.bool true])∧w'.ownsRow w.heap.size 5 1 v b.length (Lib.byteCells b)
theorem TF :∀(t b:List UInt8),unhexT t=some b→t.length % 2=0
 | [],_,_=>rfl
 | [_],_,h=>by cases h
 | x::y::r,b,h=>by
  rw[unhexT]at h;split at h
  ·obtain⟨b',hb,_⟩:=Option.map_eq_some_iff.1 h;have:=TF r b' hb;simp only[List.length_cons];omega
  ·cases h
theorem mZ{t:List UInt8}{k:Nat}(h1:k+1<t.length):unhexT (t.drop k)=if digV (t[k]'(by omega))<16∧digV t[k+1]<16 then(unhexT (t.drop (k+2))).map (UInt8.ofNat (16*digV (t[k]'(by omega))+digV t[k+1])::·)else none:=by
 rw[List.drop_eq_getElem_cons (i:=k) (by omega),List.drop_eq_getElem_cons (i:=k+1) h1,unhexT]
theorem Cm(s:ByteArray)(hl:s.size≤1099511627776)(w:World):Calls Tryz.prog 186 #[.string s] w (UnhexPost w s):=by
 have hdl:s.data.toList.length=s.size:=by rw[Array.length_toList];rfl
 by_cases h45:s.data.toList=[45]
 ·have hu:unhexL s.data.toList=some []:=by rw[h45];rfl
  have hs:=kJ h45;have Hu:=hide hu;clear hu h45 hdl;subst hs;go_enter Tryz.func186,Tryz.ntmps186
  go_wp2_with fail
  go_ret2
  refine⟨Below.refl _ _,fun h=>by(rw[Hu.out]at h;cases h),fun b h=>?_⟩;rw[Hu.out]at h;injection h with h;subst h;exact⟨_,rfl,World.ownsRow_nil _ _ _ _⟩
 have e45:(s.toList == [45])=false:=LD h45;by_cases h0:s.size=0
 ·have hu:unhexL s.data.toList=none:=by
   have:s.data.toList=[]:=List.length_eq_zero_iff.1 (by rw[hdl];exact h0);rw[this];rfl
  have e0:((s.size:Int) == 0)=true:=by rw[beq_iff_eq];omega
  have Hu:=hide hu;clear hu h45 hdl;go_enter Tryz.func186,Tryz.ntmps186
  go_wp2_with fail
  go_ret2
  exact⟨Below.refl _ _,fun _=>rfl,fun b h=>by rw[Hu.out]at h;cases h⟩
 have e0:((s.size:Int) == 0)=false:=by rw[aK];omega
 have Jn:unhexL s.data.toList=unhexT s.data.toList:=by
  unfold unhexL;rw[if_neg h45,if_neg];intro e;rw[e]at hdl;exact h0 hdl.symm
 by_cases hodd:s.size % 2=1
 ·have hu:unhexL s.data.toList=none:=by
   rw[Jn];rcases hx:unhexT s.data.toList with _|b
   ·rfl
   ·have:=TF _ _ hx;omega
  have e1:((s.size:Int).tmod 2 == 1)=true:=by rw[beq_iff_eq,Int.tmod_eq_emod_of_nonneg (by omega)];omega
  have Hu:=hide hu;clear hu h45 hdl Jn;go_enter Tryz.func186,Tryz.ntmps186
  go_wp2_with fail
  go_ret2
  exact⟨Below.refl _ _,fun _=>rfl,fun b h=>by rw[Hu.out]at h;cases h⟩
 have e1:((s.size:Int) % 2 == 1)=false:=by rw[aK];omega
 have BI:Hid (s.size % 2=0):=hide (by omega);have Nl:=hide Jn;have TG:=hide hdl;clear h45 hodd Jn hdl;go_enter Tryz.func186,Tryz.ntmps186
 go_wp2_with fail
 go_loopg [4,5] s.size (fun g v i wr=>∃q k:Nat,k≤s.size∧q≤k∧g=s.size-k∧Hid (k=2*q)∧i = .int .i64 (k:Int)∧Hid (∃l:List UInt8,l.length=q∧wr.ownsRow w.heap.size 5 1 v q (Lib.byteCells l)∧unhexT s.data.toList=(unhexT (s.data.toList.drop k)).map (l++·))∧Hid (Below w.heap.size w wr))
 case atStart=>exact⟨0,0,by omega,by omega,by omega,hide rfl,rfl,hide ⟨[],rfl,World.ownsRow_nil _ _ _ _,by simp⟩,hide (Below.refl _ _)⟩
 case round =>
  obtain⟨q,k,hq,hqk,hg,Hk,rfl,HO,HB⟩:=hrel;by_cases hlt:k<s.size
  ·have hk1:k+1<s.size:=by have:=Hk.out;have:=BI.out;omega
   obtain⟨m,hm⟩:∃m,m=k+1:=⟨_,rfl⟩;have hki:(k:Int)<(s.size:Int):=by omega
   have hwk:IntKind.i64.wrap ((k:Int)+1)=(m:Int):=by rw[IntKind.wrap_i64];omega
   have DT:(m:Int)<(s.size:Int):=by omega
   have zD:m<s.size:=by omega
   have hst:unhexT (s.data.toList.drop k)=if digV s[k]<16∧digV s[m]<16 then(unhexT (s.data.toList.drop (k+2))).map (UInt8.ofNat (16*digV s[k]+digV s[m])::·)else none:=by
    subst hm;have h:=mZ (t:=s.data.toList) (k:=k) (by rw[TG.out];exact hk1)
    simpa[ByteArray.getElem_eq_getElem_data]using h
   have vN:=hide hst;clear hm hst hk1
   go_wp2_with fail
   go_quiet ((go_at_call 232;(with_reducible refine(Yh _ _).mono ?_);rintro e2 w2 ⟨rfl,rfl⟩;exact⟨rfl,_,rfl⟩))
   have HB1:Hid (Below w.heap.size w (wr.drewN nq)):=hide (aO HB.out _);have bC:Hid (∃l:List UInt8,l.length=q∧(wr.drewN nq).ownsRow w.heap.size 5 1 u4 q (Lib.byteCells l)∧unhexT s.data.toList=(unhexT (s.data.toList.drop k)).map (l++·)):=HO;generalize wr.drewN nq=wq at bC HB1⊢;obtain⟨l,hll,uH,hT1⟩:=bC.out;obtain⟨Av,cv,rfl⟩:=bM uH;have fU:=hide uH;have HT1:=hide hT1;clear bC uH hT1 HO;generalize hX:digV s[k]=X at vN⊢;generalize hY:digV s[m]=Y at vN⊢;clear hX hY;by_cases gK:X<16
   ·by_cases gQ:Y<16
    ·have hx2 :¬(15:Int)<(X:Int):=by omega
     have hy2 :¬(15:Int)<(Y:Int):=by omega
     obtain⟨z,hz⟩:∃z,z=16*X+Y:=⟨_,rfl⟩;obtain⟨z1,hz1⟩:∃z1,z1=16*X:=⟨_,rfl⟩;have hw1:IntKind.i64.wrap (16*(X:Int))=(z1:Int):=by rw[IntKind.wrap_i64];omega
     have hw2:IntKind.i64.wrap ((z1:Int)+(Y:Int))=(z:Int):=by rw[IntKind.wrap_i64];omega
     have yw:(z:Int) % 256=(z:Int):=by omega
     have hzu:(z:Int)=((UInt8.ofNat z).toNat:Int):=by rw[UInt8.toNat_ofNat'];omega
     have hT2:unhexT s.data.toList=(unhexT (s.data.toList.drop (k+2))).map ((l++[UInt8.ofNat z])++·):=by
      rw[HT1.out,vN.out,if_pos ⟨gK,gQ⟩,Option.map_map,hz];congr 1;funext x;simp
     have HT2:=hide hT2;have LC:=hide hzu;have Hll:=hide hll;clear hz hz1 hzu hT2 hll;have hbl:(Lib.byteCells l).length=q*1:=by simp[Lib.byteCells,Hll.out]
     go_wp2_with(at_builtin;refine fE rfl _ _ 44 rfl w.heap.size 5 Tryz.underlying44 Lj rfl (by decide) _ q (Lib.byteCells l) rfl (fU.out.alloc _) (some ⟨wq.heap.size,0,none⟩) 1 1 [.int .u8 (z:Int)] rfl (by simp) rfl (fun ad e=>by injection e with e;subst e;intro j u hu;rw[Addr.add_lit,Nat.zero_add,Lib.cell_of_heap (heap_alloc_new wq _)];simpa using hu) (by intro u hu;simp at hu;subst hu;rfl) (by unfold maxLen;omega) (by omega) (by have:=HB1.out.size;simp;omega) ?_)
     intro v1 w4 h4 hg4 hw4;have HB4:Hid (Below w.heap.size w w4):=hide ((HB1.out.alloc HB1.out.size _).grown hg4 (by have:=HB1.out.size;simp;omega) fun j hj=>(fU.out.lt j hj).1);have H4:=hide h4;clear h4 hg4 hw4
     go_wp2_with fail
     go_roundg (s.size-(k+2))
     case measure=>omega
     case rel =>
      refine⟨q+1,k+2,by have:=Hk.out;have:=BI.out;omega,by omega,rfl,hide (by have:=Hk.out;omega),by go_num,hide ⟨l++[UInt8.ofNat z],by simp[Hll.out],?_,HT2.out⟩,HB4⟩;have h:=H4.out;have e1:Lib.byteCells (l++[UInt8.ofNat z])=Lib.byteCells l++[.int .u8 (z:Int)]:=by rw[LC.out];unfold Lib.byteCells;rw[List.map_append];rfl
      rw[e1];exact h
    ·have hx2 :¬(15:Int)<(X:Int):=by omega
     have hy2:(15:Int)<(Y:Int):=by omega
     have hun:unhexL s.data.toList=none:=by rw[Nl.out,HT1.out,vN.out,if_neg (fun h=>gQ h.2)];rfl
     have yz:=hide hun;clear hun hll
     go_wp2_with fail
     go_ret2
     exact⟨HB1.out,fun _=>rfl,fun b h=>by rw[yz.out]at h;cases h⟩
   ·have hx2:(15:Int)<(X:Int):=by omega
    have hun:unhexL s.data.toList=none:=by rw[Nl.out,HT1.out,vN.out,if_neg (fun h=>gK h.1)];rfl
    have yz:=hide hun;clear hun hll
    go_wp2_with fail
    go_ret2
    exact⟨HB1.out,fun _=>rfl,fun b h=>by rw[yz.out]at h;cases h⟩
  ·have hks:k=s.size:=by omega
   have hki :¬(k:Int)<(s.size:Int):=by omega
   obtain⟨l,hll,uH,hT1⟩:=HO.out;have hun:unhexL s.data.toList=some l:=by
    rw[Nl.out,hT1,hks,List.drop_eq_nil_of_le (by rw[TG.out];exact aC _)];simp[unhexT]
   have yz:=hide hun;have bC:=hide uH;have Hll:=hide hll;clear hun uH hll hT1
   go_wp2_with fail
   go_ret2
   refine⟨HB.out,fun h=>by(rw[yz.out]at h;cases h),fun b h=>?_⟩;rw[yz.out]at h;injection h with h;subst h;exact⟨_,rfl,by rw[Hll.out];exact bC.out⟩
theorem Np{w:World}{A:Option Addr}{c n N:Nat}(hn:n≠3):Calls Tryz.prog 123 #[.pointer (some ⟨N,0,none⟩),.slice A n c] w fun e w'=>e = .returned (.tuple #[])∧w'=w:=by
 have h3:((n:Int) == 3)=false:=by rw[aK];omega
 go_enter Tryz.func123,Tryz.ntmps123
 go_wp2_with fail
 refine bodyPost_ret (v:= .tuple #[]) ?_ rfl ⟨rfl,rfl⟩;simp[results,Tryz.results123,go_sem]
theorem YA{S:Nat→Prop}{w:World}{A:Option Addr}{c N:Nat}{repo x:ByteArray}{u0 u3:Value}(hr:Rd S w A ([{data:=#[117,110,112,117,108,108]},repo,x].map .string))(h0:w.cell? ⟨N,0,none⟩=some u0)(h3:w.cell? ⟨N,3,none⟩=some u3)(hf :∀o,w.frozen? ⟨N,o,none⟩=false)(hS :¬S N):
  Calls Tryz.prog 123 #[.pointer (some ⟨N,0,none⟩),.slice A 3 c] w fun e w'=>e = .returned (.tuple #[])∧w'=(w.setCell ⟨N,0,none⟩ (.int .u8 4)).setCell ⟨N,3,none⟩ (.string x):=by
 obtain⟨b,o,rfl,hx0⟩:=hr.at_ (j:=0) (by simp);obtain⟨b',o',e,hx2⟩:=hr.at_ (j:=2) (by simp);injection e with e;injection e with e1 e2;subst e1 e2;have hb:S b:=by
  rcases hr with h|⟨b',o',e,hb,_⟩
  ·cases h
  ·injection e with e;injection e with e1 e2;subst e1;exact hb
 have hbN :¬b=N:=fun e=>hS (e▸hb);have EN :¬N=b:=fun e=>hbN e.symm;simp only[List.map_cons,List.map_nil,aE,aF,Nat.add_zero]at hx0 hx2;have f0:=hf 0;have f3:=hf 3;clear hr hb hf;go_enter Tryz.func123,Tryz.ntmps123
 go_wp2_with fail
 all_goals go_end0
 all_goals exact⟨rfl,rfl⟩
theorem ng{S:Nat→Prop}{w:World}{A:Option Addr}{c N:Nat}{repo x:ByteArray}{u0 u2:Value}(hr:Rd S w A ([{data:=#[109,101,114,103,101]},repo,x].map .string))(h0:w.cell? ⟨N,0,none⟩=some u0)(h2:w.cell? ⟨N,2,none⟩=some u2)(hf :∀o,w.frozen? ⟨N,o,none⟩=false)(hS :¬S N):
  Calls Tryz.prog 123 #[.pointer (some ⟨N,0,none⟩),.slice A 3 c] w fun e w'=>e = .returned (.tuple #[])∧w'=(w.setCell ⟨N,0,none⟩ (.int .u8 5)).setCell ⟨N,2,none⟩ (.string x):=by
 obtain⟨b,o,rfl,hx0⟩:=hr.at_ (j:=0) (by simp);obtain⟨b',o',e,hx2⟩:=hr.at_ (j:=2) (by simp);injection e with e;injection e with e1 e2;subst e1 e2;have hb:S b:=by
  rcases hr with h|⟨b',o',e,hb,_⟩
  ·cases h
  ·injection e with e;injection e with e1 e2;subst e1;exact hb
 have hbN :¬b=N:=fun e=>hS (e▸hb);have EN :¬N=b:=fun e=>hbN e.symm;simp only[List.map_cons,List.map_nil,aE,aF,Nat.add_zero]at hx0 hx2;have f0:=hf 0;have f2:=hf 2;clear hr hb hf;go_enter Tryz.func123,Tryz.ntmps123
 go_wp2_with fail
 all_goals go_end0
 all_goals exact⟨rfl,rfl⟩
theorem YB{S:Nat→Prop}{w:World}{A:Option Addr}{c N:Nat}{repo x:ByteArray}{u0 u4:Value}(hr:Rd S w A ([{data:=#[99,104,101,99,107,111,117,116]},repo,x].map .string))(h0:w.cell? ⟨N,0,none⟩=some u0)(h4:w.cell? ⟨N,4,none⟩=some u4)(hf :∀o,w.frozen? ⟨N,o,none⟩=false)(hS :¬S N):
  Calls Tryz.prog 123 #[.pointer (some ⟨N,0,none⟩),.slice A 3 c] w fun e w'=>e = .returned (.tuple #[])∧w'=(w.setCell ⟨N,0,none⟩ (.int .u8 6)).setCell ⟨N,4,none⟩ (.string x):=by
 obtain⟨b,o,rfl,hx0⟩:=hr.at_ (j:=0) (by simp);obtain⟨b',o',e,hx2⟩:=hr.at_ (j:=2) (by simp);injection e with e;injection e with e1 e2;subst e1 e2;have hb:S b:=by
  rcases hr with h|⟨b',o',e,hb,_⟩
  ·cases h
  ·injection e with e;injection e with e1 e2;subst e1;exact hb
 have hbN :¬b=N:=fun e=>hS (e▸hb);have EN :¬N=b:=fun e=>hbN e.symm;simp only[List.map_cons,List.map_nil,aE,aF,Nat.add_zero]at hx0 hx2;have f0:=hf 0;have f4:=hf 4;clear hr hb hf;go_enter Tryz.func123,Tryz.ntmps123
 go_wp2_with fail
 all_goals go_end0
 all_goals exact⟨rfl,rfl⟩
theorem Nq{w:World}{s:ByteArray}(hs63:s.size≤9223372036854775807)(hmx:MaxOkS w)(htab:TabOk w)(hrec :∀t∈wordsOf 10 s,∀r,wordsOf 32 t=kwRecord::r→RestOk 106 restRecord):Calls Tryz.prog 10 #[.string s] w (ScriptPost w s):=by
 by_cases hbig:262144<s.size
 ·have hbi:(262144:Int)<(s.size:Int):=by omega
  go_enter Tryz.func10,Tryz.ntmps10
  go_wp2_with fail
  refine bodyPost_ret (v:= .tuple #[.slice none 0 0,.agg #[.int .i64 3,.int .i64 0]]) ?_ rfl ⟨ag _ _,fun _=>rfl,fun h=>absurd h (by omega)⟩;simp[results,Tryz.results10,go_sem]
 have hs:s.size≤262144:=by omega
 have hbi :¬(262144:Int)<(s.size:Int):=by omega
 have hlen:=iV (c:=10) (s:=s) (by omega);obtain⟨n,hn⟩:∃n,n=(wordsOf 10 s).length:=⟨_,rfl⟩;have hn2:n≤262145:=by
  rw[hn,Ea];have:=Lib.countB_le ⟨#[10]⟩ (aC 1) s.size s (aC _);omega
 clear hlen;go_enter Tryz.func10,Tryz.ntmps10
 go_wp2_with(go_at_call 26;(with_reducible refine(SH 10 (by omega) (hmx.below (ag _ _))).mono ?_);rintro e1 w1 ⟨rfl,rfl⟩)
 clear hn2 hn;have hws2:(wordsOf 10 s).length≤262145:=by
  rw[Ea];have:=Lib.countB_le ⟨#[10]⟩ (aC 1) s.size s (aC _);omega
 have hall :∀x∈wordsOf 10 s,x.size≤262144:=fun x hx=>aI (iL hx).1 hs;obtain⟨o1,ho1⟩:∃o1,o1=Obj.cells #[.int .i64 0,.int .i64 0] 26:=⟨_,rfl⟩;obtain⟨o2,ho2⟩:∃o2,o2=Obj.cells ((wordsOf 10 s).map .string).toArray 9:=⟨_,rfl⟩;rw[←ho1,←ho2];have hb1:=ag w o1;have hb2:=ag (w.alloc o1) o2;have z1:(w.alloc o1).heap.size=w.heap.size+1:=by simp
 have hz2:((w.alloc o1).alloc o2).heap.size=w.heap.size+1+1:=by simp
 have hB2:Below w.heap.size w ((w.alloc o1).alloc o2):=hb1.trans (hb2.mono (by omega));have hF:((w.alloc o1).alloc o2).heap[w.heap.size]?=some o1:=(hb2.block _ (by omega)).trans (heap_alloc_new w o1);have hR:((w.alloc o1).alloc o2).heap[w.heap.size+1]?=some o2:=by have:=heap_alloc_new (w.alloc o1) o2;rwa [z1]at this
 generalize (w.alloc o1).alloc o2=W2 at hz2 hB2 hF hR⊢;clear hb1 hb2 z1;subst ho1 ho2;have hrd:Rd (fun b=>b=w.heap.size+1) W2 (some ⟨w.heap.size+1,0,none⟩) ((wordsOf 10 s).map .string):= .inr ⟨_,0,rfl,rfl,fun j u hu=>by rw[Nat.zero_add,Lib.cell_of_heap hR];simpa using hu⟩;have HF:=hide hF;have uQ:=hide hrd;have HB2:=hide hB2;have EO:=hmx.below hB2;have yO:=htab.below hB2;have Jo:=hide EO;have af:=hide yO;clear hF hR hrd hB2 hmx htab EO yO;generalize hws:wordsOf 10 s=ws at hws2 hall uQ hrec⊢;have Nr:=hide hrec;clear hrec;have Hws:=hide hws;have ah:=hide hall;clear hws hall
 go_loopg [4,16] ws.length (fun g v i wr=>∃(q m:Nat) (l:List CIt),q≤ws.length∧g=ws.length-q∧i = .int .i64 q∧m≤q∧Hid (m=l.length)∧Hid (RowC W2.heap.size wr v l)∧Hid (rowsOf 0 ws=before (l.map (·.c)) (rowsOf q (ws.drop q)))∧Hid (Below W2.heap.size W2 wr))
 case atStart=>exact⟨0,0,[],by omega,by omega,rfl,by omega,hide rfl,hide (RowC.nil _ _),hide (by rw[List.map_nil,Tq,List.drop_zero]),hide (Below.refl _ _)⟩
 case round =>
  obtain⟨q,m,l,hq,hg,rfl,hm,Hm,HC,HP,HB⟩:=hrel;have YC:=HB.out.size;have hfr:wr.heap[w.heap.size]?=some (.cells #[.int .i64 0,.int .i64 0] 26):=(HB.out.block _ (by omega)).trans HF.out;have CE:wr.cell? ⟨w.heap.size,0,none⟩=some (.int .i64 0):=by rw[Lib.cell_of_heap hfr];rfl
  have CG:wr.cell? ⟨w.heap.size,1,none⟩=some (.int .i64 0):=by rw[Lib.cell_of_heap hfr];rfl
  have Jp:wr.frozen? ⟨w.heap.size,0,none⟩=false:=by unfold World.frozen?;rw[hfr];rfl
  have Jq:wr.frozen? ⟨w.heap.size,1,none⟩=false:=by unfold World.frozen?;rw[hfr];rfl
  have hBw:Hid (Below w.heap.size w wr):=hide (HB2.out.trans (HB.out.mono (by omega)));clear hfr;by_cases hlt:q<ws.length
  ·have hcw:wr.cell? ⟨w.heap.size+1,q,none⟩=some (.string ws[q]):=by
    obtain⟨b,o,e,hc⟩:=uQ.out.at_ (j:=q) (by simpa using hlt);injection e with e;injection e with e1 e2;subst e1 e2;rw[Nat.zero_add]at hc;rw[HB.out.cell (p:=⟨w.heap.size+1,q,none⟩) (by show w.heap.size+1<_;omega),hc];simp
   have zY:ws[q]∈ws:=List.getElem_mem hlt;have hdr:ws.drop q=ws[q]::ws.drop (q+1):=List.drop_eq_getElem_cons hlt;rw[hdr]at HP;generalize ws[q]=t at hcw zY HP;have eF:Hid (rowsOf 0 ws=before (l.map (·.c)) (rowsOf q (t::ws.drop (q+1)))):=HP;have htz:=ah.out t zY;by_cases h0:t.size=0
   ·have ht0:t=⟨#[]⟩:=by
     apply ByteArray.ext;exact Array.eq_empty_of_size_eq_zero h0
    have HP2:Hid (rowsOf 0 ws=before (l.map (·.c)) (rowsOf (q+1) (ws.drop (q+1)))):=hide (by rw[eF.out,MW h0]);subst ht0
    go_wp2_with fail
    go_roundg (ws.length-(q+1))
    case measure=>omega
    case rel=>exact⟨q+1,m,l,by omega,rfl,by go_num,by omega,Hm,HC,HP2,HB⟩
   ·have hne:t.toList.isEmpty=false:=by rw[Bool.eq_false_iff,ne_eq,List.isEmpty_iff,fH];omega
    have Jr:Hid (Calls Tryz.prog 34 #[.string t] wr (ParsePost wr t)):=hide (parse_any (by omega) (Jo.out.below HB.out) (af.out.below HB.out) (Nr.out t zY));rcases hl:lineOf (wordsOf 32 t)with _|c
    ·have HX:Hid (rowsOf 0 ws = .error (q+1)):=hide (by rw[eF.out,Jj h0 hl];rfl);have Hl:=hide hl;clear hl
     go_wp2_with(first
      | (go_at_call 34;(with_reducible refine Jr.out.mono ?_);rintro e1 w1 ⟨hB1,hn1,_⟩;have he1:=hn1 Hl.out;subst he1;have kT:w.heap.size<w1.heap.size:=aH (by omega) hB1.size;have HB1:=hide hB1;clear hB1 hn1)
      | (refine wpList_store_mid rfl _ _ _ rfl w1.heap.size 0 zeroL.toArray rfl rfl (gU w1 zeroL _) aZ uP ?_;obtain⟨V,hV,hV1,hV2,bG⟩:=iM w1 46 zeroL (zeroL) rfl;rw[←hV];have EP:=(hV2.cell (p:=⟨w.heap.size,0,none⟩) kT).trans ((HB1.out.cell (p:=⟨w.heap.size,0,none⟩) (by show w.heap.size<_;omega)).trans CE);have ER:=(hV2.cell (p:=⟨w.heap.size,1,none⟩) kT).trans ((HB1.out.cell (p:=⟨w.heap.size,1,none⟩) (by show w.heap.size<_;omega)).trans CG);have Ns:=(hV2.frozen (p:=⟨w.heap.size,0,none⟩) kT).trans ((HB1.out.frozen (p:=⟨w.heap.size,0,none⟩) (by show w.heap.size<_;omega)).trans Jp);have Nu:=(hV2.frozen (p:=⟨w.heap.size,1,none⟩) kT).trans ((HB1.out.frozen (p:=⟨w.heap.size,1,none⟩) (by show w.heap.size<_;omega)).trans Jq);have dJ:=hide hV1;have dE:=hide hV2;have dX:=hide bG;clear hV hV1 hV2 bG))
     refine bodyPost_ret (v:= .tuple #[.slice none 0 0,.agg #[.int .i64 210,.int .i64 ((q:Int)+1)]]) ?_ rfl ?_
     ·obtain⟨r0,r1⟩:=Jl (u:= .int .i64 210) (v:= .int .i64 ((q:Int)+1)) EP ER;simp[results,Tryz.results10,go_sem,r0,r1]
     have hb4:Below w.heap.size w V:=(hBw.out.trans (HB1.out.mono (by omega))).trans (dE.out.mono (by omega));refine⟨(hb4.setCell (p:=⟨w.heap.size,0,none⟩) (aC _) _).setCell (p:=⟨w.heap.size,1,none⟩) (aC _) _,fun h=>absurd h (by omega),fun _=>⟨fun i hi=>?_,fun cs hcs=>?_⟩⟩
     ·rw[Hws.out,HX.out]at hi;injection hi with hi;subst hi;rfl
     ·rw[Hws.out,HX.out]at hcs;cases hcs
    ·have HX:Hid (rowsOf 0 ws=before ((l.map (·.c))++[c]) (rowsOf (q+1) (ws.drop (q+1)))):=hide (by rw[eF.out,EI h0 hl,Tt]);have Hl:=hide hl;have ES:Hid (wr.ownsRow W2.heap.size 46 20 _ m (l.flatMap CIt.cells)):=hide (by rw[Hm.out];exact HC.out.1);clear hl
     go_wp2_with(first
      | (go_at_call 34;(with_reducible refine Jr.out.mono ?_);rintro e1 w1 ⟨hB1,_,hy1⟩;obtain⟨x,A,k,he1,Ei⟩:=hy1 c Hl.out;subst he1;have kT:w.heap.size<w1.heap.size:=aH (by omega) hB1.size;have HB1:=hide hB1;have cZ:=hide Ei;clear hB1 hy1 Ei)
      | (refine wpList_store_mid rfl _ _ _ rfl w1.heap.size 0 (cmdVs c x A k).toArray rfl rfl (gU w1 zeroL _) aZ (dL c x A k) ?_;obtain⟨V,hV,hV1,hV2,bG⟩:=iM w1 46 zeroL (cmdVs c x A k) rfl;rw[←hV];have EP:=(hV2.cell (p:=⟨w.heap.size,0,none⟩) kT).trans ((HB1.out.cell (p:=⟨w.heap.size,0,none⟩) (by show w.heap.size<_;omega)).trans CE);have ER:=(hV2.cell (p:=⟨w.heap.size,1,none⟩) kT).trans ((HB1.out.cell (p:=⟨w.heap.size,1,none⟩) (by show w.heap.size<_;omega)).trans CG);have Ns:=(hV2.frozen (p:=⟨w.heap.size,0,none⟩) kT).trans ((HB1.out.frozen (p:=⟨w.heap.size,0,none⟩) (by show w.heap.size<_;omega)).trans Jp);have Nu:=(hV2.frozen (p:=⟨w.heap.size,1,none⟩) kT).trans ((HB1.out.frozen (p:=⟨w.heap.size,1,none⟩) (by show w.heap.size<_;omega)).trans Jq);have dJ:=hide hV1;have dE:=hide hV2;have dX:=hide bG;clear hV hV1 hV2 bG)
      | (refine wpList_load_mid rfl _ _ rfl w1.heap.size 0 rfl (cmdVs c x A k) _ dJ.out Tryz.underlying46 rfl aZ ?_)
      | (at_builtin;refine fE rfl _ _ 23 rfl W2.heap.size 46 Tryz.underlying23 InfoCmd rfl (by decide) _ m (l.flatMap CIt.cells) rfl (iW ES.out (fun b hb=>((HB1.out.trans (dE.out.mono HB1.out.size)).trans ((ag V _).mono (by have:=dX.out;have:=HB1.out.size;omega))).block b (gG ES.out b hb).2)) (some ⟨V.heap.size,0,none⟩) 1 1 (cmdVs c x A k) rfl (by simp) rfl (fun ad e=>by injection e with e;subst e;intro j u hu;rw[Addr.add_lit,Nat.zero_add,Lib.cell_of_heap (heap_alloc_new V _)];simpa using hu) (TB c x A k) (by unfold maxLen;omega) (by omega) (by have:=dX.out;have:=HB1.out.size;have:=HB.out.size;simp;omega) ?_;intro v1 w4 h4 hg4 hw4;have H4:=hide h4;have ET:=hide hg4;have Nv:=hide hw4;clear h4 hg4 hw4))
     have hz1:=HB1.out.size;have hz3:=dX.out;obtain⟨hin,L1,hO,hnd,hge⟩:=cZ.out;have zZ:Below w1.heap.size w1 (V.alloc (.cells (cmdVs c x A k).toArray 46)):=dE.out.trans ((ag V _).mono (by omega));have hok:CIt.ok (V.alloc (.cells (cmdVs c x A k).toArray 46)) ⟨c,x,A,k⟩ L1:=CIt.ok.keep (w:=w1) ⟨hO,hO.inn hin⟩ fun b hb=>zZ.block b (hO.lt b hb);have wJ:Below wr.heap.size wr (V.alloc (.cells (cmdVs c x A k).toArray 46)):=HB1.out.trans (zZ.mono hz1);have hown:w4.ownsRow W2.heap.size 46 20 v1 (l.length+1) (l.flatMap CIt.cells++CIt.cells ⟨c,x,A,k⟩):=by rw[←Hm.out];exact H4.out
     have hW:Went (V.alloc (.cells (cmdVs c x A k).toArray 46)) w4 u4 v1 l.length 1:=by rw[←Hm.out];exact Nv.out
     have Nw:=hide (HC.out.next wJ HB.out.size hok hnd hge hown ET.out hW);have Ny:Hid (Below W2.heap.size W2 w4):=hide ((HB.out.trans (wJ.mono HB.out.size)).grown ET.out (by have:=wJ.size;omega) fun j hj=>(gG HC.out.1 j (fA.2 hj)).1);clear hin hO hnd hge hok wJ hown hW zZ
     go_roundg (ws.length-(q+1))
     case measure=>omega
     case rel=>exact⟨q+1,m+1,l++[⟨c,x,A,k⟩],by omega,rfl,by go_num,by omega,hide (by simp[Hm.out]),Nw,hide (by rw[HX.out,List.map_append];rfl),Ny⟩
  ·have hq2:q=ws.length:=by omega
   have hX:rowsOf 0 ws = .ok (l.map (·.c)):=by
    rw[HP.out,hq2,List.drop_length];simp[rowsOf,before]
   have HX:=hide hX;clear hX;obtain⟨r0,r1⟩:=Jl (u:= .int .i64 0) (v:= .int .i64 0) CE CG
   go_wp2_with fail
   refine bodyPost_ret (v:= .tuple #[u4,.agg #[.int .i64 0,.int .i64 0]]) ?_ rfl ?_
   ·simp[results,Tryz.results10,go_sem,r0,r1]
   refine⟨(hBw.out.setCell (p:=⟨w.heap.size,0,none⟩) (aC _) _).setCell (p:=⟨w.heap.size,1,none⟩) (aC _) _,fun h=>absurd h (by omega),fun _=>⟨fun i hi=>?_,fun cs hcs=>?_⟩⟩
   ·rw[Hws.out,HX.out]at hi;cases hi
   ·rw[Hws.out,HX.out]at hcs;injection hcs with hcs;refine⟨l,u4,hcs,rfl,((HC.out.keep fun b hb=>?_).mono (by omega))⟩;rw[Below.heap_setCell _ _ _ _ (by show b≠w.heap.size;omega),Below.heap_setCell _ _ _ _ (by show b≠w.heap.size;omega)]
def LineP(ws:List ByteArray)(w:World)(e:Ending)(w':World):Prop :=
 Below w.heap.size w w'∧∃c x A n b,e = .returned (.tuple #[.agg (cmdVs c x A n).toArray,.bool b])∧(b=true→lineOf ws=some c∧CmdIn (fun g=>w.heap.size≤g) w' c x A n)∧(b=false→lineOf ws=none)
def WsAt(w:World)(g:Nat)(l:List ByteArray):Prop:=∀(j:Nat) (s:ByteArray),l[j]?=some s→w.cell? ⟨g,j,none⟩=some (.string s)
theorem WsAt.below{w w':World}{g:Nat}{l:List ByteArray}(h:WsAt w g l)(hg:g<w.heap.size)(hb:Below w.heap.size w w'):WsAt w' g l:=fun j s hs=>(hb.cell (p:=⟨g,j,none⟩) hg).trans (h j s hs)
theorem WsAt.rd{S:Nat→Prop}{w:World}{g:Nat}{l:List ByteArray}(h:WsAt w g l)(hS:S g):Rd S w (some ⟨g,0,none⟩) (l.map .string):=
 .inr ⟨g,0,rfl,hS,fun j u hu=>by
  rw[List.getElem?_map]at hu;obtain⟨s,hs,rfl⟩:=Option.map_eq_some_iff.1 hu;rw[Nat.zero_add];exact h j s hs⟩
theorem WsAt.rd1{S:Nat→Prop}{w:World}{g:Nat}{x:ByteArray}{l:List ByteArray}(h:WsAt w g (x::l))(hS:S g):Rd S w (some ⟨g,1,none⟩) (l.map .string):=
 .inr ⟨g,1,rfl,hS,fun j u hu=>by
  rw[List.getElem?_map]at hu;obtain⟨s,hs,rfl⟩:=Option.map_eq_some_iff.1 hu;exact h (1+j) s (by rw[Nat.add_comm];exact hs)⟩
theorem iY{B m:Nat}{w:World}{v:Value}{l:List ByteArray}(hm:l.length=m)(h0:0<m)(h:w.ownsRow B 9 1 v m (l.map .string)):
  ∃g c,v = .slice (some ⟨g,0,none⟩) m c∧B≤g∧g<w.heap.size∧m≤c∧c≤9223372036854775807∧WsAt w g l:=by
 obtain⟨A,c,rfl⟩:=bM h;have hr:=vC (uM h) rfl;rcases h.2 with⟨_,e⟩|⟨g,cap,cur,e,hb,rest⟩
 ·omega
 ·injection e with e;subst e;refine⟨g,c,rfl,hb,(h.lt g rfl).2,hr.1,hr.2,fun j s hs=>?_⟩;rw[h.cellAt j (by have:=(List.getElem?_eq_some_iff.1 hs).1;omega),List.getElem?_map,hs];rfl
theorem Aa{f:ByteArray}(h:f≠kwNew):¬f.toList=[110,101,119]∧(f.toList == [110,101,119])=false:=by
 have e :¬f.toList=[110,101,119]:=fun e=>h (by rw[ByteArray.toList_eq]at e;exact ByteArray.ext (Array.toList_inj.1 e));exact⟨e,by rw[aK];exact e⟩
theorem ry{f:ByteArray}(h:f≠kwRecord):¬f.toList=[114,101,99,111,114,100]∧(f.toList == [114,101,99,111,114,100])=false:=by
 have e :¬f.toList=[114,101,99,111,114,100]:=fun e=>h (by rw[ByteArray.toList_eq]at e;exact ByteArray.ext (Array.toList_inj.1 e));exact⟨e,by rw[aK];exact e⟩
theorem Ac{f:ByteArray}(h:f≠kwPull):¬f.toList=[112,117,108,108]∧(f.toList == [112,117,108,108])=false:=by
 have e :¬f.toList=[112,117,108,108]:=fun e=>h (by rw[ByteArray.toList_eq]at e;exact ByteArray.ext (Array.toList_inj.1 e));exact⟨e,by rw[aK];exact e⟩
theorem Ad{f:ByteArray}(h:f≠kwUnpull):¬f.toList=[117,110,112,117,108,108]∧(f.toList == [117,110,112,117,108,108])=false:=by
 have e :¬f.toList=[117,110,112,117,108,108]:=fun e=>h (by rw[ByteArray.toList_eq]at e;exact ByteArray.ext (Array.toList_inj.1 e));exact⟨e,by rw[aK];exact e⟩
theorem Ae{f:ByteArray}(h:f≠kwMerge):¬f.toList=[109,101,114,103,101]∧(f.toList == [109,101,114,103,101])=false:=by
 have e :¬f.toList=[109,101,114,103,101]:=fun e=>h (by rw[ByteArray.toList_eq]at e;exact ByteArray.ext (Array.toList_inj.1 e));exact⟨e,by rw[aK];exact e⟩
theorem Af{f:ByteArray}(h:f≠kwCheckout):¬f.toList=[99,104,101,99,107,111,117,116]∧(f.toList == [99,104,101,99,107,111,117,116])=false:=by
 have e :¬f.toList=[99,104,101,99,107,111,117,116]:=fun e=>h (by rw[ByteArray.toList_eq]at e;exact ByteArray.ext (Array.toList_inj.1 e));exact⟨e,by rw[aK];exact e⟩
theorem Ag{f:ByteArray}(h:f≠kwLog):¬f.toList=[108,111,103]∧(f.toList == [108,111,103])=false:=by
 have e :¬f.toList=[108,111,103]:=fun e=>h (by rw[ByteArray.toList_eq]at e;exact ByteArray.ext (Array.toList_inj.1 e));exact⟨e,by rw[aK];exact e⟩
theorem Ai{f:ByteArray}(h:f≠kwExport):¬f.toList=[101,120,112,111,114,116]∧(f.toList == [101,120,112,111,114,116])=false:=by
 have e :¬f.toList=[101,120,112,111,114,116]:=fun e=>h (by rw[ByteArray.toList_eq]at e;exact ByteArray.ext (Array.toList_inj.1 e));exact⟨e,by rw[aK];exact e⟩
theorem rC{f:ByteArray}(h:f≠kwImport):¬f.toList=[105,109,112,111,114,116]∧(f.toList == [105,109,112,111,114,116])=false:=by
 have e :¬f.toList=[105,109,112,111,114,116]:=fun e=>h (by rw[ByteArray.toList_eq]at e;exact ByteArray.ext (Array.toList_inj.1 e));exact⟨e,by rw[aK];exact e⟩
theorem YD{w:World}{s x:ByteArray}(hs:s.size≤1099511627)(hws:wordsOf 32 s=[x]):Calls Tryz.prog 50 #[.string s] w (LineP (wordsOf 32 s) w):=by
 have hlo:lineOf (wordsOf 32 s)=none:=by rw[hws];rfl
 have dh:=hide hlo;have Hws:=hide hws;have HP:Hid (∀W,Calls Tryz.prog 72 #[.string s,.int .u8 32] W fun e w'=>∃v,e = .returned v∧w'.ownsRow W.heap.size 9 1 v (wordsOf 32 s).length ((wordsOf 32 s).map .string)∧Below W.heap.size W w'):=hide fun W=>iU s 32 (by omega) W;clear hlo hws;go_enter Tryz.func50,Tryz.ntmps50
 go_wp2_with(first
  | (go_at_call 72;(with_reducible refine(HP.out _).mono ?_);rintro e1 w1 ⟨v1,rfl,ho1,hB1⟩;rw[Hws.out]at ho1;obtain⟨g,c1,rfl,hg0,hg1,hc1,hc2,hcl⟩:=iY (m:=1) rfl (by omega) ho1;have HZ1:=hide ((fK w).next hB1);clear ho1 hB1 hcl)
  | (refine wpList_store_mid rfl _ _ _ rfl w.heap.size 0 zeroL.toArray rfl rfl HZ1.out.ct aZ uP ?_;obtain⟨X,hX,hX1,hX2,bz,cO⟩:=HZ1.out.stored zeroL rfl;rw[←hX];have bU:=hide hX1;have bJ:=hide bz;clear hX hX1 hX2 bz cO))
 refine bodyPost_ret (v:= .tuple #[.agg zeroVs.toArray,.bool false]) (fP Tryz.results50 rfl rfl bU.out rfl) rfl ⟨bJ.out,_,_,_,_,false,rfl,fun h=>(by cases h),fun h=>dh.out⟩
theorem rD{w:World}{s f x:ByteArray}{r:List ByteArray}(hs:s.size≤1099511627)(hws:wordsOf 32 s=f::x::r)(hall:(x::r).all isWord=false)(h2:f≠kwRecord)(h9:f≠kwImport)(hlo:lineOf (wordsOf 32 s)=none):Calls Tryz.prog 50 #[.string s] w (LineP (wordsOf 32 s) w):=by
 have hlen:=iV (c:=32) (s:=s) hs;rw[hws]at hlen;obtain⟨m,hm⟩:∃m,(f::x::r).length=m:=⟨_,rfl⟩;have hm2:2≤m:=by rw[←hm];simp
 rw[hm]at hlen;have hsz :∀z∈x::r,z.size≤1099511627776:=fun z hz=>aI (iL (c:=32) (s:=s) (by rw[hws];exact List.mem_cons_of_mem _ hz)).1 (by omega);have hl:(x::r).length≤1099511627776:=by have:(x::r).length+1=m:=hm;omega
 have dh:=hide hlo;have Hws:=hide hws;have Hm:=hide hm;have oC :¬(m:Int)<2:=by omega
 obtain⟨n2,e2⟩:=ry h2;obtain⟨n9,e9⟩:=rC h9;have HP:Hid (∀W,Calls Tryz.prog 72 #[.string s,.int .u8 32] W fun e w'=>∃v,e = .returned v∧w'.ownsRow W.heap.size 9 1 v (wordsOf 32 s).length ((wordsOf 32 s).map .string)∧Below W.heap.size W w'):=hide fun W=>iU s 32 (by omega) W;have HW:Hid (∀W g c,WsAt W g (f::x::r)→Calls Tryz.prog 122 #[.slice (some ⟨g,1,none⟩) (m-1) c] W fun e w'=>e = .returned (.bool false)∧W=w'):=hide fun W g c h=>by
  have e:m-1=(x::r).length:=by rw[←hm];rfl
  rw[e];refine(kR (S:=fun _=>True) (h.rd1 trivial) hl hsz).mono ?_;rintro e w' ⟨rfl,rfl⟩;exact⟨by rw[hall],rfl⟩
 clear hlo hws hall hsz hm hl h2 h9;go_enter Tryz.func50,Tryz.ntmps50
 go_wp2_with(first
  | (go_at_call 72;(with_reducible refine(HP.out _).mono ?_);rintro e1 w1 ⟨v1,rfl,ho1,hB1⟩;rw[Hws.out,Hm.out]at ho1;obtain⟨g,c1,rfl,hg0,hg1,hc1,hc2,hcl⟩:=iY Hm.out (by omega) ho1;have hgb :¬w1.heap.size=g:=(by omega);have HZ1:=hide ((fK w).next hB1);have cZ:=hide hcl;have k0:w1.cell? ⟨g,0,none⟩=some (.string f):=hcl 0 _ rfl;have k1:w1.cell? ⟨g,1,none⟩=some (.string x):=hcl 1 _ rfl;clear ho1 hB1 hcl)
  | (go_at_call 122;(with_reducible refine(HW.out _ _ _ cZ.out).mono ?_);rintro e2 w2 ⟨rfl,rfl⟩)
  | (refine wpList_store_mid rfl _ _ _ rfl w.heap.size 0 zeroL.toArray rfl rfl HZ1.out.ct aZ uP ?_;obtain⟨X,hX,hX1,hX2,bz,cO⟩:=HZ1.out.stored zeroL rfl;rw[←hX];have bU:=hide hX1;have bJ:=hide bz;clear hX hX1 hX2 bz cO))
 refine bodyPost_ret (v:= .tuple #[.agg zeroVs.toArray,.bool false]) (fP Tryz.results50 rfl rfl bU.out rfl) rfl ⟨bJ.out,_,_,_,_,false,rfl,fun h=>(by cases h),fun h=>dh.out⟩
theorem YE{w:World}{s f x:ByteArray}{r:List ByteArray}(hs:s.size≤1099511627)(hws:wordsOf 32 s=f::x::r)(hall:(x::r).all isWord=true)(h1:f≠kwNew)(h2:f≠kwRecord)(h3:f≠kwPull)(h4:f≠kwUnpull)(h5:f≠kwMerge)(h6:f≠kwCheckout)(h7:f≠kwLog)(h8:f≠kwExport)(h9:f≠kwImport)(hlo:lineOf (wordsOf 32 s)=none):Calls Tryz.prog 50 #[.string s] w (LineP (wordsOf 32 s) w):=by
 have hlen:=iV (c:=32) (s:=s) hs;rw[hws]at hlen;obtain⟨m,hm⟩:∃m,(f::x::r).length=m:=⟨_,rfl⟩;have hm2:2≤m:=by rw[←hm];simp
 rw[hm]at hlen;have hsz :∀z∈x::r,z.size≤1099511627776:=fun z hz=>aI (iL (c:=32) (s:=s) (by rw[hws];exact List.mem_cons_of_mem _ hz)).1 (by omega);have hl:(x::r).length≤1099511627776:=by have:(x::r).length+1=m:=hm;omega
 have dh:=hide hlo;have Hws:=hide hws;have Hm:=hide hm;have oC :¬(m:Int)<2:=by omega
 obtain⟨n1,e1⟩:=Aa h1;obtain⟨n2,e2⟩:=ry h2;obtain⟨n3,e3⟩:=Ac h3;obtain⟨n4,e4⟩:=Ad h4;obtain⟨n5,e5⟩:=Ae h5;obtain⟨n6,e6⟩:=Af h6;obtain⟨n7,e7⟩:=Ag h7;obtain⟨n8,e8⟩:=Ai h8;obtain⟨n9,e9⟩:=rC h9;have HP:Hid (∀W,Calls Tryz.prog 72 #[.string s,.int .u8 32] W fun e w'=>∃v,e = .returned v∧w'.ownsRow W.heap.size 9 1 v (wordsOf 32 s).length ((wordsOf 32 s).map .string)∧Below W.heap.size W w'):=hide fun W=>iU s 32 (by omega) W;have HW:Hid (∀W g c,WsAt W g (f::x::r)→Calls Tryz.prog 122 #[.slice (some ⟨g,1,none⟩) (m-1) c] W fun e w'=>e = .returned (.bool true)∧W=w'):=hide fun W g c h=>by
  have e:m-1=(x::r).length:=by rw[←hm];rfl
  rw[e];refine(kR (S:=fun _=>True) (h.rd1 trivial) hl hsz).mono ?_;rintro e w' ⟨rfl,rfl⟩;exact⟨by rw[hall],rfl⟩
 clear hlo hws hall hsz hm hl h1 h2 h3 h4 h5 h6 h7 h8 h9;go_enter Tryz.func50,Tryz.ntmps50
 go_wp2_with(first
  | (go_at_call 72;(with_reducible refine(HP.out _).mono ?_);rintro e1 w1 ⟨v1,rfl,ho1,hB1⟩;rw[Hws.out,Hm.out]at ho1;obtain⟨g,c1,rfl,hg0,hg1,hc1,hc2,hcl⟩:=iY Hm.out (by omega) ho1;have hgb :¬w1.heap.size=g:=(by omega);have HZ1:=hide ((fK w).next hB1);have cZ:=hide hcl;have k0:w1.cell? ⟨g,0,none⟩=some (.string f):=hcl 0 _ rfl;have k1:w1.cell? ⟨g,1,none⟩=some (.string x):=hcl 1 _ rfl;clear ho1 hB1 hcl)
  | (go_at_call 122;(with_reducible refine(HW.out _ _ _ cZ.out).mono ?_);rintro e2 w2 ⟨rfl,rfl⟩)
  | (refine wpList_store_mid rfl _ _ _ rfl w1.heap.size 0 (cmdVs (⟨0,x,noTxt,noTxt,noTxt,Pt.zero,[]⟩:Cmd) Ph.zero none 0).toArray rfl rfl (gU w1 zeroL _) aZ (dL _ _ _ _) ?_;obtain⟨V,hV,hV1,hV2,bG⟩:=iM w1 46 zeroL (cmdVs (⟨0,x,noTxt,noTxt,noTxt,Pt.zero,[]⟩:Cmd) Ph.zero none 0) rfl;rw[←hV];have v0:=(hV2.cell (p:=⟨g,0,none⟩) hg1).trans k0;have HZ2:=hide (HZ1.out.next hV2);clear hV hV1 hV2 bG)
  | (refine wpList_store_mid rfl _ _ _ rfl w.heap.size 0 zeroL.toArray rfl rfl HZ2.out.ct aZ uP ?_;obtain⟨X,hX,hX1,hX2,bz,cO⟩:=HZ2.out.stored zeroL rfl;rw[←hX];have bU:=hide hX1;have bJ:=hide bz;clear hX hX1 hX2 bz cO))
 refine bodyPost_ret (v:= .tuple #[.agg zeroVs.toArray,.bool false]) (fP Tryz.results50 rfl rfl bU.out rfl) rfl ⟨bJ.out,_,_,_,_,false,rfl,fun h=>(by cases h),fun h=>dh.out⟩
end
def linesOf(l:List ByteArray):List ByteArray:=l.filter fun t=>decide (¬t.size=0)
theorem Nz :∀{l:List ByteArray} {i:Nat} {cs:List Cmd},rowsOf i l = .ok cs→(∀c∈cs,ShowOk c)∧cs.map showB=linesOf l
 | [],_,_,h=>by
  injection h with h;subst h;exact⟨fun c hc=>(by cases hc),rfl⟩
 | t::r,i,cs,h=>by
  by_cases h0:t.size=0
  ·rw[MW h0]at h;have:=Nz h;refine⟨this.1,this.2.trans ?_⟩;simp only[linesOf,List.filter_cons,h0,not_true_eq_false,decide_false,Bool.false_eq_true,if_false]
  ·rcases hl:lineOf (wordsOf 32 t)with _|c
   ·rw[Jj h0 hl]at h;cases h
   ·rw[EI h0 hl]at h;rcases hx:rowsOf (i+1) r with e'|l
    ·rw[hx]at h;cases h
    ·rw[hx]at h;injection h with h;subst h;have ih:=Nz hx;obtain⟨s1,s2⟩:=mX hl;refine⟨fun d hd=>?_,?_⟩
     ·rcases List.mem_cons.1 hd with rfl|hd
      ·exact s1
      ·exact ih.1 d hd
     ·have ih2:=ih.2;simp only[linesOf]at ih2⊢;simp only[List.singleton_append,List.map_cons,List.filter_cons,h0,not_false_eq_true,decide_true,if_true,ih2,←s2]
section
open Go.RowKit Go.ChangeShapes Go.WideShapes
def ptAll(p:Pt):Nat:=p.file.size+p.text.size+(txtsB p.hunk.old).length+(txtsB p.hunk.new).length+(edB p.edit).length
section
variable {H : Type} {enc : TypeId × Value → H} {w : World} {spare : Nat → Bool} {held : Bool}
end
theorem Js :∀f:Fo,25*f.cnt≤(foB f).length
 | .nil=>by simp[Fo.cnt,foB]
 | .cons k t n ks r=>by
  have h1:=Js ks;have h2:=Js r;rw[oQ,Fo.cnt];omega
theorem TI :∀l:List ByteArray,8*l.length+8≤(txtsB l).length:=by
 intro l;have h :∀l:List ByteArray,8*l.length≤((l.map txtB).flatten).length:=by
  intro l
  induction l with
  | nil=>simp
  | cons s r ih=>simp only[List.map_cons,List.flatten_cons,aJ,List.length_cons,D6];omega
 have:=h l;simp only[txtsB,aJ,n8];omega
theorem YF :∀l:List Int,(pathB l).length=8+8*l.length:=by
 intro l;have h :∀l:List Int,((l.map num8).flatten).length=8*l.length:=by
  intro l
  induction l with
  | nil=>simp
  | cons s r ih=>simp only[List.map_cons,List.flatten_cons,aJ,List.length_cons,n8,ih];omega
 simp only[pathB,aJ,n8,h]
theorem rE{p:Pt}{M:Nat}(h:ptAll p≤M):p.hunk.old.length≤M∧p.hunk.new.length≤M∧p.edit.path.length≤M∧p.edit.old.cnt≤M∧p.edit.new.cnt≤M:=by
 have h1:=TI p.hunk.old;have h2:=TI p.hunk.new;have h3:=YF p.edit.path;have h4:=Js p.edit.old;have h5:=Js p.edit.new;have h6:=PM p.edit.old;have h7:=PM p.edit.new;have h8:(edB p.edit).length=1+(pathB p.edit.path).length+16+(8+p.edit.frm.size)+(8+p.edit.to.size)+(nodesB p.edit.old).length+(nodesB p.edit.new).length:=by
  simp only[edB,List.length_cons,aJ,n8,D6];omega
 unfold ptAll at h;refine⟨?_,?_,?_,?_,?_⟩<;>omega
end
section
open Go.RowKit
theorem YG{S:Nat→Prop}{A:Option Addr}{c:Nat}{l:List Int}{x:Int}{w:World}(hl:Rd S w A (l.map (.int .u8)))(hlen:l.length≤9223372036854775807):
  Calls Tryz.prog 171 #[.slice A l.length c,.int .u8 x] w fun e w'=>RetIx (x∈l) e∧w=w':=by
 have Hl:=hide hl;clear hl;go_enter Tryz.func171,Tryz.ntmps171
 go_wp2_with fail
 go_loop [8,5] (fun i _=>∃k:Nat,k≤l.length∧i = .int .i64 k∧Hid (∀j,j<k→l[j]?≠some x)) (fun i _=>l.length-(intOf i).toNat)
 case atStart=>exact⟨0,Nat.zero_le _,rfl,hide (fun j h=>absurd h (by omega))⟩
 case round =>
  obtain⟨k,hk,rfl,hall⟩:=hrel;by_cases hlt:k<l.length
  ·obtain⟨b,o,rfl,h1⟩:=Hl.out.at_ (j:=k) (by simpa using hlt);simp only[List.getElem_map]at h1;have E:=hide (show l[k]?=some l[k]by simp[hlt]);generalize l[k]=s at h1 E
   go_wp2_with fail
   ·have ht:(x == s)=true:=by assumption
    go_ret;exact⟨RetIx.yes (by omega) (List.mem_of_getElem? (E.out.trans (congrArg some (by simpa using ht:x=s).symm))),rfl⟩
   ·have ht:(x == s)=false:=by assumption
    go_round
    case rel=>exact⟨k+1,by omega,by go_num,hide (Dj hall.out E.out (fun e=>by subst e;simp at ht))⟩
    case measure=>simp[intOf];omega
  ·go_wp2_with fail
   go_ret;exact⟨RetIx.no (Dk hall.out hlt),rfl⟩
theorem NC{S:Nat→Prop}{A:Option Addr}{c:Nat}{l:List Int}{x:Int}{w:World}(hl:Rd S w A (l.map (.int .u8)))(hlen:l.length≤9223372036854775807):
  Calls Tryz.prog 113 #[.slice A l.length c,.int .u8 x] w fun e w'=>RetB (x∈l) e∧w=w':=by
 have Hl:=hide hl;clear hl;go_enter Tryz.func113,Tryz.ntmps113
 go_wp2_with(go_at_call 171;refine(YG Hl.out hlen).mono ?_;rintro e w' ⟨⟨i,rfl,hlo,hi⟩,rfl⟩;have Hi:=hide hi;clear hi)
 go_ret;exact⟨RetB.mk (by rw[←Hi.out];simp),rfl⟩
theorem in_1{w:World}{b p:Nat}{t:TypeId}{k a0:Int}(hb:w.heap[b]?=some (.cells #[.int .u8 a0] t))(hk:w.cell? ⟨p,0,none⟩=some (.int .u8 k)):
  Calls Tryz.prog 112 #[.slice (some ⟨b,0,none⟩) 1 1,.pointer (some ⟨p,0,none⟩)] w fun e w'=>e = .returned (.bool (decide (k∈[a0])))∧w'=w:=by
 have hr:Rd (fun _=>True) w (some ⟨b,0,none⟩) (([a0]:List Int).map (.int .u8)):= .inr ⟨_,0,rfl,trivial,fun j u hu=>by rw[Nat.zero_add,Lib.cell_of_heap hb];simpa using hu⟩;have HC:Hid (Calls Tryz.prog 113 #[.slice (some ⟨b,0,none⟩) 1 1,.int .u8 k] w fun e w'=>RetB (k∈[a0]) e∧w=w'):=hide (NC (c:=1) hr (by simp));clear hr;go_enter Tryz.func112,Tryz.ntmps112
 go_wp2_with(go_at_call 113;(with_reducible refine HC.out.mono ?_);rintro e1 w1 ⟨⟨x,rfl,hx⟩,rfl⟩;have HX:=hide hx;clear hx)
 have hxd:=Bool.eq_iff_iff.2 (HX.out.trans decide_eq_true_iff.symm);subst hxd;go_ret;exact⟨rfl,rfl⟩
theorem ND{w:World}{b p:Nat}{t:TypeId}{k a0 a1:Int}(hb:w.heap[b]?=some (.cells #[.int .u8 a0,.int .u8 a1] t))(hk:w.cell? ⟨p,0,none⟩=some (.int .u8 k)):
  Calls Tryz.prog 112 #[.slice (some ⟨b,0,none⟩) 2 2,.pointer (some ⟨p,0,none⟩)] w fun e w'=>e = .returned (.bool (decide (k∈[a0,a1])))∧w'=w:=by
 have hr:Rd (fun _=>True) w (some ⟨b,0,none⟩) (([a0,a1]:List Int).map (.int .u8)):= .inr ⟨_,0,rfl,trivial,fun j u hu=>by rw[Nat.zero_add,Lib.cell_of_heap hb];simpa using hu⟩;have HC:Hid (Calls Tryz.prog 113 #[.slice (some ⟨b,0,none⟩) 2 2,.int .u8 k] w fun e w'=>RetB (k∈[a0,a1]) e∧w=w'):=hide (NC (c:=2) hr (by simp));clear hr;go_enter Tryz.func112,Tryz.ntmps112
 go_wp2_with(go_at_call 113;(with_reducible refine HC.out.mono ?_);rintro e1 w1 ⟨⟨x,rfl,hx⟩,rfl⟩;have HX:=hide hx;clear hx)
 have hxd:=Bool.eq_iff_iff.2 (HX.out.trans decide_eq_true_iff.symm);subst hxd;go_ret;exact⟨rfl,rfl⟩
theorem NF{w:World}{b p:Nat}{t:TypeId}{k a0 a1 a2:Int}(hb:w.heap[b]?=some (.cells #[.int .u8 a0,.int .u8 a1,.int .u8 a2] t))(hk:w.cell? ⟨p,0,none⟩=some (.int .u8 k)):
  Calls Tryz.prog 112 #[.slice (some ⟨b,0,none⟩) 3 3,.pointer (some ⟨p,0,none⟩)] w fun e w'=>e = .returned (.bool (decide (k∈[a0,a1,a2])))∧w'=w:=by
 have hr:Rd (fun _=>True) w (some ⟨b,0,none⟩) (([a0,a1,a2]:List Int).map (.int .u8)):= .inr ⟨_,0,rfl,trivial,fun j u hu=>by rw[Nat.zero_add,Lib.cell_of_heap hb];simpa using hu⟩;have HC:Hid (Calls Tryz.prog 113 #[.slice (some ⟨b,0,none⟩) 3 3,.int .u8 k] w fun e w'=>RetB (k∈[a0,a1,a2]) e∧w=w'):=hide (NC (c:=3) hr (by simp));clear hr;go_enter Tryz.func112,Tryz.ntmps112
 go_wp2_with(go_at_call 113;(with_reducible refine HC.out.mono ?_);rintro e1 w1 ⟨⟨x,rfl,hx⟩,rfl⟩;have HX:=hide hx;clear hx)
 have hxd:=Bool.eq_iff_iff.2 (HX.out.trans decide_eq_true_iff.symm);subst hxd;go_ret;exact⟨rfl,rfl⟩
theorem EU{w:World}{a:Addr}{v:Value}{o:Obj}(h:w.cell? a=some v):(w.alloc o).cell? a=some v:=by
 rw[World.cell?_alloc_lt _ _ _ (block_lt_of_cell h)];exact h
theorem yP{w:World}{o:Obj}{b:Nat}(hb:b=w.heap.size):(w.alloc o).heap[b]?=some o:=by
 subst hb;exact heap_alloc_new w o
theorem wK(k:Nat)(w:World):Calls Tryz.prog 41 #[.int .u8 k] w fun e w'=>e = .returned (.tuple #[.bool (decide ((k:Int)∈[3,5])),.bool (decide ((k:Int)∈[2,3,4])),.bool (decide ((k:Int)∈[6])),.bool (decide ((k:Int)∈[2])),.bool (decide ((k:Int)∈[9]))])∧Below w.heap.size w w':=by
 have hk0:(w.alloc (.cells #[.int .u8 (k:Int)] 32)).cell? ⟨w.heap.size,0,none⟩=some (.int .u8 (k:Int)):=by rw[Lib.cell_of_heap (heap_alloc_new w _)];rfl
 have hmf :∀(fn:Fn) (first cap:Array Value) (w:World),(Instr.makeFunc fn first cap).run Tryz.prog w = .ok (.func fn first cap) w:=fun _ _ _ _=>rfl;go_enter Tryz.func41,Tryz.ntmps41
 go_wp2_with(first
  | (go_at_call 112;(with_reducible refine(ND (a0:=3) (a1:=5) (yP (by simp)) (by(repeat (first|exact hk0|refine EU ?_)))).mono ?_);rintro e1 w1 ⟨rfl,rfl⟩)
  | (go_at_call 112;(with_reducible refine(NF (a0:=2) (a1:=3) (a2:=4) (yP (by simp)) (by(repeat (first|exact hk0|refine EU ?_)))).mono ?_);rintro e1 w1 ⟨rfl,rfl⟩)
  | (go_at_call 112;(with_reducible refine(in_1 (a0:=6) (yP (by simp)) (by(repeat (first|exact hk0|refine EU ?_)))).mono ?_);rintro e1 w1 ⟨rfl,rfl⟩)
  | (go_at_call 112;(with_reducible refine(in_1 (a0:=2) (yP (by simp)) (by(repeat (first|exact hk0|refine EU ?_)))).mono ?_);rintro e1 w1 ⟨rfl,rfl⟩)
  | (go_at_call 112;(with_reducible refine(in_1 (a0:=9) (yP (by simp)) (by(repeat (first|exact hk0|refine EU ?_)))).mono ?_);rintro e1 w1 ⟨rfl,rfl⟩))
 refine bodyPost_ret (v:= .tuple #[.bool (decide ((k:Int)∈[3,5])),.bool (decide ((k:Int)∈[2,3,4])),.bool (decide ((k:Int)∈[6])),.bool (decide ((k:Int)∈[2])),.bool (decide ((k:Int)∈[9]))]) ?_ rfl ⟨rfl,?_⟩
 ·simp[results,Tryz.results41,go_sem]
 ·repeat (first|exact ag _ _|refine Below.alloc ?_ (by simp<;>omega) _)
theorem Aj:isWord {data:=#[]}=false:=by
 have h:(ByteArray.toList {data:=#[]}).isEmpty=true:=by rw[List.isEmpty_iff,fH];decide
 unfold isWord;rw[h];rfl
theorem Ak{w:World}{P R:Nat}{r:Bool}{s:ByteArray}(hr:w.cell? ⟨R,0,none⟩=some (.bool r))(hf:w.frozen? ⟨R,0,none⟩=false):
  Calls Tryz.prog 44 #[.bool false,.string s,.pointer (some ⟨P,0,none⟩),.pointer (some ⟨R,0,none⟩)] w fun e w'=>e = .returned (.tuple #[])∧w'=w.setCell ⟨R,0,none⟩ (.bool (r && decide (s.size=0))):=by
 rcases r with _|_
 ·go_enter Tryz.func44,Tryz.ntmps44
  go_wp2_with fail
  all_goals go_end0
  exact⟨rfl,rfl⟩
 ·by_cases h0:s.size=0
  ·have hs:s=⟨#[]⟩:=ByteArray.ext (Array.eq_empty_of_size_eq_zero h0);subst hs;go_enter Tryz.func44,Tryz.ntmps44
   go_wp2_with(go_at_call 42;(with_reducible refine(DN _ _).mono ?_);rintro e1 w1 ⟨rfl,rfl⟩;rw[Aj])
   all_goals go_end0
   exact⟨rfl,rfl⟩
  ·have hne:s.toList.isEmpty=false:=by rw[Bool.eq_false_iff,ne_eq,List.isEmpty_iff,fH];omega
   have hd:decide (s.size=0)=false:=by simp[h0]
   rcases hw:isWord s with _|_
   all_goals
    go_enter Tryz.func44,Tryz.ntmps44
    go_wp2_with(go_at_call 42;(with_reducible refine(DN _ _).mono ?_);rintro e1 w1 ⟨rfl,rfl⟩;rw[hw])
    all_goals go_end0
    exact⟨rfl,by rw[hd];rfl⟩
theorem rF{w:World}{b:Nat}{p:Nat×ByteArray}(hT:WaysAt w b)(hp:p∈kwL):(Instr.lookup 100 (.map (some b)) (.int .u8 p.1) true).run Tryz.prog w = .ok (.tuple #[wayV p,.bool true]) w:=by
 obtain⟨es,clock,hb,F,_,hD⟩:=hT;have hlt:p.1<256:=by
  simp only[kwL,List.mem_cons,List.not_mem_nil,or_false]at hp;rcases hp with rfl|rfl|rfl|rfl|rfl|rfl|rfl|rfl|rfl<;>decide
 have hk:=uN (p.1:Int) (by
  simp only[kwL,List.mem_cons,List.not_mem_nil,or_false]at hp;rcases hp with rfl|rfl|rfl|rfl|rfl|rfl|rfl|rfl|rfl<;>decide)
 have hz:(zeroValue 98).run Tryz.prog w = .ok (.agg #[.string {data:=#[]},.nilFunc]) w:=by kernel_rfl
 have hat :∀zd,waysD.atKey (.int .u8 (p.1:Int)) zd = .lit (.int .u8 (p.1:Int)):=fun zd=>by
  rw[MG];simp only[kwL,List.mem_cons,List.not_mem_nil,or_false]at hp;rcases hp with rfl|rfl|rfl|rfl|rfl|rfl|rfl|rfl|rfl<;>rfl
 rw[hD]at hat;rcases Maps.fit_look true fC Tryz.underlying100 hz hb F hk with⟨_,_,hh⟩|⟨e0,y,_,_,hrun,hRv,NG,_⟩
 ·have h1:=hh (.lit (.bool false));rw[hat]at h1;cases h1
 ·obtain⟨⟨q,hq⟩,hv⟩:=RS hRv;have hv:e0.val=wayV q:=hv;have hy:=Option.some.inj ((qR hq).symm.trans (hv▸hRv));have hqp:(p.1:Int)=(q.1:Int):=by
   have h1:=NG (.lit (.bool false));have h2:DataW.lit (Lit.int .u8 (p.1:Int))=y.1:=(hat _).symm.trans h1;rw[←hy]at h2;exact(Lit.int.inj (DataW.lit.inj h2)).2
  have hpq:p.1=q.1:=by omega
  have h2:p.2=q.2:=MH (k:=p.1) (show(p.1,p.2)∈kwL from hp) (by rw[hpq];exact hq);have h3:p=q:=Prod.ext hpq h2;subst h3;rw[hv]at hrun
  simpa only[if_true]using hrun
theorem PowTab.tab {w : World} (h : PowTab w) : Lib.TabIs Tryz.prog w "internal/strconv.uint64pow10" .u64 Lib.pow10Tab := h.2
theorem wL(w:World)(a b:ByteArray):(w.alloc (.cells #[.string a,.string b] 9)).ownsRow 0 9 1 (.slice (some ⟨w.heap.size,0,none⟩) 2 2) 2 ([a,b].map .string):=
 ⟨rfl,.inr ⟨w.heap.size,2,#[.string a,.string b],rfl,Nat.zero_le _,heap_alloc_new w _,aC _,by decide,rfl,rfl⟩⟩
abbrev itoaT(n:Int):ByteArray:=⟨(Lib.itoa n).toArray⟩
abbrev wError:ByteArray:=⟨#[101,114,114,111,114]⟩
theorem An.err_line(a:An)(h :¬a.err=0):Lib.join ([wError,itoaT a.err].map (·.data.toList)) [32]=a.line:=by
 rw[An.line,An.parts,if_neg h];simp[wError,itoaT,kwError]
theorem An.err_len(a:An)(h :¬a.err=0)(hi:isInt64 a.err):a.line.length≤40:=by
 rw[An.line_err a h];have:=Lib.itoa_length_le a.err hi.1 hi.2;simp[kwError];omega
theorem rG{S:Nat→Prop}{w:World}{x:Ah}{a:An}(h:AnIn S w x a)(he :¬a.err=0)(ht:PowTab w):
  Calls Tryz.prog 20 #[.agg #[.int .i64 a.err,.slice x.nA a.names.length x.nc,.string a.text,.slice x.bA a.bytes.length x.bc]] w fun e w'=>e = .returned (.string ⟨a.line.toArray⟩)∧Below w.heap.size w w':=by
 have NH:=hide (a.err_len he h.err);have iR:=hide (a.err_line he);have Hi:Hid (-9223372036854775808≤a.err∧a.err≤9223372036854775807):=hide h.err;have HT:=hide (PowTab.below ht (ag w (.cells #[.int .i64 a.err,.slice x.nA a.names.length x.nc,.string a.text,.slice x.bA a.bytes.length x.bc] 53)));clear h ht;go_enter Tryz.func20,Tryz.ntmps20
 go_wp2_with(first
  | (go_at_call 55;(with_reducible refine(Tryz.strconv_Itoa a.err Hi.out.1 Hi.out.2 _ (PowTab.tab HT.out)).mono ?_);rintro e1 w1 ⟨rfl,k1,os,rfl⟩;have hg:=VO (w.alloc (.cells #[.int .i64 a.err,.slice x.nA a.names.length x.nc,.string a.text,.slice x.bA a.bytes.length x.bc] 53)) k1 os;generalize Go.Sort.grow ((w.alloc (.cells #[.int .i64 a.err,.slice x.nA a.names.length x.nc,.string a.text,.slice x.bA a.bytes.length x.bc] 53)).drewN k1) os=w1 at hg;have HB1:Hid (Below w.heap.size w w1):=hide ((ag w _).trans (hg.mono (by simp)));clear hg)
  | (go_at_call 47;(with_reducible refine(La (B:=0) (ws:=[wError,itoaT a.err]) (wL w1 wError (itoaT a.err)) rfl (Nat.succ_pos _) (by simp) (by have:=NH.out;rw[iR.out];omega)).mono ?_);rintro e2 w2 ⟨rfl,hb2⟩;have HB2:Hid (Below w.heap.size w w2):=hide ((HB1.out.trans ((ag w1 _).mono HB1.out.size)).trans (hb2.mono (by have:=HB1.out.size;simp;omega)));clear hb2))
 go_ret;exact⟨congrArg (fun l:List UInt8=>Ending.returned (.string ⟨l.toArray⟩)) iR.out,HB2.out⟩
theorem rH{S:Nat→Prop}{w:World}{x:Ah}{a:An}(h:AnIn S w x a)(ht:PowTab w)(hbk:a.bulk≤1099511627776):
  Calls Tryz.prog 20 #[.agg #[.int .i64 a.err,.slice x.nA a.names.length x.nc,.string a.text,.slice x.bA a.bytes.length x.bc]] w fun e w'=>e = .returned (.string ⟨a.line.toArray⟩)∧Below w.heap.size w w':=by
 by_cases he:a.err=0
 ·rw[he];exact kG h he hbk
 ·exact rG h he ht
end
end Go.Proofs.YtjjaojnglnpgaaaGreatDoor
