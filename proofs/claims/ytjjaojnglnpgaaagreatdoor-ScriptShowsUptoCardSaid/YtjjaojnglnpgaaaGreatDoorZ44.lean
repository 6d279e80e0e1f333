/- Part 45 of what scriptShows_cardUpto rests on. -/
import Derived.Deep.DeepCutAuto
import Derived.Deep.CutRange
import Derived.Test.YtjjaojnglnpgaaaGreatDoorZ30
import Derived.Test.YtjjaojnglnpgaaaGreatDoorZ31
import Derived.Test.YtjjaojnglnpgaaaGreatDoorZ32
import Derived.Test.YtjjaojnglnpgaaaGreatDoorZ25
import Derived.Test.YtjjaojnglnpgaaaGreatDoorZ41
import Derived.Test.YtjjaojnglnpgaaaGreatDoorZ24
import Derived.Test.YtjjaojnglnpgaaaGreatDoorZ28
import Derived.Test.YtjjaojnglnpgaaaGreatDoorZ09
import Derived.Test.YtjjaojnglnpgaaaGreatDoorZ43
import Derived.Test.YtjjaojnglnpgaaaGreatDoorZ13
import Derived.Test.YtjjaojnglnpgaaaGreatDoorZ08
import Derived.Test.YtjjaojnglnpgaaaGreatDoorZ03
import Derived.Test.YtjjaojnglnpgaaaGreatDoorZ00
set_option linter.unusedVariables false
set_option linter.unusedSimpArgs false
set_option maxHeartbeats 16000000
set_option maxRecDepth 1000000
namespace Go.Proofs.YtjjaojnglnpgaaaGreatDoor
theorem jL (s t:ByteArray):(s++t).data.toList=s.data.toList++t.data.toList:=by simp [ByteArray.data_append]
section
open Go.RowKit
theorem Xz{w:World}{g m k c:Nat}{f t:ByteArray}{mid:List ByteArray}(h:oJ w g m k c f t mid)(hf:f=ay∨f=aV):Calls Tryz.prog 121 #[.slice (some ⟨g,0,none⟩) m c] w (dL (f::(mid++[t])) w):=by
 rcases hu:unhexL t.data.toList with _|b
 ·exact zjr h hf hu
 ·rcases hall:mid.all isWord with _|_
  ·exact zjs h hf hu hall
  ·rcases hf with rfl|rfl
   ·rcases hp:iM b with _|p
    ·exact zjo h hu hall hp
    ·by_cases hml:mid.length=2
     ·rcases mid with _|⟨repo,_|⟨n,_|⟨x,r⟩⟩⟩
      ·cases hml
      ·cases hml
      ·obtain rfl:m=4:=h.em;obtain rfl:k=3:=h.ek;exact zjt h hu hall hp
      ·simp at hml
     ·exact zjp h hu hall hp hml
   ·obtain⟨y,hy⟩:∃y,(mid++[t])[0]?=some y:=⟨_,List.getElem?_eq_getElem (by simp)⟩;exact uJ h hy hu hall
theorem Df{w:World}{s:ByteArray}{mid:List ByteArray}{t:ByteArray}(hs:s.size≤1099511627)(hws:wordsOf 32 s=ay::(mid++[t])):Calls Tryz.prog 50 #[.string s] w (dL (wordsOf 32 s) w):=by
 have hlen:=oZ (c:=32) (s:=s) hs;rw[hws]at hlen;obtain⟨m,hm⟩:∃m,(ay::(mid++[t])).length=m:=⟨_,rfl⟩;have nG:m=mid.length+2:=by rw[←hm];simp
 have hm2:2≤m:=by omega
 rw[hm]at hlen;have hsz :∀z∈ay::(mid++[t]),z.size≤1099511627:=fun z hz=>aI (oV (c:=32) (s:=s) (by rw[hws];exact hz)).1 (by omega);have Hws:=hide hws;have Hm:=hide hm;have vI :¬(m:Int)<2:=by omega
 have HP:Hid (∀W,Calls Tryz.prog 72 #[.string s,.int .u8 32] W fun e w'=>∃v,e = .returned v∧w'.ownsRow W.heap.size 9 1 v (wordsOf 32 s).length ((wordsOf 32 s).map .string)∧Below W.heap.size W w'):=hide fun W=>pI s 32 (by omega) W;have HW:Hid (∀W g c,gX W g (ay::(mid++[t]))→g<W.heap.size→m≤c→c≤9223372036854775807→Calls Tryz.prog 121 #[.slice (some ⟨g,0,none⟩) m c] W (dL (ay::(mid++[t])) W)):=hide fun W g c h h1 h2 h3 =>
  Xz ⟨h,h1,rfl,nG,h2,h3,by omega,fun z hz=>aI (hsz z (by simp[hz])) (by decide),hsz t (by simp)⟩ (.inl rfl)
 clear hws hm hsz nG;go_enter Tryz.func50,Tryz.ntmps50
 go_wp2_with(first
  | (go_at_call 72;(with_reducible refine(HP.out _).mono ?_);rintro e1 w1 ⟨v1,rfl,ho1,hB1⟩;rw[Hws.out,Hm.out]at ho1;obtain⟨g,c1,rfl,hg0,hg1,hc1,hc2,hcl⟩:=pJ Hm.out (by omega) ho1;have HZ1:=hide ((lG w).next hB1);have iO:=hide hcl;have k0:w1.cell? ⟨g,0,none⟩=some (.string {data:=#[114,101,99,111,114,100]}):=hcl 0 _ rfl;clear ho1 hB1 hcl)
  | (go_at_call 121;(with_reducible refine(HW.out _ _ _ iO.out hg1 hc1 hc2).mono ?_);rintro e2 w2 ⟨hB2,c,x,A,n,b,rfl,hy,hn⟩;have HZ2:=hide (HZ1.out.next hB2);have Hy:=hide hy;have Hn:=hide hn;clear hB2 hy hn)
  | (refine wpList_store_mid rfl _ _ _ rfl w.heap.size 0 (ag c x A n).toArray rfl rfl HZ2.out.ct zag (jQ _ _ _ _) ?_;obtain⟨X,hX,hX1,hX2,dQ,iH⟩:=HZ2.out.stored (ag c x A n) rfl;rw[←hX];have fE:=hide hX1;have iG:=hide hX2;have fD:=hide dQ;clear hX hX1 hX2 dQ iH))
 refine bodyPost_ret (v:= .tuple #[.agg (ag c x A n).toArray,.bool b]) (mX Tryz.results50 rfl rfl fE.out rfl) rfl ⟨fD.out,c,x,A,n,b,rfl,fun h=>?_,fun h=>by rw[Hws.out];exact Hn.out h⟩;obtain⟨h1,h2⟩:=Hy.out h;have hz1:=HZ1.out.lt;exact⟨by rw[Hws.out];exact h1,(h2.keep fun g hg=>iG.out.block g (by omega)).mono fun g _ hg=>by omega⟩
theorem Dh{w:World}{s:ByteArray}{mid:List ByteArray}{t:ByteArray}(hs:s.size≤1099511627)(hws:wordsOf 32 s=aV::(mid++[t])):Calls Tryz.prog 50 #[.string s] w (dL (wordsOf 32 s) w):=by
 have hlen:=oZ (c:=32) (s:=s) hs;rw[hws]at hlen;obtain⟨m,hm⟩:∃m,(aV::(mid++[t])).length=m:=⟨_,rfl⟩;have nG:m=mid.length+2:=by rw[←hm];simp
 have hm2:2≤m:=by omega
 rw[hm]at hlen;have hsz :∀z∈aV::(mid++[t]),z.size≤1099511627:=fun z hz=>aI (oV (c:=32) (s:=s) (by rw[hws];exact hz)).1 (by omega);have Hws:=hide hws;have Hm:=hide hm;have vI :¬(m:Int)<2:=by omega
 have HP:Hid (∀W,Calls Tryz.prog 72 #[.string s,.int .u8 32] W fun e w'=>∃v,e = .returned v∧w'.ownsRow W.heap.size 9 1 v (wordsOf 32 s).length ((wordsOf 32 s).map .string)∧Below W.heap.size W w'):=hide fun W=>pI s 32 (by omega) W;have HW:Hid (∀W g c,gX W g (aV::(mid++[t]))→g<W.heap.size→m≤c→c≤9223372036854775807→Calls Tryz.prog 121 #[.slice (some ⟨g,0,none⟩) m c] W (dL (aV::(mid++[t])) W)):=hide fun W g c h h1 h2 h3 =>
  Xz ⟨h,h1,rfl,nG,h2,h3,by omega,fun z hz=>aI (hsz z (by simp[hz])) (by decide),hsz t (by simp)⟩ (.inr rfl)
 clear hws hm hsz nG;go_enter Tryz.func50,Tryz.ntmps50
 go_wp2_with(first
  | (go_at_call 72;(with_reducible refine(HP.out _).mono ?_);rintro e1 w1 ⟨v1,rfl,ho1,hB1⟩;rw[Hws.out,Hm.out]at ho1;obtain⟨g,c1,rfl,hg0,hg1,hc1,hc2,hcl⟩:=pJ Hm.out (by omega) ho1;have HZ1:=hide ((lG w).next hB1);have iO:=hide hcl;have k0:w1.cell? ⟨g,0,none⟩=some (.string {data:=#[105,109,112,111,114,116]}):=hcl 0 _ rfl;clear ho1 hB1 hcl)
  | (go_at_call 121;(with_reducible refine(HW.out _ _ _ iO.out hg1 hc1 hc2).mono ?_);rintro e2 w2 ⟨hB2,c,x,A,n,b,rfl,hy,hn⟩;have HZ2:=hide (HZ1.out.next hB2);have Hy:=hide hy;have Hn:=hide hn;clear hB2 hy hn)
  | (refine wpList_store_mid rfl _ _ _ rfl w.heap.size 0 (ag c x A n).toArray rfl rfl HZ2.out.ct zag (jQ _ _ _ _) ?_;obtain⟨X,hX,hX1,hX2,dQ,iH⟩:=HZ2.out.stored (ag c x A n) rfl;rw[←hX];have fE:=hide hX1;have iG:=hide hX2;have fD:=hide dQ;clear hX hX1 hX2 dQ iH))
 refine bodyPost_ret (v:= .tuple #[.agg (ag c x A n).toArray,.bool b]) (mX Tryz.results50 rfl rfl fE.out rfl) rfl ⟨fD.out,c,x,A,n,b,rfl,fun h=>?_,fun h=>by rw[Hws.out];exact Hn.out h⟩;obtain⟨h1,h2⟩:=Hy.out h;have hz1:=HZ1.out.lt;exact⟨by rw[Hws.out];exact h1,(h2.keep fun g hg=>iG.out.block g (by omega)).mono fun g _ hg=>by omega⟩
theorem zhn{c:aY}(h:fM c)(h2:c.kind≠2)(h9:c.kind≠9):(c.repo::aS c).all isWord=true:=by
 rw[List.all_eq_true];intro x hx;unfold aS at hx;simp only[List.mem_cons,List.mem_append,h2,h9,if_false,List.not_mem_nil,or_false,false_or]at hx;have one :∀{p:Prop} [Decidable p] {y:ByteArray},x∈(if p then[y]else[])→p∧x=y:=by
  intro p _ y hx;split at hx
  ·exact⟨by assumption,by simpa using hx⟩
  ·cases hx
 rcases hx with rfl|hx|hx|hx
 ·exact h.repo
 ·obtain⟨h1,rfl⟩:=one hx;have:=h.frm
  rwa [if_pos h1]at this
 ·obtain⟨h1,rfl⟩:=one hx;have:=h.name
  rwa [if_pos (.inr h1)]at this
 ·obtain⟨h1,rfl⟩:=one hx;have:=h.file
  rwa [if_pos h1]at this
theorem uN{f x:ByteArray}{r:List ByteArray}(h2:f≠ay)(h9:f≠aV)(hall:(x::r).all isWord=false):lineOf (f::x::r)=none:=by
 rcases hl:lineOf (f::x::r)with _|c
 ·rfl
 ·obtain⟨h1,e⟩:=WI hl;simp only[aT,List.cons.injEq]at e;obtain⟨rfl,rfl,rfl⟩:=e;have hk:c.kind≠2∧c.kind≠9:=⟨fun e=>h2 (by rw[e];rfl),fun e=>h9 (by rw[e];rfl)⟩;rw[zhn h1 hk.1 hk.2]at hall;cases hall
theorem zh6{w:World}{s:ByteArray}(hs:s.size≤1099511627):Calls Tryz.prog 50 #[.string s] w (dL (wordsOf 32 s) w):=by
 obtain⟨ws,hws⟩:∃ws,wordsOf 32 s=ws:=⟨_,rfl⟩;rcases ws with _|⟨f,_|⟨x,r⟩⟩
 ·exact absurd hws (VU 32 s)
 ·exact zjj hs hws
 have hlast :∃mid t,x::r=mid++[t]:=⟨_,_,(List.dropLast_concat_getLast (by simp:x::r≠[])).symm⟩;by_cases h2:f=ay
 ·subst h2;obtain⟨mid,t,e⟩:=hlast;rw[e]at hws;exact Df hs hws
 by_cases h9:f=aV
 ·subst h9;obtain⟨mid,t,e⟩:=hlast;rw[e]at hws;exact Dh hs hws
 rcases hall:(x::r).all isWord with _|_
 ·exact yN hs hws hall h2 h9 (by rw[hws];exact uN h2 h9 hall)
 by_cases h1:f=jo
 ·subst h1;exact Gx hs hws hall
 by_cases h7:f=jR
 ·subst h7;exact Gy hs hws hall
 by_cases h8:f=fA
 ·subst h8;exact Gz hs hws hall
 by_cases h3:f=eP
 ·subst h3;by_cases hl:r.length=2
  ·rcases r with _|⟨a,_|⟨b,_|⟨c,r⟩⟩⟩
   ·cases hl
   ·cases hl
   ·exact CX hs hws hall
   ·simp at hl
  ·exact CO hs hws hall hl
 by_cases h4:f=dK
 ·subst h4;by_cases hl:r.length=1
  ·rcases r with _|⟨a,_|⟨b,r⟩⟩
   ·cases hl
   ·exact CP hs hws hall
   ·simp at hl
  ·exact CQ hs hws hall hl
 by_cases h5:f=dY
 ·subst h5;by_cases hl:r.length=1
  ·rcases r with _|⟨a,_|⟨b,r⟩⟩
   ·cases hl
   ·exact CS hs hws hall
   ·simp at hl
  ·exact CU hs hws hall hl
 by_cases h6:f=bV
 ·subst h6;by_cases hl:r.length=1
  ·rcases r with _|⟨a,_|⟨b,r⟩⟩
   ·cases hl
   ·exact CV hs hws hall
   ·simp at hl
  ·exact CW hs hws hall hl
 refine zjk hs hws hall h1 h2 h3 h4 h5 h6 h7 h8 h9 ?_;rw[hws,kY];have hk:kindOf f=none:=by
  rcases hk:kindOf f with _|k
  ·rfl
  ·have:=PK hk;simp only[dP,List.mem_cons,List.not_mem_nil,or_false,Prod.mk.injEq]at this;rcases this with⟨_,e⟩|⟨_,e⟩|⟨_,e⟩|⟨_,e⟩|⟨_,e⟩|⟨_,e⟩|⟨_,e⟩|⟨_,e⟩|⟨_,e⟩
   ·exact absurd e h1
   ·exact absurd e h2
   ·exact absurd e h3
   ·exact absurd e h4
   ·exact absurd e h5
   ·exact absurd e h6
   ·exact absurd e h7
   ·exact absurd e h8
   ·exact absurd e h9
 rw[hk];rfl
structure oG(c:aY):Prop where
 strs:c.repo.size+c.frm.size+c.name.size+c.file.size≤268435456
 put:(gJ c.patch).length≤134217727
 bytes:c.bytes.length≤134217727
noncomputable def gz(c:aY):ByteArray:=if 1≤c.kind∧c.kind≤9 then ig c else{data:=#[]}
theorem XA{c:aY}(hf:eY c.patch):lineOf (wordsOf 32 (gz c))=some c↔fM c:=by
 by_cases h:1≤c.kind∧c.kind≤9
 ·rw[gz,if_pos h];exact uy hf
 ·rw[gz,if_neg h];constructor
  ·intro e;have e2:wordsOf 32 {data:=#[]}=[{data:=#[]}]:=rfl;rw[e2]at e;cases e
  ·intro h2;exact absurd h2.kind h
theorem uO{c:aY}(hf:eY c.patch)(h:lineOf (wordsOf 32 (gz c))=some c):kN c=gz c:=by
 have h1:=(XA hf).1 h;rw[WJ h1,gz,if_pos h1.kind]
theorem uP{c:aY}(hf:eY c.patch)(h :¬lineOf (wordsOf 32 (gz c))=some c):kN c={data:=#[63]}:=En fun h1=>h ((XA hf).2 h1)
theorem kS{c:aY}{k:Nat}(hk:c.kind=k)(h:1≤k∧k≤9):gz c=ig c:=by rw[gz,hk,if_pos h]
theorem Lh{c:aY}(hk:c.kind=1):(({data:=#[110,101,119,32]}:ByteArray)++c.repo)=gz c:=by
 rw[kS hk (by decide)];apply vG;rw[ig,Az];simp[aT,aS,hk,kwOf,joinC,jo,jL]
theorem Lj{c:aY}(hk:c.kind=2):(((((({data:=#[114,101,99,111,114,100,32]}:ByteArray)++c.repo)++({data:=#[32]}:ByteArray))++c.name)++({data:=#[32]}:ByteArray))++dh (dG c.patch))=gz c:=by
 rw[kS hk (by decide)];apply vG;rw[ig,Az];simp[aT,aS,hk,kwOf,joinC,ay,jL]
theorem Ll{c:aY}(hk:c.kind=3):(((((({data:=#[112,117,108,108,32]}:ByteArray)++c.repo)++({data:=#[32]}:ByteArray))++c.frm)++({data:=#[32]}:ByteArray))++c.name)=gz c:=by
 rw[kS hk (by decide)];apply vG;rw[ig,Az];simp[aT,aS,hk,kwOf,joinC,eP,jL]
theorem Lm{c:aY}(hk:c.kind=4):(((({data:=#[117,110,112,117,108,108,32]}:ByteArray)++c.repo)++({data:=#[32]}:ByteArray))++c.name)=gz c:=by
 rw[kS hk (by decide)];apply vG;rw[ig,Az];simp[aT,aS,hk,kwOf,joinC,dK,jL]
theorem Lp{c:aY}(hk:c.kind=5):(((({data:=#[109,101,114,103,101,32]}:ByteArray)++c.repo)++({data:=#[32]}:ByteArray))++c.frm)=gz c:=by
 rw[kS hk (by decide)];apply vG;rw[ig,Az];simp[aT,aS,hk,kwOf,joinC,dY,jL]
theorem Lr{c:aY}(hk:c.kind=6):(((({data:=#[99,104,101,99,107,111,117,116,32]}:ByteArray)++c.repo)++({data:=#[32]}:ByteArray))++c.file)=gz c:=by
 rw[kS hk (by decide)];apply vG;rw[ig,Az];simp[aT,aS,hk,kwOf,joinC,bV,jL]
theorem Ls{c:aY}(hk:c.kind=7):(({data:=#[108,111,103,32]}:ByteArray)++c.repo)=gz c:=by
 rw[kS hk (by decide)];apply vG;rw[ig,Az];simp[aT,aS,hk,kwOf,joinC,jR,jL]
theorem Lt{c:aY}(hk:c.kind=8):(({data:=#[101,120,112,111,114,116,32]}:ByteArray)++c.repo)=gz c:=by
 rw[kS hk (by decide)];apply vG;rw[ig,Az];simp[aT,aS,hk,kwOf,joinC,fA,jL]
theorem Lu{c:aY}(hk:c.kind=9):(((({data:=#[105,109,112,111,114,116,32]}:ByteArray)++c.repo)++({data:=#[32]}:ByteArray))++dh c.bytes)=gz c:=by
 rw[kS hk (by decide)];apply vG;rw[ig,Az];simp[aT,aS,hk,kwOf,joinC,aV,jL]
theorem OV(b:List UInt8):(dh b).size≤2*b.length+1:=by
 have:=Rl b
 rwa [Array.length_toList]at this
theorem zC{c:aY}(hz:oG c):(gz c).size≤1099511627:=by
 have h1:=hz.strs;have h2:=hz.put;have h3:=hz.bytes;have h4:=OV (dG c.patch);have h5:=OV c.bytes;have h6:=Oo c.patch;by_cases h:1≤c.kind∧c.kind≤9
 ·have hk:c.kind=1∨c.kind=2∨c.kind=3∨c.kind=4∨c.kind=5∨c.kind=6∨c.kind=7∨c.kind=8∨c.kind=9:=by omega
  rcases hk with e|e|e|e|e|e|e|e|e
  ·rw[←Lh e];simp only[ByteArray.size_append,show({data:=#[110,101,119,32]}:ByteArray).size=4 from rfl,show({data:=#[32]}:ByteArray).size=1 from rfl];omega
  ·rw[←Lj e];simp only[ByteArray.size_append,show({data:=#[114,101,99,111,114,100,32]}:ByteArray).size=7 from rfl,show({data:=#[32]}:ByteArray).size=1 from rfl];omega
  ·rw[←Ll e];simp only[ByteArray.size_append,show({data:=#[112,117,108,108,32]}:ByteArray).size=5 from rfl,show({data:=#[32]}:ByteArray).size=1 from rfl];omega
  ·rw[←Lm e];simp only[ByteArray.size_append,show({data:=#[117,110,112,117,108,108,32]}:ByteArray).size=7 from rfl,show({data:=#[32]}:ByteArray).size=1 from rfl];omega
  ·rw[←Lp e];simp only[ByteArray.size_append,show({data:=#[109,101,114,103,101,32]}:ByteArray).size=6 from rfl,show({data:=#[32]}:ByteArray).size=1 from rfl];omega
  ·rw[←Lr e];simp only[ByteArray.size_append,show({data:=#[99,104,101,99,107,111,117,116,32]}:ByteArray).size=9 from rfl,show({data:=#[32]}:ByteArray).size=1 from rfl];omega
  ·rw[←Ls e];simp only[ByteArray.size_append,show({data:=#[108,111,103,32]}:ByteArray).size=4 from rfl,show({data:=#[32]}:ByteArray).size=1 from rfl];omega
  ·rw[←Lt e];simp only[ByteArray.size_append,show({data:=#[101,120,112,111,114,116,32]}:ByteArray).size=7 from rfl,show({data:=#[32]}:ByteArray).size=1 from rfl];omega
  ·rw[←Lu e];simp only[ByteArray.size_append,show({data:=#[105,109,112,111,114,116,32]}:ByteArray).size=7 from rfl,show({data:=#[32]}:ByteArray).size=1 from rfl];omega
 ·rw[gz,if_neg h];decide
theorem zh7{S:Nat→Prop}{x:Ph}{A:Option Addr}{n:Nat}{c:aY}{w:World}(hc:dF S w c x A n)(hf:eY c.patch)(hz:oG c):
  Calls Tryz.prog 16 #[.agg (ag c x A n).toArray] w fun e w'=>e = .returned (.string (kN c))∧Below w.heap.size w w':=by
 have b1:c.repo.size≤268435456:=by have:=hz.strs;omega
 have b2:c.frm.size≤268435456:=by have:=hz.strs;omega
 have b3:c.name.size≤268435456:=by have:=hz.strs;omega
 have b4:c.file.size≤268435456:=by have:=hz.strs;omega
 have b5:(dh (dG c.patch)).size≤268435456:=by have h1:=OV (dG c.patch);have h2:=Oo c.patch;have h3:=hz.put;omega
 have b6:(dh c.bytes).size≤268435456:=by have h1:=OV c.bytes;have h3:=hz.bytes;omega
 have HZ:=hide hz;have HC:=hide hc;have HF:=hide hf;clear hz hc hf;have HB:=hide (az w (.cells (ag c x A n).toArray 46));have HR:Hid ((w.alloc (.cells (ag c x A n).toArray 46)).rangeAt w.heap.size 0 (ag c x A n)):=hide (fun j v hv=>by rw[Lib.cell_of_heap (heap_alloc_new w _),Nat.zero_add];simpa using hv);have lV:Hid (w.heap.size<(w.alloc (.cells (ag c x A n).toArray 46)).heap.size):=hide (by simp);go_enter Tryz.func16,Tryz.ntmps16
 go_upto_region 1 with fail
 generalize w.alloc (.cells (ag c x A n).toArray 46)=W0 at HB HR lV⊢;have k0:W0.cell? ⟨w.heap.size,0,none⟩=some (.int .u8 c.kind):=HR.out 0 _ rfl
 go_upto_block 0 with fail
 go_cut [3,4,5]from 10 to 94 (fun v b e wx=>v = .string (gz c)∧Below w.heap.size w wx∧wx.rangeAt w.heap.size 0 (ag c x A n)∧w.heap.size<wx.heap.size)
 case first =>
  by_cases hk:c.kind=1
  ·have t1:((c.kind:Int) == 1)=true:=beq_iff_eq.mpr (by omega);have HK:=hide hk;clear hk;have k1:W0.cell? ⟨w.heap.size,1,none⟩=_:=HR.out 1 _ rfl
   go_wp2_with fail
   go_meet
   exact⟨congrArg Value.string (Lh HK.out),HB.out,HR.out,lV.out⟩
  by_cases hk:c.kind=2
  ·have t1:((c.kind:Int) == 1)=false:=beq_eq_false_iff_ne.mpr (by omega);have t2:((c.kind:Int) == 2)=true:=beq_iff_eq.mpr (by omega);have HK:=hide hk;clear hk;obtain⟨okb,Et⟩:∃b,b=okB c.patch:=⟨_,rfl⟩;obtain⟨ec,qA⟩:∃ec:Int,ec=(if okb=true then 0 else 4):=⟨_,rfl⟩;have CG:Hid (Calls Tryz.prog 48 #[.agg (bU c.patch x).toArray] W0 fun e w'=>Below W0.heap.size W0 w'∧∃A2 c2,e = .returned (.tuple #[.slice A2 (dG c.patch).length c2,.int .i64 ec])∧BytesIn (fun _=>True) w' A2 (dG c.patch)):=hide (by
    refine(uM (HC.out.below HB.out).patch (aI HZ.out.put (by decide))).mono ?_;rintro e w' ⟨hB,⟨hok,v,rfl,hb⟩|⟨hno,rfl⟩⟩
    ·have e1:dG c.patch=gJ c.patch:=if_pos hok;have e2:okb=true:=by rw[Et,KC];exact hok
     obtain⟨A2,c2,rfl,hb2,_⟩:=hb.bytes (S:=fun _=>True) (fun _ _=>trivial);refine⟨hB,A2,c2,?_,by rw[e1];exact hb2⟩;rw[e1,qA,if_pos e2]
    ·have e1:dG c.patch=[]:=if_neg hno;have e2 :¬okb=true:=by rw[Et,KC];exact hno
     refine⟨hB,none,0,?_,by rw[e1];exact⟨.nil,Nat.zero_le _⟩⟩;rw[e1,qA,if_neg e2];rfl)
   clear qA Et;have k5:W0.cell? ⟨w.heap.size,5,none⟩=_:=HR.out 5 _ rfl;have k6:W0.cell? ⟨w.heap.size,6,none⟩=_:=HR.out 6 _ rfl;have k7:W0.cell? ⟨w.heap.size,7,none⟩=_:=HR.out 7 _ rfl;have k8:W0.cell? ⟨w.heap.size,8,none⟩=_:=HR.out 8 _ rfl;have k9:W0.cell? ⟨w.heap.size,9,none⟩=_:=HR.out 9 _ rfl;have k10:W0.cell? ⟨w.heap.size,10,none⟩=_:=HR.out 10 _ rfl;have k11:W0.cell? ⟨w.heap.size,11,none⟩=_:=HR.out 11 _ rfl;have k12:W0.cell? ⟨w.heap.size,12,none⟩=_:=HR.out 12 _ rfl;have k13:W0.cell? ⟨w.heap.size,13,none⟩=_:=HR.out 13 _ rfl;have k14:W0.cell? ⟨w.heap.size,14,none⟩=_:=HR.out 14 _ rfl;have k15:W0.cell? ⟨w.heap.size,15,none⟩=_:=HR.out 15 _ rfl;have k16:W0.cell? ⟨w.heap.size,16,none⟩=_:=HR.out 16 _ rfl;have k17:W0.cell? ⟨w.heap.size,17,none⟩=_:=HR.out 17 _ rfl;have k18:W0.cell? ⟨w.heap.size,18,none⟩=_:=HR.out 18 _ rfl
   go_upto_region 7 with(go_at_call 48;(with_reducible refine CG.out.mono ?_);rintro e10 w10 ⟨yV,A2,c2,rfl,hby⟩;have mV:=hide yV;have OC:=hide hby;clear yV hby)
   have hS:(fun X:World=>X.cell? ⟨w.heap.size,1,none⟩=some (.string c.repo)∧X.cell? ⟨w.heap.size,3,none⟩=some (.string c.name)) w10.drew:=⟨(mV.out.cell (p:=⟨w.heap.size,1,none⟩) lV.out).trans (HR.out 1 _ rfl),(mV.out.cell (p:=⟨w.heap.size,3,none⟩) lV.out).trans (HR.out 3 _ rfl)⟩;have zD:Hid (Calls Tryz.prog 49 #[.slice A2 (dG c.patch).length c2] w10.drew fun e w'=>e = .returned (.string (dh (dG c.patch)))∧Below w10.drew.heap.size w10.drew w'):=hide (U1 (OC.out.below (Below.refl _ w10).drew) (aI (Oo c.patch) (aI HZ.out.put (by decide))));have uQ:Hid (Below w.heap.size w w10.drew):=hide (HB.out.trans (mV.out.mono (Nat.le_of_lt lV.out))).drew;have mf:Hid (w.heap.size<w10.drew.heap.size):=hide (aH lV.out mV.out.size);have LC:Hid (w10.drew.rangeAt w.heap.size 0 (ag c x A n)):=hide (fun j v hv=>(mV.out.cell (p:=⟨w.heap.size,0+j,none⟩) lV.out).trans (HR.out j v hv));clear k0 k5 k6 k7 k8 k9 k10 k11 k12 k13 k14 k15 k16 k17 k18;refine wp_region_held_drew (S:=fun X:World=>X.cell? ⟨w.heap.size,1,none⟩=some (.string c.repo)∧X.cell? ⟨w.heap.size,3,none⟩=some (.string c.name)) (by kernel_rfl) hS (fun hSD=>?_);generalize w10.drew=D at hSD zD uQ mf LC⊢;clear hS;refine aj 0 hSD ?_;refine aj 1 hSD ?_;refine aj 2 hSD ?_ (hy:=by intro w' hSw;go_simp;rw[if_neg (by omega)]);refine aj 3 hSD ?_ (hy:=by intro w' hSw;go_simp;rw[if_neg (by omega)]);refine aj 4 hSD ?_;refine aj 5 hSD ?_;refine aj 6 hSD ?_ (hy:=by intro w' hSw;go_simp;rw[if_neg (by omega)]);refine aj 7 hSD ?_ (hy:=by intro w' hSw;go_simp;rw[if_neg (by omega)]);refine aj 8 hSD ?_;refine wpAnyH_ready (rs:=[9]) (by kernel_rfl) (by simp) ?_;refine AllReadyH.cons rfl (fun K hK=>?_) AllReadyH.nil;go_simp
   go_wp2_with(go_at_call 49;(with_reducible refine zD.out.mono ?_);rintro e11 rJ ⟨rfl,lK⟩)
   have pz:(fun X:World=>X.cell? ⟨w.heap.size,1,none⟩=some (.string c.repo)∧X.cell? ⟨w.heap.size,3,none⟩=some (.string c.name)) rJ:=⟨(lK.cell (p:=⟨w.heap.size,1,none⟩) mf.out).trans hSD.1,(lK.cell (p:=⟨w.heap.size,3,none⟩) mf.out).trans hSD.2⟩;have GR:=hide (uQ.out.trans (lK.mono (Nat.le_of_lt mf.out)));have GU:=hide (aH mf.out lK.size);have GV:Hid (rJ.rangeAt w.heap.size 0 (ag c x A n)):=hide (fun j v hv=>(lK.cell (p:=⟨w.heap.size,0+j,none⟩) mf.out).trans (LC.out j v hv));clear lK;refine hK.out _ _ pz (fun LD=>?_);clear hK K
   try simp only[Act.put,aG,aE,aF,aD,aA,aB]
   refine aj 10 LD ?_ (hy:=by intro w' hSw;go_simp;rw[if_neg (by omega)]);refine aj 11 LD ?_;refine wpAnyH_done (by kernel_rfl) ?_ _
   try simp only[Act.put,aG,aE,aF,aD,aA,aB]
   go_wp2_with fail
   go_meet
   exact⟨congrArg Value.string (Lj HK.out),GR.out,GV.out,GU.out⟩
  by_cases hk:c.kind=3
  ·have t1:((c.kind:Int) == 1)=false:=beq_eq_false_iff_ne.mpr (by omega);have t2:((c.kind:Int) == 2)=false:=beq_eq_false_iff_ne.mpr (by omega);have t3:((c.kind:Int) == 3)=true:=beq_iff_eq.mpr (by omega);have HK:=hide hk;clear hk;have k1:W0.cell? ⟨w.heap.size,1,none⟩=_:=HR.out 1 _ rfl;have k2:W0.cell? ⟨w.heap.size,2,none⟩=_:=HR.out 2 _ rfl;have k3:W0.cell? ⟨w.heap.size,3,none⟩=_:=HR.out 3 _ rfl
   go_wp2_with fail
   go_meet
   exact⟨congrArg Value.string (Ll HK.out),HB.out,HR.out,lV.out⟩
  by_cases hk:c.kind=4
  ·have t1:((c.kind:Int) == 1)=false:=beq_eq_false_iff_ne.mpr (by omega);have t2:((c.kind:Int) == 2)=false:=beq_eq_false_iff_ne.mpr (by omega);have t3:((c.kind:Int) == 3)=false:=beq_eq_false_iff_ne.mpr (by omega);have t4:((c.kind:Int) == 4)=true:=beq_iff_eq.mpr (by omega);have HK:=hide hk;clear hk;have k1:W0.cell? ⟨w.heap.size,1,none⟩=_:=HR.out 1 _ rfl;have k3:W0.cell? ⟨w.heap.size,3,none⟩=_:=HR.out 3 _ rfl
   go_wp2_with fail
   go_meet
   exact⟨congrArg Value.string (Lm HK.out),HB.out,HR.out,lV.out⟩
  by_cases hk:c.kind=5
  ·have t1:((c.kind:Int) == 1)=false:=beq_eq_false_iff_ne.mpr (by omega);have t2:((c.kind:Int) == 2)=false:=beq_eq_false_iff_ne.mpr (by omega);have t3:((c.kind:Int) == 3)=false:=beq_eq_false_iff_ne.mpr (by omega);have t4:((c.kind:Int) == 4)=false:=beq_eq_false_iff_ne.mpr (by omega);have t5:((c.kind:Int) == 5)=true:=beq_iff_eq.mpr (by omega);have HK:=hide hk;clear hk;have k1:W0.cell? ⟨w.heap.size,1,none⟩=_:=HR.out 1 _ rfl;have k2:W0.cell? ⟨w.heap.size,2,none⟩=_:=HR.out 2 _ rfl
   go_wp2_with fail
   go_meet
   exact⟨congrArg Value.string (Lp HK.out),HB.out,HR.out,lV.out⟩
  by_cases hk:c.kind=6
  ·have t1:((c.kind:Int) == 1)=false:=beq_eq_false_iff_ne.mpr (by omega);have t2:((c.kind:Int) == 2)=false:=beq_eq_false_iff_ne.mpr (by omega);have t3:((c.kind:Int) == 3)=false:=beq_eq_false_iff_ne.mpr (by omega);have t4:((c.kind:Int) == 4)=false:=beq_eq_false_iff_ne.mpr (by omega);have t5:((c.kind:Int) == 5)=false:=beq_eq_false_iff_ne.mpr (by omega);have t6:((c.kind:Int) == 6)=true:=beq_iff_eq.mpr (by omega);have HK:=hide hk;clear hk;have k1:W0.cell? ⟨w.heap.size,1,none⟩=_:=HR.out 1 _ rfl;have k4:W0.cell? ⟨w.heap.size,4,none⟩=_:=HR.out 4 _ rfl
   go_wp2_with fail
   go_meet
   exact⟨congrArg Value.string (Lr HK.out),HB.out,HR.out,lV.out⟩
  by_cases hk:c.kind=7
  ·have t1:((c.kind:Int) == 1)=false:=beq_eq_false_iff_ne.mpr (by omega);have t2:((c.kind:Int) == 2)=false:=beq_eq_false_iff_ne.mpr (by omega);have t3:((c.kind:Int) == 3)=false:=beq_eq_false_iff_ne.mpr (by omega);have t4:((c.kind:Int) == 4)=false:=beq_eq_false_iff_ne.mpr (by omega);have t5:((c.kind:Int) == 5)=false:=beq_eq_false_iff_ne.mpr (by omega);have t6:((c.kind:Int) == 6)=false:=beq_eq_false_iff_ne.mpr (by omega);have t7:((c.kind:Int) == 7)=true:=beq_iff_eq.mpr (by omega);have HK:=hide hk;clear hk;have k1:W0.cell? ⟨w.heap.size,1,none⟩=_:=HR.out 1 _ rfl
   go_wp2_with fail
   go_meet
   exact⟨congrArg Value.string (Ls HK.out),HB.out,HR.out,lV.out⟩
  by_cases hk:c.kind=8
  ·have t1:((c.kind:Int) == 1)=false:=beq_eq_false_iff_ne.mpr (by omega);have t2:((c.kind:Int) == 2)=false:=beq_eq_false_iff_ne.mpr (by omega);have t3:((c.kind:Int) == 3)=false:=beq_eq_false_iff_ne.mpr (by omega);have t4:((c.kind:Int) == 4)=false:=beq_eq_false_iff_ne.mpr (by omega);have t5:((c.kind:Int) == 5)=false:=beq_eq_false_iff_ne.mpr (by omega);have t6:((c.kind:Int) == 6)=false:=beq_eq_false_iff_ne.mpr (by omega);have t7:((c.kind:Int) == 7)=false:=beq_eq_false_iff_ne.mpr (by omega);have t8:((c.kind:Int) == 8)=true:=beq_iff_eq.mpr (by omega);have HK:=hide hk;clear hk;have k1:W0.cell? ⟨w.heap.size,1,none⟩=_:=HR.out 1 _ rfl
   go_wp2_with fail
   go_meet
   exact⟨congrArg Value.string (Lt HK.out),HB.out,HR.out,lV.out⟩
  by_cases hk:c.kind=9
  ·have t1:((c.kind:Int) == 1)=false:=beq_eq_false_iff_ne.mpr (by omega);have t2:((c.kind:Int) == 2)=false:=beq_eq_false_iff_ne.mpr (by omega);have t3:((c.kind:Int) == 3)=false:=beq_eq_false_iff_ne.mpr (by omega);have t4:((c.kind:Int) == 4)=false:=beq_eq_false_iff_ne.mpr (by omega);have t5:((c.kind:Int) == 5)=false:=beq_eq_false_iff_ne.mpr (by omega);have t6:((c.kind:Int) == 6)=false:=beq_eq_false_iff_ne.mpr (by omega);have t7:((c.kind:Int) == 7)=false:=beq_eq_false_iff_ne.mpr (by omega);have t8:((c.kind:Int) == 8)=false:=beq_eq_false_iff_ne.mpr (by omega);have t9:((c.kind:Int) == 9)=true:=beq_iff_eq.mpr (by omega);have HK:=hide hk;clear hk;have k1:W0.cell? ⟨w.heap.size,1,none⟩=_:=HR.out 1 _ rfl;have k19:W0.cell? ⟨w.heap.size,19,none⟩=_:=HR.out 19 _ rfl
   go_upto_region 21 with fail
   have mV:=hide (Below.refl W0.heap.size W0);have hS:(fun X:World=>X.cell? ⟨w.heap.size,1,none⟩=some (.string c.repo)∧X.cell? ⟨w.heap.size,19,none⟩=some (.slice A c.bytes.length n)) W0.drew:=⟨(mV.out.cell (p:=⟨w.heap.size,1,none⟩) lV.out).trans (HR.out 1 _ rfl),(mV.out.cell (p:=⟨w.heap.size,19,none⟩) lV.out).trans (HR.out 19 _ rfl)⟩;have zD:Hid (Calls Tryz.prog 49 #[.slice A c.bytes.length n] W0.drew fun e w'=>e = .returned (.string (dh c.bytes))∧Below W0.drew.heap.size W0.drew w'):=hide (U1 (((HC.out.below HB.out).bytes).below (Below.refl _ W0).drew) (aI HZ.out.bytes (by decide)));have uQ:Hid (Below w.heap.size w W0.drew):=hide (HB.out.trans (mV.out.mono (Nat.le_of_lt lV.out))).drew;have mf:Hid (w.heap.size<W0.drew.heap.size):=hide (aH lV.out mV.out.size);have LC:Hid (W0.drew.rangeAt w.heap.size 0 (ag c x A n)):=hide (fun j v hv=>(mV.out.cell (p:=⟨w.heap.size,0+j,none⟩) lV.out).trans (HR.out j v hv));clear k0 k1 k19;refine wp_region_held_drew (S:=fun X:World=>X.cell? ⟨w.heap.size,1,none⟩=some (.string c.repo)∧X.cell? ⟨w.heap.size,19,none⟩=some (.slice A c.bytes.length n)) (by kernel_rfl) hS (fun hSD=>?_);generalize W0.drew=D at hSD zD uQ mf LC⊢;clear hS;refine aj 0 hSD ?_;refine aj 1 hSD ?_;refine aj 2 hSD ?_ (hy:=by intro w' hSw;go_simp;rw[if_neg (by omega)]);refine aj 3 hSD ?_ (hy:=by intro w' hSw;go_simp;rw[if_neg (by omega)]);refine aj 4 hSD ?_;refine aj 5 hSD ?_;refine wpAnyH_ready (rs:=[6]) (by kernel_rfl) (by simp) ?_;refine AllReadyH.cons rfl (fun K hK=>?_) AllReadyH.nil;go_simp
   go_wp2_with(go_at_call 49;(with_reducible refine zD.out.mono ?_);rintro e11 rJ ⟨rfl,lK⟩)
   have pz:(fun X:World=>X.cell? ⟨w.heap.size,1,none⟩=some (.string c.repo)∧X.cell? ⟨w.heap.size,19,none⟩=some (.slice A c.bytes.length n)) rJ:=⟨(lK.cell (p:=⟨w.heap.size,1,none⟩) mf.out).trans hSD.1,(lK.cell (p:=⟨w.heap.size,19,none⟩) mf.out).trans hSD.2⟩;have GR:=hide (uQ.out.trans (lK.mono (Nat.le_of_lt mf.out)));have GU:=hide (aH mf.out lK.size);have GV:Hid (rJ.rangeAt w.heap.size 0 (ag c x A n)):=hide (fun j v hv=>(lK.cell (p:=⟨w.heap.size,0+j,none⟩) mf.out).trans (LC.out j v hv));clear lK;refine hK.out _ _ pz (fun LD=>?_);clear hK K
   try simp only[Act.put,aG,aE,aF,aD,aA,aB]
   refine aj 7 LD ?_ (hy:=by intro w' hSw;go_simp;rw[if_neg (by omega)]);refine aj 8 LD ?_;refine wpAnyH_done (by kernel_rfl) ?_ _
   try simp only[Act.put,aG,aE,aF,aD,aA,aB]
   go_wp2_with fail
   go_meet
   exact⟨congrArg Value.string (Lu HK.out),GR.out,GV.out,GU.out⟩
  have t1:((c.kind:Int) == 1)=false:=beq_eq_false_iff_ne.mpr (by omega);have t2:((c.kind:Int) == 2)=false:=beq_eq_false_iff_ne.mpr (by omega);have t3:((c.kind:Int) == 3)=false:=beq_eq_false_iff_ne.mpr (by omega);have t4:((c.kind:Int) == 4)=false:=beq_eq_false_iff_ne.mpr (by omega);have t5:((c.kind:Int) == 5)=false:=beq_eq_false_iff_ne.mpr (by omega);have t6:((c.kind:Int) == 6)=false:=beq_eq_false_iff_ne.mpr (by omega);have t7:((c.kind:Int) == 7)=false:=beq_eq_false_iff_ne.mpr (by omega);have t8:((c.kind:Int) == 8)=false:=beq_eq_false_iff_ne.mpr (by omega);have t9:((c.kind:Int) == 9)=false:=beq_eq_false_iff_ne.mpr (by omega);have hraw:Hid (({data:=#[]}:ByteArray)=gz c):=hide (by rw[gz,if_neg (by omega)])
  go_wp2_with fail
  go_meet
  exact⟨congrArg Value.string hraw.out,HB.out,HR.out,lV.out⟩
 case rest =>
 obtain⟨rfl,hB1,hr1,hlt1⟩:=hcut;have HB1:=hide hB1;have HR1:=hide hr1;clear hB1 hr1 k0 b1 b2 b3 b4 b5 b6 HB HR lV;have GX:=hide hlt1;clear hlt1;have EF:Hid (∀W:World,Calls Tryz.prog 50 #[.string (gz c)] W (dL (wordsOf 32 (gz c)) W)):=hide fun W=>zh6 (zC HZ.out);have uS:Hid ((lineOf (wordsOf 32 (gz c))=some c→kN c=gz c)∧(¬lineOf (wordsOf 32 (gz c))=some c→kN c={data:=#[63]})):=hide ⟨uO HF.out,uP HF.out⟩;generalize gz c=s at EF uS⊢
 go_upto_region 23 with(first
  | (go_at_call 50;(with_reducible refine(EF.out _).mono ?_);rintro e2 w2 ⟨hB2,c2,x2,A2,n2,b,rfl,hy,hn⟩;have HB2:=hide hB2;have Hy:=hide hy;have Hn:=hide hn;have HZ2:=hide (lG w2);clear hB2 hy hn)
  | (refine wpList_store_mid rfl _ _ _ rfl w2.heap.size 0 (ag c2 x2 A2 n2).toArray rfl rfl HZ2.out.ct zag (jQ _ _ _ _) ?_;obtain⟨X,hX,hX1,hX2,dQ,iH⟩:=HZ2.out.stored (ag c2 x2 A2 n2) rfl;rw[←hX];have fE:=hide hX1;have iG:=hide hX2;have fD:=hide dQ;clear hX hX1 hX2 dQ iH))
 have Ez:Hid (X.rangeAt w.heap.size 0 (ag c x A n)):=hide (fun j v hv=>(fD.out.cell (p:=⟨w.heap.size,0+j,none⟩) (aH GX.out HB2.out.size)).trans ((HB2.out.cell (p:=⟨w.heap.size,0+j,none⟩) GX.out).trans (HR1.out j v hv)));have oD:Hid (Below w.heap.size w X):=hide (HB1.out.trans ((HB2.out.trans (fD.out.mono HB2.out.size)).mono (Nat.le_of_lt GX.out)));rcases b with _|_
 ·go_wp2_with fail
  go_ret;exact⟨by rw[uS.out.2 (fun h=>by rw[show lineOf (wordsOf 32 s)=none from(by first|exact Hn.out trivial|exact Hn.out rfl)]at h;cases h)];rfl,oD.out⟩
 ·have HY:=hide (Hy.out rfl);have HC2:Hid (dF (fun g=>w2.heap.size≤g∨g<w2.heap.size) X c2 x2 A2 n2):=hide ((HY.out.2.below fD.out).mono fun g _ _=>by omega);by_cases hcc:c=c2
  ·have jb:Hid (Calls Tryz.prog 51 #[.agg (ag c x A n).toArray,.agg (ag c2 x2 A2 n2).toArray] X fun e w'=>e = .returned (.bool true)∧Below X.heap.size X w'):=hide (by
    refine(RG (HC.out.below oD.out) HC2.out).mono ?_;rintro e w' ⟨⟨b,rfl,hb⟩,hB⟩;exact⟨by rw[hb.2 hcc],hB⟩)
   have HE:=hide (uS.out.1 (by rw[hcc];exact HY.out.1));clear hcc uS;refine wp_region_lit ?_;refine sk ?_;refine sk ?_;refine sk ?_;refine sk (v:= .agg (ag c x A n).toArray) ?_ (hy:=yf rfl rfl Ez.out Tryz.underlying46 rfl zag);refine sk (v:= .agg (ag c2 x2 A2 n2).toArray) ?_ (hy:=yf rfl rfl fE.out Tryz.underlying46 rfl zag)
   go_wp2_with(go_at_call 51;(with_reducible refine jb.out.mono ?_);rintro e3 w3 ⟨rfl,hB3⟩;have HB3:=hide hB3;clear hB3)
   go_ret;exact⟨by rw[HE.out];rfl,oD.out.trans (HB3.out.mono oD.out.size)⟩
  ·have jb:Hid (Calls Tryz.prog 51 #[.agg (ag c x A n).toArray,.agg (ag c2 x2 A2 n2).toArray] X fun e w'=>e = .returned (.bool false)∧Below X.heap.size X w'):=hide (by
    refine(RG (HC.out.below oD.out) HC2.out).mono ?_;rintro e w' ⟨⟨b,rfl,hb⟩,hB⟩;exact⟨by rw[Bool.eq_false_iff.2 fun h=>hcc (hb.1 h)],hB⟩)
   have HE:=hide (uS.out.2 (fun h=>hcc (Option.some.inj (h.symm.trans HY.out.1))));clear hcc uS;refine wp_region_lit ?_;refine sk ?_;refine sk ?_;refine sk ?_;refine sk (v:= .agg (ag c x A n).toArray) ?_ (hy:=yf rfl rfl Ez.out Tryz.underlying46 rfl zag);refine sk (v:= .agg (ag c2 x2 A2 n2).toArray) ?_ (hy:=yf rfl rfl fE.out Tryz.underlying46 rfl zag)
   go_wp2_with(go_at_call 51;(with_reducible refine jb.out.mono ?_);rintro e3 w3 ⟨rfl,hB3⟩;have HB3:=hide hB3;clear hB3)
   go_ret;exact⟨by rw[HE.out];rfl,oD.out.trans (HB3.out.mono oD.out.size)⟩
end
end Go.Proofs.YtjjaojnglnpgaaaGreatDoor
