/- Part 49. -/
import Derived.Deep.RegionHeld
import Derived.ChangeMaps5
import Derived.WideKeyArgs
import Derived.RowKit
import Derived.Lib.LaidTab
import Derived.Lib.LaidU8
import Derived.Shelf.Vars
import Derived.OpenShut
import Derived.Test.YtjjaojnglnpgaaaGreatDoorZ40
import Derived.Test.YtjjaojnglnpgaaaGreatDoorZ29
import Derived.Test.YtjjaojnglnpgaaaGreatDoorZ30
import Derived.Test.YtjjaojnglnpgaaaGreatDoorZ28
import Derived.Test.YtjjaojnglnpgaaaGreatDoorZ47
import Derived.Test.YtjjaojnglnpgaaaGreatDoorZ25
import Derived.Test.YtjjaojnglnpgaaaGreatDoorZ16
import Derived.Test.YtjjaojnglnpgaaaGreatDoorZ03
import Derived.Test.YtjjaojnglnpgaaaGreatDoorZ10
import Derived.Test.YtjjaojnglnpgaaaGreatDoorZ00
set_option linter.unusedVariables false
set_option linter.unusedSimpArgs false
set_option maxHeartbeats 16000000
set_option maxRecDepth 1000000
namespace Go.Proofs.YtjjaojnglnpgaaaGreatDoor
section
open Go.RowKit
theorem UD{w:World}{g m k c:Nat}{f t:ByteArray}{mid:List ByteArray}(h:BWs w g m k c f t mid)(hf:f=kwRecord∨f=kwImport):Calls Tryz.prog 121 #[.slice (some ⟨g,0,none⟩) m c] w (LineP (f::(mid++[t])) w):=by
 rcases hu:unhexL t.data.toList with _|b
 ·exact Z5 h hf hu
 ·rcases hall:mid.all isWord with _|_
  ·exact Z7 h hf hu hall
  ·rcases hf with rfl|rfl
   ·rcases hp:patOf b with _|p
    ·exact ZC h hu hall hp
    ·by_cases hml:mid.length=2
     ·rcases mid with _|⟨repo,_|⟨n,_|⟨x,r⟩⟩⟩
      ·cases hml
      ·cases hml
      ·obtain rfl:m=4:=h.em;obtain rfl:k=3:=h.ek;exact Z9 h hu hall hp
      ·simp at hml
     ·exact ZE h hu hall hp hml
   ·obtain⟨y,hy⟩:∃y,(mid++[t])[0]?=some y:=⟨_,List.getElem?_eq_getElem (by simp)⟩;exact nG h hy hu hall
theorem xM{w:World}{s:ByteArray}{mid:List ByteArray}{t:ByteArray}(hs:s.size≤1099511627)(hws:wordsOf 32 s=kwRecord::(mid++[t])):Calls Tryz.prog 50 #[.string s] w (LineP (wordsOf 32 s) w):=by
 have hlen:=iV (c:=32) (s:=s) hs;rw[hws]at hlen;obtain⟨m,hm⟩:∃m,(kwRecord::(mid++[t])).length=m:=⟨_,rfl⟩;have gq:m=mid.length+2:=by rw[←hm];simp
 have hm2:2≤m:=by omega
 rw[hm]at hlen;have hsz :∀z∈kwRecord::(mid++[t]),z.size≤1099511627:=fun z hz=>aI (iL (c:=32) (s:=s) (by rw[hws];exact hz)).1 (by omega);have Hws:=hide hws;have Hm:=hide hm;have oC :¬(m:Int)<2:=by omega
 have HP:Hid (∀W,Calls Tryz.prog 72 #[.string s,.int .u8 32] W fun e w'=>∃v,e = .returned v∧w'.ownsRow W.heap.size 9 1 v (wordsOf 32 s).length ((wordsOf 32 s).map .string)∧Below W.heap.size W w'):=hide fun W=>iU s 32 (by omega) W;have HW:Hid (∀W g c,WsAt W g (kwRecord::(mid++[t]))→g<W.heap.size→m≤c→c≤9223372036854775807→Calls Tryz.prog 121 #[.slice (some ⟨g,0,none⟩) m c] W (LineP (kwRecord::(mid++[t])) W)):=hide fun W g c h h1 h2 h3 =>
  UD ⟨h,h1,rfl,gq,h2,h3,by omega,fun z hz=>aI (hsz z (by simp[hz])) (by decide),hsz t (by simp)⟩ (.inl rfl)
 clear hws hm hsz gq;go_enter Tryz.func50,Tryz.ntmps50
 go_wp2_with(first
  | (go_at_call 72;(with_reducible refine(HP.out _).mono ?_);rintro e1 w1 ⟨v1,rfl,ho1,hB1⟩;rw[Hws.out,Hm.out]at ho1;obtain⟨g,c1,rfl,hg0,hg1,hc1,hc2,hcl⟩:=iY Hm.out (by omega) ho1;have HZ1:=hide ((fK w).next hB1);have cZ:=hide hcl;have k0:w1.cell? ⟨g,0,none⟩=some (.string {data:=#[114,101,99,111,114,100]}):=hcl 0 _ rfl;clear ho1 hB1 hcl)
  | (go_at_call 121;(with_reducible refine(HW.out _ _ _ cZ.out hg1 hc1 hc2).mono ?_);rintro e2 w2 ⟨hB2,c,x,A,n,b,rfl,hy,hn⟩;have HZ2:=hide (HZ1.out.next hB2);have Hy:=hide hy;have Hn:=hide hn;clear hB2 hy hn)
  | (refine wpList_store_mid rfl _ _ _ rfl w.heap.size 0 (cmdVs c x A n).toArray rfl rfl HZ2.out.ct aZ (dL _ _ _ _) ?_;obtain⟨X,hX,hX1,hX2,bz,cO⟩:=HZ2.out.stored (cmdVs c x A n) rfl;rw[←hX];have bU:=hide hX1;have gB:=hide hX2;have bJ:=hide bz;clear hX hX1 hX2 bz cO))
 refine bodyPost_ret (v:= .tuple #[.agg (cmdVs c x A n).toArray,.bool b]) (fP Tryz.results50 rfl rfl bU.out rfl) rfl ⟨bJ.out,c,x,A,n,b,rfl,fun h=>?_,fun h=>by rw[Hws.out];exact Hn.out h⟩;obtain⟨h1,h2⟩:=Hy.out h;have hz1:=HZ1.out.lt;exact⟨by rw[Hws.out];exact h1,(h2.keep fun g hg=>gB.out.block g (by omega)).mono fun g _ hg=>by omega⟩
theorem xN{w:World}{s:ByteArray}{mid:List ByteArray}{t:ByteArray}(hs:s.size≤1099511627)(hws:wordsOf 32 s=kwImport::(mid++[t])):Calls Tryz.prog 50 #[.string s] w (LineP (wordsOf 32 s) w):=by
 have hlen:=iV (c:=32) (s:=s) hs;rw[hws]at hlen;obtain⟨m,hm⟩:∃m,(kwImport::(mid++[t])).length=m:=⟨_,rfl⟩;have gq:m=mid.length+2:=by rw[←hm];simp
 have hm2:2≤m:=by omega
 rw[hm]at hlen;have hsz :∀z∈kwImport::(mid++[t]),z.size≤1099511627:=fun z hz=>aI (iL (c:=32) (s:=s) (by rw[hws];exact hz)).1 (by omega);have Hws:=hide hws;have Hm:=hide hm;have oC :¬(m:Int)<2:=by omega
 have HP:Hid (∀W,Calls Tryz.prog 72 #[.string s,.int .u8 32] W fun e w'=>∃v,e = .returned v∧w'.ownsRow W.heap.size 9 1 v (wordsOf 32 s).length ((wordsOf 32 s).map .string)∧Below W.heap.size W w'):=hide fun W=>iU s 32 (by omega) W;have HW:Hid (∀W g c,WsAt W g (kwImport::(mid++[t]))→g<W.heap.size→m≤c→c≤9223372036854775807→Calls Tryz.prog 121 #[.slice (some ⟨g,0,none⟩) m c] W (LineP (kwImport::(mid++[t])) W)):=hide fun W g c h h1 h2 h3 =>
  UD ⟨h,h1,rfl,gq,h2,h3,by omega,fun z hz=>aI (hsz z (by simp[hz])) (by decide),hsz t (by simp)⟩ (.inr rfl)
 clear hws hm hsz gq;go_enter Tryz.func50,Tryz.ntmps50
 go_wp2_with(first
  | (go_at_call 72;(with_reducible refine(HP.out _).mono ?_);rintro e1 w1 ⟨v1,rfl,ho1,hB1⟩;rw[Hws.out,Hm.out]at ho1;obtain⟨g,c1,rfl,hg0,hg1,hc1,hc2,hcl⟩:=iY Hm.out (by omega) ho1;have HZ1:=hide ((fK w).next hB1);have cZ:=hide hcl;have k0:w1.cell? ⟨g,0,none⟩=some (.string {data:=#[105,109,112,111,114,116]}):=hcl 0 _ rfl;clear ho1 hB1 hcl)
  | (go_at_call 121;(with_reducible refine(HW.out _ _ _ cZ.out hg1 hc1 hc2).mono ?_);rintro e2 w2 ⟨hB2,c,x,A,n,b,rfl,hy,hn⟩;have HZ2:=hide (HZ1.out.next hB2);have Hy:=hide hy;have Hn:=hide hn;clear hB2 hy hn)
  | (refine wpList_store_mid rfl _ _ _ rfl w.heap.size 0 (cmdVs c x A n).toArray rfl rfl HZ2.out.ct aZ (dL _ _ _ _) ?_;obtain⟨X,hX,hX1,hX2,bz,cO⟩:=HZ2.out.stored (cmdVs c x A n) rfl;rw[←hX];have bU:=hide hX1;have gB:=hide hX2;have bJ:=hide bz;clear hX hX1 hX2 bz cO))
 refine bodyPost_ret (v:= .tuple #[.agg (cmdVs c x A n).toArray,.bool b]) (fP Tryz.results50 rfl rfl bU.out rfl) rfl ⟨bJ.out,c,x,A,n,b,rfl,fun h=>?_,fun h=>by rw[Hws.out];exact Hn.out h⟩;obtain⟨h1,h2⟩:=Hy.out h;have hz1:=HZ1.out.lt;exact⟨by rw[Hws.out];exact h1,(h2.keep fun g hg=>gB.out.block g (by omega)).mono fun g _ hg=>by omega⟩
theorem zh6{c:Cmd}(h:ShowOk c)(h2:c.kind≠2)(h9:c.kind≠9):(c.repo::showRest c).all isWord=true:=by
 rw[List.all_eq_true];intro x hx;unfold showRest at hx;simp only[List.mem_cons,List.mem_append,h2,h9,if_false,List.not_mem_nil,or_false,false_or]at hx;have one :∀{p:Prop} [Decidable p] {y:ByteArray},x∈(if p then[y]else[])→p∧x=y:=by
  intro p _ y hx;split at hx
  ·exact⟨by assumption,by simpa using hx⟩
  ·cases hx
 rcases hx with rfl|hx|hx|hx
 ·exact h.repo
 ·obtain⟨h1,rfl⟩:=one hx;have:=h.frm
  rwa [if_pos h1]at this
 ·obtain⟨h1,rfl⟩:=one hx;have:=h.name
  rwa [if_pos (.inr h1)]at this
 ·obtain⟨h1,rfl⟩:=one hx;have:=h.file
  rwa [if_pos h1]at this
theorem nP{f x:ByteArray}{r:List ByteArray}(h2:f≠kwRecord)(h9:f≠kwImport)(hall:(x::r).all isWord=false):lineOf (f::x::r)=none:=by
 rcases hl:lineOf (f::x::r)with _|c
 ·rfl
 ·obtain⟨h1,e⟩:=Tz hl;simp only[showWs,List.cons.injEq]at e;obtain⟨rfl,rfl,rfl⟩:=e;have hk:c.kind≠2∧c.kind≠9:=⟨fun e=>h2 (by rw[e];rfl),fun e=>h9 (by rw[e];rfl)⟩;rw[zh6 h1 hk.1 hk.2]at hall;cases hall
theorem ziY{w:World}{s:ByteArray}(hs:s.size≤1099511627):Calls Tryz.prog 50 #[.string s] w (LineP (wordsOf 32 s) w):=by
 obtain⟨ws,hws⟩:∃ws,wordsOf 32 s=ws:=⟨_,rfl⟩;rcases ws with _|⟨f,_|⟨x,r⟩⟩
 ·exact absurd hws (LH 32 s)
 ·exact YD hs hws
 have hlast :∃mid t,x::r=mid++[t]:=⟨_,_,(List.dropLast_concat_getLast (by simp:x::r≠[])).symm⟩;by_cases h2:f=kwRecord
 ·subst h2;obtain⟨mid,t,e⟩:=hlast;rw[e]at hws;exact xM hs hws
 by_cases h9:f=kwImport
 ·subst h9;obtain⟨mid,t,e⟩:=hlast;rw[e]at hws;exact xN hs hws
 rcases hall:(x::r).all isWord with _|_
 ·exact rD hs hws hall h2 h9 (by rw[hws];exact nP h2 h9 hall)
 by_cases h1:f=kwNew
 ·subst h1;exact AQ hs hws hall
 by_cases h7:f=kwLog
 ·subst h7;exact AU hs hws hall
 by_cases h8:f=kwExport
 ·subst h8;exact AV hs hws hall
 by_cases h3:f=kwPull
 ·subst h3;by_cases hl:r.length=2
  ·rcases r with _|⟨a,_|⟨b,_|⟨c,r⟩⟩⟩
   ·cases hl
   ·cases hl
   ·exact wV hs hws hall
   ·simp at hl
  ·exact xx hs hws hall hl
 by_cases h4:f=kwUnpull
 ·subst h4;by_cases hl:r.length=1
  ·rcases r with _|⟨a,_|⟨b,r⟩⟩
   ·cases hl
   ·exact wM hs hws hall
   ·simp at hl
  ·exact wO hs hws hall hl
 by_cases h5:f=kwMerge
 ·subst h5;by_cases hl:r.length=1
  ·rcases r with _|⟨a,_|⟨b,r⟩⟩
   ·cases hl
   ·exact wP hs hws hall
   ·simp at hl
  ·exact wQ hs hws hall hl
 by_cases h6:f=kwCheckout
 ·subst h6;by_cases hl:r.length=1
  ·rcases r with _|⟨a,_|⟨b,r⟩⟩
   ·cases hl
   ·exact wS hs hws hall
   ·simp at hl
  ·exact wU hs hws hall hl
 refine YE hs hws hall h1 h2 h3 h4 h5 h6 h7 h8 h9 ?_;rw[hws,eP];have hk:kindOf f=none:=by
  rcases hk:kindOf f with _|k
  ·rfl
  ·have:=Lh hk;simp only[kwL,List.mem_cons,List.not_mem_nil,or_false,Prod.mk.injEq]at this;rcases this with⟨_,e⟩|⟨_,e⟩|⟨_,e⟩|⟨_,e⟩|⟨_,e⟩|⟨_,e⟩|⟨_,e⟩|⟨_,e⟩|⟨_,e⟩
   ·exact absurd e h1
   ·exact absurd e h2
   ·exact absurd e h3
   ·exact absurd e h4
   ·exact absurd e h5
   ·exact absurd e h6
   ·exact absurd e h7
   ·exact absurd e h8
   ·exact absurd e h9
 rw[hk];rfl
def RowR(M:Nat)(w:World)(v:Value)(l:List CIt):Prop :=
 w.ownsRow M 46 20 v l.length (l.flatMap CIt.cells)∧∀it∈l,CmdIn (fun g=>M≤g∧g∉ob v) w it.c it.x it.A it.n
theorem RowR.nil(M:Nat)(w:World):RowR M w (.slice none 0 0) []:=⟨World.ownsRow_nil _ _ _ _,fun _ h=>by cases h⟩
theorem RowR.below{M:Nat}{w w':World}{v:Value}{l:List CIt}(h:RowR M w v l)(hb:Below w.heap.size w w'):RowR M w' v l :=
 ⟨iW h.1 fun b hb'=>hb.block b (gG h.1 b hb').2,fun it hi=>(h.2 it hi).below hb⟩
theorem RowR.mono{M M':Nat}{w:World}{v:Value}{l:List CIt}(h:RowR M w v l)(hm:M'≤M):RowR M' w v l :=
 ⟨⟨h.1.1,h.1.2.imp id fun⟨g,cap,cur,e1,hB,rest⟩=>⟨g,cap,cur,e1,aI hm hB,rest⟩⟩,fun it hi=>(h.2 it hi).mono fun b _ hb=>⟨aI hm hb.1,hb.2⟩⟩
theorem CmdsO.inn :∀{w:World} {l:List CIt} {L:List Nat},CmdsO w l L→∀it∈l,CmdIn (fun g=>g∈L) w it.c it.x it.A it.n
 | _,[],_,_,_,h=>by cases h
 | w,it::r,_,⟨L1,L2,h1,h2,e⟩,x,hx=>by
  subst e;rcases List.mem_cons.1 hx with rfl|hx
  ·exact h1.2.mono fun b _ hb=>List.mem_append_left _ hb
  ·exact(CmdsO.inn h2 x hx).mono fun b _ hb=>List.mem_append_right _ hb
theorem RowC.rd{M:Nat}{w:World}{v:Value}{l:List CIt}(h:RowC M w v l):RowR M w v l:=by
 obtain⟨h1,L,h2,h3,h4⟩:=h;refine⟨h1,fun it hi=>(h2.inn it hi).mono fun b _ hb=>⟨h4 b hb,fun hb2=>(List.nodup_append.1 h3).2.2 b hb2 b hb rfl⟩⟩
theorem RowR.next{M:Nat}{w w3 w4:World}{v v':Value}{l:List CIt}{it:CIt}(h:RowR M w v l)(hb:Below w.heap.size w w3)(hM:M≤w.heap.size)(hi:CmdIn (fun g=>w.heap.size≤g) w3 it.c it.x it.A it.n)
  (ho:w4.ownsRow M 46 20 v' (l.length+1) (l.flatMap CIt.cells++it.cells)) (hg:w3.grownBy w4 v.ownBlock) (hw:Went w3 w4 v v' l.length 1):RowR M w4 v' (l++[it]):=by
 obtain⟨h1,h2⟩:=h;have hv :∀b∈ob v,b<w.heap.size:=fun b hb'=>(gG h1 b hb').2;have hob:ob v'=ob v∨ob v'=[w3.heap.size]:=by
  rcases hw with⟨A,c,e1,e2⟩|⟨h,_⟩
  ·rw[e1,e2];exact .inl (Nb _ _ _ _)
  ·exact .inr (by unfold ob;rw[h];rfl)
 have hk :∀b,b<w3.heap.size→b∉ob v→w4.heap[b]?=w3.heap[b]?:=fun b hb1 hb2=>hg.block b hb1 (by intro e;exact hb2 (fA.2 e.symm));have key :∀x:CIt,CmdIn (fun g=>M≤g∧g∉ob v) w3 x.c x.x x.A x.n→CmdIn (fun g=>M≤g∧g∉ob v') w4 x.c x.x x.A x.n:=fun x hx =>
  ((hx.mono (S':=fun g=>(M≤g∧g∉ob v)∧g<w3.heap.size) fun b hb1 hb2=>⟨hb2,hb1⟩).keep fun b hb1=>hk b hb1.2 hb1.1.2).mono fun b _ hb1=>⟨hb1.1.1,fun hm=>by
   rcases hob with e|e
   ·rw[e]at hm;exact hb1.1.2 hm
   ·rw[e,List.mem_singleton]at hm;omega⟩
 refine⟨by rw[aJ,List.flatMap_append,List.flatMap_singleton];exact ho,fun x hx=>?_⟩;rcases List.mem_append.1 hx with hx|hx
 ·exact key x ((h2 x hx).below hb)
 ·rw[List.mem_singleton]at hx;subst hx;exact key _ (hi.mono fun b _ hb1=>⟨aI hM hb1,fun hm=>by have:=hv b hm;omega⟩)
def RefPost(w:World)(s:ByteArray)(e:Ending)(w':World):Prop :=
 Below w.heap.size w w'∧(262144<s.size→e = .returned (.tuple #[.slice none 0 0,.agg #[.int .i64 3,.int .i64 0]]))∧
  (s.size≤262144→(∀i,rowsOf 0 (wordsOf 10 s) = .error i→e = .returned (.tuple #[.slice none 0 0,.agg #[.int .i64 210,.int .i64 i]]))∧
   ∀cs,rowsOf 0 (wordsOf 10 s) = .ok cs→∃l v,l.map (·.c)=cs∧e = .returned (.tuple #[v,.agg #[.int .i64 0,.int .i64 0]])∧RowR w.heap.size w' v l)
theorem zh7{w:World}{s:ByteArray}(hs63:s.size≤9223372036854775807):Calls Tryz.prog 32 #[.string s] w (RefPost w s):=by
 by_cases hbig:262144<s.size
 ·have hbi:(262144:Int)<(s.size:Int):=by omega
  go_enter Tryz.func32,Tryz.ntmps32
  go_wp2_with fail
  refine bodyPost_ret (v:= .tuple #[.slice none 0 0,.agg #[.int .i64 3,.int .i64 0]]) ?_ rfl ⟨ag _ _,fun _=>rfl,fun h=>absurd h (by omega)⟩;simp[results,Tryz.results32,go_sem]
 have hs:s.size≤262144:=by omega
 have hbi :¬(262144:Int)<(s.size:Int):=by omega
 obtain⟨n,hn⟩:∃n,(wordsOf 10 s).length=n:=⟨_,rfl⟩;have hws2:n≤262145:=by
  rw[←hn,Ea];have:=Lib.countB_le ⟨#[10]⟩ (aC 1) s.size s (aC _);omega
 have hn0:0<n:=by rw[←hn];exact List.length_pos_iff.2 (LH 10 s)
 have hall :∀x∈wordsOf 10 s,x.size≤262144:=fun x hx=>aI (iL hx).1 hs;have HP:Hid (∀W,Calls Tryz.prog 72 #[.string s,.int .u8 10] W fun e w'=>∃v,e = .returned v∧w'.ownsRow W.heap.size 9 1 v (wordsOf 10 s).length ((wordsOf 10 s).map .string)∧Below W.heap.size W w'):=hide fun W=>iU s 10 (by omega) W;have Hn:=hide hn;have ah:=hide hall;clear hn hall;have UE:(w.alloc (.cells #[.int .i64 0,.int .i64 0] 26)).heap[w.heap.size]?=some (.cells #[.int .i64 0,.int .i64 0] 26):=heap_alloc_new w _;have hz0:(w.alloc (.cells #[.int .i64 0,.int .i64 0] 26)).heap.size=w.heap.size+1:=by simp
 have HB0:=hide (ag w (.cells #[.int .i64 0,.int .i64 0] 26));have UF:=hide UE;have GH:=hide hz0;clear UE hz0;go_enter Tryz.func32,Tryz.ntmps32
 go_upto_region 6 with(go_at_call 72;(with_reducible refine(HP.out _).mono ?_);rintro e1 W2 ⟨v1,rfl,hw1,hB1⟩;rw[Hn.out]at hw1;obtain⟨g,c1,rfl,hg0,hg1,hc1,hc2,hcl⟩:=iY Hn.out hn0 hw1;have HB1:=hide hB1;have HC:=hide hcl;have UG:=hide hg0;have Hg1:=hide hg1;clear hw1 hB1 hcl hg0 hg1)
 have hz1:=HB1.out.size;have hg0:w.heap.size<g:=by have:=UG.out;have:=GH.out;omega
 have HF:Hid (W2.heap[w.heap.size]?=some (.cells #[.int .i64 0,.int .i64 0] 26)):=hide ((HB1.out.block _ (by have:=GH.out;omega)).trans UF.out);have HB2:Hid (Below w.heap.size w W2):=hide (HB0.out.trans (HB1.out.mono (by have:=GH.out;omega)));have hzW:w.heap.size<W2.heap.size:=by have:=GH.out;omega
 clear HB0 UF GH HB1 UG hz1;generalize hws:wordsOf 10 s=ws at ah HC Hn HP⊢;have Hws:=hide hws;clear hws HP
 go_loopg [5,6] n (fun g v i wr=>∃(q m:Nat) (l:List CIt),q≤n∧g=n-q∧i = .int .i64 q∧m≤q∧Hid (m=l.length)∧Hid (RowR W2.heap.size wr v l)∧Hid (rowsOf 0 ws=before (l.map (·.c)) (rowsOf q (ws.drop q)))∧Hid (Below W2.heap.size W2 wr))
 case atStart=>exact⟨0,0,[],by omega,by omega,rfl,by omega,hide rfl,hide (RowR.nil _ _),hide (by rw[List.map_nil,Tq,List.drop_zero]),hide (Below.refl _ _)⟩
 case round =>
  obtain⟨q,m,l,hq,hg,rfl,hm,Hm,Bj,JU,HB⟩:=hrel;have YC:=HB.out.size;have hfr:wr.heap[w.heap.size]?=some (.cells #[.int .i64 0,.int .i64 0] 26):=(HB.out.block _ hzW).trans HF.out;have CE:wr.cell? ⟨w.heap.size,0,none⟩=some (.int .i64 0):=by rw[Lib.cell_of_heap hfr];rfl
  have CG:wr.cell? ⟨w.heap.size,1,none⟩=some (.int .i64 0):=by rw[Lib.cell_of_heap hfr];rfl
  have Jp:wr.frozen? ⟨w.heap.size,0,none⟩=false:=by unfold World.frozen?;rw[hfr];rfl
  have Jq:wr.frozen? ⟨w.heap.size,1,none⟩=false:=by unfold World.frozen?;rw[hfr];rfl
  have hBw:Hid (Below w.heap.size w wr):=hide (HB2.out.trans (HB.out.mono (by omega)));clear hfr;by_cases hlt:q<n
  ·have hlt2:q<ws.length:=by rw[Hn.out];exact hlt
   have hcw:wr.cell? ⟨g,q,none⟩=some (.string ws[q]):=(HB.out.cell (p:=⟨g,q,none⟩) Hg1.out).trans (HC.out q _ (List.getElem?_eq_getElem hlt2));have zY:ws[q]∈ws:=List.getElem_mem hlt2;have hdr:ws.drop q=ws[q]::ws.drop (q+1):=List.drop_eq_getElem_cons hlt2;rw[hdr]at JU;generalize ws[q]=t at hcw zY JU;have eF:Hid (rowsOf 0 ws=before (l.map (·.c)) (rowsOf q (t::ws.drop (q+1)))):=JU;have htz:=ah.out t zY;by_cases h0:t.size=0
   ·have ht0:t=⟨#[]⟩:=by
     apply ByteArray.ext;exact Array.eq_empty_of_size_eq_zero h0
    have HP2:Hid (rowsOf 0 ws=before (l.map (·.c)) (rowsOf (q+1) (ws.drop (q+1)))):=hide (by rw[eF.out,MW h0]);subst ht0
    go_wp2_with fail
    go_roundg (n-(q+1))
    case measure=>omega
    case rel=>exact⟨q+1,m,l,by omega,rfl,by go_num,by omega,Hm,Bj,HP2,HB⟩
   ·have hne:t.toList.isEmpty=false:=by rw[Bool.eq_false_iff,ne_eq,List.isEmpty_iff,fH];omega
    have Jr:Hid (Calls Tryz.prog 50 #[.string t] wr (LineP (wordsOf 32 t) wr)):=hide (ziY (by omega));have ES:Hid (wr.ownsRow W2.heap.size 46 20 _ m (l.flatMap CIt.cells)):=hide (by rw[Hm.out];exact Bj.out.1);have h0':=hide h0;clear h0 hlt2 zY hdr
    go_upto_region 10 with(first
     | (go_at_call 50;(with_reducible refine Jr.out.mono ?_);rintro e1 w1 ⟨hB1,c,x,A,k,b,rfl,hy,hn1⟩;have kT:w.heap.size<w1.heap.size:=aH (by omega) hB1.size;have HB1:=hide hB1;have Hy:=hide hy;have Hn1:=hide hn1;clear hB1 hy hn1)
     | (refine wpList_store_mid rfl _ _ _ rfl w1.heap.size 0 (cmdVs c x A k).toArray rfl rfl (gU w1 zeroL _) aZ (dL c x A k) ?_;obtain⟨V,hV,hV1,hV2,bG⟩:=iM w1 46 zeroL (cmdVs c x A k) rfl;rw[←hV];have EP:=(hV2.cell (p:=⟨w.heap.size,0,none⟩) kT).trans ((HB1.out.cell (p:=⟨w.heap.size,0,none⟩) (by show w.heap.size<_;omega)).trans CE);have ER:=(hV2.cell (p:=⟨w.heap.size,1,none⟩) kT).trans ((HB1.out.cell (p:=⟨w.heap.size,1,none⟩) (by show w.heap.size<_;omega)).trans CG);have Ns:=(hV2.frozen (p:=⟨w.heap.size,0,none⟩) kT).trans ((HB1.out.frozen (p:=⟨w.heap.size,0,none⟩) (by show w.heap.size<_;omega)).trans Jp);have Nu:=(hV2.frozen (p:=⟨w.heap.size,1,none⟩) kT).trans ((HB1.out.frozen (p:=⟨w.heap.size,1,none⟩) (by show w.heap.size<_;omega)).trans Jq);have dJ:=hide hV1;have dE:=hide hV2;have dX:=hide bG;clear hV hV1 hV2 bG))
    rcases b with _|_
    ·have hl:=Hn1.out rfl;have HX:Hid (rowsOf 0 ws = .error (q+1)):=hide (by rw[eF.out,Jj h0'.out hl];rfl);clear hl
     go_wp2_with fail
     refine bodyPost_ret (v:= .tuple #[.slice none 0 0,.agg #[.int .i64 210,.int .i64 ((q:Int)+1)]]) ?_ rfl ?_
     ·obtain⟨r0,r1⟩:=Jl (u:= .int .i64 210) (v:= .int .i64 ((q:Int)+1)) EP ER;simp[results,Tryz.results32,go_sem,r0,r1]
     have hb4:Below w.heap.size w V:=(hBw.out.trans (HB1.out.mono (by omega))).trans (dE.out.mono (by omega));refine⟨(hb4.setCell (p:=⟨w.heap.size,0,none⟩) (aC _) _).setCell (p:=⟨w.heap.size,1,none⟩) (aC _) _,fun h=>absurd h (by omega),fun _=>⟨fun i hi=>?_,fun cs hcs=>?_⟩⟩
     ·rw[Hws.out,HX.out]at hi;injection hi with hi;subst hi;rfl
     ·rw[Hws.out,HX.out]at hcs;cases hcs
    ·obtain⟨hl,hin⟩:=Hy.out rfl;have HX:Hid (rowsOf 0 ws=before ((l.map (·.c))++[c]) (rowsOf (q+1) (ws.drop (q+1)))):=hide (by rw[eF.out,EI h0'.out hl,Tt]);have yh:=hide hin;clear hl hin EP ER Ns Nu
     go_wp2_with(first
      | (refine wpList_load_mid rfl _ _ rfl w1.heap.size 0 rfl (cmdVs c x A k) _ dJ.out Tryz.underlying46 rfl aZ ?_)
      | (at_builtin;refine fE rfl _ _ 23 rfl W2.heap.size 46 Tryz.underlying23 InfoCmd rfl (by decide) _ m (l.flatMap CIt.cells) rfl (iW ES.out (fun b hb=>((HB1.out.trans (dE.out.mono HB1.out.size)).trans ((ag V _).mono (by have:=dX.out;have:=HB1.out.size;omega))).block b (gG ES.out b hb).2)) (some ⟨V.heap.size,0,none⟩) 1 1 (cmdVs c x A k) rfl (by simp) rfl (fun ad e=>by injection e with e;subst e;intro j u hu;rw[Addr.add_lit,Nat.zero_add,Lib.cell_of_heap (heap_alloc_new V _)];simpa using hu) (TB c x A k) (by unfold maxLen;omega) (by omega) (by have:=dX.out;have:=HB1.out.size;have:=HB.out.size;simp;omega) ?_;intro v1 w4 h4 hg4 hw4;have H4:=hide h4;have ET:=hide hg4;have Nv:=hide hw4;clear h4 hg4 hw4))
     have hz1:=HB1.out.size;have hz3:=dX.out;have zZ:Below w1.heap.size w1 (V.alloc (.cells (cmdVs c x A k).toArray 46)):=dE.out.trans ((ag V _).mono (by omega));have wJ:Below wr.heap.size wr (V.alloc (.cells (cmdVs c x A k).toArray 46)):=HB1.out.trans (zZ.mono hz1);have hok:CmdIn (fun g=>wr.heap.size≤g) (V.alloc (.cells (cmdVs c x A k).toArray 46)) c x A k:=yh.out.below zZ;have hown:w4.ownsRow W2.heap.size 46 20 v1 (l.length+1) (l.flatMap CIt.cells++CIt.cells ⟨c,x,A,k⟩):=by rw[←Hm.out];exact H4.out
     have hW:Went (V.alloc (.cells (cmdVs c x A k).toArray 46)) w4 u5 v1 l.length 1:=by rw[←Hm.out];exact Nv.out
     have Nw:=hide (Bj.out.next (it:=⟨c,x,A,k⟩) wJ HB.out.size hok hown ET.out hW);have Ny:Hid (Below W2.heap.size W2 w4):=hide ((HB.out.trans (wJ.mono HB.out.size)).grown ET.out (by have:=wJ.size;omega) fun j hj=>(gG Bj.out.1 j (fA.2 hj)).1);clear hok wJ hown hW zZ
     go_roundg (n-(q+1))
     case measure=>omega
     case rel=>exact⟨q+1,m+1,l++[⟨c,x,A,k⟩],by omega,rfl,by go_num,by omega,hide (by simp[Hm.out]),Nw,hide (by rw[HX.out,List.map_append];rfl),Ny⟩
  ·have hq2:q=ws.length:=by have:=Hn.out;omega
   have hX:rowsOf 0 ws = .ok (l.map (·.c)):=by
    rw[JU.out,hq2,List.drop_length];simp[rowsOf,before]
   have HX:=hide hX;clear hX hq2;obtain⟨r0,r1⟩:=Jl (u:= .int .i64 0) (v:= .int .i64 0) CE CG
   go_wp2_with fail
   refine bodyPost_ret (v:= .tuple #[u5,.agg #[.int .i64 0,.int .i64 0]]) ?_ rfl ?_
   ·simp[results,Tryz.results32,go_sem,r0,r1]
   refine⟨(hBw.out.setCell (p:=⟨w.heap.size,0,none⟩) (aC _) _).setCell (p:=⟨w.heap.size,1,none⟩) (aC _) _,fun h=>absurd h (by omega),fun _=>⟨fun i hi=>?_,fun cs hcs=>?_⟩⟩
   ·rw[Hws.out,HX.out]at hi;cases hi
   ·rw[Hws.out,HX.out]at hcs;injection hcs with hcs;refine⟨l,u5,hcs,rfl,?_⟩;have hk :∀b,b≠w.heap.size→((wr.setCell ⟨w.heap.size,0,none⟩ (.int .i64 0)).setCell ⟨w.heap.size,1,none⟩ (.int .i64 0)).heap[b]?=wr.heap[b]?:=fun b hb=>by
     rw[Below.heap_setCell _ _ _ _ (by show b≠w.heap.size;exact hb),Below.heap_setCell _ _ _ _ (by show b≠w.heap.size;exact hb)]
    have h1:RowR W2.heap.size ((wr.setCell ⟨w.heap.size,0,none⟩ (.int .i64 0)).setCell ⟨w.heap.size,1,none⟩ (.int .i64 0)) u5 l :=
     ⟨iW Bj.out.1 fun b hb=>hk b (by have:=(gG Bj.out.1 b hb).1;omega),fun it hi=>(Bj.out.2 it hi).keep fun b hb=>hk b (by have:=hb.1;omega)⟩
    exact h1.mono (by omega)
theorem UH{α:Type}{s:Nat}(f:α→List Value)(hs :∀a,(f a).length=s):∀{l:List α} {q:Nat} {a:α},l[q]?=some a→∀t,t<s→(l.flatMap f)[q*s+t]?=(f a)[t]?
 | b::l,0,a,h,t,ht=>by
  injection h with h;subst h;rw[List.flatMap_cons,Nat.zero_mul,Nat.zero_add,List.getElem?_append_left (by rw[hs];exact ht)]
 | b::l,q+1,a,h,t,ht=>by
  rw[List.flatMap_cons,List.getElem?_append_right (by rw[hs,Nat.succ_mul];omega),hs,show(q+1)*s+t-s=q*s+t by rw[Nat.succ_mul];omega];exact UH f hs (by simpa using h) t ht
theorem RowR.at_{M:Nat}{w:World}{A:Option Addr}{n c q:Nat}{l:List CIt}(h:RowR M w (.slice A n c) l)(hn:l.length=n)(hq:q<n):
  ∃g,A=some ⟨g,0,none⟩∧∃it,l[q]?=some it∧w.rangeAt g (q*20) it.cells:=by
 obtain⟨h1,h2⟩:=h;rcases h1.2 with⟨e,h0⟩|⟨g,cap,cur,e,_⟩
 ·omega
 ·injection e with e;subst e;refine⟨g,rfl,_,List.getElem?_eq_getElem (by omega),fun t u hu=>?_⟩;have ht:t<20:=(List.getElem?_eq_some_iff.1 hu).1;have hc:=h1.cells (g:=g) rfl (q*20+t) u (by rw[UH (s:=20) CIt.cells (fun _=>rfl) (List.getElem?_eq_getElem (by omega)) t ht];exact hu)
  rwa [Addr.add_lit,Nat.zero_add]at hc
theorem RowR.room{M:Nat}{w:World}{A:Option Addr}{n c:Nat}{l:List CIt}(h:RowR M w (.slice A n c) l):l.length=n∧n≤c∧c≤9223372036854775807:=by
 obtain⟨A',c',e⟩:=bM h.1;have h1:=vC (uM h.1) e;injection e with e1 e2 e3;subst e2 e3;exact⟨rfl,h1⟩
theorem zd7{M M':Nat}{w:World}{A A':Option Addr}{n n' c c':Nat}{l l':List CIt}(h:RowR M w (.slice A n c) l)(h':RowR M' w (.slice A' n' c') l'):
  Calls Tryz.prog 24 #[.slice A n c,.slice A' n' c'] w fun e w'=>RetB (l.map (·.c)=l'.map (·.c)) e∧Below w.heap.size w w':=by
 obtain⟨hn,hc1,hc2⟩:=h.room;obtain⟨hn',hc1',hc2'⟩:=h'.room;have H:=hide h;have H':=hide h';have Hn:=hide hn;have Pg:=hide hn';clear h h' hn hn';by_cases hne:n=n'
 ·subst hne;go_enter Tryz.func24,Tryz.ntmps24
  go_wp2_with fail
  go_loopg [5] n (fun g i wr=>∃q:Nat,q≤n∧g=n-q∧i = .int .i64 q∧Hid (Below w.heap.size w wr)∧Hid ((l.take q).map (·.c)=(l'.take q).map (·.c)))
  case atStart=>exact⟨0,by omega,by omega,rfl,hide (Below.refl _ _),hide (by simp)⟩
  case round =>
  obtain⟨q,hq,hg,rfl,HB,HE⟩:=hrel;by_cases hlt:q<n
  ·obtain⟨g,rfl,it,hit,hr⟩:=(H.out.below HB.out).at_ Hn.out hlt;obtain⟨g',rfl,it',Bl,hr'⟩:=(H'.out.below HB.out).at_ Pg.out hlt;have UI:=hide hit;have GI:=hide Bl;have hin:=hide (H.out.2 it (List.mem_of_getElem? hit));have hin':=hide (H'.out.2 it' (List.mem_of_getElem? Bl));have eG :∀{b o:Nat} {cs:List Value},wr.rangeAt b o cs→∀W,Below wr.heap.size wr W→W.rangeAt b o cs:=fun h W hW j v hv=>(World.cell?_of_block (hW.block _ (block_lt_of_cell (h j v hv)))).trans (h j v hv);have HC:Hid (∀W,Below wr.heap.size wr W→Calls Tryz.prog 51 #[.agg it.cells.toArray,.agg it'.cells.toArray] W fun e w'=>RetB (it.c=it'.c) e∧Below W.heap.size W w'):=hide fun W hW=>SK ((hin.out.below HB.out).below hW) ((hin'.out.below HB.out).below hW);replace hr:=eG hr;replace hr':=eG hr';clear eG hit Bl
   go_upto_region 6 with fail
   have hd1:Below wr.heap.size wr wr.drew:=aO (Below.refl _ _) 1;refine wp_region_held_drew (S:=Below wr.heap.size wr) (by kernel_rfl) hd1 (fun hHeld=>?_);generalize wr.drew=wD at hHeld⊢;refine ae 0 hHeld ?_;refine ae 1 hHeld ?_;refine ae 2 hHeld ?_;refine tk (v:= .agg it.cells.toArray) 3 hHeld ?_ ?_
   ·intro w' hSw;exact yE (b:=g) (o:=q*20) rfl (by first|rfl|(go_simp;done)) (hr w' hSw) Tryz.underlying46 rfl aZ
   try simp only[aA,aB]
   refine ae 4 hHeld ?_;refine ae 5 hHeld ?_;refine ae 6 hHeld ?_;refine tk (v:= .agg it'.cells.toArray) 7 hHeld ?_ ?_
   ·intro w' hSw;exact yE (b:=g') (o:=q*20) rfl (by first|rfl|(go_simp;done)) (hr' w' hSw) Tryz.underlying46 rfl aZ
   try simp only[aA,aB]
   refine wpAnyH_ready (rs:=[8]) (by kernel_rfl) (by simp) ?_;refine AllReadyH.cons rfl (fun K hK=>?_) AllReadyH.nil;go_simp
   go_wp2_with(go_at_call 51;(with_reducible refine(HC.out _ hHeld).mono ?_);rintro e8 w1 ⟨⟨b1,rfl,hb1⟩,hB1⟩)
   have Hb1:=hide hb1;have hH1:=hHeld.trans (hB1.mono hHeld.size);refine hK.out _ _ hH1 (fun hHeld=>?_);clear hK K hb1 hB1
   try simp only[Act.put,aG,aE,aF,aD,aA,aB]
   refine ae 9 hHeld ?_;refine wpAnyH_done (by kernel_rfl) ?_ _
   try simp only[Act.put,aG,aE,aF,aD,aA,aB]
   have HB2:=hide (HB.out.trans (hH1.mono HB.out.size));rcases b1 with _|_
   ·go_wp2_with fail
    go_ret;refine⟨RetB.mk ⟨fun h=>(by cases h),fun h=>?_⟩,HB2.out⟩;have h1:=congrArg (fun x=>x[q]?) h;simp only[List.getElem?_map,UI.out,GI.out,Option.map_some,Option.some.injEq]at h1;exact Hb1.out.2 h1
   ·go_wp2_with fail
    go_roundg (n-(q+1))
    case measure=>omega
    case rel=>exact⟨q+1,by omega,rfl,by go_num,HB2,hide (by rw[List.take_add_one,List.take_add_one,UI.out,GI.out,List.map_append,List.map_append,HE.out];simp[show it.c=it'.c from Hb1.out.1 (by first|rfl|trivial)])⟩
  ·have BU:q=n:=by omega
   subst BU
   go_wp2_with fail
   go_ret;refine⟨RetB.mk ⟨fun _=>?_,fun _=>rfl⟩,HB.out⟩;have:=HE.out
   rwa [List.take_of_length_le (by rw[Hn.out];exact aC _),List.take_of_length_le (by rw[Pg.out];exact aC _)]at this
 ·have hnn:((n:Int) != (n':Int))=true:=by rw[bne_iff_ne];omega
  go_enter Tryz.func24,Tryz.ntmps24
  go_wp2_with fail
  go_ret;refine⟨RetB.mk ⟨fun h=>(by cases h),fun h=>absurd ?_ hne⟩,Below.refl _ _⟩;have h1:=congrArg List.length h;rw[List.length_map,List.length_map,Hn.out,Pg.out]at h1;exact h1
noncomputable def outOf(s:ByteArray):Int×Int×List Cmd :=
 if 262144<s.size then(3,0,[])else match rowsOf 0 (wordsOf 10 s)with
  | .error i=>(210,(i:Int),[])
  | .ok cs=>(0,0,cs)
theorem UJ{w:World}{s:ByteArray}(hs63:s.size≤9223372036854775807)(hmx:MaxOkS w)(htab:TabOk w):Calls Tryz.prog 10 #[.string s] w fun e w' =>
  Below w.heap.size w w'∧∃l v,e = .returned (.tuple #[v,.agg #[.int .i64 (outOf s).1,.int .i64 (outOf s).2.1]])∧RowC w.heap.size w' v l∧l.map (·.c)=(outOf s).2.2:=by
 refine(Nq hs63 hmx htab fun _ _ _ _=>zgP).mono ?_;rintro e w' ⟨hB,h1,h2⟩;refine⟨hB,?_⟩;by_cases hbig:262144<s.size
 ·have ho:outOf s=(3,0,[]):=by rw[outOf,if_pos hbig]
  rw[ho];exact⟨[],_,h1 hbig,RowC.nil _ _,rfl⟩
 ·obtain⟨h3,h4⟩:=h2 (by omega);rcases hr:rowsOf 0 (wordsOf 10 s)with i|cs
  ·have ho:outOf s=(210,(i:Int),[]):=by rw[outOf,if_neg hbig,hr]
   rw[ho];exact⟨[],_,h3 i hr,RowC.nil _ _,rfl⟩
  ·have ho:outOf s=(0,0,cs):=by rw[outOf,if_neg hbig,hr]
   rw[ho];obtain⟨l,v,e1,e2,e3⟩:=h4 cs hr;exact⟨l,v,e2,e3,e1⟩
theorem xO{w:World}{s:ByteArray}(hs63:s.size≤9223372036854775807):Calls Tryz.prog 32 #[.string s] w fun e w' =>
  Below w.heap.size w w'∧∃l v,e = .returned (.tuple #[v,.agg #[.int .i64 (outOf s).1,.int .i64 (outOf s).2.1]])∧RowR w.heap.size w' v l∧l.map (·.c)=(outOf s).2.2:=by
 refine(zh7 hs63).mono ?_;rintro e w' ⟨hB,h1,h2⟩;refine⟨hB,?_⟩;by_cases hbig:262144<s.size
 ·have ho:outOf s=(3,0,[]):=by rw[outOf,if_pos hbig]
  rw[ho];exact⟨[],_,h1 hbig,RowR.nil _ _,rfl⟩
 ·obtain⟨h3,h4⟩:=h2 (by omega);rcases hr:rowsOf 0 (wordsOf 10 s)with i|cs
  ·have ho:outOf s=(210,(i:Int),[]):=by rw[outOf,if_neg hbig,hr]
   rw[ho];exact⟨[],_,h3 i hr,RowR.nil _ _,rfl⟩
  ·have ho:outOf s=(0,0,cs):=by rw[outOf,if_neg hbig,hr]
   rw[ho];obtain⟨l,v,e1,e2,e3⟩:=h4 cs hr;exact⟨l,v,e2,e3,e1⟩
theorem UK(w:World)(a b:Int)(W:World)(h:Below (w.alloc (.cells #[.int .i64 a,.int .i64 b] 26)).heap.size (w.alloc (.cells #[.int .i64 a,.int .i64 b] 26)) W):
  W.cell? ⟨w.heap.size,0,none⟩=some (.int .i64 a)∧W.cell? ⟨w.heap.size,1,none⟩=some (.int .i64 b):=
 ⟨(h.cell (p:=⟨w.heap.size,0,none⟩) (by simp)).trans (by rw[Lib.cell_of_heap (heap_alloc_new w _)];rfl),(h.cell (p:=⟨w.heap.size,1,none⟩) (by simp)).trans (by rw[Lib.cell_of_heap (heap_alloc_new w _)];rfl)⟩
theorem zke{w:World}{s:ByteArray}(hs63:s.size≤9223372036854775807)(hmx:MaxOkS w)(htab:TabOk w):Calls Tryz.prog 11 #[.string s] w fun e w'=>e = .returned (.bool true)∧Below w.heap.size w w':=by
 obtain⟨ea,hea⟩:∃ea,ea=(outOf s).1:=⟨_,rfl⟩;obtain⟨eb,heb⟩:∃eb,eb=(outOf s).2.1:=⟨_,rfl⟩;have HA:Hid (Calls Tryz.prog 10 #[.string s] w fun e w'=>Below w.heap.size w w'∧∃l v,e = .returned (.tuple #[v,.agg #[.int .i64 ea,.int .i64 eb]])∧RowC w.heap.size w' v l∧l.map (·.c)=(outOf s).2.2):=hide (by rw[hea,heb];exact UJ hs63 hmx htab);have HR:Hid (∀W,Calls Tryz.prog 32 #[.string s] W fun e w'=>Below W.heap.size W w'∧∃l v,e = .returned (.tuple #[v,.agg #[.int .i64 ea,.int .i64 eb]])∧RowR W.heap.size w' v l∧l.map (·.c)=(outOf s).2.2):=hide fun W=>by rw[hea,heb];exact xO hs63
 clear hea heb hmx htab;go_enter Tryz.func11,Tryz.ntmps11
 go_upto_region 3 with(first
  | (go_at_call 10;(with_reducible refine HA.out.mono ?_);rintro e1 w1 ⟨hB1,l,v1,rfl,hr1,hl1⟩;obtain⟨A1,c1,rfl⟩:=bM hr1.1;have HB1:=hide hB1;have HR1:=hide hr1.rd;have JV:=hide hl1;clear hB1 hr1 hl1)
  | (go_at_call 32;(with_reducible refine(HR.out _).mono ?_);rintro e2 w2 ⟨hB2,l2,v2,rfl,hr2,hl2⟩;obtain⟨A2,c2,rfl⟩:=bM hr2.1;have HB2:=hide hB2;have HR2:=hide hr2;have Hl2:=hide hl2;clear hB2 hr2 hl2))
 have mF:=HB1.out;have f1:=UK w1 ea eb (w2.alloc (.cells #[.int .i64 ea,.int .i64 eb] 26)) (HB2.out.trans ((ag w2 _).mono HB2.out.size));have f2:=UK w2 ea eb (w2.alloc (.cells #[.int .i64 ea,.int .i64 eb] 26)) (Below.refl _ _);obtain⟨x0,x1⟩:=f1;obtain⟨y0,y1⟩:=f2;have hW:Below w1.heap.size w1 (w2.alloc (.cells #[.int .i64 ea,.int .i64 eb] 26)):=((ag w1 _).trans (HB2.out.mono (by simp))).trans ((ag w2 _).mono (by have:=HB2.out.size;simp at this;omega));have bU:=hide (HR1.out.below hW);have gB:=hide (HR2.out.below (ag w2 (.cells #[.int .i64 ea,.int .i64 eb] 26)));have HW:=hide (HB1.out.trans (hW.mono HB1.out.size));clear HR1 HR2 HB1 HB2 mF hW;generalize w2.alloc (.cells #[.int .i64 ea,.int .i64 eb] 26)=W3 at x0 x1 y0 y1 bU gB HW⊢
 go_wp2_with(go_at_call 24;(with_reducible refine(zd7 bU.out gB.out).mono ?_);rintro e3 w3 ⟨⟨b3,rfl,hb3⟩,hB3⟩;have HB3:=hide hB3;have Hb3:=hide hb3;clear hB3 hb3)
 go_ret;refine⟨?_,HW.out.trans (HB3.out.mono HW.out.size)⟩;have:=Hb3.out.2 (JV.out.trans Hl2.out.symm);rw[this];rfl
theorem UL :∀{cs:List Cmd},(∀c∈cs,ShowOk c)→(cs.map fun c=>2*cmdM c+3).sum≤13*(cs.map fun c=>(showB c).size).sum∧cs.length≤(cs.map fun c=>(showB c).size).sum∧∀c∈cs,(showB c).size≤(cs.map fun c=>(showB c).size).sum
 | [],_=>⟨by simp,by simp,fun c h=>by cases h⟩
 | c::r,h=>by
  obtain⟨i1,i2,i3⟩:=UL fun d hd=>h d (List.mem_cons_of_mem _ hd);obtain⟨s1,s2,_⟩:=UA (h c List.mem_cons_self);simp only[List.map_cons,List.sum_cons,List.length_cons];refine⟨by omega,by omega,fun d hd=>?_⟩;rcases List.mem_cons.1 hd with rfl|hd
  ·omega
  ·have:=i3 d hd;omega
theorem nR{s:ByteArray}(hs:s.size≤20000):(∀c∈(outOf s).2.2,CmdSmall c∧cmdM c≤1000000∧c.bytes.length≤1000000)∧((outOf s).2.2.map fun c=>2*cmdM c+3).sum≤400000∧(outOf s).2.2.length≤1000000:=by
 have hb :¬262144<s.size:=by omega
 rcases hr:rowsOf 0 (wordsOf 10 s)with i|cs
 ·have ho:outOf s=(210,(i:Int),[]):=by rw[outOf,if_neg hb,hr]
  rw[ho];exact⟨fun c h=>(by cases h),by simp,by simp⟩
 ·have ho:outOf s=(0,0,cs):=by rw[outOf,if_neg hb,hr]
  rw[ho];obtain⟨h1,h2⟩:=Nz hr;have h3:=nI s;rw[←h2,List.map_map]at h3;obtain⟨i1,i2,i3⟩:=UL h1;have h4:(cs.map fun c=>(showB c).size).sum≤s.size:=h3;refine⟨fun c hc=>?_,?_,?_⟩
  ·obtain⟨s1,s2,s3⟩:=UA (h1 c hc);have h5:=i3 c hc;exact⟨zkc (h1 c hc),by omega,by omega⟩
  ·show(cs.map fun c=>2*cmdM c+3).sum≤400000;omega
  ·show cs.length≤1000000;omega
theorem zfc{w:World}{s:ByteArray}(hs63:s.size≤9223372036854775807)(hmx:MaxOkS w)(htab:TabOk w)(nO:PowTab w):Calls Tryz.prog 3 #[.string s] w fun e w'=>e = .returned (.bool true)∧Below w.heap.size w w':=by
 have UM:Hid (∀W,Below w.heap.size w W→Calls Tryz.prog 9 #[] W fun e w'=>e = .returned (.bool true)∧Below W.heap.size W w'):=hide fun W hW=>ziX (hmx.below hW) (htab.below hW) (nO.below hW);by_cases hbig:20000<s.size
 ·have hbi:(20000:Int)<(s.size:Int):=by omega
  have HB0:=hide (Below.refl w.heap.size w);clear hmx htab nO;go_enter Tryz.func3,Tryz.ntmps3
  go_wp2_with(go_at_call 9;(with_reducible refine(UM.out _ HB0.out).mono ?_);rintro e1 w1 ⟨rfl,hB1⟩)
  go_ret;exact⟨rfl,hB1⟩
 have hbi :¬(20000:Int)<(s.size:Int):=by omega
 obtain⟨ea,hea⟩:∃ea,ea=(outOf s).1:=⟨_,rfl⟩;obtain⟨eb,heb⟩:∃eb,eb=(outOf s).2.1:=⟨_,rfl⟩;have HA:Hid (∀W,Below w.heap.size w W→Calls Tryz.prog 10 #[.string s] W fun e w'=>Below W.heap.size W w'∧∃l v,e = .returned (.tuple #[v,.agg #[.int .i64 ea,.int .i64 eb]])∧RowC W.heap.size w' v l∧l.map (·.c)=(outOf s).2.2):=hide fun W hW=>by rw[hea,heb];exact UJ hs63 (hmx.below hW) (htab.below hW)
 have HPs:Hid (∀W,Below w.heap.size w W→Calls Tryz.prog 11 #[.string s] W fun e w'=>e = .returned (.bool true)∧Below W.heap.size W w'):=hide fun W hW=>zke hs63 (hmx.below hW) (htab.below hW);have Hsm:=hide (nR (s:=s) (by omega));have HB0:=hide (Below.refl w.heap.size w);clear hea heb hmx htab nO;go_enter Tryz.func3,Tryz.ntmps3
 go_upto_region 4 with(go_at_call 10;(with_reducible refine(HA.out _ HB0.out).mono ?_);rintro e1 w1 ⟨hB1,l1,v1,rfl,hr1,hl1⟩;obtain⟨A1,c1,rfl⟩:=bM hr1.1;have HB1:=hide hB1;have HR1:=hide hr1;have JV:=hide hl1;clear hB1 hr1 hl1)
 have HB2:Hid (Below w.heap.size w (w1.alloc (.cells #[.int .i64 ea,.int .i64 eb] 26))):=hide (HB1.out.alloc HB1.out.size _)
 go_upto_region 5 with(go_at_call 10;(with_reducible refine(HA.out _ HB2.out).mono ?_);rintro e2 w2 ⟨hB3,l2,v2,rfl,hr2,hl2⟩;obtain⟨A2,c2,rfl⟩:=bM hr2.1;have HB3:=hide hB3;have HR2:=hide hr2;have Hl2:=hide hl2;clear hB3 hr2 hl2)
 have hW1:Below w1.heap.size w1 (w2.alloc (.cells #[.int .i64 ea,.int .i64 eb] 26)):=((ag w1 _).trans (HB3.out.mono (by simp))).trans ((ag w2 _).mono (by have:=HB3.out.size;simp at this;omega));have HW1:=hide hW1;have GK:=hide (HR2.out.below (ag w2 (.cells #[.int .i64 ea,.int .i64 eb] 26)));have HB4:=hide (HB1.out.trans (hW1.mono HB1.out.size));have hz2:(w1.alloc (.cells #[.int .i64 ea,.int .i64 eb] 26)).heap.size≤(w2.alloc (.cells #[.int .i64 ea,.int .i64 eb] 26)).heap.size:=aI HB3.out.size (by simp);have UN:=hide hz2;clear HR2 HB3 hW1 hz2;generalize w2.alloc (.cells #[.int .i64 ea,.int .i64 eb] 26)=W2 at HW1 GK HB4 UN⊢
 go_wp2_with(first
  | (go_at_call 11;(with_reducible refine(HPs.out _ HB4.out).mono ?_);rintro e3 w3 ⟨rfl,nV⟩;have dV:=hide nV;clear nV;have HC:Hid (Calls Tryz.prog 12 #[.slice (some ⟨w3.heap.size,0,none⟩) 2 2] (w3.alloc (.cells #[.slice A1 l1.length c1,.slice A2 l2.length c2] 23)) fun e w'=>e = .returned (.bool true)∧Below w.heap.size w3 w'):=hide (by
    have hl:l1.map (·.c)=l2.map (·.c):=JV.out.trans Hl2.out.symm;obtain⟨s1,s2,s3⟩:=Hsm.out;rw[←JV.out]at s1 s2 s3;rw[List.map_map]at s2;rw[List.length_map]at s3;exact zkd (M1:=w.heap.size) (M2:=(w1.alloc (.cells #[.int .i64 ea,.int .i64 eb] 26)).heap.size) HR1.out (HW1.out.trans (dV.out.mono HW1.out.size)) (GK.out.below dV.out) (by simp) HB1.out.size hl (fun it hi=>s1 it.c (List.mem_map_of_mem hi)) s2 s3 (aI UN.out dV.out.size)))
  | (go_at_call 12;(with_reducible refine HC.out.mono ?_);rintro e4 w4 ⟨rfl,qg⟩;have aV:=hide ((HB4.out.trans (dV.out.mono HB4.out.size)).trans qg);clear qg)
  | (go_at_call 9;(with_reducible refine(UM.out _ aV.out).mono ?_);rintro e5 w5 ⟨rfl,AO⟩;have kW:=hide (aV.out.trans (AO.mono aV.out.size));clear AO))
 go_ret;exact⟨rfl,kW.out⟩
end
section
open Go.RowKit Go.ChangeShapes Go.WideShapes
theorem Bo:Tryz.prog.underlying 4=some .bool:=by kernel_rfl
theorem GL:Tryz.prog.underlying 314=some (.array 256 5):=by kernel_rfl
theorem GM:Tryz.prog.cellsOf 314=256:=by kernel_rfl
theorem y9 : Tryz.prog.globalNamed "strings.asciiSpace" = some 5 := by kernel_rfl
theorem Bq:(Tryz.prog.globals[5]?).map (·.type)=some 314:=by kernel_rfl
theorem uo:(Rows.laid_strings_asciiSpace:DataW Unit)=Lib.tabData .u8 Lib.asciiSpaceTab:=by kernel_rfl
theorem GN:Tryz.prog.underlying 192=some (.int .u64):=by kernel_rfl
theorem GR:Tryz.prog.cellsOf 192=1:=by kernel_rfl
theorem GU:Tryz.prog.underlying 336=some (.array 20 192):=by kernel_rfl
theorem GV:Tryz.prog.cellsOf 336=20:=by kernel_rfl
theorem zf : Tryz.prog.globalNamed "internal/strconv.uint64pow10" = some 4 := by kernel_rfl
theorem Bv:(Tryz.prog.globals[4]?).map (·.type)=some 336:=by kernel_rfl
theorem uq:(Rows.laid_internal_strconv_uint64pow10:DataW Unit)=Lib.tabData .u64 Lib.pow10Tab:=by kernel_rfl
theorem UO {W : World} (h : laidMetH Tryz.prog Rows.scriptParsesRow.laid W) : laidMet Tryz.prog [("math/bits.deBruijn32tab", Rows.laid_math_bits_deBruijn32tab), ("math/bits.deBruijn64tab", Rows.laid_math_bits_deBruijn64tab), ("internal/strconv.uint64pow10", Rows.laid_internal_strconv_uint64pow10), ("unicode/utf8.acceptRanges", Rows.laid_unicode_utf8_acceptRanges), ("unicode.White_Space", Rows.laid_unicode_White_Space), ("strings.asciiSpace", Rows.laid_strings_asciiSpace), ("unicode/utf8.first", Rows.laid_unicode_utf8_first)] W := h
theorem Bz{W:World}(h:laidMetH Tryz.prog Rows.scriptParsesRow.laid W):TabOk W:=by
 obtain⟨g',t',cs,fuel,p,hg',ht',hvar,hd⟩:=Lib.laidMet.reads (UO h) (.tail _ (.tail _ (.tail _ (.tail _ (.tail _ (.head _))))));obtain rfl:=Option.some.inj (y9.symm.trans hg');obtain rfl:=Option.some.inj (Bq.symm.trans ht');rw[uo]at hd;have hc:=Lib.cells_of_tab GL KE KD GM hd;have hT : Lib.TabIs Tryz.prog W "strings.asciiSpace" .u8 Lib.asciiSpaceTab := by
  unfold Lib.TabIs;rw[hvar,←hc]
 exact⟨block_lt_of_cell (hT.cell y9 0 (of_decide_eq_true (by kernel_rfl))),hT⟩
theorem BA{W:World}(h:laidMetH Tryz.prog Rows.scriptParsesRow.laid W):PowTab W:=by
 obtain⟨g',t',cs,fuel,p,hg',ht',hvar,hd⟩:=Lib.laidMet.reads (UO h) (.tail _ (.tail _ (.head _)));obtain rfl:=Option.some.inj (zf.symm.trans hg');obtain rfl:=Option.some.inj (Bv.symm.trans ht');rw[uq]at hd;have hc:=Lib.cells_of_tab GU GN GR GV hd;have hT : Lib.TabIs Tryz.prog W "internal/strconv.uint64pow10" .u64 Lib.pow10Tab := by
  unfold Lib.TabIs;rw[hvar,←hc]
 exact⟨block_lt_of_cell (hT.cell zf 0 (of_decide_eq_true (by kernel_rfl))),hT⟩
theorem BB{W:World}(h:W.ShapedOpen Tryz.prog):MaxOkS W:=by
 obtain⟨m,hm⟩:=cell_of_shapedOpen_int (g:=0) (t:=3) (zero:=#[.int .i64 0]) (k:= .i64) h (of_decide_eq_true (by kernel_rfl)) (by kernel_rfl) rfl (by kernel_rfl) (by kernel_rfl) (by kernel_rfl);exact⟨block_lt_of_cell hm,m,hm⟩
theorem zdN(H:Type)(enc:TypeId×Value→H)(W:World)(base:Nat)(args:Array Value)(ds gs:List (DataW H))(before:List MemPlace)
  (hval0 :∀(j:Nat) t v,Tryz.f3.params[j]?=some t→args[j]?=some v→Value.okWide Tryz.prog W .any base t v)
  (hW0:DataW.Whole enc Tryz.prog Tryz.f3.params.toList Rows.scriptParsesSpec.vars false W args.toList ds gs before)
  (hL:laidMetH Tryz.prog Rows.scriptParsesRow.laid W) (hS:W.ShapedOpen Tryz.prog):
  Calls Tryz.prog 3 args W fun e W'=>∃v,e = .returned v∧Rows.scriptParsesSpec.post enc Tryz.prog Tryz.f3 false true false false W args v W':=by
 have hW:=hW0;have hval:=hval0;obtain⟨p,q,hA0,hV,rfl,_,_⟩:=hW0;have hA:DataW.TrodAll enc Tryz.prog W 0 (fun _=>true) true Tryz.f3.params.toList args.toList ds p:=hA0;rw[Tryz.params3]at hA hval;obtain⟨v0,d0,rfl,rfl,h0⟩:=trodAll_one hA;obtain⟨rfl,rfl⟩:=trodVars_none hV;obtain⟨s,rfl,rfl,rfl,hs⟩:=Go.ChangeMaps.open_string xW (hval 0 _ v0 rfl rfl) h0;refine(zfc (s:=s) (by unfold maxLen at hs;omega) (BB hS) (Bz hL) (BA hL)).mono fun e W' ⟨he,hB⟩=>?_;subst he;refine⟨_,rfl,_,_,_,[],[],[],hW,trodAll_mk1 (shut_bool Bo true),trodAll_mk1 (Go.ChangeMaps.shut_string xW hs),rfl,hB.frame _,fun h=>by cases h⟩
end
end Go.Proofs.YtjjaojnglnpgaaaGreatDoor
