/- Part 49 of what scriptBack_cardUpto rests on. -/
import Derived.ChangeMaps5
import Derived.WideKeyArgs
import Derived.RowKit
import Derived.Lib.LaidTab
import Derived.Lib.LaidU8
import Derived.Shelf.Vars
import Derived.OpenShut
import Derived.Test.YtjjaojnglnpgaaaGreatDoorY43
import Derived.Test.YtjjaojnglnpgaaaGreatDoorY46
import Derived.Test.YtjjaojnglnpgaaaGreatDoorY16
import Derived.Test.YtjjaojnglnpgaaaGreatDoorY41
import Derived.Test.YtjjaojnglnpgaaaGreatDoorY03
import Derived.Test.YtjjaojnglnpgaaaGreatDoorY15
import Derived.Test.YtjjaojnglnpgaaaGreatDoorY47
import Derived.Test.YtjjaojnglnpgaaaGreatDoorY04
import Derived.Test.YtjjaojnglnpgaaaGreatDoorY00
set_option linter.unusedVariables false
set_option linter.unusedSimpArgs false
set_option maxHeartbeats 16000000
set_option maxRecDepth 1000000
namespace Go.Proofs.YtjjaojnglnpgaaaGreatDoor
section
open Go.RowKit Go.ChangeShapes Go.WideShapes
theorem xq:Tryz.prog.underlying 23=some (.slice 46):=by kernel_rfl
theorem nO :∀l:List ByteArray,dB l≤(bC l).length
 | []=>by simp[bC,dB]
 | s::r=>by
  have ih:=nO r;simp only[bC,dB,aJ,sV,List.map_cons,List.flatten_cons,List.sum_cons,List.length_cons,jI]at ih⊢;omega
theorem Ad :∀f:Fo,f.size≤(fC f).length
 | .nil=>by simp[fC,Fo.size]
 | .cons k t n ks r=>by
  have h1:=Ad ks;have h2:=Ad r;simp only[fC,Fo.size,List.length_cons,aJ,sV,jI];omega
theorem Ae(p:Pt):lF p≤gU p+2:=by
 have a1:=nO p.hunk.old;have a2:=nO p.hunk.new;have a3:=Ad p.edit.old;have a4:=Ad p.edit.new;unfold lF gU wQ;simp only[gV,aS,List.length_cons,aJ,sV,jI,wS];omega
def jK(c:bJ)(B:Nat):Prop:=c.repo.size+c.frm.size+c.name.size+c.file.size+c.bytes.length≤B∧(dX c.patch).length≤40*B∧c.patch.edit.frm.size+c.patch.edit.to.size≤B∧gU c.patch≤40*B
theorem jK.mono{c:bJ}{B B':Nat}(h:jK c B)(hb:B≤B'):jK c B':=by
 obtain⟨h1,h2,h3,h4⟩:=h;exact⟨by omega,by omega,by omega,by omega⟩
theorem jK.units{c:bJ}{B:Nat}(h:jK c B)(hb:1≤B):gZ c≤44*B:=by
 obtain⟨h1,_,_,h4⟩:=h;have:=Ae c.patch;unfold gZ;omega
theorem Ve{H:Type}:∀a b:List (DataW H),Rows.uptoBulkAll (a++b)=Rows.uptoBulkAll a+Rows.uptoBulkAll b
 | [],b=>by simp[Rows.uptoBulkAll]
 | d::r,b=>by
  have:=Ve r b;simp only[List.cons_append,Rows.uptoBulkAll,this];omega
section
variable {H : Type} {enc : TypeId × Value → H} {w : World} {spare : Nat → Bool} {held : Bool}
theorem Af{m:Nat}{cs:List Value}{x:DataW H×List MemPlace}(h:DataW.trod enc Tryz.prog w 0 spare held m 23 cs=some x):
  ∃A l c,cs=[.slice A l.length c]∧iP (fun _=>True) w A l∧l.length≤c∧c≤9223372036854775807∧bF l≤44*Rows.uptoBulk x.1∧l.length≤Rows.uptoBulk x.1∧(∀it∈l,jK it.c (Rows.uptoBulk x.1)):=by
 rcases DataW.trod_slice xq h with⟨rfl,rfl⟩|⟨a,len,cap,elems,rest,n,rfl,rfl,rfl,hb,hl,hm,hlen,hel,_,_⟩
 ·exact⟨none,[],0,rfl,⟨by simp,fun q it hq=>by simp at hq⟩,aC _,by omega,by simp[bF],by simp,by simp⟩
 ·simp only[BC]at hel;have key :∀i,i<len→∃cs' y,elems[i]?=some y∧w.cells? 0 (a.add (i*20)) 20=some cs'∧DataW.trod enc Tryz.prog w 0 spare held n 46 cs'=some y:=by
   intro i hi;have h1:=hel i hi;rw[List.getElem?_eq_getElem (by omega)]at h1;obtain⟨cs',h2,h3⟩:=Option.bind_eq_some_iff.1 h1;exact⟨cs',_,List.getElem?_eq_getElem (by omega),h2,h3⟩
  have hcap:=jT hm;have hbe :∀l:List (DataW H),l.length≤Rows.uptoBulkAll l:=by
   intro l
   induction l with
   | nil=>exact Nat.zero_le _
   | cons d r ih=>have:=xQ d;simp only[Rows.uptoBulkAll,List.length_cons];omega
  have hbs:=FI (H:=H) (elems.map (·.1)) (rest.map (·.1));have hbl:=hbe (elems.map (·.1));rw[List.length_map]at hbl;by_cases h0:len=0
  ·subst h0;exact⟨some a,[],cap,rfl,⟨by simp,fun q it hq=>by simp at hq⟩,Nat.zero_le _,hcap,Nat.zero_le _,Nat.zero_le _,by simp⟩
  ·obtain⟨b,o,rfl⟩:∃b o,a=⟨b,o,none⟩:=by
    obtain⟨cs',y,_,h2,h3⟩:=key 0 (by omega);obtain⟨xx,A1,n1,c1,rfl,_⟩:=wR h3;obtain⟨_,_,hc⟩:=World.cells?_some h2;have hc0:=hc 0 (by omega);obtain⟨b,o,sp⟩:=a;cases sp with
    | none=>exact⟨b,o,rfl⟩
    | some q=>exfalso;simp[Addr.add]at hc0;unfold World.cell? at hc0;split at hc0<;>simp at hc0
   have main :∀j,j≤len→∃l:List dh,l.length=j∧(∀(q:Nat) (it:dh),l[q]?=some it→w.rangeAt b (o+q*20) it.cells∧dw (fun _=>True) w it.c it.x it.A it.n)∧bF l≤44*Rows.uptoBulkAll ((elems.take j).map (·.1))∧(∀it∈l,jK it.c (Rows.uptoBulkAll ((elems.take j).map (·.1)))):=by
    intro j
    induction j with
    | zero=>intro _;exact⟨[],rfl,fun q it hq=>by simp at hq,Nat.zero_le _,by simp⟩
    | succ j MG =>
     intro hj;obtain⟨r,hr1,hr2,hr3,hr4⟩:=MG (by omega);obtain⟨cs',y,hy,h2,h3⟩:=key j (by omega);obtain⟨xx,A1,n1,c1,rfl,hc,g1,g2,g3,g4⟩:=wR h3;obtain⟨_,_,hcell⟩:=World.cells?_some h2;simp only[Addr.add_lit]at hcell;have ZA:elems.take (j+1)=elems.take j++[y]:=by
      obtain⟨hlt,rfl⟩:=List.getElem?_eq_some_iff.1 hy;rw[List.take_succ_eq_append_getElem hlt]
     have hbk:jK c1 (Rows.uptoBulk y.1):=⟨g1,g2,g3,g4⟩;have ZB:=xQ y.1;rw[ZA,List.map_append,Ve];simp only[List.map_cons,List.map_nil,Rows.uptoBulkAll,Nat.add_zero];refine⟨r++[⟨c1,xx,A1,n1⟩],by simp[hr1],fun q it hq=>?_,?_,fun it hi=>?_⟩
     ·by_cases ZC:q<r.length
      ·rw[List.getElem?_append_left ZC]at hq;exact hr2 q it hq
      ·rw[List.getElem?_append_right (by omega)]at hq;have hq0:q-r.length=0:=by
        rcases hz:q-r.length with _|z
        ·rfl
        ·rw[hz]at hq;simp at hq
       rw[hq0]at hq;have hit:it=⟨c1,xx,A1,n1⟩:=by simpa using hq.symm
       subst hit;have hqj:q=j:=by omega
       subst hqj;refine⟨fun t v hv=>?_,hc⟩;have ht:t<20:=(List.getElem?_eq_some_iff.1 hv).1;rw[hcell t ht];exact hv
     ·have e1:bF (r++[⟨c1,xx,A1,n1⟩])=bF r+gZ c1:=by unfold bF;rw[List.map_append,List.sum_append];simp
      have h2:=hbk.units ZB;rw[e1];omega
     ·rcases List.mem_append.1 hi with hi|hi
      ·exact(hr4 it hi).mono (by omega)
      ·rw[List.mem_singleton]at hi;subst hi;exact hbk.mono (by omega)
   obtain⟨l,h1,h2,h3,h6⟩:=main len (aC _);rw[List.take_of_length_le (by omega)]at h3 h6;refine⟨some ⟨b,o,none⟩,l,cap,by rw[h1],⟨by omega,fun q it hq=>⟨b,o,rfl,(h2 q it hq).1,(h2 q it hq).2⟩⟩,by omega,hcap,?_,?_,?_⟩
   ·simp only at hbs⊢;omega
   ·simp only at hbs⊢;omega
   ·intro d hd;exact(h6 d hd).mono (by simp only at hbs⊢;omega)
end
end
section
open Go.RowKit
def xu:ByteArray:={data:=#[110,101,119,32,114,10,112,117,108,108,32,114,32,115,32,112]}
def xw:ByteArray:={data:=#[112,117,108,108,32,114,32,115]}
def mM:ByteArray:={data:=#[114]}
def xy:ByteArray:={data:=#[115]}
def yj:ByteArray:={data:=#[112]}
theorem Em:isWord {data:=#[115]}=true:=by
 have h:(ByteArray.toList {data:=#[115]}).isEmpty=false:=by
  rw[Bool.eq_false_iff,ne_eq,List.isEmpty_iff,lH];decide
 unfold isWord;rw[h];decide
theorem En:isWord {data:=#[112]}=true:=by
 have h:(ByteArray.toList {data:=#[112]}).isEmpty=false:=by
  rw[Bool.eq_false_iff,ne_eq,List.isEmpty_iff,lH];decide
 unfold isWord;rw[h];decide
theorem xA:lineOf (wordsOf 32 {data:=#[110,101,119,32,114]})=some ⟨1,mM,ae,ae,ae,Pt.zero,[]⟩:=by
 rw[show wordsOf 32 {data:=#[110,101,119,32,114]}=[kJ,mM]from by decide +kernel,Au,mW (k:=1) (by simp[dS]),Option.bind_some,if_pos (show isWord mM=true from KY)];rfl
theorem xB:lineOf (wordsOf 32 {data:=#[112,117,108,108,32,114,32,115,32,112]})=some ⟨3,mM,xy,yj,ae,Pt.zero,[]⟩:=by
 rw[show wordsOf 32 {data:=#[112,117,108,108,32,114,32,115,32,112]}=[iy,mM,xy,yj]from by decide +kernel,Au,mW (k:=3) (by simp[dS]),Option.bind_some,if_pos (show isWord mM=true from KY)];have h:restOf 3 ⟨3,mM,ae,ae,ae,Pt.zero,[]⟩ [xy,yj]=some (⟨3,mM,xy,yj,ae,Pt.zero,[]⟩,[]):=by
  show(if isWord xy && isWord yj then _ else _)=_;rw[show isWord xy=true from Em,show isWord yj=true from En];rfl
 rw[h]
theorem xC:lineOf (wordsOf 32 {data:=#[112,117,108,108,32,114,32,115]})=none:=by
 rw[show wordsOf 32 {data:=#[112,117,108,108,32,114,32,115]}=[iy,mM,xy]from by decide +kernel,Au,mW (k:=3) (by simp[dS]),Option.bind_some,if_pos (show isWord mM=true from KY)];rfl
theorem xE:rowsOf 0 (wordsOf 10 xu) = .ok [⟨1,mM,ae,ae,ae,Pt.zero,[]⟩,⟨3,mM,xy,yj,ae,Pt.zero,[]⟩]:=by
 rw[show wordsOf 10 xu=[{data:=#[110,101,119,32,114]},{data:=#[112,117,108,108,32,114,32,115,32,112]}]from by decide +kernel,xR (by decide) xA,xR (by decide) xB];rfl
theorem xG:rowsOf 0 (wordsOf 10 xw) = .error 1:=by
 rw[show wordsOf 10 xw=[{data:=#[112,117,108,108,32,114,32,115]}]from by decide +kernel,AQ (by decide) xC]
theorem Ag :∀t∈wordsOf 10 xu,∀r,wordsOf 32 t=dM::r→dO 106 restRecord:=by
 rw[show wordsOf 10 xu=[{data:=#[110,101,119,32,114]},{data:=#[112,117,108,108,32,114,32,115,32,112]}]from by decide +kernel];intro t ht r hr;simp only[List.mem_cons,List.not_mem_nil,or_false]at ht;rcases ht with rfl|rfl
 ·rw[show wordsOf 32 {data:=#[110,101,119,32,114]}=[kJ,mM]from by decide +kernel]at hr;exact absurd (List.cons.inj hr).1 (by decide)
 ·rw[show wordsOf 32 {data:=#[112,117,108,108,32,114,32,115,32,112]}=[iy,mM,xy,yj]from by decide +kernel]at hr;exact absurd (List.cons.inj hr).1 (by decide)
theorem Ai :∀t∈wordsOf 10 xw,∀r,wordsOf 32 t=dM::r→dO 106 restRecord:=by
 rw[show wordsOf 10 xw=[{data:=#[112,117,108,108,32,114,32,115]}]from by decide +kernel];intro t ht r hr;simp only[List.mem_cons,List.not_mem_nil,or_false]at ht;subst ht;rw[show wordsOf 32 {data:=#[112,117,108,108,32,114,32,115]}=[iy,mM,xy]from by decide +kernel]at hr;exact absurd (List.cons.inj hr).1 (by decide)
theorem rX{w:World}(hmx:eP w)(htab:ax w):Calls Tryz.prog 10 #[.string {data:=#[110,101,119,32,114,10,112,117,108,108,32,114,32,115,32,112]}] w fun e w'=>∃g c,e = .returned (.tuple #[.slice (some ⟨g,0,none⟩) 2 c,.agg #[.int .i64 0,.int .i64 0]])∧w'.cell? ⟨g,23,none⟩=some (.string {data:=#[112]})∧Below w.heap.size w w':=by
 refine(Oc (s:=xu) (by decide) hmx htab Ag).mono ?_;rintro e w' ⟨hB,_,h⟩;obtain⟨l,v,hl,he,hR⟩:=(h (by decide)).2 _ xE;obtain⟨i1,i2,hi⟩:∃i1 i2,l=[i1,i2]:=by
  have hl':=hl;clear hR he h;rcases l with _|⟨i1,_|⟨i2,_|⟨i3,r⟩⟩⟩
  ·cases hl'
  ·simp at hl'
  ·exact⟨i1,i2,rfl⟩
  ·simp at hl'
 subst hi;have h2:i2.c.name=yj:=by
  have h3:=congrArg (fun l:List bJ=>l[1]?) hl;have h4:some i2.c=some ⟨3,mM,xy,yj,ae,Pt.zero,[]⟩:=h3;injection h4 with h4;rw[h4]
 have ho:w'.ownsRow w.heap.size 46 20 v 2 (List.flatMap dh.cells [i1,i2]):=hR.1;rcases ho.2 with⟨_,e0⟩|⟨g,cap,cur,e1,_⟩
 ·cases e0
 ·subst e1;refine⟨g,cap,he,?_,hB⟩;have h5:=World.ownsRow.cellAt ho 23 (by decide);rw[h5];show some (Value.string i2.c.name)=_;rw[h2];rfl
theorem rY{w:World}(hmx:eP w)(htab:ax w):Calls Tryz.prog 10 #[.string {data:=#[112,117,108,108,32,114,32,115]}] w fun e w'=>e = .returned (.tuple #[.slice none 0 0,.agg #[.int .i64 210,.int .i64 1]])∧Below w.heap.size w w':=by
 refine(Oc (s:=xw) (by decide) hmx htab Ai).mono ?_;rintro e w' ⟨hB,_,h⟩;exact⟨(h (by decide)).1 _ xG,hB⟩
theorem xH{w:World}{b:Nat}(hr:Rd (fun _=>True) w (some ⟨b,0,none⟩) (([{data:=#[97]},{data:=#[98]}]:List ByteArray).map .string)):
  Calls Tryz.prog 20 #[.agg #[.int .i64 0,.slice (some ⟨b,0,none⟩) 2 2,.string {data:=#[]},.slice none 0 0]] w fun e w'=>e = .returned (.string {data:=#[111,107,32,110,97,109,101,115,32,97,32,98]})∧Below w.heap.size w w':=by
 have h:lL (fun _=>True) w ⟨some ⟨b,0,none⟩,2,none,0⟩ ⟨0,[{data:=#[97]},{data:=#[98]}],{data:=#[]},[]⟩:=
  ⟨⟨by decide,by decide⟩,⟨hr,fun s hs=>(by simp at hs;rcases hs with rfl|rfl<;>decide),by decide⟩,by decide,⟨.nil,by decide⟩,⟨by show 2≤2;decide,by show 2≤9223372036854775807;decide⟩,⟨by show 0≤0;decide,by show 0≤9223372036854775807;decide⟩⟩
 refine(oN h rfl (by decide +kernel)).mono ?_;rintro e w' ⟨rfl,hB⟩;exact⟨congrArg (fun x=>Ending.returned (.string x)) (by decide +kernel),hB⟩
theorem xI{w:World}(hp:eG w):
  Calls Tryz.prog 20 #[.agg #[.int .i64 6,.slice none 0 0,.string {data:=#[]},.slice none 0 0]] w fun e w'=>e = .returned (.string {data:=#[101,114,114,111,114,32,54]})∧Below w.heap.size w w':=by
 have h:lL (fun _=>True) w ⟨none,0,none,0⟩ ⟨6,[],{data:=#[]},[]⟩:=
  ⟨⟨by decide,by decide⟩,⟨.nil,fun s hs=>(by cases hs),by decide⟩,by decide,⟨.nil,by decide⟩,⟨by decide,by decide⟩,⟨by decide,by decide⟩⟩
 have h2:=wo h hp (by decide +kernel);refine h2.mono ?_;rintro e w' ⟨rfl,hB⟩;exact⟨congrArg (fun x=>Ending.returned (.string x)) (by decide +kernel),hB⟩
theorem xJ(w:World):Rd (fun _=>True) (w.alloc (.cells #[.string {data:=#[97]},.string {data:=#[98]}] 9)) (some ⟨w.heap.size,0,none⟩) (([{data:=#[97]},{data:=#[98]}]:List ByteArray).map .string):=
 .inr ⟨_,0,rfl,trivial,fun j u hu=>by rw[Nat.zero_add,Lib.cell_of_heap (heap_alloc_new w _)];simpa using hu⟩
theorem ZE{w:World}(hmx:eP w)(htab:ax w)(Je:eG w):Calls Tryz.prog 9 #[] w fun e w'=>e = .returned (.bool true)∧Below w.heap.size w w':=by
 have J7:=hide hmx;have ai:=hide htab;have Qk:=hide Je;clear hmx htab Je;go_enter Tryz.func9,Tryz.ntmps9
 go_upto_region 3 with(first
  | (go_at_call 10;(with_reducible refine(rX J7.out ai.out).mono ?_);rintro e1 w1 ⟨g,cg,rfl,hg,hB1⟩;have HB1:=hide hB1;have Hg:=hide hg;clear hB1 hg)
  | (go_at_call 10;(with_reducible refine(rY (J7.out.below (HB1.out.trans ((az w1 _).mono HB1.out.size))) (ai.out.below (HB1.out.trans ((az w1 _).mono HB1.out.size)))).mono ?_);rintro e2 w2 ⟨rfl,hB2⟩;have HB2:=hide hB2;clear hB2))
 have hb3:=az w2 (.cells #[.int .i64 210,.int .i64 1] 26);have hb1:=az w1 (.cells #[.int .i64 0,.int .i64 0] 26);have hgl:g<w1.heap.size:=block_lt_of_cell Hg.out;have hz1:w1.heap.size<w2.heap.size:=by have:=HB2.out.size;simp at this;omega
 have hz0:=HB1.out.size;have c0:(w2.alloc (.cells #[.int .i64 210,.int .i64 1] 26)).cell? ⟨w1.heap.size,0,none⟩=some (.int .i64 0):=(hb3.cell (p:=⟨w1.heap.size,0,none⟩) hz1).trans ((HB2.out.cell (p:=⟨w1.heap.size,0,none⟩) (by simp)).trans (by rw[Lib.cell_of_heap (heap_alloc_new w1 _)];rfl));have cn:(w2.alloc (.cells #[.int .i64 210,.int .i64 1] 26)).cell? ⟨g,23,none⟩=some (.string {data:=#[112]}):=(hb3.cell (p:=⟨g,23,none⟩) (by show g<_;omega)).trans ((HB2.out.cell (p:=⟨g,23,none⟩) (by simp;omega)).trans ((hb1.cell (p:=⟨g,23,none⟩) hgl).trans Hg.out));have d0:(w2.alloc (.cells #[.int .i64 210,.int .i64 1] 26)).cell? ⟨w2.heap.size,0,none⟩=some (.int .i64 210):=by rw[Lib.cell_of_heap (heap_alloc_new w2 _)];rfl
 have d1:(w2.alloc (.cells #[.int .i64 210,.int .i64 1] 26)).cell? ⟨w2.heap.size,1,none⟩=some (.int .i64 1):=by rw[Lib.cell_of_heap (heap_alloc_new w2 _)];rfl
 have hW3:Below w.heap.size w (w2.alloc (.cells #[.int .i64 210,.int .i64 1] 26)):=((HB1.out.trans (hb1.mono hz0)).trans (HB2.out.mono (by simp;omega))).trans (hb3.mono (by omega));have HW3:=hide hW3;clear hb3 hb1 hW3 hgl hz1 hz0 HB1 HB2 Hg;generalize w2.alloc (.cells #[.int .i64 210,.int .i64 1] 26)=W3 at c0 cn d0 d1 HW3⊢
 go_wp2_with(first
  | (go_at_call 15;(with_reducible refine(Zt _).mono ?_);rintro e4 w4 ⟨rfl,hB4⟩;have HB4:=hide (HW3.out.trans (hB4.mono HW3.out.size));clear hB4)
  | (go_at_call 20;(with_reducible refine(xH (xJ _)).mono ?_);rintro e5 w5 ⟨rfl,fA⟩;have dV:=hide ((HB4.out.alloc HB4.out.size _).trans (fA.mono (aI HB4.out.size (by simp))));clear fA)
  | (go_at_call 20;(with_reducible refine(xI (Qk.out.below dV.out)).mono ?_);rintro e6 w6 ⟨rfl,uz⟩;have ng:=hide (dV.out.trans (uz.mono dV.out.size));clear uz))
 go_ret;exact⟨rfl,ng.out⟩
end
section
open Go.RowKit Go.ChangeShapes Go.WideShapes
theorem Eo:Tryz.prog.underlying 4=some .bool:=by kernel_rfl
theorem xK:laidOutB Tryz.prog=true:=by kernel_rfl
theorem Ep:Tryz.prog.readableRec 23=true:=by kernel_rfl
theorem Es:(23:TypeId)<Tryz.prog.types.size:=of_decide_eq_true (by kernel_rfl)
theorem Jf:Tryz.prog.underlying 314=some (.array 256 5):=by kernel_rfl
theorem Jg:Tryz.prog.cellsOf 314=256:=by kernel_rfl
theorem BM : Tryz.prog.globalNamed "strings.asciiSpace" = some 5 := by kernel_rfl
theorem Et:(Tryz.prog.globals[5]?).map (·.type)=some 314:=by kernel_rfl
theorem xM:(Rows.laid_strings_asciiSpace:DataW Unit)=Lib.tabData .u8 Lib.asciiSpaceTab:=by kernel_rfl
theorem Jh:Tryz.prog.underlying 192=some (.int .u64):=by kernel_rfl
theorem Ji:Tryz.prog.cellsOf 192=1:=by kernel_rfl
theorem Jj:Tryz.prog.underlying 336=some (.array 20 192):=by kernel_rfl
theorem Jk:Tryz.prog.cellsOf 336=20:=by kernel_rfl
theorem BN : Tryz.prog.globalNamed "internal/strconv.uint64pow10" = some 4 := by kernel_rfl
theorem Eu:(Tryz.prog.globals[4]?).map (·.type)=some 336:=by kernel_rfl
theorem xN:(Rows.laid_internal_strconv_uint64pow10:DataW Unit)=Lib.tabData .u64 Lib.pow10Tab:=by kernel_rfl
theorem Vf {W : World} (h : laidMetH Tryz.prog Rows.scriptBackUptoRow.laid W) : laidMet Tryz.prog [("math/bits.deBruijn32tab", Rows.laid_math_bits_deBruijn32tab), ("math/bits.deBruijn64tab", Rows.laid_math_bits_deBruijn64tab), ("internal/strconv.uint64pow10", Rows.laid_internal_strconv_uint64pow10), ("unicode/utf8.acceptRanges", Rows.laid_unicode_utf8_acceptRanges), ("unicode.White_Space", Rows.laid_unicode_White_Space), ("strings.asciiSpace", Rows.laid_strings_asciiSpace), ("unicode/utf8.first", Rows.laid_unicode_utf8_first)] W := h
theorem xO{W:World}(h:laidMetH Tryz.prog Rows.scriptBackUptoRow.laid W):ax W:=by
 obtain⟨g',t',cs,fuel,p,hg',ht',hvar,hd⟩:=Lib.laidMet.reads (Vf h) (.tail _ (.tail _ (.tail _ (.tail _ (.tail _ (.head _))))));obtain rfl:=Option.some.inj (BM.symm.trans hg');obtain rfl:=Option.some.inj (Et.symm.trans ht');rw[xM]at hd;have hc:=Lib.cells_of_tab Jf FQ FO Jg hd;have hT : Lib.TabIs Tryz.prog W "strings.asciiSpace" .u8 Lib.asciiSpaceTab := by
  unfold Lib.TabIs;rw[hvar,←hc]
 exact⟨block_lt_of_cell (hT.cell BM 0 (of_decide_eq_true (by kernel_rfl))),hT⟩
theorem Ew{W:World}(h:laidMetH Tryz.prog Rows.scriptBackUptoRow.laid W):eG W:=by
 obtain⟨g',t',cs,fuel,p,hg',ht',hvar,hd⟩:=Lib.laidMet.reads (Vf h) (.tail _ (.tail _ (.head _)));obtain rfl:=Option.some.inj (BN.symm.trans hg');obtain rfl:=Option.some.inj (Eu.symm.trans ht');rw[xN]at hd;have hc:=Lib.cells_of_tab Jj Jh Ji Jk hd;have hT : Lib.TabIs Tryz.prog W "internal/strconv.uint64pow10" .u64 Lib.pow10Tab := by
  unfold Lib.TabIs;rw[hvar,←hc]
 exact⟨block_lt_of_cell (hT.cell BN 0 (of_decide_eq_true (by kernel_rfl))),hT⟩
theorem xP{W:World}(h:W.ShapedOpen Tryz.prog):eP W:=by
 obtain⟨m,hm⟩:=cell_of_shapedOpen_int (g:=0) (t:=3) (zero:=#[.int .i64 0]) (k:= .i64) h (of_decide_eq_true (by kernel_rfl)) (by kernel_rfl) rfl (by kernel_rfl) (by kernel_rfl) (by kernel_rfl);exact⟨block_lt_of_cell hm,m,hm⟩
theorem Ql :∀f:Fo,f.len≤f.cnt
 | .nil=>Nat.zero_le _
 | .cons _ _ _ ks r=>by
  have:=Ql r;simp only[Fo.len,Fo.cnt];omega
theorem ZF(H:Type)(enc:TypeId×Value→H)(W:World)(base:Nat)(args:Array Value)(ds gs:List (DataW H))(before:List MemPlace)
  (hval0 :∀(j:Nat) t v,Tryz.f6.params[j]?=some t→args[j]?=some v→Value.okWide Tryz.prog W .any base t v)
  (hW0:DataW.Whole enc Tryz.prog Tryz.f6.params.toList Rows.scriptBackSpec.vars false W args.toList ds gs before)
  (hk:Rows.uptoSmall H (ds++gs)=true) (hL:laidMetH Tryz.prog Rows.scriptBackUptoRow.laid W) (hS:W.ShapedOpen Tryz.prog):
  Calls Tryz.prog 6 args W fun e W'=>∃v,e = .returned v∧Rows.scriptBackSpec.post enc Tryz.prog Tryz.f6 false true false false W args v W':=by
 have hW:=hW0;have hval:=hval0;obtain⟨p,q,hA0,hV,rfl,_,_⟩:=hW0;have hA:DataW.TrodAll enc Tryz.prog W 0 (fun _=>true) true Tryz.f6.params.toList args.toList ds p:=hA0;rw[Tryz.params6]at hA hval;obtain⟨v0,v1,v2,d0,d1,d2,p0,p1,p2,rfl,rfl,rfl,h0,h1,h2⟩:=trodAll_three hA;obtain⟨rfl,rfl⟩:=trodVars_none hV;obtain⟨A0,len,c0,rfl⟩:=okWide_slice xq (hval 0 _ v0 rfl rfl);obtain⟨s,rfl,rfl,rfl,hs⟩:=Go.ChangeMaps.open_string fG (hval 1 _ v1 rfl rfl) h1;obtain⟨t,rfl,rfl,rfl,ht⟩:=Go.ChangeMaps.open_string fG (hval 2 _ v2 rfl rfl) h2;obtain⟨m0,f0⟩:=h0;obtain⟨A2,l,c2,e0,hl,hc1,hc2,hw,hn,hsm⟩:=Af f0;have e0':[Value.slice A0 len c0]=_:=e0;simp only[List.cons.injEq,Value.slice.injEq,and_true]at e0';obtain⟨rfl,rfl,rfl⟩:=e0';have Jl:Rows.uptoBulkAll ([d0,_,_]++([]:List (DataW H)))≤1048576:=of_decide_eq_true hk;simp only[List.append_nil,Rows.uptoBulkAll,QN]at Jl;dsimp only at hw hn hsm;have hzz :∀it∈l,iM it.c∧dn it.c.patch:=fun it hi=>by
  obtain⟨g1,g2,g3,g4⟩:=hsm it hi;have hs:=Un (p:=it.c.patch) (M:=41943040) (by omega);have hlo:=Ql it.c.patch.edit.old;have hln:=Ql it.c.patch.edit.new;obtain⟨q,hq⟩:=List.mem_iff_getElem?.1 hi;obtain⟨b,o,_,_,hc⟩:=hl.at_ q it hq;exact⟨⟨by omega,by omega,by omega,by unfold lid;omega,by omega⟩,hc.patch.fit⟩
 refine(Zi hl ⟨hc1,hc2⟩ hzz (by omega) (by omega) (by omega) (by omega) (xO hL) (xP hS) (fun W1 hW1=>ZE ((xP hS).below hW1) ((xO hL).below hW1) ((Ew hL).below hW1))).mono fun e W' ⟨he,hB⟩=>?_;subst he;have hlt:=hW.lt;have hs0 :∀z∈p0,W.sameAt W' z:=fun z hz=>hB.same (hlt z (by simp[hz]));have hold :∀z∈p0++([]++[])++[],(fun b=>decide (b<W.heap.size)) z.block=true:=fun z hz=>by simpa using hlt z (by simpa using hz)
 refine⟨_,rfl,_,_,_,[],p0++([]++[]),[],hW,trodAll_mk1 (shut_bool Eo true),trodAll_mk3 (Go.WideElems.Trod_stays xK Ep Es ⟨m0,f0⟩ hs0 (fun z hz=>hold z (by simp[hz]))) (Go.ChangeMaps.shut_string fG hs) (Go.ChangeMaps.shut_string fG ht),rfl,hB.frame _,fun h=>by cases h⟩
end
end Go.Proofs.YtjjaojnglnpgaaaGreatDoor
