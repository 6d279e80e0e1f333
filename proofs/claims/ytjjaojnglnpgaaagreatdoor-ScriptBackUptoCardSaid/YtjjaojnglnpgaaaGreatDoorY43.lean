/- Part 44 of what scriptBack_cardUpto rests on. -/
import Derived.Test.YtjjaojnglnpgaaaGreatDoorY29
import Derived.Test.YtjjaojnglnpgaaaGreatDoorY41
import Derived.Test.YtjjaojnglnpgaaaGreatDoorY13
import Derived.Test.YtjjaojnglnpgaaaGreatDoorY36
import Derived.Test.YtjjaojnglnpgaaaGreatDoorY15
import Derived.Test.YtjjaojnglnpgaaaGreatDoorY05
import Derived.Test.YtjjaojnglnpgaaaGreatDoorY42
import Derived.Test.YtjjaojnglnpgaaaGreatDoorY00
set_option linter.unusedVariables false
set_option linter.unusedSimpArgs false
set_option maxHeartbeats 16000000
set_option maxRecDepth 1000000
namespace Go.Proofs.YtjjaojnglnpgaaaGreatDoor
section
open Go.RowKit Go.ChangeShapes Go.WideShapes
theorem DX{α:Type}{l:List α}(h:l.length=20):∃a0 a1 a2 a3 a4 a5 a6 a7 a8 a9 a10 a11 a12 yE G7 G8 a16 a17 G9 Dx,l=[a0,a1,a2,a3,a4,a5,a6,a7,a8,a9,a10,a11,a12,yE,G7,G8,a16,a17,G9,Dx]:=by
 match l,h with
 | [a0,a1,a2,a3,a4,a5,a6,a7,a8,a9,a10,a11,a12,yE,G7,G8,a16,a17,G9,Dx],_=>exact⟨a0,a1,a2,a3,a4,a5,a6,a7,a8,a9,a10,a11,a12,yE,G7,G8,a16,a17,G9,Dx,rfl⟩
theorem Il{α:Type}{l:List α}(h:l.length=7):∃a0 a1 a2 a3 a4 a5 a6,l=[a0,a1,a2,a3,a4,a5,a6]:=by
 match l,h with
 | [a0,a1,a2,a3,a4,a5,a6],_=>exact⟨a0,a1,a2,a3,a4,a5,a6,rfl⟩
theorem BC:Tryz.prog.cellsOf 46=20:=by kernel_rfl
theorem OL:Tryz.prog.cellsOf 32=1:=by kernel_rfl
theorem OM:Tryz.prog.underlying 32=some (.int .u8):=by kernel_rfl
section
variable {H : Type} {enc : TypeId × Value → H} {w : World} {spare : Nat → Bool} {held : Bool}
theorem wR{m:Nat}{cs:List Value}{x:DataW H×List MemPlace}(h:DataW.trod enc Tryz.prog w 0 spare held m 46 cs=some x):
  ∃(xx:Ph) (A:Option Addr) (n:Nat) (c:bJ),cs=ak c xx A n∧dw (fun _=>True) w c xx A n∧c.repo.size+c.frm.size+c.name.size+c.file.size+c.bytes.length≤Rows.uptoBulk x.1∧(dX c.patch).length≤40*Rows.uptoBulk x.1∧c.patch.edit.frm.size+c.patch.edit.to.size≤Rows.uptoBulk x.1∧gU c.patch≤40*Rows.uptoBulk x.1:=by
 obtain⟨xs,n,rfl,rfl,hl,hlen,hf⟩:=DataW.trod_struct Tryz.underlying46 h;rw[BC]at hl;obtain⟨c0,c1,c2,c3,c4,c5,c6,c7,c8,c9,c10,c11,c12,c13,c14,c15,c16,c17,c18,c19,rfl⟩:=DX hl;obtain⟨y0,y1,y2,y3,y4,y5,y6,rfl⟩:=Il hlen;have f0:DataW.trod enc Tryz.prog w 0 spare held n 32 (List.take (Tryz.prog.cellsOf 32) (List.drop 0 [c0,c1,c2,c3,c4,c5,c6,c7,c8,c9,c10,c11,c12,c13,c14,c15,c16,c17,c18,c19]))=some y0:=hf 0 _ rfl;rw[OL]at f0;have f0:DataW.trod enc Tryz.prog w 0 spare held n 32 [c0]=some y0:=f0;have f1:DataW.trod enc Tryz.prog w 0 spare held n 9 (List.take (Tryz.prog.cellsOf 9) (List.drop 1 [c0,c1,c2,c3,c4,c5,c6,c7,c8,c9,c10,c11,c12,c13,c14,c15,c16,c17,c18,c19]))=some y1:=hf 1 _ rfl;rw[iD]at f1;have f1:DataW.trod enc Tryz.prog w 0 spare held n 9 [c1]=some y1:=f1;have f2:DataW.trod enc Tryz.prog w 0 spare held n 9 (List.take (Tryz.prog.cellsOf 9) (List.drop 2 [c0,c1,c2,c3,c4,c5,c6,c7,c8,c9,c10,c11,c12,c13,c14,c15,c16,c17,c18,c19]))=some y2:=hf 2 _ rfl;rw[iD]at f2;have f2:DataW.trod enc Tryz.prog w 0 spare held n 9 [c2]=some y2:=f2;have f3:DataW.trod enc Tryz.prog w 0 spare held n 9 (List.take (Tryz.prog.cellsOf 9) (List.drop 3 [c0,c1,c2,c3,c4,c5,c6,c7,c8,c9,c10,c11,c12,c13,c14,c15,c16,c17,c18,c19]))=some y3:=hf 3 _ rfl;rw[iD]at f3;have f3:DataW.trod enc Tryz.prog w 0 spare held n 9 [c3]=some y3:=f3;have f4:DataW.trod enc Tryz.prog w 0 spare held n 9 (List.take (Tryz.prog.cellsOf 9) (List.drop 4 [c0,c1,c2,c3,c4,c5,c6,c7,c8,c9,c10,c11,c12,c13,c14,c15,c16,c17,c18,c19]))=some y4:=hf 4 _ rfl;rw[iD]at f4;have f4:DataW.trod enc Tryz.prog w 0 spare held n 9 [c4]=some y4:=f4;have f5:DataW.trod enc Tryz.prog w 0 spare held n 43 (List.take (Tryz.prog.cellsOf 43) (List.drop 5 [c0,c1,c2,c3,c4,c5,c6,c7,c8,c9,c10,c11,c12,c13,c14,c15,c16,c17,c18,c19]))=some y5:=hf 5 _ rfl;rw[ou]at f5;have f5:DataW.trod enc Tryz.prog w 0 spare held n 43 [c5,c6,c7,c8,c9,c10,c11,c12,c13,c14,c15,c16,c17,c18]=some y5:=f5;have f6:DataW.trod enc Tryz.prog w 0 spare held n 44 (List.take (Tryz.prog.cellsOf 44) (List.drop 19 [c0,c1,c2,c3,c4,c5,c6,c7,c8,c9,c10,c11,c12,c13,c14,c15,c16,c17,c18,c19]))=some y6:=hf 6 _ rfl;rw[Ib]at f6;have f6:DataW.trod enc Tryz.prog w 0 spare held n 44 [c19]=some y6:=f6;obtain⟨k,e0,hx0,w0⟩:=DataW.trod_int OM f0;obtain⟨t1,e1,hx1,w1⟩:=DataW.trod_string fG f1;obtain⟨t2,e2,hx2,w2⟩:=DataW.trod_string fG f2;obtain⟨t3,e3,hx3,w3⟩:=DataW.trod_string fG f3;obtain⟨t4,e4,hx4,w4⟩:=DataW.trod_string fG f4;obtain⟨xp,p,e5,g1,g2,g3,g4⟩:=DW f5;obtain⟨A6,l6,k6,e6,i1,i2,i3,i4⟩:=rC yG FQ FO f6;obtain⟨k',rfl,hk8⟩:=wf_u8 w0;injection e0 with e0;injection e1 with e1;injection e2 with e2;injection e3 with e3;injection e4 with e4;injection e6 with e6;have e5:[c5,c6,c7,c8,c9,c10,c11,c12,c13,c14,c15,c16,c17,c18]=_:=e5;simp only[List.cons.injEq,and_true]at e5;obtain⟨rfl,rfl,rfl,rfl,rfl,rfl,rfl,rfl,rfl,rfl,rfl,rfl,rfl,rfl⟩:=e5;subst e0 e1 e2 e3 e4 e6 hx0 hx1 hx2 hx3 hx4;refine⟨xp,A6,k6,⟨k',t1,t2,t3,t4,p,l6⟩,rfl,⟨hk8,jT w1,jT w2,jT w3,jT w4,g1,i1,⟨i2,i3⟩⟩,?_,?_,?_,?_⟩
 all_goals
  simp only[List.map_cons,List.map_nil,Rows.uptoBulk,Rows.uptoBulkAll,BX]at i4 g2 g3 g4⊢;omega
end
end
theorem sV(n:Int):(au n).length=8:=rfl
theorem jI(s:ByteArray):(aP s).length=8+s.size:=by
 have:s.data.toList.length=s.size:=Array.length_toList;rw[aP,aJ,sV,this]
theorem nI :∀l:List ByteArray,(bC l).length≤8+15*dB l
 | []=>by simp[bC,dB,sV]
 | s::r=>by
  have ih:=nI r;simp only[bC,dB,aJ,sV,List.map_cons,List.flatten_cons,List.sum_cons,List.length_cons,jI]at ih⊢;omega
theorem wS(l:List Int):(di l).length=8+8*l.length:=by
 rw[di,aJ,sV];have :∀l:List Int,((l.map au).flatten).length=8*l.length:=by
  intro l
  induction l with
  | nil=>rfl
  | cons x r ih=>rw[List.map_cons,List.flatten_cons,aJ,ih,sV,List.length_cons];omega
 rw[this]
theorem zI :∀f:Fo,(fC f).length≤32*f.size
 | .nil=>by simp[fC,Fo.size]
 | .cons k t n ks r=>by
  have h1:=zI ks;have h2:=zI r;simp only[fC,Fo.size,List.length_cons,aJ,sV,jI];omega
theorem Io(p:Pt):2*(dX p).length≤160+64*(lF p-2):=by
 have a1:=nI p.hunk.old;have a2:=nI p.hunk.new;have a3:=zI p.edit.old;have a4:=zI p.edit.new;unfold dX;split
 ·simp only[List.length_cons,aJ,sV,jI];unfold lF wQ;omega
 ·split
  ·simp only[List.length_cons,aJ,sV,jI,gV,aS,wS];unfold lF wQ;omega
  ·simp only[List.length_cons,aJ,sV,jI];unfold lF wQ;omega
theorem zJ(s t:ByteArray):(s++t).data.toList=s.data.toList++t.data.toList:=by simp[ByteArray.data_append]
theorem Ip{c:bJ}(hk:c.kind=1):(({data:=#[110,101,119,32]}:ByteArray)++c.repo)=ah c:=by
 apply oI;rw[ah,mZ];simp[aj,aN,hk,kwOf,joinC,kJ,zJ]
theorem Iq{c:bJ}(hk:c.kind=2):(((((({data:=#[114,101,99,111,114,100,32]}:ByteArray)++c.repo)++({data:=#[32]}:ByteArray))++c.name)++({data:=#[32]}:ByteArray))++bG (cZ c.patch))=ah c:=by
 apply oI;rw[ah,mZ];simp[aj,aN,hk,kwOf,joinC,dM,zJ]
theorem Ir{c:bJ}(hk:c.kind=3):(((((({data:=#[112,117,108,108,32]}:ByteArray)++c.repo)++({data:=#[32]}:ByteArray))++c.frm)++({data:=#[32]}:ByteArray))++c.name)=ah c:=by
 apply oI;rw[ah,mZ];simp[aj,aN,hk,kwOf,joinC,iy,zJ]
theorem Iu{c:bJ}(hk:c.kind=4):(((({data:=#[117,110,112,117,108,108,32]}:ByteArray)++c.repo)++({data:=#[32]}:ByteArray))++c.name)=ah c:=by
 apply oI;rw[ah,mZ];simp[aj,aN,hk,kwOf,joinC,iT,zJ]
theorem Iw{c:bJ}(hk:c.kind=5):(((({data:=#[109,101,114,103,101,32]}:ByteArray)++c.repo)++({data:=#[32]}:ByteArray))++c.frm)=ah c:=by
 apply oI;rw[ah,mZ];simp[aj,aN,hk,kwOf,joinC,jR,zJ]
theorem Iy{c:bJ}(hk:c.kind=6):(((({data:=#[99,104,101,99,107,111,117,116,32]}:ByteArray)++c.repo)++({data:=#[32]}:ByteArray))++c.file)=ah c:=by
 apply oI;rw[ah,mZ];simp[aj,aN,hk,kwOf,joinC,gB,zJ]
theorem Iz{c:bJ}(hk:c.kind=7):(({data:=#[108,111,103,32]}:ByteArray)++c.repo)=ah c:=by
 apply oI;rw[ah,mZ];simp[aj,aN,hk,kwOf,joinC,nY,zJ]
theorem IA{c:bJ}(hk:c.kind=8):(({data:=#[101,120,112,111,114,116,32]}:ByteArray)++c.repo)=ah c:=by
 apply oI;rw[ah,mZ];simp[aj,aN,hk,kwOf,joinC,iU,zJ]
theorem IB{c:bJ}(hk:c.kind=9):(((({data:=#[105,109,112,111,114,116,32]}:ByteArray)++c.repo)++({data:=#[32]}:ByteArray))++bG c.bytes)=ah c:=by
 apply oI;rw[ah,mZ];simp[aj,aN,hk,kwOf,joinC,iC,zJ]
theorem Ut(b:List UInt8):(bG b).size≤2*b.length+1:=by
 have:=MX b
 rwa [Array.length_toList]at this
theorem DY(p:Pt):2≤lF p:=by unfold lF wQ;omega
theorem Uu{c:bJ}(h:aQ c):(ah c).size+1≤64*gZ c:=by
 have h1:=Io c.patch;have h2:=Rt c.patch;have h3:=DY c.patch;have h4:=Ut (cZ c.patch);have h5:=Ut c.bytes;have hk:c.kind=1∨c.kind=2∨c.kind=3∨c.kind=4∨c.kind=5∨c.kind=6∨c.kind=7∨c.kind=8∨c.kind=9:=by have:=h.kind;omega
 unfold gZ;rcases hk with e|e|e|e|e|e|e|e|e
 ·rw[←Ip e];simp only[ByteArray.size_append,show({data:=#[110,101,119,32]}:ByteArray).size=4 from rfl,show({data:=#[32]}:ByteArray).size=1 from rfl];omega
 ·rw[←Iq e];simp only[ByteArray.size_append,show({data:=#[114,101,99,111,114,100,32]}:ByteArray).size=7 from rfl,show({data:=#[32]}:ByteArray).size=1 from rfl];omega
 ·rw[←Ir e];simp only[ByteArray.size_append,show({data:=#[112,117,108,108,32]}:ByteArray).size=5 from rfl,show({data:=#[32]}:ByteArray).size=1 from rfl];omega
 ·rw[←Iu e];simp only[ByteArray.size_append,show({data:=#[117,110,112,117,108,108,32]}:ByteArray).size=7 from rfl,show({data:=#[32]}:ByteArray).size=1 from rfl];omega
 ·rw[←Iw e];simp only[ByteArray.size_append,show({data:=#[109,101,114,103,101,32]}:ByteArray).size=6 from rfl,show({data:=#[32]}:ByteArray).size=1 from rfl];omega
 ·rw[←Iy e];simp only[ByteArray.size_append,show({data:=#[99,104,101,99,107,111,117,116,32]}:ByteArray).size=9 from rfl,show({data:=#[32]}:ByteArray).size=1 from rfl];omega
 ·rw[←Iz e];simp only[ByteArray.size_append,show({data:=#[108,111,103,32]}:ByteArray).size=4 from rfl,show({data:=#[32]}:ByteArray).size=1 from rfl];omega
 ·rw[←IA e];simp only[ByteArray.size_append,show({data:=#[101,120,112,111,114,116,32]}:ByteArray).size=7 from rfl,show({data:=#[32]}:ByteArray).size=1 from rfl];omega
 ·rw[←IB e];simp only[ByteArray.size_append,show({data:=#[105,109,112,111,114,116,32]}:ByteArray).size=7 from rfl,show({data:=#[32]}:ByteArray).size=1 from rfl];omega
theorem wU{c:bJ}(h:aQ c):4≤(ah c).size:=by
 have hk:c.kind=1∨c.kind=2∨c.kind=3∨c.kind=4∨c.kind=5∨c.kind=6∨c.kind=7∨c.kind=8∨c.kind=9:=by have:=h.kind;omega
 rcases hk with e|e|e|e|e|e|e|e|e
 ·rw[←Ip e];simp only[ByteArray.size_append,show({data:=#[110,101,119,32]}:ByteArray).size=4 from rfl,show({data:=#[32]}:ByteArray).size=1 from rfl];omega
 ·rw[←Iq e];simp only[ByteArray.size_append,show({data:=#[114,101,99,111,114,100,32]}:ByteArray).size=7 from rfl,show({data:=#[32]}:ByteArray).size=1 from rfl];omega
 ·rw[←Ir e];simp only[ByteArray.size_append,show({data:=#[112,117,108,108,32]}:ByteArray).size=5 from rfl,show({data:=#[32]}:ByteArray).size=1 from rfl];omega
 ·rw[←Iu e];simp only[ByteArray.size_append,show({data:=#[117,110,112,117,108,108,32]}:ByteArray).size=7 from rfl,show({data:=#[32]}:ByteArray).size=1 from rfl];omega
 ·rw[←Iw e];simp only[ByteArray.size_append,show({data:=#[109,101,114,103,101,32]}:ByteArray).size=6 from rfl,show({data:=#[32]}:ByteArray).size=1 from rfl];omega
 ·rw[←Iy e];simp only[ByteArray.size_append,show({data:=#[99,104,101,99,107,111,117,116,32]}:ByteArray).size=9 from rfl,show({data:=#[32]}:ByteArray).size=1 from rfl];omega
 ·rw[←Iz e];simp only[ByteArray.size_append,show({data:=#[108,111,103,32]}:ByteArray).size=4 from rfl,show({data:=#[32]}:ByteArray).size=1 from rfl];omega
 ·rw[←IA e];simp only[ByteArray.size_append,show({data:=#[101,120,112,111,114,116,32]}:ByteArray).size=7 from rfl,show({data:=#[32]}:ByteArray).size=1 from rfl];omega
 ·rw[←IB e];simp only[ByteArray.size_append,show({data:=#[105,109,112,111,114,116,32]}:ByteArray).size=7 from rfl,show({data:=#[32]}:ByteArray).size=1 from rfl];omega
theorem Y5 :∀{cs:List bJ},(∀c∈cs,aQ c)→(dN 10 (cs.map ah)).size≤64*(cs.map gZ).sum
 | [],_=>Nat.le_of_eq rfl
 | c::r,h=>by
  have hd :∀(l:List bJ),(∀c∈l,aQ c)→(((l.map ah).map (·.data.toList)).flatMap (fun y=>(10:UInt8)::y)).length≤64*(l.map gZ).sum:=by
   intro l
   induction l with
   | nil=>intro _;simp
   | cons d r ih =>
    intro h;have h1:=ih fun x hx=>h x (by simp[hx]);have h2:=Uu (h d (by simp));have h3:(ah d).data.toList.length=(ah d).size:=Array.length_toList;simp only[List.map_cons,List.flatMap_cons,aJ,List.length_cons,List.sum_cons,h3];omega
  have h1:=hd r fun x hx=>h x (by simp[hx]);have h2:=Uu (h c (by simp));have h3:(ah c).data.toList.length=(ah c).size:=Array.length_toList;have h4:(dN 10 ((c::r).map ah)).size=(dN 10 ((c::r).map ah)).data.toList.length:=Array.length_toList.symm;rw[h4,mZ];simp only[List.map_cons,joinC,aJ,List.sum_cons,h3];omega
section
open Go.RowKit
noncomputable def kG(c:bJ):Nat:=if c.kind=2 then(dX c.patch).length+200 else 0
theorem DZ(p:Pt):17≤(dX p).length:=by
 unfold dX;have h1:=yu p.file;simp only[List.length_cons,aJ,h1];split
 ·simp only[aJ,fD];omega
 ·split
  ·unfold gV;simp only[List.length_cons,aJ,fD,di];omega
  ·rw[yu];omega
theorem rO{c:UInt8}{x:List UInt8}:∀{l:List (List UInt8)},x∈l→x.length≤(joinC c l).length
 | y::r,h=>by
  simp only[joinC,aJ];rcases List.mem_cons.1 h with rfl|h
  ·omega
  ·obtain⟨a,b,rfl⟩:=List.append_of_mem h;simp only[List.flatMap_append,List.flatMap_cons,aJ,List.length_cons];omega
theorem rP{c:bJ}(h:aQ c):1≤(ah c).size∧2*kG c+3≤13*(ah c).size∧c.bytes.length≤(ah c).size:=by
 have hd:(ah c).data.toList.length=(ah c).size:=tN _;have h0:1≤(ah c).size:=by
  have:=oM h;rw[←hd];exact List.length_pos_iff.2 this
 have key :∀b:List UInt8,bG b∈aj c→2*b.length≤(ah c).size:=fun b hb=>by
  have h1:=rO (c:=32) (x:=(bG b).data.toList) (l:=(aj c).map (·.data.toList)) (List.mem_map_of_mem hb);have e:(joinC 32 ((aj c).map (·.data.toList))).length=(ah c).size:=by rw[←hd];rfl
  rw[e,EC]at h1;by_cases hb0:b=[]
  ·subst hb0;simp
  ·rw[hexL,if_neg hb0,Ar]at h1;exact h1
 refine⟨h0,?_,?_⟩
 ·unfold kG;split
  ·rename_i h2;have hp:=h.patch;rw[if_pos h2]at hp;have h3:=key (dX c.patch) (by simp[aj,aN,h2,cZ,hp]);have h4:=DZ c.patch;omega
  ·omega
 ·by_cases h9:c.kind=9
  ·have:=key c.bytes (by simp[aj,aN,h9]);omega
  ·rw[h.bytes h9];simp
def lW(c:bJ):Prop:=c.patch.hunk.old.length≤kG c∧c.patch.hunk.new.length≤kG c∧c.patch.edit.path.length≤kG c∧c.patch.edit.old.cnt≤kG c∧c.patch.edit.new.cnt≤kG c
theorem Uw{p:Pt}(h:Bare p):gU p≤(dX p).length+200:=by
 have e0:(gV Ed.zero).length=57:=rfl;have t0:(bC []).length=8:=rfl;unfold Bare at h;unfold gU dX;split at h
 ·rename_i h3;obtain⟨h1,h2⟩:=h;rw[if_pos h3,h1,h2,e0];have:ae.size=0:=rfl;simp only[List.length_cons,aJ,yR,n8];omega
 ·rename_i h3;split at h
  ·rename_i h4;obtain⟨h1,h2⟩:=h;rw[if_neg h3,if_pos h4,h1,h2];have:ae.size=0:=rfl;simp only[Hk.zero,t0,List.length_cons,aJ,yR];omega
  ·rename_i h4;obtain⟨h1,h2⟩:=h;rw[if_neg h3,if_neg h4,h1,h2,e0];simp only[Hk.zero,t0,List.length_cons,aJ,yR];omega
theorem Y6{c:bJ}(h:aQ c):lW c:=by
 have hp:=h.patch;by_cases h2:c.kind=2
 ·rw[if_pos h2]at hp;have:=Uw hp.bare;exact Un (aI this (by unfold kG;rw[if_pos h2];omega))
 ·rw[if_neg h2]at hp;unfold lW;rw[hp];exact⟨Nat.zero_le _,Nat.zero_le _,Nat.zero_le _,Nat.zero_le _,Nat.zero_le _⟩
theorem OO :∀f:Fo,f.len≤f.cnt
 | .nil=>Nat.zero_le _
 | .cons _ _ _ ks r=>by
  have:=OO r;simp only[Fo.len,Fo.cnt];omega
theorem rQ{c:bJ}(h:aQ c)(hs:(ah c).size≤1000000):iM c:=by
 obtain⟨_,h2,h3⟩:=rP h;obtain⟨a1,a2,a3,a4,a5⟩:=Y6 h;have b1:=OO c.patch.edit.old;have b2:=OO c.patch.edit.new;have hp:=h.patch;have key:c.patch.edit.frm.size+c.patch.edit.to.size≤9223372036854775807∧(dX c.patch).length≤lid:=by
  by_cases hk:c.kind=2
  ·rw[if_pos hk]at hp;have h4:=Uw hp.bare;have h5:kG c=(dX c.patch).length+200:=by unfold kG;rw[if_pos hk]
   have h6:(gV c.patch.edit).length≤gU c.patch:=by unfold gU;omega
   have h7:c.patch.edit.frm.size+c.patch.edit.to.size≤(gV c.patch.edit).length:=by
    have e1 :∀s:ByteArray,s.size≤(aP s).length:=fun s=>by rw[aP,aJ];have:s.data.toList.length=s.size:=Array.length_toList;omega
    have e2:=e1 c.patch.edit.frm;have e3:=e1 c.patch.edit.to;simp only[gV,List.length_cons,aJ];omega
   unfold lid;omega
  ·rw[if_neg hk]at hp;rw[hp];exact⟨by decide,by decide⟩
 exact⟨by omega,by omega,key.1,key.2,by omega⟩
end
end Go.Proofs.YtjjaojnglnpgaaaGreatDoor
