/- Part 42 of what scriptShows_cardUpto rests on. -/
import Derived.Test.YtjjaojnglnpgaaaGreatDoorZ25
import Derived.Test.YtjjaojnglnpgaaaGreatDoorZ21
import Derived.Test.YtjjaojnglnpgaaaGreatDoorZ18
import Derived.Test.YtjjaojnglnpgaaaGreatDoorZ40
import Derived.Test.YtjjaojnglnpgaaaGreatDoorZ03
import Derived.Test.YtjjaojnglnpgaaaGreatDoorZ00
set_option linter.unusedVariables false
set_option linter.unusedSimpArgs false
set_option maxHeartbeats 16000000
set_option maxRecDepth 1000000
namespace Go.Proofs.YtjjaojnglnpgaaaGreatDoor
section
open Go.RowKit Go.ChangeShapes Go.WideShapes
def pg(p:Pt):Nat:=p.file.size+p.text.size+(bH p.hunk.old).length+(bH p.hunk.new).length+(jg p.edit).length
section
variable {H : Type} {enc : TypeId × Value → H} {w : World} {spare : Nat → Bool} {held : Bool}
theorem GL{m:Nat}{cs:List Value}{x:DataW H×List MemPlace}(h:DataW.trod enc Tryz.prog w 0 spare held m 43 cs=some x):
  ∃(x':Ph) (p:Pt),cs=[.int .u8 p.kind,.string p.file,.string p.text,.int .i64 p.hunk.at_,.slice x'.h.oA p.hunk.old.length x'.h.oc,.slice x'.h.nA p.hunk.new.length x'.h.nc,.int .u8 p.edit.kind,.slice x'.e.pA p.edit.path.length x'.e.pc,.int .i64 p.edit.at_,.int .i64 p.edit.far,.string p.edit.frm,.string p.edit.to,.slice x'.e.oA p.edit.old.len x'.e.oc,.slice x'.e.nA p.edit.new.len x'.e.nc]∧
   bM (fun _=>True) w x' p∧(gJ p).length≤40*Rows.uptoBulk x.1∧p.edit.frm.size+p.edit.to.size≤Rows.uptoBulk x.1∧pg p≤40*Rows.uptoBulk x.1:=by
 obtain⟨xs,n,rfl,rfl,hl,hlen,hf⟩:=DataW.trod_struct Tryz.underlying43 h;rw[qV]at hl;obtain⟨c0,c1,c2,c3,c4,c5,c6,c7,c8,c9,c10,c11,c12,c13,rfl⟩:=FP hl;obtain⟨y0,y1,y2,y3,y4,rfl⟩:=JQ hlen;have f0:DataW.trod enc Tryz.prog w 0 spare held n 33 (List.take (Tryz.prog.cellsOf 33) (List.drop 0 [c0,c1,c2,c3,c4,c5,c6,c7,c8,c9,c10,c11,c12,c13]))=some y0:=hf 0 _ rfl;rw[Qz]at f0;have f0:DataW.trod enc Tryz.prog w 0 spare held n 33 [c0]=some y0:=f0;have f1:DataW.trod enc Tryz.prog w 0 spare held n 9 (List.take (Tryz.prog.cellsOf 9) (List.drop 1 [c0,c1,c2,c3,c4,c5,c6,c7,c8,c9,c10,c11,c12,c13]))=some y1:=hf 1 _ rfl;rw[jH]at f1;have f1:DataW.trod enc Tryz.prog w 0 spare held n 9 [c1]=some y1:=f1;have f2:DataW.trod enc Tryz.prog w 0 spare held n 9 (List.take (Tryz.prog.cellsOf 9) (List.drop 2 [c0,c1,c2,c3,c4,c5,c6,c7,c8,c9,c10,c11,c12,c13]))=some y2:=hf 2 _ rfl;rw[jH]at f2;have f2:DataW.trod enc Tryz.prog w 0 spare held n 9 [c2]=some y2:=f2;have f3:DataW.trod enc Tryz.prog w 0 spare held n 36 (List.take (Tryz.prog.cellsOf 36) (List.drop 3 [c0,c1,c2,c3,c4,c5,c6,c7,c8,c9,c10,c11,c12,c13]))=some y3:=hf 3 _ rfl;rw[xN]at f3;have f3:DataW.trod enc Tryz.prog w 0 spare held n 36 [c3,c4,c5]=some y3:=f3;have f4:DataW.trod enc Tryz.prog w 0 spare held n 41 (List.take (Tryz.prog.cellsOf 41) (List.drop 6 [c0,c1,c2,c3,c4,c5,c6,c7,c8,c9,c10,c11,c12,c13]))=some y4:=hf 4 _ rfl;rw[xO]at f4;have f4:DataW.trod enc Tryz.prog w 0 spare held n 41 [c6,c7,c8,c9,c10,c11,c12,c13]=some y4:=f4;obtain⟨k,e0,hx0,w0⟩:=DataW.trod_int QC f0;obtain⟨file,e1,hx1,w1⟩:=DataW.trod_string jI f1;obtain⟨text,e2,hx2,w2⟩:=DataW.trod_string jI f2;obtain⟨xh,hk,e3,g1,g2⟩:=KF f3;obtain⟨xe,ed,e4,i1,i2,i3⟩:=KG f4;obtain⟨k',rfl,hk8⟩:=wf_u8 w0;injection e0 with e0;injection e1 with e1;injection e2 with e2;have e3:[c3,c4,c5]=_:=e3;have e4:[c6,c7,c8,c9,c10,c11,c12,c13]=_:=e4;simp only[List.cons.injEq,and_true]at e3 e4;obtain⟨rfl,rfl,rfl⟩:=e3;obtain⟨rfl,rfl,rfl,rfl,rfl,rfl,rfl,rfl⟩:=e4;subst e0 e1 e2 hx0 hx1 hx2;have h1:=DZ (H:=H) (.lit (.int .u8 (k':Int)));refine⟨⟨xh,xe⟩,⟨k',file,text,hk,ed⟩,rfl,⟨hk8,mY w1,mY w2,g1,i1⟩,?_,?_,?_⟩
 ·simp only[List.map_cons,List.map_nil,Rows.uptoBulk,Rows.uptoBulkAll,IB]at g2 i2 h1⊢;unfold gJ;split
  ·simp only[List.length_cons,aJ,n8,IM];omega
  ·split
   ·simp only[List.length_cons,aJ,n8,IM];omega
   ·simp only[List.length_cons,aJ,n8,IM];omega
 ·simp only[List.map_cons,List.map_nil,Rows.uptoBulk,Rows.uptoBulkAll,IB]at i3⊢;omega
 ·simp only[List.map_cons,List.map_nil,Rows.uptoBulk,Rows.uptoBulkAll,IB,pg]at g2 i2 i3 h1⊢;omega
end
theorem OO :∀f:Fo,25*f.cnt≤(iy f).length
 | .nil=>by simp[Fo.cnt,iy]
 | .cons k t n ks r=>by
  have h1:=OO ks;have h2:=OO r;rw[VR,Fo.cnt];omega
theorem Xw :∀l:List ByteArray,8*l.length+8≤(bH l).length:=by
 intro l;have h :∀l:List ByteArray,8*l.length≤((l.map ax).flatten).length:=by
  intro l
  induction l with
  | nil=>simp
  | cons s r ih=>simp only[List.map_cons,List.flatten_cons,aJ,List.length_cons,IM];omega
 have:=h l;simp only[bH,aJ,n8];omega
theorem zjq :∀l:List Int,(cO l).length=8+8*l.length:=by
 intro l;have h :∀l:List Int,((l.map au).flatten).length=8*l.length:=by
  intro l
  induction l with
  | nil=>simp
  | cons s r ih=>simp only[List.map_cons,List.flatten_cons,aJ,List.length_cons,n8,ih];omega
 simp only[cO,aJ,n8,h]
theorem zy{p:Pt}{M:Nat}(h:pg p≤M):p.hunk.old.length≤M∧p.hunk.new.length≤M∧p.edit.path.length≤M∧p.edit.old.cnt≤M∧p.edit.new.cnt≤M:=by
 have h1:=Xw p.hunk.old;have h2:=Xw p.hunk.new;have h3:=zjq p.edit.path;have h4:=OO p.edit.old;have h5:=OO p.edit.new;have h6:=NQ p.edit.old;have h7:=NQ p.edit.new;have h8:(jg p.edit).length=1+(cO p.edit.path).length+16+(8+p.edit.frm.size)+(8+p.edit.to.size)+(aO p.edit.old).length+(aO p.edit.new).length:=by
  simp only[jg,List.length_cons,aJ,n8,IM];omega
 unfold pg at h;refine⟨?_,?_,?_,?_,?_⟩<;>omega
end
section
open Go.RowKit Go.ChangeShapes Go.WideShapes
theorem GM{α:Type}{l:List α}(h:l.length=20):∃a0 a1 a2 a3 a4 a5 a6 a7 a8 a9 a10 a11 a12 BO KN KO a16 a17 KP Gu,l=[a0,a1,a2,a3,a4,a5,a6,a7,a8,a9,a10,a11,a12,BO,KN,KO,a16,a17,KP,Gu]:=by
 match l,h with
 | [a0,a1,a2,a3,a4,a5,a6,a7,a8,a9,a10,a11,a12,BO,KN,KO,a16,a17,KP,Gu],_=>exact⟨a0,a1,a2,a3,a4,a5,a6,a7,a8,a9,a10,a11,a12,BO,KN,KO,a16,a17,KP,Gu,rfl⟩
theorem Lc{α:Type}{l:List α}(h:l.length=7):∃a0 a1 a2 a3 a4 a5 a6,l=[a0,a1,a2,a3,a4,a5,a6]:=by
 match l,h with
 | [a0,a1,a2,a3,a4,a5,a6],_=>exact⟨a0,a1,a2,a3,a4,a5,a6,rfl⟩
theorem Ld:Tryz.prog.cellsOf 46=20:=by kernel_rfl
theorem SN:Tryz.prog.cellsOf 32=1:=by kernel_rfl
theorem SQ:Tryz.prog.underlying 32=some (.int .u8):=by kernel_rfl
section
variable {H : Type} {enc : TypeId × Value → H} {w : World} {spare : Nat → Bool} {held : Bool}
theorem GN{m:Nat}{cs:List Value}{x:DataW H×List MemPlace}(h:DataW.trod enc Tryz.prog w 0 spare held m 46 cs=some x):
  ∃(xx:Ph) (A:Option Addr) (n:Nat) (c:aY),cs=ag c xx A n∧dF (fun _=>True) w c xx A n∧c.repo.size+c.frm.size+c.name.size+c.file.size+c.bytes.length≤Rows.uptoBulk x.1∧(gJ c.patch).length≤40*Rows.uptoBulk x.1∧c.patch.edit.frm.size+c.patch.edit.to.size≤Rows.uptoBulk x.1∧pg c.patch≤40*Rows.uptoBulk x.1:=by
 obtain⟨xs,n,rfl,rfl,hl,hlen,hf⟩:=DataW.trod_struct Tryz.underlying46 h;rw[Ld]at hl;obtain⟨c0,c1,c2,c3,c4,c5,c6,c7,c8,c9,c10,c11,c12,c13,c14,c15,c16,c17,c18,c19,rfl⟩:=GM hl;obtain⟨y0,y1,y2,y3,y4,y5,y6,rfl⟩:=Lc hlen;have f0:DataW.trod enc Tryz.prog w 0 spare held n 32 (List.take (Tryz.prog.cellsOf 32) (List.drop 0 [c0,c1,c2,c3,c4,c5,c6,c7,c8,c9,c10,c11,c12,c13,c14,c15,c16,c17,c18,c19]))=some y0:=hf 0 _ rfl;rw[SN]at f0;have f0:DataW.trod enc Tryz.prog w 0 spare held n 32 [c0]=some y0:=f0;have f1:DataW.trod enc Tryz.prog w 0 spare held n 9 (List.take (Tryz.prog.cellsOf 9) (List.drop 1 [c0,c1,c2,c3,c4,c5,c6,c7,c8,c9,c10,c11,c12,c13,c14,c15,c16,c17,c18,c19]))=some y1:=hf 1 _ rfl;rw[jH]at f1;have f1:DataW.trod enc Tryz.prog w 0 spare held n 9 [c1]=some y1:=f1;have f2:DataW.trod enc Tryz.prog w 0 spare held n 9 (List.take (Tryz.prog.cellsOf 9) (List.drop 2 [c0,c1,c2,c3,c4,c5,c6,c7,c8,c9,c10,c11,c12,c13,c14,c15,c16,c17,c18,c19]))=some y2:=hf 2 _ rfl;rw[jH]at f2;have f2:DataW.trod enc Tryz.prog w 0 spare held n 9 [c2]=some y2:=f2;have f3:DataW.trod enc Tryz.prog w 0 spare held n 9 (List.take (Tryz.prog.cellsOf 9) (List.drop 3 [c0,c1,c2,c3,c4,c5,c6,c7,c8,c9,c10,c11,c12,c13,c14,c15,c16,c17,c18,c19]))=some y3:=hf 3 _ rfl;rw[jH]at f3;have f3:DataW.trod enc Tryz.prog w 0 spare held n 9 [c3]=some y3:=f3;have f4:DataW.trod enc Tryz.prog w 0 spare held n 9 (List.take (Tryz.prog.cellsOf 9) (List.drop 4 [c0,c1,c2,c3,c4,c5,c6,c7,c8,c9,c10,c11,c12,c13,c14,c15,c16,c17,c18,c19]))=some y4:=hf 4 _ rfl;rw[jH]at f4;have f4:DataW.trod enc Tryz.prog w 0 spare held n 9 [c4]=some y4:=f4;have f5:DataW.trod enc Tryz.prog w 0 spare held n 43 (List.take (Tryz.prog.cellsOf 43) (List.drop 5 [c0,c1,c2,c3,c4,c5,c6,c7,c8,c9,c10,c11,c12,c13,c14,c15,c16,c17,c18,c19]))=some y5:=hf 5 _ rfl;rw[qV]at f5;have f5:DataW.trod enc Tryz.prog w 0 spare held n 43 [c5,c6,c7,c8,c9,c10,c11,c12,c13,c14,c15,c16,c17,c18]=some y5:=f5;have f6:DataW.trod enc Tryz.prog w 0 spare held n 44 (List.take (Tryz.prog.cellsOf 44) (List.drop 19 [c0,c1,c2,c3,c4,c5,c6,c7,c8,c9,c10,c11,c12,c13,c14,c15,c16,c17,c18,c19]))=some y6:=hf 6 _ rfl;rw[JX]at f6;have f6:DataW.trod enc Tryz.prog w 0 spare held n 44 [c19]=some y6:=f6;obtain⟨k,e0,hx0,w0⟩:=DataW.trod_int SQ f0;obtain⟨t1,e1,hx1,w1⟩:=DataW.trod_string jI f1;obtain⟨t2,e2,hx2,w2⟩:=DataW.trod_string jI f2;obtain⟨t3,e3,hx3,w3⟩:=DataW.trod_string jI f3;obtain⟨t4,e4,hx4,w4⟩:=DataW.trod_string jI f4;obtain⟨xp,p,e5,g1,g2,g3,g4⟩:=GL f5;obtain⟨A6,l6,k6,e6,i1,i2,i3,i4⟩:=ui BQ JV JS f6;obtain⟨k',rfl,hk8⟩:=wf_u8 w0;injection e0 with e0;injection e1 with e1;injection e2 with e2;injection e3 with e3;injection e4 with e4;injection e6 with e6;have e5:[c5,c6,c7,c8,c9,c10,c11,c12,c13,c14,c15,c16,c17,c18]=_:=e5;simp only[List.cons.injEq,and_true]at e5;obtain⟨rfl,rfl,rfl,rfl,rfl,rfl,rfl,rfl,rfl,rfl,rfl,rfl,rfl,rfl⟩:=e5;subst e0 e1 e2 e3 e4 e6 hx0 hx1 hx2 hx3 hx4;refine⟨xp,A6,k6,⟨k',t1,t2,t3,t4,p,l6⟩,rfl,⟨hk8,mY w1,mY w2,mY w3,mY w4,g1,i1,⟨i2,i3⟩⟩,?_,?_,?_,?_⟩
 all_goals
  simp only[List.map_cons,List.map_nil,Rows.uptoBulk,Rows.uptoBulkAll,IB]at i4 g2 g3 g4⊢;omega
end
end
section
open Go.RowKit
theorem zjr{w:World}{g m k c:Nat}{f t:ByteArray}{mid:List ByteArray}(h:oJ w g m k c f t mid)(hf:f=ay∨f=aV)(hu:unhexL t.data.toList=none):Calls Tryz.prog 121 #[.slice (some ⟨g,0,none⟩) m c] w (dL (f::(mid++[t])) w):=by
 have iW:=hide (Xu (mid:=mid) hf (.inl hu));have hwk:IntKind.i64.wrap ((m:Int)-1)=(k:Int):=by have:=h.ek;have:=h.em;have:=h.mm;rw[IntKind.wrap_i64];omega
 have OL:k<m:=by have:=h.ek;have:=h.em;omega
 have hk1:1≤k:=by have:=h.ek;omega
 have hmc:=h.mc;have hcm:=h.cm;have kl:=h.last;have hst:=h.st;have HU:Hid (∀W,Calls Tryz.prog 186 #[.string t] W fun e w'=>e = .returned (.tuple #[.slice none 0 0,.bool false])∧Below W.heap.size W w'):=hide fun W=>(IL t (by omega) W).mono fun e w' h=>⟨h.2.1 hu,h.1⟩;have HZ0:=hide (lG w);have La:=((az w (.cells ak.toArray 46)).cell (p:=⟨g,k,none⟩) h.lt).trans kl;clear hf hu hst h kl;go_enter Tryz.func121,Tryz.ntmps121
 go_wp2_with(first
  | (go_at_call 186;(with_reducible refine(HU.out _).mono ?_);rintro e1 w1 ⟨rfl,hB1⟩;have HZ1:=hide (HZ0.out.next hB1);clear hB1)
  | (refine wpList_store_mid rfl _ _ _ rfl w.heap.size 0 ak.toArray rfl rfl HZ1.out.ct zag Ai ?_;obtain⟨X,hX,hX1,hX2,dQ,iH⟩:=HZ1.out.stored ak rfl;rw[←hX];have fE:=hide hX1;have fD:=hide dQ;clear hX hX1 hX2 dQ iH))
 refine bodyPost_ret (v:= .tuple #[.agg gV.toArray,.bool false]) (mX Tryz.results121 rfl rfl fE.out rfl) rfl ⟨fD.out,_,_,_,_,false,rfl,fun h=>(by cases h),fun h=>iW.out⟩
theorem zjs{w:World}{g m k c:Nat}{f t:ByteArray}{mid:List ByteArray}(h:oJ w g m k c f t mid){b:List UInt8}(hf:f=ay∨f=aV)(hu:unhexL t.data.toList=some b)(hall:mid.all isWord=false):Calls Tryz.prog 121 #[.slice (some ⟨g,0,none⟩) m c] w (dL (f::(mid++[t])) w):=by
 have iW:=hide (Xu (t:=t) hf (.inr hall));have hwk:IntKind.i64.wrap ((m:Int)-1)=(k:Int):=by have:=h.ek;have:=h.em;have:=h.mm;rw[IntKind.wrap_i64];omega
 have OL:k<m:=by have:=h.ek;have:=h.em;omega
 have hk1:1≤k:=by have:=h.ek;omega
 have hmc:=h.mc;have hcm:=h.cm;have kl:=h.last;have hst:=h.st;have HU:Hid (∀W,Calls Tryz.prog 186 #[.string t] W fun e w'=>∃v,e = .returned (.tuple #[v,.bool true])∧w'.ownsRow W.heap.size 5 1 v b.length (Lib.byteCells b)∧Below W.heap.size W w'):=hide fun W=>(IL t (by omega) W).mono fun e w' h=>by obtain⟨v,h1,h2⟩:=h.2.2 b hu;exact⟨v,h1,h2,h.1⟩
 have HZ0:=hide (lG w);have HH:=hide (h.below (az w (.cells ak.toArray 46)));have La:=((az w (.cells ak.toArray 46)).cell (p:=⟨g,k,none⟩) h.lt).trans kl;have aQ:=hide hall;clear hu hst kl hall;clear hf h;go_enter Tryz.func121,Tryz.ntmps121
 go_wp2_with(first
  | (go_at_call 186;(with_reducible refine(HU.out _).mono ?_);rintro e1 w1 ⟨v1,rfl,ho1,hB1⟩;obtain⟨A1,n1,rfl⟩:=jD ho1;have iI:=hide ho1;have HZ1:=hide (HZ0.out.next hB1);have mQ:=hide (HH.out.below hB1);have hg1:g<w1.heap.size:=mQ.out.lt;clear ho1 hB1)
  | (go_at_call 122;(with_reducible refine(mQ.out.words _).mono ?_);rintro e2 w2 ⟨rfl,rfl⟩;rw[aQ.out])
  | (refine wpList_store_mid rfl _ _ _ rfl w.heap.size 0 ak.toArray rfl rfl HZ1.out.ct zag Ai ?_;obtain⟨X,hX,hX1,hX2,dQ,iH⟩:=HZ1.out.stored ak rfl;rw[←hX];have fE:=hide hX1;have fD:=hide dQ;clear hX hX1 hX2 dQ iH))
 refine bodyPost_ret (v:= .tuple #[.agg gV.toArray,.bool false]) (mX Tryz.results121 rfl rfl fE.out rfl) rfl ⟨fD.out,_,_,_,_,false,rfl,fun h=>(by cases h),fun h=>iW.out⟩
theorem uJ{w:World}{g m k c:Nat}{t y:ByteArray}{mid:List ByteArray}(h:oJ w g m k c aV t mid){b:List UInt8}(hy:(mid++[t])[0]?=some y)(hu:unhexL t.data.toList=some b)(hall:mid.all isWord=true):Calls Tryz.prog 121 #[.slice (some ⟨g,0,none⟩) m c] w (dL (aV::(mid++[t])) w):=by
 have hlo:m=3→lineOf (aV::(mid++[t]))=some (⟨9,y,ae,ae,ae,Pt.zero,b⟩:aY):=fun e=>by
  rcases mid with _|⟨x,_|⟨z,r⟩⟩
  ·have:=h.em;simp at this;omega
  ·injection hy with hy;subst hy;simp only[List.all_cons,List.all_nil,Bool.and_true]at hall;rw[List.cons_append,List.nil_append,Xt,hu,hall];rfl
  ·have:=h.em;simp at this;omega
 have hln:m≠3→lineOf (aV::(mid++[t]))=none:=fun e=>Xr (by have:=h.em;simp;omega);have hsy:y.size≤1099511627776:=by
  rcases mid with _|⟨x,r⟩
  ·injection hy with hy;have:=h.st;rw[←hy];omega
  ·injection hy with hy;rw[←hy];exact h.sz _ (by simp)
 have iW:=hide hlo;have Qg:=hide hln;have Hsy:=hide hsy;have hat:=h.at_;have EC:Hid (∀W,oJ W g m k c aV t mid→W.cell? ⟨g,0,none⟩=some (.string {data:=#[105,109,112,111,114,116]})∧W.cell? ⟨g,1,none⟩=some (.string y)):=hide fun W hW=>⟨hW.at_ 0 _ rfl,hW.at_ 1 y hy⟩;obtain⟨bq,hbq⟩:∃bq,bq=((m:Int) == 3):=⟨_,rfl⟩;have hq:=hbq.symm;have yX:=hide hbq;have hwk:IntKind.i64.wrap ((m:Int)-1)=(k:Int):=by have:=h.ek;have:=h.em;have:=h.mm;rw[IntKind.wrap_i64];omega
 have OL:k<m:=by have:=h.ek;have:=h.em;omega
 have hk1:1≤k:=by have:=h.ek;omega
 have hmc:=h.mc;have hcm:=h.cm;have kl:=h.last;have hst:=h.st;have HU:Hid (∀W,Calls Tryz.prog 186 #[.string t] W fun e w'=>∃v,e = .returned (.tuple #[v,.bool true])∧w'.ownsRow W.heap.size 5 1 v b.length (Lib.byteCells b)∧Below W.heap.size W w'):=hide fun W=>(IL t (by omega) W).mono fun e w' h=>by obtain⟨v,h1,h2⟩:=h.2.2 b hu;exact⟨v,h1,h2,h.1⟩
 have HZ0:=hide (lG w);have HH:=hide (h.below (az w (.cells ak.toArray 46)));have La:=((az w (.cells ak.toArray 46)).cell (p:=⟨g,k,none⟩) h.lt).trans kl;have aQ:=hide hall;clear hu hst kl hall;have hm2:2≤m:=by have:=h.em;omega
 clear hlo hln hsy hat hbq hy h;go_enter Tryz.func121,Tryz.ntmps121
 go_wp2_with(first
  | (go_at_call 186;(with_reducible refine(HU.out _).mono ?_);rintro e1 w1 ⟨v1,rfl,ho1,hB1⟩;obtain⟨A1,n1,rfl⟩:=jD ho1;have iI:=hide ho1;have HZ1:=hide (HZ0.out.next hB1);have mQ:=hide (HH.out.below hB1);have hg1:g<w1.heap.size:=mQ.out.lt;have k0:=(EC.out _ mQ.out).1;have k1:=(EC.out _ mQ.out).2;clear ho1 hB1)
  | (go_at_call 122;(with_reducible refine(mQ.out.words _).mono ?_);rintro e2 w2 ⟨rfl,rfl⟩;rw[aQ.out])
  | (refine wpList_store_mid rfl _ _ _ rfl w.heap.size 0 (ag (⟨9,y,ae,ae,ae,Pt.zero,b⟩:aY) Ph.zero A1 n1).toArray rfl rfl HZ1.out.ct zag (jQ _ _ _ _) ?_;obtain⟨X,hX,hX1,hX2,dQ,iH⟩:=HZ1.out.stored (ag (⟨9,y,ae,ae,ae,Pt.zero,b⟩:aY) Ph.zero A1 n1) rfl;rw[←hX];have fE:=hide hX1;have iG:=hide hX2;have fD:=hide dQ;clear hX hX1 hX2 dQ iH))
 refine bodyPost_ret (v:= .tuple #[.agg (ag (⟨9,y,ae,ae,ae,Pt.zero,b⟩:aY) Ph.zero A1 n1).toArray,.bool bq]) (mX Tryz.results121 rfl rfl fE.out rfl) rfl ⟨fD.out,_,_,_,_,bq,rfl,fun h=>?_,fun h=>?_⟩
 ·have nG:m=3:=by
   have h1:((m:Int) == 3)=true:=yX.out.symm.trans h;rw[beq_iff_eq]at h1;omega
  have ho:=iI.out;have h0:=NW ho;have hr:=JG h0 rfl;have hin:dF (fun g=>w.heap.size+1≤g) w1 (⟨9,y,ae,ae,ae,Pt.zero,b⟩:aY) Ph.zero A1 n1:=⟨show 9<256 by decide,aI Hsy.out (by decide),Ec,Ec,Ec,QF,⟨Fh h0 (fun g hg=>by have:=NY ho g hg;simpa using this),aI hr.1 hr.2⟩,hr⟩;exact⟨iW.out nG,(hin.keep fun g hg=>iG.out.block g (by omega)).mono fun g _ hg=>by omega⟩
 ·have nG:m≠3:=by
   have h1:((m:Int) == 3)=false:=yX.out.symm.trans h;rw[aK]at h1;omega
  exact Qg.out nG
theorem zjt{w:World}{g c:Nat}{repo n t:ByteArray}(h:oJ w g 4 3 c ay t [repo,n]){b:List UInt8}{p:Pt}(hu:unhexL t.data.toList=some b)(hall:[repo,n].all isWord=true)(hp:iM b=some p):Calls Tryz.prog 121 #[.slice (some ⟨g,0,none⟩) 4 c] w (dL [ay,repo,n,t] w):=by
 have hlo:lineOf [ay,repo,n,t]=some (⟨2,repo,ae,n,ae,p,[]⟩:aY):=by
  simp only[List.all_cons,List.all_nil,Bool.and_true]at hall;rw[SI,hall,if_pos rfl,hu,Option.bind_some,hp];rfl
 have iW:=hide hlo;have Xx:repo.size≤1099511627776∧n.size≤1099511627776:=⟨h.sz _ (by simp),h.sz _ (by simp)⟩;have Xy:=hide Xx;have hbl:b.length≤lid:=by
  have h1:t.data.toList.length=t.size:=by rw[Array.length_toList];rfl
  have h2:=h.st;have h3:=congrArg List.length (ER _ _ hu);by_cases hb:b=[]
  ·subst hb;simp
  ·rw[hexL,if_neg hb,zZ]at h3;show b.length≤1099511627776;omega
 have HG:Hid (∀{A n} W,(BytesIn (fun _=>True) W A b∧b.length≤n∧n≤9223372036854775807)→Calls Tryz.prog 187 #[.slice A b.length n] W fun e w'=>∃y,e = .returned (.tuple #[.agg (bU p y).toArray,.int .i64 0])∧bM (fun b=>W.heap.size≤b) w' y p∧Below W.heap.size W w'):=hide fun W h=>Xv h.1 h.2.1 h.2.2 hbl hp;have EC:Hid (∀W,oJ W g 4 3 c ay t [repo,n]→W.cell? ⟨g,0,none⟩=some (.string {data:=#[114,101,99,111,114,100]})):=hide fun W hW=>hW.at_ 0 _ rfl;have hmc:=h.mc;have hcm:=h.cm;have kl:=h.last;have hst:=h.st;have HU:Hid (∀W,Calls Tryz.prog 186 #[.string t] W fun e w'=>∃v,e = .returned (.tuple #[v,.bool true])∧w'.ownsRow W.heap.size 5 1 v b.length (Lib.byteCells b)∧Below W.heap.size W w'):=hide fun W=>(IL t (by omega) W).mono fun e w' h=>by obtain⟨v,h1,h2⟩:=h.2.2 b hu;exact⟨v,h1,h2,h.1⟩
 have HZ0:=hide (lG w);have HH:=hide (h.below (az w (.cells ak.toArray 46)));have La:=((az w (.cells ak.toArray 46)).cell (p:=⟨g,3,none⟩) h.lt).trans kl;have aQ:=hide hall;clear hu hst kl hall;have Hg:=hide (h.lt);clear hlo hp h hbl Xx;go_enter Tryz.func121,Tryz.ntmps121
 go_upto_region 9 with(first
  | (go_at_call 186;(with_reducible refine(HU.out _).mono ?_);rintro e1 w1 ⟨v1,rfl,ho1,hB1⟩;obtain⟨A1,n1,rfl⟩:=jD ho1;have iI:=hide ho1;have HZ1:=hide (HZ0.out.next hB1);have mQ:=hide (HH.out.below hB1);have hg1:g<w1.heap.size:=mQ.out.lt;have HR1:=hide (SL (S:=fun _=>True) ho1 (fun _ _=>trivial));have k0:=EC.out _ mQ.out;clear ho1 hB1)
  | (go_at_call 122;(with_reducible refine(mQ.out.words _).mono ?_);rintro e2 w2 ⟨rfl,rfl⟩;rw[aQ.out])
  | (go_at_call 187;(with_reducible refine(HG.out _ HR1.out).mono ?_);rintro e3 w3 ⟨y,rfl,hP3,hB3⟩;have HZ3:=hide (HZ1.out.next hB3);have ED:=hide (mQ.out.below hB3);have hg3:g<w3.heap.size:=ED.out.lt;have Ot:=hide hP3;clear hP3;have HB3:=hide hB3;clear hB3)
  | (refine wpList_store_mid rfl _ _ _ rfl w3.heap.size 0 (bU p y).toArray rfl rfl (oI w3 lU _) OJ (SK p y) ?_;obtain⟨V,hV,hV1,hV2,gW⟩:=o5 w3 43 lU (bU p y) rfl;rw[←hV];have AB:=hide (HZ3.out.next hV2);have OM:=hide (ED.out.below hV2);have kW:=hide hV1;have kE:=hide hV2;have mW:=hide gW;clear hV hV1 hV2 gW))
 have uK:w3.heap.size≠w.heap.size:=by have:=HZ3.out.lt;omega
 have hneg:g≠w.heap.size:=by have:=mQ.out.lt;have:=HZ3.out.lt;have h5:=Hg.out;omega
 have Hd1 :∀W,Keep (fun k=>k≠w.heap.size) V W→W.cell? ⟨g,1,none⟩=some (.string repo):=fun W hW=>(hW.cell (a:=⟨g,1,none⟩) hneg).trans (OM.out.at_ 1 _ rfl);have Hd2 :∀W,Keep (fun k=>k≠w.heap.size) V W→W.cell? ⟨g,2,none⟩=some (.string n):=fun W hW=>(hW.cell (a:=⟨g,2,none⟩) hneg).trans (OM.out.at_ 2 _ rfl);have Hdp :∀W,Keep (fun k=>k≠w.heap.size) V W→W.rangeAt w3.heap.size 0 (bU p y):=fun W hW j v hv=>(hW.cell (a:=⟨w3.heap.size,0+j,none⟩) uK).trans (kW.out j v hv);refine wp_region_held_drew (S:=Keep (fun k=>k≠w.heap.size) V) (by kernel_rfl) ((Keep.refl _ V).drew) (fun hHeld=>?_);have OQ:ng w V.drew:=AB.out.next (di (Below.refl _ _) 1);generalize V.drew=wD at hHeld OQ⊢;refine aj 0 hHeld ?_;refine aj 1 hHeld ?_;refine tk (v:=?_) 2 hHeld ?_ ?_;rotate_left
 ·intro w' hSw;have d1:=Hd1 w' hSw
  first|(go_simp;done)|(go_simp;with_reducible rfl)
 try simp only[aA,aB]
 refine aj 3 hHeld ?_;refine aj 4 hHeld ?_;refine tk (v:=?_) 5 hHeld ?_ ?_;rotate_left
 ·intro w' hSw;have d2:=Hd2 w' hSw
  first|(go_simp;done)|(go_simp;with_reducible rfl)
 try simp only[aA,aB]
 refine tk (v:= .agg (bU p y).toArray) 6 hHeld ?_ ?_
 ·intro w' hSw;exact yf (b:=w3.heap.size) (o:=0) rfl (by first|rfl|(go_simp;done)) (Hdp w' hSw) Tryz.underlying43 rfl OJ
 try simp only[aA,aB]
 refine aj 7 hHeld ?_;refine wpAnyH_ready (rs:=[8]) (by kernel_rfl) (by simp) ?_;refine AllReadyH.cons rfl (fun K hK=>?_) AllReadyH.nil;obtain⟨X,hX,hX1,hX2,dQ,iH⟩:=OQ.stored (ag (⟨2,repo,ae,n,ae,p,[]⟩:aY) y none 0) rfl;refine ZY rfl 46 _ _ rfl w.heap.size 0 (ag (⟨2,repo,ae,n,ae,p,[]⟩:aY) y none 0).toArray (by first|rfl|(go_simp;done)) (by first|rfl|(go_simp;done)) OQ.ct zag (jQ _ _ _ _) ?_;rw[←hX];have hS:Keep (fun k=>k≠w.heap.size) V X:=hHeld.trans hX2;have fE:=hide hX1;have fD:=hide dQ;have HS:=hide hS;clear hX hX1 hX2 dQ iH OQ;refine hK.out _ _ hS (fun hHeld=>?_);clear hK K
 try simp only[Act.put,aG,aE,aF,aD,aA,aB]
 refine aj 9 hHeld ?_;refine wpAnyH_done (by kernel_rfl) ?_ _
 try simp only[Act.put,aG,aE,aF,aD,aA,aB]
 go_wp2_with fail
 refine bodyPost_ret (v:= .tuple #[.agg (ag (⟨2,repo,ae,n,ae,p,[]⟩:aY) y none 0).toArray,.bool true]) (mX Tryz.results121 rfl rfl fE.out rfl) rfl ⟨fD.out,_,_,_,_,true,rfl,fun h=>⟨iW.out,?_⟩,fun h=>(by cases h)⟩;have h1:=HZ1.out.lt;have h3:=HB3.out.size;have hin:bM (fun b=>w.heap.size+1≤b) X y p:=((Ot.out.below kE.out).mono (S':=fun b=>w.heap.size+1≤b) (fun b _ hb=>by omega)).keep fun b hb=>HS.out.block b (by omega);exact⟨show 2<256 by decide,aI Xy.out.1 (by decide),Ec,aI Xy.out.2 (by decide),Ec,hin.mono fun b _ hb=>by omega,⟨.nil,Nat.zero_le _⟩,aC _,Nat.zero_le _⟩
end
end Go.Proofs.YtjjaojnglnpgaaaGreatDoor
