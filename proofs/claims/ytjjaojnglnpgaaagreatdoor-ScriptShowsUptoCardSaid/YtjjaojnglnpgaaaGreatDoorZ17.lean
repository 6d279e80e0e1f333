/- Part 18 of what scriptShows_cardUpto rests on. -/
import Derived.Lib.SplitLaws
import Derived.Test.YtjjaojnglnpgaaaGreatDoorProg
import Derived.Test.YtjjaojnglnpgaaaGreatDoorZ11
import Derived.Test.YtjjaojnglnpgaaaGreatDoorZ13
import Derived.Test.YtjjaojnglnpgaaaGreatDoorZ03
import Derived.Test.YtjjaojnglnpgaaaGreatDoorZ12
import Derived.Test.YtjjaojnglnpgaaaGreatDoorZ14
import Derived.Test.YtjjaojnglnpgaaaGreatDoorZ15
import Derived.Test.YtjjaojnglnpgaaaGreatDoorZ16
import Derived.Test.YtjjaojnglnpgaaaGreatDoorZ02
import Derived.Test.YtjjaojnglnpgaaaGreatDoorZ00
set_option linter.unusedVariables false
set_option linter.unusedSimpArgs false
set_option maxHeartbeats 16000000
set_option maxRecDepth 1000000
namespace Go.Proofs.YtjjaojnglnpgaaaGreatDoor
theorem IB (t:ByteArray):t.data.toList.length=t.size:=rfl
section
open Go.RowKit Go.ChangeShapes Go.WideShapes
theorem D9{α:Type}{l:List α}(h:l.length=3):∃a0 a1 a2,l=[a0,a1,a2]:=by
 match l,h with
 | [a0,a1,a2],_=>exact⟨a0,a1,a2,rfl⟩
theorem list4{α:Type}{l:List α}(h:l.length=4):∃a0 a1 a2 a3,l=[a0,a1,a2,a3]:=by
 match l,h with
 | [a0,a1,a2,a3],_=>exact⟨a0,a1,a2,a3,rfl⟩
theorem JQ{α:Type}{l:List α}(h:l.length=5):∃a0 a1 a2 a3 a4,l=[a0,a1,a2,a3,a4]:=by
 match l,h with
 | [a0,a1,a2,a3,a4],_=>exact⟨a0,a1,a2,a3,a4,rfl⟩
theorem Ea{α:Type}{l:List α}(h:l.length=8):∃a0 a1 a2 a3 a4 a5 a6 a7,l=[a0,a1,a2,a3,a4,a5,a6,a7]:=by
 match l,h with
 | [a0,a1,a2,a3,a4,a5,a6,a7],_=>exact⟨a0,a1,a2,a3,a4,a5,a6,a7,rfl⟩
theorem FP{α:Type}{l:List α}(h:l.length=14):∃a0 a1 a2 a3 a4 a5 a6 a7 a8 a9 a10 a11 a12 BO,l=[a0,a1,a2,a3,a4,a5,a6,a7,a8,a9,a10,a11,a12,BO]:=by
 match l,h with
 | [a0,a1,a2,a3,a4,a5,a6,a7,a8,a9,a10,a11,a12,BO],_=>exact⟨a0,a1,a2,a3,a4,a5,a6,a7,a8,a9,a10,a11,a12,BO,rfl⟩
theorem xK:Tryz.prog.cellsOf 218=4:=by kernel_rfl
theorem Qw:Tryz.prog.cellsOf 216=1:=by kernel_rfl
theorem jH:Tryz.prog.cellsOf 9=1:=by kernel_rfl
theorem JR:Tryz.prog.cellsOf 2=1:=by kernel_rfl
theorem qU:Tryz.prog.cellsOf 3=1:=by kernel_rfl
theorem Qx:Tryz.prog.cellsOf 39=1:=by kernel_rfl
theorem xM:Tryz.prog.cellsOf 34=1:=by kernel_rfl
theorem FQ:Tryz.prog.cellsOf 38=1:=by kernel_rfl
theorem Qy:Tryz.prog.cellsOf 37=1:=by kernel_rfl
theorem Qz:Tryz.prog.cellsOf 33=1:=by kernel_rfl
theorem xN:Tryz.prog.cellsOf 36=3:=by kernel_rfl
theorem xO:Tryz.prog.cellsOf 41=8:=by kernel_rfl
theorem qV:Tryz.prog.cellsOf 43=14:=by kernel_rfl
theorem JS:Tryz.prog.cellsOf 5=1:=by kernel_rfl
theorem QA:Tryz.prog.underlying 216=some (.int .u8):=by kernel_rfl
theorem QB:Tryz.prog.underlying 37=some (.int .u8):=by kernel_rfl
theorem QC:Tryz.prog.underlying 33=some (.int .u8):=by kernel_rfl
theorem jI:Tryz.prog.underlying 9=some .string:=by kernel_rfl
theorem JU:Tryz.prog.underlying 2=some (.int .i64):=by kernel_rfl
theorem qW:Tryz.prog.underlying 3=some (.int .i64):=by kernel_rfl
theorem JV:Tryz.prog.underlying 5=some (.int .u8):=by kernel_rfl
theorem BP:Tryz.prog.underlying 39=some (.slice 218):=by kernel_rfl
theorem xP:Tryz.prog.underlying 34=some (.slice 9):=by kernel_rfl
theorem FT:Tryz.prog.underlying 38=some (.slice 3):=by kernel_rfl
theorem BQ:Tryz.prog.underlying 44=some (.slice 5):=by kernel_rfl
section
variable {H : Type} {enc : TypeId × Value → H} {w : World} {spare : Nat → Bool} {held : Bool}
def xQ(w:World)(cs:List Value)(x:DataW H×List MemPlace):Prop :=
 ∃A f c,cs=[.slice A f.len c]∧bG (fun _=>True) w A f∧f.len≤c∧c≤9223372036854775807∧(aO f).length≤40*Rows.uptoBulk x.1
theorem NQ(f:Fo):(aO f).length=8+(iy f).length:=by
 have h8 :∀n:Int,(au n).length=8:=fun n=>rfl;simp only[aO,aJ,h8]
theorem VR(k:Nat)(t:ByteArray)(n:Int)(ks r:Fo):(iy (.cons k t n ks r)).length=25+t.size+(iy ks).length+(iy r).length:=by
 have h8 :∀n:Int,(au n).length=8:=fun n=>rfl;have hs:t.data.toList.length=t.size:=rfl;simp only[iy,ax,List.length_cons,aJ,h8,hs];omega
theorem qX{m:Nat}(ih :∀m',m'<m→∀{cs:List Value} {x:DataW H×List MemPlace},DataW.trod enc Tryz.prog w 0 spare held m' 39 cs=some x→xQ w cs x)
  {cs:List Value} {x:DataW H×List MemPlace} (h:DataW.trod enc Tryz.prog w 0 spare held m 218 cs=some x):
  ∃k t n KA f c,cs=[.int .u8 (k:Nat),.string t,.int .i64 n,.slice KA f.len c]∧k<256∧t.size≤9223372036854775807∧ai n∧f.len≤c∧c≤9223372036854775807∧
   bG (fun _=>True) w KA f∧25+t.size+(iy f).length≤40*Rows.uptoBulk x.1:=by
 obtain⟨xs,n,rfl,rfl,hl,hlen,hf⟩:=DataW.trod_struct Tryz.underlying218 h;rw[xK]at hl;obtain⟨c0,c1,c2,c3,rfl⟩:=list4 hl;obtain⟨y0,y1,y2,y3,rfl⟩:=list4 hlen;have f0:DataW.trod enc Tryz.prog w 0 spare held n 216 (List.take (Tryz.prog.cellsOf 216) (List.drop 0 [c0,c1,c2,c3]))=some y0:=hf 0 _ rfl;rw[Qw]at f0;have f0:DataW.trod enc Tryz.prog w 0 spare held n 216 [c0]=some y0:=f0;have f1:DataW.trod enc Tryz.prog w 0 spare held n 9 (List.take (Tryz.prog.cellsOf 9) (List.drop 1 [c0,c1,c2,c3]))=some y1:=hf 1 _ rfl;rw[jH]at f1;have f1:DataW.trod enc Tryz.prog w 0 spare held n 9 [c1]=some y1:=f1;have f2:DataW.trod enc Tryz.prog w 0 spare held n 2 (List.take (Tryz.prog.cellsOf 2) (List.drop 2 [c0,c1,c2,c3]))=some y2:=hf 2 _ rfl;rw[JR]at f2;have f2:DataW.trod enc Tryz.prog w 0 spare held n 2 [c2]=some y2:=f2;have f3:DataW.trod enc Tryz.prog w 0 spare held n 39 (List.take (Tryz.prog.cellsOf 39) (List.drop 3 [c0,c1,c2,c3]))=some y3:=hf 3 _ rfl;rw[Qx]at f3;have f3:DataW.trod enc Tryz.prog w 0 spare held n 39 [c3]=some y3:=f3;obtain⟨k,e0,hx0,w0⟩:=DataW.trod_int QA f0;obtain⟨t,e1,hx1,w1⟩:=DataW.trod_string jI f1;obtain⟨i,e2,hx2,w2⟩:=DataW.trod_int JU f2;obtain⟨KA,f,c,e3,hin,hc,hc2,hB⟩:=ih n (Nat.lt_succ_self n) f3;obtain⟨k',rfl,hk⟩:=wf_u8 w0;injection e0 with e0;injection e1 with e1;injection e2 with e2;injection e3 with e3;subst e0 e1 e2 e3 hx0 hx1 hx2;refine⟨k',t,i,KA,f,c,rfl,hk,mY w1,JJ w2,hc,hc2,hin,?_⟩;rw[NQ]at hB;have h1:=DZ (H:=H) (.lit (.int .u8 (k':Int)));have h2:=DZ (H:=H) (.lit (.int .i64 i));simp only[List.map_cons,List.map_nil,Rows.uptoBulk,Rows.uptoBulkAll,IB]at h1 h2⊢;omega
theorem Eb :∀(m:Nat) {cs:List Value} {x:DataW H×List MemPlace},DataW.trod enc Tryz.prog w 0 spare held m 39 cs=some x→xQ w cs x:=by
 intro m
 induction m using Nat.strongRecOn with
 | ind m ih =>
  intro cs x h;have h8 :∀n:Int,(au n).length=8:=fun n=>rfl;rcases DataW.trod_slice BP h with⟨rfl,rfl⟩|⟨a,len,cap,elems,rest,n,rfl,rfl,rfl,hb,hl,hm,hlen,hel,_,_⟩
  ·exact⟨none,.nil,0,rfl,trivial,aC _,by omega,by simp[aO,iy,h8,Rows.uptoBulk]⟩
  ·simp only[xK]at hel;have key :∀i,i<len→∃cs' y,elems[i]?=some y∧w.cells? 0 (a.add (i*4)) 4=some cs'∧DataW.trod enc Tryz.prog w 0 spare held n 218 cs'=some y:=by
    intro i hi;have h1:=hel i hi;rw[List.getElem?_eq_getElem (by omega)]at h1;obtain⟨cs',h2,h3⟩:=Option.bind_eq_some_iff.1 h1;exact⟨cs',_,List.getElem?_eq_getElem (by omega),h2,h3⟩
   have hcap:=mY hm;by_cases h0:len=0
   ·subst h0;have:elems=[]:=List.eq_nil_of_length_eq_zero hlen;subst this;exact⟨some a,.nil,cap,rfl,trivial,Nat.zero_le _,hcap,by have:=DZ (H:=H) (.slice (List.map (·.1) ([]:List (DataW H×List MemPlace))) (rest.map (·.1)));simp only[aO,iy,aJ,h8,List.length_nil]at this⊢;omega⟩
   ·obtain⟨b,o,rfl⟩:∃b o,a=⟨b,o,none⟩:=by
     obtain⟨cs',y,_,h2,h3⟩:=key 0 (by omega);obtain⟨k,t,nn,KA,f,c,rfl,_⟩:=qX (fun m' hm'=>ih m' (by omega)) h3;obtain⟨_,_,hc⟩:=World.cells?_some h2;have hc0:=hc 0 (by omega);obtain⟨b,o,sp⟩:=a;cases sp with
     | none=>exact⟨b,o,rfl⟩
     | some q=>exfalso;simp[Addr.add]at hc0;unfold World.cell? at hc0;split at hc0<;>simp at hc0
    have main :∀j,j≤len→∃f:Fo,f.len=j∧bG (fun _=>True) w (some ⟨b,o+(len-j)*4,none⟩) f∧(iy f).length≤40*Rows.uptoBulkAll ((elems.drop (len-j)).map (·.1)):=by
     intro j
     induction j with
     | zero=>intro _;exact⟨.nil,rfl,trivial,by simp[iy]⟩
     | succ j Zu =>
      intro hj;obtain⟨r,hr1,hr2,hr3⟩:=Zu (by omega);obtain⟨cs',y,hy,h2,h3⟩:=key (len-(j+1)) (by omega);obtain⟨k,t,nn,KA,f,c,rfl,hk,ht,hn,hc,hc2,hin,hB⟩:=qX (fun m' hm'=>ih m' (by omega)) h3;obtain⟨_,_,hcell⟩:=World.cells?_some h2;have g0:=hcell 0 (by omega);have g1:=hcell 1 (by omega);have g2:=hcell 2 (by omega);have g3:=hcell 3 (by omega);rw[Addr.add_lit,Addr.add_lit]at g0 g1 g2 g3;have e4:o+(len-(j+1))*4+4=o+(len-j)*4:=by omega
      refine⟨.cons k t nn f r,by simp[Fo.len,hr1],⟨b,o+(len-(j+1))*4,KA,c,rfl,trivial,by simpa using g0,by simpa using g1,by simpa using g2,by simpa using g3,hk,ht,hn,hc,hc2,hin,by rw[e4];exact hr2⟩,?_⟩;have e5:elems.drop (len-(j+1))=y::elems.drop (len-j):=by
       obtain⟨hlt,rfl⟩:=List.getElem?_eq_some_iff.1 hy;rw[List.drop_eq_getElem_cons hlt,show len-(j+1)+1=len-j by omega]
      rw[e5,VR];simp only[List.map_cons,Rows.uptoBulkAll];omega
    obtain⟨f,h1,h2,h3⟩:=main len (aC _);simp only[Nat.sub_self,Nat.zero_mul,Nat.add_zero,List.drop_zero]at h2 h3;refine⟨some ⟨b,o,none⟩,f,cap,by rw[h1],h2,by omega,hcap,?_⟩;have:=ND (H:=H) (elems.map (·.1)) (rest.map (·.1));rw[NQ];simp only at this⊢;omega
end
end
section
open Go.RowKit
theorem Zv{D:Nat→Prop}{N:Nat}{w:World}(h:gI D N w []):
  Calls Tryz.prog 170 #[.pointer (some ⟨N,0,none⟩)] w fun e w'=>e=fQ∧w'=w:=by
 have H:=hide h;clear h;go_enter Tryz.func170,Tryz.ntmps170
 go_wp2_with(go_at_call 76;(with_reducible refine(U7 H.out).mono ?_);rintro e1 w1 ⟨rfl,rfl⟩)
 exact⟨rfl,rfl,rfl⟩
theorem xR{D:Nat→Prop}{N:Nat}{w:World}{vs:List Value}(h:dD D N w [] vs):
  Calls Tryz.prog 111 #[.pointer (some ⟨N,0,none⟩)] w fun e w'=>e=fQ∧dU N w w':=by
 have H:=hide h;clear h;go_enter Tryz.func111,Tryz.ntmps111
 go_wp2_with(go_at_call 170;(with_reducible refine(Zv H.out.wd).mono ?_);rintro e1 w1 ⟨rfl,rfl⟩)
 exact⟨rfl,rfl,Keep.refl _ _⟩
end
def partsL(c:UInt8):List UInt8→List (List UInt8)
 | []=>[[]]
 | b::r=>if b=c then[]::partsL c r else match partsL c r with
  | h::t=>(b::h)::t
  | []=>[[b]]
theorem NR(c:UInt8):∀l,partsL c l≠[]
 | []=>by simp[partsL]
 | b::r=>by
  unfold partsL;split
  ·simp
  ·split<;>simp
theorem VS{c:UInt8}:∀{l:List UInt8},c∉l→partsL c l=[l]
 | [],_=>rfl
 | b::r,h=>by
  have h1 :¬b=c:=fun e=>h (by simp[e]);have h2:c∉r:=fun e=>h (List.mem_cons_of_mem _ e);rw[partsL,if_neg h1,VS h2]
theorem NS{c:UInt8}:∀{l x:List UInt8},x∈partsL c l→x.length≤l.length∧c∉x
 | [],x,h=>by
  simp only[partsL,List.mem_singleton]at h;subst h;simp
 | b::r,x,h=>by
  unfold partsL at h;split at h
  ·rcases List.mem_cons.1 h with rfl|h
   ·simp
   ·have:=NS h;exact⟨by simp;omega,this.2⟩
  ·rename_i hb;rcases hp:partsL c r with _|⟨y,t⟩
   ·exact absurd hp (NR c r)
   ·rw[hp]at h;simp only[List.mem_cons]at h;rcases h with rfl|h
    ·have:=NS (c:=c) (l:=r) (x:=y) (by rw[hp];simp);exact⟨by simp;omega,by simp only[List.mem_cons,not_or];exact⟨fun e=>hb e.symm,this.2⟩⟩
    ·have:=NS (c:=c) (l:=r) (x:=x) (by rw[hp];simp[h]);exact⟨by simp;omega,this.2⟩
theorem NT(c b:UInt8):∀(l:List UInt8) (d:List (List UInt8)) (x:List UInt8),partsL c l=d++[x]→partsL c (l++[b])=if b=c then d++[x,[]]else d++[x++[b]]
 | [],d,x,h=>by
  simp only[partsL]at h;obtain⟨rfl,rfl⟩:d=[]∧x=[]:=by
   rcases d with _|⟨d0,d⟩
   ·simpa using h.symm
   ·simp at h
  by_cases hb:b=c<;>simp[partsL,hb]
 | a::r,d,x,h=>by
  rw[List.cons_append];by_cases ha:a=c
  ·rw[partsL,if_pos ha]at h⊢;rcases d with _|⟨d0,d⟩
   ·rw[List.nil_append,List.cons.injEq]at h;exact absurd h.2 (NR c r)
   ·rw[List.cons_append,List.cons.injEq]at h;have ih:=NT c b r d x h.2;rw[ih,←h.1];split<;>simp
  ·rw[partsL,if_neg ha]at h;rcases hp:partsL c r with _|⟨y,t⟩
   ·exact absurd hp (NR c r)
   ·rw[hp]at h;simp only at h;rcases d with _|⟨d0,d⟩
    ·simp only[List.nil_append,List.cons.injEq]at h;obtain⟨rfl,rfl⟩:=h;have ih:=NT c b r [] y (by rw[hp];rfl);rw[partsL,if_neg ha,ih];by_cases hb:b=c<;>simp[hb]
    ·rw[List.cons_append,List.cons.injEq]at h;obtain⟨rfl,rfl⟩:=h;have ih:=NT c b r (y::d) x (by rw[hp];rfl);rw[partsL,if_neg ha,ih];by_cases hb:b=c<;>simp[hb]
theorem VT(c:UInt8):∀l,Lib.splitK [c] 0 (Lib.count l [c]) l=partsL c l
 | []=>by rw[Lib.count_one];rfl
 | b::r=>by
  have ih:=VT c r;by_cases h:b=c
  ·subst h;have hi:Lib.index (b::r) [b]=0:=by simp[Lib.index]
   rw[Lib.count_cons_eq,Nat.add_comm,Lib.splitK,hi];simp[partsL,ih]
  ·have hi:Lib.index (b::r) [c]=if Lib.index r [c] == -1 then -1 else Lib.index r [c]+1:=by simp[Lib.index,Ne.symm h]
   rw[Lib.count_cons_ne _ _ _ h,partsL,if_neg h];rcases hk:Lib.count r [c]with _|k
   ·rw[hk]at ih;rw[Lib.splitK]at ih⊢;rw[←ih]
   ·rw[hk]at ih;rw[Lib.splitK]at ih⊢;rw[hi];rcases Lib.index_spec r [c]with⟨h1,_⟩|⟨i,h1,_⟩
    ·rw[h1]at ih⊢;rw[if_pos (by decide)]at ih;rw[if_pos (by decide),←ih]
    ·rw[h1]at ih⊢;have hn:((i:Int) == -1)=false:=by rw[aK];omega
     have hn1:((i:Int)+1 == -1)=false:=by rw[aK];omega
     rw[hn]at ih⊢;simp only[Bool.false_eq_true,if_false]at ih⊢;rw[hn1];simp only[Bool.false_eq_true,if_false];rw[←ih];have e1:((i:Int)+1).toNat=i+1:=by omega
     have e2:(i:Int).toNat=i:=by omega
     rw[e1,e2];simp
theorem QD(b:ByteArray):b.data.toList.length=b.size:=by rw[Array.length_toList];rfl
def wordsOf(c:UInt8)(s:ByteArray):List ByteArray:=Lib.splitB ⟨#[c]⟩ 0 (Lib.countB s ⟨#[c]⟩) s
theorem NU(c:UInt8)(s:ByteArray):(wordsOf c s).map (·.data.toList)=partsL c s.data.toList:=by
 unfold wordsOf;rw[Lib.splitB_data];exact VT c _
theorem VU(c:UInt8)(s:ByteArray):wordsOf c s≠[]:=fun h=>NR c s.data.toList (by rw[←NU,h];rfl)
theorem oV{c:UInt8}{s x:ByteArray}(h:x∈wordsOf c s):x.size≤s.size∧c∉x.data.toList:=by
 have h1:x.data.toList∈partsL c s.data.toList:=by
  rw[←NU];exact List.mem_map_of_mem h
 have:=NS h1;exact⟨by have h2:=this.1;rw[Array.length_toList,Array.length_toList]at h2;exact h2,this.2⟩
theorem NV(c:UInt8)(s:ByteArray):(wordsOf c s).length=Lib.countB s ⟨#[c]⟩+1:=Lib.splitB_all ⟨#[c]⟩ (aC 1) 0 _ s rfl
section
open Go.RowKit
theorem tZ{S:Nat→Prop}{x:Eh}{e:Ed}{w:World}(he:dm S w x e)(htab:bF w)(hsum:e.frm.size+e.to.size≤9223372036854775807):
  Calls Tryz.prog 173 #[.agg #[.int .u8 1,.slice x.pA e.path.length x.pc,.int .i64 e.at_,.int .i64 e.far,.string e.frm,.string e.to,.slice x.oA e.old.len x.oc,.slice x.nA e.new.len x.nc]] w fun e1 w'=>ah (dC {e with kind:=1}) e1∧Below w.heap.size w w':=by
 have aN:Hid (bF w):=htab;have bC:=hide he.path;have jO:=hide he.at_;have gq:=hide he.far;have jw:=he.frm;have hto:=he.to;have dH:=hide he.old;have gu:=hide he.new;have hold:=he.oc;have hnew:=he.nc;have gK:=hide (@Zj e);clear he htab;go_enter Tryz.func173,Tryz.ntmps173
 go_wp2_with(first
  | (go_at_call 216;(with_reducible refine(qR (l:=e.path) (bC.out.below (di (az _ _) _))).mono ?_);rintro e1 w1 ⟨⟨_|_,rfl,hb⟩,rfl⟩<;>(have Hp:=hide hb;clear hb))
  | (go_at_call 218;(with_reducible refine(kJ e.at_ _ jO.out).mono ?_);rintro e1 w1 ⟨⟨_|_,rfl,hb⟩,rfl⟩<;>(have Ha:=hide hb;clear hb))
  | (go_at_call 218;(with_reducible refine(kJ e.far _ gq.out).mono ?_);rintro e1 w1 ⟨⟨_|_,rfl,hb⟩,rfl⟩<;>(have Hf:=hide hb;clear hb))
  | (go_at_call 219;(with_reducible refine(kH e.frm _ jw (aN.out.below (di (az _ _) _))).mono ?_);rintro e1 w1 ⟨⟨_|_,rfl,hb⟩,hB⟩<;>(have Hn:=hide hb;have HB:=hide (aW (di (az _ _) _) hB);obtain⟨hc1,hf1,hz1⟩:=bz (N:=w.heap.size) hB (by simp);clear hb hB))
  | (go_at_call 219;(with_reducible refine(kH e.to _ hto (aN.out.below HB.out)).mono ?_);rintro e1 w2 ⟨⟨_|_,rfl,hb⟩,hB⟩<;>(have Hm:=hide hb;have HB2:=hide (aW HB.out hB);obtain⟨hc2,hf2,hz2⟩:=bz (N:=w.heap.size) hB hz1;clear hb hB))
  | (go_at_call 220;(with_reducible refine(jy (f:=e.old) (dH.out.below HB2.out) hold.1 hold.2 (aN.out.below HB2.out)).mono ?_);rintro e1 w3 ⟨⟨_|_,rfl,hb⟩,hB⟩<;>(have jd:=hide hb;have HB3:=hide (aW HB2.out hB);obtain⟨hc3,hf3,hz3⟩:=bz (N:=w.heap.size) hB hz2;clear hb hB))
  | (go_at_call 220;(with_reducible refine(jy (f:=e.old) (dH.out.below HB.out) hold.1 hold.2 (aN.out.below HB.out)).mono ?_);rintro e1 w3 ⟨⟨_|_,rfl,hb⟩,hB⟩<;>(have jd:=hide hb;have HB3:=hide (aW HB.out hB);obtain⟨hc3,hf3,hz3⟩:=bz (N:=w.heap.size) hB hz1;clear hb hB))
  | (go_at_call 220;(with_reducible refine(jy (f:=e.new) (gu.out.below HB3.out) hnew.1 hnew.2 (aN.out.below HB3.out)).mono ?_);rintro e1 w4 ⟨⟨_|_,rfl,hb⟩,hB⟩<;>(have lY:=hide hb;have HB4:=hide (aW HB3.out hB);obtain⟨hc4,hf4,kU⟩:=bz (N:=w.heap.size) hB hz3;clear hb hB)))
 go_quiet (fail)
 go_upto_region 20 with(first
  | (go_at_call 216;(with_reducible refine(qR (l:=e.path) (bC.out.below (di (az _ _) _))).mono ?_);rintro e1 w1 ⟨⟨_|_,rfl,hb⟩,rfl⟩<;>(have Hp:=hide hb;clear hb))
  | (go_at_call 218;(with_reducible refine(kJ e.at_ _ jO.out).mono ?_);rintro e1 w1 ⟨⟨_|_,rfl,hb⟩,rfl⟩<;>(have Ha:=hide hb;clear hb))
  | (go_at_call 218;(with_reducible refine(kJ e.far _ gq.out).mono ?_);rintro e1 w1 ⟨⟨_|_,rfl,hb⟩,rfl⟩<;>(have Hf:=hide hb;clear hb))
  | (go_at_call 219;(with_reducible refine(kH e.frm _ jw (aN.out.below (di (az _ _) _))).mono ?_);rintro e1 w1 ⟨⟨_|_,rfl,hb⟩,hB⟩<;>(have Hn:=hide hb;have HB:=hide (aW (di (az _ _) _) hB);obtain⟨hc1,hf1,hz1⟩:=bz (N:=w.heap.size) hB (by simp);clear hb hB))
  | (go_at_call 219;(with_reducible refine(kH e.to _ hto (aN.out.below HB.out)).mono ?_);rintro e1 w2 ⟨⟨_|_,rfl,hb⟩,hB⟩<;>(have Hm:=hide hb;have HB2:=hide (aW HB.out hB);obtain⟨hc2,hf2,hz2⟩:=bz (N:=w.heap.size) hB hz1;clear hb hB))
  | (go_at_call 220;(with_reducible refine(jy (f:=e.old) (dH.out.below HB2.out) hold.1 hold.2 (aN.out.below HB2.out)).mono ?_);rintro e1 w3 ⟨⟨_|_,rfl,hb⟩,hB⟩<;>(have jd:=hide hb;have HB3:=hide (aW HB2.out hB);obtain⟨hc3,hf3,hz3⟩:=bz (N:=w.heap.size) hB hz2;clear hb hB))
  | (go_at_call 220;(with_reducible refine(jy (f:=e.old) (dH.out.below HB.out) hold.1 hold.2 (aN.out.below HB.out)).mono ?_);rintro e1 w3 ⟨⟨_|_,rfl,hb⟩,hB⟩<;>(have jd:=hide hb;have HB3:=hide (aW HB.out hB);obtain⟨hc3,hf3,hz3⟩:=bz (N:=w.heap.size) hB hz1;clear hb hB))
  | (go_at_call 220;(with_reducible refine(jy (f:=e.new) (gu.out.below HB3.out) hnew.1 hnew.2 (aN.out.below HB3.out)).mono ?_);rintro e1 w4 ⟨⟨_|_,rfl,hb⟩,hB⟩<;>(have lY:=hide hb;have HB4:=hide (aW HB3.out hB);obtain⟨hc4,hf4,kU⟩:=bz (N:=w.heap.size) hB hz3;clear hb hB)))
 all_goals(first|go_ret|(go_quiet (fail);go_wp2;go_ret))
 all_goals go_tidy
 all_goals(try have hp:=Hp.out)
 all_goals(try have ha:=Ha.out)
 all_goals(try have hf:=Hf.out)
 all_goals(try have hn:=Hn.out)
 all_goals(try have hm:=Hm.out)
 all_goals(try have hpo:=jd.out)
 all_goals(try have hpn:=lY.out)
 all_goals refine⟨ah.mk ?_,(by first|exact Dx HB4.out _|exact HB4.out|exact HB3.out|exact HB2.out|exact HB.out|exact di (az _ _) _)⟩
 all_goals clear aN bC jO gq dH gu
 all_goals(try clear Hp)
 all_goals(try clear Ha)
 all_goals(try clear Hf)
 all_goals(try clear lY hc4 hf4 HB4 kU)
 all_goals(try clear jd hc3 hf3 HB3 hz3)
 all_goals(try clear Hm hc2 hf2 HB2 hz2)
 all_goals(try clear Hn hc1 hf1 hz1 HB)
 all_goals rw[gK.out]
 all_goals clear gK
 all_goals(try have pp:=@vg e.old)
 all_goals(try have pq:=@vg e.new)
 all_goals have n0:=FO
 all_goals(try have hfe:=pF.out)
 all_goals(try have hte:=Hte.out)
 all_goals(try have hnot:=oU.out)
 all_goals(try(exfalso;simp only[Ak,Bool.false_eq_true,reduceCtorEq]at *;done))
 all_goals(try(exfalso;simp only[D7 pF.out,Bool.true_eq_false,reduceCtorEq]at *;done))
 all_goals grind
theorem VV{f:Fo}(h:bD f):∃k t n ks,f = .cons k t n ks .nil∧dR 40 k t n ks:=by
 match f,h with
 | .cons k t n ks .nil,h=>exact⟨k,t,n,ks,rfl,h⟩
theorem Zw{S:Nat→Prop}{x:Eh}{e:Ed}{w:World}(he:dm S w x e)(htab:bF w)(hsum:e.frm.size+e.to.size≤9223372036854775807):
  Calls Tryz.prog 173 #[.agg #[.int .u8 e.kind,.slice x.pA e.path.length x.pc,.int .i64 e.at_,.int .i64 e.far,.string e.frm,.string e.to,.slice x.oA e.old.len x.oc,.slice x.nA e.new.len x.nc]] w fun e1 w'=>ah (dC e) e1∧Below w.heap.size w w':=by
 have hkk:=he.kind;obtain⟨kd,path,at_,far,frm,qY,old,new⟩:=e;simp only at hsum hkk;by_cases h1:kd=1
 ·subst h1;exact tZ he htab hsum
 by_cases h2:kd=2
 ·subst h2;by_cases hq:frm=ae∧qY=ae
  ·obtain⟨rfl,rfl⟩:=hq;exact Qv (.inl ⟨rfl,rfl⟩) he htab hsum rfl rfl
  ·exact NM (.inl ⟨rfl,rfl⟩) he htab hsum hq
 by_cases h3:kd=3
 ·subst h3;by_cases hq:frm=ae∧qY=ae
  ·obtain⟨rfl,rfl⟩:=hq;exact Qv (.inr (.inl ⟨rfl,rfl⟩)) he htab hsum rfl rfl
  ·exact NM (.inr (.inl ⟨rfl,rfl⟩)) he htab hsum hq
 by_cases h5:kd=5
 ·subst h5;by_cases hq:frm=ae∧qY=ae
  ·obtain⟨rfl,rfl⟩:=hq;exact Qv (.inr (.inr ⟨rfl,rfl⟩)) he htab hsum rfl rfl
  ·exact NM (.inr (.inr (.inl ⟨rfl,rfl⟩))) he htab hsum hq
 by_cases h4:kd=4
 ·subst h4;by_cases hq:frm=ae∧qY=ae
  ·obtain⟨rfl,rfl⟩:=hq;by_cases hp:bD old∧bD new∧at_=0∧far=0
   ·obtain⟨hp1,hp2,rfl,rfl⟩:=hp;obtain⟨k,t,n,ks,rfl,g1⟩:=VV hp1;obtain⟨k2,t2,n2,BN,rfl,g2⟩:=VV hp2;exact Zq he.path he.oc he.nc he.old he.new g1 g2 htab
   ·exact Zp he htab hsum rfl rfl hp
  ·exact NM (.inr (.inr (.inr ⟨rfl,rfl⟩))) he htab hsum hq
 by_cases hq:frm=ae∧qY=ae
 ·obtain⟨rfl,rfl⟩:=hq;exact Zr he htab hsum rfl rfl (by simp only;omega) (by simp only;omega) (by simp only;omega) (by simp only;omega) (by simp only;omega)
 ·exact Zt he htab hsum hq (by simp only;omega) (by simp only;omega) (by simp only;omega) (by simp only;omega) (by simp only;omega)
end
section
open Go.RowKit
section
variable {E : TypeId} {mk : Nat → Nat → Value} {B K : Nat} {vs : Nat → Value} {ns m m' : Nat → Nat} {T : Nat → Option Nat} {w w' : World}
end
end
section
open Go.RowKit
section
variable {mk : Nat → Nat → Value} {E E2 : TypeId} {w wr w' : World} {LB GB K B : Nat} {vs : Nat → Value} {ns p : Nat → Nat} {T0 T : Nat → Option Nat} {xs : List Value} {J : Nat → Prop}
end
end
section
open Go.RowKit
theorem Zx(a b:Int)(w:World)(ha:0≤a∧a≤1099511627776)(hb:0≤b∧b≤2199023255552):Calls Tryz.prog 144 #[.int .i64 a,.int .i64 b] w fun e w'=>e = .returned (.int .i64 (1000003*(a+7)+b))∧w=w':=by
 obtain⟨ha0,ha1⟩:=ha;obtain⟨hb0,hb1⟩:=hb;go_enter Tryz.func144,Tryz.ntmps144
 go_wp2_with fail
 go_ret;exact⟨rfl,rfl⟩
def Am(a b:Int):Int:=IntKind.u64.wrap ((1000003*(a+7)+b)*11400714819323198485) / 72057594037927936 % 256
theorem Zy(a b:Int)(w:World)(ha:0≤a∧a≤1099511627776)(hb:0≤b∧b≤2199023255552):Calls Tryz.prog 104 #[.int .i64 a,.int .i64 b] w fun e w'=>e = .returned (.int .u8 (Am a b))∧w=w':=by
 go_enter Tryz.func104,Tryz.ntmps104
 go_wp2_with(go_at_call 144;refine(Zx a b w ha hb).mono ?_;rintro e w1 ⟨rfl,rfl⟩)
 go_ret;exact⟨rfl,rfl⟩
end
end Go.Proofs.YtjjaojnglnpgaaaGreatDoor
