/- Part 11 of what scriptShows_cardUpto rests on. -/
import Derived.BigQuiet
import Derived.Deep.RegionWith
import Derived.Deep.CutRange
import Derived.Deep.DeepCutAuto
import Derived.Test.YtjjaojnglnpgaaaGreatDoorZ09
import Derived.Test.YtjjaojnglnpgaaaGreatDoorZ03
import Derived.Test.YtjjaojnglnpgaaaGreatDoorZ01
import Derived.Test.YtjjaojnglnpgaaaGreatDoorZ06
import Derived.Test.YtjjaojnglnpgaaaGreatDoorZ08
import Derived.Test.YtjjaojnglnpgaaaGreatDoorZ00
set_option linter.unusedVariables false
set_option linter.unusedSimpArgs false
set_option maxHeartbeats 16000000
set_option maxRecDepth 1000000
namespace Go.Proofs.YtjjaojnglnpgaaaGreatDoor
section
open Go.RowKit
theorem gI.below{D:Nat→Prop}{N:Nat}{w w':World}{l:List ByteArray}(h:gI D N w l)(hb:Below w.heap.size w w'):gI D N w' l:=by
 obtain⟨A,c,h1,h2,h3⟩:=h.at_;have hN:=block_lt_of_cell h1;exact⟨⟨A,c,(hb.cell (p:=⟨N,0,none⟩) hN).trans h1,h2.below hb,h3⟩,(hb.frozen (p:=⟨N,0,none⟩) hN).trans h.free,h.off⟩
theorem YT{D:Nat→Prop}{N:Nat}{w:World}{s:ByteArray}{r:List ByteArray}(h:gI D N w (s::r))(hs:s=⟨#[45]⟩):
  Calls Tryz.prog 170 #[.pointer (some ⟨N,0,none⟩)] w fun e w'=>e = .returned (.slice none 0 0)∧gI D N w' r∧∃v,w'=w.setCell ⟨N,0,none⟩ v:=by
 subst hs;have H:=hide h;clear h;go_enter Tryz.func170,Tryz.ntmps170
 go_wp2_with(go_at_call 76;(with_reducible refine(DU H.out).mono ?_);rintro e1 w1 ⟨rfl,h1,hv⟩;have H1:=hide h1;have Hv:=hide hv;clear h1 hv)
 go_ret;exact⟨rfl,H1.out,Hv.out⟩
theorem Qh:(Tryz.prog.info? 5).map (fun i=>(i.zero,i.size,i.bytes))=some (some (.int .u8 0),1,1):=by kernel_rfl
theorem Ve :∀x,x<16→∀y,y<16→bits BinOp.or IntKind.i64 (((x:Nat):Int)*16) ((y:Nat):Int)=((16*x+y:Nat):Int):=by decide
theorem Qi :∀{b:List UInt8} {q:Nat} (h:q<b.length),(hexT b)[2*q]?=some (hexD (b[q].toNat / 16))∧(hexT b)[2*q+1]?=some (hexD (b[q].toNat % 16))
 | c::b,0,_=>by simp[hexT]
 | c::b,q+1,h=>by
  have:=Qi (b:=b) (q:=q) (by simpa using h);simp only[hexT,List.flatMap_cons,List.cons_append,List.nil_append,show 2*(q+1)=2*q+1+1 by omega,List.getElem?_cons_succ,aF]at this⊢;exact this
theorem wX{s:ByteArray}{b:List UInt8}{q k:Nat}(hs:s.data.toList=hexT b)(h:q<b.length)(hk:k<s.size)(e:k=2*q):s[k]=hexD (b[q].toNat / 16):=by
 have h1:=(Qi h).1;rw[←hs,←e,Array.getElem?_toList]at h1;exact(Array.getElem?_eq_some_iff.1 h1).2
theorem wY{s:ByteArray}{b:List UInt8}{q k:Nat}(hs:s.data.toList=hexT b)(h:q<b.length)(hk:k<s.size)(e:k=2*q+1):s[k]=hexD (b[q].toNat % 16):=by
 have h1:=(Qi h).2;rw[←hs,←e,Array.getElem?_toList]at h1;exact(Array.getElem?_eq_some_iff.1 h1).2
theorem YU{D:Nat→Prop}{N:Nat}{w:World}{s:ByteArray}{r:List ByteArray}{b:List UInt8}(h:gI D N w (s::r))(hs:s.data.toList=hexT b)(hb:b≠[])(hl:b.length≤1099511627776):
  Calls Tryz.prog 170 #[.pointer (some ⟨N,0,none⟩)] w fun e w'=>∃v,e = .returned v∧w'.ownsRow w.heap.size 5 1 v b.length (Lib.byteCells b)∧gI D N w' r∧∃u,Below w.heap.size (w.setCell ⟨N,0,none⟩ u) w':=by
 have H:=hide h;have hsz:s.size=2*b.length:=by
  have:=congrArg List.length hs;rw[zZ]at this
  simpa using this
 have hb0:0<b.length:=List.length_pos_iff.2 hb;have hne:s.toList.isEmpty=false:=by rw[Bool.eq_false_iff,ne_eq,List.isEmpty_iff,mg];omega
 have h45:(s.toList == [45])=false:=by
  rw[aK];intro e;have e2:s=⟨#[45]⟩:=dZ.1 (by rw[e];decide +kernel);rw[e2]at hsz;have:(⟨#[45]⟩:ByteArray).size=1:=rfl;omega
 have JH:((s.size:Int).tmod 2 == 0)=true:=by rw[hsz,beq_iff_eq];push_cast;rw[Int.tmod_eq_emod_of_nonneg (by omega)];omega
 clear h;go_enter Tryz.func170,Tryz.ntmps170
 go_wp2_with(first
  | (go_at_call 76;(with_reducible refine(DU H.out).mono ?_);rintro e1 w1 ⟨rfl,h1,u,hu⟩;have H1:=hide h1;have HU:=hide hu;clear h1 hu)
  | (go_at_call 78;(with_reducible refine(Ff (by first|rfl|(simp;omega)|simp_all) _).mono ?_);rintro e2 w2 ⟨rfl,rfl⟩))
 have hs1:w2.heap.size=w.heap.size:=by rw[HU.out];simp
 have DW:=hide hs1;have nJ:=hide hsz;clear hs1 hsz
 go_loopg [5,4] b.length (fun g i v wr=>∃q k:Nat,q≤b.length∧g=b.length-q∧Hid (k=2*q)∧i = .int .i64 (k:Int)∧Hid (wr.ownsRow w.heap.size 5 1 v q (Lib.byteCells (b.take q)))∧Hid (Below w2.heap.size w2 wr))
 case atStart=>exact⟨0,0,by omega,by omega,hide rfl,rfl,hide (World.ownsRow_nil _ _ _ _),hide (Below.refl _ _)⟩
 case round =>
  obtain⟨q,k,hq,hg,Hk,rfl,HO,HB⟩:=hrel;by_cases hlt:q<b.length
  ·have hk1:k+1<s.size:=by have:=Hk.out;have:=nJ.out;omega
   have hk0:k<s.size:=by omega
   have hki:(k:Int)<(s.size:Int):=by omega
   have hk9:(k:Int)+1≤9223372036854775807:=by have:=Hk.out;omega
   have YV:k+1≤9223372036854775807:=by omega
   obtain⟨m,hm⟩:∃m,m=k+1:=⟨_,rfl⟩;have hwk:IntKind.i64.wrap ((k:Int)+1)=(m:Int):=by rw[IntKind.wrap_i64];omega
   have JI:(m:Int)<(s.size:Int):=by omega
   have Fq:m<s.size:=by omega
   have Hm:=hide hm;clear hm;have HX :∀(c:UInt8) (W:World),Calls Tryz.prog 213 #[.string ⟨#[48,49,50,51,52,53,54,55,56,57,97,98,99,100,101,102]⟩,.int .u8 (c.toNat:Int)] W fun e w'=>e = .returned (.int .i64 (if dn c<16 then(dn c:Int)else -1))∧w'=W:=fun c W=>by
    have h:=Tryz.strings_IndexByte signs (c.toNat:Int) W;rw[show((c.toNat:Int).toNat.toUInt8)=c by simp,Ut]at h;exact h
   go_wp2_with fail
   go_quiet ((go_at_call 213;(with_reducible refine(HX _ _).mono ?_);rintro e2 w2 ⟨rfl,rfl⟩;exact⟨rfl,_,rfl⟩))
   have hx4:=(b[q]).toNat_lt;have hdk:dn s[k]=b[q].toNat / 16:=by
    rw[wX hs hlt hk0 Hk.out];exact MZ _ (by omega)
   have hdm:dn s[m]=b[q].toNat % 16:=by
    rw[wY hs hlt Fq (by rw[Hm.out,Hk.out])];exact MZ _ (by omega)
   rw[hdk,hdm,if_pos (by omega),if_pos (by omega)];clear hdk hdm HX;obtain⟨X,hX⟩:∃X,X=b[q].toNat / 16:=⟨_,rfl⟩;obtain⟨Y,hY⟩:∃Y,Y=b[q].toNat % 16:=⟨_,rfl⟩;rw[←hX,←hY];have nV:X<16:=by omega
   have nX:Y<16:=by omega
   have hX0:(0:Int)≤(X:Int):=by omega
   have hY0:(0:Int)≤(Y:Int):=by omega
   obtain⟨z,hz⟩:∃z,z=b[q].toNat:=⟨_,rfl⟩;have hor:bits BinOp.or IntKind.i64 ((X:Int)*16) (Y:Int)=(z:Int):=by
    rw[Ve X nV Y nX];omega
   have DX:(z:Int) % 256=(z:Int):=by omega
   have Hz:=hide hz;clear hX hY hx4 hz;have hbl:(Lib.byteCells (b.take q)).length=q*1:=by simp[Lib.byteCells];omega
   have iI:Hid ((wr.drewN nq).ownsRow w.heap.size 5 1 u4 q (Lib.byteCells (b.take q))):=HO;have HB1:Hid (Below w2.heap.size w2 (wr.drewN nq)):=hide (di HB.out _);generalize wr.drewN nq=wq at iI HB1⊢;obtain⟨Av,cv,rfl⟩:=jD iI.out
   go_wp2_with(first
    | (go_at_call 78;(with_reducible refine(Ff rfl _).mono ?_);rintro e3 w3 ⟨rfl,rfl⟩)
    | (at_builtin;refine Aa rfl _ _ 44 rfl w.heap.size 5 Tryz.underlying44 Qh rfl (by decide) _ q (Lib.byteCells (b.take q)) rfl (iI.out.alloc _) (some ⟨w3.heap.size,0,none⟩) 1 1 [.int .u8 (z:Int)] rfl (by simp) rfl (fun ad e=>by injection e with e;subst e;intro j u hu;rw[Addr.add_lit,Nat.zero_add,Lib.cell_of_heap (heap_alloc_new w3 _)];simpa using hu) (by intro u hu;simp at hu;subst hu;rfl) (by unfold maxLen;omega) (by omega) (by have:=HB1.out.size;have:=DW.out;simp;omega) ?_))
   intro v1 w4 h4 hg4 hw4;have HB4:Hid (Below w2.heap.size w2 w4):=hide ((HB1.out.alloc HB1.out.size _).grown hg4 (by have:=HB1.out.size;simp;omega) fun j hj=>by have:=(iI.out.lt j hj).1;have:=DW.out;omega);have H4:=hide h4;clear h4 hg4 hw4
   go_wp2_with fail
   go_roundg (b.length-(q+1))
   case measure=>omega
   case rel =>
    refine⟨q+1,k+2,by omega,rfl,hide (by have:=Hk.out;omega),by rw[show wrap64 ((k:Int)+2)=(k:Int)+2 by have:=Hk.out;unfold wrap64;omega];simp,hide ?_,HB4⟩;have h:=H4.out;rw[List.take_succ_eq_append_getElem hlt];have e1:Lib.byteCells (b.take q++[b[q]])=Lib.byteCells (b.take q)++[.int .u8 (z:Int)]:=by rw[Hz.out];unfold Lib.byteCells;rw[List.map_append];rfl
    rw[e1];exact h
  ·have hki :¬(k:Int)<(s.size:Int):=by have:=Hk.out;have:=nJ.out;omega
   have YW :¬k<s.size:=by omega
   have Bi:q=b.length:=by omega
   subst Bi
   go_wp2_with fail
   go_ret;exact⟨_,rfl,by have:=HO.out;rwa [List.take_length]at this,H1.out.below HB.out,u,by rw[←HU.out,←DW.out];exact HB.out⟩
theorem xg{n:Nat}(h:n % 2=0):((n:Int).tmod 2 == 0)=true:=by rw[beq_iff_eq,Int.tmod_eq_emod_of_nonneg (by omega)];omega
theorem BB{n:Nat}(h :¬n % 2=0):((n:Int).tmod 2 == 0)=false:=by rw[aK,ne_eq,Int.tmod_eq_emod_of_nonneg (by omega)];omega
theorem YX{s:ByteArray}{k:Nat}(h:unhexT (s.data.toList.drop k)=none)(h0:k<s.size)(h1:k+1<s.size):¬(dn s[k]<16∧dn (s[k+1])<16)∨unhexT (s.data.toList.drop (k+2))=none:=by
 have e0:s.data.toList.drop k=s[k]::s[k+1]::s.data.toList.drop (k+2):=by
  have l0:k<s.data.toList.length:=by simpa using h0
  have l1:k+1<s.data.toList.length:=by simpa using h1
  rw[List.drop_eq_getElem_cons l0,List.drop_eq_getElem_cons l1];rfl
 rw[e0,unhexT]at h;split at h
 ·exact .inr (by simpa using h)
 ·rename_i hd;exact .inl hd
theorem YY{D:Nat→Prop}{N:Nat}{w:World}{s:ByteArray}{r:List ByteArray}(h:gI D N w (s::r))(hs:s.size=0):
  Calls Tryz.prog 170 #[.pointer (some ⟨N,0,none⟩)] w fun e w'=>e=fQ∧∃u,w'=w.setCell ⟨N,0,none⟩ u:=by
 have hse:s=⟨#[]⟩:=by
  apply ByteArray.ext;exact Array.eq_empty_of_size_eq_zero hs
 subst hse;have H:=hide h;clear h hs;go_enter Tryz.func170,Tryz.ntmps170
 go_wp2_with(first
  | (go_at_call 76;(with_reducible refine(DU H.out).mono ?_);rintro e1 w1 ⟨rfl,h1,u,hu⟩;have HU:=hide hu;clear h1 hu)
  | (go_at_call 78;(with_reducible refine(Fg rfl _).mono ?_);rintro e2 w2 ⟨rfl,rfl⟩))
 exact⟨rfl,rfl,_,HU.out⟩
theorem YZ{D:Nat→Prop}{N:Nat}{w:World}{s:ByteArray}{r:List ByteArray}(h:gI D N w (s::r))(h45:(s.toList == [45])=false)(h0:0<s.size)(hs :¬s.size % 2=0):
  Calls Tryz.prog 170 #[.pointer (some ⟨N,0,none⟩)] w fun e w'=>e=fQ∧∃u,w'=w.setCell ⟨N,0,none⟩ u:=by
 have hne:s.toList.isEmpty=false:=by rw[Bool.eq_false_iff,ne_eq,List.isEmpty_iff,mg];omega
 have JH:=BB hs;have Hs:=hide hs;have H:=hide h;clear h hs;go_enter Tryz.func170,Tryz.ntmps170
 go_wp2_with(first
  | (go_at_call 76;(with_reducible refine(DU H.out).mono ?_);rintro e1 w1 ⟨rfl,h1,u,hu⟩;have HU:=hide hu;clear h1 hu)
  | (go_at_call 78;(with_reducible refine(Fg (by have:=Hs.out;first|rfl|(simp;omega)|simp_all) _).mono ?_);rintro e2 w2 ⟨rfl,rfl⟩))
 exact⟨rfl,rfl,_,HU.out⟩
theorem tq{D:Nat→Prop}{N:Nat}{w:World}{s:ByteArray}{r:List ByteArray}(h:gI D N w (s::r))(h45:(s.toList == [45])=false)(hs0:0<s.size)(hev:s.size % 2=0)(hun:unhexT s.data.toList=none)(hl:s.size≤1099511627776):
  Calls Tryz.prog 170 #[.pointer (some ⟨N,0,none⟩)] w fun e w'=>e=fQ∧∃u,Below w.heap.size (w.setCell ⟨N,0,none⟩ u) w':=by
 have H:=hide h;have hne:s.toList.isEmpty=false:=by rw[Bool.eq_false_iff,ne_eq,List.isEmpty_iff,mg];omega
 have JH:=xg hev;have Ir:=hide hev;have DY:=hide hun;clear h hev hun;go_enter Tryz.func170,Tryz.ntmps170
 go_wp2_with(first
  | (go_at_call 76;(with_reducible refine(DU H.out).mono ?_);rintro e1 w1 ⟨rfl,h1,u,hu⟩;have H1:=hide h1;have HU:=hide hu;clear h1 hu)
  | (go_at_call 78;(with_reducible refine(Ff (by have:=Ir.out;first|rfl|(simp;omega)|simp_all) _).mono ?_);rintro e2 w2 ⟨rfl,rfl⟩))
 have hs1:w2.heap.size=w.heap.size:=by rw[HU.out];simp
 have DW:=hide hs1;clear hs1
 go_loopg [5,4] s.size (fun g i v wr=>∃q k:Nat,k≤s.size∧g=s.size-k∧Hid (k=2*q)∧i = .int .i64 (k:Int)∧Hid (∃l:List UInt8,l.length=q∧wr.ownsRow w.heap.size 5 1 v q (Lib.byteCells l))∧Hid (unhexT (s.data.toList.drop k)=none)∧Hid (Below w2.heap.size w2 wr))
 case atStart=>exact⟨0,0,by omega,by omega,hide rfl,rfl,hide ⟨[],rfl,World.ownsRow_nil _ _ _ _⟩,hide DY.out,hide (Below.refl _ _)⟩
 case round =>
  obtain⟨q,k,hq,hg,Hk,rfl,HO,HN,HB⟩:=hrel;by_cases hlt:k<s.size
  ·have hk1:k+1<s.size:=by have:=Hk.out;have:=Ir.out;omega
   have hst:=YX HN.out hlt hk1;obtain⟨m,hm⟩:∃m,m=k+1:=⟨_,rfl⟩;have hki:(k:Int)<(s.size:Int):=by omega
   have hwk:IntKind.i64.wrap ((k:Int)+1)=(m:Int):=by rw[IntKind.wrap_i64];omega
   have JI:(m:Int)<(s.size:Int):=by omega
   have Fq:m<s.size:=by omega
   have hst2 :¬(dn s[k]<16∧dn s[m]<16)∨unhexT (s.data.toList.drop (k+2))=none:=by subst hm;exact hst
   have BC:=hide hst2;clear hm hst hst2 hk1;have HX :∀(c:UInt8) (W:World),Calls Tryz.prog 213 #[.string ⟨#[48,49,50,51,52,53,54,55,56,57,97,98,99,100,101,102]⟩,.int .u8 (c.toNat:Int)] W fun e w'=>e = .returned (.int .i64 (if dn c<16 then(dn c:Int)else -1))∧w'=W:=fun c W=>by
    have h:=Tryz.strings_IndexByte signs (c.toNat:Int) W;rw[show((c.toNat:Int).toNat.toUInt8)=c by simp,Ut]at h;exact h
   go_wp2_with fail
   go_quiet ((go_at_call 213;(with_reducible refine(HX _ _).mono ?_);rintro e2 w2 ⟨rfl,rfl⟩;exact⟨rfl,_,rfl⟩))
   clear HX;have iI:Hid (∃l:List UInt8,l.length=q∧(wr.drewN nq).ownsRow w.heap.size 5 1 u4 q (Lib.byteCells l)):=HO;have HB1:Hid (Below w2.heap.size w2 (wr.drewN nq)):=hide (di HB.out _);generalize wr.drewN nq=wq at iI HB1⊢;obtain⟨l,hll,Ag⟩:=iI.out;obtain⟨Av,cv,rfl⟩:=jD Ag;have kC:=hide Ag;clear iI Ag;generalize hX:dn s[k]=X at BC⊢;generalize hY:dn s[m]=Y at BC⊢;clear hX hY;by_cases nV:X<16
   ·by_cases nX:Y<16
    ·have hnx:unhexT (s.data.toList.drop (k+2))=none:=(BC.out).resolve_left (fun h=>h ⟨nV,nX⟩);have Y4:=hide hnx;rw[if_pos nV,if_pos nX];have hX0:(0:Int)≤(X:Int):=by omega
     have hY0:(0:Int)≤(Y:Int):=by omega
     obtain⟨z,hz⟩:∃z,z=16*X+Y:=⟨_,rfl⟩;have hor:bits BinOp.or IntKind.i64 ((X:Int)*16) (Y:Int)=(z:Int):=by
      rw[Ve X nV Y nX,hz]
     have DX:(z:Int) % 256=(z:Int):=by omega
     have hzu:(z:Int)=((UInt8.ofNat z).toNat:Int):=by rw[UInt8.toNat_ofNat'];omega
     have Qj:=hide hzu;clear hz hzu hnx;have hbl:(Lib.byteCells l).length=q*1:=by simp[Lib.byteCells];omega
     have hq2:q≤1099511627776:=by have:=Hk.out;omega
     go_wp2_with(first
      | (go_at_call 78;(with_reducible refine(Ff rfl _).mono ?_);rintro e3 w3 ⟨rfl,rfl⟩)
      | (at_builtin;refine Aa rfl _ _ 44 rfl w.heap.size 5 Tryz.underlying44 Qh rfl (by decide) _ q (Lib.byteCells l) rfl (kC.out.alloc _) (some ⟨w3.heap.size,0,none⟩) 1 1 [.int .u8 (z:Int)] rfl (by simp) rfl (fun ad e=>by injection e with e;subst e;intro j u hu;rw[Addr.add_lit,Nat.zero_add,Lib.cell_of_heap (heap_alloc_new w3 _)];simpa using hu) (by intro u hu;simp at hu;subst hu;rfl) (by unfold maxLen;omega) (by omega) (by have:=HB1.out.size;have:=DW.out;simp;omega) ?_))
     intro v1 w4 h4 hg4 hw4;have HB4:Hid (Below w2.heap.size w2 w4):=hide ((HB1.out.alloc HB1.out.size _).grown hg4 (by have:=HB1.out.size;simp;omega) fun j hj=>by have:=(kC.out.lt j hj).1;have:=DW.out;omega);have H4:=hide h4;clear h4 hg4 hw4
     go_wp2_with fail
     go_roundg (s.size-(k+2))
     case measure=>omega
     case rel =>
      refine⟨q+1,k+2,by have:=Hk.out;have:=Ir.out;omega,rfl,hide (by have:=Hk.out;omega),by simp,hide ⟨l++[UInt8.ofNat z],by simp;omega,?_⟩,Y4,HB4⟩;have h:=H4.out;have e1:Lib.byteCells (l++[UInt8.ofNat z])=Lib.byteCells l++[.int .u8 (z:Int)]:=by rw[Qj.out];unfold Lib.byteCells;rw[List.map_append];rfl
      rw[e1];exact h
    ·rw[if_neg nX]
     go_wp2_with(go_at_call 78;(with_reducible refine(Fg (by simp) _).mono ?_);rintro e3 w3 ⟨rfl,rfl⟩)
     exact⟨rfl,rfl,u,by rw[←HU.out,←DW.out];exact HB1.out⟩
   ·rw[if_neg nV]
    go_wp2_with(go_at_call 78;(with_reducible refine(Fg (by simp) _).mono ?_);rintro e3 w3 ⟨rfl,rfl⟩)
    all_goals exact⟨rfl,rfl,u,by rw[←HU.out,←DW.out];exact HB1.out⟩
  ·have hks:k=s.size:=by omega
   have hx:=HN.out;rw[hks,List.drop_eq_nil_of_le (by simp)]at hx;cases hx
end
section
open Go.RowKit
section
variable {D : Nat → Prop} {rb d : Nat} {w : World} {l l' : List UInt8} {n : Int}
theorem Y5(w:World)(A:Option Addr)(c:Nat)(l:List UInt8)(hb:BytesIn (Off rb) w A l):
  (convert 44 9 (.slice A l.length c)).run Tryz.prog w = .ok (.string ⟨l.toArray⟩) w:=by
 rcases hb.1 with h|⟨b,o,rfl,_,hc⟩
 ·have:l=[]:=by simpa[bytesV]using h
  subst this;show(convert 44 9 (.slice A 0 c)).run Tryz.prog w=_;rw[run_convert_bytes_string w 44 9 5 A 0 c Tryz.underlying44 Tryz.underlying5 Tryz.underlying9];cases A<;>simp[Conv.bytesToString,loadCells,loadCellsFrom]
  all_goals rfl
 ·refine run_convert_bytes_back w _ _ _ ⟨b,o,none⟩ c l Tryz.underlying44 Tryz.underlying5 Tryz.underlying9 (fun j hj=>?_);rw[Addr.add_lit];exact hc j _ (by simp[bytesV,hj])
end
def jE(l:List UInt8):Prop:=∃(s:ByteArray) (l':List UInt8),s.size≤aP∧l=ax s++l'
end
section
open Go.RowKit
theorem Qk{rb e size n:Nat}{w w':World}{v:Value}{xs:List Value}(h:w.ownsRow 0 e size v n xs)(hne :∀g,v.ownBlock=some g→g≠rb)(hs:Side rb w w'):w'.ownsRow 0 e size v n xs:=by
 refine⟨h.1,?_⟩;rcases h.2 with hn|⟨g,cap,cur,rfl,hb,hgg,rest⟩
 ·exact .inl hn
 ·refine .inr ⟨g,cap,cur,rfl,hb,?_,rest⟩;rw[hs.block g ⟨(Array.getElem?_eq_some_iff.1 hgg).1,hne g rfl⟩];exact hgg
def lQ{α:Type}(enc:α→List UInt8)(fit:α→Prop)(l:List UInt8):Prop:=∃(m:List α) (l':List UInt8),(∀a∈m,fit a)∧m.length≤aP∧l=rowB enc m++l'
theorem Vf{α:Type}{enc:α→List UInt8}{fit:α→Prop}{l:List UInt8}(h:l.length<8):¬lQ enc fit l:=by
 rintro⟨m,l',_,_,rfl⟩;unfold rowB at h;rw[aJ,aJ,jm]at h;omega
theorem Vg{α:Type}{enc:α→List UInt8}{fit:α→Prop}(h8 :∀a,8≤(enc a).length){n:Int}{l1:List UInt8}(hn:aX n)(h :¬(0≤n∧n≤(l1.length:Int) / 8)):¬lQ enc fit (au n++l1):=by
 rintro⟨m,l',hf,hm,he⟩;unfold rowB at he;rw[List.append_assoc]at he;obtain⟨e1,e2⟩:=kX hn (nI hm) he;have:=rW h8 m;rw[e2,aJ]at h;refine h ⟨by omega,?_⟩;omega
theorem Vh{α:Type}{enc:α→List UInt8}{fit:α→Prop}(hs :∀a b x y,fit a→fit b→enc a++x=enc b++y→a=b∧x=y){n:Int}{xs:List α}{l1 lq:List UInt8}(hn:aX n)(hx :∀a∈xs,fit a)
  (he:l1=(xs.map enc).flatten++lq) (hlt:(xs.length:Int)<n) (hno :¬∃a l',fit a∧lq=enc a++l'):¬lQ enc fit (au n++l1):=by
 rintro⟨m,l',hf,hm,h⟩;unfold rowB at h;rw[List.append_assoc]at h;obtain⟨e1,e2⟩:=kX hn (nI hm) h;rw[he]at e2;have hle:xs.length<m.length:=by omega
 obtain⟨_,e4⟩:=XX hs hx hf (by omega) e2;rw[List.drop_eq_getElem_cons hle]at e4;rw[List.map_cons,List.flatten_cons,List.append_assoc]at e4;exact hno ⟨m[xs.length],_,hf _ (List.getElem_mem hle),e4⟩
theorem tu{l:List UInt8}(h:l.length<8):¬∃(n:Int) (l':List UInt8),aX n∧l=au n++l':=by
 rintro⟨n,l',_,rfl⟩;rw[aJ,jm]at h;omega
def kz(d:Nat)(l:List UInt8):Prop:=∃(k:Nat) (t:ByteArray) (n:Int) (ks:Fo) (l':List UInt8),AQ k t n ks∧ks.high+1+d≤40∧l=eX k t n ks++l'
def iF(d:Nat)(l:List UInt8):Prop:=∃(f:Fo) (l':List UInt8),iJ f∧f.high+d≤40∧l=aO f++l'
theorem Y6{d:Nat}{l:List UInt8}(h:l.length<8):¬iF d l:=by
 rintro⟨f,l',_,_,rfl⟩;unfold aO at h;rw[aJ,aJ,jm]at h;omega
theorem Y7{d:Nat}{n:Int}{f:Fo}{l1 lq:List UInt8}(hn:aX n)(hf:f.fit)(he:l1=iy f++lq)(hlt:(f.len:Int)<n)(hno :¬kz d lq):¬iF d (au n++l1):=by
 rintro⟨g,l',hg,hh,h⟩;unfold aO at h;rw[List.append_assoc]at h;obtain⟨e1,e2⟩:=kX hn (nI hg.2) h;rw[he]at e2;have hle:f.len<g.len:=by omega
 obtain⟨_,e4⟩:=XW hf hg.1 (by omega) e2;have hfit:=(Fo.fit_take f.len hg.1).2;have hhigh:=congrArg Fo.high (Fo.take_drop f.len g);rw[Fo.high_app]at hhigh;have hlen:=Fo.len_drop g f.len
 match hd:g.drop f.len with
 | .nil=>rw[hd]at hlen;simp[Fo.len]at hlen;omega
 | .cons k t m ks r =>
  rw[hd]at hfit e4 hhigh;obtain⟨a1,a2,a3,a4,a5,_⟩:=hfit;rw[EO,List.append_assoc]at e4;simp only[Fo.high]at hhigh;exact hno ⟨k,t,m,ks,_,⟨a1,a2,a3,a5,a4⟩,by omega,e4⟩
theorem xk{B e n:Nat}{w:World}{v:Value}{vs:List Value}{f:Fo}(h:w.ownsRow 0 e 4 v n vs)(hB :∀g,v.ownBlock=some g→B≤g)(hf:dI (fun b=>B≤b∧v.ownBlock≠some b) w vs f)(hn:n=f.len):
  ∃A c,v = .slice A f.len c∧bG (fun b=>B≤b) w A f∧f.len≤c∧c≤9223372036854775807:=by
 subst hn;rcases h.2 with⟨rfl,h0⟩|⟨g,cap,cur,rfl,hb,hgg,hn,hc,_⟩
 ·have:f = .nil:=by cases f with
   | nil=>rfl
   | cons=>simp[Fo.len]at h0
  subst this;exact⟨none,0,rfl,trivial,aC _,by omega⟩
 ·refine⟨_,_,rfl,hf.at_ (fun b hS=>hS.1) (hB g rfl) (fun j u hu=>?_),hn,by unfold maxLen at hc;omega⟩;have:=h.cells (g:=g) rfl j u hu
  rwa [Addr.add_lit]at this
theorem Y8(w:World)(a b c d:Value)(t:TypeId):∀j u,[a,b,c,d][j]?=some u→(w.alloc (.cells #[a,b,c,d] t)).cell? ((⟨w.heap.size,0,none⟩:Addr).add j)=some u:=by
 intro j u hu;rw[Addr.add_lit,Nat.zero_add,World.cell?_alloc_new]
 simpa using hu
theorem Y9{d:Nat}{l:List UInt8}(h:l=[]∨40≤d):¬kz d l:=by
 rintro⟨k,t,n,ks,l',_,hh,rfl⟩;rcases h with h|h
 ·simp[eX]at h
 ·omega
theorem xm{d:Nat}{x:UInt8}{l1:List UInt8}(h :¬jE l1):¬kz d (x::l1):=by
 rintro⟨k,t,n,ks,l',hf,_,he⟩;simp only[eX,List.cons_append,List.append_assoc,List.cons.injEq]at he;exact h ⟨t,_,hf.2.1,he.2⟩
theorem xn{d:Nat}{x:UInt8}{s:ByteArray}{l2:List UInt8}(hs:s.size≤aP)(h:l2.length<8):¬kz d (x::(ax s++l2)):=by
 rintro⟨k,t,n,ks,l',hf,_,he⟩;simp only[eX,List.cons_append,List.append_assoc,List.cons.injEq]at he;obtain⟨_,e2⟩:=pR hs hf.2.1 he.2;rw[e2,aJ,jm]at h;omega
theorem xq{d:Nat}{x:UInt8}{s:ByteArray}{n:Int}{l3:List UInt8}(hs:s.size≤aP)(hn:aX n)(h :¬iF (d+1) l3):¬kz d (x::(ax s++(au n++l3))):=by
 rintro⟨k,t,m,ks,l',hf,hh,he⟩;simp only[eX,List.cons_append,List.append_assoc,List.cons.injEq]at he;obtain⟨_,e2⟩:=pR hs hf.2.1 he.2;obtain⟨_,e3⟩:=kX hn hf.2.2.1 e2;exact h ⟨ks,l',hf.2.2.2,by omega,e3⟩
end
end Go.Proofs.YtjjaojnglnpgaaaGreatDoor
