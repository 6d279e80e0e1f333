/- Part 12 of what scriptParses_card rests on. -/
import Derived.Deep.RegionWith
import Derived.Lib.SplitLaws
import Derived.Test.YtjjaojnglnpgaaaGreatDoorZ10
import Derived.Test.YtjjaojnglnpgaaaGreatDoorZ05
import Derived.Test.YtjjaojnglnpgaaaGreatDoorZ09
import Derived.Test.YtjjaojnglnpgaaaGreatDoorZ03
import Derived.Test.YtjjaojnglnpgaaaGreatDoorZ00
set_option linter.unusedVariables false
set_option linter.unusedSimpArgs false
set_option maxHeartbeats 16000000
set_option maxRecDepth 1000000
namespace Go.Proofs.YtjjaojnglnpgaaaGreatDoor
section
open Go.RowKit
theorem qy{n:Nat}(h:n % 2=0):((n:Int).tmod 2 == 0)=true:=by rw[beq_iff_eq,Int.tmod_eq_emod_of_nonneg (by omega)];omega
theorem vM{n:Nat}(h :¬n % 2=0):((n:Int).tmod 2 == 0)=false:=by rw[aK,ne_eq,Int.tmod_eq_emod_of_nonneg (by omega)];omega
theorem Wj{s:ByteArray}{k:Nat}(h:unhexT (s.data.toList.drop k)=none)(h0:k<s.size)(h1:k+1<s.size):¬(digV s[k]<16∧digV (s[k+1])<16)∨unhexT (s.data.toList.drop (k+2))=none:=by
 have e0:s.data.toList.drop k=s[k]::s[k+1]::s.data.toList.drop (k+2):=by
  have l0:k<s.data.toList.length:=by simpa using h0
  have l1:k+1<s.data.toList.length:=by simpa using h1
  rw[List.drop_eq_getElem_cons l0,List.drop_eq_getElem_cons l1];rfl
 rw[e0,unhexT]at h;split at h
 ·exact .inr (by simpa using h)
 ·rename_i hd;exact .inl hd
theorem Wl{D:Nat→Prop}{N:Nat}{w:World}{s:ByteArray}{r:List ByteArray}(h:WdIn D N w (s::r))(hs:s.size=0):
  Calls Tryz.prog 170 #[.pointer (some ⟨N,0,none⟩)] w fun e w'=>e=nones∧∃u,w'=w.setCell ⟨N,0,none⟩ u:=by
 have hse:s=⟨#[]⟩:=by
  apply ByteArray.ext;exact Array.eq_empty_of_size_eq_zero hs
 subst hse;have H:=hide h;clear h hs;go_enter Tryz.func170,Tryz.ntmps170
 go_wp2_with(first
  | (go_at_call 76;(with_reducible refine(yt H.out).mono ?_);rintro e1 w1 ⟨rfl,h1,u,hu⟩;have HU:=hide hu;clear h1 hu)
  | (go_at_call 78;(with_reducible refine(yl rfl _).mono ?_);rintro e2 w2 ⟨rfl,rfl⟩))
 exact⟨rfl,rfl,_,HU.out⟩
theorem Wn{D:Nat→Prop}{N:Nat}{w:World}{s:ByteArray}{r:List ByteArray}(h:WdIn D N w (s::r))(h45:(s.toList == [45])=false)(h0:0<s.size)(hs :¬s.size % 2=0):
  Calls Tryz.prog 170 #[.pointer (some ⟨N,0,none⟩)] w fun e w'=>e=nones∧∃u,w'=w.setCell ⟨N,0,none⟩ u:=by
 have hne:s.toList.isEmpty=false:=by rw[Bool.eq_false_iff,ne_eq,List.isEmpty_iff,fH];omega
 have DR:=vM hs;have Hs:=hide hs;have H:=hide h;clear h hs;go_enter Tryz.func170,Tryz.ntmps170
 go_wp2_with(first
  | (go_at_call 76;(with_reducible refine(yt H.out).mono ?_);rintro e1 w1 ⟨rfl,h1,u,hu⟩;have HU:=hide hu;clear h1 hu)
  | (go_at_call 78;(with_reducible refine(yl (by have:=Hs.out;first|rfl|(simp;omega)|simp_all) _).mono ?_);rintro e2 w2 ⟨rfl,rfl⟩))
 exact⟨rfl,rfl,_,HU.out⟩
theorem lY{D:Nat→Prop}{N:Nat}{w:World}{s:ByteArray}{r:List ByteArray}(h:WdIn D N w (s::r))(h45:(s.toList == [45])=false)(hs0:0<s.size)(hev:s.size % 2=0)(hun:unhexT s.data.toList=none)(hl:s.size≤1099511627776):
  Calls Tryz.prog 170 #[.pointer (some ⟨N,0,none⟩)] w fun e w'=>e=nones∧∃u,Below w.heap.size (w.setCell ⟨N,0,none⟩ u) w':=by
 have H:=hide h;have hne:s.toList.isEmpty=false:=by rw[Bool.eq_false_iff,ne_eq,List.isEmpty_iff,fH];omega
 have DR:=qy hev;have BI:=hide hev;have yz:=hide hun;clear h hev hun;go_enter Tryz.func170,Tryz.ntmps170
 go_wp2_with(first
  | (go_at_call 76;(with_reducible refine(yt H.out).mono ?_);rintro e1 w1 ⟨rfl,h1,u,hu⟩;have H1:=hide h1;have HU:=hide hu;clear h1 hu)
  | (go_at_call 78;(with_reducible refine(yj (by have:=BI.out;first|rfl|(simp;omega)|simp_all) _).mono ?_);rintro e2 w2 ⟨rfl,rfl⟩))
 have hs1:w2.heap.size=w.heap.size:=by rw[HU.out];simp
 have yu:=hide hs1;clear hs1
 go_loopg [5,4] s.size (fun g i v wr=>∃q k:Nat,k≤s.size∧g=s.size-k∧Hid (k=2*q)∧i = .int .i64 (k:Int)∧Hid (∃l:List UInt8,l.length=q∧wr.ownsRow w.heap.size 5 1 v q (Lib.byteCells l))∧Hid (unhexT (s.data.toList.drop k)=none)∧Hid (Below w2.heap.size w2 wr))
 case atStart=>exact⟨0,0,by omega,by omega,hide rfl,rfl,hide ⟨[],rfl,World.ownsRow_nil _ _ _ _⟩,hide yz.out,hide (Below.refl _ _)⟩
 case round =>
  obtain⟨q,k,hq,hg,Hk,rfl,HO,HN,HB⟩:=hrel;by_cases hlt:k<s.size
  ·have hk1:k+1<s.size:=by have:=Hk.out;have:=BI.out;omega
   have hst:=Wj HN.out hlt hk1;obtain⟨m,hm⟩:∃m,m=k+1:=⟨_,rfl⟩;have hki:(k:Int)<(s.size:Int):=by omega
   have hwk:IntKind.i64.wrap ((k:Int)+1)=(m:Int):=by rw[IntKind.wrap_i64];omega
   have DT:(m:Int)<(s.size:Int):=by omega
   have zD:m<s.size:=by omega
   have hst2 :¬(digV s[k]<16∧digV s[m]<16)∨unhexT (s.data.toList.drop (k+2))=none:=by subst hm;exact hst
   have vN:=hide hst2;clear hm hst hst2 hk1;have HX :∀(c:UInt8) (W:World),Calls Tryz.prog 213 #[.string ⟨#[48,49,50,51,52,53,54,55,56,57,97,98,99,100,101,102]⟩,.int .u8 (c.toNat:Int)] W fun e w'=>e = .returned (.int .i64 (if digV c<16 then(digV c:Int)else -1))∧w'=W:=fun c W=>by
    have h:=Tryz.strings_IndexByte signs (c.toNat:Int) W;rw[show((c.toNat:Int).toNat.toUInt8)=c by simp,PQ]at h;exact h
   go_wp2_with fail
   go_quiet ((go_at_call 213;(with_reducible refine(HX _ _).mono ?_);rintro e2 w2 ⟨rfl,rfl⟩;exact⟨rfl,_,rfl⟩))
   clear HX;have bC:Hid (∃l:List UInt8,l.length=q∧(wr.drewN nq).ownsRow w.heap.size 5 1 u4 q (Lib.byteCells l)):=HO;have HB1:Hid (Below w2.heap.size w2 (wr.drewN nq)):=hide (aO HB.out _);generalize wr.drewN nq=wq at bC HB1⊢;obtain⟨l,hll,uH⟩:=bC.out;obtain⟨Av,cv,rfl⟩:=bM uH;have fU:=hide uH;clear bC uH;generalize hX:digV s[k]=X at vN⊢;generalize hY:digV s[m]=Y at vN⊢;clear hX hY;by_cases gK:X<16
   ·by_cases gQ:Y<16
    ·have hnx:unhexT (s.data.toList.drop (k+2))=none:=(vN.out).resolve_left (fun h=>h ⟨gK,gQ⟩);have Wp:=hide hnx;rw[if_pos gK,if_pos gQ];have hX0:(0:Int)≤(X:Int):=by omega
     have hY0:(0:Int)≤(Y:Int):=by omega
     obtain⟨z,hz⟩:∃z,z=16*X+Y:=⟨_,rfl⟩;have hor:bits BinOp.or IntKind.i64 ((X:Int)*16) (Y:Int)=(z:Int):=by
      rw[QA X gK Y gQ,hz]
     have yw:(z:Int) % 256=(z:Int):=by omega
     have hzu:(z:Int)=((UInt8.ofNat z).toNat:Int):=by rw[UInt8.toNat_ofNat'];omega
     have LC:=hide hzu;clear hz hzu hnx;have hbl:(Lib.byteCells l).length=q*1:=by simp[Lib.byteCells];omega
     have hq2:q≤1099511627776:=by have:=Hk.out;omega
     go_wp2_with(first
      | (go_at_call 78;(with_reducible refine(yj rfl _).mono ?_);rintro e3 w3 ⟨rfl,rfl⟩)
      | (at_builtin;refine fE rfl _ _ 44 rfl w.heap.size 5 Tryz.underlying44 Lj rfl (by decide) _ q (Lib.byteCells l) rfl (fU.out.alloc _) (some ⟨w3.heap.size,0,none⟩) 1 1 [.int .u8 (z:Int)] rfl (by simp) rfl (fun ad e=>by injection e with e;subst e;intro j u hu;rw[Addr.add_lit,Nat.zero_add,Lib.cell_of_heap (heap_alloc_new w3 _)];simpa using hu) (by intro u hu;simp at hu;subst hu;rfl) (by unfold maxLen;omega) (by omega) (by have:=HB1.out.size;have:=yu.out;simp;omega) ?_))
     intro v1 w4 h4 hg4 hw4;have HB4:Hid (Below w2.heap.size w2 w4):=hide ((HB1.out.alloc HB1.out.size _).grown hg4 (by have:=HB1.out.size;simp;omega) fun j hj=>by have:=(fU.out.lt j hj).1;have:=yu.out;omega);have H4:=hide h4;clear h4 hg4 hw4
     go_wp2_with fail
     go_roundg (s.size-(k+2))
     case measure=>omega
     case rel =>
      refine⟨q+1,k+2,by have:=Hk.out;have:=BI.out;omega,rfl,hide (by have:=Hk.out;omega),by simp,hide ⟨l++[UInt8.ofNat z],by simp;omega,?_⟩,Wp,HB4⟩;have h:=H4.out;have e1:Lib.byteCells (l++[UInt8.ofNat z])=Lib.byteCells l++[.int .u8 (z:Int)]:=by rw[LC.out];unfold Lib.byteCells;rw[List.map_append];rfl
      rw[e1];exact h
    ·rw[if_neg gQ]
     go_wp2_with(go_at_call 78;(with_reducible refine(yl (by simp) _).mono ?_);rintro e3 w3 ⟨rfl,rfl⟩)
     exact⟨rfl,rfl,u,by rw[←HU.out,←yu.out];exact HB1.out⟩
   ·rw[if_neg gK]
    go_wp2_with(go_at_call 78;(with_reducible refine(yl (by simp) _).mono ?_);rintro e3 w3 ⟨rfl,rfl⟩)
    all_goals exact⟨rfl,rfl,u,by rw[←HU.out,←yu.out];exact HB1.out⟩
  ·have hks:k=s.size:=by omega
   have hx:=HN.out;rw[hks,List.drop_eq_nil_of_le (by simp)]at hx;cases hx
theorem kJ{s:ByteArray}(h:s.data.toList=[45]):s=⟨#[45]⟩:=by
 apply ByteArray.ext;apply Array.ext';exact h
theorem LD{s:ByteArray}(h :¬s.data.toList=[45]):(s.toList == [45])=false:=by
 rw[aK];intro e;have e2:s=⟨#[45]⟩:=bu.1 (by rw[e];decide +kernel);exact h (by rw[e2])
theorem LG{D:Nat→Prop}{N:Nat}{w:World}{s:ByteArray}{r:List ByteArray}{b:List UInt8}(h:WdIn D N w (s::r))(hu:unhexL s.data.toList=some b)(hl:s.size≤1099511627776):
  Calls Tryz.prog 170 #[.pointer (some ⟨N,0,none⟩)] w fun e w'=>∃v,e = .returned v∧w'.ownsRow w.heap.size 5 1 v b.length (Lib.byteCells b)∧WdIn D N w' r∧∃u,Below w.heap.size (w.setCell ⟨N,0,none⟩ u) w':=by
 by_cases h45:s.data.toList=[45]
 ·have e:b=[]:=by
   rw[unhexL,if_pos h45]at hu;injection hu with hu;exact hu.symm
  subst e;refine(zig h (kJ h45)).mono ?_;rintro e w' ⟨rfl,h1,u,hu⟩;exact⟨_,rfl,World.ownsRow_nil _ _ _ _,h1,u,by rw[hu];have:=Below.refl w.heap.size (w.setCell ⟨N,0,none⟩ u);simpa using this⟩
 ·have hb:b≠[]:=by
   rintro rfl;have:=xX _ _ hu;rw[hexL,if_pos rfl]at this;exact h45 this.symm
  have ht:s.data.toList=hexT b:=by
   have:=xX _ _ hu;rw[hexL,if_neg hb]at this;exact this.symm
  refine VT h ht hb ?_;have:=congrArg List.length ht;rw[uX]at this;simp at this;omega
theorem QL{D:Nat→Prop}{N:Nat}{w:World}{s:ByteArray}{r:List ByteArray}(h:WdIn D N w (s::r))(hu:unhexL s.data.toList=none)(hl:s.size≤1099511627776):
  Calls Tryz.prog 170 #[.pointer (some ⟨N,0,none⟩)] w fun e w'=>e=nones∧∃u,Below w.heap.size (w.setCell ⟨N,0,none⟩ u) w':=by
 have set :∀{e:Ending} {w':World},(e=nones∧∃u,w'=w.setCell ⟨N,0,none⟩ u)→e=nones∧∃u,Below w.heap.size (w.setCell ⟨N,0,none⟩ u) w':=by
  rintro e w' ⟨he,u,rfl⟩;exact⟨he,u,Below.refl _ _⟩
 have h45 :¬s.data.toList=[45]:=fun e=>by rw[unhexL,if_pos e]at hu;cases hu
 by_cases h0:s.size=0
 ·exact(Wl h h0).mono fun _ _ hx=>set hx
 ·by_cases hev:s.size % 2=0
  ·have hne :¬s.data.toList=[]:=fun e=>h0 (by have:=congrArg List.length e;simpa using this);rw[unhexL,if_neg h45,if_neg hne]at hu;exact lY h (LD h45) (by omega) hev hu hl
  ·exact(Wn h (LD h45) (by omega) hev).mono fun _ _ hx=>set hx
end
section
open Go.RowKit
structure LnIn(D:Nat→Prop)(N:Nat)(w:World)(l:List ByteArray)(vs:List Value):Prop where
 wd:WdIn D N w l
 len:vs.length=20
 cells :∀j u,vs[j]?=some u→w.cell? ⟨N,1+j,none⟩=some u
 free :∀o,w.frozen? ⟨N,o,none⟩=false
section
variable {D : Nat → Prop} {N : Nat} {w w' : World} {l r : List ByteArray} {vs : List Value}
theorem LnIn.lt(h:LnIn D N w l vs):N<w.heap.size:=by
 obtain⟨A,c,h1,_⟩:=h.wd.at_;exact block_lt_of_cell h1
theorem LnIn.below(h:LnIn D N w l vs)(hb:Below w.heap.size w w'):LnIn D N w' l vs :=
 ⟨h.wd.below hb,h.len,fun j u hj=>(hb.cell (p:=⟨N,1+j,none⟩) h.lt).trans (h.cells j u hj),fun o=>(hb.frozen (p:=⟨N,o,none⟩) h.lt).trans (h.free o)⟩
theorem LnIn.take(h:LnIn D N w l vs){v:Value}(hw:w'=w.setCell ⟨N,0,none⟩ v)(hr:WdIn D N w' r):LnIn D N w' r vs:=by
 subst hw;refine⟨hr,h.len,fun j u hj=>?_,fun o=>by rw[World.frozen?_setCell];exact h.free o⟩;rw[World.cell?_setCell_other]
 ·exact h.cells j u hj
 ·simp
theorem LnIn.put(h:LnIn D N w l vs){j:Nat}(hj:j<20)(v:Value):LnIn D N (w.setCell ⟨N,1+j,none⟩ v) l (vs.set j v):=by
 have hjl:j<vs.length:=by rw[h.len];exact hj
 obtain⟨A,c,h1,h2,h3⟩:=h.wd.at_;refine⟨⟨⟨A,c,?_,h2.keep (fun b hb=>Below.heap_setCell w _ _ b (h.wd.off b hb)),h3⟩,by rw[World.frozen?_setCell];exact h.wd.free,h.wd.off⟩,by simpa using h.len,fun i u hi=>?_,fun o=>by rw[World.frozen?_setCell];exact h.free o⟩
 ·rw[World.cell?_setCell_other]
  ·exact h1
  ·simp
 ·by_cases e:i=j
  ·subst e;rw[List.getElem?_set_self hjl]at hi;injection hi with hi;subst hi;exact World.cell?_setCell_same _ _ _ (h.cells i _ (List.getElem?_eq_getElem hjl))
  ·rw[List.getElem?_set_ne (by omega)]at hi;rw[World.cell?_setCell_other]
   ·exact h.cells i u hi
   ·simp
    try omega
theorem LnIn.cellAt(h:LnIn D N w l vs)(k:Nat)(hk:1≤k∧k≤20):∃u,w.cell? ⟨N,k,none⟩=some u:=by
 have hj:k-1<vs.length:=by rw[h.len];omega
 have:=h.cells (k-1) _ (List.getElem?_eq_getElem hj);rw[show 1+(k-1)=k by omega]at this;exact⟨_,this⟩
end
abbrev SideN(N:Nat)(w w':World):Prop:=Keep (fun k=>k<w.heap.size∧k≠N) w w'
theorem lZ(N:Nat)(w:World):Calls Tryz.prog 105 #[.pointer (some ⟨N,0,none⟩)] w fun e w'=>e = .returned (.tuple #[])∧w'=w:=by
 go_enter Tryz.func105,Tryz.ntmps105
 go_wp2_with fail
 all_goals go_end0
 all_goals exact⟨rfl,rfl⟩
theorem Wq{D:Nat→Prop}{N:Nat}{w:World}{s:ByteArray}{r:List ByteArray}{vs:List Value}(h:LnIn D N w (s::r) vs)(hs:isWord s=true):
  Calls Tryz.prog 108 #[.pointer (some ⟨N,0,none⟩)] w fun e w'=>e = .returned (.tuple #[])∧LnIn D N w' r (vs.set 3 (.string s))∧SideN N w w':=by
 have H:=hide h;clear h;go_enter Tryz.func108,Tryz.ntmps108
 go_wp2_with(go_at_call 77;(with_reducible refine(lX H.out.wd hs).mono ?_);rintro e1 w1 ⟨rfl,h1,u,hu⟩;have h2:=H.out.take hu h1;obtain⟨x,hc⟩:=h2.cellAt 4 (by decide);have hf:=h2.free 4;have H2:=hide h2;have HU:=hide hu;clear h1 h2 hu)
 all_goals go_end0
 refine⟨rfl,H2.out.put (j:=3) (by decide) _,?_⟩;rw[HU.out];exact((Keep.refl _ w).setCell (fun hk=>hk.2 rfl) _).setCell (fun hk=>hk.2 rfl) _
theorem l9{D:Nat→Prop}{N:Nat}{w:World}{s:ByteArray}{r:List ByteArray}{vs:List Value}(h:LnIn D N w (s::r) vs)(hs:isWord s=true):
  Calls Tryz.prog 109 #[.pointer (some ⟨N,0,none⟩)] w fun e w'=>e = .returned (.tuple #[])∧LnIn D N w' r (vs.set 2 (.string s))∧SideN N w w':=by
 have H:=hide h;clear h;go_enter Tryz.func109,Tryz.ntmps109
 go_wp2_with(go_at_call 77;(with_reducible refine(lX H.out.wd hs).mono ?_);rintro e1 w1 ⟨rfl,h1,u,hu⟩;have h2:=H.out.take hu h1;obtain⟨x,hc⟩:=h2.cellAt 3 (by decide);have hf:=h2.free 3;have H2:=hide h2;have HU:=hide hu;clear h1 h2 hu)
 all_goals go_end0
 refine⟨rfl,H2.out.put (j:=2) (by decide) _,?_⟩;rw[HU.out];exact((Keep.refl _ w).setCell (fun hk=>hk.2 rfl) _).setCell (fun hk=>hk.2 rfl) _
theorem Ws{D:Nat→Prop}{N:Nat}{w:World}{s:ByteArray}{r:List ByteArray}{vs:List Value}(h:LnIn D N w (s::r) vs)(hs:isWord s=true):
  Calls Tryz.prog 110 #[.pointer (some ⟨N,0,none⟩)] w fun e w'=>e = .returned (.tuple #[])∧LnIn D N w' r (vs.set 4 (.string s))∧SideN N w w':=by
 have H:=hide h;clear h;go_enter Tryz.func110,Tryz.ntmps110
 go_wp2_with(go_at_call 77;(with_reducible refine(lX H.out.wd hs).mono ?_);rintro e1 w1 ⟨rfl,h1,u,hu⟩;have h2:=H.out.take hu h1;obtain⟨x,hc⟩:=h2.cellAt 5 (by decide);have hf:=h2.free 5;have H2:=hide h2;have HU:=hide hu;clear h1 h2 hu)
 all_goals go_end0
 refine⟨rfl,H2.out.put (j:=4) (by decide) _,?_⟩;rw[HU.out];exact((Keep.refl _ w).setCell (fun hk=>hk.2 rfl) _).setCell (fun hk=>hk.2 rfl) _
theorem QM{D:Nat→Prop}{N:Nat}{w:World}{l:List ByteArray}{vs:List Value}(h:LnIn D N w l vs)(hs :∀s r,l=s::r→isWord s=false):
  Calls Tryz.prog 108 #[.pointer (some ⟨N,0,none⟩)] w fun e w'=>e=nones∧SideN N w w':=by
 rcases l with _|⟨s,r⟩
 ·have H:=hide h;clear h;go_enter Tryz.func108,Tryz.ntmps108
  go_wp2_with(go_at_call 77;(with_reducible refine(Iw H.out.wd).mono ?_);rintro e1 w1 ⟨rfl,rfl⟩)
  exact⟨rfl,rfl,Keep.refl _ _⟩
 ·have H:=hide h;have Hw:=hide (hs s r rfl);clear h hs;go_enter Tryz.func108,Tryz.ntmps108
  go_wp2_with(go_at_call 77;(with_reducible refine(Iy H.out.wd Hw.out).mono ?_);rintro e1 w1 ⟨rfl,u,hu⟩)
  refine⟨rfl,rfl,?_⟩
  try rw[hu]
  exact(Keep.refl _ w).setCell (fun hk=>hk.2 rfl) _
theorem QN{D:Nat→Prop}{N:Nat}{w:World}{l:List ByteArray}{vs:List Value}(h:LnIn D N w l vs)(hs :∀s r,l=s::r→isWord s=false):
  Calls Tryz.prog 109 #[.pointer (some ⟨N,0,none⟩)] w fun e w'=>e=nones∧SideN N w w':=by
 rcases l with _|⟨s,r⟩
 ·have H:=hide h;clear h;go_enter Tryz.func109,Tryz.ntmps109
  go_wp2_with(go_at_call 77;(with_reducible refine(Iw H.out.wd).mono ?_);rintro e1 w1 ⟨rfl,rfl⟩)
  exact⟨rfl,rfl,Keep.refl _ _⟩
 ·have H:=hide h;have Hw:=hide (hs s r rfl);clear h hs;go_enter Tryz.func109,Tryz.ntmps109
  go_wp2_with(go_at_call 77;(with_reducible refine(Iy H.out.wd Hw.out).mono ?_);rintro e1 w1 ⟨rfl,u,hu⟩)
  refine⟨rfl,rfl,?_⟩
  try rw[hu]
  exact(Keep.refl _ w).setCell (fun hk=>hk.2 rfl) _
theorem QO{D:Nat→Prop}{N:Nat}{w:World}{l:List ByteArray}{vs:List Value}(h:LnIn D N w l vs)(hs :∀s r,l=s::r→isWord s=false):
  Calls Tryz.prog 110 #[.pointer (some ⟨N,0,none⟩)] w fun e w'=>e=nones∧SideN N w w':=by
 rcases l with _|⟨s,r⟩
 ·have H:=hide h;clear h;go_enter Tryz.func110,Tryz.ntmps110
  go_wp2_with(go_at_call 77;(with_reducible refine(Iw H.out.wd).mono ?_);rintro e1 w1 ⟨rfl,rfl⟩)
  exact⟨rfl,rfl,Keep.refl _ _⟩
 ·have H:=hide h;have Hw:=hide (hs s r rfl);clear h hs;go_enter Tryz.func110,Tryz.ntmps110
  go_wp2_with(go_at_call 77;(with_reducible refine(Iy H.out.wd Hw.out).mono ?_);rintro e1 w1 ⟨rfl,u,hu⟩)
  refine⟨rfl,rfl,?_⟩
  try rw[hu]
  exact(Keep.refl _ w).setCell (fun hk=>hk.2 rfl) _
end
section
open Go.RowKit
theorem own_set{w:World}{B e k n N o:Nat}{v u:Value}{xs:List Value}(h:w.ownsRow B e k v n xs)(hN:N<B):(w.setCell ⟨N,o,none⟩ u).ownsRow B e k v n xs :=
 ⟨h.1,h.2.imp id fun⟨g,cap,cur,e1,hB,hg,hr⟩=>⟨g,cap,cur,e1,hB,(Below.heap_setCell w _ _ g (by show g≠N;omega)).trans hg,hr⟩⟩
theorem LnIn.taken{D:Nat→Prop}{N:Nat}{w w':World}{l r:List ByteArray}{vs:List Value}{u:Value}(h:LnIn D N w l vs)(hB:Below w.heap.size (w.setCell ⟨N,0,none⟩ u) w')(hr:WdIn D N w' r):LnIn D N w' r vs:=by
 have hN:=h.lt;refine⟨hr,h.len,fun j v hj=>?_,fun o=>?_⟩
 ·refine(hB.cell (p:=⟨N,1+j,none⟩) hN).trans ?_;rw[World.cell?_setCell_other]
  ·exact h.cells j v hj
  ·simp
 ·refine(hB.frozen (p:=⟨N,o,none⟩) hN).trans ?_;rw[World.frozen?_setCell];exact h.free o
theorem D7{N:Nat}{w w':World}{u:Value}(hB:Below w.heap.size (w.setCell ⟨N,0,none⟩ u) w'):SideN N w w' :=
 ((Keep.refl _ w).setCell (fun hk=>hk.2 rfl) u).trans (Keep.of_below (by simpa using hB) fun _ hk=>by simpa using hk.1)
theorem qA{D:Nat→Prop}{N:Nat}{w:World}{s:ByteArray}{r:List ByteArray}{vs:List Value}{b:List UInt8}(h:LnIn D N w (s::r) vs)(hu:unhexL s.data.toList=some b)(hl:s.size≤1099511627776):
  Calls Tryz.prog 111 #[.pointer (some ⟨N,0,none⟩)] w fun e w'=>e = .returned (.tuple #[])∧∃v,w'.ownsRow w.heap.size 5 1 v b.length (Lib.byteCells b)∧LnIn D N w' r (vs.set 19 v)∧SideN N w w':=by
 have H:=hide h;have HU:=hide hu;clear h hu;go_enter Tryz.func111,Tryz.ntmps111
 go_wp2_with(go_at_call 170;(with_reducible refine(LG H.out.wd HU.out hl).mono ?_);rintro e1 w1 ⟨v,rfl,ho,h1,u,hB⟩;obtain⟨Av,cv,rfl⟩:=bM ho;have h2:=H.out.taken hB h1;obtain⟨x,hc⟩:=h2.cellAt 20 (by decide);have hf:=h2.free 20;have H2:=hide h2;have HO:=hide ho;have HB:=hide hB;clear h1 h2 ho hB)
 all_goals go_end0
 exact⟨rfl,_,own_set HO.out H.out.lt,H2.out.put (j:=19) (by decide) _,(D7 HB.out).setCell (fun hk=>hk.2 rfl) _⟩
theorem vO{D:Nat→Prop}{N:Nat}{w:World}{s:ByteArray}{r:List ByteArray}{vs:List Value}(h:LnIn D N w (s::r) vs)(hu:unhexL s.data.toList=none)(hl:s.size≤1099511627776):
  Calls Tryz.prog 111 #[.pointer (some ⟨N,0,none⟩)] w fun e w'=>e=nones∧SideN N w w':=by
 have H:=hide h;have HU:=hide hu;clear h hu;go_enter Tryz.func111,Tryz.ntmps111
 go_wp2_with(go_at_call 170;(with_reducible refine(QL H.out.wd HU.out hl).mono ?_);rintro e1 w1 ⟨rfl,u,hB⟩;have HB:=hide hB;clear hB)
 exact⟨rfl,rfl,D7 HB.out⟩
theorem qB{D:Nat→Prop}{N:Nat}{w:World}{s t:ByteArray}{r:List ByteArray}{vs:List Value}(h:LnIn D N w (s::t::r) vs)(hs:isWord s=true)(ht:isWord t=true):
  Calls Tryz.prog 107 #[.pointer (some ⟨N,0,none⟩)] w fun e w'=>e = .returned (.tuple #[])∧LnIn D N w' r ((vs.set 2 (.string s)).set 3 (.string t))∧SideN N w w':=by
 have H:Hid (LnIn D N w.drew (s::t::r) vs):=hide (h.below ((Below.refl _ w).drew));have hN:=h.lt;clear h;go_enter Tryz.func107,Tryz.ntmps107
 go_wp2_with fail
 go_region_with (first
  | (go_at_call 77;(with_reducible refine(lX H.out.wd hs).mono ?_);rintro e1 w1 ⟨rfl,h1,u,hu⟩;have h2:=H.out.take hu h1;have H2:=hide h2;have HU:=hide hu;clear h1 h2 hu)
  | (go_at_call 77;(with_reducible refine(lX H2.out.wd ht).mono ?_);rintro e2 w2 ⟨rfl,h3,u2,hu2⟩;have h4:=H2.out.take hu2 h3;obtain⟨x,hc⟩:=h4.cellAt 3 (by decide);obtain⟨x2,hc2⟩:=h4.cellAt 4 (by decide);have hf:=h4.free 3;have hf2:=h4.free 4;have H4:=hide h4;have Wu:=hide hu2;clear h3 h4 hu2))
 all_goals go_end0
 refine⟨rfl,(H4.out.put (j:=2) (by decide) (.string s)).put (j:=3) (by decide) (.string t),?_⟩;have h0:SideN N w w.drew:=(Keep.refl _ w).drew;have h1:SideN N w w1:=by rw[HU.out];exact h0.setCell (fun hk=>hk.2 rfl) u
 have h2:SideN N w w2:=by rw[Wu.out];exact h1.setCell (fun hk=>hk.2 rfl) u2
 exact(h2.setCell (fun hk=>hk.2 rfl) _).setCell (fun hk=>hk.2 rfl) _
theorem QP{D:Nat→Prop}{N:Nat}{w:World}(h:WdIn D N w []):
  Calls Tryz.prog 170 #[.pointer (some ⟨N,0,none⟩)] w fun e w'=>e=nones∧w'=w:=by
 have H:=hide h;clear h;go_enter Tryz.func170,Tryz.ntmps170
 go_wp2_with(go_at_call 76;(with_reducible refine(Qz H.out).mono ?_);rintro e1 w1 ⟨rfl,rfl⟩)
 exact⟨rfl,rfl,rfl⟩
theorem qC{D:Nat→Prop}{N:Nat}{w:World}{vs:List Value}(h:LnIn D N w [] vs):
  Calls Tryz.prog 111 #[.pointer (some ⟨N,0,none⟩)] w fun e w'=>e=nones∧SideN N w w':=by
 have H:=hide h;clear h;go_enter Tryz.func111,Tryz.ntmps111
 go_wp2_with(go_at_call 170;(with_reducible refine(QP H.out.wd).mono ?_);rintro e1 w1 ⟨rfl,rfl⟩)
 exact⟨rfl,rfl,Keep.refl _ _⟩
end
def partsL(c:UInt8):List UInt8→List (List UInt8)
 | []=>[[]]
 | b::r=>if b=c then[]::partsL c r else match partsL c r with
  | h::t=>(b::h)::t
  | []=>[[b]]
theorem D8(c:UInt8):∀l,partsL c l≠[]
 | []=>by simp[partsL]
 | b::r=>by
  unfold partsL;split
  ·simp
  ·split<;>simp
theorem II{c:UInt8}:∀{l x:List UInt8},x∈partsL c l→x.length≤l.length∧c∉x
 | [],x,h=>by
  simp only[partsL,List.mem_singleton]at h;subst h;simp
 | b::r,x,h=>by
  unfold partsL at h;split at h
  ·rcases List.mem_cons.1 h with rfl|h
   ·simp
   ·have:=II h;exact⟨by simp;omega,this.2⟩
  ·rename_i hb;rcases hp:partsL c r with _|⟨y,t⟩
   ·exact absurd hp (D8 c r)
   ·rw[hp]at h;simp only[List.mem_cons]at h;rcases h with rfl|h
    ·have:=II (c:=c) (l:=r) (x:=y) (by rw[hp];simp);exact⟨by simp;omega,by simp only[List.mem_cons,not_or];exact⟨fun e=>hb e.symm,this.2⟩⟩
    ·have:=II (c:=c) (l:=r) (x:=x) (by rw[hp];simp[h]);exact⟨by simp;omega,this.2⟩
theorem IJ(c b:UInt8):∀(l:List UInt8) (d:List (List UInt8)) (x:List UInt8),partsL c l=d++[x]→partsL c (l++[b])=if b=c then d++[x,[]]else d++[x++[b]]
 | [],d,x,h=>by
  simp only[partsL]at h;obtain⟨rfl,rfl⟩:d=[]∧x=[]:=by
   rcases d with _|⟨d0,d⟩
   ·simpa using h.symm
   ·simp at h
  by_cases hb:b=c<;>simp[partsL,hb]
 | a::r,d,x,h=>by
  rw[List.cons_append];by_cases ha:a=c
  ·rw[partsL,if_pos ha]at h⊢;rcases d with _|⟨d0,d⟩
   ·rw[List.nil_append,List.cons.injEq]at h;exact absurd h.2 (D8 c r)
   ·rw[List.cons_append,List.cons.injEq]at h;have ih:=IJ c b r d x h.2;rw[ih,←h.1];split<;>simp
  ·rw[partsL,if_neg ha]at h;rcases hp:partsL c r with _|⟨y,t⟩
   ·exact absurd hp (D8 c r)
   ·rw[hp]at h;simp only at h;rcases d with _|⟨d0,d⟩
    ·simp only[List.nil_append,List.cons.injEq]at h;obtain⟨rfl,rfl⟩:=h;have ih:=IJ c b r [] y (by rw[hp];rfl);rw[partsL,if_neg ha,ih];by_cases hb:b=c<;>simp[hb]
    ·rw[List.cons_append,List.cons.injEq]at h;obtain⟨rfl,rfl⟩:=h;have ih:=IJ c b r (y::d) x (by rw[hp];rfl);rw[partsL,if_neg ha,ih];by_cases hb:b=c<;>simp[hb]
theorem QQ(c:UInt8):∀l,Lib.splitK [c] 0 (Lib.count l [c]) l=partsL c l
 | []=>by rw[Lib.count_one];rfl
 | b::r=>by
  have ih:=QQ c r;by_cases h:b=c
  ·subst h;have hi:Lib.index (b::r) [b]=0:=by simp[Lib.index]
   rw[Lib.count_cons_eq,Nat.add_comm,Lib.splitK,hi];simp[partsL,ih]
  ·have hi:Lib.index (b::r) [c]=if Lib.index r [c] == -1 then -1 else Lib.index r [c]+1:=by simp[Lib.index,Ne.symm h]
   rw[Lib.count_cons_ne _ _ _ h,partsL,if_neg h];rcases hk:Lib.count r [c]with _|k
   ·rw[hk]at ih;rw[Lib.splitK]at ih⊢;rw[←ih]
   ·rw[hk]at ih;rw[Lib.splitK]at ih⊢;rw[hi];rcases Lib.index_spec r [c]with⟨h1,_⟩|⟨i,h1,_⟩
    ·rw[h1]at ih⊢;rw[if_pos (by decide)]at ih;rw[if_pos (by decide),←ih]
    ·rw[h1]at ih⊢;have hn:((i:Int) == -1)=false:=by rw[aK];omega
     have hn1:((i:Int)+1 == -1)=false:=by rw[aK];omega
     rw[hn]at ih⊢;simp only[Bool.false_eq_true,if_false]at ih⊢;rw[hn1];simp only[Bool.false_eq_true,if_false];rw[←ih];have e1:((i:Int)+1).toNat=i+1:=by omega
     have e2:(i:Int).toNat=i:=by omega
     rw[e1,e2];simp
theorem BJ(b:ByteArray):b.data.toList.length=b.size:=by rw[Array.length_toList];rfl
def wordsOf(c:UInt8)(s:ByteArray):List ByteArray:=Lib.splitB ⟨#[c]⟩ 0 (Lib.countB s ⟨#[c]⟩) s
theorem D9(c:UInt8)(s:ByteArray):(wordsOf c s).map (·.data.toList)=partsL c s.data.toList:=by
 unfold wordsOf;rw[Lib.splitB_data];exact QQ c _
theorem LH(c:UInt8)(s:ByteArray):wordsOf c s≠[]:=fun h=>D8 c s.data.toList (by rw[←D9,h];rfl)
theorem iL{c:UInt8}{s x:ByteArray}(h:x∈wordsOf c s):x.size≤s.size∧c∉x.data.toList:=by
 have h1:x.data.toList∈partsL c s.data.toList:=by
  rw[←D9];exact List.mem_map_of_mem h
 have:=II h1;exact⟨by have h2:=this.1;rw[Array.length_toList,Array.length_toList]at h2;exact h2,this.2⟩
theorem Ea(c:UInt8)(s:ByteArray):(wordsOf c s).length=Lib.countB s ⟨#[c]⟩+1:=Lib.splitB_all ⟨#[c]⟩ (aC 1) 0 _ s rfl
section
open Go.RowKit
def Rdb(B rb:Nat)(w:World)(l:List UInt8)(bd:Bool):Prop :=
 B≤rb∧∃A c,w.cell? ⟨rb,0,none⟩=some (.slice A l.length c)∧w.cell? ⟨rb,1,none⟩=some (.bool bd)∧w.frozen? ⟨rb,0,none⟩=false∧w.frozen? ⟨rb,1,none⟩=false∧
  BytesIn (fun b=>b<B) w A l∧l.length≤c∧c≤9223372036854775807
section
variable {B rb : Nat} {w w' : World} {l : List UInt8} {bd : Bool}
theorem Rdb.lt(h:Rdb B rb w l bd):rb<w.heap.size:=by
 obtain⟨_,A,c,h0,_⟩:=h;exact World.block_lt_of_cell? _ _ h0
theorem Rdb.keep(h:Rdb B rb w l bd)(hk :∀b,b≤rb→w'.heap[b]?=w.heap[b]?):Rdb B rb w' l bd:=by
 obtain⟨hB,A,c,h0,h1,h2,h3,h4,h5,h6⟩:=h;have hb:=hk rb (aC _);exact⟨hB,A,c,(World.cell?_of_block hb).trans h0,(World.cell?_of_block hb).trans h1,(World.frozen?_of_block hb).trans h2,(World.frozen?_of_block hb).trans h3,h4.keep fun b hb=>hk b (by omega),h5,h6⟩
theorem Rdb.below(h:Rdb B rb w l bd)(hB:Below w.heap.size w w'):Rdb B rb w' l bd:=h.keep fun b hb=>hB.block b (Nat.lt_of_le_of_lt hb h.lt)
theorem Rdb.alloc(h:Rdb B rb w l bd)(o:Obj):Rdb B rb (w.alloc o) l bd:=h.below (ag w o)
theorem Rdb.grown{row:Option Nat}(h:Rdb B rb w l bd)(hg:w.grownBy w' row)(hr :∀k,row=some k→rb<k):Rdb B rb w' l bd :=
 h.keep fun b hb=>hg.block b (Nat.lt_of_le_of_lt hb h.lt) (fun e=>by have:=hr b e.symm;omega)
theorem Rdb.setBad(h:Rdb B rb w l bd):Rdb B rb (w.setCell ⟨rb,1,none⟩ (.bool true)) l true:=by
 obtain⟨hB,A,c,h0,h1,h2,h3,h4,h5,h6⟩:=h;refine⟨hB,A,c,?_,World.cell?_setCell_same _ _ _ h1,by rw[World.frozen?_setCell];exact h2,by rw[World.frozen?_setCell];exact h3,h4.keep (fun b hb=>Below.heap_setCell w _ _ b (by show b≠rb;omega)),h5,h6⟩;rw[World.cell?_setCell_other]
 ·exact h0
 ·simp
theorem Rdb.cells(h:Rdb B rb w l bd):∃A c,w.cell? ⟨rb,0,none⟩=some (.slice A l.length c)∧w.cell? ⟨rb,1,none⟩=some (.bool bd)∧w.frozen? ⟨rb,0,none⟩=false∧w.frozen? ⟨rb,1,none⟩=false∧BytesIn (fun b=>b<B) w A l∧l.length≤c∧c≤9223372036854775807:=h.2
theorem Rdb.setRest{A:Option Addr}{c m:Nat}{l':List UInt8}(h:Rdb B rb w l bd)(hA:BytesIn (fun b=>b<B) w A l')(hm:l'.length=m)(h5:m≤c)(h6:c≤9223372036854775807):Rdb B rb (w.setCell ⟨rb,0,none⟩ (.slice A m c)) l' bd:=by
 subst hm;obtain⟨hB,A0,c0,h0,h1,h2,h3,h4,_,_⟩:=h;refine⟨hB,A,c,World.cell?_setCell_same _ _ _ h0,?_,by rw[World.frozen?_setCell];exact h2,by rw[World.frozen?_setCell];exact h3,hA.keep (fun b hb=>Below.heap_setCell w _ _ b (by show b≠rb;omega)),h5,h6⟩;rw[World.cell?_setCell_other]
 ·exact h1
 ·simp
end
def BytePost(B rb:Nat)(w:World)(l:List UInt8)(bd:Bool)(e:Ending)(w':World):Prop:=∃(x:UInt8) (l':List UInt8) (dB:Bool),e = .returned (.int .u8 x.toNat)∧Rdb B rb w' l' dB∧Side rb w w'∧
   ((l=x::l'∧dB=bd)∨(l=[]∧l'=[]∧dB=true))
theorem IK{B rb:Nat}{w:World}{l:List UInt8}{bd:Bool}(h:Rdb B rb w l bd):Calls Tryz.prog 266 #[.pointer (some ⟨rb,0,none⟩)] w (BytePost B rb w l bd):=by
 obtain⟨A,c,h0,h1,h2,h3,hb,h5,h6⟩:=h.cells;have H:=hide h;have Hb:=hide hb;clear h hb;rcases l with _|⟨x,l⟩
 ·simp only[List.length_nil]at h0 h5;go_enter Tryz.func266,Tryz.ntmps266
  go_wp2_with fail
  go_ret;exact⟨0,[],true,rfl,H.out.setBad,(Side.refl rb w).set 1 _,.inr ⟨rfl,rfl,rfl⟩⟩
 ·obtain⟨b,o,hA,hc⟩:=Hb.out.1.at_ (j:=0) (by simp[bytesV]);subst hA;simp only[bytesV,List.map_cons,aE,Nat.add_zero]at hc;simp only[List.length_cons]at h0 h5;have hd:BytesIn (fun b=>b<B) w (some ⟨b,o+1,none⟩) l:=by have:=Hb.out.drop 1;simpa[Addr.add_lit]using this
  have Hd:=hide hd;clear hd;go_enter Tryz.func266,Tryz.ntmps266
  go_wp2_with fail
  ·go_ret;have hl:l=[]:=List.length_eq_zero_iff.1 (by omega);subst hl;exact⟨x,[],bd,rfl,H.out.setRest ⟨.inl rfl,by simp⟩ rfl (by simp) (by omega),(Side.refl rb w).set 0 _,.inl ⟨rfl,rfl⟩⟩
  ·go_ret;exact⟨x,l,bd,rfl,H.out.setRest Hd.out rfl (by omega) (by omega),(Side.refl rb w).set 0 _,.inl ⟨rfl,rfl⟩⟩
def NumPost(B rb:Nat)(w:World)(l:List UInt8)(bd:Bool)(e:Ending)(w':World):Prop:=∃(n:Int) (l':List UInt8) (dB:Bool),e = .returned (.int .i64 n)∧is63 n∧Rdb B rb w' l' dB∧Side rb w w'∧l'.length≤l.length∧
   ((l=num8 n++l'∧dB=bd)∨(l.length<8∧dB=true∧l'=[]))
theorem BK{B rb:Nat}{w:World}{l:List UInt8}{bd:Bool}(h:Rdb B rb w l bd):Calls Tryz.prog 268 #[.pointer (some ⟨rb,0,none⟩)] w (NumPost B rb w l bd):=by
 have H:=hide h;clear h;go_enter Tryz.func268,Tryz.ntmps268
 go_wp2_with fail
 go_loopw [3,4] (fun u i wr=>∃(q:Nat) (X:Int) (lq:List UInt8) (bq:Bool),q≤8∧i = .int .i64 q∧u = .int .u64 X∧Hid (Rdb B rb wr lq bq)∧Hid (Side rb w wr)∧lq.length≤l.length∧Hid ((q≤l.length∧lq=l.drop q∧bq=bd∧X=beNat (l.take q))∨(l.length<q∧bq=true∧lq=[]))) (fun _ i _=>8-(intOf i).toNat)
 case atStart=>exact⟨0,0,l,bd,by omega,rfl,rfl,H,hide (Side.refl _ _),aC _,hide (.inl ⟨by omega,by simp,rfl,by simp[beNat]⟩)⟩
 case round =>
  obtain⟨q,X,lq,bq,hq,rfl,rfl,HR,HS,hle,HC⟩:=hrel;by_cases hlt:q<8
  ·go_wp2_with(go_at_call 266;(with_reducible refine(IK HR.out).mono ?_);rintro e w1 ⟨x,l1,b1,rfl,hr,hs,hx⟩;have HR1:=hide hr;have KG:=hide (HS.out.trans hs);have HX:=hide hx;clear hr hs hx)
   have key:l1.length≤l.length∧((q+1≤l.length∧l1=l.drop (q+1)∧b1=bd∧bits .or .u64 (IntKind.u64.wrap (X*256)) (IntKind.u64.wrap (x.toNat:Int))=beNat (l.take (q+1)))∨(l.length<q+1∧b1=true∧l1=[])):=by
    rcases HX.out with⟨e1,e2⟩|⟨e1,e2,e3⟩
    ·have hl1:l1.length≤l.length:=by
      have:=congrArg List.length e1;simp at this;omega
     refine⟨hl1,?_⟩;rcases HC.out with⟨g1,g2,g3,g4⟩|⟨g1,g2,g3⟩
     ·have zk:q<l.length:=by
       have:=congrArg List.length (g2.symm.trans e1);simp at this;omega
      have hdr:=List.drop_eq_getElem_cons zk;rw[←g2,e1]at hdr;injection hdr with hx hr;refine .inl ⟨by omega,hr,by rw[e2,g3],?_⟩;have hlt:beNat (l.take q)<72057594037927936:=by
       have h1:=Dn (l.take q);have h2:(l.take q).length=q:=by simp;omega
       rw[h2]at h1;exact aH h1 (Nat.pow_le_pow_right (by omega) (show q≤7 by omega))
      rw[g4,kz _ _ hlt (UInt8.toNat_lt _),PK l q zk,hx]
     ·rw[g3]at e1;cases e1
    ·refine⟨by rw[e2];simp,.inr ⟨?_,e3,e2⟩⟩;rcases HC.out with⟨g1,g2,g3,g4⟩|⟨g1,g2,_⟩
     ·have:=congrArg List.length (g2.symm.trans e1);simp at this;omega
     ·omega
   exact⟨⟨q+1,_,l1,b1,by omega,by go_num,rfl,HR1,KG,key.1,hide key.2⟩,by simp[intOf];omega⟩
  ·go_wp2_with fail
   go_ret;have hq8:q=8:=by omega
   subst hq8;refine⟨_,lq,bq,rfl,by unfold is63 wrap64;omega,HR.out,HS.out,hle,?_⟩;rcases HC.out with⟨g1,g2,g3,g4⟩|⟨g1,g2,g5⟩
   ·refine .inl ⟨?_,g3⟩;have ve:(l.take 8).length=8:=by simp;omega
    have hb8:=Dn (l.take 8);rw[ve,show(256:Nat) ^ 8=18446744073709551616 from rfl]at hb8;rw[g2,Kr ve (by unfold wrap64;omega),List.take_append_drop]
   ·exact .inr ⟨g1,g2,g5⟩
def ManyPost(B rb least:Nat)(w:World)(l:List UInt8)(bd:Bool)(e:Ending)(w':World):Prop:=∃(n:Nat) (l':List UInt8) (dB:Bool),e = .returned (.int .i64 n)∧n*least≤l'.length∧Rdb B rb w' l' dB∧Side rb w w'∧l'.length≤l.length∧
   ((l=num8 n++l'∧dB=bd)∨(n=0∧dB=true∧(l.length<8∨∃(m:Int) (l1:List UInt8),is63 m∧l=num8 m++l1∧¬(0≤m∧m≤(l1.length:Int) / least))))
theorem IL{B rb least:Nat}{w:World}{l:List UInt8}{bd:Bool}(h:Rdb B rb w l bd)(h0:0<least)(h1:least≤100):Calls Tryz.prog 287 #[.pointer (some ⟨rb,0,none⟩),.int .i64 least] w (ManyPost B rb least w l bd):=by
  have H:=hide h;clear h;go_enter Tryz.func287,Tryz.ntmps287
  go_wp2_with(go_at_call 268;(with_reducible refine(BK H.out).mono ?_);rintro e w1 ⟨n,l1,b1,rfl,hn,hr,hs,hle,hx⟩;obtain⟨A,c,k0,k1,k2,k3,kb,k5,k6⟩:=hr.cells;have HR:=hide hr;have HS:=hide hs;have HX:=hide hx;have hd0:0≤(l1.length:Int) / least:=Int.ediv_nonneg (by omega) (by omega);have hd1:(l1.length:Int) / least≤l1.length:=Int.ediv_le_self _ (by omega);have hq:wrap64 ((l1.length:Int) / least)=(l1.length:Int) / least:=(by generalize (l1.length:Int) / least=z at hd0 hd1;unfold wrap64;omega);clear hr hs hx kb)
  all_goals go_ret
  all_goals first
    | (refine⟨0,l1,true,rfl,by simp,HR.out.setBad,HS.out.set 1 _,hle,.inr ⟨rfl,rfl,?_⟩⟩
       rcases HX.out with⟨e1,e2⟩|⟨e1,_,_⟩
       · exact .inr ⟨n,l1,hn,e1,by omega⟩
       · exact .inl e1)
    | (obtain⟨m,rfl⟩:∃m:Nat,n=m:=⟨n.toNat,by omega⟩
       have hm:m*least≤l1.length:=by
         have h2:(m:Int)≤((l1.length / least:Nat):Int):=by rw[Int.natCast_ediv];omega
         exact(Nat.le_div_iff_mul_le h0).1 (by omega)
       refine⟨m,l1,b1,rfl,hm,HR.out,HS.out,hle,?_⟩;rcases HX.out with⟨e1,e2⟩|⟨e1,e2,e3⟩
       · exact .inl ⟨e1,e2⟩
       · refine .inr ⟨?_,e2,.inl e1⟩
         rw[e3,List.length_nil]at hm;rcases Nat.eq_zero_or_pos m with h|h
         · exact h
         · have:=Nat.mul_pos h h0
           omega)
def TextPost(B rb:Nat)(w:World)(l:List UInt8)(bd:Bool)(e:Ending)(w':World):Prop:=∃(s:ByteArray) (l':List UInt8) (dB:Bool),e = .returned (.string s)∧s.size≤max63∧Rdb B rb w' l' dB∧Side rb w w'∧l'.length≤l.length∧
   ((l=txtB s++l'∧dB=bd)∨(dB=true∧¬TextAt l))
theorem mf{l:List UInt8}(h:l.length<8∨∃(m:Int) (l1:List UInt8),is63 m∧l=num8 m++l1∧¬(0≤m∧m≤(l1.length:Int) / ((1:Nat):Int))):¬TextAt l:=by
 rintro⟨s,l',hs,rfl⟩;have e:s.data.toList.length=s.size:=by simp
 rcases h with h|⟨m,l1,hm,he,hno⟩
 ·simp only[txtB,aJ,eY]at h;omega
 ·unfold txtB at he;rw[List.append_assoc]at he;obtain⟨h1,h2⟩:=zag (iK hs) hm he;subst h1 h2;apply hno;simp only[aJ,e];omega
theorem LJ{B rb n:Nat}{w w':World}{l l1:List UInt8}{bd b1:Bool}(hl:l.length≤max63)(hn:n≤l1.length)(hle:l1.length≤l.length)(hS:Side rb w w')(hR:Rdb B rb w' (l1.drop n) b1)
  (hX:(l=num8 (n:Nat)++l1∧b1=bd)∨(n=0∧b1=true∧(l.length<8∨∃(m:Int) (l1:List UInt8),is63 m∧l=num8 m++l1∧¬(0≤m∧m≤(l1.length:Int) / ((1:Nat):Int))))):
  TextPost B rb w l bd (.returned (.string ⟨(l1.take n).toArray⟩)) w':=by
 have hz:(⟨(l1.take n).toArray⟩:ByteArray).size=n:=by
  show((l1.take n).toArray).size=n;simp;omega
 refine⟨_,l1.drop n,b1,rfl,by rw[hz];simp only[max63]at hl⊢;omega,hR,hS,by simp;omega,?_⟩;rcases hX with⟨e1,e2⟩|⟨_,e2,h⟩
 ·refine .inl ⟨?_,e2⟩;unfold txtB;rw[hz,e1,List.append_assoc];congr 1;exact(List.take_append_drop n l1).symm
 ·exact .inr ⟨e2,mf h⟩
theorem BL{B rb:Nat}{w:World}{l:List UInt8}{bd:Bool}(h:Rdb B rb w l bd)(hl:l.length≤max63):Calls Tryz.prog 267 #[.pointer (some ⟨rb,0,none⟩)] w (TextPost B rb w l bd):=by
 have HM:Hid (Calls Tryz.prog 287 #[.pointer (some ⟨rb,0,none⟩),.int .i64 1] w (ManyPost B rb 1 w l bd)):=hide (IL (least:=1) h (by decide) (by decide));clear h;go_enter Tryz.func267,Tryz.ntmps267
 go_wp2_with(go_at_call 287;(with_reducible refine HM.out.mono ?_);rintro e w1 ⟨n,l1,b1,rfl,hn,hr,hs,hle,hx⟩;obtain⟨A,c,k0,k1,k2,k3,kb,k5,k6⟩:=hr.cells;have hnl:n≤l1.length:=(by omega);have hcv:(convert 44 9 (.slice A n c)).run Tryz.prog w1 = .ok (.string ⟨(l1.take n).toArray⟩) w1:=(by have h1:=PW (rb:=rb) w1 A c (l1.take n) ((kb.take n).mono fun b _ hb=>(by have:=hr.1;show b≠rb;omega));rwa [show(l1.take n).length=n by simp;omega]at h1);have HR:=hide hr;have HS:=hide hs;have HX:=hide hx;have HB:=hide kb;clear hr hs hx kb;rcases A with _|a)
 ·go_ret;have hl0:l1=[]:=by
   rcases HB.out.1 with h|⟨_,_,h,_⟩
   ·simpa[bytesV]using h
   ·cases h
  exact LJ hl hnl hle (HS.out.set 0 _) (HR.out.setRest ⟨.inl (by rw[hl0];simp[bytesV]),by simp;omega⟩ (by simp) (by omega) (by omega)) HX.out
 ·go_ret;exact LJ hl hnl hle (HS.out.set 0 _) (HR.out.setRest ⟨.inl (by rw[List.drop_eq_nil_of_le (by omega)];rfl),by simp;omega⟩ (by simp) (by omega) (by omega)) HX.out
 ·go_ret;exact LJ hl hnl hle (HS.out.set 0 _) (HR.out.setRest (HB.out.drop n) (by simp) (by omega) (by omega)) HX.out
end
section
open Go.RowKit
abbrev Late(N:Nat)(w w':World):Prop:=Keep (fun b=>N<b∧b<w.heap.size) w w'
section
variable {N rb : Nat} {w w' w'' : World} {A : Option Addr}
theorem Late.refl(N:Nat)(w:World):Late N w w:=Keep.refl _ _
theorem Late.set(h:Late N w w'){a:Addr}(ha:a.block≤N)(u:Value):Late N w (w'.setCell a u):=Keep.setCell h (fun hk=>absurd hk.1 (by omega)) u
theorem Late.side(h:Late N w w')(hrb:rb<N)(hs:Side rb w' w''):Late N w w'' :=
 Keep.trans h (Keep.mono hs fun k hk=>⟨aH hk.2 h.size,by have:=hk.1;omega⟩)
theorem Late.trans(h:Late N w w')(h':Late N w' w''):Late N w w'':=Keep.trans h (Keep.mono h' fun k hk=>⟨hk.1,aH hk.2 h.size⟩)
theorem Rd.late{xs:List Value}(h:Rd (fun b=>N<b) w A xs)(hl:Late N w w'):Rd (fun b=>N<b) w' A xs :=
 ((h.mono (S':=fun b=>N<b∧b<w.heap.size) fun _ h1 h2=>⟨h2,h1⟩).keep hl.block).mono fun _ _ h=>h.1
theorem IntsIn.late{l:List Int}(h:IntsIn (fun b=>N<b) w A l)(hl:Late N w w'):IntsIn (fun b=>N<b) w' A l:=⟨h.1.late hl,h.2⟩
theorem StrsIn.late{l:List ByteArray}(h:StrsIn (fun b=>N<b) w A l)(hl:Late N w w'):StrsIn (fun b=>N<b) w' A l:=⟨h.1.late hl,h.2⟩
theorem FoIn.late{f:Fo}(h:FoIn (fun b=>N<b) w A f)(hl:Late N w w'):FoIn (fun b=>N<b) w' A f :=
 ((h.mono (S':=fun b=>N<b∧b<w.heap.size) fun _ h1 h2=>⟨h2,h1⟩).keep hl.block).mono fun _ _ h=>h.1
theorem EdIn.late{x:Eh}{e:Ed}(a:EdIn (fun b=>N<b) w x e)(hl:Late N w w'):EdIn (fun b=>N<b) w' x e :=
 ⟨a.kind,a.path.late hl,a.at_,a.far,a.frm,a.to,a.old.late hl,a.new.late hl,a.pc,a.oc,a.nc⟩
end
def EdAt(d:Nat)(l:List UInt8):Prop:=∃(e:Ed) (l':List UInt8),EdFit e∧e.old.high+d≤40∧e.new.high+d≤40∧l=edB e++l'
theorem qE{d:Nat}{x:UInt8}{l1:List UInt8}(h :¬RowAt num8 is63 l1):¬EdAt d (x::(l1)):=by
 rintro⟨e,l',hf,hh1,hh2,he⟩;simp only[edB,List.cons_append,List.append_assoc,List.cons.injEq]at he;obtain⟨_,he⟩:=he;exact h ⟨e.path,_,hf.path.1,hf.path.2,he⟩
theorem qF{d:Nat}{x:UInt8}{l1:List UInt8}{p:List Int}(h1:IntsFit p)(h:l1.length<8):¬EdAt d (x::(pathB p++(l1))):=by
 rintro⟨e,l',hf,hh1,hh2,he⟩;simp only[edB,List.cons_append,List.append_assoc,List.cons.injEq]at he;obtain⟨_,he⟩:=he;obtain⟨_,he⟩:=zg h1 hf.path he;rw[he,aJ,eY]at h;omega
theorem qG{d:Nat}{x:UInt8}{l1:List UInt8}{p:List Int}{a:Int}(h1:IntsFit p)(h2:is63 a)(h:l1.length<8):¬EdAt d (x::(pathB p++(num8 a++(l1)))):=by
 rintro⟨e,l',hf,hh1,hh2,he⟩;simp only[edB,List.cons_append,List.append_assoc,List.cons.injEq]at he;obtain⟨_,he⟩:=he;obtain⟨_,he⟩:=zg h1 hf.path he;obtain⟨_,he⟩:=zag h2 hf.at_ he;rw[he,aJ,eY]at h;omega
theorem qH{d:Nat}{x:UInt8}{l1:List UInt8}{p:List Int}{a:Int}{f:Int}(h1:IntsFit p)(h2:is63 a)(h3:is63 f)(h :¬TextAt l1):¬EdAt d (x::(pathB p++(num8 a++(num8 f++(l1))))):=by
 rintro⟨e,l',hf,hh1,hh2,he⟩;simp only[edB,List.cons_append,List.append_assoc,List.cons.injEq]at he;obtain⟨_,he⟩:=he;obtain⟨_,he⟩:=zg h1 hf.path he;obtain⟨_,he⟩:=zag h2 hf.at_ he;obtain⟨_,he⟩:=zag h3 hf.far he;exact h ⟨e.frm,_,hf.frm,he⟩
theorem qI{d:Nat}{x:UInt8}{l1:List UInt8}{p:List Int}{a:Int}{f:Int}{s:ByteArray}(h1:IntsFit p)(h2:is63 a)(h3:is63 f)(h4:s.size≤max63)(h :¬TextAt l1):¬EdAt d (x::(pathB p++(num8 a++(num8 f++(txtB s++(l1)))))):=by
 rintro⟨e,l',hf,hh1,hh2,he⟩;simp only[edB,List.cons_append,List.append_assoc,List.cons.injEq]at he;obtain⟨_,he⟩:=he;obtain⟨_,he⟩:=zg h1 hf.path he;obtain⟨_,he⟩:=zag h2 hf.at_ he;obtain⟨_,he⟩:=zag h3 hf.far he;obtain⟨_,he⟩:=jb h4 hf.frm he;exact h ⟨e.to,_,hf.to,he⟩
theorem qJ{d:Nat}{x:UInt8}{l1:List UInt8}{p:List Int}{a:Int}{f:Int}{s:ByteArray}{t:ByteArray}(h1:IntsFit p)(h2:is63 a)(h3:is63 f)(h4:s.size≤max63)(h5:t.size≤max63)(h :¬NodesAt d l1):¬EdAt d (x::(pathB p++(num8 a++(num8 f++(txtB s++(txtB t++(l1))))))):=by
 rintro⟨e,l',hf,hh1,hh2,he⟩;simp only[edB,List.cons_append,List.append_assoc,List.cons.injEq]at he;obtain⟨_,he⟩:=he;obtain⟨_,he⟩:=zg h1 hf.path he;obtain⟨_,he⟩:=zag h2 hf.at_ he;obtain⟨_,he⟩:=zag h3 hf.far he;obtain⟨_,he⟩:=jb h4 hf.frm he;obtain⟨_,he⟩:=jb h5 hf.to he;exact h ⟨e.old,_,hf.old,hh1,he⟩
theorem qK{d:Nat}{x:UInt8}{l1:List UInt8}{p:List Int}{a:Int}{f:Int}{s:ByteArray}{t:ByteArray}{o:Fo}(h1:IntsFit p)(h2:is63 a)(h3:is63 f)(h4:s.size≤max63)(h5:t.size≤max63)(h6:NodesFit o)(h :¬NodesAt d l1):¬EdAt d (x::(pathB p++(num8 a++(num8 f++(txtB s++(txtB t++(nodesB o++(l1)))))))):=by
 rintro⟨e,l',hf,hh1,hh2,he⟩;simp only[edB,List.cons_append,List.append_assoc,List.cons.injEq]at he;obtain⟨_,he⟩:=he;obtain⟨_,he⟩:=zg h1 hf.path he;obtain⟨_,he⟩:=zag h2 hf.at_ he;obtain⟨_,he⟩:=zag h3 hf.far he;obtain⟨_,he⟩:=jb h4 hf.frm he;obtain⟨_,he⟩:=jb h5 hf.to he;obtain⟨_,he⟩:=JZ h6 hf.old he;exact h ⟨e.new,_,hf.new,hh2,he⟩
theorem yA{d:Nat}:¬EdAt d []:=by
 rintro⟨e,l',_,_,_,he⟩;simp[edB]at he
theorem vP{N:Nat}{w3 w7 w8 w9 wF:World}{x:Eh}{e:Ed}{L3 L8 L9:List Nat}(o3:RowO 3 w3 x.pA x.pc e.path.length (e.path.map (.int .i64)) L3)(o8:NodesO w8 x.oA x.oc e.old L8)(o9:NodesO w9 x.nA x.nc e.new L9)
  (m3 :∀b∈L3,N<b) (m8 :∀b∈L8,w7.heap.size≤b) (m9 :∀b∈L9,w8.heap.size≤b) (h37:Late N w3 w7) (LK:Late N w7 w8) (QR:Late N w8 wF) (Wv:Late N w9 wF) (hN:N<w7.heap.size):
  ∃L,EdO wF x e L∧L.Nodup∧∀b∈L,N<b:=by
 have q8 :∀b∈L8,N<b:=fun b hb=>aH hN (m8 b hb);have q9 :∀b∈L9,N<b:=fun b hb=>aH hN (aI LK.size (m9 b hb));refine⟨L3++(L8++L9),⟨L3,L8,L9,o3.keep fun b hb=>(h37.trans (LK.trans QR)).block b ⟨m3 b hb,o3.lt b hb⟩,o8.keep fun b hb=>QR.block b ⟨q8 b hb,o8.lt b hb⟩,o9.keep fun b hb=>Wv.block b ⟨q9 b hb,o9.lt b hb⟩,rfl⟩,?_,fun b hb=>?_⟩
 ·refine BG o3.nodup (BG o8.nodup o9.nodup o8.lt m9) (M:=w7.heap.size) (fun b hb=>aH (o3.lt b hb) h37.size) fun b hb=>?_;rcases List.mem_append.1 hb with hb|hb
  ·exact m8 b hb
  ·exact aI LK.size (m9 b hb)
 ·simp only[List.mem_append]at hb;rcases hb with hb|hb|hb
  ·exact m3 b hb
  ·exact q8 b hb
  ·exact q9 b hb
def EdPost(D:Nat→Prop)(rb d:Nat)(w:World)(l:List UInt8)(e1:Ending)(w':World):Prop :=
 (∃(e:Ed) (x:Eh) (l':List UInt8),l=edB e++l'∧EdFit e∧e.old.high+d≤40∧e.new.high+d≤40∧e1 = .returned (.agg #[.int .u8 e.kind,.slice x.pA e.path.length x.pc,.int .i64 e.at_,.int .i64 e.far,.string e.frm,.string e.to,.slice x.oA e.old.len x.oc,.slice x.nA e.new.len x.nc])∧EdIn (fun b=>w.heap.size<b) w' x e∧Rdr D rb w' l' d∧Side rb w w'∧∃L,EdO w' x e L∧L.Nodup∧∀b∈L,w.heap.size<b)∨
 (¬EdAt d l∧e1=oops∧Side rb w w')
theorem qL{D:Nat→Prop}{rb d:Nat}{w:World}{l:List UInt8}(h:Rdr D rb w l d)(hd:d≤40)(hl:l.length≤lid):
  Calls Tryz.prog 252 #[.pointer (some ⟨rb,0,none⟩)] w (EdPost D rb d w l):=by
 have hrb:=h.lt;have gI:=hide h.off;have H:=hide h.old;have hl':l.length≤1099511627776:=hl;clear h hl;rcases l with _|⟨x,l1⟩
 ·go_enter Tryz.func252,Tryz.ntmps252
  go_wp2_with(go_at_call 248;refine(Ic (H.out.alloc _) (by unfold is63;omega) (by simp)).mono ?_;rintro e w2 ⟨rfl,hs⟩;exact⟨rfl,.inr ⟨yA,rfl,Side.trans (Side.alloc (Side.refl rb w) _) hs⟩⟩)
 ·have hx:=x.toNat_lt;have hll:l1.length+1≤1099511627776:=hl';clear hl';go_enter Tryz.func252,Tryz.ntmps252
  go_wp2_with(first
    | (go_at_call 248;refine(Dw (H.out.alloc _) (by simp)).mono ?_;rintro e w2 ⟨A,c,rfl,hb,hr,hs⟩;obtain⟨bb,bo,rfl,hx0⟩:=hb.1.at_ (j:=0) (by simp[bytesV]);simp only[bytesV,List.take_succ_cons,List.take_zero,List.map_cons,List.map_nil,aE,Nat.add_zero]at hx0;obtain⟨ha2,hb2,hc2⟩:=hs.box (N:=w.heap.size) (by simp) (by omega);have nY:Hid (Has w2 w.heap.size 8):=hide (Has.of_eq (Has.new _ _ _ _ (by simp)) ha2);have pF:Hid (Rdr (fun b=>D b∧b<w.heap.size) rb w2 l1 d):=hide hr;have HS2:=hide (Side.trans (Side.alloc (Side.refl rb w) _) hs);clear hb hr hs)
    | (go_at_call 277;(refine(Vo (pF.out.setNew hrb (a:=⟨w.heap.size,0,none⟩) (aC _) _) (show _≤1099511627776 by omega)).mono ?_);rintro e w3 hP;rcases hP with⟨p,l2,pA,pc,he3,hf3,rfl,hin,vS,vT,hr,hs,hO⟩|⟨hno,rfl,hs⟩;all_goals first
      | exact⟨rfl,.inr ⟨qE hno,rfl,Side.trans (Side.setNew HS2.out (a:=⟨w.heap.size,0,none⟩) (aC _) _) hs⟩⟩
      | (have dF:=hide (Side.trans (Side.setNew HS2.out (a:=⟨w.heap.size,0,none⟩) (aC _) _) hs);have vU:Hid (Late w.heap.size w2 w3):=hide (Late.side (Late.set (Late.refl w.heap.size w2) (a:=⟨w.heap.size,0,none⟩) (aC _) _) hrb hs);have BM:=hide (hin.mono (S':=fun b=>w.heap.size<b) (fun b _ hb=>aH (by first|(simp;exact hc2)|exact hc2) hb));obtain⟨nS,hb3,hc3⟩:=hs.box (N:=w.heap.size) (by first|(simp;exact hc2)|exact hc2) (by omega);have zK:=hide (Has.of_eq (Has.set nY.out ⟨w.heap.size,0,none⟩ _) nS);have vG:=hide hr;have eu:=hide he3;have dK:Hid (IntsFit p):=hide ⟨hf3,aI vS vT⟩;have hl2:l2.length≤l1.length:=(by rw[he3,aJ];omega);have Wx:=hide hO;clear hr hs hin he3 hf3 hO))
    | (go_at_call 250;(refine(zi (vG.out.setNew hrb (a:=⟨w.heap.size,1,none⟩) (aC _) _)).mono ?_);rintro e w4 hP;rcases hP with⟨at_,l3,he4,hn4,rfl,hr,hs⟩|⟨hno,rfl,hs⟩;all_goals first
      | exact⟨rfl,.inr ⟨by rw[eu.out];exact qF dK.out hno,rfl,Side.trans (Side.setNew dF.out (a:=⟨w.heap.size,1,none⟩) (aC _) _) hs⟩⟩
      | (have gu:=hide (Side.trans (Side.setNew dF.out (a:=⟨w.heap.size,1,none⟩) (aC _) _) hs);have uI:Hid (Late w.heap.size w3 w4):=hide (Late.side (Late.set (Late.refl w.heap.size w3) (a:=⟨w.heap.size,1,none⟩) (aC _) _) hrb hs);have fV:=hide (BM.out.late uI.out);obtain⟨nT,hb4,hc4⟩:=hs.box (N:=w.heap.size) (by first|(simp;exact hc3)|exact hc3) (by omega);have zL:=hide (Has.of_eq (Has.set zK.out ⟨w.heap.size,1,none⟩ _) nT);have zC:=hide hr;have iQ:=hide he4;have fJ:=hide hn4;have hl3:l3.length≤l2.length:=(by rw[he4,aJ];omega);clear hr hs he4 hn4))
    | (go_at_call 250;(refine(zi zC.out).mono ?_);rintro e w5 hP;rcases hP with⟨far,l4,uD,QS,rfl,hr,hs⟩|⟨hno,rfl,hs⟩;all_goals first
      | exact⟨rfl,.inr ⟨by rw[eu.out,iQ.out];exact qG dK.out fJ.out hno,rfl,Side.trans gu.out hs⟩⟩
      | (have jl:=hide (Side.trans gu.out hs);have nZ:Hid (Late w.heap.size w4 w5):=hide (Late.side (Late.refl w.heap.size w4) hrb hs);have LM:=hide (fV.out.late nZ.out);obtain⟨nU,hb5,hc5⟩:=hs.box (N:=w.heap.size) (by first|(simp;exact hc4)|exact hc4) (by omega);have dG:=hide (Has.of_eq zL.out nU);have DI:=hide hr;have uF:=hide uD;have qM:=hide QS;have hl4:l4.length≤l3.length:=(by rw[uD,aJ];omega);clear hr hs uD QS))
    | (go_at_call 249;(refine(yc ((DI.out.setNew hrb (a:=⟨w.heap.size,2,none⟩) (aC _) _).setNew hrb (a:=⟨w.heap.size,3,none⟩) (aC _) _) (show _≤9223372036854775807 by omega)).mono ?_);rintro e w6 hP;rcases hP with⟨frm,l5,BN,QT,rfl,hr,hs⟩|⟨hno,rfl,hs⟩;all_goals first
      | exact⟨rfl,.inr ⟨by rw[eu.out,iQ.out,uF.out];exact qH dK.out fJ.out qM.out hno,rfl,Side.trans (Side.setNew (Side.setNew jl.out (a:=⟨w.heap.size,2,none⟩) (aC _) _) (a:=⟨w.heap.size,3,none⟩) (aC _) _) hs⟩⟩
      | (have uJ:=hide (Side.trans (Side.setNew (Side.setNew jl.out (a:=⟨w.heap.size,2,none⟩) (aC _) _) (a:=⟨w.heap.size,3,none⟩) (aC _) _) hs);have kK:Hid (Late w.heap.size w5 w6):=hide (Late.side (Late.set (Late.set (Late.refl w.heap.size w5) (a:=⟨w.heap.size,2,none⟩) (aC _) _) (a:=⟨w.heap.size,3,none⟩) (aC _) _) hrb hs);have LP:=hide (LM.out.late kK.out);obtain⟨ha6,hb6,hc6⟩:=hs.box (N:=w.heap.size) (by first|(simp;exact hc5)|exact hc5) (by omega);have LQ:=hide (Has.of_eq (Has.set (Has.set dG.out ⟨w.heap.size,2,none⟩ _) ⟨w.heap.size,3,none⟩ _) ha6);have QU:=hide hr;have BO:=hide BN;have vV:=hide QT;have hl5:l5.length≤l4.length:=(by rw[BN,aJ];omega);clear hr hs BN QT))
    | (go_at_call 249;(refine(yc QU.out (show _≤9223372036854775807 by omega)).mono ?_);rintro e w7 hP;rcases hP with⟨gz,l6,LU,QV,rfl,hr,hs⟩|⟨hno,rfl,hs⟩;all_goals first
      | exact⟨rfl,.inr ⟨by rw[eu.out,iQ.out,uF.out,BO.out];exact qI dK.out fJ.out qM.out vV.out hno,rfl,Side.trans uJ.out hs⟩⟩
      | (have Eb:=hide (Side.trans uJ.out hs);have zM:Hid (Late w.heap.size w6 w7):=hide (Late.side (Late.refl w.heap.size w6) hrb hs);have LV:=hide (LP.out.late zM.out);obtain⟨Ec,hb7,BP⟩:=hs.box (N:=w.heap.size) (by first|(simp;exact hc6)|exact hc6) (by omega);have jc:=hide (Has.of_eq LQ.out Ec);have Wy:=hide hr;have LW:=hide LU;have IM:=hide QV;have hl6:l6.length≤l5.length:=(by rw[LU,aJ];omega);clear hr hs LU QV))
    | (go_at_call 278;(refine(Qo ((Wy.out.setNew hrb (a:=⟨w.heap.size,4,none⟩) (aC _) _).setNew hrb (a:=⟨w.heap.size,5,none⟩) (aC _) _) hd (show _≤1099511627776 by omega)).mono ?_);rintro e w8 hP;rcases hP with⟨fo,l7,oA,oc,LX,QW,WA,rfl,hin,mg,mi,hr,hs,hO⟩|⟨hno,rfl,hs⟩;all_goals first
      | exact⟨rfl,.inr ⟨by rw[eu.out,iQ.out,uF.out,BO.out,LW.out];exact qJ dK.out fJ.out qM.out vV.out IM.out hno,rfl,Side.trans (Side.setNew (Side.setNew Eb.out (a:=⟨w.heap.size,4,none⟩) (aC _) _) (a:=⟨w.heap.size,5,none⟩) (aC _) _) hs⟩⟩
      | (have QX:=hide (Side.trans (Side.setNew (Side.setNew Eb.out (a:=⟨w.heap.size,4,none⟩) (aC _) _) (a:=⟨w.heap.size,5,none⟩) (aC _) _) hs);have QY:Hid (Late w.heap.size w7 w8):=hide (Late.side (Late.set (Late.set (Late.refl w.heap.size w7) (a:=⟨w.heap.size,4,none⟩) (aC _) _) (a:=⟨w.heap.size,5,none⟩) (aC _) _) hrb hs);have LY:=hide (LV.out.late QY.out);have LZ:=hide (hin.mono (S':=fun b=>w.heap.size<b) (fun b _ hb=>aH (by first|(simp;exact BP)|exact BP) hb));obtain⟨QZ,hb8,hc8⟩:=hs.box (N:=w.heap.size) (by first|(simp;exact BP)|exact BP) (by omega);have WB:=hide (Has.of_eq (Has.set (Has.set jc.out ⟨w.heap.size,4,none⟩ _) ⟨w.heap.size,5,none⟩ _) QZ);have WC:=hide hr;have Q3:=hide LX;have Q4:Hid (NodesFit fo):=hide ⟨QW,aI mg mi⟩;have hl7:l7.length≤l6.length:=(by rw[LX,aJ];omega);have WE:=hide hO;clear hr hs hin LX QW hO))
    | (go_at_call 278;(refine(Qo WC.out hd (show _≤1099511627776 by omega)).mono ?_);rintro e w9 hP;rcases hP with⟨fn,l8,nA,nc,Q5,Q7,hh9,rfl,hin,mr,jh,hr,hs,hO⟩|⟨hno,rfl,hs⟩;all_goals first
      | exact⟨rfl,.inr ⟨by rw[eu.out,iQ.out,uF.out,BO.out,LW.out,Q3.out];exact qK dK.out fJ.out qM.out vV.out IM.out Q4.out hno,rfl,Side.trans QX.out hs⟩⟩
      | (have WG:=hide (Side.trans QX.out hs);have Ee:Hid (Late w.heap.size w8 w9):=hide (Late.side (Late.refl w.heap.size w8) hrb hs);have IP:=hide (LY.out.late Ee.out);have BQ:=hide (LZ.out.late Ee.out);have IQ:=hide (hin.mono (S':=fun b=>w.heap.size<b) (fun b _ hb=>aH (by first|(simp;exact hc8)|exact hc8) hb));obtain⟨Q8,Mc,hc9⟩:=hs.box (N:=w.heap.size) (by first|(simp;exact hc8)|exact hc8) (by omega);have yB:=hide (Has.of_eq WB.out Q8);have WH:=hide hr;have WI:=hide Q5;have WJ:Hid (NodesFit fn):=hide ⟨Q7,aI mr jh⟩;have WL:=hide hO;clear hr hs hin Q5 Q7 hO))
  )
  refine bodyPost_ret (v:= .agg #[.int .u8 x.toNat,.slice pA p.length pc,.int .i64 at_,.int .i64 far,.string frm,.string gz,.slice oA fo.len oc,.slice nA fn.len nc]) ?_ rfl ?_
  ·clear ha2 nS nT nU ha6 Ec QZ Q8;have g0:((((w9.setCell ⟨w.heap.size,6,none⟩ (.slice oA fo.len oc)).setCell ⟨w.heap.size,7,none⟩ (.slice nA fn.len nc)).setCell ⟨w.heap.size,0,none⟩ (.int .u8 x.toNat))).cell? ⟨w.heap.size,0,none⟩=some (.int .u8 x.toNat):=aT (n:=8) (Has.set (Has.set yB.out ⟨w.heap.size,6,none⟩ _) ⟨w.heap.size,7,none⟩ _) (by omega);have g1:(((((w9.setCell ⟨w.heap.size,6,none⟩ (.slice oA fo.len oc)).setCell ⟨w.heap.size,7,none⟩ (.slice nA fn.len nc)).setCell ⟨w.heap.size,0,none⟩ (.int .u8 x.toNat)).setCell ⟨w.heap.size,1,none⟩ (.slice pA p.length pc))).cell? ⟨w.heap.size,1,none⟩=some (.slice pA p.length pc):=aT (n:=8) (Has.set (Has.set (Has.set yB.out ⟨w.heap.size,6,none⟩ _) ⟨w.heap.size,7,none⟩ _) ⟨w.heap.size,0,none⟩ _) (by omega);have g2:((((((w9.setCell ⟨w.heap.size,6,none⟩ (.slice oA fo.len oc)).setCell ⟨w.heap.size,7,none⟩ (.slice nA fn.len nc)).setCell ⟨w.heap.size,0,none⟩ (.int .u8 x.toNat)).setCell ⟨w.heap.size,1,none⟩ (.slice pA p.length pc)).setCell ⟨w.heap.size,2,none⟩ (.int .i64 at_))).cell? ⟨w.heap.size,2,none⟩=some (.int .i64 at_):=aT (n:=8) (Has.set (Has.set (Has.set (Has.set yB.out ⟨w.heap.size,6,none⟩ _) ⟨w.heap.size,7,none⟩ _) ⟨w.heap.size,0,none⟩ _) ⟨w.heap.size,1,none⟩ _) (by omega);have g3:(((((((w9.setCell ⟨w.heap.size,6,none⟩ (.slice oA fo.len oc)).setCell ⟨w.heap.size,7,none⟩ (.slice nA fn.len nc)).setCell ⟨w.heap.size,0,none⟩ (.int .u8 x.toNat)).setCell ⟨w.heap.size,1,none⟩ (.slice pA p.length pc)).setCell ⟨w.heap.size,2,none⟩ (.int .i64 at_)).setCell ⟨w.heap.size,3,none⟩ (.int .i64 far))).cell? ⟨w.heap.size,3,none⟩=some (.int .i64 far):=aT (n:=8) (Has.set (Has.set (Has.set (Has.set (Has.set yB.out ⟨w.heap.size,6,none⟩ _) ⟨w.heap.size,7,none⟩ _) ⟨w.heap.size,0,none⟩ _) ⟨w.heap.size,1,none⟩ _) ⟨w.heap.size,2,none⟩ _) (by omega);have g4:((((((((w9.setCell ⟨w.heap.size,6,none⟩ (.slice oA fo.len oc)).setCell ⟨w.heap.size,7,none⟩ (.slice nA fn.len nc)).setCell ⟨w.heap.size,0,none⟩ (.int .u8 x.toNat)).setCell ⟨w.heap.size,1,none⟩ (.slice pA p.length pc)).setCell ⟨w.heap.size,2,none⟩ (.int .i64 at_)).setCell ⟨w.heap.size,3,none⟩ (.int .i64 far)).setCell ⟨w.heap.size,4,none⟩ (.string frm))).cell? ⟨w.heap.size,4,none⟩=some (.string frm):=aT (n:=8) (Has.set (Has.set (Has.set (Has.set (Has.set (Has.set yB.out ⟨w.heap.size,6,none⟩ _) ⟨w.heap.size,7,none⟩ _) ⟨w.heap.size,0,none⟩ _) ⟨w.heap.size,1,none⟩ _) ⟨w.heap.size,2,none⟩ _) ⟨w.heap.size,3,none⟩ _) (by omega);have g5:(((((((((w9.setCell ⟨w.heap.size,6,none⟩ (.slice oA fo.len oc)).setCell ⟨w.heap.size,7,none⟩ (.slice nA fn.len nc)).setCell ⟨w.heap.size,0,none⟩ (.int .u8 x.toNat)).setCell ⟨w.heap.size,1,none⟩ (.slice pA p.length pc)).setCell ⟨w.heap.size,2,none⟩ (.int .i64 at_)).setCell ⟨w.heap.size,3,none⟩ (.int .i64 far)).setCell ⟨w.heap.size,4,none⟩ (.string frm)).setCell ⟨w.heap.size,5,none⟩ (.string gz))).cell? ⟨w.heap.size,5,none⟩=some (.string gz):=aT (n:=8) (Has.set (Has.set (Has.set (Has.set (Has.set (Has.set (Has.set yB.out ⟨w.heap.size,6,none⟩ _) ⟨w.heap.size,7,none⟩ _) ⟨w.heap.size,0,none⟩ _) ⟨w.heap.size,1,none⟩ _) ⟨w.heap.size,2,none⟩ _) ⟨w.heap.size,3,none⟩ _) ⟨w.heap.size,4,none⟩ _) (by omega);have g6:((((((((((w9.setCell ⟨w.heap.size,6,none⟩ (.slice oA fo.len oc)).setCell ⟨w.heap.size,7,none⟩ (.slice nA fn.len nc)).setCell ⟨w.heap.size,0,none⟩ (.int .u8 x.toNat)).setCell ⟨w.heap.size,1,none⟩ (.slice pA p.length pc)).setCell ⟨w.heap.size,2,none⟩ (.int .i64 at_)).setCell ⟨w.heap.size,3,none⟩ (.int .i64 far)).setCell ⟨w.heap.size,4,none⟩ (.string frm)).setCell ⟨w.heap.size,5,none⟩ (.string gz)).setCell ⟨w.heap.size,6,none⟩ (.slice oA fo.len oc))).cell? ⟨w.heap.size,6,none⟩=some (.slice oA fo.len oc):=aT (n:=8) (Has.set (Has.set (Has.set (Has.set (Has.set (Has.set (Has.set (Has.set yB.out ⟨w.heap.size,6,none⟩ _) ⟨w.heap.size,7,none⟩ _) ⟨w.heap.size,0,none⟩ _) ⟨w.heap.size,1,none⟩ _) ⟨w.heap.size,2,none⟩ _) ⟨w.heap.size,3,none⟩ _) ⟨w.heap.size,4,none⟩ _) ⟨w.heap.size,5,none⟩ _) (by omega);have g7:(((((((((((w9.setCell ⟨w.heap.size,6,none⟩ (.slice oA fo.len oc)).setCell ⟨w.heap.size,7,none⟩ (.slice nA fn.len nc)).setCell ⟨w.heap.size,0,none⟩ (.int .u8 x.toNat)).setCell ⟨w.heap.size,1,none⟩ (.slice pA p.length pc)).setCell ⟨w.heap.size,2,none⟩ (.int .i64 at_)).setCell ⟨w.heap.size,3,none⟩ (.int .i64 far)).setCell ⟨w.heap.size,4,none⟩ (.string frm)).setCell ⟨w.heap.size,5,none⟩ (.string gz)).setCell ⟨w.heap.size,6,none⟩ (.slice oA fo.len oc)).setCell ⟨w.heap.size,7,none⟩ (.slice nA fn.len nc))).cell? ⟨w.heap.size,7,none⟩=some (.slice nA fn.len nc):=aT (n:=8) (Has.set (Has.set (Has.set (Has.set (Has.set (Has.set (Has.set (Has.set (Has.set yB.out ⟨w.heap.size,6,none⟩ _) ⟨w.heap.size,7,none⟩ _) ⟨w.heap.size,0,none⟩ _) ⟨w.heap.size,1,none⟩ _) ⟨w.heap.size,2,none⟩ _) ⟨w.heap.size,3,none⟩ _) ⟨w.heap.size,4,none⟩ _) ⟨w.heap.size,5,none⟩ _) ⟨w.heap.size,6,none⟩ _) (by omega);simp only[results,Tryz.results252];go_simp
  ·have hL:Late w.heap.size w9 ((((((((((w9.setCell ⟨w.heap.size,6,none⟩ (.slice oA fo.len oc)).setCell ⟨w.heap.size,7,none⟩ (.slice nA fn.len nc)).setCell ⟨w.heap.size,0,none⟩ (.int .u8 x.toNat)).setCell ⟨w.heap.size,1,none⟩ (.slice pA p.length pc)).setCell ⟨w.heap.size,2,none⟩ (.int .i64 at_)).setCell ⟨w.heap.size,3,none⟩ (.int .i64 far)).setCell ⟨w.heap.size,4,none⟩ (.string frm)).setCell ⟨w.heap.size,5,none⟩ (.string gz)).setCell ⟨w.heap.size,6,none⟩ (.slice oA fo.len oc)).setCell ⟨w.heap.size,7,none⟩ (.slice nA fn.len nc)):=(Late.set (Late.set (Late.set (Late.set (Late.set (Late.set (Late.set (Late.set (Late.set (Late.set (Late.refl w.heap.size w9) (a:=⟨w.heap.size,6,none⟩) (aC _) _) (a:=⟨w.heap.size,7,none⟩) (aC _) _) (a:=⟨w.heap.size,0,none⟩) (aC _) _) (a:=⟨w.heap.size,1,none⟩) (aC _) _) (a:=⟨w.heap.size,2,none⟩) (aC _) _) (a:=⟨w.heap.size,3,none⟩) (aC _) _) (a:=⟨w.heap.size,4,none⟩) (aC _) _) (a:=⟨w.heap.size,5,none⟩) (aC _) _) (a:=⟨w.heap.size,6,none⟩) (aC _) _) (a:=⟨w.heap.size,7,none⟩) (aC _) _);refine .inl ⟨⟨x.toNat,p,at_,far,frm,gz,fo,fn⟩,⟨pA,pc,oA,oc,nA,nc⟩,l8,?_,⟨by show x.toNat<256;omega,dK.out,fJ.out,qM.out,vV.out,IM.out,Q4.out,WJ.out⟩,WA,hh9,rfl,?_,?_,?_,?_⟩
   ·rw[eu.out,iQ.out,uF.out,BO.out,LW.out,Q3.out,WI.out];simp[edB]
   ·exact⟨by show x.toNat<256;omega,IP.out.late hL,fJ.out,qM.out,vV.out,IM.out,BQ.out.late hL,IQ.out.late hL,⟨vS,vT⟩,⟨mg,mi⟩,⟨mr,jh⟩⟩
   ·exact Rdr.back ((((((((((WH.out.setNew hrb (a:=⟨w.heap.size,6,none⟩) (aC _) _).setNew hrb (a:=⟨w.heap.size,7,none⟩) (aC _) _).setNew hrb (a:=⟨w.heap.size,0,none⟩) (aC _) _).setNew hrb (a:=⟨w.heap.size,1,none⟩) (aC _) _).setNew hrb (a:=⟨w.heap.size,2,none⟩) (aC _) _).setNew hrb (a:=⟨w.heap.size,3,none⟩) (aC _) _).setNew hrb (a:=⟨w.heap.size,4,none⟩) (aC _) _).setNew hrb (a:=⟨w.heap.size,5,none⟩) (aC _) _).setNew hrb (a:=⟨w.heap.size,6,none⟩) (aC _) _).setNew hrb (a:=⟨w.heap.size,7,none⟩) (aC _) _) gI.out
   ·exact(Side.setNew (Side.setNew (Side.setNew (Side.setNew (Side.setNew (Side.setNew (Side.setNew (Side.setNew (Side.setNew (Side.setNew WG.out (a:=⟨w.heap.size,6,none⟩) (aC _) _) (a:=⟨w.heap.size,7,none⟩) (aC _) _) (a:=⟨w.heap.size,0,none⟩) (aC _) _) (a:=⟨w.heap.size,1,none⟩) (aC _) _) (a:=⟨w.heap.size,2,none⟩) (aC _) _) (a:=⟨w.heap.size,3,none⟩) (aC _) _) (a:=⟨w.heap.size,4,none⟩) (aC _) _) (a:=⟨w.heap.size,5,none⟩) (aC _) _) (a:=⟨w.heap.size,6,none⟩) (aC _) _) (a:=⟨w.heap.size,7,none⟩) (aC _) _)
   ·obtain⟨L3,o3,m3⟩:=Wx.out;obtain⟨L8,o8,m8⟩:=WE.out;obtain⟨L9,o9,m9⟩:=WL.out;have t37:=uI.out.trans (nZ.out.trans (kK.out.trans zM.out));exact vP o3 o8 o9 (fun b hb=>aH hc2 (by have:=m3 b hb;simpa using this)) (fun b hb=>by have:=m8 b hb;simpa using this) m9 t37 QY.out (Ee.out.trans hL) hL BP
end
section
open Go.RowKit
def PatAt(l:List UInt8):Prop:=∃q:Pt,PtFit q∧PtOk q∧l=ptB q
theorem mD :∀{f:Fo} {m p i:Nat},FoOk m p i f→f.high≤m:=by
 intro f
 induction f with
 | nil=>intro m p i _;simp[Fo.high]
 | cons k t n ks r ihk ihr =>
  rintro m p i ⟨_,h1,_,h2,_,h3⟩;have a:=ihk h2;have b:=ihr h3;simp only[Fo.high];omega
theorem Ef{f:Fo}(h:PartOk f):f.high≤40:=by
 match f,h with
 | .cons k t n ks .nil,h =>
  obtain⟨h1,_,h2,_⟩:=h;have:=mD h2;simp only[Fo.high];omega
theorem Q9{e:Ed}(h:EdOk e):e.old.high+0≤40∧e.new.high+0≤40:=by
 obtain⟨_,h|h|h|h|h⟩:=h
 ·obtain⟨_,_,_,h1,h2,_⟩:=h;simp[h1,h2,Fo.high]
 ·obtain⟨_,_,_,_,h1,_,h2⟩:=h;have:=Ef h2;simp[h1,Fo.high];omega
 ·obtain⟨_,_,_,_,h1,_,h2⟩:=h;have:=Ef h2;simp[h1,Fo.high];omega
 ·obtain⟨_,_,_,_,_,_,h1,h2,_⟩:=h;have:=Ef h1;have:=Ef h2;omega
 ·obtain⟨_,_,_,h1,_,_,_,h2⟩:=h;have:=Ef h2;simp[h1,Fo.high];omega
theorem og{S:Nat→Prop}{w:World}:HkIn S w ⟨none,0,none,0⟩ Hk.zero∧EdIn S w ⟨none,0,none,0,none,0⟩ Ed.zero :=
  ⟨⟨by simp[isInt64,Hk.zero],⟨.inl rfl,by simp[Hk.zero],by simp[Hk.zero]⟩,⟨.inl rfl,by simp[Hk.zero],by simp[Hk.zero]⟩,by simp[Hk.zero],by simp[Hk.zero]⟩,
   ⟨by simp[Ed.zero],⟨.inl rfl,by simp[Ed.zero],by simp[Ed.zero]⟩,by simp[isInt64,Ed.zero],by simp[isInt64,Ed.zero],Nat.zero_le _,Nat.zero_le _,trivial,trivial,by simp[Ed.zero],by simp[Ed.zero,Fo.len],by simp[Ed.zero,Fo.len]⟩⟩
theorem jd:HkFit Hk.zero∧EdFit Ed.zero :=
  ⟨⟨by simp[is63,Hk.zero],⟨by simp[Hk.zero],by simp[Hk.zero]⟩,⟨by simp[Hk.zero],by simp[Hk.zero]⟩⟩,
   ⟨by simp[Ed.zero],⟨by simp[Ed.zero],by simp[Ed.zero]⟩,by simp[is63,Ed.zero],by simp[is63,Ed.zero],Nat.zero_le _,Nat.zero_le _,⟨trivial,by simp[Ed.zero,Fo.len]⟩,⟨trivial,by simp[Ed.zero,Fo.len]⟩⟩⟩
theorem kL:Ed.zero.frm.size+Ed.zero.to.size≤9223372036854775807:=by decide
theorem IU :¬PatAt []:=by
 rintro⟨q,_,_,he⟩;simp[ptB]at he
theorem Rf{x:UInt8}{l1:List UInt8}(h:PatAt (x::l1)):∃(q:Pt),PtFit q∧PtOk q∧q.kind=x.toNat∧l1=txtB q.file++(if x.toNat=3 then num8 q.hunk.at_++(txtsB q.hunk.old++txtsB q.hunk.new)else if x.toNat=4 then edB q.edit else txtB q.text):=by
 obtain⟨q,hf,ho,he⟩:=h;simp only[ptB,List.cons.injEq]at he;obtain⟨h0,h1⟩:=he;have hk:q.kind=x.toNat:=by
  have:=congrArg UInt8.toNat h0;rw[GY]at this;have:=hf.kind;omega
 rw[hk]at h1;exact⟨q,hf,ho,hk,h1⟩
theorem BR{x:UInt8}{l1:List UInt8}(h :¬TextAt l1):¬PatAt (x::l1):=by
 intro hp;obtain⟨q,hf,_,_,he⟩:=Rf hp;exact h ⟨q.file,_,hf.file,he⟩
theorem Eg{x:UInt8}{f:ByteArray}{l2:List UInt8}(h1:f.size≤max63)(hp:PatAt (x::(txtB f++l2))):
  ∃(q:Pt),PtFit q∧PtOk q∧q.kind=x.toNat∧l2=(if x.toNat=3 then num8 q.hunk.at_++(txtsB q.hunk.old++txtsB q.hunk.new)else if x.toNat=4 then edB q.edit else txtB q.text):=by
 obtain⟨q,hf,ho,hk,he⟩:=Rf hp;exact⟨q,hf,ho,hk,(jb h1 hf.file he).2⟩
theorem Rh{x:UInt8}{f:ByteArray}{l2:List UInt8}(hx:x.toNat=3)(h1:f.size≤max63)(h:l2.length<8):¬PatAt (x::(txtB f++l2)):=by
 intro hp;obtain⟨q,hf,_,_,he⟩:=Eg h1 hp;rw[if_pos hx]at he;rw[he,aJ,eY]at h;omega
theorem Ri{x:UInt8}{f:ByteArray}{a:Int}{l2:List UInt8}(hx:x.toNat=3)(h1:f.size≤max63)(h2:is63 a)(h :¬RowAt txtB (fun s=>s.size≤max63) l2):¬PatAt (x::(txtB f++(num8 a++l2))):=by
 intro hp;obtain⟨q,hf,_,_,he⟩:=Eg h1 hp;rw[if_pos hx]at he;obtain⟨_,he⟩:=zag h2 hf.hunk.at_ he;exact h ⟨q.hunk.old,_,hf.hunk.old.1,hf.hunk.old.2,he⟩
theorem Rj{x:UInt8}{f:ByteArray}{a:Int}{o:List ByteArray}{l2:List UInt8}(hx:x.toNat=3)(h1:f.size≤max63)(h2:is63 a)(h3:StrsFit o)(h :¬RowAt txtB (fun s=>s.size≤max63) l2):¬PatAt (x::(txtB f++(num8 a++(txtsB o++l2)))):=by
 intro hp;obtain⟨q,hf,_,_,he⟩:=Eg h1 hp;rw[if_pos hx]at he;obtain⟨_,he⟩:=zag h2 hf.hunk.at_ he;obtain⟨_,he⟩:=JX h3 hf.hunk.old he;exact h ⟨q.hunk.new,[],hf.hunk.new.1,hf.hunk.new.2,by rw[List.append_nil];exact he⟩
theorem Rk{x:UInt8}{f:ByteArray}{l2:List UInt8}(hx:x.toNat=4)(h1:f.size≤max63)(h :¬EdAt 0 l2):¬PatAt (x::(txtB f++l2)):=by
 intro hp;obtain⟨q,hf,ho,hk,he⟩:=Eg h1 hp;rw[if_neg (by omega),if_pos hx]at he;obtain⟨_,⟨hk2,_⟩|⟨hk2,_⟩|⟨hk2,_,_,Rl⟩⟩:=ho
 ·omega
 ·omega
 ·exact h ⟨q.edit,[],hf.edit,(Q9 Rl).1,(Q9 Rl).2,by rw[List.append_nil];exact he⟩
theorem Rq{x:UInt8}{f:ByteArray}{l2:List UInt8}(hx3 :¬x.toNat=3)(hx4 :¬x.toNat=4)(h1:f.size≤max63)(h :¬TextAt l2):¬PatAt (x::(txtB f++l2)):=by
 intro hp;obtain⟨q,hf,_,_,he⟩:=Eg h1 hp;rw[if_neg hx3,if_neg hx4]at he;exact h ⟨q.text,[],hf.text,by rw[List.append_nil];exact he⟩
theorem IV{p:Pt}{r:List UInt8}(hf:PtFit p)(hb:Bare p)(hr :¬r=[]):¬PatAt (ptB p++r):=by
 rintro⟨q,hq,ho,he⟩;exact hr (G6 hf hq hb ho.bare (y:=[]) (by rw[List.append_nil];exact he)).2
theorem IW{p:Pt}(hf:PtFit p)(hb:Bare p)(hr :¬PtOk p):¬PatAt (ptB p):=by
 rintro⟨q,hq,ho,he⟩;have:=(G6 hf hq hb ho.bare (x:=[]) (y:=[]) (by rw[List.append_nil,List.append_nil];exact he)).1;exact hr (this▸ho)
def PatPost(rb:Nat)(w:World)(l:List UInt8)(e1:Ending)(w':World):Prop :=
 (∃(p:Pt) (x:Ph),l=ptB p∧PtFit p∧PtOk p∧e1 = .returned (.agg #[.int .u8 p.kind,.string p.file,.string p.text,.int .i64 p.hunk.at_,.slice x.h.oA p.hunk.old.length x.h.oc,.slice x.h.nA p.hunk.new.length x.h.nc,.int .u8 p.edit.kind,.slice x.e.pA p.edit.path.length x.e.pc,.int .i64 p.edit.at_,.int .i64 p.edit.far,.string p.edit.frm,.string p.edit.to,.slice x.e.oA p.edit.old.len x.e.oc,.slice x.e.nA p.edit.new.len x.e.nc])∧PtIn (fun b=>w.heap.size<b) w' x p∧Side rb w w'∧∃L,PtO w' x p L∧L.Nodup∧∀b∈L,w.heap.size<b)∨
 (¬PatAt l∧e1=oops∧Side rb w w')
theorem vW{N k:Nat}{f t:ByteArray}{w5 w6 wF:World}{x:Hh}{h:Hk}{L5 L6:List Nat}(o5:RowO 9 w5 x.oA x.oc h.old.length (h.old.map .string) L5)(o6:RowO 9 w6 x.nA x.nc h.new.length (h.new.map .string) L6)
  (m5 :∀b∈L5,N<b) (m6 :∀b∈L6,w5.heap.size≤b) (WM:Late N w5 wF) (WN:Late N w6 wF) (hN:N<w5.heap.size):
  ∃L,PtO wF ⟨x,⟨none,0,none,0,none,0⟩⟩ ⟨k,f,t,h,Ed.zero⟩ L∧L.Nodup∧∀b∈L,N<b:=by
 have q6 :∀b∈L6,N<b:=fun b hb=>aH hN (m6 b hb);refine⟨L5++L6,PtO.hunk ⟨L5,L6,o5.keep fun b hb=>WM.block b ⟨m5 b hb,o5.lt b hb⟩,o6.keep fun b hb=>WN.block b ⟨q6 b hb,o6.lt b hb⟩,rfl⟩,BG o5.nodup o6.nodup o5.lt m6,fun b hb=>?_⟩;rcases List.mem_append.1 hb with hb|hb
 ·exact m5 b hb
 ·exact q6 b hb
theorem vX{N k:Nat}{f t:ByteArray}{w4 wF:World}{x:Eh}{e:Ed}{L:List Nat}(h:EdO w4 x e L∧L.Nodup∧∀b∈L,N<b)(hF:Late N w4 wF):∃L,PtO wF ⟨⟨none,0,none,0⟩,x⟩ ⟨k,f,t,Hk.zero,e⟩ L∧L.Nodup∧∀b∈L,N<b :=
 ⟨L,PtO.edit (h.1.keep fun b hb=>hF.block b ⟨h.2.2 b hb,h.1.lt b hb⟩),h.2⟩
theorem Side.below0{rb:Nat}{w0 w w':World}(hs:Side rb w w')(hB:Below w0.heap.size w0 w)(hrb:w0.heap.size≤rb):Below w0.heap.size w0 w' :=
 hB.trans ⟨hs.os,hs.tape,hs.output,hs.size,fun k hk=>hs.block k ⟨aH hk hB.size,by omega⟩⟩
theorem WO{S:Nat→Prop}{x:Hh}{a:Hk}{w:World}(ha:HkIn S w x a):
  Calls Tryz.prog 181 #[.agg #[.int .i64 a.at_,.slice x.oA a.old.length x.oc,.slice x.nA a.new.length x.nc]] w
   fun e w'=>RetB (HkOk a) e∧Below w.heap.size w w':=by
 have h1:=ha.at_;unfold isInt64 at h1;have Ha:=hide ha;have bK:Hid (HkOk a↔0≤a.at_∧a.at_≤1099511627776∧LinesOk a.old∧LinesOk a.new∧a.old≠a.new):=hide Iff.rfl;have hcell :∀w1,Below (w.heap.size+1) (w.alloc (.cells #[.int .i64 a.at_,.slice x.oA a.old.length x.oc,.slice x.nA a.new.length x.nc] 36)) w1→∀o,w1.cell? ⟨w.heap.size,o,none⟩=(#[.int .i64 a.at_,.slice x.oA a.old.length x.oc,.slice x.nA a.new.length x.nc]:Array Value)[o]? :=
  fun w1 hB o=>(hB.cell (p:=⟨w.heap.size,o,none⟩) (by simp)).trans (Lib.cell_of_heap (heap_alloc_new w _) o)
 have bW:=hide hcell;have hz:(w.alloc (.cells #[.int .i64 a.at_,.slice x.oA a.old.length x.oc,.slice x.nA a.new.length x.nc] 36)).heap.size=w.heap.size+1:=by simp
 have Hz:=hide hz;clear ha hcell hz;go_enter Tryz.func181,Tryz.ntmps181
 go_wp2_with(first
  | (go_at_call 228;(with_reducible refine(Qp (Ha.out.old.below (ag _ _))).mono ?_);rintro e1 w1 ⟨⟨b1,rfl,hb⟩,hB1⟩;have mF:=hB1;rw[Hz.out]at mF;have HB1:=hide (ak (ag _ _) hB1);have hc1:=bW.out w1 mF;have Ei:=hide mF;have Hb1:=hide hb;clear hb hB1 mF)
  | (go_at_call 228;(with_reducible refine(Qp (Ha.out.new.below HB1.out)).mono ?_);rintro e2 w2 ⟨⟨b2,rfl,hb⟩,hB2⟩;have HB2:=hide (ak HB1.out hB2);have hC2:=hide (Ei.out.trans (hB2.mono (by have:=Ei.out.size;rw[Hz.out]at this;exact this)));have hc2:=bW.out w2 hC2.out;have Hb2:=hide hb;clear hb hB2)
  | (go_at_call 65;(with_reducible refine(J9 (Ha.out.old.below HB2.out) (Ha.out.new.below HB2.out)).mono ?_);rintro e3 w3 ⟨⟨b3,rfl,hb⟩,q,rfl⟩;have Hb3:=hide hb;clear hb))
 all_goals
  go_ret;go_tidy;refine⟨RetB.mk ?_,?_⟩
  ·rw[bK.out]
   first
    | (have h1:=Hb1.out;have h2:=Hb2.out;have h3:=Hb3.out;clear Hb1 Hb2 Hb3 Ha bK bW;grind)
    | (have h1:=Hb1.out;have h2:=Hb2.out;clear Hb1 Hb2 Ha bK bW;grind)
    | (have h1:=Hb1.out;clear Hb1 Ha bK bW;grind)
    | (clear Ha bK bW;grind)
  ·first
    | exact aO HB2.out _
    | exact HB2.out
    | exact HB1.out
    | exact ag _ _
theorem kM(n:Int)(w:World):Calls Tryz.prog 229 #[.int .i64 n] w fun e w'=>RetB (Number n) e∧w=w':=by
 go_enter Tryz.func229,Tryz.ntmps229
 go_wp2
 all_goals(go_ret;go_tidy;exact⟨RetB.mk (by unfold Number;grind),rfl⟩)
theorem BxL.putR{w wx:World}{us zs:List Value}(h:BxL w wx us zs)(o:Nat)(vs:List Value)(ho:o+vs.length≤zs.length):BxL w (wx.setCells (w.heap.size+1) o vs) us (zs.take o++vs++zs.drop (o+vs.length)):=
 ⟨PS h.c (by omega) o vs,uA h.r o vs ho,fun q=>by rw[World.frozen?_setCells];exact h.fc q,fun q=>by rw[World.frozen?_setCells];exact h.fr q,BD (by omega) vs o h.b,by rw[KH];exact h.z⟩
end
end Go.Proofs.YtjjaojnglnpgaaaGreatDoor
