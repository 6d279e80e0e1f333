/- Part 14 of what scriptShows_cardUpto rests on. -/
import Derived.Deep.RegionWith
import Derived.KernelRfl
import Derived.Test.YtjjaojnglnpgaaaGreatDoorShelf
import Derived.Lib.IndexLaws
import Derived.Test.YtjjaojnglnpgaaaGreatDoorZ10
import Derived.Test.YtjjaojnglnpgaaaGreatDoorZ11
import Derived.Test.YtjjaojnglnpgaaaGreatDoorZ01
import Derived.Test.YtjjaojnglnpgaaaGreatDoorZ07
import Derived.Test.YtjjaojnglnpgaaaGreatDoorZ12
import Derived.Test.YtjjaojnglnpgaaaGreatDoorZ00
set_option linter.unusedVariables false
set_option linter.unusedSimpArgs false
set_option maxHeartbeats 16000000
set_option maxRecDepth 1000000
namespace Go.Proofs.YtjjaojnglnpgaaaGreatDoor
section
open Go.RowKit
structure dD(D:Nat→Prop)(N:Nat)(w:World)(l:List ByteArray)(vs:List Value):Prop where
 wd:gI D N w l
 len:vs.length=20
 cells :∀j u,vs[j]?=some u→w.cell? ⟨N,1+j,none⟩=some u
 free :∀o,w.frozen? ⟨N,o,none⟩=false
section
variable {D : Nat → Prop} {N : Nat} {w w' : World} {l r : List ByteArray} {vs : List Value}
theorem dD.lt(h:dD D N w l vs):N<w.heap.size:=by
 obtain⟨A,c,h1,_⟩:=h.wd.at_;exact block_lt_of_cell h1
theorem dD.below(h:dD D N w l vs)(hb:Below w.heap.size w w'):dD D N w' l vs :=
 ⟨h.wd.below hb,h.len,fun j u hj=>(hb.cell (p:=⟨N,1+j,none⟩) h.lt).trans (h.cells j u hj),fun o=>(hb.frozen (p:=⟨N,o,none⟩) h.lt).trans (h.free o)⟩
theorem dD.take(h:dD D N w l vs){v:Value}(hw:w'=w.setCell ⟨N,0,none⟩ v)(hr:gI D N w' r):dD D N w' r vs:=by
 subst hw;refine⟨hr,h.len,fun j u hj=>?_,fun o=>by rw[World.frozen?_setCell];exact h.free o⟩;rw[World.cell?_setCell_other]
 ·exact h.cells j u hj
 ·simp
theorem dD.put(h:dD D N w l vs){j:Nat}(hj:j<20)(v:Value):dD D N (w.setCell ⟨N,1+j,none⟩ v) l (vs.set j v):=by
 have hjl:j<vs.length:=by rw[h.len];exact hj
 obtain⟨A,c,h1,h2,h3⟩:=h.wd.at_;refine⟨⟨⟨A,c,?_,h2.keep (fun b hb=>Below.heap_setCell w _ _ b (h.wd.off b hb)),h3⟩,by rw[World.frozen?_setCell];exact h.wd.free,h.wd.off⟩,by simpa using h.len,fun i u hi=>?_,fun o=>by rw[World.frozen?_setCell];exact h.free o⟩
 ·rw[World.cell?_setCell_other]
  ·exact h1
  ·simp
 ·by_cases e:i=j
  ·subst e;rw[List.getElem?_set_self hjl]at hi;injection hi with hi;subst hi;exact World.cell?_setCell_same _ _ _ (h.cells i _ (List.getElem?_eq_getElem hjl))
  ·rw[List.getElem?_set_ne (by omega)]at hi;rw[World.cell?_setCell_other]
   ·exact h.cells i u hi
   ·simp
    try omega
theorem dD.cellAt(h:dD D N w l vs)(k:Nat)(hk:1≤k∧k≤20):∃u,w.cell? ⟨N,k,none⟩=some u:=by
 have hj:k-1<vs.length:=by rw[h.len];omega
 have:=h.cells (k-1) _ (List.getElem?_eq_getElem hj);rw[show 1+(k-1)=k by omega]at this;exact⟨_,this⟩
end
abbrev dU(N:Nat)(w w':World):Prop:=Keep (fun k=>k<w.heap.size∧k≠N) w w'
theorem tV(N:Nat)(w:World):Calls Tryz.prog 105 #[.pointer (some ⟨N,0,none⟩)] w fun e w'=>e = .returned (.tuple #[])∧w'=w:=by
 go_enter Tryz.func105,Tryz.ntmps105
 go_wp2_with fail
 all_goals go_end0
 all_goals exact⟨rfl,rfl⟩
theorem Zk{D:Nat→Prop}{N:Nat}{w:World}{s:ByteArray}{r:List ByteArray}{vs:List Value}(h:dD D N w (s::r) vs)(hs:isWord s=true):
  Calls Tryz.prog 108 #[.pointer (some ⟨N,0,none⟩)] w fun e w'=>e = .returned (.tuple #[])∧dD D N w' r (vs.set 3 (.string s))∧dU N w w':=by
 have H:=hide h;clear h;go_enter Tryz.func108,Tryz.ntmps108
 go_wp2_with(go_at_call 77;(with_reducible refine(Bq H.out.wd hs).mono ?_);rintro e1 w1 ⟨rfl,h1,u,hu⟩;have h2:=H.out.take hu h1;obtain⟨x,hc⟩:=h2.cellAt 4 (by decide);have hf:=h2.free 4;have H2:=hide h2;have HU:=hide hu;clear h1 h2 hu)
 all_goals go_end0
 refine⟨rfl,H2.out.put (j:=3) (by decide) _,?_⟩;rw[HU.out];exact((Keep.refl _ w).setCell (fun hk=>hk.2 rfl) _).setCell (fun hk=>hk.2 rfl) _
theorem tX{D:Nat→Prop}{N:Nat}{w:World}{s:ByteArray}{r:List ByteArray}{vs:List Value}(h:dD D N w (s::r) vs)(hs:isWord s=true):
  Calls Tryz.prog 109 #[.pointer (some ⟨N,0,none⟩)] w fun e w'=>e = .returned (.tuple #[])∧dD D N w' r (vs.set 2 (.string s))∧dU N w w':=by
 have H:=hide h;clear h;go_enter Tryz.func109,Tryz.ntmps109
 go_wp2_with(go_at_call 77;(with_reducible refine(Bq H.out.wd hs).mono ?_);rintro e1 w1 ⟨rfl,h1,u,hu⟩;have h2:=H.out.take hu h1;obtain⟨x,hc⟩:=h2.cellAt 3 (by decide);have hf:=h2.free 3;have H2:=hide h2;have HU:=hide hu;clear h1 h2 hu)
 all_goals go_end0
 refine⟨rfl,H2.out.put (j:=2) (by decide) _,?_⟩;rw[HU.out];exact((Keep.refl _ w).setCell (fun hk=>hk.2 rfl) _).setCell (fun hk=>hk.2 rfl) _
theorem Zl{D:Nat→Prop}{N:Nat}{w:World}{s:ByteArray}{r:List ByteArray}{vs:List Value}(h:dD D N w (s::r) vs)(hs:isWord s=true):
  Calls Tryz.prog 110 #[.pointer (some ⟨N,0,none⟩)] w fun e w'=>e = .returned (.tuple #[])∧dD D N w' r (vs.set 4 (.string s))∧dU N w w':=by
 have H:=hide h;clear h;go_enter Tryz.func110,Tryz.ntmps110
 go_wp2_with(go_at_call 77;(with_reducible refine(Bq H.out.wd hs).mono ?_);rintro e1 w1 ⟨rfl,h1,u,hu⟩;have h2:=H.out.take hu h1;obtain⟨x,hc⟩:=h2.cellAt 5 (by decide);have hf:=h2.free 5;have H2:=hide h2;have HU:=hide hu;clear h1 h2 hu)
 all_goals go_end0
 refine⟨rfl,H2.out.put (j:=4) (by decide) _,?_⟩;rw[HU.out];exact((Keep.refl _ w).setCell (fun hk=>hk.2 rfl) _).setCell (fun hk=>hk.2 rfl) _
theorem VC{D:Nat→Prop}{N:Nat}{w:World}{l:List ByteArray}{vs:List Value}(h:dD D N w l vs)(hs :∀s r,l=s::r→isWord s=false):
  Calls Tryz.prog 108 #[.pointer (some ⟨N,0,none⟩)] w fun e w'=>e=fQ∧dU N w w':=by
 rcases l with _|⟨s,r⟩
 ·have H:=hide h;clear h;go_enter Tryz.func108,Tryz.ntmps108
  go_wp2_with(go_at_call 77;(with_reducible refine(Ny H.out.wd).mono ?_);rintro e1 w1 ⟨rfl,rfl⟩)
  exact⟨rfl,rfl,Keep.refl _ _⟩
 ·have H:=hide h;have Hw:=hide (hs s r rfl);clear h hs;go_enter Tryz.func108,Tryz.ntmps108
  go_wp2_with(go_at_call 77;(with_reducible refine(Nz H.out.wd Hw.out).mono ?_);rintro e1 w1 ⟨rfl,u,hu⟩)
  refine⟨rfl,rfl,?_⟩
  try rw[hu]
  exact(Keep.refl _ w).setCell (fun hk=>hk.2 rfl) _
theorem VD{D:Nat→Prop}{N:Nat}{w:World}{l:List ByteArray}{vs:List Value}(h:dD D N w l vs)(hs :∀s r,l=s::r→isWord s=false):
  Calls Tryz.prog 109 #[.pointer (some ⟨N,0,none⟩)] w fun e w'=>e=fQ∧dU N w w':=by
 rcases l with _|⟨s,r⟩
 ·have H:=hide h;clear h;go_enter Tryz.func109,Tryz.ntmps109
  go_wp2_with(go_at_call 77;(with_reducible refine(Ny H.out.wd).mono ?_);rintro e1 w1 ⟨rfl,rfl⟩)
  exact⟨rfl,rfl,Keep.refl _ _⟩
 ·have H:=hide h;have Hw:=hide (hs s r rfl);clear h hs;go_enter Tryz.func109,Tryz.ntmps109
  go_wp2_with(go_at_call 77;(with_reducible refine(Nz H.out.wd Hw.out).mono ?_);rintro e1 w1 ⟨rfl,u,hu⟩)
  refine⟨rfl,rfl,?_⟩
  try rw[hu]
  exact(Keep.refl _ w).setCell (fun hk=>hk.2 rfl) _
theorem VE{D:Nat→Prop}{N:Nat}{w:World}{l:List ByteArray}{vs:List Value}(h:dD D N w l vs)(hs :∀s r,l=s::r→isWord s=false):
  Calls Tryz.prog 110 #[.pointer (some ⟨N,0,none⟩)] w fun e w'=>e=fQ∧dU N w w':=by
 rcases l with _|⟨s,r⟩
 ·have H:=hide h;clear h;go_enter Tryz.func110,Tryz.ntmps110
  go_wp2_with(go_at_call 77;(with_reducible refine(Ny H.out.wd).mono ?_);rintro e1 w1 ⟨rfl,rfl⟩)
  exact⟨rfl,rfl,Keep.refl _ _⟩
 ·have H:=hide h;have Hw:=hide (hs s r rfl);clear h hs;go_enter Tryz.func110,Tryz.ntmps110
  go_wp2_with(go_at_call 77;(with_reducible refine(Nz H.out.wd Hw.out).mono ?_);rintro e1 w1 ⟨rfl,u,hu⟩)
  refine⟨rfl,rfl,?_⟩
  try rw[hu]
  exact(Keep.refl _ w).setCell (fun hk=>hk.2 rfl) _
end
section
open Go.RowKit
theorem BL{w:World}{B e k n N o:Nat}{v u:Value}{xs:List Value}(h:w.ownsRow B e k v n xs)(hN:N<B):(w.setCell ⟨N,o,none⟩ u).ownsRow B e k v n xs :=
 ⟨h.1,h.2.imp id fun⟨g,cap,cur,e1,hB,hg,hr⟩=>⟨g,cap,cur,e1,hB,(Below.heap_setCell w _ _ g (by show g≠N;omega)).trans hg,hr⟩⟩
theorem dD.taken{D:Nat→Prop}{N:Nat}{w w':World}{l r:List ByteArray}{vs:List Value}{u:Value}(h:dD D N w l vs)(hB:Below w.heap.size (w.setCell ⟨N,0,none⟩ u) w')(hr:gI D N w' r):dD D N w' r vs:=by
 have hN:=h.lt;refine⟨hr,h.len,fun j v hj=>?_,fun o=>?_⟩
 ·refine(hB.cell (p:=⟨N,1+j,none⟩) hN).trans ?_;rw[World.cell?_setCell_other]
  ·exact h.cells j v hj
  ·simp
 ·refine(hB.frozen (p:=⟨N,o,none⟩) hN).trans ?_;rw[World.frozen?_setCell];exact h.free o
theorem VF{N:Nat}{w w':World}{u:Value}(hB:Below w.heap.size (w.setCell ⟨N,0,none⟩ u) w'):dU N w w' :=
 ((Keep.refl _ w).setCell (fun hk=>hk.2 rfl) u).trans (Keep.of_below (by simpa using hB) fun _ hk=>by simpa using hk.1)
theorem xE{D:Nat→Prop}{N:Nat}{w:World}{s:ByteArray}{r:List ByteArray}{vs:List Value}{b:List UInt8}(h:dD D N w (s::r) vs)(hu:unhexL s.data.toList=some b)(hl:s.size≤1099511627776):
  Calls Tryz.prog 111 #[.pointer (some ⟨N,0,none⟩)] w fun e w'=>e = .returned (.tuple #[])∧∃v,w'.ownsRow w.heap.size 5 1 v b.length (Lib.byteCells b)∧dD D N w' r (vs.set 19 v)∧dU N w w':=by
 have H:=hide h;have HU:=hide hu;clear h hu;go_enter Tryz.func111,Tryz.ntmps111
 go_wp2_with(go_at_call 170;(with_reducible refine(tC H.out.wd HU.out hl).mono ?_);rintro e1 w1 ⟨v,rfl,ho,h1,u,hB⟩;obtain⟨Av,cv,rfl⟩:=jD ho;have h2:=H.out.taken hB h1;obtain⟨x,hc⟩:=h2.cellAt 20 (by decide);have hf:=h2.free 20;have H2:=hide h2;have HO:=hide ho;have HB:=hide hB;clear h1 h2 ho hB)
 all_goals go_end0
 exact⟨rfl,_,BL HO.out H.out.lt,H2.out.put (j:=19) (by decide) _,(VF HB.out).setCell (fun hk=>hk.2 rfl) _⟩
theorem BM{D:Nat→Prop}{N:Nat}{w:World}{s:ByteArray}{r:List ByteArray}{vs:List Value}(h:dD D N w (s::r) vs)(hu:unhexL s.data.toList=none)(hl:s.size≤1099511627776):
  Calls Tryz.prog 111 #[.pointer (some ⟨N,0,none⟩)] w fun e w'=>e=fQ∧dU N w w':=by
 have H:=hide h;have HU:=hide hu;clear h hu;go_enter Tryz.func111,Tryz.ntmps111
 go_wp2_with(go_at_call 170;(with_reducible refine(Za H.out.wd HU.out hl).mono ?_);rintro e1 w1 ⟨rfl,u,hB⟩;have HB:=hide hB;clear hB)
 exact⟨rfl,rfl,VF HB.out⟩
theorem xG{D:Nat→Prop}{N:Nat}{w:World}{s t:ByteArray}{r:List ByteArray}{vs:List Value}(h:dD D N w (s::t::r) vs)(hs:isWord s=true)(ht:isWord t=true):
  Calls Tryz.prog 107 #[.pointer (some ⟨N,0,none⟩)] w fun e w'=>e = .returned (.tuple #[])∧dD D N w' r ((vs.set 2 (.string s)).set 3 (.string t))∧dU N w w':=by
 have H:Hid (dD D N w.drew (s::t::r) vs):=hide (h.below ((Below.refl _ w).drew));have hN:=h.lt;clear h;go_enter Tryz.func107,Tryz.ntmps107
 go_wp2_with fail
 go_region_with (first
  | (go_at_call 77;(with_reducible refine(Bq H.out.wd hs).mono ?_);rintro e1 w1 ⟨rfl,h1,u,hu⟩;have h2:=H.out.take hu h1;have H2:=hide h2;have HU:=hide hu;clear h1 h2 hu)
  | (go_at_call 77;(with_reducible refine(Bq H2.out.wd ht).mono ?_);rintro e2 w2 ⟨rfl,h3,u2,hu2⟩;have h4:=H2.out.take hu2 h3;obtain⟨x,hc⟩:=h4.cellAt 3 (by decide);obtain⟨x2,hc2⟩:=h4.cellAt 4 (by decide);have hf:=h4.free 3;have hf2:=h4.free 4;have H4:=hide h4;have Zm:=hide hu2;clear h3 h4 hu2))
 all_goals go_end0
 refine⟨rfl,(H4.out.put (j:=2) (by decide) (.string s)).put (j:=3) (by decide) (.string t),?_⟩;have h0:dU N w w.drew:=(Keep.refl _ w).drew;have h1:dU N w w1:=by rw[HU.out];exact h0.setCell (fun hk=>hk.2 rfl) u
 have h2:dU N w w2:=by rw[Zm.out];exact h1.setCell (fun hk=>hk.2 rfl) u2
 exact(h2.setCell (fun hk=>hk.2 rfl) _).setCell (fun hk=>hk.2 rfl) _
end
section
open Go.RowKit
section
variable {P : Program} {ops : Array Oper} {Q : Exit → Act → World → Prop} {o : Oper} {rest : List Oper} {n : Nat} {L L' : List Value} {df : List Deferred} {w : World} {v : Value}
theorem sk(h:wpList P ops Q rest ⟨L'.toArray,df⟩ w)(hd:o.dst=some n:=by rfl)
  (hy:(execOp (Act.mk L.toArray df).eval o).run P w = .ok (.value v) w:=by first|(go_simp;done)|(go_simp;with_reducible rfl))
  (hL:L.set n v=L':=by(try simp only[aA,aB]);rfl)
  (hw:Region.wanted o (yielded ops L.toArray)=true:=by rfl):wpList P ops Q (o::rest) ⟨L.toArray,df⟩ w:=by
 unfold wpList;rw[if_pos hw];refine .inl ?_;unfold Oper.wp;rw[hy];have e:(Act.mk L.toArray df).put o.dst v=⟨L'.toArray,df⟩:=by rw[hd,←hL];simp[Act.put]
 show wpList P ops Q rest ((Act.mk L.toArray df).put o.dst v) w;rw[e];exact h
theorem sg{b:Bool}(h:wpList P ops Q rest ⟨L'.toArray,df⟩ w)(hd:o.dst=some n:=by rfl)
  (hw:Region.wanted o (yielded ops L.toArray)=b)
  (hy:b=true→(execOp (Act.mk L.toArray df).eval o).run P w = .ok (.value v) w:=by intro hb;first|(go_simp;done)|(go_simp;with_reducible rfl))
  (hL:L.set n (if b then v else undef)=L':=by(try simp only[aA,aB]);rfl):wpList P ops Q (o::rest) ⟨L.toArray,df⟩ w:=by
 cases b with
 | true=>exact sk h hd (hy rfl) hL hw
 | false =>
  unfold wpList;rw[hw,if_neg (by simp)];have e:(Act.mk L.toArray df).put o.dst undef=⟨L'.toArray,df⟩:=by rw[hd,←hL];simp[Act.put]
  rw[e];exact h
theorem sp{a b:Nat}{g X:Bool}{ty:TypeId}{ps:String}{af:Array Edge}(h:wpList P ops Q rest ⟨L'.toArray,df⟩ w)
  (hx:L[a]?=some (.bool g):=by rfl) (hy:L[b]?=some (if g then .bool X else undef):=by simp only[List.getElem?_cons_succ,List.getElem?_cons_zero];with_reducible rfl)
  (hL:L.set n (.bool (g && X))=L':=by(try simp only[aA,aB]);rfl):
  wpList P ops Q ({dst:=some n,op:= .pick (.tmp a) (.tmp b) (.const (.bool false)),type:=ty,pos:=ps,after:=af,guard:=none}::rest) ⟨L.toArray,df⟩ w:=by
 refine sk (v:= .bool (g && X)) h rfl ?_ hL rfl;have e1:(Act.mk L.toArray df).eval (.tmp a) = .bool g:=by show L.toArray.getD a undef=_;simp[hx]
 have e2:(Act.mk L.toArray df).eval (.tmp b)=if g then .bool X else undef:=by show L.toArray.getD b undef=_;simp[hy]
 have e3:(Act.mk L.toArray df).eval (.const (.bool false)) = .bool false:=rfl;generalize (Act.mk L.toArray df).eval=ev at e1 e2 e3⊢;cases g<;>simp[execOp,e1,e2,e3,asBool,go_sem]
theorem ss{w':World}(h:wpList P ops Q rest ⟨L.toArray,df⟩ w')(hy:(execOp (Act.mk L.toArray df).eval o).run P w = .ok .skip w':=by first|(go_simp;done)|(go_simp;with_reducible rfl))(hd:o.dst=none:=by rfl)
  (hw:Region.wanted o (yielded ops L.toArray)=true:=by rfl):wpList P ops Q (o::rest) ⟨L.toArray,df⟩ w:=by
 unfold wpList;rw[if_pos hw];refine .inl ?_;unfold Oper.wp;rw[hy];show wpList P ops Q rest ((Act.mk L.toArray df).put o.dst undef) w';rw[hd];exact h
end
end
section
open Go.RowKit
theorem VG(last:Bool)(s:List UInt8){p:Int}(hp:Lib.indexByte s 10=p):jV last s↔s≠[]∧¬(0≤p∧p<s.length-1)∧(p<0→last=true):=by
 have hge:=Lib.indexByte_ge s 10;rw[hp]at hge;unfold jV;by_cases h0:p<0
 ·have e:p = -1:=by omega
  subst e;have hn:=Lib.indexByte_none hp;constructor
  ·rintro⟨h1,h2,h3⟩;refine⟨h1,by omega,fun _=>?_⟩;rcases h3 with h3|h3
   ·exact h3
   ·rw[List.getLast?_eq_getElem?]at h3;exact absurd h3 (hn _)
  ·rintro⟨h1,_,h3⟩;exact⟨h1,fun i _=>hn i,.inl (h3 (by omega))⟩
 ·obtain⟨o,rfl⟩:=Int.eq_ofNat_of_zero_le (a:=p) (by omega);obtain⟨hs,hlt⟩:=Lib.indexByte_some hp;have hol:o<s.length:=(List.getElem?_eq_some_iff.1 hs).1;constructor
  ·rintro⟨h1,h2,h3⟩;refine⟨h1,fun h=>h2 o (by omega) hs,by omega⟩
  ·rintro⟨h1,h2,_⟩;have e:o=s.length-1:=by omega
   refine⟨h1,fun i hi=>hlt i (by omega),.inr ?_⟩;rw[List.getLast?_eq_getElem?,←e];exact hs
theorem VH{l:List ByteArray}{k:Nat}(hk:k<l.length){s:ByteArray}(hs:l[k]?=some s):LinesOk (l.drop k)↔jV (decide (k+1=l.length)) s.data.toList∧LinesOk (l.drop (k+1)):=by
 have e:l[k]=s:=by
  have:=List.getElem?_eq_getElem hk;rw[this]at hs;injection hs
 rw[List.drop_eq_getElem_cons hk,LinesOk,e];have:(l.drop (k+1)).isEmpty=decide (k+1=l.length):=by
  rw[Bool.eq_iff_iff];simp;omega
 rw[this]
theorem Zn{l:List ByteArray}{k:Nat}(h:LinesOk l↔LinesOk (l.drop k))(hk:k<l.length){s:ByteArray}(hs:l[k]?=some s){p:Int}(hp:Lib.indexByte s.data.toList 10=p)
  (hok :¬s.toList=[]∧¬(0≤p∧p<(s.size:Int)-1)∧(p<0→k+1=l.length)):LinesOk l↔LinesOk (l.drop (k+1)):=by
 rw[ByteArray.toList_eq]at hok;have hl:s.data.toList.length=s.size:=by simp
 rw[←hl]at hok;rw[h,VH hk hs,VG _ _ hp];simp only[decide_eq_true_eq];exact⟨fun h=>h.2,fun h=>⟨hok,h⟩⟩
theorem xH{l:List ByteArray}{k:Nat}(h:LinesOk l↔LinesOk (l.drop k))(hk:k<l.length){s:ByteArray}(hs:l[k]?=some s){p:Int}(hp:Lib.indexByte s.data.toList 10=p)
  (hok :¬(¬s.toList=[]∧¬(0≤p∧p<(s.size:Int)-1)∧(p<0→k+1=l.length))):¬LinesOk l:=by
 rw[ByteArray.toList_eq]at hok;have hl:s.data.toList.length=s.size:=by simp
 rw[←hl]at hok;rw[h,VH hk hs,VG _ _ hp];simp only[decide_eq_true_eq];exact fun h=>hok h.1
theorem tY{l:List ByteArray}{k:Nat}(h:LinesOk l↔LinesOk (l.drop k))(hk :¬k<l.length):LinesOk l:=by
 rw[h,List.drop_eq_nil_of_le (by omega)];trivial
theorem VI{S:Nat→Prop}{A:Option Addr}{c:Nat}{l:List ByteArray}{w:World}(hl:bJ S w A l):
    Calls Tryz.prog 214 #[.slice A l.length c] w fun e w'=>ah (LinesOk l) e∧w=w':=by
  have hl3:=hl.2.2;have Hl:=hide hl;clear hl;go_enter Tryz.func214,Tryz.ntmps214
  go_wp2_with fail
  go_loop [8,3,4,5,15,29] (fun i _ _ _ _ _=>∃k:Nat,k≤l.length∧i = .int .i64 k∧Hid (LinesOk l↔LinesOk (l.drop k))) (fun i _ _ _ _ _=>l.length-(intOf i).toNat)
  case atStart=>exact⟨0,Nat.zero_le _,rfl,hide Iff.rfl⟩
  case round =>
    obtain⟨k,hk,rfl,hall⟩:=hrel;by_cases hlt:k<l.length
    · obtain⟨b,o,rfl,h1⟩:=Hl.out.1.at_ (j:=k) (by simpa using hlt)
      simp only[List.getElem_map]at h1;have hsz:=Hl.out.2.1 _ (List.getElem_mem hlt);have E:=hide (show l[k]?=some l[k]by simp[hlt]);generalize l[k]=s at h1 hsz E;have hge:=Lib.indexByte_ge s.data.toList 10;obtain⟨p,hp⟩:∃p,Lib.indexByte s.data.toList 10=p:=⟨_,rfl⟩;rw[hp]at hge;have hup:p<s.size+1:=by
        rcases Int.lt_or_le p 0 with h|h
        · omega
        · obtain⟨q,rfl⟩:=Int.eq_ofNat_of_zero_le h
          have:=(List.getElem?_eq_some_iff.1 (Lib.indexByte_some hp).1).1;simp at this;omega
      have Hp:=hide hp;clear hp
      go_wp2_with(go_at_call 213;refine(Tryz.strings_IndexByte s 10 _).mono ?_;rintro e w' ⟨rfl,rfl⟩;simp only[show((10:Int).toNat.toUInt8)=10 from rfl,Hp.out])
      all_goals first
        | (go_ret
           exact⟨ah.no (xH hall.out hlt E.out Hp.out (by go_tidy;clear hall Hp E Hl;grind)),rfl⟩)
        | (go_round
           case rel=>exact⟨k+1,by omega,by go_num,hide (Zn hall.out hlt E.out Hp.out (by go_tidy;clear hall Hp E Hl;grind))⟩
           case measure=>simp[intOf];omega)
    · go_wp2_with fail
      go_ret;exact⟨ah.yes (tY hall.out hlt),rfl⟩
theorem Zo{S:Nat→Prop}{x:Hh}{a:Hk}{w:World}(ha:gB S w x a):
  Calls Tryz.prog 172 #[.agg #[.int .i64 a.at_,.slice x.oA a.old.length x.oc,.slice x.nA a.new.length x.nc]] w
   fun e w'=>ah (pO a) e∧Below w.heap.size w w':=by
 have h1:=ha.at_;unfold ai at h1;have Ha:=hide ha;have gK:Hid (pO a↔0≤a.at_∧a.at_≤1099511627776∧LinesOk a.old∧LinesOk a.new∧a.old≠a.new):=hide Iff.rfl;clear ha;go_enter Tryz.func172,Tryz.ntmps172
 go_wp2_with(first
  | (go_at_call 214;(with_reducible refine(VI (Ha.out.old.below (az _ _))).mono ?_);rintro e w1 ⟨⟨b1,rfl,hb⟩,rfl⟩;have Hb1:=hide hb;clear hb)
  | (go_at_call 214;(with_reducible refine(VI (Ha.out.new.below (az _ _))).mono ?_);rintro e w1 ⟨⟨b2,rfl,hb⟩,rfl⟩;have Hb2:=hide hb;clear hb)
  | (go_at_call 215;(with_reducible refine(O9 (Ha.out.old.below (az _ _)) (Ha.out.new.below (az _ _))).mono ?_);rintro e w1 ⟨⟨b3,rfl,hb⟩,q,rfl⟩;have Hb3:=hide hb;clear hb))
 all_goals
  go_ret;go_tidy;refine⟨ah.mk ?_,?_⟩
  ·rw[gK.out]
   first
    | (have h1:=Hb1.out;have h2:=Hb2.out;have h3:=Hb3.out;clear Hb1 Hb2 Hb3 Ha gK;grind)
    | (have h1:=Hb1.out;have h2:=Hb2.out;clear Hb1 Hb2 Ha gK;grind)
    | (have h1:=Hb1.out;clear Hb1 Ha gK;grind)
    | grind
  ·first
    | exact az _ _
    | exact di (az _ _) _
theorem Zp{S:Nat→Prop}{x:Eh}{e:Ed}{w:World}(he:dm S w x e)(htab:bF w)(hsum:e.frm.size+e.to.size≤9223372036854775807)(hfe:e.frm=ae)(hte:e.to=ae)(hnot :¬(bD e.old∧bD e.new∧e.at_=0∧e.far=0)):
  Calls Tryz.prog 173 #[.agg #[.int .u8 4,.slice x.pA e.path.length x.pc,.int .i64 e.at_,.int .i64 e.far,.string {data:=#[]},.string {data:=#[]},.slice x.oA e.old.len x.oc,.slice x.nA e.new.len x.nc]] w fun e1 w'=>ah (dC {e with kind:=4}) e1∧Below w.heap.size w w':=by
 have aN:Hid (bF w):=htab;have bC:=hide he.path;have jO:=hide he.at_;have gq:=hide he.far;have jw:=he.frm;have hto:=he.to;have dH:=hide he.old;have gu:=hide he.new;have hold:=he.oc;have hnew:=he.nc;have gK:=hide (@Qu e);have pF:=hide hfe;have Hte:=hide hte;clear hfe hte jw hto hsum;have hE:(!(({data:=#[]}:ByteArray)++({data:=#[]}:ByteArray)).toList.isEmpty)=false:=Ak;have oU:=hide hnot;clear hnot;clear he htab;go_enter Tryz.func173,Tryz.ntmps173
 go_wp2_with(first
  | (go_at_call 216;(with_reducible refine(qR (l:=e.path) (bC.out.below (di (az _ _) _))).mono ?_);rintro e1 w1 ⟨⟨_|_,rfl,hb⟩,rfl⟩<;>(have Hp:=hide hb;clear hb))
  | (go_at_call 218;(with_reducible refine(kJ e.at_ _ jO.out).mono ?_);rintro e1 w1 ⟨⟨_|_,rfl,hb⟩,rfl⟩<;>(have Ha:=hide hb;clear hb))
  | (go_at_call 218;(with_reducible refine(kJ e.far _ gq.out).mono ?_);rintro e1 w1 ⟨⟨_|_,rfl,hb⟩,rfl⟩<;>(have Hf:=hide hb;clear hb))
  | (go_at_call 219;(with_reducible refine(kH {data:=#[]} _ (by decide) (aN.out.below (di (az _ _) _))).mono ?_);rintro e1 w1 ⟨⟨_|_,rfl,hb⟩,hB⟩<;>first|(exact absurd (hb.mp (by first|rfl|trivial)) zap)|(have Hn:=hide hb;have HB:=hide (aW (di (az _ _) _) hB);obtain⟨hc1,hf1,hz1⟩:=bz (N:=w.heap.size) hB (by simp);clear hb hB))
  | (go_at_call 219;(with_reducible refine(kH {data:=#[]} _ (by decide) (aN.out.below HB.out)).mono ?_);rintro e1 w2 ⟨⟨_|_,rfl,hb⟩,hB⟩<;>first|(exact absurd (hb.mp (by first|rfl|trivial)) zap)|(have Hm:=hide hb;have HB2:=hide (aW HB.out hB);obtain⟨hc2,hf2,hz2⟩:=bz (N:=w.heap.size) hB hz1;clear hb hB))
  | (go_at_call 220;(with_reducible refine(jy (f:=e.old) (dH.out.below HB2.out) hold.1 hold.2 (aN.out.below HB2.out)).mono ?_);rintro e1 w3 ⟨⟨_|_,rfl,hb⟩,hB⟩<;>(have jd:=hide hb;have HB3:=hide (aW HB2.out hB);obtain⟨hc3,hf3,hz3⟩:=bz (N:=w.heap.size) hB hz2;clear hb hB))
  | (go_at_call 220;(with_reducible refine(jy (f:=e.old) (dH.out.below HB.out) hold.1 hold.2 (aN.out.below HB.out)).mono ?_);rintro e1 w3 ⟨⟨_|_,rfl,hb⟩,hB⟩<;>(have jd:=hide hb;have HB3:=hide (aW HB.out hB);obtain⟨hc3,hf3,hz3⟩:=bz (N:=w.heap.size) hB hz1;clear hb hB))
  | (go_at_call 220;(with_reducible refine(jy (f:=e.new) (gu.out.below HB3.out) hnew.1 hnew.2 (aN.out.below HB3.out)).mono ?_);rintro e1 w4 ⟨⟨_|_,rfl,hb⟩,hB⟩<;>first|(exact absurd (And.intro (jd.out.mp (by first|rfl|trivial)) (And.intro (hb.mp (by first|rfl|trivial)) (And.intro (by omega) (by omega)))) oU.out)|(have lY:=hide hb;have HB4:=hide (aW HB3.out hB);obtain⟨hc4,hf4,kU⟩:=bz (N:=w.heap.size) hB hz3;clear hb hB)))
 go_quiet (fail)
 go_upto_region 20 with(first
  | (go_at_call 216;(with_reducible refine(qR (l:=e.path) (bC.out.below (di (az _ _) _))).mono ?_);rintro e1 w1 ⟨⟨_|_,rfl,hb⟩,rfl⟩<;>(have Hp:=hide hb;clear hb))
  | (go_at_call 218;(with_reducible refine(kJ e.at_ _ jO.out).mono ?_);rintro e1 w1 ⟨⟨_|_,rfl,hb⟩,rfl⟩<;>(have Ha:=hide hb;clear hb))
  | (go_at_call 218;(with_reducible refine(kJ e.far _ gq.out).mono ?_);rintro e1 w1 ⟨⟨_|_,rfl,hb⟩,rfl⟩<;>(have Hf:=hide hb;clear hb))
  | (go_at_call 219;(with_reducible refine(kH {data:=#[]} _ (by decide) (aN.out.below (di (az _ _) _))).mono ?_);rintro e1 w1 ⟨⟨_|_,rfl,hb⟩,hB⟩<;>first|(exact absurd (hb.mp (by first|rfl|trivial)) zap)|(have Hn:=hide hb;have HB:=hide (aW (di (az _ _) _) hB);obtain⟨hc1,hf1,hz1⟩:=bz (N:=w.heap.size) hB (by simp);clear hb hB))
  | (go_at_call 219;(with_reducible refine(kH {data:=#[]} _ (by decide) (aN.out.below HB.out)).mono ?_);rintro e1 w2 ⟨⟨_|_,rfl,hb⟩,hB⟩<;>first|(exact absurd (hb.mp (by first|rfl|trivial)) zap)|(have Hm:=hide hb;have HB2:=hide (aW HB.out hB);obtain⟨hc2,hf2,hz2⟩:=bz (N:=w.heap.size) hB hz1;clear hb hB))
  | (go_at_call 220;(with_reducible refine(jy (f:=e.old) (dH.out.below HB2.out) hold.1 hold.2 (aN.out.below HB2.out)).mono ?_);rintro e1 w3 ⟨⟨_|_,rfl,hb⟩,hB⟩<;>(have jd:=hide hb;have HB3:=hide (aW HB2.out hB);obtain⟨hc3,hf3,hz3⟩:=bz (N:=w.heap.size) hB hz2;clear hb hB))
  | (go_at_call 220;(with_reducible refine(jy (f:=e.old) (dH.out.below HB.out) hold.1 hold.2 (aN.out.below HB.out)).mono ?_);rintro e1 w3 ⟨⟨_|_,rfl,hb⟩,hB⟩<;>(have jd:=hide hb;have HB3:=hide (aW HB.out hB);obtain⟨hc3,hf3,hz3⟩:=bz (N:=w.heap.size) hB hz1;clear hb hB))
  | (go_at_call 220;(with_reducible refine(jy (f:=e.new) (gu.out.below HB3.out) hnew.1 hnew.2 (aN.out.below HB3.out)).mono ?_);rintro e1 w4 ⟨⟨_|_,rfl,hb⟩,hB⟩<;>first|(exact absurd (And.intro (jd.out.mp (by first|rfl|trivial)) (And.intro (hb.mp (by first|rfl|trivial)) (And.intro (by omega) (by omega)))) oU.out)|(have lY:=hide hb;have HB4:=hide (aW HB3.out hB);obtain⟨hc4,hf4,kU⟩:=bz (N:=w.heap.size) hB hz3;clear hb hB)))
 all_goals(first|go_ret|(go_quiet (fail);go_wp2;go_ret))
 all_goals go_tidy
 all_goals(try have hp:=Hp.out)
 all_goals(try have ha:=Ha.out)
 all_goals(try have hf:=Hf.out)
 all_goals(try have hn:=Hn.out)
 all_goals(try have hm:=Hm.out)
 all_goals(try have hpo:=jd.out)
 all_goals(try have hpn:=lY.out)
 all_goals refine⟨ah.mk ?_,(by first|exact Dx HB4.out _|exact HB4.out|exact HB3.out|exact HB2.out|exact HB.out|exact di (az _ _) _)⟩
 all_goals clear aN bC jO gq dH gu
 all_goals(try clear Hp)
 all_goals(try clear Ha)
 all_goals(try clear Hf)
 all_goals(try clear lY hc4 hf4 HB4 kU)
 all_goals(try clear jd hc3 hf3 HB3 hz3)
 all_goals(try clear Hm hc2 hf2 HB2 hz2)
 all_goals(try clear Hn hc1 hf1 hz1 HB)
 all_goals rw[gK.out]
 all_goals clear gK
 all_goals(try have pp:=@vg e.old)
 all_goals(try have pq:=@vg e.new)
 all_goals have n0:=FO
 all_goals(try have hfe:=pF.out)
 all_goals(try have hte:=Hte.out)
 all_goals(try have hnot:=oU.out)
 all_goals(try(exfalso;simp only[Ak,Bool.false_eq_true,reduceCtorEq]at *;done))
 all_goals(try(exfalso;simp only[D7 pF.out,Bool.true_eq_false,reduceCtorEq]at *;done))
 all_goals grind
end
end Go.Proofs.YtjjaojnglnpgaaaGreatDoor
