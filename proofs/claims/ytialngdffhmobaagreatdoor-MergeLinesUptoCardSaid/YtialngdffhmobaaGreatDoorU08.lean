/- Part 9 of what mgTop rests on. -/
import Derived.Laws.IdiomCopy
import Derived.Test.YtialngdffhmobaaGreatDoorProg
import Derived.BigQuiet
import Derived.Deep.RegionWith
import Derived.Test.YtialngdffhmobaaGreatDoorU05
import Derived.Test.YtialngdffhmobaaGreatDoorU07
import Derived.Test.YtialngdffhmobaaGreatDoorU04
import Derived.Test.YtialngdffhmobaaGreatDoorU01
import Derived.Test.YtialngdffhmobaaGreatDoorU00
set_option linter.unusedVariables false
set_option linter.unusedSimpArgs false
set_option maxHeartbeats 16000000
set_option maxRecDepth 1000000
namespace Go.Proofs.YtialngdffhmobaaGreatDoor
section
open Go.RowKit
theorem rows_none{p:Nat}(h:kindRow p=none)(w:World):
  Calls Tryz.prog 216 #[.int .u8 p] w fun e w'=>e = .returned (.tuple #[.agg #[.slice none 0 0,.bool false],.bool false])∧Below w.heap.size w w':=by
 refine(rows_any p w).mono ?_;rintro e w' ⟨hB,⟨_,he⟩|⟨k',ks,all,A,c,hf,_⟩⟩
 ·exact⟨he,hB⟩
 ·rw[h]at hf;cases hf
theorem rows_some{p:Nat}{k':Int}{ks:List Int}{all:Bool}(h:kindRow p=some (k',ks,all))(w:World):
  Calls Tryz.prog 216 #[.int .u8 p] w fun e w'=>∃A c,e = .returned (.tuple #[.agg #[.slice A ks.length c,.bool all],.bool true])∧Rd (fun _=>True) w' A (ks.map (.int .u8))∧Below w.heap.size w w':=by
 refine(rows_any p w).mono ?_;rintro e w' ⟨hB,⟨hf,_⟩|⟨k'',ks',all',A,c,hf,he,hr⟩⟩
 ·rw[h]at hf;cases hf
 ·rw[h]at hf;cases hf;exact⟨A,c,he,hr,hB⟩
theorem kindRows_ok :∀r∈kindRows,(∀x∈r.2.1,0≤x∧x<256)∧(r.2.2=true→r.2.1.length=1)∧r.2.1.length≤3:=by decide
theorem kindRow_nat{p:Nat}{k':Int}{ks:List Int}{all:Bool}(h:kindRow p=some (k',ks,all)){j:Nat}(hj:j<ks.length):∃n:Nat,ks[j]=n:=by
 have:=(kindRows_ok _ (kindRow_mem h).1).1 ks[j] (List.getElem_mem hj);exact⟨ks[j].toNat,by omega⟩
theorem fits_any(p k i:Nat)(w:World):Calls Tryz.prog 218 #[.int .u8 p,.int .u8 k,.int .i64 i] w fun e w'=>RetB (FitsIn p k i) e∧Below w.heap.size w w':=by
 cases h:kindRow p with
 | none =>
  have H:=hide h;clear h;go_enter Tryz.func218,Tryz.ntmps218
  go_wp2_with(go_at_call 216;refine(rows_none H.out _).mono ?_;rintro e w1 ⟨rfl,hB⟩;have HB:=hide hB;clear hB)
  go_ret;exact⟨RetB.no (fits_none H.out k i),HB.out.alloc HB.out.size _⟩
 | some x =>
  obtain⟨k',ks,all⟩:=x;have H:=hide h;have hlen:=(kindRows_ok _ (kindRow_mem h).1).2.2;have hone:=hide (kindRows_ok _ (kindRow_mem h).1).2.1;simp only at hlen;clear h;by_cases hall:all=true
  ·subst hall;have h0:0<ks.length:=by have:=hone.out rfl;simp only at this;omega
   obtain⟨n,hn⟩:=kindRow_nat H.out h0;have Hn:=hide hn;clear hn;go_enter Tryz.func218,Tryz.ntmps218
   go_wp2_with(first
    | (go_at_call 216;refine(rows_some H.out _).mono ?_;rintro e w1 ⟨A,c,rfl,hrd,hB⟩;have HB:=hide hB;clear hB;obtain⟨b,o,rfl,hc⟩:=hrd.at_ (j:=0) (by simpa using h0);simp only[List.getElem_map,Hn.out,Nat.add_zero]at hc;have hb:=block_lt_of_cell hc;clear hrd)
    | (go_at_call 249;refine(is_any k n _).mono ?_;rintro e w2 ⟨⟨b2,rfl,hb2⟩,rfl⟩;have Hb:=hide hb2;clear hb2))
   go_ret;exact⟨RetB.mk (by rw[Hb.out,fits_some H.out];simp[List.getElem?_eq_getElem h0,Hn.out,Int.natCast_inj]),HB.out.alloc HB.out.size _⟩
  ·obtain rfl:all=false:=by simpa using hall
   by_cases h0:i<ks.length
   ·obtain⟨n,hn⟩:=kindRow_nat H.out h0;have Hn:=hide hn;clear hn hall;go_enter Tryz.func218,Tryz.ntmps218
    go_wp2_with(first
     | (go_at_call 216;refine(rows_some H.out _).mono ?_;rintro e w1 ⟨A,c,rfl,hrd,hB⟩;have HB:=hide hB;clear hB;obtain⟨b,o,rfl,hc⟩:=hrd.at_ (j:=i) (by simpa using h0);simp only[List.getElem_map,Hn.out]at hc;have hb:=block_lt_of_cell hc;clear hrd)
     | (go_at_call 249;refine(is_any k n _).mono ?_;rintro e w2 ⟨⟨b2,rfl,hb2⟩,rfl⟩;have Hb:=hide hb2;clear hb2))
    go_ret;exact⟨RetB.mk (by rw[Hb.out,fits_some H.out];simp[List.getElem?_eq_getElem h0,Hn.out,Int.natCast_inj]),HB.out.alloc HB.out.size _⟩
   ·clear hall;go_enter Tryz.func218,Tryz.ntmps218
    go_wp2_with(go_at_call 216;refine(rows_some H.out _).mono ?_;rintro e w1 ⟨A,c,rfl,hrd,hB⟩;have HB:=hide hB;clear hB;have Hrd:=hide hrd;clear hrd)
    go_ret;refine⟨RetB.no ?_,HB.out.alloc HB.out.size _⟩;rw[fits_some H.out];simp[List.getElem?_eq_none (by omega:ks.length≤i)]
end
section
open Go.RowKit
section
variable {s : Nat} {E : TypeId} {mk : Nat → Nat → List Value} {B K : Nat} {vs : Nat → Value} {ns m m' : Nat → Nat} {T : Nat → Option Nat} {w w' : World}
theorem place_lt{i n t:Nat}(hi:i<n)(ht:t<s):i*s+t<n*s:=by
 have h1:(i+1)*s≤n*s:=Nat.mul_le_mul_right _ hi;rw[Nat.succ_mul]at h1;omega
def marksG(mk:Nat→Nat→List Value)(j m:Nat):List Value:=(List.range m).flatMap (mk j)
theorem marksG_next(mk:Nat→Nat→List Value)(j m:Nat):marksG mk j (m+1)=marksG mk j m++mk j m:=by simp[marksG,List.range_succ]
theorem marksG_zero(mk:Nat→Nat→List Value)(j:Nat):marksG mk j 0=[]:=rfl
theorem marksG_len(hs :∀j i,(mk j i).length=s)(j m:Nat):(marksG mk j m).length=m*s:=by
 induction m with
 | zero=>simp[marksG_zero]
 | succ m ih=>rw[marksG_next,List.length_append,ih,hs,Nat.succ_mul]
theorem marksG_at(hs :∀j i,(mk j i).length=s){j i t:Nat}:∀{m:Nat},i<m→t<s→(marksG mk j m)[i*s+t]?=(mk j i)[t]?
 | m+1,h,ht=>by
  rw[marksG_next];by_cases hi:i<m
  ·rw[List.getElem?_append_left (by rw[marksG_len hs];exact place_lt hi ht),marksG_at hs hi ht]
  ·have:i=m:=by omega
   subst this;rw[List.getElem?_append_right (by rw[marksG_len hs];omega),marksG_len hs,Nat.add_sub_cancel_left]
theorem marksG_take(hs :∀j i,(mk j i).length=s){j m:Nat}:∀{n:Nat},m≤n→(marksG mk j n).take (m*s)=marksG mk j m
 | 0,h=>by
  have:m=0:=by omega
  subst this;simp[marksG_zero]
 | n+1,h=>by
  by_cases hm:m=n+1
  ·subst hm;rw[List.take_of_length_le (by rw[marksG_len hs];exact Nat.le_refl _)]
  ·rw[marksG_next,List.take_append_of_le_length (by rw[marksG_len hs];exact Nat.mul_le_mul_right _ (by omega)),marksG_take hs (by omega)]
theorem marksG_mem{P:Value→Prop}(h :∀j i,∀u∈mk j i,P u){j m:Nat}:∀u∈marksG mk j m,P u:=by
 intro u hu;simp only[marksG,List.mem_flatMap]at hu;obtain⟨i,_,hu⟩:=hu;exact h j i u hu
structure RowsG(s:Nat)(mk:Nat→Nat→List Value)(E:TypeId)(B K:Nat)(vs:Nat→Value)(ns m:Nat→Nat)(T:Nat→Option Nat)(w:World):Prop where
 len :∀j i,(mk j i).length=s
 row :∀j,j<K→∃xs,w.ownsRow B E s (vs j) (ns j) (marksG mk j (m j)++xs)
 tag :∀j,j<K→∀g,(vs j).ownBlock=some g→T g=some j
 lt :∀g,T g≠none→B≤g∧g<w.heap.size
theorem RowsG.turn(h:RowsG s mk E B K vs ns m T w){k:Nat}(ho:Only T k w w')(hrow:k<K→∃xs,w'.ownsRow B E s (vs k) (ns k) (marksG mk k (m' k)++xs))(hm :∀j,j≠k→m' j=m j):RowsG s mk E B K vs ns m' T w':=by
 refine⟨h.len,fun j hj=>?_,h.tag,fun g hg=>⟨(h.lt g hg).1,Nat.lt_of_lt_of_le (h.lt g hg).2 ho.1⟩⟩;by_cases e:j=k
 ·subst e;exact hrow hj
 ·obtain⟨xs,hx⟩:=h.row j hj;rw[hm j e];refine⟨xs,own_same hx fun g hg=>ho.2 g (hx.lt g hg).2 ?_⟩;rw[h.tag j hj g hg];intro e2;injection e2 with e2;exact e e2
theorem RowsG.still(h:RowsG s mk E B K vs ns m T w)(hb:w.heap.size≤w'.heap.size∧∀b,b<w.heap.size→T b≠none→w'.heap[b]?=w.heap[b]?):RowsG s mk E B K vs ns m T w':=by
 refine⟨h.len,fun j hj=>?_,h.tag,fun g hg=>⟨(h.lt g hg).1,Nat.lt_of_lt_of_le (h.lt g hg).2 hb.1⟩⟩;obtain⟨xs,hx⟩:=h.row j hj;exact⟨xs,own_same hx fun g hg=>hb.2 g (hx.lt g hg).2 (by rw[h.tag j hj g hg];exact fun e=>by cases e)⟩
theorem RowsG.below(h:RowsG s mk E B K vs ns m T w)(hB:Below w.heap.size w w'):RowsG s mk E B K vs ns m T w':=h.still ⟨hB.size,fun b hb _=>hB.block b hb⟩
theorem RowsG.mono(h:RowsG s mk E B K vs ns m T w)(hm :∀j,j<K→m' j=m j):RowsG s mk E B K vs ns m' T w:=⟨h.len,fun j hj=>by rw[hm j hj];exact h.row j hj,h.tag,h.lt⟩
theorem RowsG.shape(h:RowsG s mk E B K vs ns m T w){j:Nat}(hj:j<K):∃A c,vs j = .slice A (ns j) c:=by
 obtain⟨xs,hx⟩:=h.row j hj;exact own_shape hx
theorem RowsG.at_(h:RowsG s mk E B K vs ns m T w){j i:Nat}(hj:j<K)(hi:i<ns j)(h0:0<s):∃g c,vs j = .slice (some ⟨g,0,none⟩) (ns j) c∧T g=some j∧B≤g∧g<w.heap.size∧(∀t,t<s→∃u,w.cell? ⟨g,i*s+t,none⟩=some u)∧(∀o,w.frozen? ⟨g,o,none⟩=false)∧(i<m j→∀t u,(mk j i)[t]?=some u→w.cell? ⟨g,i*s+t,none⟩=some u):=by
 obtain⟨xs,hx⟩:=h.row j hj;rcases hx.2 with⟨_,h0⟩|⟨g,cap,cur,e,hb,hg,_⟩
 ·omega
 ·have ht:=h.tag j hj g (by rw[e];rfl);rw[e]at hx;have hl:=hx.1;have hin :∀t,t<s→i*s+t<ns j*s:=fun t ht=>place_lt hi ht;refine⟨g,cap,e,ht,hb,(Array.getElem?_eq_some_iff.1 hg).1,fun t ht=>⟨_,by rw[hx.cellAt _ (hin t ht)];exact List.getElem?_eq_getElem (by have:=hin t ht;omega)⟩,hx.frozenAt,fun hm t u hu=>?_⟩;have ht:t<s:=by have:=(List.getElem?_eq_some_iff.1 hu).1;rwa [h.len]at this
  rw[hx.cellAt _ (hin t ht),List.getElem?_append_left (by rw[marksG_len h.len];exact place_lt hm ht),marksG_at h.len hm ht];exact hu
theorem RowsG.full(h:RowsG s mk E B K vs ns m T w){j:Nat}(hj:j<K)(hm:m j=ns j):w.ownsRow B E s (vs j) (ns j) (marksG mk j (ns j)):=by
 obtain⟨xs,hx⟩:=h.row j hj;have hl:=hx.1;rw[hm,List.length_append,marksG_len h.len]at hl;have:xs=[]:=List.length_eq_zero_iff.1 (by omega);subst this;rw[hm,List.append_nil]at hx;exact hx
theorem own_puts{e n c g:Nat}:∀(us:List Value) (o:Nat) (w:World) (xs:List Value),w.ownsRow B e s (.slice (some ⟨g,0,none⟩) n c) n xs→o+us.length≤xs.length→
  (w.setCells g o us).ownsRow B e s (.slice (some ⟨g,0,none⟩) n c) n (xs.take o++(us++xs.drop (o+us.length)))∧w.grownBy (w.setCells g o us) (some g)
 | [],o,w,xs,h,_=>⟨by show w.ownsRow _ _ _ _ _ _;simpa using h,World.grownBy.refl _ _⟩
 | u::us,o,w,xs,h,hl=>by
  obtain⟨h1,h2⟩:=h.stored o u;simp only[List.length_cons]at hl;obtain⟨h3,h4⟩:=own_puts us (o+1) _ _ h1 (by simp;omega);refine⟨?_,⟨h4.os.trans h2.os,h4.tape.trans h2.tape,h4.output.trans h2.output,Nat.le_trans h2.size h4.size,fun k hk hr=>(h4.block k (Nat.lt_of_lt_of_le hk h2.size) hr).trans (h2.block k hk hr)⟩⟩;have ho:o<xs.length:=by omega
  have e1:(xs.set o u).take (o+1)=xs.take o++[u]:=by
   rw[List.set_eq_take_append_cons_drop,if_pos ho,show o+1=(xs.take o).length+1 by simp;omega,List.take_length_add_append];rfl
  have e2:(xs.set o u).drop (o+1+us.length)=xs.drop (o+(us.length+1)):=by
   rw[List.drop_set_of_lt (by omega),show o+1+us.length=o+(us.length+1)by omega]
  rw[e1,e2]at h3;simp only[List.append_assoc,List.cons_append,List.nil_append]at h3;exact h3
theorem RowsG.mark(h:RowsG s mk E B K vs ns m T w){k i g c o:Nat}(hk:k<K)(hi:i<ns k)(hm:m k=i)(hv:vs k = .slice (some ⟨g,0,none⟩) (ns k) c)(hT:T g=some k)(ho:o=i*s){wF:World}(hw:wF=w.setCells g o (mk k i)):
  RowsG s mk E B K vs ns (fun j=>if j=k then i+1 else m j) T wF:=by
 subst ho hw;obtain⟨xs,hx⟩:=h.row k hk;rw[hv]at hx;have hl:=hx.1;rw[hm]at hx hl;have hll:(marksG mk k i).length=i*s:=marksG_len h.len k i;have hup:i*s+s≤ns k*s:=by rw[←Nat.succ_mul];exact Nat.mul_le_mul_right _ hi
 obtain⟨h1,h2⟩:=own_puts (mk k i) (i*s) w _ hx (by rw[h.len,hl];exact hup);refine h.turn (k:=k) (Only.grown h2 (fun g' hg'=>by injection hg' with hg';rw[←hg'];exact hT)) (fun _=>⟨xs.drop s,?_⟩) (fun j hj=>if_neg hj);rw[hv,if_pos rfl,marksG_next,List.append_assoc];have e1:(marksG mk k i++xs).take (i*s)=marksG mk k i:=by rw[←hll,List.take_left'];rfl
 have e2:(marksG mk k i++xs).drop (i*s+(mk k i).length)=xs.drop s:=by rw[h.len,←hll,List.drop_append,List.drop_of_length_le (by omega),List.nil_append];congr 1;omega
 rw[e1,e2]at h1;exact h1
def GsG(s:Nat)(mk:Nat→Nat→List Value)(T:Nat→Option Nat)(w:World)(v:Value)(n p j:Nat):Prop :=
 ∃g c,v = .slice (some ⟨g,0,none⟩) n c∧n≤c∧c≤9223372036854775807∧T g=some j∧g<w.heap.size∧∀i,i<p→∀t u,(mk j i)[t]?=some u→w.cell? ⟨g,i*s+t,none⟩=some u
theorem GsG.keep{v:Value}{n p j:Nat}(h:GsG s mk T w v n p j)(hs:w.heap.size≤w'.heap.size)(hb :∀g,g<w.heap.size→T g=some j→w'.heap[g]?=w.heap[g]?):GsG s mk T w' v n p j:=by
 obtain⟨g,c,h1,h2,h3,h4,h5,h6⟩:=h;exact⟨g,c,h1,h2,h3,h4,Nat.lt_of_lt_of_le h5 hs,fun i hi t u hu=>(World.cell?_of_block (a:=⟨g,i*s+t,none⟩) (hb g h5 h4)).trans (h6 i hi t u hu)⟩
theorem GsG.less{v:Value}{n p q j:Nat}(h:GsG s mk T w v n p j)(hq:q≤p):GsG s mk T w v n q j:=by
 obtain⟨g,c,h1,h2,h3,h4,h5,h6⟩:=h;exact⟨g,c,h1,h2,h3,h4,h5,fun i hi=>h6 i (Nat.lt_of_lt_of_le hi hq)⟩
theorem GsG.retag{T':Nat→Option Nat}{v:Value}{n p j:Nat}(h:GsG s mk T w v n p j)(hT :∀g,T g=some j→T' g=some j):GsG s mk T' w v n p j:=by
 obtain⟨g,c,h1,h2,h3,h4,h5,h6⟩:=h;exact⟨g,c,h1,h2,h3,hT g h4,h5,h6⟩
theorem GsG.of_own{v:Value}{n p j:Nat}{xs:List Value}(hs :∀j i,(mk j i).length=s)(h:w.ownsRow B E s v n (marksG mk j p++xs))(hn:0<n)(hp:p≤n)(hT :∀g,v.ownBlock=some g→T g=some j):GsG s mk T w v n p j:=by
 rcases h.2 with⟨_,h0⟩|⟨g,cap,cur,rfl,hb,hg,hnc,hcm,_⟩
 ·omega
 ·refine⟨g,cap,rfl,hnc,by unfold maxLen at hcm;omega,hT g rfl,(Array.getElem?_eq_some_iff.1 hg).1,fun i hi t u hu=>?_⟩;have ht:t<s:=by have:=(List.getElem?_eq_some_iff.1 hu).1;rwa [hs]at this
  rw[h.cellAt _ (place_lt (Nat.lt_of_lt_of_le hi hp) ht),List.getElem?_append_left (by rw[marksG_len hs];exact place_lt hi ht),marksG_at hs hi ht];exact hu
theorem RowsG.append(h0:0<s)(h:RowsG s mk E B K vs ns m T w){k n a:Nat}{v v':Value}{xs news:List Value}(hB:B≤w.heap.size)(hown:w.ownsRow B E s v n xs)(hv :∀g,v.ownBlock=some g→T g=some k)
  (hown':w'.ownsRow B E s v' (n+a) (xs++news)) (hgr:w.grownBy w' v.ownBlock) (hw:Went w w' v v' n a)
  (hmk:k<K→m k≤ns k∧∃ys,marksG mk k (m k)++ys=xs.take (ns k*s)∨∀g,(vs k).ownBlock=some g→v.ownBlock≠some g) (hn:k<K→ns k≤n) (ha:xs.length=n*s):
  RowsG s mk E B K vs ns m (retag T w v' k) w'∧(∀g,v'.ownBlock=some g→retag T w v' k g=some k)∧Only T k w w'∧Below B w w':=by
 have hO:Only T k w w':=Only.grown hgr hv;have hBl:Below B w w':=(Below.refl _ _).grown hgr hB (fun g hg=>(hown.lt g hg).1);have htag :∀g,v'.ownBlock=some g→retag T w v' k g=some k:=by
  intro g hg;rcases hw with⟨A,c,rfl,rfl⟩|⟨hf,_⟩
  ·have e:(Value.slice A n c).ownBlock=some g:=by cases A<;>exact hg
   have:=hv g e;rw[retag_old (hown.lt g e).2];exact this
  ·rw[hf]at hg;injection hg with hg;unfold retag;rw[if_pos ⟨by rw[hf,hg],hg.symm⟩]
 refine⟨⟨h.len,fun j hj=>?_,fun j hj g hg=>?_,fun g hg=>?_⟩,htag,hO,hBl⟩
 ·obtain⟨zs,hz⟩:=h.row j hj;by_cases hjk:j=k
  ·subst hjk;rcases hw with⟨A,c,rfl,rfl⟩|⟨hf,hold⟩
   ·rcases hz.2 with⟨e0,h0⟩|⟨g,cap,cur,e,hb,hg,hnc,hcm,hcs,htk⟩
    ·refine⟨zs,hz.1,.inl ⟨e0,h0⟩⟩
    ·by_cases hgb:(Value.slice A n c).ownBlock=some g
     ·obtain⟨hmn,ys,hys⟩:=hmk hj;rcases hys with hys|hys
      ·
       rcases A with _|⟨g',o',p'⟩
       ·cases hgb
       ·have e1:g'=g:=by injection hgb
        subst e1;rcases hown.2 with⟨e2,_⟩|⟨g2,cap2,cur2,e2,_,hg2,hnc2,hcm2,hcs2,htk2⟩
        ·cases e2
        ·injection e2 with e2 _ e3;injection e2 with e2;injection e2 with e2 e4 e5;subst e2 e3 e4 e5;rw[hg]at hg2;injection hg2 with hg2;injection hg2 with hg2;subst hg2;rcases hown'.2 with⟨e6,_⟩|⟨g3,cap3,cur3,e6,hb3,hg3,hnc3,hcm3,hcs3,htk3⟩
         ·cases e6
         ·injection e6 with e6 _ e7;injection e6 with e6;injection e6 with e6;subst e6 e7;have hcc:cap=c:=Nat.eq_of_mul_eq_mul_right h0 (hcs.symm.trans hcs2);subst hcc;refine⟨ys,?_,.inr ⟨g',cap,cur3,e,hb3,hg3,hnc,hcm3,hcs3,?_⟩⟩
          ·rw[hys,List.length_take,ha];have:=Nat.mul_le_mul_right s (hn hj);omega
          ·have h1:=congrArg (List.take (ns j*s)) htk3;have hnn:=Nat.mul_le_mul_right s (hn hj);have hnn2:ns j*s≤(n+a)*s:=by rw[Nat.add_mul];omega
           rw[List.take_take,Nat.min_eq_left hnn2,List.take_append_of_le_length (by omega)]at h1;rw[hys,←h1]
           try simp
      ·exact absurd hgb (hys g (by rw[e];rfl))
     ·refine⟨zs,own_same hz fun g1 hg1=>?_⟩;have:g1=g:=by
       rw[e]at hg1;injection hg1 with hg1;exact hg1.symm
      subst this;exact hgr.block g1 (hz.lt g1 hg1).2 (fun e2=>hgb e2.symm)
   ·exact⟨zs,own_same hz fun g hg=>hold g (hz.lt g hg).2⟩
  ·exact⟨zs,own_same hz fun g hg=>hO.2 g (hz.lt g hg).2 (by rw[h.tag j hj g hg];exact fun e=>hjk (by injection e))⟩
 ·exact retag_some h.lt (h.tag j hj g hg)
 ·by_cases e:v'.ownBlock=some g∧g=w.heap.size
  ·exact⟨by omega,(hown'.lt g e.1).2⟩
  ·unfold retag at hg;rw[if_neg e]at hg;exact⟨(h.lt g hg).1,Nat.lt_of_lt_of_le (h.lt g hg).2 hO.1⟩
end
section
variable {s : Nat} {mk : Nat → Nat → List Value} {E E2 : TypeId} {w wr w' : World} {LB GB K B : Nat} {vs : Nat → Value} {ns p : Nat → Nat} {T0 T : Nat → Option Nat} {xs : List Value} {J : Nat → Prop}
structure FgG(s:Nat)(mk:Nat→Nat→List Value)(E E2:TypeId)(w:World)(LB GB K B:Nat)(vs:Nat→Value)(ns:Nat→Nat)(T0 T:Nat→Option Nat)(xs:List Value)(J:Nat→Prop)(p:Nat→Nat)(wr:World):Prop where
 rows:RowsG s mk E B K vs ns ns T wr
 tt :∀b,b<w.heap.size→T b=T0 b
 tg:T GB=none
 own:wr.ownsRow 0 E2 1 (.slice (some ⟨GB,0,none⟩) K K) K xs
 gs :∀j,J j→∃v,xs[j]?=some v∧GsG s mk T wr v (ns j+64) (p j) j
 ls :∀b,b<w.heap.size→T0 b=none→wr.heap[b]?=w.heap[b]?
 b:Below B w wr
 hB:B≤GB
 bw:B≤w.heap.size
 gl:w.heap.size≤GB
 lw:LB<w.heap.size
 t0:T0 LB=none
theorem FgG.gb(h:FgG s mk E E2 w LB GB K B vs ns T0 T xs J p wr):GB<wr.heap.size:=by
 have:=h.own.lt GB rfl;exact this.2
theorem FgG.lb(h:FgG s mk E E2 w LB GB K B vs ns T0 T xs J p wr):LB<wr.heap.size:=Nat.lt_of_lt_of_le h.lw h.b.size
theorem FgG.still(h:FgG s mk E E2 w LB GB K B vs ns T0 T xs J p wr)(hs:wr.heap.size≤w'.heap.size)(hb :∀b,b<wr.heap.size→(T b≠none∨b<w.heap.size∨b=GB)→w'.heap[b]?=wr.heap[b]?)(hB:Below B wr w'):FgG s mk E E2 w LB GB K B vs ns T0 T xs J p w':=by
 refine⟨h.rows.still ⟨hs,fun b hb1 hb2=>hb b hb1 (.inl hb2)⟩,h.tt,h.tg,own_same h.own fun g hg=>?_,fun j hj=>?_,fun b hb1 h0=>(hb b (Nat.lt_of_lt_of_le hb1 h.b.size) (.inr (.inl hb1))).trans (h.ls b hb1 h0),h.b.trans hB,h.hB,h.bw,h.gl,h.lw,h.t0⟩
 ·injection hg with hg;subst hg;exact hb GB h.gb (.inr (.inr rfl))
 ·obtain⟨v,h1,h2⟩:=h.gs j hj;exact⟨v,h1,h2.keep hs fun g hg ht=>hb g hg (.inl (by rw[ht];exact fun e=>by cases e))⟩
theorem FgG.alloc(h:FgG s mk E E2 w LB GB K B vs ns T0 T xs J p wr)(o:Obj):FgG s mk E E2 w LB GB K B vs ns T0 T xs J p (wr.alloc o):=
 h.still (by simp) (fun b hb _=>heap_alloc_old wr o hb) ((below_alloc wr o).mono (Nat.le_trans h.bw h.b.size))
theorem FgG.drew(h:FgG s mk E E2 w LB GB K B vs ns T0 T xs J p wr):FgG s mk E E2 w LB GB K B vs ns T0 T xs J p wr.drew:=h.still (Nat.le_refl _) (fun _ _ _=>rfl) (Below.refl _ _).drew
theorem FgG.drewN(h:FgG s mk E E2 w LB GB K B vs ns T0 T xs J p wr)(n:Nat):FgG s mk E E2 w LB GB K B vs ns T0 T xs J p (wr.drewN n):=h.still (Nat.le_refl _) (fun _ _ _=>rfl) ⟨rfl,rfl,rfl,Nat.le_refl _,fun _ _=>rfl⟩
theorem FgG.mono{J':Nat→Prop}{p':Nat→Nat}(h:FgG s mk E E2 w LB GB K B vs ns T0 T xs J p wr)(hJ :∀j,J' j→J j∧p' j≤p j):FgG s mk E E2 w LB GB K B vs ns T0 T xs J' p' wr:=by
 refine⟨h.rows,h.tt,h.tg,h.own,fun j hj=>?_,h.ls,h.b,h.hB,h.bw,h.gl,h.lw,h.t0⟩;obtain⟨v,h1,h2⟩:=h.gs j (hJ j hj).1;exact⟨v,h1,h2.less (hJ j hj).2⟩
theorem FgG.append(h0:0<s){k n a:Nat}{v v':Value}{ys news:List Value}(h:FgG s mk E E2 w LB GB K B vs ns T0 T xs J p wr)(hk:k<K)(hJ :∀j,J j→j≠k)(hown:wr.ownsRow B E s v n ys)(hv :∀g,v.ownBlock=some g→T g=some k)
  (hown':w'.ownsRow B E s v' (n+a) (ys++news)) (hgr:wr.grownBy w' v.ownBlock) (hw:Went wr w' v v' n a) (hmk:ys.take (ns k*s)=marksG mk k (ns k)) (hn:ns k≤n):
  FgG s mk E E2 w LB GB K B vs ns T0 (retag T wr v' k) xs J p w'∧∀g,v'.ownBlock=some g→retag T wr v' k g=some k:=by
 have hBs:=Nat.le_trans h.bw h.b.size;have hl:ys.length=n*s:=hown.1;obtain⟨hr,ht,hO,hBl⟩:=h.rows.append h0 hBs hown hv hown' hgr hw (fun _=>⟨Nat.le_refl _,[],.inl (by rw[List.append_nil,hmk])⟩) (fun _=>hn) hl;refine⟨⟨hr,?_,?_,own_same h.own fun g hg=>?_,fun j hj=>?_,fun b hb h0=>?_,h.b.trans hBl,h.hB,h.bw,h.gl,h.lw,h.t0⟩,ht⟩
 ·intro b hb;rw[retag_old (Nat.lt_of_lt_of_le hb h.b.size)];exact h.tt b hb
 ·rw[retag_old h.gb];exact h.tg
 ·injection hg with hg;subst hg;exact hO.2 _ h.gb (by show T GB≠_;rw[h.tg];exact fun e=>by cases e)
 ·obtain⟨v1,h1,h2⟩:=h.gs j hj;refine⟨v1,h1,(h2.keep hO.1 fun g hg hT=>hO.2 g hg ?_).retag fun g hg=>retag_some h.rows.lt hg⟩;rw[hT];intro e;injection e with e;exact hJ j hj e
 ·exact(hO.2 b (Nat.lt_of_lt_of_le hb h.b.size) (by show T b≠_;rw[h.tt b hb,h0];exact fun e=>by cases e)).trans (h.ls b hb h0)
theorem FgG.put{q:Nat}{v:Value}{J':Nat→Prop}{p':Nat→Nat}(h:FgG s mk E E2 w LB GB K B vs ns T0 T xs J p wr)(hq:q<K)(hg:GsG s mk T wr v (ns q+64) (p' q) q)(hJ :∀j,J' j→j=q∨(j≠q∧J j∧p' j≤p j)):
  FgG s mk E E2 w LB GB K B vs ns T0 T (xs.set q v) J' p' (wr.setCell ⟨GB,q,none⟩ v):=by
 obtain⟨hs,hgr⟩:=h.own.stored q v;have hone :∀b,b≠GB→b<wr.heap.size→(wr.setCell ⟨GB,q,none⟩ v).heap[b]?=wr.heap[b]?:=fun b hb hlt=>hgr.block b hlt (fun e=>hb (by injection e));have hTg :∀g,T g≠none→g≠GB:=fun g hT e=>hT (by rw[e];exact h.tg);have hl:xs.length=K:=by have:=h.own.1;omega
 refine⟨h.rows.still ⟨hgr.size,fun b hb hT=>hone b (hTg b hT) hb⟩,h.tt,h.tg,hs,fun j hj=>?_,fun b hb h0=>(hone b (by have:=h.gl;omega) (Nat.lt_of_lt_of_le hb h.b.size)).trans (h.ls b hb h0),h.b.trans ((Below.refl _ _).setCell (p:=⟨GB,q,none⟩) h.hB v),h.hB,h.bw,h.gl,h.lw,h.t0⟩;rcases hJ j hj with e|⟨hne,hJj,hp⟩
 ·subst e;exact⟨v,by simp[hl,hq],hg.keep hgr.size fun g hlt hT=>hone g (hTg g (by rw[hT];exact fun e=>by cases e)) hlt⟩
 ·obtain⟨v1,h1,h2⟩:=h.gs j hJj;exact⟨v1,by rw[List.getElem?_set_ne (Ne.symm hne)];exact h1,(h2.less hp).keep hgr.size fun g hlt hT=>hone g (hTg g (by rw[hT];exact fun e=>by cases e)) hlt⟩
theorem FgG.head{j:Nat}{v:Value}(h:FgG s mk E E2 w LB GB K B vs ns T0 T xs J p wr)(hc:w.cell? ⟨LB,j,none⟩=some v):wr.cell? ⟨LB,j,none⟩=some v:=(World.cell?_of_block (a:=⟨LB,j,none⟩) (h.ls LB h.lw h.t0)).trans hc
theorem FgG.grown{j:Nat}(h:FgG s mk E E2 w LB GB K B vs ns T0 T xs J p wr)(hj:j<K)(hJ:J j):∃g c,wr.cell? ⟨GB,j,none⟩=some (.slice (some ⟨g,0,none⟩) (ns j+64) c)∧ns j+64≤c∧c≤9223372036854775807∧∀i,i<p j→∀t u,(mk j i)[t]?=some u→wr.cell? ⟨g,i*s+t,none⟩=some u:=by
 obtain⟨v,h1,g,c,rfl,h2,h3,h4,h5,h6⟩:=h.gs j hJ;exact⟨g,c,by rw[h.own.cellAt j (by omega),h1],h2,h3,h6⟩
theorem FgG.place{j:Nat}(h:FgG s mk E E2 w LB GB K B vs ns T0 T xs J p wr)(hj:j<K):(∃u,wr.cell? ⟨GB,j,none⟩=some u)∧wr.frozen? ⟨GB,j,none⟩=false:=by
 have hl:=h.own.1;exact⟨⟨_,by rw[h.own.cellAt j (by omega)];exact List.getElem?_eq_getElem (by omega)⟩,h.own.frozenAt j⟩
end
end
section
open Go.RowKit
def RetI(e:Ending):Prop:=∃r:Int,e = .returned (.int .i64 r)∧is63 r
theorem wrap_is(x:Int):is63 (wrap64 x):=by unfold is63 wrap64;omega
def cnt:List ByteArray→Int→Int→Int
 | [],_,n=>n
 | s::r,m,n=>if n≤m then cnt r m (wrap64 (n+wrap64 ((s.size:Int) / 8)))else n
theorem cnt_is :∀(l:List ByteArray) (m n:Int),is63 n→is63 (cnt l m n):=by
 intro l
 induction l with
 | nil=>intro m n h;exact h
 | cons s r ih =>
  intro m n h;unfold cnt;split
  ·exact ih _ _ (wrap_is _)
  ·exact h
theorem cnt_step{l:List ByteArray}{q:Nat}{m n r:Int}(hq:q<l.length)(h:cnt (l.drop q) m n=r)(hn:n≤m):cnt (l.drop (q+1)) m (wrap64 (n+wrap64 ((l[q].size:Int) / 8)))=r:=by
 rw[List.drop_eq_getElem_cons hq]at h;unfold cnt at h
 rwa [if_pos hn]at h
theorem cnt_stop{l:List ByteArray}{q:Nat}{m n r:Int}(h:cnt (l.drop q) m n=r)(hn :¬(q<l.length∧n≤m)):n=r:=by
 by_cases hq:q<l.length
 ·rw[List.drop_eq_getElem_cons hq]at h;unfold cnt at h
  rwa [if_neg (fun e=>hn ⟨hq,e⟩)]at h
 ·rw[List.drop_eq_nil_of_le (by omega)]at h;exact h
theorem textsOf_any{S:Nat→Prop}{A:Option Addr}{c:Nat}{l:List ByteArray}{w:World}{m:Int}(hl:StrsIn S w A l):
  Calls Tryz.prog 123 #[.slice A l.length c,.int .i64 m] w fun e w'=>e = .returned (.int .i64 (cnt l m l.length))∧w=w':=by
 have Hl:=hide hl;have hlen:l.length≤9223372036854775807:=hl.2.2;clear hl;go_enter Tryz.func123,Tryz.ntmps123
 go_wp2_with fail
 go_loopw [5,6] (fun v i wr=>∃(q:Nat) (n:Int),q≤l.length∧i = .int .i64 q∧v = .int .i64 n∧Hid (cnt (l.drop q) m n=cnt l m l.length)∧w=wr) (fun _ i _=>l.length-(intOf i).toNat)
 case atStart=>exact⟨0,l.length,Nat.zero_le _,rfl,rfl,hide rfl,rfl⟩
 case round =>
  obtain⟨q,n,hq,rfl,rfl,Hn,rfl⟩:=hrel;by_cases hlt:q<l.length
  ·obtain⟨b,o,rfl,hc⟩:=Hl.out.1.at_ (j:=q) (by simpa using hlt);simp only[List.getElem_map]at hc;by_cases hnm:n≤m
   ·have Hs:=hide (cnt_step hlt Hn.out hnm)
    go_wp2_with fail
    go_roundw
    case rel=>exact⟨q+1,_,by omega,by go_num,rfl,Hs,(by first|rfl|trivial)⟩
    case measure=>simp[intOf];omega
   ·have hs:=hide (cnt_stop Hn.out (fun e=>hnm e.2))
    go_wp2_with fail
    go_ret;exact⟨by rw[←hs.out];rfl,rfl⟩
  ·have hs:=hide (cnt_stop Hn.out (fun e=>hlt e.1))
   go_wp2_with fail
   go_ret;exact⟨by rw[←hs.out];rfl,rfl⟩
theorem nodesOf_upto(N:Nat):∀(S:Nat→Prop) (k:Nat) (t:ByteArray) (n:Int) (A:Option Addr) (c:Nat) (ks:Fo) (m:Int) (w:World),ks.cnt<N→FoIn S w A ks→ks.len≤9223372036854775807→is63 m→
    Calls Tryz.prog 185 #[.agg #[.int .u8 k,.string t,.int .i64 n,.slice A ks.len c],.int .i64 m] w fun e w'=>RetI e∧Below w.heap.size w w':=by
  induction N with
  | zero=>intro S k t n A c ks m w h;omega
  | succ N ih =>
    intro S k t n A c ks m w hcnt hks hlen hm;have Hks:=hide hks;have Hih:=hide ih;clear hks ih;go_enter Tryz.func185,Tryz.ntmps185
    go_wp2_with fail
    go_loopw [5,6] (fun v i wr=>∃(q:Nat) (n:Int),q≤ks.len∧i = .int .i64 q∧v = .int .i64 n∧Hid (is63 n)∧Hid (Below w.heap.size w wr)∧w.heap.size<wr.heap.size∧wr.cell? ⟨w.heap.size,3,none⟩=some (.slice A ks.len c)) (fun _ i _=>ks.len-(intOf i).toNat)
    case atStart=>exact⟨0,_,Nat.zero_le _,rfl,rfl,hide (by first|exact wrap_is _|(unfold is63;omega)),hide (below_alloc _ _),by simp,by simp⟩
    case round =>
      obtain⟨q,n,hq,rfl,rfl,Hn,HB,hz,hc⟩:=hrel;by_cases hlt:q<ks.len
      · obtain⟨b,o,KA,c',k',t',n',ks',r,rfl,hd,c0,c1,c2,c3,e1,e2,e3,e4,e5,hks',hcn⟩:=(Hks.out.below HB.out).at_ hlt
        have Hks':=hide hks';clear hd e3 hks'
        go_wp2_with(go_at_call 185;(with_reducible refine(Hih.out S k' t' n' KA c' ks' _ _ (by omega) Hks'.out (by omega) (by first|exact wrap_is _|(unfold is63;omega))).mono ?_);rintro e w2 ⟨⟨r2,rfl,hr2⟩,hB⟩;have HB2:=hide (HB.out.trans (hB.mono HB.out.size));have hcell:=(hB.cell (p:=⟨w.heap.size,3,none⟩) hz).trans hc;have hz2:=Nat.lt_of_lt_of_le hz hB.size;clear hB)
        all_goals first
          | (go_ret;exact⟨⟨_,rfl,Hn.out⟩,HB.out⟩)
          | (go_roundw
             case rel=>exact⟨q+1,_,by omega,by go_num,rfl,hide (by first|exact wrap_is _|(unfold is63;omega)),HB2,hz2,hcell⟩
             case measure=>simp[intOf];omega)
      · go_wp2_with fail
        all_goals(go_ret;exact⟨⟨_,rfl,Hn.out⟩,HB.out⟩)
theorem nodesOf_any{S:Nat→Prop}{k:Nat}{t:ByteArray}{n:Int}{A:Option Addr}{c:Nat}{ks:Fo}{m:Int}{w:World}(h:FoIn S w A ks)(hl:ks.len≤9223372036854775807)(hm:is63 m):
  Calls Tryz.prog 185 #[.agg #[.int .u8 k,.string t,.int .i64 n,.slice A ks.len c],.int .i64 m] w fun e w'=>RetI e∧Below w.heap.size w w':=nodesOf_upto (ks.cnt+1) S k t n A c ks m w (by omega) h hl hm
theorem editOf_any{S:Nat→Prop}{x:Eh}{e:Ed}{w:World}{m:Int}(he:EdIn S w x e)(hm:is63 m):
  Calls Tryz.prog 124 #[.agg #[.int .u8 e.kind,.slice x.pA e.path.length x.pc,.int .i64 e.at_,.int .i64 e.far,.string e.frm,.string e.to,.slice x.oA e.old.len x.oc,.slice x.nA e.new.len x.nc],.int .i64 m] w fun e1 w'=>RetI e1∧Below w.heap.size w w':=by
 have Ho:=hide he.old;have Hn:=hide he.new;have hoc:=he.oc;have hnc:=he.nc;have hpc:=he.pc;clear he;go_enter Tryz.func124,Tryz.ntmps124
 go_wp2_with fail
 go_loopw [5,6] (fun v i wr=>∃(q:Nat) (n:Int),q≤e.old.len∧i = .int .i64 q∧v = .int .i64 n∧Hid (is63 n)∧Hid (Below w.heap.size w wr)∧w.heap.size<wr.heap.size∧(∀o,wr.cell? ⟨w.heap.size,o,none⟩=(w.alloc (.cells #[.int .u8 e.kind,.slice x.pA e.path.length x.pc,.int .i64 e.at_,.int .i64 e.far,.string e.frm,.string e.to,.slice x.oA e.old.len x.oc,.slice x.nA e.new.len x.nc] 30)).cell? ⟨w.heap.size,o,none⟩)) (fun _ i _=>e.old.len-(intOf i).toNat)
 case atStart=>exact⟨0,_,Nat.zero_le _,rfl,rfl,hide (wrap_is _),hide (below_alloc _ _),by simp,fun o=>rfl⟩
 case round =>
  obtain⟨q,n,hq,rfl,rfl,Hn1,HB,hz,hc⟩:=hrel;by_cases hlt:q<e.old.len
  ·by_cases hnm:n≤m
   ·skip
    obtain⟨b,o,KA,c',k',t',n',ks',r,hA,hd,c0,c1,c2,c3,e1,e2,e3,e4,e5,hks',hcn⟩:=(Ho.out.below HB.out).at_ hlt;have Hks':=hide hks';clear hd e3 hks'
    go_wp2_with(go_at_call 185;(with_reducible refine(nodesOf_any Hks'.out (by omega) (by first|exact wrap_is _|(unfold is63;omega))).mono ?_);rintro e3 w2 ⟨⟨r2,rfl,hr2⟩,hB⟩;have HB3:=hide (HB.out.trans (hB.mono HB.out.size));have hcell :∀o,w2.cell? ⟨w.heap.size,o,none⟩=(w.alloc (.cells #[.int .u8 e.kind,.slice x.pA e.path.length x.pc,.int .i64 e.at_,.int .i64 e.far,.string e.frm,.string e.to,.slice x.oA e.old.len x.oc,.slice x.nA e.new.len x.nc] 30)).cell? ⟨w.heap.size,o,none⟩:=(fun o=>(hB.cell (p:=⟨w.heap.size,o,none⟩) hz).trans (hc o));have hz3:=Nat.lt_of_lt_of_le hz hB.size;clear hB)
    go_roundw
    case rel=>exact⟨_,.int .i64 ((q:Int)+1),_,_,_,_,_,_,_,_,_,_,_,_,_,_,_,_,_,_,_,_,_,_,_,⟨q+1,wrap64 (n+r2),by omega,by go_num,rfl,hide (wrap_is _),HB3,hz3,hcell⟩,(by rw[hA])⟩
    case measure=>simp[intOf];omega
   ·go_wp2_with fail
    go_loopw [5,7] (fun v i wr=>∃(q:Nat) (n:Int),q≤e.new.len∧i = .int .i64 q∧v = .int .i64 n∧Hid (is63 n)∧Hid (Below w.heap.size w wr)∧w.heap.size<wr.heap.size∧(∀o,wr.cell? ⟨w.heap.size,o,none⟩=(w.alloc (.cells #[.int .u8 e.kind,.slice x.pA e.path.length x.pc,.int .i64 e.at_,.int .i64 e.far,.string e.frm,.string e.to,.slice x.oA e.old.len x.oc,.slice x.nA e.new.len x.nc] 30)).cell? ⟨w.heap.size,o,none⟩)) (fun _ i _=>e.new.len-(intOf i).toNat)
    case atStart=>exact⟨0,_,Nat.zero_le _,rfl,rfl,Hn1,HB,hz,hc⟩
    case round =>
     clear HB hz hc Hn1;obtain⟨q,n,hq,rfl,rfl,Hn1,HB,hz,hc⟩:=hrel;by_cases hlt:q<e.new.len
     ·by_cases hnm:n≤m
      ·skip
       obtain⟨b,o,KA,c',k',t',n',ks',r,hA,hd,c0,c1,c2,c3,e1,e2,e3,e4,e5,hks',hcn⟩:=(Hn.out.below HB.out).at_ hlt;have Hks':=hide hks';clear hd e3 hks'
       go_wp2_with(go_at_call 185;(with_reducible refine(nodesOf_any Hks'.out (by omega) (by first|exact wrap_is _|(unfold is63;omega))).mono ?_);rintro e3 w2 ⟨⟨r2,rfl,hr2⟩,hB⟩;have HB3:=hide (HB.out.trans (hB.mono HB.out.size));have hcell :∀o,w2.cell? ⟨w.heap.size,o,none⟩=(w.alloc (.cells #[.int .u8 e.kind,.slice x.pA e.path.length x.pc,.int .i64 e.at_,.int .i64 e.far,.string e.frm,.string e.to,.slice x.oA e.old.len x.oc,.slice x.nA e.new.len x.nc] 30)).cell? ⟨w.heap.size,o,none⟩:=(fun o=>(hB.cell (p:=⟨w.heap.size,o,none⟩) hz).trans (hc o));have hz3:=Nat.lt_of_lt_of_le hz hB.size;clear hB)
       go_roundw
       case rel=>exact⟨_,.int .i64 ((q:Int)+1),_,_,_,_,_,_,_,_,_,_,_,_,_,_,_,_,_,_,_,_,_,_,_,⟨q+1,wrap64 (n+r2),by omega,by go_num,rfl,hide (wrap_is _),HB3,hz3,hcell⟩,(by rw[hA])⟩
       case measure=>simp[intOf];omega
      ·go_wp2_with fail
       all_goals(go_ret;exact⟨⟨_,rfl,Hn1.out⟩,HB.out⟩)
     ·go_wp2_with fail
      all_goals(go_ret;exact⟨⟨_,rfl,Hn1.out⟩,HB.out⟩)
  ·go_wp2_with fail
   go_loopw [5,7] (fun v i wr=>∃(q:Nat) (n:Int),q≤e.new.len∧i = .int .i64 q∧v = .int .i64 n∧Hid (is63 n)∧Hid (Below w.heap.size w wr)∧w.heap.size<wr.heap.size∧(∀o,wr.cell? ⟨w.heap.size,o,none⟩=(w.alloc (.cells #[.int .u8 e.kind,.slice x.pA e.path.length x.pc,.int .i64 e.at_,.int .i64 e.far,.string e.frm,.string e.to,.slice x.oA e.old.len x.oc,.slice x.nA e.new.len x.nc] 30)).cell? ⟨w.heap.size,o,none⟩)) (fun _ i _=>e.new.len-(intOf i).toNat)
   case atStart=>exact⟨0,_,Nat.zero_le _,rfl,rfl,Hn1,HB,hz,hc⟩
   case round =>
    clear HB hz hc Hn1;obtain⟨q,n,hq,rfl,rfl,Hn1,HB,hz,hc⟩:=hrel;by_cases hlt:q<e.new.len
    ·by_cases hnm:n≤m
     ·skip
      obtain⟨b,o,KA,c',k',t',n',ks',r,hA,hd,c0,c1,c2,c3,e1,e2,e3,e4,e5,hks',hcn⟩:=(Hn.out.below HB.out).at_ hlt;have Hks':=hide hks';clear hd e3 hks'
      go_wp2_with(go_at_call 185;(with_reducible refine(nodesOf_any Hks'.out (by omega) (by first|exact wrap_is _|(unfold is63;omega))).mono ?_);rintro e3 w2 ⟨⟨r2,rfl,hr2⟩,hB⟩;have HB3:=hide (HB.out.trans (hB.mono HB.out.size));have hcell :∀o,w2.cell? ⟨w.heap.size,o,none⟩=(w.alloc (.cells #[.int .u8 e.kind,.slice x.pA e.path.length x.pc,.int .i64 e.at_,.int .i64 e.far,.string e.frm,.string e.to,.slice x.oA e.old.len x.oc,.slice x.nA e.new.len x.nc] 30)).cell? ⟨w.heap.size,o,none⟩:=(fun o=>(hB.cell (p:=⟨w.heap.size,o,none⟩) hz).trans (hc o));have hz3:=Nat.lt_of_lt_of_le hz hB.size;clear hB)
      go_roundw
      case rel=>exact⟨_,.int .i64 ((q:Int)+1),_,_,_,_,_,_,_,_,_,_,_,_,_,_,_,_,_,_,_,_,_,_,_,⟨q+1,wrap64 (n+r2),by omega,by go_num,rfl,hide (wrap_is _),HB3,hz3,hcell⟩,(by rw[hA])⟩
      case measure=>simp[intOf];omega
     ·go_wp2_with fail
      all_goals(go_ret;exact⟨⟨_,rfl,Hn1.out⟩,HB.out⟩)
    ·go_wp2_with fail
     all_goals(go_ret;exact⟨⟨_,rfl,Hn1.out⟩,HB.out⟩)
theorem patchOf_any{S:Nat→Prop}{x:Ph}{p:Pt}{w:World}{m:Int}(hp:PtIn S w x p)(hm:is63 m):
  Calls Tryz.prog 51 #[.agg #[.int .u8 p.kind,.string p.file,.string p.text,.int .i64 p.hunk.at_,.slice x.h.oA p.hunk.old.length x.h.oc,.slice x.h.nA p.hunk.new.length x.h.nc,.int .u8 p.edit.kind,.slice x.e.pA p.edit.path.length x.e.pc,.int .i64 p.edit.at_,.int .i64 p.edit.far,.string p.edit.frm,.string p.edit.to,.slice x.e.oA p.edit.old.len x.e.oc,.slice x.e.nA p.edit.new.len x.e.nc],.int .i64 m] w fun e1 w'=>RetI e1∧Below w.heap.size w w':=by
 have Hp:=hide hp;have Hm:=hide hm;clear hp hm;go_enter Tryz.func51,Tryz.ntmps51
 go_wp2_with fail
 go_quiet ((go_at_call 123;first
  | ((with_reducible refine(textsOf_any (Hp.out.hunk.old.below (blw_drewN (below_alloc _ _) _))).mono ?_);rintro e2 w2 ⟨rfl,rfl⟩;exact⟨rfl,_,rfl⟩)
  | ((with_reducible refine(textsOf_any (Hp.out.hunk.new.below (blw_drewN (below_alloc _ _) _))).mono ?_);rintro e3 w3 ⟨rfl,rfl⟩;exact⟨rfl,_,rfl⟩)))
 go_wp2_with(go_at_call 124;(with_reducible refine(editOf_any (Hp.out.edit.below (blw_drewN (below_alloc _ _) _)) (wrap_is _)).mono ?_);rintro e4 w4 ⟨⟨r4,rfl,hr4⟩,hB⟩;have HB:Hid (Below w.heap.size w w4):=hide (blw_up (blw_drewN (below_alloc _ _) _) hB);clear hB)
 all_goals(go_ret;exact⟨⟨_,rfl,wrap_is _⟩,(by first|exact HB.out|exact blw_drewN (below_alloc _ _) _)⟩)
end
end Go.Proofs.YtialngdffhmobaaGreatDoor
