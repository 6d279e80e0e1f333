/- Part 43 of what scriptBack_cardUpto rests on. -/
import Derived.Test.YtjjaojnglnpgaaaGreatDoorY14
import Derived.Test.YtjjaojnglnpgaaaGreatDoorY16
import Derived.Test.YtjjaojnglnpgaaaGreatDoorY41
import Derived.Test.YtjjaojnglnpgaaaGreatDoorY03
import Derived.Test.YtjjaojnglnpgaaaGreatDoorY15
import Derived.Test.YtjjaojnglnpgaaaGreatDoorY05
import Derived.Test.YtjjaojnglnpgaaaGreatDoorY40
import Derived.Test.YtjjaojnglnpgaaaGreatDoorY12
import Derived.Test.YtjjaojnglnpgaaaGreatDoorY39
import Derived.Test.YtjjaojnglnpgaaaGreatDoorY00
set_option linter.unusedVariables false
set_option linter.unusedSimpArgs false
set_option maxHeartbeats 16000000
set_option maxRecDepth 1000000
namespace Go.Proofs.YtjjaojnglnpgaaaGreatDoor
section
open Go.RowKit
structure iP(S:Nat→Prop)(w:World)(A:Option Addr)(l:List dh):Prop where
 len:l.length≤9223372036854775807
 at_ :∀(q:Nat) (it:dh),l[q]?=some it→∃b o,A=some ⟨b,o,none⟩∧w.rangeAt b (o+q*20) it.cells∧dw S w it.c it.x it.A it.n
theorem iP.below{S:Nat→Prop}{w w':World}{A:Option Addr}{l:List dh}(h:iP S w A l)(hb:Below w.heap.size w w'):iP S w' A l:=⟨h.len,fun q it hq=>by
 obtain⟨b,o,e,h1,h2⟩:=h.at_ q it hq;have h0:b<w.heap.size:=block_lt_of_cell (h1 0 _ rfl);exact⟨b,o,e,fun j v hv=>(hb.cell (p:=⟨b,o+q*20+j,none⟩) h0).trans (h1 j v hv),h2.below hb⟩⟩
def dB(l:List ByteArray):Nat:=l.length+(l.map fun s=>s.size / 8).sum
def wQ(e:Ed):Nat:=1+e.path.length+(e.frm.size+e.to.size) / 8+e.old.size+e.new.size
def lF(p:Pt):Nat:=1+(p.file.size+p.text.size) / 8+dB p.hunk.old+dB p.hunk.new+wQ p.edit
def gZ(c:bJ):Nat:=1+(c.repo.size+c.frm.size+c.name.size+c.file.size+c.bytes.length) / 8+lF c.patch
theorem wrap_in{x:Int}(h:-9223372036854775808≤x∧x≤9223372036854775807):wrap64 x=x:=by unfold wrap64;omega
theorem OG :∀(l:List ByteArray) (m n:Int),0≤n→n+((l.map fun s=>s.size / 8).sum:Nat)≤2199023255552→n≤cnt l m n∧cnt l m n≤n+((l.map fun s=>s.size / 8).sum:Nat)∧(cnt l m n≤m→n+((l.map fun s=>s.size / 8).sum:Nat)≤cnt l m n)
 | [],m,n,h0,h1=>by simp[cnt]
 | s::r,m,n,h0,h1=>by
  simp only[List.map_cons,List.sum_cons]at h1⊢;unfold cnt;by_cases hm:n≤m
  ·rw[if_pos hm];have e1:wrap64 ((s.size:Int) / 8)=(s.size:Int) / 8:=wrap_in (by omega);have e2:wrap64 (n+(s.size:Int) / 8)=n+(s.size:Int) / 8:=wrap_in (by omega);rw[e1,e2];have ih:=OG r m (n+(s.size:Int) / 8) (by omega) (by omega);omega
  ·rw[if_neg hm];omega
theorem YR{S:Nat→Prop}{x:Ph}{p:Pt}{w:World}{m:Int}(hp:aV S w x p)(hm1:-1099511627776≤m)(hm2:m≤1099511627776)(hU:lF p≤1099511627776):
  Calls Tryz.prog 37 #[.agg (gQ p x).toArray,.int .i64 m] w fun e1 w'=>rM (lF p) m e1∧Below w.heap.size w w':=by
 have hu1:1+(p.file.size+p.text.size) / 8+dB p.hunk.old+dB p.hunk.new+wQ p.edit≤1099511627776:=hU;have l1:=OG p.hunk.old m p.hunk.old.length (by omega) (by unfold dB at hu1;omega);have l2:=OG p.hunk.new m p.hunk.new.length (by omega) (by unfold dB at hu1;omega);have t1:(dB p.hunk.old:Int)=(p.hunk.old.length:Int)+((p.hunk.old.map fun s=>s.size / 8).sum:Nat):=by unfold dB;omega
 have t2:(dB p.hunk.new:Int)=(p.hunk.new.length:Int)+((p.hunk.new.map fun s=>s.size / 8).sum:Nat):=by unfold dB;omega
 have hE:wQ p.edit≤1099511627776:=by omega
 have HQ:Hid (∀r4:Int,0≤r4→r4≤(wQ p.edit:Int)→(1+((p.file.size:Int)+p.text.size) / 8+cnt p.hunk.old m p.hunk.old.length+cnt p.hunk.new m p.hunk.new.length≤m)→(r4≤m-(1+((p.file.size:Int)+p.text.size) / 8+cnt p.hunk.old m p.hunk.old.length+cnt p.hunk.new m p.hunk.new.length)→(wQ p.edit:Int)≤r4)→
   rM (lF p) m (.returned (.int .i64 (1+((p.file.size:Int)+p.text.size) / 8+cnt p.hunk.old m p.hunk.old.length+cnt p.hunk.new m p.hunk.new.length+r4)))):=hide (fun r4 h0 h1 h2 h3=>⟨_,rfl,by omega,by unfold lF;omega,fun h=>by unfold lF;omega⟩)
 have OH:Hid (m<1+((p.file.size:Int)+p.text.size) / 8+cnt p.hunk.old m p.hunk.old.length+cnt p.hunk.new m p.hunk.new.length→rM (lF p) m (.returned (.int .i64 (1+((p.file.size:Int)+p.text.size) / 8+cnt p.hunk.old m p.hunk.old.length+cnt p.hunk.new m p.hunk.new.length)))):=hide (fun h2=>⟨_,rfl,by omega,by unfold lF;omega,fun h=>by omega⟩);have b1:0≤cnt p.hunk.old m p.hunk.old.length:=by omega
 have b2:cnt p.hunk.old m p.hunk.old.length≤1099511627776:=by omega
 have b3:0≤cnt p.hunk.new m p.hunk.new.length:=by omega
 have b4:cnt p.hunk.new m p.hunk.new.length≤1099511627776:=by omega
 have b5:p.file.size+p.text.size≤8796093022216:=by omega
 have Hp:=hide hp;clear hp l1 l2 t1 t2 hu1 hU;generalize hc1:cnt p.hunk.old m p.hunk.old.length=a1 at HQ OH b1 b2;generalize hc2:cnt p.hunk.new m p.hunk.new.length=a2 at HQ OH b3 b4;have HT1:Hid (∀W:World,Below w.heap.size w W→Calls Tryz.prog 18 #[.slice x.h.oA p.hunk.old.length x.h.oc,.int .i64 m] W fun e w'=>e = .returned (.int .i64 a1)∧W=w'):=hide fun W hW=>by rw[←hc1];exact QM (Hp.out.hunk.old.below hW)
 have HT2:Hid (∀W:World,Below w.heap.size w W→Calls Tryz.prog 18 #[.slice x.h.nA p.hunk.new.length x.h.nc,.int .i64 m] W fun e w'=>e = .returned (.int .i64 a2)∧W=w'):=hide fun W hW=>by rw[←hc2];exact QM (Hp.out.hunk.new.below hW)
 clear hc1 hc2;go_enter Tryz.func37,Tryz.ntmps37
 go_wp2_with fail
 go_quiet ((go_at_call 18;first
  | ((with_reducible refine(HT1.out _ (bW (az _ _) _)).mono ?_);rintro e2 w2 ⟨rfl,rfl⟩;exact⟨rfl,_,rfl⟩)
  | ((with_reducible refine(HT2.out _ (bW (az _ _) _)).mono ?_);rintro e3 w3 ⟨rfl,rfl⟩;exact⟨rfl,_,rfl⟩)))
 by_cases hbig:m<1+((p.file.size:Int)+p.text.size) / 8+a1+a2
 ·go_wp2_with fail
  all_goals(go_ret;exact⟨OH.out hbig,(by first|exact az _ _|exact bW (az _ _) _)⟩)
 ·have hge:1+((p.file.size:Int)+p.text.size) / 8+a1+a2≤m:=by omega
  go_wp2_with(go_at_call 101;(with_reducible refine(YP (m:=m-(1+((p.file.size:Int)+p.text.size) / 8+a1+a2)) (Hp.out.edit.below (bW (az _ _) _)) (by omega) (by omega) (aI hE (by decide))).mono ?_);rintro e4 w4 ⟨⟨r4,rfl,hr0,hr1,hr2⟩,hB⟩;have YS:r4≤1099511627776:=(by have h9:r4≤(wQ p.edit:Int):=hr1;omega);have YT:=hide hr1;have kD:=hide hr2;have HB:Hid (Below w.heap.size w w4):=hide (aZ (bW (az _ _) _) hB);clear hB hr1 hr2)
  go_ret;exact⟨HQ.out r4 hr0 YT.out hge kD.out,HB.out⟩
theorem bu.puts{D:Nat→Prop}{N:Nat}{w:World}{l:List ByteArray}{vs:List Value}(h:bu D N w l vs)(o:Nat)(us:List Value)(ho:o+us.length≤20):
  bu D N (w.setCells N (1+o) us) l (vs.take o++us++vs.drop (o+us.length)):=by
 obtain⟨⟨⟨A,c,h1,h2,h3⟩,h4,h5⟩,h6,h7,h8⟩:=h;have hf :∀a,(w.setCells N (1+o) us).frozen? a=w.frozen? a:=fun a=>World.frozen?_setCells N us (1+o) w a;have hlo:(vs.take o).length=o:=by rw[List.length_take];omega
 refine⟨⟨⟨A,c,(World.cell?_setCells_out N us (1+o) w ⟨N,0,none⟩ (fun _ _=> .inl (by show 0<1+o;omega))).trans h1,h2.keep (fun b hb=>(xZ N (P:=fun k=>k≠N) (fun h=>h rfl) us (1+o) w).block b (h5 b hb)),h3⟩,(hf _).trans h4,h5⟩,
  by simp only[aJ,List.length_take,List.length_drop];omega,fun j u hj=>?_,fun q=>(hf _).trans (h8 q)⟩
 by_cases c1:j<o
 ·rw[World.cell?_setCells_out N us (1+o) w ⟨N,1+j,none⟩ (fun _ _=> .inl (by show 1+j<1+o;omega))];rw[List.append_assoc,List.getElem?_append_left (by omega),List.getElem?_take,if_pos c1]at hj;exact h7 j u hj
 ·by_cases c2:j<o+us.length
  ·have h:=World.cell?_setCells_in N us (1+o) w (fun i hi=>by
    have e:vs[o+i]?=some (vs[o+i]'(by omega)):=List.getElem?_eq_getElem (by omega);rw[show 1+o+i=1+(o+i)by omega,h7 _ _ e];rfl) (j-o) (by omega)
   rw[show 1+o+(j-o)=1+j by omega]at h;rw[h];rw[List.append_assoc,List.getElem?_append_right (by omega),hlo,List.getElem?_append_left (by omega),List.getElem?_eq_getElem (by omega)]at hj;exact hj
  ·rw[World.cell?_setCells_out N us (1+o) w ⟨N,1+j,none⟩ (fun _ _=> .inr (by show 1+o+us.length≤1+j;omega))];rw[List.append_assoc,List.getElem?_append_right (by omega),hlo,List.getElem?_append_right (by omega),List.getElem?_drop]at hj;rw[show o+us.length+(j-o-us.length)=j by omega]at hj;exact h7 j u hj
theorem OI{N:Nat}{w w1 w2:World}(h:aW N w w1)(h':aW N w1 w2):aW N w w2:=h.trans (h'.mono fun k hk=>⟨aH hk.1 h.size,hk.2⟩)
theorem YU{t b:List UInt8}(h:unhexL t=some b):2*b.length≤t.length∨b=[]:=by
 have h1:=Fg t b h;unfold hexL at h1;split at h1
 ·rename_i e;exact .inr e
 ·rw[←h1,Ar];exact .inl (aC _)
theorem Uo{w:World}{B:Nat}{v:Value}{l:List UInt8}(h:w.ownsRow B 5 1 v l.length (Lib.byteCells l)):∃A c,v = .slice A l.length c∧BytesIn (fun _=>True) w A l∧l.length≤c∧c≤9223372036854775807:=by
 have h0:=NK h;obtain⟨A,c,rfl⟩:=iw h0;have hr:=JE h0 rfl;exact⟨A,c,rfl,⟨Ez h0 fun _ _=>trivial,aI hr.1 hr.2⟩,hr⟩
theorem Ur{D:Nat→Prop}{N:Nat}{w:World}{l:List ByteArray}{vs:List Value}(h:bu D N w l vs)(hs :∀s r,l=s::r→isWord s=false):
  Calls Tryz.prog 106 #[.pointer (some ⟨N,0,none⟩)] w fun e w'=>e=dm∧aW N w w':=by
 have H:=hide h;clear h;go_enter Tryz.func106,Tryz.ntmps106
 go_wp2_with(go_at_call 77;(with_reducible refine(JV H.out.wd hs).mono ?_);rintro e1 w1 ⟨rfl,h1⟩)
 exact⟨rfl,rfl,h1⟩
theorem YV{D:Nat→Prop}{N:Nat}{w:World}{n:ByteArray}{vs:List Value}(h:bu D N w [n] vs)(hn:isWord n=true):
  Calls Tryz.prog 106 #[.pointer (some ⟨N,0,none⟩)] w fun e w'=>e=dm∧aW N w w':=by
 have H:=hide h;clear h;go_enter Tryz.func106,Tryz.ntmps106
 go_wp2_with(first
  | (go_at_call 77;(with_reducible refine(qw H.out.wd hn).mono ?_);rintro e1 w1 ⟨rfl,h1,u,hu⟩;have h2:=H.out.take hu h1;obtain⟨x,hc⟩:=h2.cellAt 4 (by decide);have hf:=h2.free 4;have H2:=hide (h2.put (j:=3) (by decide) (.string n));have HS2:Hid (aW N w (w1.setCell ⟨N,4,none⟩ (.string n))):=hide (by rw[hu];exact((Keep.refl _ w).setCell (fun hk=>hk.2 rfl) u).setCell (fun hk=>hk.2 rfl) _);clear h1 h2 hu)
  | (go_at_call 170;(with_reducible refine(Si H2.out.wd).mono ?_);rintro e2 w2 ⟨rfl,rfl⟩))
 exact⟨rfl,rfl,HS2.out⟩
theorem YW{D:Nat→Prop}{N:Nat}{w:World}{n t:ByteArray}{r:List ByteArray}{vs:List Value}(h:bu D N w (n::t::r) vs)(hn:isWord n=true)(hu:unhexL t.data.toList=none)(hl:t.size≤1099511627776):
  Calls Tryz.prog 106 #[.pointer (some ⟨N,0,none⟩)] w fun e w'=>e=dm∧aW N w w':=by
 have H:=hide h;have HU:=hide hu;clear h hu;go_enter Tryz.func106,Tryz.ntmps106
 go_wp2_with(first
  | (go_at_call 77;(with_reducible refine(qw H.out.wd hn).mono ?_);rintro e1 w1 ⟨rfl,h1,u,hu⟩;have h2:=H.out.take hu h1;obtain⟨x,hc⟩:=h2.cellAt 4 (by decide);have hf:=h2.free 4;have H2:=hide (h2.put (j:=3) (by decide) (.string n));have HS2:Hid (aW N w (w1.setCell ⟨N,4,none⟩ (.string n))):=hide (by rw[hu];exact((Keep.refl _ w).setCell (fun hk=>hk.2 rfl) u).setCell (fun hk=>hk.2 rfl) _);clear h1 h2 hu)
  | (go_at_call 170;(with_reducible refine(Rq H2.out.wd HU.out hl).mono ?_);rintro e2 w2 ⟨rfl,u2,hB2⟩;have HB2:=hide hB2;clear hB2))
 exact⟨rfl,rfl,OI HS2.out (Gf HB2.out)⟩
theorem YX{D:Nat→Prop}{N:Nat}{w:World}{n t:ByteArray}{r:List ByteArray}{vs:List Value}{b:List UInt8}(h:bu D N w (n::t::r) vs)(ht:eH N w)(hn:isWord n=true)(hu:unhexL t.data.toList=some b)(hl:t.size≤1099511627776)(hb:b.length≤lid)(hno :¬dG b):
  Calls Tryz.prog 106 #[.pointer (some ⟨N,0,none⟩)] w fun e w'=>e=dm∧aW N w w':=by
 have H:=hide h;have HU:=hide hu;have HT:=hide ht;have YY:=h.lt;clear h hu ht;go_enter Tryz.func106,Tryz.ntmps106
 go_wp2_with(first
  | (go_at_call 77;(with_reducible refine(qw H.out.wd hn).mono ?_);rintro e1 w1 ⟨rfl,h1,u,hu⟩;have h2:=H.out.take hu h1;obtain⟨x,hc⟩:=h2.cellAt 4 (by decide);have hf:=h2.free 4;have H2:=hide (h2.put (j:=3) (by decide) (.string n));have HS2:Hid (aW N w (w1.setCell ⟨N,4,none⟩ (.string n))):=hide (by rw[hu];exact((Keep.refl _ w).setCell (fun hk=>hk.2 rfl) u).setCell (fun hk=>hk.2 rfl) _);clear h1 h2 hu)
  | (go_at_call 170;(with_reducible refine(MS H2.out.wd HU.out hl).mono ?_);rintro e2 w2 ⟨v,rfl,ho,h3,u2,hB2⟩;have hr:=Uo ho;obtain⟨Av,cv,rfl,hby,hcv1,hcv2⟩:=hr;have OJ:=hide hby;have jh:Hid (aW N w w2):=hide (OI HS2.out (Gf hB2));clear ho h3 hB2 hby)
  | (go_at_call 169;(with_reducible refine(DT OJ.out rfl hcv1 hcv2 hb (HT.out.side jh.out).tab hno).mono ?_);rintro e3 w3 ⟨hB3,rfl⟩;have HB3:=hide hB3;clear hB3)
  | (go_at_call 78;(with_reducible refine(AX rfl _).mono ?_);rintro e4 w4 ⟨rfl,rfl⟩))
 refine⟨rfl,rfl,?_⟩;have hz:=jh.out.size;have h4:aW N w w3:=jh.out.trans (Keep.of_below HB3.out fun k hk=>by omega);have hz3:=h4.size;exact h4.alloc (fun k hk=>hk.1) _
abbrev eX(p:Pt)(y:Ph):List Value:=[.int .u8 p.kind,.string p.file,.string p.text,.int .i64 p.hunk.at_,.slice y.h.oA p.hunk.old.length y.h.oc,.slice y.h.nA p.hunk.new.length y.h.nc,.int .u8 p.edit.kind,.slice y.e.pA p.edit.path.length y.e.pc,.int .i64 p.edit.at_,.int .i64 p.edit.far,.string p.edit.frm,.string p.edit.to,.slice y.e.oA p.edit.old.len y.e.oc,.slice y.e.nA p.edit.new.len y.e.nc]
theorem zH(p:Pt)(y:Ph):(eX p y).toArray.all (·.oneCell')=true:=all_oneCell_toArray (cs:=eX p y) (by
 intro v hv;simp only[eX,List.mem_cons,List.not_mem_nil,or_false]at hv;rcases hv with rfl|rfl|rfl|rfl|rfl|rfl|rfl|rfl|rfl|rfl|rfl|rfl|rfl|rfl<;>rfl)
theorem YZ{D:Nat→Prop}{N:Nat}{w:World}{n t:ByteArray}{r:List ByteArray}{vs:List Value}{b:List UInt8}{p:Pt}(h:bu D N w (n::t::r) vs)(ht:eH N w)(hn:isWord n=true)(hu:unhexL t.data.toList=some b)(hl:t.size≤1099511627776)(hb:b.length≤lid)(hf:dn p)(ho:bV p)(hp:b=dX p):
  Calls Tryz.prog 106 #[.pointer (some ⟨N,0,none⟩)] w fun e w'=>e = .returned (.tuple #[])∧∃y:Ph,bu D N w' r ((vs.set 3 (.string n)).take 5++eX p y++(vs.set 3 (.string n)).drop 19)∧
   aV (fun b=>w.heap.size<b) w' y p∧(∃L,fQ w' y p L∧L.Nodup∧∀b∈L,w.heap.size<b)∧aW N w w':=by
 have H:=hide h;have HU:=hide hu;have HT:=hide ht;have HF:=hide hf;have HO:=hide ho;have HP:=hide hp;have YY:=h.lt;clear h hu ht hf ho hp;go_enter Tryz.func106,Tryz.ntmps106
 go_wp2_with(first
  | (go_at_call 77;(with_reducible refine(qw H.out.wd hn).mono ?_);rintro e1 w1 ⟨rfl,h1,u,hu⟩;have h2:=H.out.take hu h1;obtain⟨x,hc⟩:=h2.cellAt 4 (by decide);have hf:=h2.free 4;have H2:=hide (h2.put (j:=3) (by decide) (.string n));have HS2:Hid (aW N w (w1.setCell ⟨N,4,none⟩ (.string n))):=hide (by rw[hu];exact((Keep.refl _ w).setCell (fun hk=>hk.2 rfl) u).setCell (fun hk=>hk.2 rfl) _);clear h1 h2 hu)
  | (go_at_call 170;(with_reducible refine(MS H2.out.wd HU.out hl).mono ?_);rintro e2 w2 ⟨v,rfl,ho,h3,u2,hB2⟩;have hr:=Uo ho;obtain⟨Av,cv,rfl,hby,hcv1,hcv2⟩:=hr;have OJ:=hide hby;have jh:Hid (aW N w w2):=hide (OI HS2.out (Gf hB2));have H3:=hide (H2.out.taken hB2 h3);clear ho h3 hB2 hby)
  | (go_at_call 169;(with_reducible refine(zC OJ.out rfl hcv1 hcv2 hb (HT.out.side jh.out).tab HF.out HO.out HP.out).mono ?_);rintro e3 w3 ⟨hB3,y,rfl,hy,L,hL,hnd,hLb⟩;have HB3:=hide hB3;have HY:=hide hy;have HL:=hide hL;have Hnd:=hide hnd;have Us:=hide hLb;have H4:=hide (H3.out.below hB3);clear hB3 hy hL hnd hLb)
  | (go_at_call 78;(with_reducible refine(AV rfl _).mono ?_);rintro e4 w4 ⟨rfl,rfl⟩)
  | (refine wpList_load_mid rfl _ _ rfl w3.heap.size 0 rfl (eX p y) _ (Bl w3 (eX p y) _) Tryz.underlying43 rfl kZ ?_)
  | (refine wpList_store_mid rfl _ _ _ rfl N 6 (eX p y).toArray rfl rfl (fun j hj=>?_) kZ (zH p y) ?_))
 ·have h5:=H4.out.below (az w3 (.cells (eX p y).toArray 43));have hj':j<14:=hj;obtain⟨z,hz⟩:=h5.cellAt (6+j) (by omega);exact⟨by rw[show(w3.alloc _).cell? ⟨N,6+j,none⟩=some z from hz];rfl,h5.free _⟩
 ·go_end0
  have hz2:=jh.out.size;have hz3:=HB3.out.size;have hk :∀b,w2.heap.size<b→((w3.alloc (.cells (eX p y).toArray 43)).setCells N 6 (eX p y)).heap[b]?=(w3.alloc (.cells (eX p y).toArray 43)).heap[b]?:=fun b hb =>
   (xZ N (P:=fun k=>k≠N) (fun h=>h rfl) (eX p y) 6 _).block b (by show¬b=N;omega)
  have hLn:=(H4.out.below (az w3 (.cells (eX p y).toArray 43))).puts 5 (eX p y) (by show 5+14≤20;decide);rw[List.append_assoc]at hLn;refine⟨rfl,y,hLn,?_,⟨L,?_,Hnd.out,fun b hb=>Nat.lt_of_le_of_lt hz2 (Us.out b hb)⟩,?_⟩
  ·exact((HY.out.below (az w3 _)).keep hk).mono fun b _ hb=>Nat.lt_of_le_of_lt hz2 hb
  ·refine(HL.out.keep fun b hb=>(az w3 (.cells (eX p y).toArray 43)).block b (HL.out.lt b hb)).keep fun b hb=>hk b (Us.out b hb)
  ·have h5:aW N w w3:=jh.out.trans (Keep.of_below HB3.out fun k hk=>by omega);exact(h5.alloc (fun k hk=>hk.1) _).trans (xZ N (fun hk=>hk.2 rfl) (eX p y) 6 _)
theorem Y4:dO 106 restRecord:=by
 intro D N w l k s hk hs h ht hl;rcases l with _|⟨n,r⟩
 ·refine(Ur h (fun _ _ e=>by cases e)).mono ?_;rintro e w' ⟨rfl,h2⟩;exact⟨h2,fun _=>rfl,fun c r e=>by cases e⟩
 have hn:n.size≤1099511627776:=hl n List.mem_cons_self;rcases hw:isWord n with _|_
 ·refine(Ur h (fun s r e=>by cases e;exact hw)).mono ?_;rintro e w' ⟨rfl,h2⟩;refine⟨h2,fun _=>rfl,fun c r' e=>?_⟩;rcases r with _|⟨t,r⟩
  ·cases e
  ·simp[restRecord,hw]at e
 rcases r with _|⟨t,r⟩
 ·refine(YV h hw).mono ?_;rintro e w' ⟨rfl,h2⟩;exact⟨h2,fun _=>rfl,fun c r e=>by cases e⟩
 have htl:t.size≤1099511627776:=hl t (by simp);rcases hu:unhexL t.data.toList with _|b
 ·refine(YW h hw hu htl).mono ?_;rintro e w' ⟨rfl,h2⟩;exact⟨h2,fun _=>rfl,fun c r e=>by simp[restRecord,hw,hu]at e⟩
 have hb:b.length≤lid:=by
  have hd:t.data.toList.length=t.size:=by rw[Array.length_toList];rfl
  rcases YU hu with h1|h1
  ·simp only[lid];omega
  ·rw[h1];exact Nat.zero_le _
 rcases hp:jD b with _|p
 ·refine(YX h ht hw hu htl hb (Qz hp)).mono ?_;rintro e w' ⟨rfl,h2⟩;exact⟨h2,fun _=>rfl,fun c r e=>by simp[restRecord,hw,hu,hp]at e⟩
 ·obtain⟨hf,ho,hbp⟩:=LJ hp;refine(YZ h ht hw hu htl hb hf ho hbp).mono ?_;rintro e w' ⟨rfl,y,h2,h3,⟨L,h4,h5,h6⟩,h7⟩;refine⟨h7,fun e=>by simp[restRecord,hw,hu,hp]at e,fun c r' e=>?_⟩;simp only[restRecord,hw,if_true,hu,Option.bind_some,hp,Option.map_some,Option.some.injEq,Prod.mk.injEq]at e;obtain⟨rfl,rfl⟩:=e;refine⟨rfl,y,none,0,h2,⟨⟨hk,aI hs (by decide),GI,aI hn (by decide),GI,h3.mono fun b _ hb=>Nat.le_of_lt hb,⟨.nil,Nat.zero_le _⟩,aC _,Nat.zero_le _⟩,L,⟨L,[],h4,fH.zero,by simp⟩,h5,fun b hb=>Nat.le_of_lt (h6 b hb)⟩⟩
end
end Go.Proofs.YtjjaojnglnpgaaaGreatDoor
