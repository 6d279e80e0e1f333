/- Part 22 of what scriptShows_cardUpto rests on. -/
import Derived.Shelf.Abstract
import Derived.Deep.DeepCutAuto
import Derived.Deep.RegionHeld
import Derived.Test.YtjjaojnglnpgaaaGreatDoorZ17
import Derived.Test.YtjjaojnglnpgaaaGreatDoorZ09
import Derived.Test.YtjjaojnglnpgaaaGreatDoorZ18
import Derived.Test.YtjjaojnglnpgaaaGreatDoorZ03
import Derived.Test.YtjjaojnglnpgaaaGreatDoorZ10
import Derived.Test.YtjjaojnglnpgaaaGreatDoorZ11
import Derived.Test.YtjjaojnglnpgaaaGreatDoorZ13
import Derived.Test.YtjjaojnglnpgaaaGreatDoorZ08
import Derived.Test.YtjjaojnglnpgaaaGreatDoorZ00
set_option linter.unusedVariables false
set_option linter.unusedSimpArgs false
set_option maxHeartbeats 16000000
set_option maxRecDepth 1000000
namespace Go.Proofs.YtjjaojnglnpgaaaGreatDoor
section
open Go.RowKit Go.ChangeShapes Go.WideShapes
section
variable {P : Program} {H : Type} {enc : TypeId × Value → H} {w : World} {spare : Nat → Bool} {held : Bool} {t e : TypeId} {fuel : Nat} {cs : List Value} {x : DataW H × List MemPlace}
theorem ui(ht:P.underlying t=some (.slice e))(he:P.underlying e=some (.int .u8))(hc:P.cellsOf e=1)(h:DataW.trod enc P w 0 spare held fuel t cs=some x):
  ∃A l c,cs=[.slice A l.length c]∧BytesIn (fun _=>True) w A l∧l.length≤c∧c≤9223372036854775807∧l.length≤Rows.uptoBulk x.1:=by
 rcases open_ints ht he hc h with⟨rfl,rfl⟩|⟨a,len,cap,ss,rfl,_,hl,hm,hss,rfl,hcell,hsz⟩
 ·exact⟨none,[],0,rfl,⟨.inl rfl,by simp⟩,by simp,by simp,by simp⟩
 ·have hle:len≤ss.length:=by rw[hss];split<;>omega
  have hm':cap≤9223372036854775807:=by unfold maxLen at hm;omega
  have hlen:((ss.take len).map fun z=>UInt8.ofNat z.toNat).length=len:=by simp;omega
  refine⟨some a,(ss.take len).map fun z=>UInt8.ofNat z.toNat,cap,by rw[hlen],⟨qj ?_,by omega⟩,by omega,hm',by
   have h1:=Ql (H:=H) (k:= .u8) (ss.take len);have h2:=ND (H:=H) (lits .u8 (ss.take len)) (lits .u8 (ss.drop len));exact aI (aI (Nat.le_of_eq (List.length_map _)) h1) (Nat.le_of_succ_le h2)⟩
  intro i u hu;have hi:i<len:=by have:=(List.getElem?_eq_some_iff.1 hu).1;simp[bytesV]at this;omega
  have h1:=hcell i (by omega);rw[h1];have h2:ss[i]?=some ss[i]:=by simp[show i<ss.length by omega]
  obtain⟨z,hz,hz2⟩:=wf_u8 (hsz ss[i] (List.getElem_mem _));simp only[bytesV,List.map_map,List.getElem?_map,List.getElem?_take,if_pos hi,h2,Option.map_some,Option.some.injEq,Function.comp]at hu;rw[←hu,List.getD,h2];have h6:((UInt8.ofNat ss[i].toNat).toNat:Int)=ss[i]:=by
   rw[hz,Int.toNat_natCast,UInt8.toNat_ofNat'];omega
  simp only[Option.getD_some,h6]
end
theorem JX:Tryz.prog.cellsOf 44=1:=by kernel_rfl
section
variable {H : Type} {enc : TypeId × Value → H} {w : World} {spare : Nat → Bool} {held : Bool}
end
end
section
open Go.RowKit
def ja(w:World):Prop:=0<w.heap.size∧∃m:Int,w.cell? ⟨0,0,none⟩=some (.int .i64 m)
theorem ja.below{w w':World}(h:ja w)(hb:Below w.heap.size w w'):ja w':=by
 obtain⟨h1,m,h2⟩:=h;exact⟨aH h1 hb.size,m,(hb.cell (p:=⟨_,0,none⟩) h1).trans h2⟩
theorem V4(c:UInt8){s:ByteArray}{w:World}(hs:s.size<4294967281)(hm:ja w):
  Calls Tryz.prog 26 #[.string s,.string ⟨#[c]⟩] w fun e w'=>e = .returned (.slice (some ⟨w.heap.size,0,none⟩) (wordsOf c s).length (wordsOf c s).length)∧w'=w.alloc (.cells ((wordsOf c s).map .string).toArray 9):=by
 obtain⟨_,m,hm⟩:=hm;have h1:=Tryz.strings_Split s ⟨#[c]⟩ m w hs hm (aC 1);rw[←NV]at h1;exact h1
theorem oZ{c:UInt8}{s:ByteArray}(hs:s.size≤1099511627):(wordsOf c s).length≤1099511628:=by
 rw[NV];have:=Lib.countB_le ⟨#[c]⟩ (aC 1) s.size s (aC _);omega
theorem dD.kept{D:Nat→Prop}{N:Nat}{w w':World}{l:List ByteArray}{vs:List Value}(h:dD D N w l vs)(hk :∀b,b=N∨D b→w'.heap[b]?=w.heap[b]?):dD D N w' l vs:=by
 obtain⟨⟨⟨A,c,h1,h2,h3⟩,h4,h5⟩,h6,h7,h8⟩:=h;have hc :∀o,w'.cell? ⟨N,o,none⟩=w.cell? ⟨N,o,none⟩:=fun o=>World.cell?_of_block (hk N (.inl rfl));have hf :∀o,w'.frozen? ⟨N,o,none⟩=w.frozen? ⟨N,o,none⟩:=fun o=>World.frozen?_of_block (hk N (.inl rfl));exact⟨⟨⟨A,c,(hc 0).trans h1,h2.keep (fun b hb=>hk b (.inr hb)),h3⟩,(hf 0).trans h4,h5⟩,h6,fun j u hj=>(hc (1+j)).trans (h7 j u hj),fun o=>(hf o).trans (h8 o)⟩
theorem BU :∀p∈dP,(p.1=2→gU 106 restRecord)→gU (fC p.1) (restOf p.1):=by
 intro p hp hrec;simp only[dP,List.mem_cons,List.not_mem_nil,or_false]at hp;rcases hp with rfl|rfl|rfl|rfl|rfl|rfl|rfl|rfl|rfl
 ·exact QG
 ·exact hrec rfl
 ·exact ZC
 ·exact Zz
 ·exact ZA
 ·exact ZB
 ·exact QG
 ·exact QG
 ·exact ZE
theorem ZT :∀p∈dP,Enters Tryz.prog (fC p.1):=by
 intro p hp;simp only[dP,List.mem_cons,List.not_mem_nil,or_false]at hp;rcases hp with rfl|rfl|rfl|rfl|rfl|rfl|rfl|rfl|rfl
 ·exact enters_of Tryz.func105 (by kernel_rfl) rfl
 ·exact enters_of Tryz.func106 (by kernel_rfl) rfl
 ·exact enters_of Tryz.func107 (by kernel_rfl) rfl
 ·exact enters_of Tryz.func108 (by kernel_rfl) rfl
 ·exact enters_of Tryz.func109 (by kernel_rfl) rfl
 ·exact enters_of Tryz.func110 (by kernel_rfl) rfl
 ·exact enters_of Tryz.func105 (by kernel_rfl) rfl
 ·exact enters_of Tryz.func105 (by kernel_rfl) rfl
 ·exact enters_of Tryz.func111 (by kernel_rfl) rfl
theorem JY{k:Nat}{s:ByteArray}(h:(k,s)∈dP):k<256:=by
 simp only[dP,List.mem_cons,List.not_mem_nil,or_false,Prod.mk.injEq]at h;omega
theorem IE{w:World}{a b:Addr}{u v:Value}(h:w.cell? b=some v)(hne:a≠b):(w.setCell a u).cell? b=some v:=(World.cell?_setCell_other _ _ _ _ hne).trans h
theorem parse_any{w:World}{s:ByteArray}(hs:s.size≤1099511627)(hmx:ja w)(htab:bF w)(hrec :∀r,wordsOf 32 s=ay::r→gU 106 restRecord):
  Calls Tryz.prog 34 #[.string s] w (fU w s):=by
 have hmf :∀(fn:Fn) (first cap:Array Value) (w:World),(Instr.makeFunc fn first cap).run Tryz.prog w = .ok (.func fn first cap) w:=fun _ _ _ _=>rfl
 go_enter_defers Tryz.func34,Tryz.ntmps34
 go_wp2_with(first
  | (go_at_call 26;(with_reducible refine(V4 32 (by omega) ((hmx.below (az _ _)).below (az _ _))).mono ?_);rintro e1 w1 ⟨rfl,rfl⟩))
 obtain⟨hA,hL,hz⟩:=xY w (wordsOf 32 s) (aI (oZ hs) (by decide));show Calls Tryz.prog 76 _ (lF w (wordsOf 32 s)) _;have hall :∀x∈wordsOf 32 s,x.size≤1099511627776:=fun x hx=>aI (oV hx).1 (by omega);generalize lF w (wordsOf 32 s)=W0 at hA hL hz⊢;rcases hws:wordsOf 32 s with _|⟨first,r⟩
 ·exact absurd hws (VU 32 s)
 rw[hws]at hL hall;have Hws:=hide hws;have HA:=hide hA;have HL:=hide hL;have Hz:=hide hz;have aQ:=hide hall;clear hws hA hL hz hall
 go_wp2_with(first
  | (go_at_call 76;(with_reducible refine(DU HL.out.wd).mono ?_);rintro e1 w1 ⟨rfl,h1,u,hu⟩;have Ef:=hide (HL.out.take hu h1);have HA1:Hid (bZ w w1):=hide (HA.out.keep (by rw[hu];exact(Keep.refl _ W0).setCell (by show¬w.heap.size+1+1+1<_;omega) u));have JZ:Hid (w1.heap.size=w.heap.size+1+1+1+1):=hide (by rw[hu];simpa using Hz.out);clear h1 hu)
  | (go_at_call 40;(with_reducible refine(QK _).mono ?_);rintro e2 w2 ⟨rfl,hT,hB⟩;have HT:=hide hT;have HB2:=hide hB;clear hT hB)
  | (at_range;refine wpList_range_own _ rfl _ 100 rfl 32 98 lD Tryz.underlying100 jA _ 9 jU rfl HT.out ?_;intro w3 hrg hg3 hs3;have HR:=hide hrg;have J3:=hide hg3;have tJ:=hide hs3;clear hrg hg3 hs3))
 go_frame
 have l9:Hid (bZ w w3):=hide ((HA1.out.keep (Keep.of_below HB2.out fun k hk=>by have:=JZ.out;omega)).keep (Keep.grown (Keep.refl _ _) J3.out (fun k hk=>by have:=JZ.out;have:=HB2.out.size;omega) (fun k hk=>by cases hk)));have pG:Hid (dD (fun b=>b=w.heap.size+1+1) (w.heap.size+1+1+1) w3 r gV):=hide ((Ef.out.below HB2.out).kept fun b hb=>J3.out.block b (by have:=JZ.out;have:=HB2.out.size;omega) (by simp));have HF:Hid (∀p∈dP,Maps.has jU (.int .u8 p.1)=false→p.2≠first):=hide (fun p hp h=>by rw[uf hp]at h;cases h);have HZ3:Hid (w1.heap.size=w.heap.size+1+1+1+1):=JZ;have kU:w1.heap.size<w2.heap.size:=HT.out.lt;have Ad:w2.heap.size<w3.heap.size:=by have:=tJ.out;omega
 clear HA1 Ef HB2 J3 HT tJ JZ HL HA;generalize w1.heap.size=b1 at HZ3 kU HR⊢;generalize w2.heap.size=r0 at kU Ad HR⊢
 go_loopg [] (Maps.size jU) (fun g wr=>∃left:Lit→Bool,Hid (wr.ranges Tryz.prog 32 jA b1 r0 9 jU left g)∧Hid (dD (fun b=>b=w.heap.size+1+1) (w.heap.size+1+1+1) wr r gV)∧Hid (bZ w wr)∧r0<wr.heap.size∧Hid (∀p∈dP,left (.int .u8 p.1)=false→p.2≠first))
 case atStart=>exact⟨_,HR,pG,l9,Ad,HF⟩
 case round =>
  clear HR pG l9 HF Ad;obtain⟨left,HR,pG,l9,Ad,HF⟩:=hrel
  go_wp2_with(at_next;refine wpList_next_ranges _ rfl _ rfl 32 lD jA (Value.int .u8) (fun p:{p:Nat×ByteArray // p∈dP}=> .agg #[.string p.1.2,.func (.func (fC p.1.1)) #[] #[]]) (fun key kl h=>(Maps.keyOf_int_inv Tryz.underlying32 h).imp fun _ h=>h.1) (fun v y hv=>QH hv) b1 r0 9 jU left _ rfl HR.out ?_ ?_)
  ·intro hc0 hl0;have hno:lineOf (wordsOf 32 s)=none:=by
    rw[Hws.out];have hk:kindOf first=none:=by
     rcases hk:kindOf first with _|k
     ·rfl
     ·exact absurd rfl (HF.out _ (PK hk) (hl0 _))
    rcases r with _|⟨repo,r⟩
    ·rfl
    ·simp[lineOf,hk]
   have Hno:=hide hno;clear hno hl0
   go_wp2_with(first
    | (refine wpList_load_mid rfl _ _ rfl w.heap.size 0 rfl ak _ l9.out.cr Tryz.underlying46 rfl zag ?_)
    | (refine wpList_store_mid rfl _ _ _ rfl w.heap.size 0 ak.toArray rfl rfl l9.out.ct zag Ai ?_;obtain⟨V,hV,hV1,hV2,gW,NZ,J4⟩:=l9.out.stored ak rfl;rw[←hV];have mW:=hide gW;have HV5:=hide J4;clear hV gW NZ J4))
   refine VZ rfl rfl rfl hV1 mW.out ⟨HV5.out.setCell (p:=⟨w.heap.size+1,0,none⟩) (Nat.le_succ _) _,fun _=>rfl,fun c hc=>by rw[Hno.out]at hc;cases hc⟩
  ·intro x a b hmem kl y ps w4 cnt4 hkey hlk hv hat hrg4 hlt hg4 hs4 hen;obtain⟨x',hx',rfl,_⟩:=Maps.keyOf_int_inv Tryz.underlying32 hkey;injection hx' with _ hx';subst hx';have hy:=hv.symm.trans (vw (p:=(a,b)) hmem);injection hy with hy;injection hy with hy _;subst hy;have hxa:x=(a:Int):=VW (p:=(a,b)) hmem hat;subst hxa;have hz3:=HZ3.out;have Ap:Hid (dD (fun b=>b=w.heap.size+1+1) (w.heap.size+1+1+1) w4 r gV):=hide (pG.out.kept fun b hb=>hg4.block b (by omega) (by intro e;injection e with e;omega));have kV:Hid (bZ w w4):=hide (l9.out.keep (Keep.grown (Keep.refl _ _) hg4 (fun k hk=>by omega) (fun k hk=>by injection hk with hk;omega)));have HR4:=hide hrg4;have uj:=hide hmem;have QO:=hide hs4;clear hkey hlk hv hat hrg4 hmem HR pG l9 hz3 hg4 hs4;by_cases hbf:b=first
   ·subst hbf;have Aq:Hid (dD (fun b=>b=w.heap.size+1+1) (w.heap.size+1+1+1) (w4.alloc (.cells #[.string b,.func (.func (fC a)) #[] #[]] 98)) r gV):=hide (Ap.out.below (az _ _));have IG:Hid (bZ w (w4.alloc (.cells #[.string b,.func (.func (fC a)) #[] #[]] 98))):=hide (kV.out.keep (Keep.of_below (az _ _) fun k hk=>by have:=kV.out.size;omega));have QP:Hid ((w4.alloc (.cells #[.string b,.func (.func (fC a)) #[] #[]] 98)).cell? ⟨w4.heap.size,1,none⟩=some (.func (.func (fC a)) #[] #[])):=hide (by rw[Lib.cell_of_heap (heap_alloc_new _ _)];rfl);have N7:Hid ((w4.alloc (.cells #[.string b,.func (.func (fC a)) #[] #[]] 98)).heap.size=w4.heap.size+1):=hide (by simp)
    go_upto_region 8 with fail
    generalize w4.alloc (.cells #[.string b,.func (.func (fC a)) #[] #[]] 98)=W5 at Aq IG QP N7⊢;have DN:w.heap.size+1+1+1<w4.heap.size:=Ap.out.lt;have hka:a<256:=JY uj.out;have hkind:kindOf b=some a:=jP uj.out;have HK:=hide hkind;obtain⟨x1,hc1⟩:=Aq.out.cellAt 1 (by decide);have hf1:=Aq.out.free 1;have qZ:=hide (Aq.out.put (j:=0) (by decide) (.int .u8 a));have qw:Hid (bZ w (W5.setCell ⟨w.heap.size+1+1+1,1,none⟩ (.int .u8 a))):=hide (IG.out.keep ((Keep.refl _ _).setCell (by show¬w.heap.size+1+1+1<_;omega) _));have QQ:Hid ((W5.setCell ⟨w.heap.size+1+1+1,1,none⟩ (.int .u8 a)).cell? ⟨w4.heap.size,1,none⟩=some (.func (.func (fC a)) #[] #[])):=hide (IE QP.out (by intro e;injection e with e;omega));have hent :∀args W,(callFunc (fC a) args).run Tryz.prog W = .ok (.enter (fC a) args) W:=ZT (a,b) uj.out;clear hkind HR4 Ap kV HF IG QP;by_cases hw :∃repo r2,r=repo::r2∧isWord repo=true
    ·obtain⟨repo,r2,rfl,hw⟩:=hw;have hrs:repo.size≤1099511627776:=aQ.out repo (by simp);have Eg:a=2→gU 106 restRecord:=fun e=>hrec (repo::r2) (by rw[Hws.out,QJ (k:=2) (s:=b) (t:=ay) (e▸uj.out) (by simp[dP])]);have QR:Hid (∀{W:World},dD (fun b=>b=w.heap.size+1+1) (w.heap.size+1+1+1) W r2 (ag ⟨a,repo,ae,ae,ae,Pt.zero,[]⟩ Ph.zero none 0)→mG (w.heap.size+1+1+1) W→Calls Tryz.prog (fC a) #[.pointer (some ⟨w.heap.size+1+1+1,0,none⟩)] W (kK (fun b=>b=w.heap.size+1+1) (w.heap.size+1+1+1) W (restOf a ⟨a,repo,ae,ae,ae,Pt.zero,[]⟩ r2))):=
      hide fun h1 h2=>(BU (a,b) uj.out Eg) hka hrs h1 h2 (fun x hx=>aQ.out x (by simp[hx]))
     clear Eg;rcases hro:restOf a ⟨a,repo,ae,ae,ae,Pt.zero,[]⟩ r2 with _|⟨c,r3⟩
     ·have hno:lineOf (wordsOf 32 s)=none:=by
       rw[Hws.out];rw[kY,HK.out];simp only[Option.bind_some,hw,if_true,hro]
      have Hno:=hide hno;clear hno
      go_wp2_with(first
       | (go_at_call 77;(with_reducible refine(Bq qZ.out.wd hw).mono ?_);rintro e7 w7 ⟨rfl,h1,u,hu⟩;have h2:=qZ.out.take hu h1;obtain⟨x2,hc2⟩:=h2.cellAt 2 (by decide);have hf2:=h2.free 2;have hS7:dU (w.heap.size+1+1+1) (W5.setCell ⟨w.heap.size+1+1+1,1,none⟩ (.int .u8 a)) w7:=(by rw[hu];exact(Keep.refl _ _).setCell (fun hk=>hk.2 rfl) u);have hcw:w7.cell? ⟨w4.heap.size,1,none⟩=some (.func (.func (fC a)) #[] #[]):=(hS7.cell (a:=⟨w4.heap.size,1,none⟩) ⟨by have:=N7.out;simp;omega,by show¬w4.heap.size=_;omega⟩).trans QQ.out;have hcw2:=IE (a:=⟨w.heap.size+1+1+1,2,none⟩) (u:= .string repo) hcw (by intro e;injection e with e;omega);have H8:=hide (h2.put (j:=1) (by decide) (.string repo));have x8:Hid (bZ w (w7.setCell ⟨w.heap.size+1+1+1,2,none⟩ (.string repo))):=hide ((qw.out.keep (hS7.mono fun k hk=>by have:=qw.out.size;exact⟨by omega,by omega⟩)).keep ((Keep.refl _ _).setCell (by show¬w.heap.size+1+1+1<_;omega) _));have J5:Hid (mG (w.heap.size+1+1+1) (w7.setCell ⟨w.heap.size+1+1+1,2,none⟩ (.string repo))):=hide ⟨w,htab,x8.out.below,by omega⟩;clear h1 h2 hu hS7)
       | (go_at_fn (fC a);(with_reducible refine(QR.out H8.out J5.out).mono ?_);rintro e9 w9 ⟨jB,II,FY⟩;have J6:=II hro;subst J6;have IJ:Hid (bZ w w9):=hide (x8.out.keep (jB.mono fun k hk=>by have:=x8.out.size;have:=H8.out.lt;exact⟨by omega,by omega⟩));clear jB II FY))
      exact IJ.out.fell rfl rfl Hno.out
     ·have N8:=hide hro;clear hro;rcases r3 with _|⟨y3,r3⟩
      ·have hyes:lineOf (wordsOf 32 s)=some c:=by
        rw[Hws.out];rw[kY,HK.out];simp only[Option.bind_some,hw,if_true,N8.out]
       have J7:=hide hyes;clear hyes
       go_wp2_with(first
        | (go_at_call 77;(with_reducible refine(Bq qZ.out.wd hw).mono ?_);rintro e7 w7 ⟨rfl,h1,u,hu⟩;have h2:=qZ.out.take hu h1;obtain⟨x2,hc2⟩:=h2.cellAt 2 (by decide);have hf2:=h2.free 2;have hS7:dU (w.heap.size+1+1+1) (W5.setCell ⟨w.heap.size+1+1+1,1,none⟩ (.int .u8 a)) w7:=(by rw[hu];exact(Keep.refl _ _).setCell (fun hk=>hk.2 rfl) u);have hcw:w7.cell? ⟨w4.heap.size,1,none⟩=some (.func (.func (fC a)) #[] #[]):=(hS7.cell (a:=⟨w4.heap.size,1,none⟩) ⟨by have:=N7.out;simp;omega,by show¬w4.heap.size=_;omega⟩).trans QQ.out;have hcw2:=IE (a:=⟨w.heap.size+1+1+1,2,none⟩) (u:= .string repo) hcw (by intro e;injection e with e;omega);have H8:=hide (h2.put (j:=1) (by decide) (.string repo));have x8:Hid (bZ w (w7.setCell ⟨w.heap.size+1+1+1,2,none⟩ (.string repo))):=hide ((qw.out.keep (hS7.mono fun k hk=>by have:=qw.out.size;exact⟨by omega,by omega⟩)).keep ((Keep.refl _ _).setCell (by show¬w.heap.size+1+1+1<_;omega) _));have J5:Hid (mG (w.heap.size+1+1+1) (w7.setCell ⟨w.heap.size+1+1+1,2,none⟩ (.string repo))):=hide ⟨w,htab,x8.out.below,by omega⟩;clear h1 h2 hu hS7)
        | (go_at_fn (fC a);(with_reducible refine(QR.out H8.out J5.out).mono ?_);rintro e9 w9 ⟨jB,II,FY⟩;obtain⟨J6,x9,A9,n9,IK,N9⟩:=FY c [] N8.out;subst J6;obtain⟨Aw,cw,yc,_⟩:=IK.wd.at_;have yc:w9.cell? ⟨w.heap.size+1+1+1,0,none⟩=some (.slice Aw 0 cw):=yc;have ZU:=hide IK;have ZV:=hide N9;have vC:=H8.out.lt;have IJ:Hid (bZ w w9):=hide (x8.out.keep (jB.mono fun k hk=>by have:=x8.out.size;have:=H8.out.lt;exact⟨by omega,by omega⟩));clear jB II FY IK N9)
        | (go_at_call 78;(with_reducible refine(Ff rfl _).mono ?_);rintro e10 w10 ⟨rfl,rfl⟩)
        | (refine wpList_load_mid rfl _ _ rfl (w.heap.size+1+1+1) 1 rfl (ag c x9 A9 n9) _ ZU.out.cells Tryz.underlying46 rfl zag ?_)
        | (refine wpList_store_mid rfl _ _ _ rfl w.heap.size 0 (ag c x9 A9 n9).toArray rfl rfl IJ.out.ct zag (jQ c x9 A9 n9) ?_;obtain⟨V,hV,hV1,hV2,gW,NZ,J4⟩:=IJ.out.stored (ag c x9 A9 n9) rfl;rw[←hV];have mW:=hide gW;have ZW:=hide NZ;have HV5:=hide J4;clear hV gW NZ J4))
       refine VZ rfl rfl rfl hV1 mW.out ⟨HV5.out.setCell (p:=⟨w.heap.size+1,0,none⟩) (Nat.le_succ _) _,fun h=>by(rw[J7.out]at h;cases h),fun c' hc=>?_⟩;rw[J7.out]at hc;injection hc with hc;subst hc;have h9:w.heap.size+1+1+1<(w7.setCell ⟨w.heap.size+1+1+1,2,none⟩ (.string repo)).heap.size:=H8.out.lt;exact⟨x9,A9,n9,rfl,((ZV.out.keep fun g hg=>ZW.out.block g (by show¬g=w.heap.size;omega)).setLow (a:=⟨w.heap.size+1,0,none⟩) (by show w.heap.size+1<_;omega) _).mono (by omega)⟩
      ·have hno:lineOf (wordsOf 32 s)=none:=by
        rw[Hws.out];rw[kY,HK.out];simp only[Option.bind_some,hw,if_true,N8.out]
       have Hno:=hide hno;have hb0:(((r3.length:Int)+1) == 0)=false:=by rw[aK];omega
       clear hno
       go_wp2_with(first
        | (go_at_call 77;(with_reducible refine(Bq qZ.out.wd hw).mono ?_);rintro e7 w7 ⟨rfl,h1,u,hu⟩;have h2:=qZ.out.take hu h1;obtain⟨x2,hc2⟩:=h2.cellAt 2 (by decide);have hf2:=h2.free 2;have hS7:dU (w.heap.size+1+1+1) (W5.setCell ⟨w.heap.size+1+1+1,1,none⟩ (.int .u8 a)) w7:=(by rw[hu];exact(Keep.refl _ _).setCell (fun hk=>hk.2 rfl) u);have hcw:w7.cell? ⟨w4.heap.size,1,none⟩=some (.func (.func (fC a)) #[] #[]):=(hS7.cell (a:=⟨w4.heap.size,1,none⟩) ⟨by have:=N7.out;simp;omega,by show¬w4.heap.size=_;omega⟩).trans QQ.out;have hcw2:=IE (a:=⟨w.heap.size+1+1+1,2,none⟩) (u:= .string repo) hcw (by intro e;injection e with e;omega);have H8:=hide (h2.put (j:=1) (by decide) (.string repo));have x8:Hid (bZ w (w7.setCell ⟨w.heap.size+1+1+1,2,none⟩ (.string repo))):=hide ((qw.out.keep (hS7.mono fun k hk=>by have:=qw.out.size;exact⟨by omega,by omega⟩)).keep ((Keep.refl _ _).setCell (by show¬w.heap.size+1+1+1<_;omega) _));have J5:Hid (mG (w.heap.size+1+1+1) (w7.setCell ⟨w.heap.size+1+1+1,2,none⟩ (.string repo))):=hide ⟨w,htab,x8.out.below,by omega⟩;clear h1 h2 hu hS7)
        | (go_at_fn (fC a);(with_reducible refine(QR.out H8.out J5.out).mono ?_);rintro e9 w9 ⟨jB,II,FY⟩;obtain⟨J6,x9,A9,n9,IK,N9⟩:=FY c (y3::r3) N8.out;subst J6;obtain⟨Aw,cw,yc,_⟩:=IK.wd.at_;have yc:w9.cell? ⟨w.heap.size+1+1+1,0,none⟩=some (.slice Aw (r3.length+1) cw):=yc;have IJ:Hid (bZ w w9):=hide (x8.out.keep (jB.mono fun k hk=>by have:=x8.out.size;have:=H8.out.lt;exact⟨by omega,by omega⟩));clear jB II FY IK N9)
        | (go_at_call 78;(with_reducible refine(Fg (by first|rfl|exact hb0|simp_all) _).mono ?_);rintro e10 w10 ⟨rfl,rfl⟩))
       exact IJ.out.fell rfl rfl Hno.out
    ·have hstop :∀s r',r=s::r'→isWord s=false:=fun s r' e=>by
      rcases hx:isWord s with _|_
      ·rfl
      ·exact absurd ⟨s,r',e,hx⟩ hw
     have hno:lineOf (wordsOf 32 s)=none:=by
      rw[Hws.out];rcases r with _|⟨repo,r⟩
      ·rfl
      ·simp[lineOf,HK.out,hstop repo r rfl]
     have Hno:=hide hno;have J8:=hide hstop;clear hw hno hstop
     go_wp2_with(go_at_call 77;(with_reducible refine(QE qZ.out.wd J8.out).mono ?_);rintro e7 w7 ⟨rfl,hS7⟩;have ZX:Hid (bZ w w7):=hide (qw.out.keep (hS7.mono fun k hk=>by have:=qw.out.size;have:=qZ.out.lt;exact⟨by omega,by omega⟩));clear hS7)
     exact ZX.out.fell rfl rfl Hno.out
   ·have e2:(b.toList == first.toList)=false:=by
     rw[aK];exact fun e=>hbf (dZ.1 e)
    have HF2:Hid (∀p∈dP,(left (.int .u8 p.1) && !(Lit.int .u8 p.1).sameKey (.int .u8 (a:Int)))=false→p.2≠first):=hide fun p hp h=>by
     rw[Bool.and_eq_false_iff]at h;rcases h with h|h
     ·exact HF.out p hp h
     ·have hpa:p.1=a:=by
       simp only[Bool.not_eq_false',Lit.sameKey]at h;simp at h;omega
      intro e;exact hbf ((QJ uj.out (by rw[←hpa];exact hp)).trans e)
    clear hbf
    go_wp2_with fail
    go_roundg cnt4
    case measure=>exact hlt
    case rel=>exact⟨_,hide (HR4.out.alloc _),hide (Ap.out.below (az _ _)),hide (kV.out.keep (Keep.of_below (az _ _) fun k hk=>by have:=kV.out.size;omega)),by have:=QO.out;simp;omega,HF2⟩
theorem yf{P:Program}{a:Act}{op:Oper}{ty:TypeId}{x:Operand}{b o:Nat}{cs:List Value}{d:TypeDesc}{w:World}(ho:op.op = .load ty x)(hx:a.eval x = .pointer (some ⟨b,o,none⟩))(hc:w.rangeAt b o cs)
  (hu:P.underlying ty=some d) (hd:d.isRow=true) (hi:(P.info? ty).map (·.size)=some cs.length):(execOp a.eval op).run P w = .ok (.value (.agg cs.toArray)) w:=by
 unfold execOp;simp only[ho,hx,Instr.loadAt,Instr.sureAddr,Sem.run_bind,Sem.run_pure,Result.andThen_ok,run_loadVar_mid w b o ty cs d hc hu hd hi]
theorem ZY{P:Program}{ops:Array Oper}{o:Oper}{a:Act}{w:World}{K:Act→World→Prop}{Q:Exit→Act→World→Prop}{E:Prop}
  (hg:o.guard=none) (ty:TypeId) (x y:Operand) (ho:o.op = .store ty x y) (b off:Nat) (cells:Array Value) (hx:a.eval x = .pointer (some ⟨b,off,none⟩)) (hy:a.eval y = .agg cells)
  (ht:w.there b off cells.size) (hi:(P.info? ty).map (·.size)=some cells.size) (h1:cells.all (·.oneCell')=true) (hK:K (a.put o.dst undef) (w.setCells b off cells.toList)):
  if Region.wanted o (yielded ops a.tmps)=true then Oper.wp P o a w K Q else E:=by
 have hw:Region.wanted o (yielded ops a.tmps)=true:=by simp[Region.wanted,hg]
 rw[if_pos hw];exact wp_store_mid ty x y ho b off cells hx hy ht hi h1 hK
theorem uk{w:World}{b j:Nat}{cs:List Value}{v:Value}(h:w.rangeAt b 0 cs)(hj:cs[j]?=some v)(u:Value):(w.setCell ⟨b,j,none⟩ u).rangeAt b 0 (cs.set j u):=fun i x hx=>by
 have hjl:j<cs.length:=(List.getElem?_eq_some_iff.1 hj).1;rw[Nat.zero_add];by_cases e:i=j
 ·subst e;rw[List.getElem?_set_self hjl]at hx;rw[←hx];have h1:=h i v hj;rw[Nat.zero_add]at h1;exact World.cell?_setCell_same _ _ _ h1
 ·rw[List.getElem?_set_ne (Ne.symm e)]at hx;have h1:=h i x hx;rw[Nat.zero_add]at h1;exact(World.cell?_setCell_other _ _ _ _ (by intro e2;injection e2 with _ e3;exact e e3.symm)).trans h1
theorem V5{w:World}{b o j n:Nat}{cs:List Value}(h:w.rangeAt b o cs)(u:Value)(hn:n≠b):(w.setCell ⟨n,j,none⟩ u).rangeAt b o cs:=fun i x hx =>
 (World.cell?_setCell_other _ _ _ _ (by intro e2;injection e2 with e3;exact hn e3)).trans (h i x hx)
structure ng(w W:World):Prop where
 below:Below w.heap.size w W
 cr:W.rangeAt w.heap.size 0 ak
 ct:W.there w.heap.size 0 20
 lt:w.heap.size<W.heap.size
theorem lG(w:World):ng w (w.alloc (.cells ak.toArray 46)):=
 ⟨az _ _,fun j v hv=>by rw[Lib.cell_of_heap (heap_alloc_new w _),Nat.zero_add];simpa using hv,fun j hj=>⟨by
  have hv:ak[j]?=some (ak[j]'hj):=List.getElem?_eq_getElem hj;rw[Lib.cell_of_heap (heap_alloc_new w _),Nat.zero_add,List.getElem?_toArray,hv];rfl,by unfold World.frozen?;rw[heap_alloc_new];rfl⟩,by simp⟩
theorem ng.keep{w W W':World}(h:ng w W)(hk:Keep (fun k=>k<w.heap.size+1) W W'):ng w W' where
 below:=h.below.trans (Keep.below (hk.mono fun k hk=>by omega))
 cr:=fun j v hv=>(hk.cell (a:=⟨w.heap.size,0+j,none⟩) (by show w.heap.size<_;omega)).trans (h.cr j v hv)
 ct:=fun j hj=>⟨by rw[hk.cell (a:=⟨w.heap.size,0+j,none⟩) (by show w.heap.size<_;omega)];exact(h.ct j hj).1,(hk.frozen (a:=⟨w.heap.size,0+j,none⟩) (by show w.heap.size<_;omega)).trans (h.ct j hj).2⟩
 lt:=aH h.lt hk.size
theorem ng.next{w W W':World}(h:ng w W)(hb:Below W.heap.size W W'):ng w W':=h.keep (Keep.of_below hb fun k hk=>by have:=h.lt;omega)
theorem ng.stored{w W:World}(h:ng w W)(cs:List Value)(hl:cs.length=20):∃V,V=W.setCells w.heap.size 0 cs.toArray.toList∧V.rangeAt w.heap.size 0 cs∧Keep (fun k=>k≠w.heap.size) W V∧Below w.heap.size w V∧V.heap.size=W.heap.size :=
 ⟨_,rfl,World.rangeAt_setCells_same W w.heap.size 0 cs (by rw[hl];exact h.ct),FN w.heap.size (fun h=>h rfl) cs 0 W,h.below.trans (Keep.below (FN w.heap.size (P:=fun k=>k<w.heap.size) (Nat.lt_irrefl _) cs 0 W)),Qq _ _ _ _⟩
theorem yg{W:World}{p:Nat}{cs:List Value}(hr:W.rangeAt p 0 cs)(hl:cs.length=20):(loadVar 46 ⟨p,0,none⟩).run Tryz.prog W = .ok (.agg cs.toArray) W :=
 run_loadVar_mid (P:=Tryz.prog) W p 0 46 cs _ hr Tryz.underlying46 rfl (by rw[hl];exact zag)
theorem yh{P:Program}{W:World}(f:ResultVar→Sem Value)(r0:ResultVar)(v0:Value)(h0:(f r0).run P W = .ok v0 W):((#[r0].mapM f).run P W) = .ok #[v0] W:=by
 simp[go_sem,h0]
theorem ZZ{fn:Func}{n:Nat}{T:Array Value}{W:World}{p:Nat}{cs:List Value}(hf:fn.results=#[.cell n 46])(h:T[n]?=some (.pointer (some ⟨p,0,none⟩)))(hr:W.rangeAt p 0 cs)(hl:cs.length=20):
  (results fn T).run Tryz.prog W = .ok (.agg cs.toArray) W:=by
 have hg:T.getD n undef = .pointer (some ⟨p,0,none⟩):=by rw[Array.getD_eq_getD_getElem?,h];rfl
 unfold results;rw[Sem.run_bind,hf,yh _ _ (.agg cs.toArray)]
 ·rfl
 ·show((asAddr (T.getD n undef)) >>= fun a=>loadVar 46 a).run Tryz.prog W=_;rw[hg,Sem.run_bind];simp only[asAddr,Sem.run_pure,Result.andThen_ok];exact yg hr hl
theorem mX{fn:Func}{n m:Nat}{T:Array Value}{W:World}{p:Nat}{cs:List Value}{b:Bool}(hf:fn.results=#[.cell n 46,.tmp m])(h:T[n]?=some (.pointer (some ⟨p,0,none⟩)))(hb:T[m]?=some (.bool b))(hr:W.rangeAt p 0 cs)(hl:cs.length=20):
  (results fn T).run Tryz.prog W = .ok (.tuple #[.agg cs.toArray,.bool b]) W:=by
 have hg:T.getD n undef = .pointer (some ⟨p,0,none⟩):=by rw[Array.getD_eq_getD_getElem?,h];rfl
 have hg2:T.getD m undef = .bool b:=by rw[Array.getD_eq_getD_getElem?,hb];rfl
 unfold results;rw[Sem.run_bind,hf,VX _ _ _ (.agg cs.toArray) (.bool b)]
 ·rfl
 ·show((asAddr (T.getD n undef)) >>= fun a=>loadVar 46 a).run Tryz.prog W=_;rw[hg,Sem.run_bind];simp only[asAddr,Sem.run_pure,Result.andThen_ok];exact yg hr hl
 ·show(pure (T.getD m undef):Sem Value).run Tryz.prog W=_;rw[hg2];rfl
theorem Z4(c:UInt8)(w:World):Calls Tryz.prog 232 #[.int .u8 (c.toNat:Int)] w fun e w'=>e = .returned (.int .i64 (dn c:Int))∧w'=w:=by
 have hc:=c.toNat_lt;generalize hn:c.toNat=n at hc;have hv:dn c=if 48≤n∧n≤57 then n-48 else if 97≤n∧n≤102 then n-87 else 16:=by unfold dn;rw[hn]
 have Hv:=hide hv;clear hv hn;by_cases h1:n<48
 ·have a1 :¬(48:Int)≤(n:Int):=by omega
  have a2 :¬(97:Int)≤(n:Int):=by omega
  go_enter Tryz.func232,Tryz.ntmps232
  go_wp2_with fail
  all_goals
   go_ret;refine⟨?_,rfl⟩;rw[Hv.out,if_neg (by omega),if_neg (by omega)]
   try rfl
 by_cases h2:n≤57
 ·have a1:(48:Int)≤(n:Int):=by omega
  have a2:(n:Int)≤57:=by omega
  obtain⟨z,hz⟩:∃z,z=n-48:=⟨_,rfl⟩;have a3:IntKind.u8.wrap ((n:Int)-48)=(z:Int):=by simp[IntKind.wrap,IntKind.bits,IntKind.signed];omega
  have a7:wrap64 (z:Int)=(z:Int):=by unfold wrap64;omega
  have Hz:=hide hz;clear hz;go_enter Tryz.func232,Tryz.ntmps232
  go_wp2_with fail
  all_goals
   go_ret;refine⟨?_,rfl⟩;rw[Hv.out,if_pos (by omega),←Hz.out]
   first|rfl|(simp[a7];done)|skip
 by_cases h3:n<97
 ·have a1:(48:Int)≤(n:Int):=by omega
  have a2 :¬(n:Int)≤57:=by omega
  have a3 :¬(97:Int)≤(n:Int):=by omega
  go_enter Tryz.func232,Tryz.ntmps232
  go_wp2_with fail
  all_goals
   go_ret;refine⟨?_,rfl⟩;rw[Hv.out,if_neg (by omega),if_neg (by omega)]
   try rfl
 by_cases h4:n≤102
 ·have a1:(48:Int)≤(n:Int):=by omega
  have a2 :¬(n:Int)≤57:=by omega
  have a4:(97:Int)≤(n:Int):=by omega
  have a5:(n:Int)≤102:=by omega
  obtain⟨y,hy⟩:∃y,y=n-97:=⟨_,rfl⟩;obtain⟨z,hz⟩:∃z,z=n-87:=⟨_,rfl⟩;have a3:IntKind.u8.wrap ((n:Int)-97)=(y:Int):=by simp[IntKind.wrap,IntKind.bits,IntKind.signed];omega
  have a6:IntKind.i64.wrap ((y:Int)+10)=(z:Int):=by rw[IntKind.wrap_i64];omega
  have a7:wrap64 (y:Int)=(y:Int):=by unfold wrap64;omega
  have a8:wrap64 ((y:Int)+10)=(z:Int):=by unfold wrap64;omega
  have Hz:=hide hz;clear hz hy;go_enter Tryz.func232,Tryz.ntmps232
  go_wp2_with fail
  all_goals
   go_ret;refine⟨?_,rfl⟩;rw[Hv.out,if_neg (by omega),if_pos (by omega),←Hz.out]
   first|rfl|(simp[a7];done)|skip
 ·have a1:(48:Int)≤(n:Int):=by omega
  have a2 :¬(n:Int)≤57:=by omega
  have a3:(97:Int)≤(n:Int):=by omega
  have a4 :¬(n:Int)≤102:=by omega
  go_enter Tryz.func232,Tryz.ntmps232
  go_wp2_with fail
  all_goals
   go_ret;refine⟨?_,rfl⟩;rw[Hv.out,if_neg (by omega),if_neg (by omega)]
   try rfl
def gZ(l:List UInt8):Prop:=∃q:Pt,eY q∧bI q∧l=gJ q
theorem um :∀{f:Fo} {m p i:Nat},gm m p i f→f.high≤m:=by
 intro f
 induction f with
 | nil=>intro m p i _;simp[Fo.high]
 | cons k t n ks r ihk ihr =>
  rintro m p i ⟨_,h1,_,h2,_,h3⟩;have a:=ihk h2;have b:=ihr h3;simp only[Fo.high];omega
theorem J9{f:Fo}(h:bD f):f.high≤40:=by
 match f,h with
 | .cons k t n ks .nil,h =>
  obtain⟨h1,_,h2,_⟩:=h;have:=um h2;simp only[Fo.high];omega
theorem V6{e:Ed}(h:dC e):e.old.high+0≤40∧e.new.high+0≤40:=by
 obtain⟨_,h|h|h|h|h⟩:=h
 ·obtain⟨_,_,_,h1,h2,_⟩:=h;simp[h1,h2,Fo.high]
 ·obtain⟨_,_,_,_,h1,_,h2⟩:=h;have:=J9 h2;simp[h1,Fo.high];omega
 ·obtain⟨_,_,_,_,h1,_,h2⟩:=h;have:=J9 h2;simp[h1,Fo.high];omega
 ·obtain⟨_,_,_,_,_,_,h1,h2,_⟩:=h;have:=J9 h1;have:=J9 h2;omega
 ·obtain⟨_,_,_,h1,_,_,_,h2⟩:=h;have:=J9 h2;simp[h1,Fo.high];omega
theorem Oa{S:Nat→Prop}{w:World}:gB S w ⟨none,0,none,0⟩ Hk.zero∧dm S w ⟨none,0,none,0,none,0⟩ Ed.zero :=
  ⟨⟨by simp[ai,Hk.zero],⟨.inl rfl,by simp[Hk.zero],by simp[Hk.zero]⟩,⟨.inl rfl,by simp[Hk.zero],by simp[Hk.zero]⟩,by simp[Hk.zero],by simp[Hk.zero]⟩,
   ⟨by simp[Ed.zero],⟨.inl rfl,by simp[Ed.zero],by simp[Ed.zero]⟩,by simp[ai,Ed.zero],by simp[ai,Ed.zero],Nat.zero_le _,Nat.zero_le _,trivial,trivial,by simp[Ed.zero],by simp[Ed.zero,Fo.len],by simp[Ed.zero,Fo.len]⟩⟩
theorem Ob:DD Hk.zero∧mi Ed.zero :=
  ⟨⟨by simp[aX,Hk.zero],⟨by simp[Hk.zero],by simp[Hk.zero]⟩,⟨by simp[Hk.zero],by simp[Hk.zero]⟩⟩,
   ⟨by simp[Ed.zero],⟨by simp[Ed.zero],by simp[Ed.zero]⟩,by simp[aX,Ed.zero],by simp[aX,Ed.zero],Nat.zero_le _,Nat.zero_le _,⟨trivial,by simp[Ed.zero,Fo.len]⟩,⟨trivial,by simp[Ed.zero,Fo.len]⟩⟩⟩
theorem QS :¬gZ []:=by
 rintro⟨q,_,_,he⟩;simp[gJ]at he
theorem V7{x:UInt8}{l1:List UInt8}(h:gZ (x::l1)):∃(q:Pt),eY q∧bI q∧q.kind=x.toNat∧l1=ax q.file++(if x.toNat=3 then au q.hunk.at_++(bH q.hunk.old++bH q.hunk.new)else if x.toNat=4 then jg q.edit else ax q.text):=by
 obtain⟨q,hf,ho,he⟩:=h;simp only[gJ,List.cons.injEq]at he;obtain⟨h0,h1⟩:=he;have hk:q.kind=x.toNat:=by
  have:=congrArg UInt8.toNat h0;rw[MQ]at this;have:=hf.kind;omega
 rw[hk]at h1;exact⟨q,hf,ho,hk,h1⟩
theorem QT{x:UInt8}{l1:List UInt8}(h :¬jE l1):¬gZ (x::l1):=by
 intro hp;obtain⟨q,hf,_,_,he⟩:=V7 hp;exact h ⟨q.file,_,hf.file,he⟩
theorem Ko{x:UInt8}{f:ByteArray}{l2:List UInt8}(h1:f.size≤aP)(hp:gZ (x::(ax f++l2))):
  ∃(q:Pt),eY q∧bI q∧q.kind=x.toNat∧l2=(if x.toNat=3 then au q.hunk.at_++(bH q.hunk.old++bH q.hunk.new)else if x.toNat=4 then jg q.edit else ax q.text):=by
 obtain⟨q,hf,ho,hk,he⟩:=V7 hp;exact⟨q,hf,ho,hk,(pR h1 hf.file he).2⟩
theorem yj{x:UInt8}{f:ByteArray}{l2:List UInt8}(hx:x.toNat=3)(h1:f.size≤aP)(h:l2.length<8):¬gZ (x::(ax f++l2)):=by
 intro hp;obtain⟨q,hf,_,_,he⟩:=Ko h1 hp;rw[if_pos hx]at he;rw[he,aJ,jm]at h;omega
theorem yl{x:UInt8}{f:ByteArray}{a:Int}{l2:List UInt8}(hx:x.toNat=3)(h1:f.size≤aP)(h2:aX a)(h :¬lQ ax (fun s=>s.size≤aP) l2):¬gZ (x::(ax f++(au a++l2))):=by
 intro hp;obtain⟨q,hf,_,_,he⟩:=Ko h1 hp;rw[if_pos hx]at he;obtain⟨_,he⟩:=kX h2 hf.hunk.at_ he;exact h ⟨q.hunk.old,_,hf.hunk.old.1,hf.hunk.old.2,he⟩
theorem yt{x:UInt8}{f:ByteArray}{a:Int}{o:List ByteArray}{l2:List UInt8}(hx:x.toNat=3)(h1:f.size≤aP)(h2:aX a)(h3:jh o)(h :¬lQ ax (fun s=>s.size≤aP) l2):¬gZ (x::(ax f++(au a++(bH o++l2)))):=by
 intro hp;obtain⟨q,hf,_,_,he⟩:=Ko h1 hp;rw[if_pos hx]at he;obtain⟨_,he⟩:=kX h2 hf.hunk.at_ he;obtain⟨_,he⟩:=Pj h3 hf.hunk.old he;exact h ⟨q.hunk.new,[],hf.hunk.new.1,hf.hunk.new.2,by rw[List.append_nil];exact he⟩
theorem yu{x:UInt8}{f:ByteArray}{l2:List UInt8}(hx:x.toNat=4)(h1:f.size≤aP)(h :¬mF 0 l2):¬gZ (x::(ax f++l2)):=by
 intro hp;obtain⟨q,hf,ho,hk,he⟩:=Ko h1 hp;rw[if_neg (by omega),if_pos hx]at he;obtain⟨_,⟨hk2,_⟩|⟨hk2,_⟩|⟨hk2,_,_,V8⟩⟩:=ho
 ·omega
 ·omega
 ·exact h ⟨q.edit,[],hf.edit,(V6 V8).1,(V6 V8).2,by rw[List.append_nil];exact he⟩
theorem yw{x:UInt8}{f:ByteArray}{l2:List UInt8}(hx3 :¬x.toNat=3)(hx4 :¬x.toNat=4)(h1:f.size≤aP)(h :¬jE l2):¬gZ (x::(ax f++l2)):=by
 intro hp;obtain⟨q,hf,_,_,he⟩:=Ko h1 hp;rw[if_neg hx3,if_neg hx4]at he;exact h ⟨q.text,[],hf.text,by rw[List.append_nil];exact he⟩
theorem yx{p:Pt}{r:List UInt8}(hf:eY p)(hb:Bare p)(hr :¬r=[]):¬gZ (gJ p++r):=by
 rintro⟨q,hq,ho,he⟩;exact hr (Po hf hq hb ho.bare (y:=[]) (by rw[List.append_nil];exact he)).2
theorem uo{p:Pt}(hf:eY p)(hb:Bare p)(hr :¬bI p):¬gZ (gJ p):=by
 rintro⟨q,hq,ho,he⟩;have:=(Po hf hq hb ho.bare (x:=[]) (y:=[]) (by rw[List.append_nil,List.append_nil];exact he)).1;exact hr (this▸ho)
end
section
open Go.RowKit
section
variable {S : Nat → Prop} {w w' : World} {A : Option Addr} {c g : Nat}
theorem bQ.grown{f:Fo}(h:bQ S w A c f)(hS :∀b,S b→b≠g)(hg:w.grownBy w' (some g)):bQ S w' A c f:=by
 obtain⟨g',e,h1,h2,h3,h4⟩:=h;exact⟨g',e,h1,h2,h3,((h4.bound.keep ⟨h1,h4.lt⟩ (fun b hb=>hg.block b hb.2 (fun e=>hS b hb.1 (by injection e)))).mono fun b hb=>hb.1)⟩
theorem bu.below(hB:Below w.heap.size w w'):∀{f:Fo} {vs:List Value},bu S w vs f→bu S w' vs f
 | .nil,_,h=>h
 | .cons _ _ _ _ _,_,⟨KA,kc,vs',h1,h2,h3,h4,h5,h6⟩=>⟨KA,kc,vs',h1,h2,h3,h4,h5.below hB,bu.below hB h6⟩
theorem bu.grown(hS :∀b,S b→b≠g)(hg:w.grownBy w' (some g)):∀{f:Fo} {vs:List Value},bu S w vs f→bu S w' vs f
 | .nil,_,h=>h
 | .cons _ _ _ _ _,_,⟨KA,kc,vs',h1,h2,h3,h4,h5,h6⟩=>⟨KA,kc,vs',h1,h2,h3,h4,h5.grown hS hg,bu.grown hS hg h6⟩
theorem yz(w:World)(ob:Obj)(a b c d:Value)(t:TypeId):∀ad,(some ⟨w.heap.size+1,0,none⟩:Option Addr)=some ad→∀j u,[a,b,c,d][j]?=some u→((w.alloc ob).alloc (.cells #[a,b,c,d] t)).cell? (ad.add j)=some u:=by
 intro ad e j u hu;injection e with e;subst e;rw[Addr.add_lit,Nat.zero_add,World.cell?_alloc2_new]
 simpa using hu
theorem BV(w:World)(a b c d:Value)(t:TypeId):∀ad,(some ⟨w.heap.size,0,none⟩:Option Addr)=some ad→∀j u,[a,b,c,d][j]?=some u→(w.alloc (.cells #[a,b,c,d] t)).cell? (ad.add j)=some u:=by
 intro ad e j u hu;injection e with e;subst e;rw[Addr.add_lit,Nat.zero_add,World.cell?_alloc_new]
 simpa using hu
end
theorem Z5(N:Nat):∀(S:Nat→Prop) (A:Option Addr) (c:Nat) (f:Fo) (w:World),f.cnt<N→bG S w A f→f.cnt≤1099511627776→kL A c f w:=by
 induction N with
 | zero=>intro _ _ _ _ _ h;omega
 | succ N ih =>
  intro S A c f w hN hf hM;have hlen:=Fo.len_le_cnt f;have nH:=hide ih;have HN:=hide hN;have Hf:=hide hf;have HM:=hide hM;obtain⟨i0,hi,E8,qg,Fa⟩:=info_parts zig;clear ih hN hf;have hlm:f.len≤1099511627776:=by omega
  clear hlen hM;show Calls Tryz.prog 168 #[.slice A f.len c] w fun e w'=>∃A' c',e = .returned (.slice A' f.len c')∧bQ (fun b=>w.heap.size≤b) w' A' c' f∧Below w.heap.size w w';go_enter Tryz.func168,Tryz.ntmps168
  go_wp2_with(at_make;refine wpList_make_own _ rfl _ _ 39 rfl w.heap.size 218 i0 (.agg #[.int .u8 0,.string ByteArray.empty,.int .i64 0,.slice none 0 0]) 4 Tryz.underlying39 hi E8 qg _ _ _ (f.len+12) rfl rfl (by omega) (by rw[Fa];omega) (by unfold maxLen;omega) (aC _) ?_;intro w1 hown hgrow;have iI:=hide hown;have HB1:Hid (Below w.heap.size w w1):=hide ((Below.refl _ _).grown hgrow (aC _) (fun k hk=>by cases hk));clear hown hgrow)
  go_loopw [4,3] (fun i v wr=>∃(q:Nat) (vs:List Value),q≤f.len∧i = .int .i64 q∧v = .slice (some ⟨w.heap.size,0,none⟩) q (f.len+12)∧Hid (wr.ownsRow w.heap.size 218 4 (.slice (some ⟨w.heap.size,0,none⟩) q (f.len+12)) q vs)∧Hid (bu (fun b=>w.heap.size+1≤b) wr vs (f.take q))∧Hid (Below w.heap.size w wr)) (fun i _ _=>f.len-(intOf i).toNat)
  case atStart=>exact⟨0,[],Nat.zero_le _,rfl,rfl,iI,hide (by rw[Ye];rfl),HB1⟩
  case round =>
   clear iI HB1;obtain⟨q,vs,hq,rfl,rfl,HO,HC,HB⟩:=hrel;by_cases hlt:q<f.len
   ·obtain⟨b,o,KA,kc,k,t,n,ks,r,rfl,hd,c0,c1,c2,c3,e1,e2,e3,e4,e5,hks,hcn⟩:=(Hf.out.below HB.out).at_ hlt;have Hd:=hide hd;have H3:=hide e3;have HR:Hid (∀W,Below wr.heap.size wr W→kL KA kc ks W):=hide fun W hW=>nH.out S KA kc ks W (by have:=HN.out;omega) (hks.below hW) (by have:=HM.out;omega);have hsz:=HB.out.size;have hcap:=(Jt HO.out).2.2.2;clear hd e3 hks hcn
    go_wp2_with(first
     | (go_at_call 210;(with_reducible refine(ZJ HR.out).mono ?_);rintro e w1 ⟨A1,c1,rfl,hL,hB⟩;have HL:=hide hL;have HW1:=hide hB;have hs1:=hB.size;clear hL hB)
     | (at_builtin;refine DF _ rfl _ _ 39 rfl w.heap.size 218 i0 4 Tryz.underlying39 hi qg w.heap.size q (f.len+12) vs rfl (((Js HO.out HW1.out).alloc _).alloc _) (some ⟨w1.heap.size+1,0,none⟩) 1 1 [.int .u8 k,.string t,.int .i64 n,.slice A1 ks.len c1] rfl rfl (by intro h;cases h) (yz _ _ _ _ _ _ _) (by intro u hu;simp at hu;rcases hu with rfl|rfl|rfl|rfl<;>rfl) (by omega) ?_;intro w2 hown2 hgrow2;have kC:=hide hown2;have HG2:=hide hgrow2;clear hown2 hgrow2))
    have hBx:Below w.heap.size w ((w1.alloc (.cells #[.int .u8 k,.string t,.int .i64 n,.slice A1 ks.len c1] 218)).alloc (.cells #[.int .u8 k,.string t,.int .i64 n,.slice A1 ks.len c1] 218)):=(HB.out.trans (HW1.out.mono hsz)).trans ((iD _ _).mono (by omega));have HB2:=hide (DI hBx (aC _) HG2.out);have HC2:Hid (bu (fun b=>w.heap.size+1≤b) w2 (vs++[.int .u8 k,.string t,.int .i64 n,.slice A1 ks.len c1]) (f.take (q+1))):=hide (by
     rw[Yc Hd.out];refine bu.snoc e1 e2 H3.out ?_ ?_
     ·exact((HL.out.mono (fun b hb=>by have h9:wr.heap.size≤b:=hb;show w.heap.size+1≤b;omega)).below (iD _ _)).grown (fun b hb=>by omega) HG2.out
     ·exact((HC.out.below HW1.out).below (iD _ _)).grown (fun b hb=>by omega) HG2.out)
    clear hBx
    go_roundw
    case rel=>exact⟨q+1,_,by omega,by go_num,rfl,kC,HC2,HB2⟩
    case measure=>simp[intOf];omega
   ·obtain rfl:q=f.len:=by omega
    have V9:Hid (bu (fun b=>w.heap.size+1≤b) wr vs f):=hide (by have:=HC.out;rwa [Yd]at this);clear HC hlt
    go_wp2_with fail
    go_loopw [6,3] (fun i v wx=>∃q:Nat,q≤12∧i = .int .i64 q∧v = .slice (some ⟨w.heap.size,0,none⟩) (f.len+q) (f.len+12)∧Hid (wx.ownsRow w.heap.size 218 4 (.slice (some ⟨w.heap.size,0,none⟩) (f.len+q) (f.len+12)) (f.len+q) (vs++iQ q))∧Hid (bu (fun b=>w.heap.size+1≤b) wx vs f)∧Hid (Below w.heap.size w wx)) (fun i _ _=>12-(intOf i).toNat)
    case atStart=>exact⟨0,by omega,rfl,rfl,hide (by have:=HO.out;simpa[iQ]using this),V9,HB⟩
    case round =>
     clear HO V9 HB;obtain⟨q,hq,rfl,rfl,HO,HC,HB⟩:=hrel;by_cases hlt:q<12
     ·have hq12:(0:Int)≤(q:Int)∧(q:Int)<12:=by omega
      have Hm:=hide (PG q);have hsz:=HB.out.size
      go_wp2_with(first
       | (go_at_call 147;(with_reducible refine(V3 hq12 _).mono ?_);rintro e1 w1 ⟨rfl,hB⟩;have iI:=hide (Js HO.out hB);have HB1:=hide (HB.out.trans (hB.mono hsz));have iO:=hide (HC.out.below hB);clear hB)
       | (at_builtin;refine DF _ rfl _ _ 39 rfl w.heap.size 218 i0 4 Tryz.underlying39 hi qg w.heap.size (f.len+q) (f.len+12) _ rfl (iI.out.alloc _) (some ⟨w1.heap.size,0,none⟩) 1 1 (jY q) rfl rfl (by intro h;cases h) (BV _ _ _ _ _ _) (by intro u hu;simp[jY]at hu;rcases hu with rfl|rfl|rfl|rfl<;>rfl) (by omega) ?_;intro w2 hown2 hgrow2;have kC:=hide hown2;have HB2:=hide (DI (HB1.out.alloc HB1.out.size _) (aC _) hgrow2);have HC2:=hide ((iO.out.below (az _ _)).grown (fun b hb=>by omega) hgrow2);clear hown2 hgrow2 iI HB1 iO))
      go_roundw
      case rel=>exact⟨q+1,by omega,by go_num,by rw[Nat.add_assoc],hide (by have h5:=kC.out;rw[Nat.add_assoc]at h5;rw[Hm.out,←List.append_assoc];exact h5),HC2,HB2⟩
      case measure=>simp[intOf];omega
     ·obtain rfl:q=12:=by omega
      have hcap:=Jt HO.out
      go_wp2_with fail
      go_ret;exact⟨_,_,rfl,⟨w.heap.size,rfl,aC _,hcap.1,hcap.2.1,(HC.out.at_ (Ya HO.out)).mono (fun b hb=>by show w.heap.size≤b;omega)⟩,HB.out⟩
theorem We{S:Nat→Prop}{A:Option Addr}{c:Nat}{f:Fo}{w:World}(h:bG S w A f)(hM:f.cnt≤1099511627776):kL A c f w:=Z5 (f.cnt+1) S A c f w (Nat.lt_succ_self _) h hM
end
section
open Go.RowKit
section
variable {P : Program} {ops : Array Oper} {Q : Exit → Act → World → Prop} {o : Oper} {rest : List Oper} {n : Nat} {L L' : List Value} {df : List Deferred} {w : World} {v : Value}
theorem sc{f:FuncId}{args:Array Value}{post:Ending→World→Prop}(hc:Calls P f args w post)(h :∀e w',post e w'→∃u,e = .returned u∧wpList P ops Q rest ⟨(L.set n u).toArray,df⟩ w')
  (he:(execOp (Act.mk L.toArray df).eval o).run P w = .ok (.enter f args) w:=by first|(go_simp;done)|(go_simp;with_reducible rfl)) (hd:o.dst=some n:=by rfl)
  (hw:Region.wanted o (yielded ops L.toArray)=true:=by rfl):wpList P ops Q (o::rest) ⟨L.toArray,df⟩ w:=by
 unfold wpList;rw[if_pos hw];refine .inl ?_;unfold Oper.wp;rw[he];show Calls P f args w _;refine Calls.mono hc fun e w' hp=>?_;obtain⟨u,rfl,h2⟩:=h e w' hp;have e2:(Act.mk L.toArray df).put o.dst u=⟨(L.set n u).toArray,df⟩:=by rw[hd];simp[Act.put]
 show wpList P ops Q rest ((Act.mk L.toArray df).put o.dst u) w';rw[e2];exact h2
theorem sl{ty:TypeId}{x:Operand}{b off:Nat}{cs:List Value}{d:TypeDesc}(h:wpList P ops Q rest ⟨L'.toArray,df⟩ w)(hc:w.rangeAt b off cs)
  (hu:P.underlying ty=some d) (hi:(P.info? ty).map (·.size)=some cs.length) (ho:o.op = .load ty x:=by rfl) (hx:(Act.mk L.toArray df).eval x = .pointer (some ⟨b,off,none⟩):=by rfl) (hd2:d.isRow=true:=by rfl) (hd:o.dst=some n:=by rfl)
  (hL:L.set n (.agg cs.toArray)=L':=by(try simp only[aA,aB]);rfl) (hw:Region.wanted o (yielded ops L.toArray)=true:=by rfl):wpList P ops Q (o::rest) ⟨L.toArray,df⟩ w :=
 sk h hd (yf ho hx hc hu hd2 hi) hL hw
theorem st{ty:TypeId}{x y:Operand}{b off:Nat}{cells:Array Value}(h:wpList P ops Q rest ⟨L.toArray,df⟩ (w.setCells b off cells.toList))(ht:w.there b off cells.size)(hi:(P.info? ty).map (·.size)=some cells.size)(h1:cells.all (·.oneCell')=true)
  (ho:o.op = .store ty x y:=by rfl) (hx:(Act.mk L.toArray df).eval x = .pointer (some ⟨b,off,none⟩):=by rfl) (hy:(Act.mk L.toArray df).eval y = .agg cells:=by rfl) (hd:o.dst=none:=by rfl)
  (hw:Region.wanted o (yielded ops L.toArray)=true:=by rfl):wpList P ops Q (o::rest) ⟨L.toArray,df⟩ w:=by
 unfold wpList;rw[if_pos hw];refine .inl (wp_store_mid ty x y ho b off cells hx hy ht hi h1 ?_);rw[hd];exact h
theorem sw{w':World}(h:wpList P ops Q rest ⟨L'.toArray,df⟩ w')(hd:o.dst=some n:=by rfl)
  (hy:(execOp (Act.mk L.toArray df).eval o).run P w = .ok (.value v) w':=by first|(go_simp;done)|(go_simp;with_reducible rfl)|(go_simp;exact⟨rfl,rfl⟩))
  (hL:L.set n v=L':=by(try simp only[aA,aB]);rfl)
  (hw:Region.wanted o (yielded ops L.toArray)=true:=by rfl):wpList P ops Q (o::rest) ⟨L.toArray,df⟩ w:=by
 unfold wpList;rw[if_pos hw];refine .inl ?_;unfold Oper.wp;rw[hy];have e:(Act.mk L.toArray df).put o.dst v=⟨L'.toArray,df⟩:=by rw[hd,←hL];simp[Act.put]
 show wpList P ops Q rest ((Act.mk L.toArray df).put o.dst v) w';rw[e];exact h
end
end
section
open Go.RowKit
section
variable {P : Program} {ops : Array Oper} {Q : Exit → Act → World → Prop} {md : Region.Mode} {S : World → Prop} {o : Oper} {fuel n : Nat} {listed : Array Bool} {L L' : List Value} {df : List Deferred} {w w' : World} {v : Value} {K : Act → World → Prop} {i j k : Nat} {a : Act}
abbrev Next(P:Program)(md:Region.Mode)(ops:Array Oper)(Q:Exit→Act→World→Prop)(S:World→Prop)(fuel:Nat)(listed:Array Bool)(a:Act)(w:World):Prop:=S w∧wpAnyH P md ops Q S fuel listed a w
theorem Ei(i:Nat)(h:wpOp P ops Q i (fun a' w'=>Next P md ops Q S fuel (listed.setIfInBounds i true) a' w') a w)(hr:Region.ready md ops listed=[i]:=by kernel_rfl):wpAnyH P md ops Q S (fuel+1) listed a w :=
 ⟨fun e=>(by rw[hr]at e;cases e),fun x hx=>by rw[hr,List.mem_singleton]at hx;subst hx;exact h⟩
theorem bc{f:FuncId}{args:Array Value}{post:Ending→World→Prop}(hc:Calls P f args w post)(h :∀e w',post e w'→∃u,e = .returned u∧K ⟨(L.set n u).toArray,df⟩ w')
  (hi:ops[i]?=some o:=by rfl) (he:(execOp (Act.mk L.toArray df).eval o).run P w = .ok (.enter f args) w:=by first|(go_simp;done)|(go_simp;with_reducible rfl)) (hd:o.dst=some n:=by rfl)
  (hw:Region.wanted o (yielded ops L.toArray)=true:=by rfl):wpOp P ops Q i K ⟨L.toArray,df⟩ w:=by
 unfold wpOp;simp only[hi];rw[if_pos hw];refine .inl ?_;unfold Oper.wp;rw[he];show Calls P f args w _;refine Calls.mono hc fun e w' hp=>?_;obtain⟨u,rfl,h2⟩:=h e w' hp;have e2:(Act.mk L.toArray df).put o.dst u=⟨(L.set n u).toArray,df⟩:=by rw[hd];simp[Act.put]
 show K ((Act.mk L.toArray df).put o.dst u) w';rw[e2];exact h2
theorem bw(h:K ⟨L'.toArray,df⟩ w')(hi:ops[i]?=some o:=by rfl)(hd:o.dst=some n:=by rfl)
  (hy:(execOp (Act.mk L.toArray df).eval o).run P w = .ok (.value v) w':=by first|(go_simp;done)|(go_simp;with_reducible rfl)|(go_simp;exact⟨rfl,rfl⟩))
  (hL:L.set n v=L':=by(try simp only[aA,aB]);rfl)
  (hw:Region.wanted o (yielded ops L.toArray)=true:=by rfl):wpOp P ops Q i K ⟨L.toArray,df⟩ w:=by
 unfold wpOp;simp only[hi];rw[if_pos hw];refine .inl ?_;unfold Oper.wp;rw[hy];have e:(Act.mk L.toArray df).put o.dst v=⟨L'.toArray,df⟩:=by rw[hd,←hL];simp[Act.put]
 show K ((Act.mk L.toArray df).put o.dst v) w';rw[e];exact h
end
end
end Go.Proofs.YtjjaojnglnpgaaaGreatDoor
