/- Part 17. -/
import Derived.Shelf.Abstract
import Derived.Deep.DeepCutAuto
import Derived.Deep.RegionHeld
import Derived.Deep.RegionHeld3
import Derived.Deep.CutBlock
import Derived.BigQuiet
import Derived.Test.YtjjaojnglnpgaaaGreatDoorZ15
import Derived.Test.YtjjaojnglnpgaaaGreatDoorZ07
import Derived.Test.YtjjaojnglnpgaaaGreatDoorZ05
import Derived.Test.YtjjaojnglnpgaaaGreatDoorZ10
import Derived.Test.YtjjaojnglnpgaaaGreatDoorZ00
set_option linter.unusedVariables false
set_option linter.unusedSimpArgs false
set_option maxHeartbeats 16000000
set_option maxRecDepth 1000000
namespace Go.Proofs.YtjjaojnglnpgaaaGreatDoor
section
open Go.RowKit
def MaxOkS(w:World):Prop:=0<w.heap.size∧∃m:Int,w.cell? ⟨0,0,none⟩=some (.int .i64 m)
theorem MaxOkS.below{w w':World}(h:MaxOkS w)(hb:Below w.heap.size w w'):MaxOkS w':=by
 obtain⟨h1,m,h2⟩:=h;exact⟨aH h1 hb.size,m,(hb.cell (p:=⟨_,0,none⟩) h1).trans h2⟩
theorem SH(c:UInt8){s:ByteArray}{w:World}(hs:s.size<4294967281)(hm:MaxOkS w):
  Calls Tryz.prog 26 #[.string s,.string ⟨#[c]⟩] w fun e w'=>e = .returned (.slice (some ⟨w.heap.size,0,none⟩) (wordsOf c s).length (wordsOf c s).length)∧w'=w.alloc (.cells ((wordsOf c s).map .string).toArray 9):=by
 obtain⟨_,m,hm⟩:=hm;have h1:=Tryz.strings_Split s ⟨#[c]⟩ m w hs hm (aC 1);rw[←Ea]at h1;exact h1
theorem iV{c:UInt8}{s:ByteArray}(hs:s.size≤1099511627):(wordsOf c s).length≤1099511628:=by
 rw[Ea];have:=Lib.countB_le ⟨#[c]⟩ (aC 1) s.size s (aC _);omega
theorem LnIn.kept{D:Nat→Prop}{N:Nat}{w w':World}{l:List ByteArray}{vs:List Value}(h:LnIn D N w l vs)(hk :∀b,b=N∨D b→w'.heap[b]?=w.heap[b]?):LnIn D N w' l vs:=by
 obtain⟨⟨⟨A,c,h1,h2,h3⟩,h4,h5⟩,h6,h7,h8⟩:=h;have hc :∀o,w'.cell? ⟨N,o,none⟩=w.cell? ⟨N,o,none⟩:=fun o=>World.cell?_of_block (hk N (.inl rfl));have hf :∀o,w'.frozen? ⟨N,o,none⟩=w.frozen? ⟨N,o,none⟩:=fun o=>World.frozen?_of_block (hk N (.inl rfl));exact⟨⟨⟨A,c,(hc 0).trans h1,h2.keep (fun b hb=>hk b (.inr hb)),h3⟩,(hf 0).trans h4,h5⟩,h6,fun j u hj=>(hc (1+j)).trans (h7 j u hj),fun o=>(hf o).trans (h8 o)⟩
theorem wB :∀p∈kwL,(p.1=2→RestOk 106 restRecord)→RestOk (wayFn p.1) (restOf p.1):=by
 intro p hp hrec;simp only[kwL,List.mem_cons,List.not_mem_nil,or_false]at hp;rcases hp with rfl|rfl|rfl|rfl|rfl|rfl|rfl|rfl|rfl
 ·exact MF
 ·exact hrec rfl
 ·exact Xh
 ·exact Xe
 ·exact Xf
 ·exact Xg
 ·exact MF
 ·exact MF
 ·exact Xi
theorem XB :∀p∈kwL,Enters Tryz.prog (wayFn p.1):=by
 intro p hp;simp only[kwL,List.mem_cons,List.not_mem_nil,or_false]at hp;rcases hp with rfl|rfl|rfl|rfl|rfl|rfl|rfl|rfl|rfl
 ·exact enters_of Tryz.func105 (by kernel_rfl) rfl
 ·exact enters_of Tryz.func106 (by kernel_rfl) rfl
 ·exact enters_of Tryz.func107 (by kernel_rfl) rfl
 ·exact enters_of Tryz.func108 (by kernel_rfl) rfl
 ·exact enters_of Tryz.func109 (by kernel_rfl) rfl
 ·exact enters_of Tryz.func110 (by kernel_rfl) rfl
 ·exact enters_of Tryz.func105 (by kernel_rfl) rfl
 ·exact enters_of Tryz.func105 (by kernel_rfl) rfl
 ·exact enters_of Tryz.func111 (by kernel_rfl) rfl
theorem Eu{k:Nat}{s:ByteArray}(h:(k,s)∈kwL):k<256:=by
 simp only[kwL,List.mem_cons,List.not_mem_nil,or_false,Prod.mk.injEq]at h;omega
theorem BV{w:World}{a b:Addr}{u v:Value}(h:w.cell? b=some v)(hne:a≠b):(w.setCell a u).cell? b=some v:=(World.cell?_setCell_other _ _ _ _ hne).trans h
theorem parse_any{w:World}{s:ByteArray}(hs:s.size≤1099511627)(hmx:MaxOkS w)(htab:TabOk w)(hrec :∀r,wordsOf 32 s=kwRecord::r→RestOk 106 restRecord):
  Calls Tryz.prog 34 #[.string s] w (ParsePost w s):=by
 have hmf :∀(fn:Fn) (first cap:Array Value) (w:World),(Instr.makeFunc fn first cap).run Tryz.prog w = .ok (.func fn first cap) w:=fun _ _ _ _=>rfl
 go_enter_defers Tryz.func34,Tryz.ntmps34
 go_wp2_with(first
  | (go_at_call 26;(with_reducible refine(SH 32 (by omega) ((hmx.below (ag _ _)).below (ag _ _))).mono ?_);rintro e1 w1 ⟨rfl,rfl⟩))
 obtain⟨hA,hL,hz⟩:=qV w (wordsOf 32 s) (aI (iV hs) (by decide));show Calls Tryz.prog 76 _ (startW w (wordsOf 32 s)) _;have hall :∀x∈wordsOf 32 s,x.size≤1099511627776:=fun x hx=>aI (iL hx).1 (by omega);generalize startW w (wordsOf 32 s)=W0 at hA hL hz⊢;rcases hws:wordsOf 32 s with _|⟨first,r⟩
 ·exact absurd hws (LH 32 s)
 rw[hws]at hL hall;have Hws:=hide hws;have HA:=hide hA;have HL:=hide hL;have Hz:=hide hz;have ah:=hide hall;clear hws hA hL hz hall
 go_wp2_with(first
  | (go_at_call 76;(with_reducible refine(yt HL.out.wd).mono ?_);rintro e1 w1 ⟨rfl,h1,u,hu⟩;have SI:=hide (HL.out.take hu h1);have HA1:Hid (ParseAt w w1):=hide (HA.out.keep (by rw[hu];exact(Keep.refl _ W0).setCell (by show¬w.heap.size+1+1+1<_;omega) u));have Ew:Hid (w1.heap.size=w.heap.size+1+1+1+1):=hide (by rw[hu];simpa using Hz.out);clear h1 hu)
  | (go_at_call 40;(with_reducible refine(RU _).mono ?_);rintro e2 w2 ⟨rfl,hT,hB⟩;have HT:=hide hT;have HB2:=hide hB;clear hT hB)
  | (at_range;refine wpList_range_own _ rfl _ 100 rfl 32 98 fC Tryz.underlying100 wayR _ 9 waysD rfl HT.out ?_;intro w3 hrg hg3 hs3;have HR:=hide hrg;have DZ:=hide hg3;have dF:=hide hs3;clear hrg hg3 hs3))
 go_frame
 have yG:Hid (ParseAt w w3):=hide ((HA1.out.keep (Keep.of_below HB2.out fun k hk=>by have:=Ew.out;omega)).keep (Keep.grown (Keep.refl _ _) DZ.out (fun k hk=>by have:=Ew.out;have:=HB2.out.size;omega) (fun k hk=>by cases hk)));have vU:Hid (LnIn (fun b=>b=w.heap.size+1+1) (w.heap.size+1+1+1) w3 r zeroVs):=hide ((SI.out.below HB2.out).kept fun b hb=>DZ.out.block b (by have:=Ew.out;have:=HB2.out.size;omega) (by simp));have HF:Hid (∀p∈kwL,Maps.has waysD (.int .u8 p.1)=false→p.2≠first):=hide (fun p hp h=>by rw[mM hp]at h;cases h);have HZ3:Hid (w1.heap.size=w.heap.size+1+1+1+1):=Ew;have eQ:w1.heap.size<w2.heap.size:=HT.out.lt;have yH:w2.heap.size<w3.heap.size:=by have:=dF.out;omega
 clear HA1 SI HB2 DZ HT dF Ew HL HA;generalize w1.heap.size=b1 at HZ3 eQ HR⊢;generalize w2.heap.size=r0 at eQ yH HR⊢
 go_loopg [] (Maps.size waysD) (fun g wr=>∃left:Lit→Bool,Hid (wr.ranges Tryz.prog 32 wayR b1 r0 9 waysD left g)∧Hid (LnIn (fun b=>b=w.heap.size+1+1) (w.heap.size+1+1+1) wr r zeroVs)∧Hid (ParseAt w wr)∧r0<wr.heap.size∧Hid (∀p∈kwL,left (.int .u8 p.1)=false→p.2≠first))
 case atStart=>exact⟨_,HR,vU,yG,yH,HF⟩
 case round =>
  clear HR vU yG HF yH;obtain⟨left,HR,vU,yG,yH,HF⟩:=hrel
  go_wp2_with(at_next;refine wpList_next_ranges _ rfl _ rfl 32 fC wayR (Value.int .u8) (fun p:{p:Nat×ByteArray // p∈kwL}=> .agg #[.string p.1.2,.func (.func (wayFn p.1.1)) #[] #[]]) (fun key kl h=>(Maps.keyOf_int_inv Tryz.underlying32 h).imp fun _ h=>h.1) (fun v y hv=>RS hv) b1 r0 9 waysD left _ rfl HR.out ?_ ?_)
  ·intro hc0 hl0;have hno:lineOf (wordsOf 32 s)=none:=by
    rw[Hws.out];have hk:kindOf first=none:=by
     rcases hk:kindOf first with _|k
     ·rfl
     ·exact absurd rfl (HF.out _ (Lh hk) (hl0 _))
    rcases r with _|⟨repo,r⟩
    ·rfl
    ·simp[lineOf,hk]
   have Hno:=hide hno;clear hno hl0
   go_wp2_with(first
    | (refine wpList_load_mid rfl _ _ rfl w.heap.size 0 rfl zeroL _ yG.out.cr Tryz.underlying46 rfl aZ ?_)
    | (refine wpList_store_mid rfl _ _ _ rfl w.heap.size 0 zeroL.toArray rfl rfl yG.out.ct aZ uP ?_;obtain⟨V,hV,hV1,hV2,bG,BX,Ey⟩:=yG.out.stored zeroL rfl;rw[←hV];have dX:=hide bG;have HV5:=hide Ey;clear hV bG BX Ey))
   refine Sm rfl rfl rfl hV1 dX.out ⟨HV5.out.setCell (p:=⟨w.heap.size+1,0,none⟩) (Nat.le_succ _) _,fun _=>rfl,fun c hc=>by rw[Hno.out]at hc;cases hc⟩
  ·intro x a b hmem kl y ps w4 cnt4 hkey hlk hv hat hrg4 hlt hg4 hs4 hen;obtain⟨x',hx',rfl,_⟩:=Maps.keyOf_int_inv Tryz.underlying32 hkey;injection hx' with _ hx';subst hx';have hy:=hv.symm.trans (qR (p:=(a,b)) hmem);injection hy with hy;injection hy with hy _;subst hy;have hxa:x=(a:Int):=qU (p:=(a,b)) hmem hat;subst hxa;have hz3:=HZ3.out;have uI:Hid (LnIn (fun b=>b=w.heap.size+1+1) (w.heap.size+1+1+1) w4 r zeroVs):=hide (vU.out.kept fun b hb=>hg4.block b (by omega) (by intro e;injection e with e;omega));have dY:Hid (ParseAt w w4):=hide (yG.out.keep (Keep.grown (Keep.refl _ _) hg4 (fun k hk=>by omega) (fun k hk=>by injection hk with hk;omega)));have HR4:=hide hrg4;have mV:=hide hmem;have gu:=hide hs4;clear hkey hlk hv hat hrg4 hmem HR vU yG hz3 hg4 hs4;by_cases hbf:b=first
   ·subst hbf;have nZ:Hid (LnIn (fun b=>b=w.heap.size+1+1) (w.heap.size+1+1+1) (w4.alloc (.cells #[.string b,.func (.func (wayFn a)) #[] #[]] 98)) r zeroVs):=hide (uI.out.below (ag _ _));have BZ:Hid (ParseAt w (w4.alloc (.cells #[.string b,.func (.func (wayFn a)) #[] #[]] 98))):=hide (dY.out.keep (Keep.of_below (ag _ _) fun k hk=>by have:=dY.out.size;omega));have MP:Hid ((w4.alloc (.cells #[.string b,.func (.func (wayFn a)) #[] #[]] 98)).cell? ⟨w4.heap.size,1,none⟩=some (.func (.func (wayFn a)) #[] #[])):=hide (by rw[Lib.cell_of_heap (heap_alloc_new _ _)];rfl);have Jf:Hid ((w4.alloc (.cells #[.string b,.func (.func (wayFn a)) #[] #[]] 98)).heap.size=w4.heap.size+1):=hide (by simp)
    go_upto_region 8 with fail
    generalize w4.alloc (.cells #[.string b,.func (.func (wayFn a)) #[] #[]] 98)=W5 at nZ BZ MP Jf⊢;have zO:w.heap.size+1+1+1<w4.heap.size:=uI.out.lt;have hka:a<256:=Eu mV.out;have hkind:kindOf b=some a:=zap mV.out;have HK:=hide hkind;obtain⟨x1,hc1⟩:=nZ.out.cellAt 1 (by decide);have hf1:=nZ.out.free 1;have kK:=hide (nZ.out.put (j:=0) (by decide) (.int .u8 a));have jr:Hid (ParseAt w (W5.setCell ⟨w.heap.size+1+1+1,1,none⟩ (.int .u8 a))):=hide (BZ.out.keep ((Keep.refl _ _).setCell (by show¬w.heap.size+1+1+1<_;omega) _));have MQ:Hid ((W5.setCell ⟨w.heap.size+1+1+1,1,none⟩ (.int .u8 a)).cell? ⟨w4.heap.size,1,none⟩=some (.func (.func (wayFn a)) #[] #[])):=hide (BV MP.out (by intro e;injection e with e;omega));have hent :∀args W,(callFunc (wayFn a) args).run Tryz.prog W = .ok (.enter (wayFn a) args) W:=XB (a,b) mV.out;clear hkind HR4 uI dY HF BZ MP;by_cases hw :∃repo r2,r=repo::r2∧isWord repo=true
    ·obtain⟨repo,r2,rfl,hw⟩:=hw;have hrs:repo.size≤1099511627776:=ah.out repo (by simp);have yI:a=2→RestOk 106 restRecord:=fun e=>hrec (repo::r2) (by rw[Hws.out,MH (k:=2) (s:=b) (t:=kwRecord) (e▸mV.out) (by simp[kwL])]);have MR:Hid (∀{W:World},LnIn (fun b=>b=w.heap.size+1+1) (w.heap.size+1+1+1) W r2 (cmdVs ⟨a,repo,noTxt,noTxt,noTxt,Pt.zero,[]⟩ Ph.zero none 0)→TabFar (w.heap.size+1+1+1) W→Calls Tryz.prog (wayFn a) #[.pointer (some ⟨w.heap.size+1+1+1,0,none⟩)] W (RestPost (fun b=>b=w.heap.size+1+1) (w.heap.size+1+1+1) W (restOf a ⟨a,repo,noTxt,noTxt,noTxt,Pt.zero,[]⟩ r2))):=
      hide fun h1 h2=>(wB (a,b) mV.out yI) hka hrs h1 h2 (fun x hx=>ah.out x (by simp[hx]))
     clear yI;rcases hro:restOf a ⟨a,repo,noTxt,noTxt,noTxt,Pt.zero,[]⟩ r2 with _|⟨c,r3⟩
     ·have hno:lineOf (wordsOf 32 s)=none:=by
       rw[Hws.out];rw[eP,HK.out];simp only[Option.bind_some,hw,if_true,hro]
      have Hno:=hide hno;clear hno
      go_wp2_with(first
       | (go_at_call 77;(with_reducible refine(lX kK.out.wd hw).mono ?_);rintro e7 w7 ⟨rfl,h1,u,hu⟩;have h2:=kK.out.take hu h1;obtain⟨x2,hc2⟩:=h2.cellAt 2 (by decide);have hf2:=h2.free 2;have hS7:SideN (w.heap.size+1+1+1) (W5.setCell ⟨w.heap.size+1+1+1,1,none⟩ (.int .u8 a)) w7:=(by rw[hu];exact(Keep.refl _ _).setCell (fun hk=>hk.2 rfl) u);have hcw:w7.cell? ⟨w4.heap.size,1,none⟩=some (.func (.func (wayFn a)) #[] #[]):=(hS7.cell (a:=⟨w4.heap.size,1,none⟩) ⟨by have:=Jf.out;simp;omega,by show¬w4.heap.size=_;omega⟩).trans MQ.out;have hcw2:=BV (a:=⟨w.heap.size+1+1+1,2,none⟩) (u:= .string repo) hcw (by intro e;injection e with e;omega);have H8:=hide (h2.put (j:=1) (by decide) (.string repo));have qY:Hid (ParseAt w (w7.setCell ⟨w.heap.size+1+1+1,2,none⟩ (.string repo))):=hide ((jr.out.keep (hS7.mono fun k hk=>by have:=jr.out.size;exact⟨by omega,by omega⟩)).keep ((Keep.refl _ _).setCell (by show¬w.heap.size+1+1+1<_;omega) _));have Ez:Hid (TabFar (w.heap.size+1+1+1) (w7.setCell ⟨w.heap.size+1+1+1,2,none⟩ (.string repo))):=hide ⟨w,htab,qY.out.below,by omega⟩;clear h1 h2 hu hS7)
       | (go_at_fn (wayFn a);(with_reducible refine(MR.out H8.out Ez.out).mono ?_);rintro e9 w9 ⟨oq,Cb,zQ⟩;have EC:=Cb hro;subst EC;have Cc:Hid (ParseAt w w9):=hide (qY.out.keep (oq.mono fun k hk=>by have:=qY.out.size;have:=H8.out.lt;exact⟨by omega,by omega⟩));clear oq Cb zQ))
      exact Cc.out.fell rfl rfl Hno.out
     ·have Jg:=hide hro;clear hro;rcases r3 with _|⟨y3,r3⟩
      ·have hyes:lineOf (wordsOf 32 s)=some c:=by
        rw[Hws.out];rw[eP,HK.out];simp only[Option.bind_some,hw,if_true,Jg.out]
       have ED:=hide hyes;clear hyes
       go_wp2_with(first
        | (go_at_call 77;(with_reducible refine(lX kK.out.wd hw).mono ?_);rintro e7 w7 ⟨rfl,h1,u,hu⟩;have h2:=kK.out.take hu h1;obtain⟨x2,hc2⟩:=h2.cellAt 2 (by decide);have hf2:=h2.free 2;have hS7:SideN (w.heap.size+1+1+1) (W5.setCell ⟨w.heap.size+1+1+1,1,none⟩ (.int .u8 a)) w7:=(by rw[hu];exact(Keep.refl _ _).setCell (fun hk=>hk.2 rfl) u);have hcw:w7.cell? ⟨w4.heap.size,1,none⟩=some (.func (.func (wayFn a)) #[] #[]):=(hS7.cell (a:=⟨w4.heap.size,1,none⟩) ⟨by have:=Jf.out;simp;omega,by show¬w4.heap.size=_;omega⟩).trans MQ.out;have hcw2:=BV (a:=⟨w.heap.size+1+1+1,2,none⟩) (u:= .string repo) hcw (by intro e;injection e with e;omega);have H8:=hide (h2.put (j:=1) (by decide) (.string repo));have qY:Hid (ParseAt w (w7.setCell ⟨w.heap.size+1+1+1,2,none⟩ (.string repo))):=hide ((jr.out.keep (hS7.mono fun k hk=>by have:=jr.out.size;exact⟨by omega,by omega⟩)).keep ((Keep.refl _ _).setCell (by show¬w.heap.size+1+1+1<_;omega) _));have Ez:Hid (TabFar (w.heap.size+1+1+1) (w7.setCell ⟨w.heap.size+1+1+1,2,none⟩ (.string repo))):=hide ⟨w,htab,qY.out.below,by omega⟩;clear h1 h2 hu hS7)
        | (go_at_fn (wayFn a);(with_reducible refine(MR.out H8.out Ez.out).mono ?_);rintro e9 w9 ⟨oq,Cb,zQ⟩;obtain⟨EC,x9,A9,n9,Ce,Jh⟩:=zQ c [] Jg.out;subst EC;obtain⟨Aw,cw,qZ,_⟩:=Ce.wd.at_;have qZ:w9.cell? ⟨w.heap.size+1+1+1,0,none⟩=some (.slice Aw 0 cw):=qZ;have Ee:=hide Ce;have XC:=hide Jh;have hz9:=H8.out.lt;have Cc:Hid (ParseAt w w9):=hide (qY.out.keep (oq.mono fun k hk=>by have:=qY.out.size;have:=H8.out.lt;exact⟨by omega,by omega⟩));clear oq Cb zQ Ce Jh)
        | (go_at_call 78;(with_reducible refine(yj rfl _).mono ?_);rintro e10 w10 ⟨rfl,rfl⟩)
        | (refine wpList_load_mid rfl _ _ rfl (w.heap.size+1+1+1) 1 rfl (cmdVs c x9 A9 n9) _ Ee.out.cells Tryz.underlying46 rfl aZ ?_)
        | (refine wpList_store_mid rfl _ _ _ rfl w.heap.size 0 (cmdVs c x9 A9 n9).toArray rfl rfl Cc.out.ct aZ (dL c x9 A9 n9) ?_;obtain⟨V,hV,hV1,hV2,bG,BX,Ey⟩:=Cc.out.stored (cmdVs c x9 A9 n9) rfl;rw[←hV];have dX:=hide bG;have XD:=hide BX;have HV5:=hide Ey;clear hV bG BX Ey))
       refine Sm rfl rfl rfl hV1 dX.out ⟨HV5.out.setCell (p:=⟨w.heap.size+1,0,none⟩) (Nat.le_succ _) _,fun h=>by(rw[ED.out]at h;cases h),fun c' hc=>?_⟩;rw[ED.out]at hc;injection hc with hc;subst hc;have h9:w.heap.size+1+1+1<(w7.setCell ⟨w.heap.size+1+1+1,2,none⟩ (.string repo)).heap.size:=H8.out.lt;exact⟨x9,A9,n9,rfl,((XC.out.keep fun g hg=>XD.out.block g (by show¬g=w.heap.size;omega)).setLow (a:=⟨w.heap.size+1,0,none⟩) (by show w.heap.size+1<_;omega) _).mono (by omega)⟩
      ·have hno:lineOf (wordsOf 32 s)=none:=by
        rw[Hws.out];rw[eP,HK.out];simp only[Option.bind_some,hw,if_true,Jg.out]
       have Hno:=hide hno;have hb0:(((r3.length:Int)+1) == 0)=false:=by rw[aK];omega
       clear hno
       go_wp2_with(first
        | (go_at_call 77;(with_reducible refine(lX kK.out.wd hw).mono ?_);rintro e7 w7 ⟨rfl,h1,u,hu⟩;have h2:=kK.out.take hu h1;obtain⟨x2,hc2⟩:=h2.cellAt 2 (by decide);have hf2:=h2.free 2;have hS7:SideN (w.heap.size+1+1+1) (W5.setCell ⟨w.heap.size+1+1+1,1,none⟩ (.int .u8 a)) w7:=(by rw[hu];exact(Keep.refl _ _).setCell (fun hk=>hk.2 rfl) u);have hcw:w7.cell? ⟨w4.heap.size,1,none⟩=some (.func (.func (wayFn a)) #[] #[]):=(hS7.cell (a:=⟨w4.heap.size,1,none⟩) ⟨by have:=Jf.out;simp;omega,by show¬w4.heap.size=_;omega⟩).trans MQ.out;have hcw2:=BV (a:=⟨w.heap.size+1+1+1,2,none⟩) (u:= .string repo) hcw (by intro e;injection e with e;omega);have H8:=hide (h2.put (j:=1) (by decide) (.string repo));have qY:Hid (ParseAt w (w7.setCell ⟨w.heap.size+1+1+1,2,none⟩ (.string repo))):=hide ((jr.out.keep (hS7.mono fun k hk=>by have:=jr.out.size;exact⟨by omega,by omega⟩)).keep ((Keep.refl _ _).setCell (by show¬w.heap.size+1+1+1<_;omega) _));have Ez:Hid (TabFar (w.heap.size+1+1+1) (w7.setCell ⟨w.heap.size+1+1+1,2,none⟩ (.string repo))):=hide ⟨w,htab,qY.out.below,by omega⟩;clear h1 h2 hu hS7)
        | (go_at_fn (wayFn a);(with_reducible refine(MR.out H8.out Ez.out).mono ?_);rintro e9 w9 ⟨oq,Cb,zQ⟩;obtain⟨EC,x9,A9,n9,Ce,Jh⟩:=zQ c (y3::r3) Jg.out;subst EC;obtain⟨Aw,cw,qZ,_⟩:=Ce.wd.at_;have qZ:w9.cell? ⟨w.heap.size+1+1+1,0,none⟩=some (.slice Aw (r3.length+1) cw):=qZ;have Cc:Hid (ParseAt w w9):=hide (qY.out.keep (oq.mono fun k hk=>by have:=qY.out.size;have:=H8.out.lt;exact⟨by omega,by omega⟩));clear oq Cb zQ Ce Jh)
        | (go_at_call 78;(with_reducible refine(yl (by first|rfl|exact hb0|simp_all) _).mono ?_);rintro e10 w10 ⟨rfl,rfl⟩))
       exact Cc.out.fell rfl rfl Hno.out
    ·have hstop :∀s r',r=s::r'→isWord s=false:=fun s r' e=>by
      rcases hx:isWord s with _|_
      ·rfl
      ·exact absurd ⟨s,r',e,hx⟩ hw
     have hno:lineOf (wordsOf 32 s)=none:=by
      rw[Hws.out];rcases r with _|⟨repo,r⟩
      ·rfl
      ·simp[lineOf,HK.out,hstop repo r rfl]
     have Hno:=hide hno;have EE:=hide hstop;clear hw hno hstop
     go_wp2_with(go_at_call 77;(with_reducible refine(Ja kK.out.wd EE.out).mono ?_);rintro e7 w7 ⟨rfl,hS7⟩;have XE:Hid (ParseAt w w7):=hide (jr.out.keep (hS7.mono fun k hk=>by have:=jr.out.size;have:=kK.out.lt;exact⟨by omega,by omega⟩));clear hS7)
     exact XE.out.fell rfl rfl Hno.out
   ·have e2:(b.toList == first.toList)=false:=by
     rw[aK];exact fun e=>hbf (bu.1 e)
    have HF2:Hid (∀p∈kwL,(left (.int .u8 p.1) && !(Lit.int .u8 p.1).sameKey (.int .u8 (a:Int)))=false→p.2≠first):=hide fun p hp h=>by
     rw[Bool.and_eq_false_iff]at h;rcases h with h|h
     ·exact HF.out p hp h
     ·have hpa:p.1=a:=by
       simp only[Bool.not_eq_false',Lit.sameKey]at h;simp at h;omega
      intro e;exact hbf ((MH mV.out (by rw[←hpa];exact hp)).trans e)
    clear hbf
    go_wp2_with fail
    go_roundg cnt4
    case measure=>exact hlt
    case rel=>exact⟨_,hide (HR4.out.alloc _),hide (uI.out.below (ag _ _)),hide (dY.out.keep (Keep.of_below (ag _ _) fun k hk=>by have:=dY.out.size;omega)),by have:=gu.out;simp;omega,HF2⟩
theorem Cmd.eq_iff{a b:Cmd}:a=b↔a.kind=b.kind∧a.repo=b.repo∧a.frm=b.frm∧a.name=b.name∧a.file=b.file∧a.patch=b.patch∧a.bytes=b.bytes:=by cases a;cases b;simp
abbrev patCs(p:Pt)(x:Ph):List Value:=[.int .u8 p.kind,.string p.file,.string p.text,.int .i64 p.hunk.at_,.slice x.h.oA p.hunk.old.length x.h.oc,.slice x.h.nA p.hunk.new.length x.h.nc,.int .u8 p.edit.kind,.slice x.e.pA p.edit.path.length x.e.pc,.int .i64 p.edit.at_,.int .i64 p.edit.far,.string p.edit.frm,.string p.edit.to,.slice x.e.oA p.edit.old.len x.e.oc,.slice x.e.nA p.edit.new.len x.e.nc]
theorem SK{S S':Nat→Prop}{x y:Ph}{A A':Option Addr}{n n':Nat}{a b:Cmd}{w:World}(ha:CmdIn S w a x A n)(hb:CmdIn S' w b y A' n'):
  Calls Tryz.prog 51 #[.agg (cmdVs a x A n).toArray,.agg (cmdVs b y A' n').toArray] w fun e w'=>RetB (a=b) e∧Below w.heap.size w w':=by
 obtain⟨W0,hW0⟩:∃W0,W0=(w.alloc (.cells (cmdVs a x A n).toArray 46)).alloc (.cells (cmdVs b y A' n').toArray 46):=⟨_,rfl⟩;have hB0:Below w.heap.size w W0:=by rw[hW0];exact bT _ _
 have hra:W0.rangeAt w.heap.size 0 (cmdVs a x A n):=by rw[hW0];exact World.rangeAt_alloc (fun j v hv=>by rw[Lib.cell_of_heap (heap_alloc_new w _),Nat.zero_add];simpa using hv) _
 have hrb:W0.rangeAt (w.heap.size+1) 0 (cmdVs b y A' n'):=by
  rw[hW0];intro j v hv;have h:=heap_alloc_new (w.alloc (.cells (cmdVs a x A n).toArray 46)) (.cells (cmdVs b y A' n').toArray 46);rw[show(w.alloc (.cells (cmdVs a x A n).toArray 46)).heap.size=w.heap.size+1 by simp]at h;rw[Lib.cell_of_heap h,Nat.zero_add]
  simpa using hv
 have a0:=hra 0 _ rfl;have a1:=hra 1 _ rfl;have a2:=hra 2 _ rfl;have a3:=hra 3 _ rfl;have a4:=hra 4 _ rfl;have a5:=hra 5 _ rfl;have a6:=hra 6 _ rfl;have a7:=hra 7 _ rfl;have a8:=hra 8 _ rfl;have a9:=hra 9 _ rfl;have a10:=hra 10 _ rfl;have a11:=hra 11 _ rfl;have a12:=hra 12 _ rfl;have XF:=hra 13 _ rfl;have XG:=hra 14 _ rfl;have XH:=hra 15 _ rfl;have a16:=hra 16 _ rfl;have a17:=hra 17 _ rfl;have XI:=hra 18 _ rfl;have MS:=hra 19 _ rfl;have b0:=hrb 0 _ rfl;have b1:=hrb 1 _ rfl;have b2:=hrb 2 _ rfl;have b3:=hrb 3 _ rfl;have b4:=hrb 4 _ rfl;have b5:=hrb 5 _ rfl;have b6:=hrb 6 _ rfl;have b7:=hrb 7 _ rfl;have b8:=hrb 8 _ rfl;have b9:=hrb 9 _ rfl;have b10:=hrb 10 _ rfl;have b11:=hrb 11 _ rfl;have b12:=hrb 12 _ rfl;have b13:=hrb 13 _ rfl;have b14:=hrb 14 _ rfl;have b15:=hrb 15 _ rfl;have b16:=hrb 16 _ rfl;have b17:=hrb 17 _ rfl;have b18:=hrb 18 _ rfl;have b19:=hrb 19 _ rfl;simp only[Nat.zero_add]at a0 a1 a2 a3 a4 a5 a6 a7 a8 a9 a10 a11 a12 XF XG XH a16 a17 XI MS b0 b1 b2 b3 b4 b5 b6 b7 b8 b9 b10 b11 b12 b13 b14 b15 b16 b17 b18 b19;have Ha:=hide (ha.below hB0);have Hb:=hide (hb.below hB0);have fQ:=hide (@Cmd.eq_iff a b);have fB:=hide (And.intro (bu (s:=a.repo) (t:=b.repo)) (And.intro (bu (s:=a.frm) (t:=b.frm)) (And.intro (bu (s:=a.name) (t:=b.name)) (bu (s:=a.file) (t:=b.file)))));have HB0:=hide hB0;clear ha hb hra hrb hB0;go_enter Tryz.func51,Tryz.ntmps51
 go_upto_region 1 with fail
 change Code.wp _ _ _ _ ((w.alloc (.cells (cmdVs a x A n).toArray 46)).alloc (.cells (cmdVs b y A' n').toArray 46));rw[←hW0];clear hW0
 go_wp2_with(first
  | (go_at_call 124;(with_reducible refine(Dz Ha.out.patch Hb.out.patch).mono ?_);rintro e w1 ⟨⟨b1,rfl,hb⟩,hB⟩;have Hb1:=hide hb;have HB1:=hide hB;have XJ:=(hB.cell (block_lt_of_cell MS)).trans MS;have XK:=(hB.cell (block_lt_of_cell b19)).trans b19;clear hb hB)
  | (go_at_call 66;(with_reducible refine(Vk (Ha.out.bytes.below HB1.out) (Hb.out.bytes.below HB1.out)).mono ?_);rintro e w2 ⟨⟨b2,rfl,hb⟩,q2,rfl⟩;have Hb2:=hide hb;clear hb))
 all_goals
  go_ret;go_tidy;refine⟨RetB.mk ?_,?_⟩
  ·rw[fQ.out]
   first
    | (have dZ:=Hb1.out;have iP:=Hb2.out;clear Hb1 Hb2;have ht:=fB.out;grind)
    | (have dZ:=Hb1.out;clear Hb1;have ht:=fB.out;grind)
    | (have ht:=fB.out;grind)
  ·first
    | exact HB0.out
    | exact HB0.out.trans (HB1.out.mono HB0.out.size)
    | exact HB0.out.trans ((aO HB1.out _).mono HB0.out.size)
theorem XL{S S':Nat→Prop}{x y:Ph}{A A':Option Addr}{n n':Nat}{a:Cmd}{w:World}(ha:CmdIn S w a x A n)(hb:CmdIn S' w a y A' n'):
  Calls Tryz.prog 51 #[.agg (cmdVs a x A n).toArray,.agg (cmdVs a y A' n').toArray] w fun e w'=>e = .returned (.bool true)∧Below w.heap.size w w':=by
 refine(SK ha hb).mono ?_;rintro e w' ⟨⟨b,rfl,hb⟩,hB⟩;exact⟨by rw[hb.2 rfl],hB⟩
theorem XM:(Tryz.prog.info? 38).map (fun i=>(i.zero,i.size,i.bytes))=some (some (.slice none 0 0),1,24):=by kernel_rfl
theorem XN{w:World}:Calls Tryz.prog 82 #[.slice none 0 0] w fun e w'=>e = .returned (.bool true)∧Below w.heap.size w w':=by
 obtain⟨i1,hi1,aN,az,aP⟩:=info_parts XM;go_enter Tryz.func82,Tryz.ntmps82
 go_wp2_with fail
 go_loopg [3] 0 (fun g k wx=>k = .int .i64 0∧Hid (Below w.heap.size w wx))
 case atStart=>exact⟨rfl,hide (Below.refl _ _)⟩
 case round =>
 obtain⟨rfl,HB⟩:=hrel
 go_wp2_with(at_make;refine wpList_make_full _ rfl _ _ 72 rfl 0 38 i1 (.slice none 0 0) 1 Tryz.underlying72 hi1 aN az _ _ _ _ 0 rfl rfl rfl rfl (by rw[aP];omega) (by unfold maxLen;omega) (Nat.zero_le _) ?_)
 intro w1 hown hgrow;have HB1:=hide (HB.out.trans ((Below.refl wr.heap.size wr).grown hgrow (aC _) (by simp)|>.mono HB.out.size));clear hown hgrow HB;generalize wr.heap.size=GB
 go_wp2_with fail
 go_loopg [6] 0 (fun g k wx=>k = .int .i64 0∧Hid (Below w.heap.size w wx))
 case atStart=>exact⟨rfl,HB1⟩
 case round =>
 clear HB1;obtain⟨rfl,aV⟩:=hrel
 go_wp2_with fail
 go_loopg [9] 0 (fun g k wx=>k = .int .i64 0∧Hid (Below w.heap.size w wx))
 case atStart=>exact⟨rfl,aV⟩
 case round =>
 clear aV;obtain⟨rfl,aQ⟩:=hrel
 go_wp2_with fail
 go_loopg [11] 0 (fun g k wx=>k = .int .i64 0∧Hid (Below w.heap.size w wx))
 case atStart=>exact⟨rfl,aQ⟩
 case round =>
 clear aQ;obtain⟨rfl,ax⟩:=hrel
 go_wp2_with fail
 go_loopg [14] 0 (fun g k wx=>k = .int .i64 0∧Hid (Below w.heap.size w wx))
 case atStart=>exact⟨rfl,ax⟩
 case round =>
 clear ax;obtain⟨rfl,aS⟩:=hrel
 go_wp2_with fail
 go_ret;exact⟨rfl,aS.out⟩
theorem XO:(Tryz.prog.info? 34).map (fun i=>(i.zero,i.size,i.bytes))=some (some (.slice none 0 0),1,24):=by kernel_rfl
theorem XP{w:World}:Calls Tryz.prog 84 #[.slice none 0 0] w fun e w'=>e = .returned (.bool true)∧Below w.heap.size w w':=by
 obtain⟨i1,hi1,aN,az,aP⟩:=info_parts XO;go_enter Tryz.func84,Tryz.ntmps84
 go_wp2_with fail
 go_loopg [3] 0 (fun g k wx=>k = .int .i64 0∧Hid (Below w.heap.size w wx))
 case atStart=>exact⟨rfl,hide (Below.refl _ _)⟩
 case round =>
 obtain⟨rfl,HB⟩:=hrel
 go_wp2_with(at_make;refine wpList_make_full _ rfl _ _ 74 rfl 0 34 i1 (.slice none 0 0) 1 Tryz.underlying74 hi1 aN az _ _ _ _ 0 rfl rfl rfl rfl (by rw[aP];omega) (by unfold maxLen;omega) (Nat.zero_le _) ?_)
 intro w1 hown hgrow;have HB1:=hide (HB.out.trans ((Below.refl wr.heap.size wr).grown hgrow (aC _) (by simp)|>.mono HB.out.size));clear hown hgrow HB;generalize wr.heap.size=GB
 go_wp2_with fail
 go_loopg [6] 0 (fun g k wx=>k = .int .i64 0∧Hid (Below w.heap.size w wx))
 case atStart=>exact⟨rfl,HB1⟩
 case round =>
 clear HB1;obtain⟨rfl,aV⟩:=hrel
 go_wp2_with fail
 go_loopg [9] 0 (fun g k wx=>k = .int .i64 0∧Hid (Below w.heap.size w wx))
 case atStart=>exact⟨rfl,aV⟩
 case round =>
 clear aV;obtain⟨rfl,aQ⟩:=hrel
 go_wp2_with fail
 go_loopg [11] 0 (fun g k wx=>k = .int .i64 0∧Hid (Below w.heap.size w wx))
 case atStart=>exact⟨rfl,aQ⟩
 case round =>
 clear aQ;obtain⟨rfl,ax⟩:=hrel
 go_wp2_with fail
 go_loopg [14] 0 (fun g k wx=>k = .int .i64 0∧Hid (Below w.heap.size w wx))
 case atStart=>exact⟨rfl,ax⟩
 case round =>
 clear ax;obtain⟨rfl,aS⟩:=hrel
 go_wp2_with fail
 go_ret;exact⟨rfl,aS.out⟩
theorem XQ:(Tryz.prog.info? 39).map (fun i=>(i.zero,i.size,i.bytes))=some (some (.slice none 0 0),1,24):=by kernel_rfl
theorem XR{w:World}:Calls Tryz.prog 89 #[.slice none 0 0] w fun e w'=>e = .returned (.bool true)∧Below w.heap.size w w':=by
 obtain⟨i1,hi1,aN,az,aP⟩:=info_parts XQ;go_enter Tryz.func89,Tryz.ntmps89
 go_wp2_with fail
 go_loopg [3] 0 (fun g k wx=>k = .int .i64 0∧Hid (Below w.heap.size w wx))
 case atStart=>exact⟨rfl,hide (Below.refl _ _)⟩
 case round =>
 obtain⟨rfl,HB⟩:=hrel
 go_wp2_with(at_make;refine wpList_make_full _ rfl _ _ 79 rfl 0 39 i1 (.slice none 0 0) 1 Tryz.underlying79 hi1 aN az _ _ _ _ 0 rfl rfl rfl rfl (by rw[aP];omega) (by unfold maxLen;omega) (Nat.zero_le _) ?_)
 intro w1 hown hgrow;have HB1:=hide (HB.out.trans ((Below.refl wr.heap.size wr).grown hgrow (aC _) (by simp)|>.mono HB.out.size));clear hown hgrow HB;generalize wr.heap.size=GB
 go_wp2_with fail
 go_loopg [6] 0 (fun g k wx=>k = .int .i64 0∧Hid (Below w.heap.size w wx))
 case atStart=>exact⟨rfl,HB1⟩
 case round =>
 clear HB1;obtain⟨rfl,aV⟩:=hrel
 go_wp2_with fail
 go_loopg [9] 0 (fun g k wx=>k = .int .i64 0∧Hid (Below w.heap.size w wx))
 case atStart=>exact⟨rfl,aV⟩
 case round =>
 clear aV;obtain⟨rfl,aQ⟩:=hrel
 go_wp2_with fail
 go_loopg [11] 0 (fun g k wx=>k = .int .i64 0∧Hid (Below w.heap.size w wx))
 case atStart=>exact⟨rfl,aQ⟩
 case round =>
 clear aQ;obtain⟨rfl,ax⟩:=hrel
 go_wp2_with fail
 go_loopg [14] 0 (fun g k wx=>k = .int .i64 0∧Hid (Below w.heap.size w wx))
 case atStart=>exact⟨rfl,ax⟩
 case round =>
 clear ax;obtain⟨rfl,aS⟩:=hrel
 go_wp2_with fail
 go_ret;exact⟨rfl,aS.out⟩
theorem XT:(Tryz.prog.info? 232).map (fun i=>(i.zero,i.size,i.bytes))=some (some (.slice none 0 0),1,24):=by kernel_rfl
theorem SL{w:World}:Calls Tryz.prog 94 #[.slice none 0 0] w fun e w'=>e = .returned (.bool true)∧Below w.heap.size w w':=by
 obtain⟨i1,hi1,aN,az,aP⟩:=info_parts XT;go_enter Tryz.func94,Tryz.ntmps94
 go_wp2_with fail
 go_loopg [3] 0 (fun g k wx=>k = .int .i64 0∧Hid (Below w.heap.size w wx))
 case atStart=>exact⟨rfl,hide (Below.refl _ _)⟩
 case round =>
 obtain⟨rfl,HB⟩:=hrel
 go_wp2_with(at_make;refine wpList_make_full _ rfl _ _ 84 rfl 0 232 i1 (.slice none 0 0) 1 Tryz.underlying84 hi1 aN az _ _ _ _ 0 rfl rfl rfl rfl (by rw[aP];omega) (by unfold maxLen;omega) (Nat.zero_le _) ?_)
 intro w1 hown hgrow;have HB1:=hide (HB.out.trans ((Below.refl wr.heap.size wr).grown hgrow (aC _) (by simp)|>.mono HB.out.size));clear hown hgrow HB;generalize wr.heap.size=GB
 go_wp2_with fail
 go_loopg [6] 0 (fun g k wx=>k = .int .i64 0∧Hid (Below w.heap.size w wx))
 case atStart=>exact⟨rfl,HB1⟩
 case round =>
 clear HB1;obtain⟨rfl,aV⟩:=hrel
 go_wp2_with fail
 go_loopg [9] 0 (fun g k wx=>k = .int .i64 0∧Hid (Below w.heap.size w wx))
 case atStart=>exact⟨rfl,aV⟩
 case round =>
 clear aV;obtain⟨rfl,aQ⟩:=hrel
 go_wp2_with fail
 go_loopg [11] 0 (fun g k wx=>k = .int .i64 0∧Hid (Below w.heap.size w wx))
 case atStart=>exact⟨rfl,aQ⟩
 case round =>
 clear aQ;obtain⟨rfl,ax⟩:=hrel
 go_wp2_with fail
 go_loopg [14] 0 (fun g k wx=>k = .int .i64 0∧Hid (Below w.heap.size w wx))
 case atStart=>exact⟨rfl,ax⟩
 case round =>
 clear ax;obtain⟨rfl,aS⟩:=hrel
 go_wp2_with fail
 go_ret;exact⟨rfl,aS.out⟩
end
end Go.Proofs.YtjjaojnglnpgaaaGreatDoor
