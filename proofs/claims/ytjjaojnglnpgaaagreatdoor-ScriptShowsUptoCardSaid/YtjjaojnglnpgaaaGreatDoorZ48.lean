/- Part 49 of what scriptShows_cardUpto rests on. -/
import Derived.WideKeyArgs
import Derived.RowKit
import Derived.Lib.LaidTab
import Derived.Lib.LaidU8
import Derived.Shelf.Vars
import Derived.OpenShut
import Derived.Test.YtjjaojnglnpgaaaGreatDoorZ29
import Derived.Test.YtjjaojnglnpgaaaGreatDoorZ44
import Derived.Test.YtjjaojnglnpgaaaGreatDoorZ46
import Derived.Test.YtjjaojnglnpgaaaGreatDoorZ47
import Derived.Test.YtjjaojnglnpgaaaGreatDoorZ21
import Derived.Test.YtjjaojnglnpgaaaGreatDoorZ11
import Derived.Test.YtjjaojnglnpgaaaGreatDoorZ41
import Derived.Test.YtjjaojnglnpgaaaGreatDoorZ03
import Derived.Test.YtjjaojnglnpgaaaGreatDoorZ00
set_option linter.unusedVariables false
set_option linter.unusedSimpArgs false
set_option maxHeartbeats 16000000
set_option maxRecDepth 1000000
namespace Go.Proofs.YtjjaojnglnpgaaaGreatDoor
section
open Go.RowKit
theorem row_one{S:Nat→Prop}{W:World}{B:Nat}{it:kD}(hr:W.rangeAt B 0 it.cells)(hc:dF S W it.c it.x it.A it.n):zU S W (some ⟨B,0,none⟩) [it]:=
 ⟨by simp,fun q it2 hq=>by
  rcases q with _|q
  ·simp at hq;subst hq;exact⟨B,0,rfl,by simpa using hr,hc⟩
  ·simp at hq⟩
theorem zeE{S:Nat→Prop}{x:Ph}{A:Option Addr}{n:Nat}{c:aY}{w:World}(h:dF S w c x A n)(hz:oh c)(hz2:oG c)(hz3:EI c)(htab:bF w)
  (haw :∀W:World,Below w.heap.size w W→Calls Tryz.prog 9 #[] W fun e w'=>e = .returned (.bool true)∧Below W.heap.size W w'):
  Calls Tryz.prog 4 #[.agg (ag c x A n).toArray] w fun e w'=>e = .returned (.bool true)∧Below w.heap.size w w':=by
 have HB:=hide (az w (.cells (ag c x A n).toArray 46));have HR:Hid ((w.alloc (.cells (ag c x A n).toArray 46)).rangeAt w.heap.size 0 (ag c x A n)):=hide (yQ rfl _ _);have lV:Hid (w.heap.size<(w.alloc (.cells (ag c x A n).toArray 46)).heap.size):=hide (by simp);have H:=hide h;have HT:=hide htab;have HA:=hide haw;clear h htab haw;go_enter Tryz.func4,Tryz.ntmps4
 go_upto_region 1 with fail
 generalize w.alloc (.cells (ag c x A n).toArray 46)=W0 at HB HR lV⊢;refine wp_region_lit ?_;refine sl ?_ HR.out Tryz.underlying46 zag;refine sw (v:= .slice (some ⟨W0.heap.size,0,none⟩) 1 1) (w':=W0.alloc (.cells (ag c x A n).toArray 46)) ?_;have hb1:=az W0 (.cells (ag c x A n).toArray 46);have HB1:=hide (HB.out.trans (hb1.mono (Nat.le_of_lt lV.out)));have HR1:Hid ((W0.alloc (.cells (ag c x A n).toArray 46)).rangeAt w.heap.size 0 (ag c x A n)):=hide (fun j v hv=>(hb1.cell (p:=⟨w.heap.size,0+j,none⟩) lV.out).trans (HR.out j v hv));have TR:Hid ((W0.alloc (.cells (ag c x A n).toArray 46)).rangeAt W0.heap.size 0 (ag c x A n)):=hide (yQ rfl _ _);have Ef:Hid (w.heap.size<(W0.alloc (.cells (ag c x A n).toArray 46)).heap.size):=hide (by have:=lV.out;simp;omega);generalize W0.alloc (.cells (ag c x A n).toArray 46)=W1 at HB1 HR1 TR Ef⊢;clear hb1;refine sc (zeD (m:=2500) (l:=[⟨c,x,A,n⟩]) (k:=1) (row_one (it:=⟨c,x,A,n⟩) TR.out (H.out.below HB1.out)) (by simp) (by unfold aX;omega)) ?_;rintro e w2 ⟨⟨r,rfl,hr⟩,hB2⟩;refine⟨_,rfl,?_⟩;have HB2:=hide (HB1.out.trans (hB2.mono (Nat.le_of_lt Ef.out)));have HR2:Hid (w2.rangeAt w.heap.size 0 (ag c x A n)):=hide (fun j v hv=>(hB2.cell (p:=⟨w.heap.size,0+j,none⟩) Ef.out).trans (HR1.out j v hv));have HL2:=hide (aH Ef.out hB2.size);clear hB2 HB HR lV HB1 HR1 TR Ef;refine sk ?_;refine wpList_nil ?_;rename_i hK;refine hK _ _ ?_;clear hK;by_cases hbig:2500<r
 ·go_wp2_with(go_at_call 9;(with_reducible refine(HA.out _ HB2.out).mono ?_);rintro e3 w3 ⟨rfl,hB3⟩;have HB3:=hide hB3;clear hB3)
  go_ret;exact⟨rfl,HB2.out.trans (HB3.out.mono (Nat.le_of_lt HL2.out))⟩
 ·go_upto_region 3 with fail
  refine wp_region_lit ?_;refine sl ?_ HR2.out Tryz.underlying46 zag;refine sc (zep (H.out.below HB2.out) hz3) ?_;rintro e w3 ⟨y,A3,n3,rfl,hL3,hB3⟩;refine⟨_,rfl,?_⟩;refine sw ?_;refine st (cells:=(ag c y A3 n3).toArray) ?_ (lG w3).ct zag (jQ _ _ _ _);refine wpList_nil ?_;have hZ:=(lG w3).stored (ag c y A3 n3) rfl;rename_i hK;refine hK _ _ ?_;clear hK;obtain⟨X,hX,hX1,hX2,dQ,iH⟩:=hZ;rw[←hX];have oD:=hide (HB2.out.trans ((hB3.trans (dQ.mono hB3.size)).mono (Nat.le_of_lt HL2.out)));have TS:=hide hX1;have Ez:Hid (X.rangeAt w.heap.size 0 (ag c x A n)):=hide (fun j v hv=>(dQ.cell (p:=⟨w.heap.size,0+j,none⟩) (aH HL2.out hB3.size)).trans ((hB3.cell (p:=⟨w.heap.size,0+j,none⟩) HL2.out).trans (HR2.out j v hv)));have XK:=hide (hL3.below dQ);have pG:Hid (w.heap.size<X.heap.size∧w3.heap.size<X.heap.size):=hide ⟨block_lt_of_cell (Ez.out 0 _ rfl),block_lt_of_cell (hX1 0 _ rfl)⟩;clear hX hX1 hX2 dQ iH hL3 hB3;generalize w3.heap.size=N at TS pG⊢
  go_upto_region 4 with fail
  have hS:(fun W:World=>W.rangeAt w.heap.size 0 (ag c x A n)∧W.rangeAt N 0 (ag c y A3 n3)) X.drew:=⟨Ez.out,TS.out⟩;refine wp_region_held_drew (S:=fun W:World=>W.rangeAt w.heap.size 0 (ag c x A n)∧W.rangeAt N 0 (ag c y A3 n3)) (by kernel_rfl) hS (fun hSD=>?_);have uQ:=hide oD.out.drew;have mf:Hid (w.heap.size<X.drew.heap.size∧N<X.drew.heap.size):=pG;have TT:Hid (iV (fun b=>w2.heap.size≤b) X.drew y A3 n3 c):=hide (XK.out.below (Below.refl _ X).drew);generalize X.drew=D at hSD uQ mf TT⊢;clear hS oD TS Ez XK pG;refine aj 0 hSD ?_ (hy:=fun W hW=>yf rfl rfl hW.2 Tryz.underlying46 rfl zag);refine aj 2 hSD ?_ (hy:=fun W hW=>yf rfl rfl hW.1 Tryz.underlying46 rfl zag);refine Ei 1 ?_;refine bc (yS TT.out.cmd hz (HT.out.below uQ.out)) ?_;rintro e w4 ⟨rfl,hB4⟩;refine⟨_,rfl,?_⟩;have hS4:(fun W:World=>W.rangeAt w.heap.size 0 (ag c x A n)∧W.rangeAt N 0 (ag c y A3 n3)) w4:=⟨fun j v hv=>(hB4.cell (p:=⟨w.heap.size,0+j,none⟩) mf.out.1).trans (hSD.1 j v hv),fun j v hv=>(hB4.cell (p:=⟨N,0+j,none⟩) mf.out.2).trans (hSD.2 j v hv)⟩;have HB4:=hide (uQ.out.trans (hB4.mono (Nat.le_of_lt mf.out.1)));have HI4:=hide (TT.out.below hB4);have Ap:Hid (w.heap.size<w4.heap.size∧N<w4.heap.size):=hide ⟨aH mf.out.1 hB4.size,aH mf.out.2 hB4.size⟩;clear hB4;refine⟨hS4,?_⟩;refine Ei 3 ?_;refine bc (zh7 (H.out.below HB4.out) H.out.patch.fit hz2) ?_;rintro e w5 ⟨rfl,gy⟩;refine⟨_,rfl,?_⟩;have hS5:(fun W:World=>W.rangeAt w.heap.size 0 (ag c x A n)∧W.rangeAt N 0 (ag c y A3 n3)) w5:=⟨fun j v hv=>(gy.cell (p:=⟨w.heap.size,0+j,none⟩) Ap.out.1).trans (hS4.1 j v hv),fun j v hv=>(gy.cell (p:=⟨N,0+j,none⟩) Ap.out.2).trans (hS4.2 j v hv)⟩;have iE:=hide (HB4.out.trans (gy.mono (Nat.le_of_lt Ap.out.1)));have XL:=hide (HI4.out.below gy);have Aq:Hid (w.heap.size<w5.heap.size∧N<w5.heap.size):=hide ⟨aH Ap.out.1 gy.size,aH Ap.out.2 gy.size⟩;clear gy;refine⟨hS5,?_⟩;refine aj 4 hS5 ?_;refine aj 5 hS5 ?_;refine aj 6 hS5 ?_ (hy:=fun W hW=>yf rfl rfl hW.2 Tryz.underlying46 rfl zag);refine aj 7 hS5 ?_ (hy:=fun W hW=>yf rfl rfl hW.1 Tryz.underlying46 rfl zag);refine Ei 8 ?_;refine bc (zeq XL.out (H.out.below iE.out)) ?_;rintro e w6 ⟨rfl,nT⟩;refine⟨_,rfl,?_⟩;have hS6:(fun W:World=>W.rangeAt w.heap.size 0 (ag c x A n)∧W.rangeAt N 0 (ag c y A3 n3)) w6:=⟨fun j v hv=>(nT.cell (p:=⟨w.heap.size,0+j,none⟩) Aq.out.1).trans (hS5.1 j v hv),fun j v hv=>(nT.cell (p:=⟨N,0+j,none⟩) Aq.out.2).trans (hS5.2 j v hv)⟩;have Ae:=hide (iE.out.trans (nT.mono (Nat.le_of_lt Aq.out.1)));have HI6:=hide (XL.out.below nT);have qZ:Hid (w.heap.size<w6.heap.size∧N<w6.heap.size):=hide ⟨aH Aq.out.1 nT.size,aH Aq.out.2 nT.size⟩;clear nT;refine⟨hS6,?_⟩;refine aj 9 hS6 ?_;refine aj 10 hS6 ?_;refine Ei 11 ?_;refine bc (HA.out _ Ae.out) ?_;rintro e w7 ⟨rfl,lJ⟩;refine⟨_,rfl,?_⟩;have hS7:(fun W:World=>W.rangeAt w.heap.size 0 (ag c x A n)∧W.rangeAt N 0 (ag c y A3 n3)) w7:=⟨fun j v hv=>(lJ.cell (p:=⟨w.heap.size,0+j,none⟩) qZ.out.1).trans (hS6.1 j v hv),fun j v hv=>(lJ.cell (p:=⟨N,0+j,none⟩) qZ.out.2).trans (hS6.2 j v hv)⟩;have DR:=hide (Ae.out.trans (lJ.mono (Nat.le_of_lt qZ.out.1)));have HI7:=hide (HI6.out.below lJ);have HL7:Hid (w.heap.size<w7.heap.size∧N<w7.heap.size):=hide ⟨aH qZ.out.1 lJ.size,aH qZ.out.2 lJ.size⟩;clear lJ;refine⟨hS7,?_⟩;refine aj 12 hS7 ?_;refine Ei 13 ?_;refine bw ?_;refine⟨hS7,?_⟩;refine wpAnyH_done (by kernel_rfl) ?_ _;rename_i hK;refine hK _ _ ?_;clear hK;refine wp_ret ?_;go_ret;exact⟨rfl,DR.out⟩
end
section
open Go.RowKit Go.ChangeShapes Go.WideShapes
theorem Ic:Tryz.prog.underlying 4=some .bool:=by kernel_rfl
theorem zV:laidOutB Tryz.prog=true:=by kernel_rfl
theorem Me:Tryz.prog.readableRec 46=true:=by kernel_rfl
theorem MB:(46:TypeId)<Tryz.prog.types.size:=of_decide_eq_true (by kernel_rfl)
theorem MC:Tryz.prog.underlying 314=some (.array 256 5):=by kernel_rfl
theorem MF:Tryz.prog.cellsOf 314=256:=by kernel_rfl
theorem EJ : Tryz.prog.globalNamed "strings.asciiSpace" = some 5 := by kernel_rfl
theorem Ie:(Tryz.prog.globals[5]?).map (·.type)=some 314:=by kernel_rfl
theorem zW:(Rows.laid_strings_asciiSpace:DataW Unit)=Lib.tabData .u8 Lib.asciiSpaceTab:=by kernel_rfl
theorem MG:Tryz.prog.underlying 192=some (.int .u64):=by kernel_rfl
theorem MH:Tryz.prog.cellsOf 192=1:=by kernel_rfl
theorem MI:Tryz.prog.underlying 336=some (.array 20 192):=by kernel_rfl
theorem MJ:Tryz.prog.cellsOf 336=20:=by kernel_rfl
theorem EK : Tryz.prog.globalNamed "internal/strconv.uint64pow10" = some 4 := by kernel_rfl
theorem Ig:(Tryz.prog.globals[4]?).map (·.type)=some 336:=by kernel_rfl
theorem zX:(Rows.laid_internal_strconv_uint64pow10:DataW Unit)=Lib.tabData .u64 Lib.pow10Tab:=by kernel_rfl
theorem XM {W : World} (h : laidMetH Tryz.prog Rows.scriptShowsUptoRow.laid W) : laidMet Tryz.prog [("math/bits.deBruijn32tab", Rows.laid_math_bits_deBruijn32tab), ("math/bits.deBruijn64tab", Rows.laid_math_bits_deBruijn64tab), ("internal/strconv.uint64pow10", Rows.laid_internal_strconv_uint64pow10), ("unicode/utf8.acceptRanges", Rows.laid_unicode_utf8_acceptRanges), ("unicode.White_Space", Rows.laid_unicode_White_Space), ("strings.asciiSpace", Rows.laid_strings_asciiSpace), ("unicode/utf8.first", Rows.laid_unicode_utf8_first)] W := h
theorem zY{W:World}(h:laidMetH Tryz.prog Rows.scriptShowsUptoRow.laid W):bF W:=by
 obtain⟨g',t',cs,fuel,p,hg',ht',hvar,hd⟩:=Lib.laidMet.reads (XM h) (.tail _ (.tail _ (.tail _ (.tail _ (.tail _ (.head _))))));obtain rfl:=Option.some.inj (EJ.symm.trans hg');obtain rfl:=Option.some.inj (Ie.symm.trans ht');rw[zW]at hd;have hc:=Lib.cells_of_tab MC JV JS MF hd;have hT : Lib.TabIs Tryz.prog W "strings.asciiSpace" .u8 Lib.asciiSpaceTab := by
  unfold Lib.TabIs;rw[hvar,←hc]
 exact⟨block_lt_of_cell (hT.cell EJ 0 (of_decide_eq_true (by kernel_rfl))),hT⟩
theorem Ih{W:World}(h:laidMetH Tryz.prog Rows.scriptShowsUptoRow.laid W):ik W:=by
 obtain⟨g',t',cs,fuel,p,hg',ht',hvar,hd⟩:=Lib.laidMet.reads (XM h) (.tail _ (.tail _ (.head _)));obtain rfl:=Option.some.inj (EK.symm.trans hg');obtain rfl:=Option.some.inj (Ig.symm.trans ht');rw[zX]at hd;have hc:=Lib.cells_of_tab MI MG MH MJ hd;have hT : Lib.TabIs Tryz.prog W "internal/strconv.uint64pow10" .u64 Lib.pow10Tab := by
  unfold Lib.TabIs;rw[hvar,←hc]
 exact⟨block_lt_of_cell (hT.cell EK 0 (of_decide_eq_true (by kernel_rfl))),hT⟩
theorem Ii{W:World}(h:W.ShapedOpen Tryz.prog):ja W:=by
 obtain⟨m,hm⟩:=cell_of_shapedOpen_int (g:=0) (t:=3) (zero:=#[.int .i64 0]) (k:= .i64) h (of_decide_eq_true (by kernel_rfl)) (by kernel_rfl) rfl (by kernel_rfl) (by kernel_rfl) (by kernel_rfl);exact⟨block_lt_of_cell hm,m,hm⟩
theorem TU :∀f:Fo,f.len≤f.cnt
 | .nil=>Nat.zero_le _
 | .cons _ _ _ ks r=>by
  have:=TU r;simp only[Fo.len,Fo.cnt];omega
theorem zdr(H:Type)(enc:TypeId×Value→H)(W:World)(base:Nat)(args:Array Value)(ds gs:List (DataW H))(before:List MemPlace)
  (hval0 :∀(j:Nat) t v,Tryz.f4.params[j]?=some t→args[j]?=some v→Value.okWide Tryz.prog W .any base t v)
  (hW0:DataW.Whole enc Tryz.prog Tryz.f4.params.toList Rows.scriptShowsSpec.vars false W args.toList ds gs before)
  (hk:Rows.uptoSmall H (ds++gs)=true) (hL:laidMetH Tryz.prog Rows.scriptShowsUptoRow.laid W) (hS:W.ShapedOpen Tryz.prog):
  Calls Tryz.prog 4 args W fun e W'=>∃v,e = .returned v∧Rows.scriptShowsSpec.post enc Tryz.prog Tryz.f4 false true false false W args v W':=by
 have hW:=hW0;have hval:=hval0;obtain⟨p,q,hA0,hV,rfl,_,_⟩:=hW0;have hA:DataW.TrodAll enc Tryz.prog W 0 (fun _=>true) true Tryz.f4.params.toList args.toList ds p:=hA0;rw[Tryz.params4]at hA hval;obtain⟨v0,d0,rfl,rfl,h0⟩:=trodAll_one hA;obtain⟨rfl,rfl⟩:=trodVars_none hV;obtain⟨cs,rfl,_⟩:=okWide_struct Tryz.underlying46 (hval 0 _ v0 rfl rfl);obtain⟨m0,f0⟩:=h0;obtain⟨x,A1,n1,c,ecs,hc,g1,g2,g3,g4⟩:=GN f0;have TV:cs=_:=Array.toList_inj.mp ecs;subst TV;have MK:Rows.uptoBulkAll ([d0]++([]:List (DataW H)))≤1048576:=of_decide_eq_true hk;simp only[List.append_nil,Rows.uptoBulkAll]at MK;dsimp only at g1 g2 g3 g4;have hs:=zy (p:=c.patch) (M:=41943040) (by omega);have hlo:=TU c.patch.edit.old;have hln:=TU c.patch.edit.new;refine(zeE hc ⟨by omega,by omega,by omega,by unfold lid;omega,by omega⟩ ⟨by omega,by omega,by omega⟩ ⟨by omega,by omega,by omega,by omega,by omega,by omega⟩ (zY hL) (fun W1 hW1=>zic ((Ii hS).below hW1) ((zY hL).below hW1) ((Ih hL).below hW1))).mono fun e W' ⟨he,hB⟩=>?_;subst he;have hlt:=hW.lt;have hs0 :∀z∈p,W.sameAt W' z:=fun z hz=>hB.same (hlt z (by simp[hz]));have hold :∀z∈p++[],(fun b=>decide (b<W.heap.size)) z.block=true:=fun z hz=>by simpa using hlt z hz
 refine⟨_,rfl,_,_,_,[],p,[],hW,trodAll_mk1 (shut_bool Ic true),trodAll_mk1 (Go.WideElems.Trod_stays zV Me MB ⟨m0,f0⟩ hs0 (fun z hz=>hold z (by simp[hz]))),rfl,hB.frame _,fun h=>by cases h⟩
end
end Go.Proofs.YtjjaojnglnpgaaaGreatDoor
