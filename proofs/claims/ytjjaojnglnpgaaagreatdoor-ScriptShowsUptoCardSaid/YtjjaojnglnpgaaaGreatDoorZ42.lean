/- Part 43 of what scriptShows_cardUpto rests on. -/
import Derived.Deep.CutBlock
import Derived.Deep.DeepCutAuto
import Derived.Test.YtjjaojnglnpgaaaGreatDoorZ09
import Derived.Test.YtjjaojnglnpgaaaGreatDoorZ03
import Derived.Test.YtjjaojnglnpgaaaGreatDoorZ38
import Derived.Test.YtjjaojnglnpgaaaGreatDoorZ37
import Derived.Test.YtjjaojnglnpgaaaGreatDoorZ28
import Derived.Test.YtjjaojnglnpgaaaGreatDoorZ11
import Derived.Test.YtjjaojnglnpgaaaGreatDoorZ00
set_option linter.unusedVariables false
set_option linter.unusedSimpArgs false
set_option maxHeartbeats 16000000
set_option maxRecDepth 1000000
namespace Go.Proofs.YtjjaojnglnpgaaaGreatDoor
section
open Go.RowKit
theorem bW.mono{B B':Nat}{w:World}{v:Value}{l:List UInt8}(h:bW B w v l)(hB:B'≤B):bW B' w v l:=by
 refine⟨h.1,?_⟩;rcases h.2 with hn|⟨g,cap,cur,rfl,hbg,hr⟩
 ·exact .inl hn
 ·exact .inr ⟨g,cap,cur,rfl,aI hB hbg,hr⟩
theorem EE{ops:Array Oper}{o:Oper}{a:Act}{w:World}{K:Act→World→Prop}{Q:Exit→Act→World→Prop}{E:Prop}
  (hg:o.guard=none) (s x:Operand) (hop:o.op=Op.call {callee:=Callee.builtin Builtin.append,args:=#[s,x],argTypes:=#[44,44]}) (B B2:Nat) (v v2:Value) (l l2:List UInt8)
  (h1:a.eval s=v) (hown:bW B w v l) (h2:a.eval x=v2) (hown2:bW B2 w v2 l2) (hlen:l.length+l2.length≤gG) (hB:B≤w.heap.size)
  (hK :∀v' w',bW B w' v' (l++l2)→Below B w w'→K (a.put o.dst v') w'):
  if Region.wanted o (yielded ops a.tmps)=true then Oper.wp Tryz.prog o a w K Q else E:=by
 have hw:Region.wanted o (yielded ops a.tmps)=true:=by simp[Region.wanted,hg]
 rw[if_pos hw];obtain⟨A,c,rfl,hA,hc⟩:=hown2.cells;obtain⟨v',w',hrun,h3,hBl⟩:=MX (P:=Tryz.prog) (us:=bytesV l2) (cB:=c) Tryz.underlying44 pX rfl (by decide) hown hA (by simp[bytesV]) (by intro u hu;simp[bytesV]at hu;obtain⟨y,_,rfl⟩:=hu;rfl) hc hB (by unfold maxLen;simp only[gG]at hlen;omega) (by simp only[gG]at hlen;omega) o.type;unfold Oper.wp;simp[execOp,hop,resolve,invoke,builtin,h1,h2,hrun,Result.andThen];refine hK _ _ ?_ hBl;unfold bW;rw[PO,aJ];exact h3
theorem zju{S:Nat→Prop}{w:World}{x:Eh}{e:Ed}(he:dm S w x e)(hlen:(jg e).length≤gG):
  Calls Tryz.prog 120 #[.agg #[.int .u8 e.kind,.slice x.pA e.path.length x.pc,.int .i64 e.at_,.int .i64 e.far,.string e.frm,.string e.to,.slice x.oA e.old.len x.oc,.slice x.nA e.new.len x.nc]] w fun e1 w'=>∃v,e1 = .returned v∧bW w.heap.size w' v (jg e)∧Below w.heap.size w w':=by
 have hk:=he.kind;have HL:Hid (1+(cO e.path).length+8+8+(ax e.frm).length+(ax e.to).length+(aO e.old).length+(aO e.new).length≤gG):=by
  refine hide ?_;simp only[jg,List.length_cons,aJ,iC]at hlen;omega
 have jw:=he.frm;have hto:=he.to;have hol:=aI he.oc.1 he.oc.2;have hnl:=aI he.nc.1 he.nc.2;have Hlen:=hide hlen;clear hlen;obtain⟨W0,hW0⟩:∃W0,W0=w.alloc (.cells #[.int .u8 e.kind,.slice x.pA e.path.length x.pc,.int .i64 e.at_,.int .i64 e.far,.string e.frm,.string e.to,.slice x.oA e.old.len x.oc,.slice x.nA e.new.len x.nc] 41):=⟨_,rfl⟩;have hb0:Below w.heap.size w W0:=by rw[hW0];exact az _ _
 have hbc :∀j v,#[.int .u8 e.kind,.slice x.pA e.path.length x.pc,.int .i64 e.at_,.int .i64 e.far,.string e.frm,.string e.to,.slice x.oA e.old.len x.oc,.slice x.nA e.new.len x.nc][j]?=some v→∀W,Below W0.heap.size W0 W→W.cell? ⟨w.heap.size,j,none⟩=some v:=by
  intro j v hj W hB;have h0:W0.cell? ⟨w.heap.size,j,none⟩=some v:=by rw[hW0,Lib.cell_of_heap (heap_alloc_new w _)];exact hj
  exact(World.cell?_of_block (hB.block _ (block_lt_of_cell h0))).trans h0
 have c0:=hbc 0 _ rfl;have c1:=hbc 1 _ rfl;have c2:=hbc 2 _ rfl;have c3:=hbc 3 _ rfl;have c4:=hbc 4 _ rfl;have c5:=hbc 5 _ rfl;have c6:=hbc 6 _ rfl;have c7:=hbc 7 _ rfl;clear hbc;have He:=hide (he.below hb0);have Hb0:=hide hb0;clear he hb0;have HW0:=hide hW0;clear hW0;go_enter Tryz.func120,Tryz.ntmps120
 go_upto_region 1 with fail
 change Code.wp _ _ _ _ (w.alloc (.cells #[.int .u8 e.kind,.slice x.pA e.path.length x.pc,.int .i64 e.at_,.int .i64 e.far,.string e.frm,.string e.to,.slice x.oA e.old.len x.oc,.slice x.nA e.new.len x.nc] 41));rw[←HW0.out];clear HW0
 go_cut [3] (fun v wx=>bW W0.heap.size wx v ([UInt8.ofNat e.kind]++cO e.path)∧Below W0.heap.size W0 wx)
 case first =>
  have hd1:Below W0.heap.size W0 W0.drew:=di (Below.refl _ _) 1;refine wp_region_held_drew (S:=Below W0.heap.size W0) (by kernel_rfl) hd1 (fun hHeld=>?_);generalize W0.drew=wD at hHeld⊢;refine aj 0 hHeld ?_;refine aj 1 hHeld ?_;refine aj 3 hHeld ?_;refine aj 4 hHeld ?_;refine wpAnyH_ready (rs:=[2,5]) (by kernel_rfl) (by simp) ?_;refine AllReadyH.cons rfl (fun K hK=>?_) (AllReadyH.cons rfl (fun K hK=>?_) AllReadyH.nil)
  ·go_simp;have hA1:Below W0.heap.size W0 (wD.alloc (.cells #[.int .u8 e.kind] 5)):=aW hHeld (az _ _);refine hK.out _ _ hA1 (fun _=>?_);clear hK K
   try simp only[Act.put,aG,aE,aF,aD,aA,aB]
   refine wpAnyH_ready (rs:=[5]) (by kernel_rfl) (by simp) ?_;refine AllReadyH.cons rfl (fun K hK=>?_) AllReadyH.nil;go_simp
   go_wp2_with(go_at_call 184;(with_reducible refine(UE (He.out.path.below hA1) (by have:=HL.out;(try simp only[aJ,List.length_cons,List.length_nil,iC]at this⊢);omega)).mono ?_);rintro e2 w2 ⟨v2,rfl,h2,hB2⟩)
   have hA2:=hA1.trans (hB2.mono hA1.size);refine hK.out _ _ hA2 (fun _=>?_);clear hK K
   try simp only[Act.put,aG,aE,aF,aD,aA,aB]
   refine wpAnyH_ready (rs:=[6]) (by kernel_rfl) (by simp) ?_;refine AllReadyH.cons rfl (fun K hK=>?_) AllReadyH.nil;refine EE rfl _ _ rfl W0.heap.size _ _ _ [UInt8.ofNat e.kind] (cO e.path) rfl ((bW.lit wD (BA _ hk)).mono hHeld.size |>.below hB2) rfl h2 (by have:=HL.out;(try simp only[aJ,List.length_cons,List.length_nil,iC]at this⊢);omega) hA2.size ?_;intro v3 w3 h3 hB3;have hA3:=hA2.trans hB3;refine hK.out _ _ hA3 (fun _=>?_);clear hK K
   try simp only[Act.put,aG,aE,aF,aD,aA,aB]
   refine aj 7 hA3 ?_;refine wpAnyH_done (by kernel_rfl) ?_ _;have H3:=hide h3;have l9:=hide hA3
   try simp only[Act.put,aG,aE,aF,aD,aA,aB]
   go_wp2_with fail
   go_meet
   exact⟨H3.out,l9.out⟩
  ·go_simp
   go_wp2_with(go_at_call 184;(with_reducible refine(UE (He.out.path.below hHeld) (by have:=HL.out;(try simp only[aJ,List.length_cons,List.length_nil,iC]at this⊢);omega)).mono ?_);rintro e2 w2 ⟨v2,rfl,h2,hB2⟩)
   have hA1:=hHeld.trans (hB2.mono hHeld.size);refine hK.out _ _ hA1 (fun _=>?_);clear hK K
   try simp only[Act.put,aG,aE,aF,aD,aA,aB]
   refine wpAnyH_ready (rs:=[2]) (by kernel_rfl) (by simp) ?_;refine AllReadyH.cons rfl (fun K hK=>?_) AllReadyH.nil;go_simp;have hA2:Below W0.heap.size W0 (w2.alloc (.cells #[.int .u8 e.kind] 5)):=aW hA1 (az _ _);refine hK.out _ _ hA2 (fun _=>?_);clear hK K
   try simp only[Act.put,aG,aE,aF,aD,aA,aB]
   refine wpAnyH_ready (rs:=[6]) (by kernel_rfl) (by simp) ?_;refine AllReadyH.cons rfl (fun K hK=>?_) AllReadyH.nil;refine EE rfl _ _ rfl W0.heap.size _ _ _ [UInt8.ofNat e.kind] (cO e.path) rfl ((bW.lit w2 (BA _ hk)).mono hA1.size) rfl (h2.below (az _ _)) (by have:=HL.out;(try simp only[aJ,List.length_cons,List.length_nil,iC]at this⊢);omega) hA2.size ?_;intro v3 w3 h3 hB3;have hA3:=hA2.trans hB3;refine hK.out _ _ hA3 (fun _=>?_);clear hK K
   try simp only[Act.put,aG,aE,aF,aD,aA,aB]
   refine aj 7 hA3 ?_;refine wpAnyH_done (by kernel_rfl) ?_ _;have H3:=hide h3;have l9:=hide hA3
   try simp only[Act.put,aG,aE,aF,aD,aA,aB]
   go_wp2_with fail
   go_meet
   exact⟨H3.out,l9.out⟩
 case rest =>
 obtain⟨h1,hW1⟩:=hcut;have h1w :∃w1,w1=wc:=⟨_,rfl⟩;obtain⟨w1,rfl⟩:=h1w;have H1:=hide h1;clear h1
 go_wp2_with(first
  | (go_at_call 118;(with_reducible refine(AZ He.out.at_).mono ?_);rintro e2 c2 ⟨u2,rfl,g2,k2⟩;have G2:=hide g2;have K2:=hide k2;clear g2 k2)
  | (at_builtin;refine oH rfl _ _ rfl W0.heap.size w1.heap.size _ _ _ (au e.at_) rfl (H1.out.below K2.out) rfl G2.out (by have:=HL.out;(try simp only[aJ,List.length_cons,List.length_nil,iC]at this⊢);omega) (aI hW1.size K2.out.size) ?_))
 intro v2 w2 h2 hB2;have H2:=hide h2;have hW2:Below W0.heap.size W0 w2:=(hW1.trans (K2.out.mono hW1.size)).trans hB2;clear h2 hB2
 go_wp2_with(first
  | (go_at_call 118;(with_reducible refine(AZ He.out.far).mono ?_);rintro e3 c3 ⟨u3,rfl,g3,k3⟩;have G3:=hide g3;have K3:=hide k3;clear g3 k3)
  | (at_builtin;refine oH rfl _ _ rfl W0.heap.size w2.heap.size _ _ _ (au e.far) rfl (H2.out.below K3.out) rfl G3.out (by have:=HL.out;(try simp only[aJ,List.length_cons,List.length_nil,iC]at this⊢);omega) (aI hW2.size K3.out.size) ?_))
 intro v3 w3 h3 hB3;have H3:=hide h3;have hW3:Below W0.heap.size W0 w3:=(hW2.trans (K3.out.mono hW2.size)).trans hB3;clear h3 hB3
 go_wp2_with(first
  | (go_at_call 117;(with_reducible refine(vY jw (by have:=HL.out;(try simp only[aJ,List.length_cons,List.length_nil,iC]at this⊢);omega)).mono ?_);rintro e4 c4 ⟨u4,rfl,g4,k4⟩;have G4:=hide g4;have K4:=hide k4;clear g4 k4)
  | (at_builtin;refine oH rfl _ _ rfl W0.heap.size w3.heap.size _ _ _ (ax e.frm) rfl (H3.out.below K4.out) rfl G4.out (by have:=HL.out;(try simp only[aJ,List.length_cons,List.length_nil,iC]at this⊢);omega) (aI hW3.size K4.out.size) ?_))
 intro v4 w4 h4 hB4;have H4:=hide h4;have DV:Below W0.heap.size W0 w4:=(hW3.trans (K4.out.mono hW3.size)).trans hB4;clear h4 hB4
 go_wp2_with(first
  | (go_at_call 117;(with_reducible refine(vY hto (by have:=HL.out;(try simp only[aJ,List.length_cons,List.length_nil,iC]at this⊢);omega)).mono ?_);rintro e5 c5 ⟨u5,rfl,g5,k5⟩;have G5:=hide g5;have K5:=hide k5;clear g5 k5)
  | (at_builtin;refine oH rfl _ _ rfl W0.heap.size w4.heap.size _ _ _ (ax e.to) rfl (H4.out.below K5.out) rfl G5.out (by have:=HL.out;(try simp only[aJ,List.length_cons,List.length_nil,iC]at this⊢);omega) (aI DV.size K5.out.size) ?_))
 intro v5 w5 h5 gy;have H5:=hide h5;have OT:Below W0.heap.size W0 w5:=(DV.trans (K5.out.mono DV.size)).trans gy;clear h5 gy
 go_wp2_with(first
  | (go_at_call 185;(with_reducible refine(Vd (He.out.old.below OT) hol (by have:=HL.out;(try simp only[aJ,List.length_cons,List.length_nil,iC]at this⊢);omega)).mono ?_);rintro e6 c6 ⟨u6,rfl,g6,k6⟩;have G6:=hide g6;have K6:=hide k6;clear g6 k6)
  | (at_builtin;refine oH rfl _ _ rfl W0.heap.size w5.heap.size _ _ _ (aO e.old) rfl (H5.out.below K6.out) rfl G6.out (by have:=HL.out;(try simp only[aJ,List.length_cons,List.length_nil,iC]at this⊢);omega) (aI OT.size K6.out.size) ?_))
 intro v6 w6 h6 nT;have H6:=hide h6;have OU:Below W0.heap.size W0 w6:=(OT.trans (K6.out.mono OT.size)).trans nT;clear h6 nT
 go_wp2_with(first
  | (go_at_call 185;(with_reducible refine(Vd (He.out.new.below OU) hnl (by have:=HL.out;(try simp only[aJ,List.length_cons,List.length_nil,iC]at this⊢);omega)).mono ?_);rintro e7 c7 ⟨u7,rfl,g7,k7⟩;have G7:=hide g7;have K7:=hide k7;clear g7 k7)
  | (at_builtin;refine oH rfl _ _ rfl W0.heap.size w6.heap.size _ _ _ (aO e.new) rfl (H6.out.below K7.out) rfl G7.out (by have:=HL.out;(try simp only[aJ,List.length_cons,List.length_nil,iC]at this⊢);omega) (aI OU.size K7.out.size) ?_))
 intro v7 w7 h7 lJ;have H7:=hide h7;have hW7:Below W0.heap.size W0 w7:=(OU.trans (K7.out.mono OU.size)).trans lJ;clear h7 lJ
 go_wp2
 have Np:=hide hW7;go_ret;refine⟨_,rfl,?_,Hb0.out.trans (Np.out.mono Hb0.out.size)⟩;have:=H7.out.mono Hb0.out.size
 simpa[jg,List.append_assoc]using this
theorem zfZ{S S':Nat→Prop}{x y:Ph}{h:Pt}{w:World}(ho:eH S w x h)(hl:bM S' w y h):
  Calls Tryz.prog 52 #[.agg #[.int .u8 h.kind,.string h.file,.string h.text,.int .i64 h.hunk.at_,.slice x.h.oA h.hunk.old.length x.h.oc,.slice x.h.nA h.hunk.new.length x.h.nc,.int .u8 h.edit.kind,.slice x.e.pA h.edit.path.length x.e.pc,.int .i64 h.edit.at_,.int .i64 h.edit.far,.string h.edit.frm,.string h.edit.to,.slice x.e.oA h.edit.old.len x.e.oc,.slice x.e.nA h.edit.new.len x.e.nc],.agg #[.int .u8 h.kind,.string h.file,.string h.text,.int .i64 h.hunk.at_,.slice y.h.oA h.hunk.old.length y.h.oc,.slice y.h.nA h.hunk.new.length y.h.nc,.int .u8 h.edit.kind,.slice y.e.pA h.edit.path.length y.e.pc,.int .i64 h.edit.at_,.int .i64 h.edit.far,.string h.edit.frm,.string h.edit.to,.slice y.e.oA h.edit.old.len y.e.oc,.slice y.e.nA h.edit.new.len y.e.nc]] w fun e w'=>e = .returned (.bool true)∧Below w.heap.size w w':=by
 have Ho:=hide ho;have Hl:=hide hl;clear ho hl;obtain⟨W0,hW0⟩:∃W0,W0=(w.alloc (.cells #[.int .u8 h.kind,.string h.file,.string h.text,.int .i64 h.hunk.at_,.slice x.h.oA h.hunk.old.length x.h.oc,.slice x.h.nA h.hunk.new.length x.h.nc,.int .u8 h.edit.kind,.slice x.e.pA h.edit.path.length x.e.pc,.int .i64 h.edit.at_,.int .i64 h.edit.far,.string h.edit.frm,.string h.edit.to,.slice x.e.oA h.edit.old.len x.e.oc,.slice x.e.nA h.edit.new.len x.e.nc] 43)).alloc (.cells #[.int .u8 h.kind,.string h.file,.string h.text,.int .i64 h.hunk.at_,.slice y.h.oA h.hunk.old.length y.h.oc,.slice y.h.nA h.hunk.new.length y.h.nc,.int .u8 h.edit.kind,.slice y.e.pA h.edit.path.length y.e.pc,.int .i64 h.edit.at_,.int .i64 h.edit.far,.string h.edit.frm,.string h.edit.to,.slice y.e.oA h.edit.old.len y.e.oc,.slice y.e.nA h.edit.new.len y.e.nc] 43):=⟨_,rfl⟩;have hB0:dw w W0 [.int .u8 h.kind,.string h.file,.string h.text,.int .i64 h.hunk.at_,.slice x.h.oA h.hunk.old.length x.h.oc,.slice x.h.nA h.hunk.new.length x.h.nc,.int .u8 h.edit.kind,.slice x.e.pA h.edit.path.length x.e.pc,.int .i64 h.edit.at_,.int .i64 h.edit.far,.string h.edit.frm,.string h.edit.to,.slice x.e.oA h.edit.old.len x.e.oc,.slice x.e.nA h.edit.new.len x.e.nc] [.int .u8 h.kind,.string h.file,.string h.text,.int .i64 h.hunk.at_,.slice y.h.oA h.hunk.old.length y.h.oc,.slice y.h.nA h.hunk.new.length y.h.nc,.int .u8 h.edit.kind,.slice y.e.pA h.edit.path.length y.e.pc,.int .i64 h.edit.at_,.int .i64 h.edit.far,.string h.edit.frm,.string h.edit.to,.slice y.e.oA h.edit.old.len y.e.oc,.slice y.e.nA h.edit.new.len y.e.nc]:=by rw[hW0];exact dw.start w #[.int .u8 h.kind,.string h.file,.string h.text,.int .i64 h.hunk.at_,.slice x.h.oA h.hunk.old.length x.h.oc,.slice x.h.nA h.hunk.new.length x.h.nc,.int .u8 h.edit.kind,.slice x.e.pA h.edit.path.length x.e.pc,.int .i64 h.edit.at_,.int .i64 h.edit.far,.string h.edit.frm,.string h.edit.to,.slice x.e.oA h.edit.old.len x.e.oc,.slice x.e.nA h.edit.new.len x.e.nc] #[.int .u8 h.kind,.string h.file,.string h.text,.int .i64 h.hunk.at_,.slice y.h.oA h.hunk.old.length y.h.oc,.slice y.h.nA h.hunk.new.length y.h.nc,.int .u8 h.edit.kind,.slice y.e.pA h.edit.path.length y.e.pc,.int .i64 h.edit.at_,.int .i64 h.edit.far,.string h.edit.frm,.string h.edit.to,.slice y.e.oA h.edit.old.len y.e.oc,.slice y.e.nA h.edit.new.len y.e.nc] _ _
 have HW0:=hide hW0;clear hW0;go_enter Tryz.func52,Tryz.ntmps52
 go_upto_region 1 with fail
 change Code.wp _ _ _ _ ((w.alloc (.cells #[.int .u8 h.kind,.string h.file,.string h.text,.int .i64 h.hunk.at_,.slice x.h.oA h.hunk.old.length x.h.oc,.slice x.h.nA h.hunk.new.length x.h.nc,.int .u8 h.edit.kind,.slice x.e.pA h.edit.path.length x.e.pc,.int .i64 h.edit.at_,.int .i64 h.edit.far,.string h.edit.frm,.string h.edit.to,.slice x.e.oA h.edit.old.len x.e.oc,.slice x.e.nA h.edit.new.len x.e.nc] 43)).alloc (.cells #[.int .u8 h.kind,.string h.file,.string h.text,.int .i64 h.hunk.at_,.slice y.h.oA h.hunk.old.length y.h.oc,.slice y.h.nA h.hunk.new.length y.h.nc,.int .u8 h.edit.kind,.slice y.e.pA h.edit.path.length y.e.pc,.int .i64 h.edit.at_,.int .i64 h.edit.far,.string h.edit.frm,.string h.edit.to,.slice y.e.oA h.edit.old.len y.e.oc,.slice y.e.nA h.edit.new.len y.e.nc] 43));rw[←HW0.out];clear HW0;have b0:=hB0.c 0 _ rfl;have b1:=hB0.c 1 _ rfl;have b2:=hB0.c 2 _ rfl;have b3:=hB0.c 3 _ rfl;have b4:=hB0.c 4 _ rfl;have b5:=hB0.c 5 _ rfl;have b6:=hB0.c 6 _ rfl;have b7:=hB0.c 7 _ rfl;have b8:=hB0.c 8 _ rfl;have b9:=hB0.c 9 _ rfl;have b10:=hB0.c 10 _ rfl;have b11:=hB0.c 11 _ rfl;have b12:=hB0.c 12 _ rfl;have b13:=hB0.c 13 _ rfl;have r0:=hB0.r 0 _ rfl;have r1:=hB0.r 1 _ rfl;have r2:=hB0.r 2 _ rfl;have r3:=hB0.r 3 _ rfl;have r4:=hB0.r 4 _ rfl;have r5:=hB0.r 5 _ rfl;have r6:=hB0.r 6 _ rfl;have r7:=hB0.r 7 _ rfl;have r8:=hB0.r 8 _ rfl;have r9:=hB0.r 9 _ rfl;have r10:=hB0.r 10 _ rfl;have r11:=hB0.r 11 _ rfl;have r12:=hB0.r 12 _ rfl;have r13:=hB0.r 13 _ rfl;have HB0:=hide hB0;clear hB0
 go_wp2_with(first
  | (go_at_call 124;(with_reducible refine(zfU (Ho.out.below HB0.out.b).pt (Hl.out.below HB0.out.b)).mono ?_);rintro e0 w1 ⟨rfl,hB⟩;have hC:=HB0.out.call hB;clear b0 r0 b1 r1 b2 r2 b3 r3 b4 r4 b5 r5 b6 r6 b7 r7 b8 r8 b9 r9 b10 r10 b11 r11 b12 r12 b13 r13;have b0:=hC.c 0 _ rfl;have b1:=hC.c 1 _ rfl;have b2:=hC.c 2 _ rfl;have b3:=hC.c 3 _ rfl;have b4:=hC.c 4 _ rfl;have b5:=hC.c 5 _ rfl;have b6:=hC.c 6 _ rfl;have b7:=hC.c 7 _ rfl;have b8:=hC.c 8 _ rfl;have b9:=hC.c 9 _ rfl;have b10:=hC.c 10 _ rfl;have b11:=hC.c 11 _ rfl;have b12:=hC.c 12 _ rfl;have b13:=hC.c 13 _ rfl;have r0:=hC.r 0 _ rfl;have r1:=hC.r 1 _ rfl;have r2:=hC.r 2 _ rfl;have r3:=hC.r 3 _ rfl;have r4:=hC.r 4 _ rfl;have r5:=hC.r 5 _ rfl;have r6:=hC.r 6 _ rfl;have r7:=hC.r 7 _ rfl;have r8:=hC.r 8 _ rfl;have r9:=hC.r 9 _ rfl;have r10:=hC.r 10 _ rfl;have r11:=hC.r 11 _ rfl;have r12:=hC.r 12 _ rfl;have r13:=hC.r 13 _ rfl;have HB1:=hide hC;clear hB hC)
  | (go_at_call 125;(with_reducible refine(zhe (Ho.out.hunk.below HB1.out.b) (Hl.out.hunk.below HB1.out.b)).mono ?_);rintro e1 w2 ⟨rfl,hB⟩;have hC:=HB1.out.call hB;clear b0 r0 b1 r1 b2 r2 b3 r3 b4 r4 b5 r5 b6 r6 b7 r7 b8 r8 b9 r9 b10 r10 b11 r11 b12 r12 b13 r13;have b0:=hC.c 0 _ rfl;have b1:=hC.c 1 _ rfl;have b2:=hC.c 2 _ rfl;have b3:=hC.c 3 _ rfl;have b4:=hC.c 4 _ rfl;have b5:=hC.c 5 _ rfl;have b6:=hC.c 6 _ rfl;have b7:=hC.c 7 _ rfl;have b8:=hC.c 8 _ rfl;have b9:=hC.c 9 _ rfl;have b10:=hC.c 10 _ rfl;have b11:=hC.c 11 _ rfl;have b12:=hC.c 12 _ rfl;have b13:=hC.c 13 _ rfl;have r0:=hC.r 0 _ rfl;have r1:=hC.r 1 _ rfl;have r2:=hC.r 2 _ rfl;have r3:=hC.r 3 _ rfl;have r4:=hC.r 4 _ rfl;have r5:=hC.r 5 _ rfl;have r6:=hC.r 6 _ rfl;have r7:=hC.r 7 _ rfl;have r8:=hC.r 8 _ rfl;have r9:=hC.r 9 _ rfl;have r10:=hC.r 10 _ rfl;have r11:=hC.r 11 _ rfl;have r12:=hC.r 12 _ rfl;have r13:=hC.r 13 _ rfl;have HB2:=hide hC;clear hB hC)
  | (go_at_call 126;(with_reducible refine(zhf (Ho.out.edit.below HB2.out.b) (Hl.out.edit.below HB2.out.b)).mono ?_);rintro e2 w3 ⟨rfl,hB⟩;have hC:=HB2.out.call hB;have HB3:=hide hC;clear hB hC))
 go_ret;exact⟨rfl,HB3.out.b⟩
end
end Go.Proofs.YtjjaojnglnpgaaaGreatDoor
