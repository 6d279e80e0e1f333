/- Part 48 of what commuteFiles_cardUpto rests on. -/
import Derived.WideKeyArgs
import Derived.RowKit
import Derived.Lib.LaidTab
import Derived.Lib.LaidU8
import Derived.Test.YtialngdffhmobaaGreatDoorV35
import Derived.Test.YtialngdffhmobaaGreatDoorV39
import Derived.Test.YtialngdffhmobaaGreatDoorV07
import Derived.Test.YtialngdffhmobaaGreatDoorV00
set_option linter.unusedVariables false
set_option linter.unusedSimpArgs false
set_option maxHeartbeats 16000000
set_option maxRecDepth 1000000
namespace Go.Proofs.YtialngdffhmobaaGreatDoor
section
open Go.RowKit Go.ChangeShapes Go.WideShapes
theorem zA:Tryz.prog.underlying 4=some .bool:=by kernel_rfl
theorem Kq:laidOutB Tryz.prog=true:=by kernel_rfl
theorem pU:Tryz.prog.readableRec 32=true:=by kernel_rfl
theorem pV:(32:TypeId)<Tryz.prog.types.size:=of_decide_eq_true (by kernel_rfl)
theorem CB:Tryz.prog.underlying 284=some (.array 256 5):=by kernel_rfl
theorem CE:Tryz.prog.cellsOf 284=256:=by kernel_rfl
theorem xR : Tryz.prog.globalNamed "strings.asciiSpace" = some 0 := by kernel_rfl
theorem zB:(Tryz.prog.globals[0]?).map (·.type)=some 284:=by kernel_rfl
theorem uD:(Rows.laid_strings_asciiSpace:DataW Unit)=Lib.tabData .u8 Lib.asciiSpaceTab:=by kernel_rfl
theorem zC{W:World}(h:laidMetH Tryz.prog Rows.commuteFilesUptoRow.laid W):aW W:=by
 have h' : laidMet Tryz.prog [("unicode.White_Space", Rows.laid_unicode_White_Space), ("strings.asciiSpace", Rows.laid_strings_asciiSpace)] W := h;obtain⟨g',t',cs,fuel,p,hg',ht',hvar,hd⟩:=Lib.laidMet.reads h' (.tail _ (.head _));obtain rfl:=Option.some.inj (xR.symm.trans hg');obtain rfl:=Option.some.inj (zB.symm.trans ht');rw[uD]at hd;have hc:=Lib.cells_of_tab CB Fz Fj CE hd;have hT : Lib.TabIs Tryz.prog W "strings.asciiSpace" .u8 Lib.asciiSpaceTab := by
  unfold Lib.TabIs;rw[hvar,←hc]
 exact⟨block_lt_of_cell (hT.cell xR 0 (of_decide_eq_true (by kernel_rfl))),hT⟩
theorem pW(l:List ByteArray):l.length≤(jr l).length:=by
 unfold jr;rw[aJ];have:l.length≤((l.map jS).flatten).length:=by
  induction l with
  | nil=>simp
  | cons a l ih=>simp only[List.map_cons,List.flatten_cons,aJ,List.length_cons,FM];omega
 omega
theorem wL(l:List Int):l.length≤(lM l).length:=by
 unfold lM;rw[aJ];have:l.length≤((l.map iq).flatten).length:=by
  induction l with
  | nil=>simp
  | cons a l ih=>simp only[List.map_cons,List.flatten_cons,aJ,List.length_cons,n8];omega
 omega
theorem zD{w:World}{x:Hh}{h:Hk}{n:Nat}(a:jv (fun _=>True) w x h)(g:8+(jr h.old).length+(jr h.new).length≤n)(hn:n≤549755813888):jm h :=
 ⟨a.at_,⟨a.old.2.1,by have:=pW h.old;omega⟩,⟨a.new.2.1,by have:=pW h.new;omega⟩⟩
theorem zF{w:World}{x:Eh}{e:Ed}{n:Nat}(a:gq (fun _=>True) w x e)(g:(CQ e).length≤n)(hs:e.frm.size+e.to.size≤n)(hn:n≤137438953472):ja e∧iO e:=by
 unfold CQ at g;simp only[List.length_cons,aJ,n8,FM,FB]at g;have hp:=wL e.path;exact⟨⟨a.kind,⟨a.path.2.1,by omega⟩,a.at_,a.far,a.frm,a.to,by omega,by omega,by omega⟩,by omega,by omega⟩
section
variable {H : Type} {enc : TypeId × Value → H} {w : World} {spare : Nat → Bool} {held : Bool}
theorem CG{m:Nat}{cs:List Value}{x:DataW H×List MemPlace}(h:DataW.trod enc Tryz.prog w 0 spare held m 32 cs=some x)(hb:Rows.uptoBulk x.1≤1048576):
  ∃(x':Ph) (p:Pt),cs=ai p x'∧gX w x' p∧iO p.edit:=by
 obtain⟨xs,n,rfl,rfl,hl,hlen,hf⟩:=DataW.trod_struct Tryz.underlying32 h;rw[vS]at hl;obtain⟨c0,c1,c2,c3,c4,c5,c6,c7,c8,c9,c10,c11,c12,c13,rfl⟩:=yL hl;obtain⟨y0,y1,y2,y3,y4,rfl⟩:=BH hlen;have f0:DataW.trod enc Tryz.prog w 0 spare held n 22 (List.take (Tryz.prog.cellsOf 22) (List.drop 0 [c0,c1,c2,c3,c4,c5,c6,c7,c8,c9,c10,c11,c12,c13]))=some y0:=hf 0 _ rfl;rw[Fh]at f0;have f0:DataW.trod enc Tryz.prog w 0 spare held n 22 [c0]=some y0:=f0;have f1:DataW.trod enc Tryz.prog w 0 spare held n 9 (List.take (Tryz.prog.cellsOf 9) (List.drop 1 [c0,c1,c2,c3,c4,c5,c6,c7,c8,c9,c10,c11,c12,c13]))=some y1:=hf 1 _ rfl;rw[kX]at f1;have f1:DataW.trod enc Tryz.prog w 0 spare held n 9 [c1]=some y1:=f1;have f2:DataW.trod enc Tryz.prog w 0 spare held n 9 (List.take (Tryz.prog.cellsOf 9) (List.drop 2 [c0,c1,c2,c3,c4,c5,c6,c7,c8,c9,c10,c11,c12,c13]))=some y2:=hf 2 _ rfl;rw[kX]at f2;have f2:DataW.trod enc Tryz.prog w 0 spare held n 9 [c2]=some y2:=f2;have f3:DataW.trod enc Tryz.prog w 0 spare held n 25 (List.take (Tryz.prog.cellsOf 25) (List.drop 3 [c0,c1,c2,c3,c4,c5,c6,c7,c8,c9,c10,c11,c12,c13]))=some y3:=hf 3 _ rfl;rw[tC]at f3;have f3:DataW.trod enc Tryz.prog w 0 spare held n 25 [c3,c4,c5]=some y3:=f3;have f4:DataW.trod enc Tryz.prog w 0 spare held n 30 (List.take (Tryz.prog.cellsOf 30) (List.drop 6 [c0,c1,c2,c3,c4,c5,c6,c7,c8,c9,c10,c11,c12,c13]))=some y4:=hf 4 _ rfl;rw[tH]at f4;have f4:DataW.trod enc Tryz.prog w 0 spare held n 30 [c6,c7,c8,c9,c10,c11,c12,c13]=some y4:=f4;obtain⟨k,e0,hx0,w0⟩:=DataW.trod_int Fv f0;obtain⟨file,e1,hx1,w1⟩:=DataW.trod_string kY f1;obtain⟨text,e2,hx2,w2⟩:=DataW.trod_string kY f2;obtain⟨xh,hk,e3,g1,g2⟩:=BN f3;obtain⟨xe,ed,e4,i1,i2,i3⟩:=BO f4;obtain⟨k',rfl,hk8⟩:=wf_u8 w0;injection e0 with e0;injection e1 with e1;injection e2 with e2;have e3:[c3,c4,c5]=_:=e3;have e4:[c6,c7,c8,c9,c10,c11,c12,c13]=_:=e4;simp only[List.cons.injEq,and_true]at e3 e4;obtain⟨rfl,rfl,rfl⟩:=e3;obtain⟨rfl,rfl,rfl,rfl,rfl,rfl,rfl,rfl⟩:=e4;subst e0 e1 e2 hx0 hx1 hx2;have h1:=wR (H:=H) (.lit (.int .u8 (k':Int)));simp only[List.map_cons,List.map_nil,Rows.uptoBulk,Rows.uptoBulkAll]at hb;have b1:=zD g1 g2 (by omega);have b2:=zF (n:=41943040) i1 (by omega) (by omega) (by omega);exact⟨⟨xh,xe⟩,⟨k',file,text,hk,ed⟩,rfl,⟨⟨hk8,mQ w1,mQ w2,g1,i1⟩,⟨hk8,mQ w1,mQ w2,b1,b2.1⟩⟩,b2.2⟩
end
end
end Go.Proofs.YtialngdffhmobaaGreatDoor
