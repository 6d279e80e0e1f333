/- Part 42 of what scriptBack_cardUpto rests on. -/
import Derived.Deep.CutBlock
import Derived.Deep.DeepCutAuto
import Derived.Test.YtjjaojnglnpgaaaGreatDoorY39
import Derived.Test.YtjjaojnglnpgaaaGreatDoorY16
import Derived.Test.YtjjaojnglnpgaaaGreatDoorY26
import Derived.Test.YtjjaojnglnpgaaaGreatDoorY05
import Derived.Test.YtjjaojnglnpgaaaGreatDoorY37
import Derived.Test.YtjjaojnglnpgaaaGreatDoorY21
import Derived.Test.YtjjaojnglnpgaaaGreatDoorY03
import Derived.Test.YtjjaojnglnpgaaaGreatDoorY40
import Derived.Test.YtjjaojnglnpgaaaGreatDoorY15
import Derived.Test.YtjjaojnglnpgaaaGreatDoorY00
set_option linter.unusedVariables false
set_option linter.unusedSimpArgs false
set_option maxHeartbeats 16000000
set_option maxRecDepth 1000000
namespace Go.Proofs.YtjjaojnglnpgaaaGreatDoor
section
open Go.RowKit Go.ChangeShapes Go.WideShapes
def gU(p:Pt):Nat:=p.file.size+p.text.size+(bC p.hunk.old).length+(bC p.hunk.new).length+(gV p.edit).length
section
variable {H : Type} {enc : TypeId × Value → H} {w : World} {spare : Nat → Bool} {held : Bool}
theorem DW{m:Nat}{cs:List Value}{x:DataW H×List MemPlace}(h:DataW.trod enc Tryz.prog w 0 spare held m 43 cs=some x):
  ∃(x':Ph) (p:Pt),cs=[.int .u8 p.kind,.string p.file,.string p.text,.int .i64 p.hunk.at_,.slice x'.h.oA p.hunk.old.length x'.h.oc,.slice x'.h.nA p.hunk.new.length x'.h.nc,.int .u8 p.edit.kind,.slice x'.e.pA p.edit.path.length x'.e.pc,.int .i64 p.edit.at_,.int .i64 p.edit.far,.string p.edit.frm,.string p.edit.to,.slice x'.e.oA p.edit.old.len x'.e.oc,.slice x'.e.nA p.edit.new.len x'.e.nc]∧
   aV (fun _=>True) w x' p∧(dX p).length≤40*Rows.uptoBulk x.1∧p.edit.frm.size+p.edit.to.size≤Rows.uptoBulk x.1∧gU p≤40*Rows.uptoBulk x.1:=by
 obtain⟨xs,n,rfl,rfl,hl,hlen,hf⟩:=DataW.trod_struct Tryz.underlying43 h;rw[ou]at hl;obtain⟨c0,c1,c2,c3,c4,c5,c6,c7,c8,c9,c10,c11,c12,c13,rfl⟩:=BZ hl;obtain⟨y0,y1,y2,y3,y4,rfl⟩:=FM hlen;have f0:DataW.trod enc Tryz.prog w 0 spare held n 33 (List.take (Tryz.prog.cellsOf 33) (List.drop 0 [c0,c1,c2,c3,c4,c5,c6,c7,c8,c9,c10,c11,c12,c13]))=some y0:=hf 0 _ rfl;rw[Me]at f0;have f0:DataW.trod enc Tryz.prog w 0 spare held n 33 [c0]=some y0:=f0;have f1:DataW.trod enc Tryz.prog w 0 spare held n 9 (List.take (Tryz.prog.cellsOf 9) (List.drop 1 [c0,c1,c2,c3,c4,c5,c6,c7,c8,c9,c10,c11,c12,c13]))=some y1:=hf 1 _ rfl;rw[iD]at f1;have f1:DataW.trod enc Tryz.prog w 0 spare held n 9 [c1]=some y1:=f1;have f2:DataW.trod enc Tryz.prog w 0 spare held n 9 (List.take (Tryz.prog.cellsOf 9) (List.drop 2 [c0,c1,c2,c3,c4,c5,c6,c7,c8,c9,c10,c11,c12,c13]))=some y2:=hf 2 _ rfl;rw[iD]at f2;have f2:DataW.trod enc Tryz.prog w 0 spare held n 9 [c2]=some y2:=f2;have f3:DataW.trod enc Tryz.prog w 0 spare held n 36 (List.take (Tryz.prog.cellsOf 36) (List.drop 3 [c0,c1,c2,c3,c4,c5,c6,c7,c8,c9,c10,c11,c12,c13]))=some y3:=hf 3 _ rfl;rw[ug]at f3;have f3:DataW.trod enc Tryz.prog w 0 spare held n 36 [c3,c4,c5]=some y3:=f3;have f4:DataW.trod enc Tryz.prog w 0 spare held n 41 (List.take (Tryz.prog.cellsOf 41) (List.drop 6 [c0,c1,c2,c3,c4,c5,c6,c7,c8,c9,c10,c11,c12,c13]))=some y4:=hf 4 _ rfl;rw[uh]at f4;have f4:DataW.trod enc Tryz.prog w 0 spare held n 41 [c6,c7,c8,c9,c10,c11,c12,c13]=some y4:=f4;obtain⟨k,e0,hx0,w0⟩:=DataW.trod_int MF f0;obtain⟨file,e1,hx1,w1⟩:=DataW.trod_string fG f1;obtain⟨text,e2,hx2,w2⟩:=DataW.trod_string fG f2;obtain⟨xh,hk,e3,g1,g2⟩:=F5 f3;obtain⟨xe,ed,e4,i1,i2,i3⟩:=F6 f4;obtain⟨k',rfl,hk8⟩:=wf_u8 w0;injection e0 with e0;injection e1 with e1;injection e2 with e2;have e3:[c3,c4,c5]=_:=e3;have e4:[c6,c7,c8,c9,c10,c11,c12,c13]=_:=e4;simp only[List.cons.injEq,and_true]at e3 e4;obtain⟨rfl,rfl,rfl⟩:=e3;obtain⟨rfl,rfl,rfl,rfl,rfl,rfl,rfl,rfl⟩:=e4;subst e0 e1 e2 hx0 hx1 hx2;have h1:=xQ (H:=H) (.lit (.int .u8 (k':Int)));refine⟨⟨xh,xe⟩,⟨k',file,text,hk,ed⟩,rfl,⟨hk8,jT w1,jT w2,g1,i1⟩,?_,?_,?_⟩
 ·simp only[List.map_cons,List.map_nil,Rows.uptoBulk,Rows.uptoBulkAll,BX]at g2 i2 h1⊢;unfold dX;split
  ·simp only[List.length_cons,aJ,n8,yR];omega
  ·split
   ·simp only[List.length_cons,aJ,n8,yR];omega
   ·simp only[List.length_cons,aJ,n8,yR];omega
 ·simp only[List.map_cons,List.map_nil,Rows.uptoBulk,Rows.uptoBulkAll,BX]at i3⊢;omega
 ·simp only[List.map_cons,List.map_nil,Rows.uptoBulk,Rows.uptoBulkAll,BX,gU]at g2 i2 i3 h1⊢;omega
end
theorem KE :∀f:Fo,25*f.cnt≤(fC f).length
 | .nil=>by simp[Fo.cnt,fC]
 | .cons k t n ks r=>by
  have h1:=KE ks;have h2:=KE r;rw[QQ,Fo.cnt];omega
theorem Um :∀l:List ByteArray,8*l.length+8≤(bC l).length:=by
 intro l;have h :∀l:List ByteArray,8*l.length≤((l.map aP).flatten).length:=by
  intro l
  induction l with
  | nil=>simp
  | cons s r ih=>simp only[List.map_cons,List.flatten_cons,aJ,List.length_cons,yR];omega
 have:=h l;simp only[bC,aJ,n8];omega
theorem YQ :∀l:List Int,(di l).length=8+8*l.length:=by
 intro l;have h :∀l:List Int,((l.map au).flatten).length=8*l.length:=by
  intro l
  induction l with
  | nil=>simp
  | cons s r ih=>simp only[List.map_cons,List.flatten_cons,aJ,List.length_cons,n8,ih];omega
 simp only[di,aJ,n8,h]
theorem Un{p:Pt}{M:Nat}(h:gU p≤M):p.hunk.old.length≤M∧p.hunk.new.length≤M∧p.edit.path.length≤M∧p.edit.old.cnt≤M∧p.edit.new.cnt≤M:=by
 have h1:=Um p.hunk.old;have h2:=Um p.hunk.new;have h3:=YQ p.edit.path;have h4:=KE p.edit.old;have h5:=KE p.edit.new;have h6:=JA p.edit.old;have h7:=JA p.edit.new;have h8:(gV p.edit).length=1+(di p.edit.path).length+16+(8+p.edit.frm.size)+(8+p.edit.to.size)+(aS p.edit.old).length+(aS p.edit.new).length:=by
  simp only[gV,List.length_cons,aJ,n8,yR];omega
 unfold gU at h;refine⟨?_,?_,?_,?_,?_⟩<;>omega
end
section
open Go.RowKit
theorem kZ:(Tryz.prog.info? 43).map (·.size)=some 14:=by kernel_rfl
section
variable {w wx : World} {us zs : List Value}
end
end
end Go.Proofs.YtjjaojnglnpgaaaGreatDoor
