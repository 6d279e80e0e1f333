/- Part 41 of what scriptShows_cardUpto rests on. -/
import Derived.Deep.RegionHeld
import Derived.Test.YtjjaojnglnpgaaaGreatDoorZ33
import Derived.Test.YtjjaojnglnpgaaaGreatDoorZ38
import Derived.Test.YtjjaojnglnpgaaaGreatDoorZ25
import Derived.Test.YtjjaojnglnpgaaaGreatDoorZ28
import Derived.Test.YtjjaojnglnpgaaaGreatDoorZ39
import Derived.Test.YtjjaojnglnpgaaaGreatDoorZ03
import Derived.Test.YtjjaojnglnpgaaaGreatDoorZ00
set_option linter.unusedVariables false
set_option linter.unusedSimpArgs false
set_option maxHeartbeats 16000000
set_option maxRecDepth 1000000
namespace Go.Proofs.YtjjaojnglnpgaaaGreatDoor
section
open Go.RowKit
def zt(w:World)(l:List UInt8)(e:Ending)(w':World):Prop:=Below w.heap.size w w'∧((∃(q:Pt) (y:Ph),eY q∧bI q∧l=gJ q∧e = .returned (.tuple #[.agg #[.int .u8 q.kind,.string q.file,.string q.text,.int .i64 q.hunk.at_,.slice y.h.oA q.hunk.old.length y.h.oc,.slice y.h.nA q.hunk.new.length y.h.nc,.int .u8 q.edit.kind,.slice y.e.pA q.edit.path.length y.e.pc,.int .i64 q.edit.at_,.int .i64 q.edit.far,.string q.edit.frm,.string q.edit.to,.slice y.e.oA q.edit.old.len y.e.oc,.slice y.e.nA q.edit.new.len y.e.nc],.int .i64 0])∧bM (fun b=>w.heap.size≤b) w' y q)∨(¬gZ l∧e = .returned (.tuple #[.agg #[.int .u8 0,.string ⟨#[]⟩,.string ⟨#[]⟩,.int .i64 0,.slice none 0 0,.slice none 0 0,.int .u8 0,.slice none 0 0,.int .i64 0,.int .i64 0,.string ⟨#[]⟩,.string ⟨#[]⟩,.slice none 0 0,.slice none 0 0],.int .i64 4])))
theorem zjn{w w1 w2:World}{rb:Nat}(h1:Below w.heap.size w w1)(hs:Side rb w1 w2)(hrb:w.heap.size≤rb):Below w.heap.size w w2 :=
 h1.trans ⟨hs.os,hs.tape,hs.output,hs.size,fun b hb=>hs.block b ⟨aH hb h1.size,by omega⟩⟩
theorem rP{l l':List UInt8}{q:Pt}(hf:eY q)(hb:Bare q)(hl:l=gJ q++l')(h :¬l'=[]∨¬bI q):¬gZ l:=by
 rw[hl];by_cases he:l'=[]
 ·rw[he,List.append_nil];exact uo hf hb (h.resolve_left fun hn=>hn he)
 ·exact yx hf hb he
theorem Xp{S:Nat→Prop}{w:World}{A:Option Addr}{c:Nat}{l:List UInt8}(hb:BytesIn S w A l)(hc:l.length≤c)(hc2:c≤9223372036854775807)(hl:l.length≤lid):Calls Tryz.prog 187 #[.slice A l.length c] w (zt w l):=by
 have HR0:Hid (fZ w.heap.size (w.heap.size+1) ((w.alloc (.cells #[.int .u8 0,.string ⟨#[]⟩,.string ⟨#[]⟩,.int .i64 0,.slice none 0 0,.slice none 0 0,.int .u8 0,.slice none 0 0,.int .i64 0,.int .i64 0,.string ⟨#[]⟩,.string ⟨#[]⟩,.slice none 0 0,.slice none 0 0] 43)).alloc (.cells #[.slice A l.length c,.bool false] 307)) l false):=by
  refine hide ⟨by omega,A,c,?_,?_,by simp,by simp,?_,hc,hc2⟩
  ·rw[World.cell?_alloc2_new];rfl
  ·rw[World.cell?_alloc2_new];rfl
  ·exact(hb.mono (S':=fun b=>b<w.heap.size) fun b h1 _=>h1).keep fun b hb=>((iD _ _).block b hb)
 clear hb;go_enter Tryz.func187,Tryz.ntmps187
 go_upto_region 3 with(go_at_call 233;(with_reducible refine(zg4 HR0.out hl).mono ?_);rintro e w2 ⟨q,y,l',jq,rfl,hin,hfit,hbare,hr,hs,hle,hx⟩;have HR:=hide hr;have HS:=hide hs;have HX:=hide hx;have Ol:=hide hin;have GI:=hide hfit;have Ey:=hide hbare;clear hr hs hx hin hfit hbare)
 have hs:=HS.out;have hsz:w.heap.size+2≤w2.heap.size:=by have:=hs.size;simpa using this
 obtain⟨WX,ni⟩:∃WX,WX=w2.alloc (.cells #[.int .u8 q.kind,.string q.file,.string q.text,.int .i64 q.hunk.at_,.slice y.h.oA q.hunk.old.length y.h.oc,.slice y.h.nA q.hunk.new.length y.h.nc,.int .u8 q.edit.kind,.slice y.e.pA q.edit.path.length y.e.pc,.int .i64 q.edit.at_,.int .i64 q.edit.far,.string q.edit.frm,.string q.edit.to,.slice y.e.oA q.edit.old.len y.e.oc,.slice y.e.nA q.edit.new.len y.e.nc] 43):=⟨_,rfl⟩;have hq0 :∀j v,#[.int .u8 q.kind,.string q.file,.string q.text,.int .i64 q.hunk.at_,.slice y.h.oA q.hunk.old.length y.h.oc,.slice y.h.nA q.hunk.new.length y.h.nc,.int .u8 q.edit.kind,.slice y.e.pA q.edit.path.length y.e.pc,.int .i64 q.edit.at_,.int .i64 q.edit.far,.string q.edit.frm,.string q.edit.to,.slice y.e.oA q.edit.old.len y.e.oc,.slice y.e.nA q.edit.new.len y.e.nc][j]?=some v→WX.cell? ⟨w2.heap.size,j,none⟩=some v:=fun j v hj=>by rw[ni,Lib.cell_of_heap (heap_alloc_new w2 _)];exact hj
 have hR2 :∀j v,#[.int .u8 0,.string ⟨#[]⟩,.string ⟨#[]⟩,.int .i64 0,.slice none 0 0,.slice none 0 0,.int .u8 0,.slice none 0 0,.int .i64 0,.int .i64 0,.string ⟨#[]⟩,.string ⟨#[]⟩,.slice none 0 0,.slice none 0 0][j]?=some v→WX.cell? ⟨w.heap.size,j,none⟩=some v:=fun j v hj=>by
  rw[ni,World.cell?_of_block (a:=⟨w.heap.size,j,none⟩) (heap_alloc_old w2 _ (by show w.heap.size<_;omega)),(hs.box (N:=w.heap.size) (by simp;omega) (by omega)).1 j,World.cell?_alloc2_first];exact hj
 have hF2 :∀o,WX.frozen? ⟨w.heap.size,o,none⟩=false:=fun o=>by
  rw[ni,World.frozen?_of_block (a:=⟨w.heap.size,o,none⟩) (heap_alloc_old w2 _ (by show w.heap.size<_;omega)),(hs.box (N:=w.heap.size) (by simp;omega) (by omega)).2.1 o,World.frozen?_alloc2_first]
 have Ez:Hid (fZ w.heap.size (w.heap.size+1) WX l' jq):=hide (by rw[ni];exact HR.out.alloc _);have zu:Hid (bM (fun b=>w.heap.size+2≤b) WX y q):=hide (by rw[ni];exact(Ol.out.mono (S':=fun b=>w.heap.size+2≤b) fun b _ hb=>by simpa using hb).below (az _ _));have oD:Hid (Below w.heap.size w WX):=hide (by rw[ni];exact(zjn (iD _ _) hs (by omega)).trans ((az w2 _).mono (by omega)));have hzX:w2.heap.size<WX.heap.size:=by rw[ni];simp
 obtain⟨Ar,cr,kr0,kr1,_,_,_,kr5,kr6⟩:=Ez.out.cells;rw[←ni];clear ni hs HS HR Ol HR0;have hl0 :∀{p:Addr} {v:Value},WX.cell? p=some v→∀W,Below WX.heap.size WX W→W.cell? p=some v:=fun h W hW=>(World.cell?_of_block (hW.block _ (block_lt_of_cell h))).trans h;have e0:=hl0 (hq0 0 _ rfl);have e1:=hl0 (hq0 1 _ rfl);have e2:=hl0 (hq0 2 _ rfl);have e3:=hl0 (hq0 3 _ rfl);have e4:=hl0 (hq0 4 _ rfl);have e5:=hl0 (hq0 5 _ rfl);have e6:=hl0 (hq0 6 _ rfl);have e7:=hl0 (hq0 7 _ rfl);have e8:=hl0 (hq0 8 _ rfl);have e9:=hl0 (hq0 9 _ rfl);have e10:=hl0 (hq0 10 _ rfl);have e11:=hl0 (hq0 11 _ rfl);have e12:=hl0 (hq0 12 _ rfl);have e13:=hl0 (hq0 13 _ rfl);have r0:=hl0 (hR2 0 _ rfl);have r1:=hl0 (hR2 1 _ rfl);have r2:=hl0 (hR2 2 _ rfl);have r3:=hl0 (hR2 3 _ rfl);have r4:=hl0 (hR2 4 _ rfl);have r5:=hl0 (hR2 5 _ rfl);have r6:=hl0 (hR2 6 _ rfl);have r7:=hl0 (hR2 7 _ rfl);have r8:=hl0 (hR2 8 _ rfl);have r9:=hl0 (hR2 9 _ rfl);have r10:=hl0 (hR2 10 _ rfl);have r11:=hl0 (hR2 11 _ rfl);have r12:=hl0 (hR2 12 _ rfl);have r13:=hl0 (hR2 13 _ rfl);have hfr :∀W,Below WX.heap.size WX W→∀o,W.frozen? ⟨w.heap.size,o,none⟩=false:=fun W hW o=>(World.frozen?_of_block (a:=⟨w.heap.size,o,none⟩) (hW.block w.heap.size (by omega))).trans (hF2 o);have Xq :∀W,Below WX.heap.size WX W→bP W w.heap.size [.int .u8 0,.string ⟨#[]⟩,.string ⟨#[]⟩,.int .i64 0,.slice none 0 0,.slice none 0 0,.int .u8 0,.slice none 0 0,.int .i64 0,.int .i64 0,.string ⟨#[]⟩,.string ⟨#[]⟩,.slice none 0 0,.slice none 0 0]:=fun W hW j u hu=>hl0 (hR2 j u (by simpa using hu)) W hW;have OI:=hide Xq;have hb0:Below WX.heap.size WX WX:=Below.refl _ _;clear hl0 hq0 hR2 hF2 Xq;rcases jq with _|_
 ·rcases l' with _|⟨z,l'⟩
  ·have HRt:Hid (Calls Tryz.prog 116 #[.agg #[.int .u8 q.kind,.string q.file,.string q.text,.int .i64 q.hunk.at_,.slice y.h.oA q.hunk.old.length y.h.oc,.slice y.h.nA q.hunk.new.length y.h.nc,.int .u8 q.edit.kind,.slice y.e.pA q.edit.path.length y.e.pc,.int .i64 q.edit.at_,.int .i64 q.edit.far,.string q.edit.frm,.string q.edit.to,.slice y.e.oA q.edit.old.len y.e.oc,.slice y.e.nA q.edit.new.len y.e.nc]] WX fun e1 w'=>ah (bI q) e1∧Below WX.heap.size WX w'):=hide (OH zu.out)
   go_wp2_with(go_at_call 116;(with_reducible refine HRt.out.mono ?_);rintro e1 w3 ⟨⟨_|_,rfl,hok⟩,hB3⟩<;>(have gK:=hide hok;have hfr3:=hfr w3 hB3;clear hok))
   ·obtain⟨wF,hF⟩:∃wF,wF=World.setCells w3 w.heap.size 0 [.int .u8 0,.string ⟨#[]⟩,.string ⟨#[]⟩,.int .i64 0,.slice none 0 0,.slice none 0 0,.int .u8 0,.slice none 0 0,.int .i64 0,.int .i64 0,.string ⟨#[]⟩,.string ⟨#[]⟩,.slice none 0 0,.slice none 0 0]:=⟨_,rfl⟩;have hR:bP wF w.heap.size [.int .u8 0,.string ⟨#[]⟩,.string ⟨#[]⟩,.int .i64 0,.slice none 0 0,.slice none 0 0,.int .u8 0,.slice none 0 0,.int .i64 0,.int .i64 0,.string ⟨#[]⟩,.string ⟨#[]⟩,.slice none 0 0,.slice none 0 0]:=by
     rw[hF];have:=uZ (OI.out w3 hB3) 0 [.int .u8 0,.string ⟨#[]⟩,.string ⟨#[]⟩,.int .i64 0,.slice none 0 0,.slice none 0 0,.int .u8 0,.slice none 0 0,.int .i64 0,.int .i64 0,.string ⟨#[]⟩,.string ⟨#[]⟩,.slice none 0 0,.slice none 0 0] (by simp)
     simpa using this
    have GK:Hid (Below w.heap.size w wF):=hide (by rw[hF];exact D6 (aC _) _ 0 (oD.out.trans (hB3.mono oD.out.size)));have mM:Hid (bM (fun b=>w.heap.size≤b) wF y q):=hide (by rw[hF];exact((zu.out.below hB3).keep fun b hb=>jG w.heap.size (by omega) _ _ _).mono (S':=fun b=>w.heap.size≤b) fun b _ hb=>by omega);simp only[World.setCells,Nat.reduceAdd]at hF;have HR:=hide hR;clear hR;rw[←hF];clear hF;have g0:=HR.out 0 _ rfl;have g1:=HR.out 1 _ rfl;have g2:=HR.out 2 _ rfl;have g3:=HR.out 3 _ rfl;have g4:=HR.out 4 _ rfl;have g5:=HR.out 5 _ rfl;have g6:=HR.out 6 _ rfl;have g7:=HR.out 7 _ rfl;have g8:=HR.out 8 _ rfl;have g9:=HR.out 9 _ rfl;have g10:=HR.out 10 _ rfl;have g11:=HR.out 11 _ rfl;have g12:=HR.out 12 _ rfl;have g13:=HR.out 13 _ rfl;refine bodyPost_ret (v:= .tuple #[.agg #[.int .u8 0,.string ⟨#[]⟩,.string ⟨#[]⟩,.int .i64 0,.slice none 0 0,.slice none 0 0,.int .u8 0,.slice none 0 0,.int .i64 0,.int .i64 0,.string ⟨#[]⟩,.string ⟨#[]⟩,.slice none 0 0,.slice none 0 0],.int .i64 4]) ?_ rfl ?_
    ·clear e0 e1 e2 e3 e4 e5 e6 e7 e8 e9 e10 e11 e12 e13 r0 r1 r2 r3 r4 r5 r6 r7 r8 r9 r10 r11 r12 r13;simp only[results,Tryz.results187];go_simp
    ·exact⟨GK.out,.inr ⟨rP GI.out Ey.out (HX.out.elim (fun h=>h.2.2) (fun h=>by cases h.1)) (.inr fun h=>absurd (gK.out.mpr h) (by decide)),rfl⟩⟩
   ·obtain⟨wF,hF⟩:∃wF,wF=World.setCells w3 w.heap.size 0 [.int .u8 q.kind,.string q.file,.string q.text,.int .i64 q.hunk.at_,.slice y.h.oA q.hunk.old.length y.h.oc,.slice y.h.nA q.hunk.new.length y.h.nc,.int .u8 q.edit.kind,.slice y.e.pA q.edit.path.length y.e.pc,.int .i64 q.edit.at_,.int .i64 q.edit.far,.string q.edit.frm,.string q.edit.to,.slice y.e.oA q.edit.old.len y.e.oc,.slice y.e.nA q.edit.new.len y.e.nc]:=⟨_,rfl⟩;have hR:bP wF w.heap.size [.int .u8 q.kind,.string q.file,.string q.text,.int .i64 q.hunk.at_,.slice y.h.oA q.hunk.old.length y.h.oc,.slice y.h.nA q.hunk.new.length y.h.nc,.int .u8 q.edit.kind,.slice y.e.pA q.edit.path.length y.e.pc,.int .i64 q.edit.at_,.int .i64 q.edit.far,.string q.edit.frm,.string q.edit.to,.slice y.e.oA q.edit.old.len y.e.oc,.slice y.e.nA q.edit.new.len y.e.nc]:=by
     rw[hF];have:=uZ (OI.out w3 hB3) 0 [.int .u8 q.kind,.string q.file,.string q.text,.int .i64 q.hunk.at_,.slice y.h.oA q.hunk.old.length y.h.oc,.slice y.h.nA q.hunk.new.length y.h.nc,.int .u8 q.edit.kind,.slice y.e.pA q.edit.path.length y.e.pc,.int .i64 q.edit.at_,.int .i64 q.edit.far,.string q.edit.frm,.string q.edit.to,.slice y.e.oA q.edit.old.len y.e.oc,.slice y.e.nA q.edit.new.len y.e.nc] (by simp)
     simpa using this
    have GK:Hid (Below w.heap.size w wF):=hide (by rw[hF];exact D6 (aC _) _ 0 (oD.out.trans (hB3.mono oD.out.size)));have mM:Hid (bM (fun b=>w.heap.size≤b) wF y q):=hide (by rw[hF];exact((zu.out.below hB3).keep fun b hb=>jG w.heap.size (by omega) _ _ _).mono (S':=fun b=>w.heap.size≤b) fun b _ hb=>by omega);simp only[World.setCells,Nat.reduceAdd]at hF;have HR:=hide hR;clear hR;rw[←hF];clear hF;have g0:=HR.out 0 _ rfl;have g1:=HR.out 1 _ rfl;have g2:=HR.out 2 _ rfl;have g3:=HR.out 3 _ rfl;have g4:=HR.out 4 _ rfl;have g5:=HR.out 5 _ rfl;have g6:=HR.out 6 _ rfl;have g7:=HR.out 7 _ rfl;have g8:=HR.out 8 _ rfl;have g9:=HR.out 9 _ rfl;have g10:=HR.out 10 _ rfl;have g11:=HR.out 11 _ rfl;have g12:=HR.out 12 _ rfl;have g13:=HR.out 13 _ rfl;refine bodyPost_ret (v:= .tuple #[.agg #[.int .u8 q.kind,.string q.file,.string q.text,.int .i64 q.hunk.at_,.slice y.h.oA q.hunk.old.length y.h.oc,.slice y.h.nA q.hunk.new.length y.h.nc,.int .u8 q.edit.kind,.slice y.e.pA q.edit.path.length y.e.pc,.int .i64 q.edit.at_,.int .i64 q.edit.far,.string q.edit.frm,.string q.edit.to,.slice y.e.oA q.edit.old.len y.e.oc,.slice y.e.nA q.edit.new.len y.e.nc],.int .i64 0]) ?_ rfl ?_
    ·clear e0 e1 e2 e3 e4 e5 e6 e7 e8 e9 e10 e11 e12 e13 r0 r1 r2 r3 r4 r5 r6 r7 r8 r9 r10 r11 r12 r13;simp only[results,Tryz.results187];go_simp
    ·exact⟨GK.out,.inl ⟨q,y,GI.out,gK.out.mp trivial,by have:=HX.out.elim (fun h=>h.2.2) (fun h=>by cases h.1);simpa using this,rfl,mM.out⟩⟩
  ·go_wp2_with fail
   obtain⟨wF,hF⟩:∃wF,wF=World.setCells WX w.heap.size 0 [.int .u8 0,.string ⟨#[]⟩,.string ⟨#[]⟩,.int .i64 0,.slice none 0 0,.slice none 0 0,.int .u8 0,.slice none 0 0,.int .i64 0,.int .i64 0,.string ⟨#[]⟩,.string ⟨#[]⟩,.slice none 0 0,.slice none 0 0]:=⟨_,rfl⟩;have hR:bP wF w.heap.size [.int .u8 0,.string ⟨#[]⟩,.string ⟨#[]⟩,.int .i64 0,.slice none 0 0,.slice none 0 0,.int .u8 0,.slice none 0 0,.int .i64 0,.int .i64 0,.string ⟨#[]⟩,.string ⟨#[]⟩,.slice none 0 0,.slice none 0 0]:=by
    rw[hF];have:=uZ (OI.out WX hb0) 0 [.int .u8 0,.string ⟨#[]⟩,.string ⟨#[]⟩,.int .i64 0,.slice none 0 0,.slice none 0 0,.int .u8 0,.slice none 0 0,.int .i64 0,.int .i64 0,.string ⟨#[]⟩,.string ⟨#[]⟩,.slice none 0 0,.slice none 0 0] (by simp)
    simpa using this
   have GK:Hid (Below w.heap.size w wF):=hide (by rw[hF];exact D6 (aC _) _ 0 (oD.out.trans (hb0.mono oD.out.size)));have mM:Hid (bM (fun b=>w.heap.size≤b) wF y q):=hide (by rw[hF];exact((zu.out.below hb0).keep fun b hb=>jG w.heap.size (by omega) _ _ _).mono (S':=fun b=>w.heap.size≤b) fun b _ hb=>by omega);simp only[World.setCells,Nat.reduceAdd]at hF;have HR:=hide hR;clear hR;rw[←hF];clear hF;have g0:=HR.out 0 _ rfl;have g1:=HR.out 1 _ rfl;have g2:=HR.out 2 _ rfl;have g3:=HR.out 3 _ rfl;have g4:=HR.out 4 _ rfl;have g5:=HR.out 5 _ rfl;have g6:=HR.out 6 _ rfl;have g7:=HR.out 7 _ rfl;have g8:=HR.out 8 _ rfl;have g9:=HR.out 9 _ rfl;have g10:=HR.out 10 _ rfl;have g11:=HR.out 11 _ rfl;have g12:=HR.out 12 _ rfl;have g13:=HR.out 13 _ rfl;refine bodyPost_ret (v:= .tuple #[.agg #[.int .u8 0,.string ⟨#[]⟩,.string ⟨#[]⟩,.int .i64 0,.slice none 0 0,.slice none 0 0,.int .u8 0,.slice none 0 0,.int .i64 0,.int .i64 0,.string ⟨#[]⟩,.string ⟨#[]⟩,.slice none 0 0,.slice none 0 0],.int .i64 4]) ?_ rfl ?_
   ·clear e0 e1 e2 e3 e4 e5 e6 e7 e8 e9 e10 e11 e12 e13 r0 r1 r2 r3 r4 r5 r6 r7 r8 r9 r10 r11 r12 r13;simp only[results,Tryz.results187];go_simp
   ·exact⟨GK.out,.inr ⟨rP GI.out Ey.out (HX.out.elim (fun h=>h.2.2) (fun h=>by cases h.1)) (.inl (by simp)),rfl⟩⟩
 ·go_wp2_with fail
  obtain⟨wF,hF⟩:∃wF,wF=World.setCells WX w.heap.size 0 [.int .u8 0,.string ⟨#[]⟩,.string ⟨#[]⟩,.int .i64 0,.slice none 0 0,.slice none 0 0,.int .u8 0,.slice none 0 0,.int .i64 0,.int .i64 0,.string ⟨#[]⟩,.string ⟨#[]⟩,.slice none 0 0,.slice none 0 0]:=⟨_,rfl⟩;have hR:bP wF w.heap.size [.int .u8 0,.string ⟨#[]⟩,.string ⟨#[]⟩,.int .i64 0,.slice none 0 0,.slice none 0 0,.int .u8 0,.slice none 0 0,.int .i64 0,.int .i64 0,.string ⟨#[]⟩,.string ⟨#[]⟩,.slice none 0 0,.slice none 0 0]:=by
   rw[hF];have:=uZ (OI.out WX hb0) 0 [.int .u8 0,.string ⟨#[]⟩,.string ⟨#[]⟩,.int .i64 0,.slice none 0 0,.slice none 0 0,.int .u8 0,.slice none 0 0,.int .i64 0,.int .i64 0,.string ⟨#[]⟩,.string ⟨#[]⟩,.slice none 0 0,.slice none 0 0] (by simp)
   simpa using this
  have GK:Hid (Below w.heap.size w wF):=hide (by rw[hF];exact D6 (aC _) _ 0 (oD.out.trans (hb0.mono oD.out.size)));have mM:Hid (bM (fun b=>w.heap.size≤b) wF y q):=hide (by rw[hF];exact((zu.out.below hb0).keep fun b hb=>jG w.heap.size (by omega) _ _ _).mono (S':=fun b=>w.heap.size≤b) fun b _ hb=>by omega);simp only[World.setCells,Nat.reduceAdd]at hF;have HR:=hide hR;clear hR;rw[←hF];clear hF;have g0:=HR.out 0 _ rfl;have g1:=HR.out 1 _ rfl;have g2:=HR.out 2 _ rfl;have g3:=HR.out 3 _ rfl;have g4:=HR.out 4 _ rfl;have g5:=HR.out 5 _ rfl;have g6:=HR.out 6 _ rfl;have g7:=HR.out 7 _ rfl;have g8:=HR.out 8 _ rfl;have g9:=HR.out 9 _ rfl;have g10:=HR.out 10 _ rfl;have g11:=HR.out 11 _ rfl;have g12:=HR.out 12 _ rfl;have g13:=HR.out 13 _ rfl;refine bodyPost_ret (v:= .tuple #[.agg #[.int .u8 0,.string ⟨#[]⟩,.string ⟨#[]⟩,.int .i64 0,.slice none 0 0,.slice none 0 0,.int .u8 0,.slice none 0 0,.int .i64 0,.int .i64 0,.string ⟨#[]⟩,.string ⟨#[]⟩,.slice none 0 0,.slice none 0 0],.int .i64 4]) ?_ rfl ?_
  ·clear e0 e1 e2 e3 e4 e5 e6 e7 e8 e9 e10 e11 e12 e13 r0 r1 r2 r3 r4 r5 r6 r7 r8 r9 r10 r11 r12 r13;simp only[results,Tryz.results187];go_simp
  ·exact⟨GK.out,.inr ⟨HX.out.elim (fun h=>by cases h.1) (fun h=>h.2.resolve_left (by simp)),rfl⟩⟩
theorem Xr{l:List ByteArray}(h:l.length≠2):lineOf (aV::l)=none:=by
 rcases l with _|⟨repo,_|⟨t,_|⟨x,r⟩⟩⟩
 ·rfl
 ·rw[kY,jP (k:=9) (by simp[dP]),Option.bind_some];split<;>rfl
 ·exact absurd rfl h
 ·rw[kY,jP (k:=9) (by simp[dP]),Option.bind_some];split
  ·simp only[restOf,gp];split<;>rename_i h<;>simp[Option.map_eq_some_iff]at h<;>rfl
  ·rfl
theorem SH{l:List ByteArray}(h:l.length≠3):lineOf (ay::l)=none:=by
 rcases l with _|⟨repo,_|⟨n,_|⟨t,_|⟨x,r⟩⟩⟩⟩
 ·rfl
 ·rw[kY,jP (k:=2) (by simp[dP]),Option.bind_some];split<;>rfl
 ·rw[kY,jP (k:=2) (by simp[dP]),Option.bind_some];split<;>rfl
 ·exact absurd rfl h
 ·rw[kY,jP (k:=2) (by simp[dP]),Option.bind_some];split
  ·simp only[restOf,restRecord];by_cases hn:isWord n=true
   ·rw[if_pos hn];split<;>rename_i h<;>simp[Option.bind_eq_some_iff,Option.map_eq_some_iff]at h<;>rfl
   ·rw[if_neg hn]
  ·rfl
theorem Xt{repo t:ByteArray}:lineOf [aV,repo,t]=if isWord repo then(unhexL t.data.toList).map fun b=>⟨9,repo,ae,ae,ae,Pt.zero,b⟩else none:=by
 rw[kY,jP (k:=9) (by simp[dP]),Option.bind_some];simp only[restOf,gp];rcases unhexL t.data.toList with _|b<;>rfl
theorem SI{repo n t:ByteArray}:lineOf [ay,repo,n,t]=if isWord repo && isWord n then(unhexL t.data.toList).bind fun b=>(iM b).map fun p=>⟨2,repo,ae,n,ae,p,[]⟩else none:=by
 rw[kY,jP (k:=2) (by simp[dP]),Option.bind_some];simp only[restOf,restRecord];rcases isWord repo with _|_
 ·rfl
 ·rcases isWord n with _|_
  ·rfl
  ·rcases unhexL t.data.toList with _|b
   ·rfl
   ·simp only[Option.bind_some,Bool.and_self,if_true];rcases iM b with _|p<;>rfl
theorem Xu{f t:ByteArray}{mid:List ByteArray}(hf:f=ay∨f=aV)(h:unhexL t.data.toList=none∨mid.all isWord=false):lineOf (f::(mid++[t]))=none:=by
 rcases hf with rfl|rfl
 ·by_cases hl:mid.length=2
  ·rcases mid with _|⟨repo,_|⟨n,_|⟨x,r⟩⟩⟩
   ·cases hl
   ·cases hl
   ·rw[List.cons_append,List.cons_append,List.nil_append,SI];rcases h with h|h
    ·rw[h];split<;>rfl
    ·simp only[List.all_cons,List.all_nil,Bool.and_true]at h;rw[h];rfl
   ·simp at hl
  ·exact SH (by simp;omega)
 ·by_cases hl:mid.length=1
  ·rcases mid with _|⟨repo,_|⟨n,r⟩⟩
   ·cases hl
   ·rw[List.cons_append,List.nil_append,Xt];rcases h with h|h
    ·rw[h];split<;>rfl
    ·simp only[List.all_cons,List.all_nil,Bool.and_true]at h;rw[h];rfl
   ·simp at hl
  ·exact Xr (by simp;omega)
structure oJ(w:World)(g m k c:Nat)(f t:ByteArray)(mid:List ByteArray):Prop where
 at_:gX w g (f::(mid++[t]))
 lt:g<w.heap.size
 ek:k=mid.length+1
 em:m=mid.length+2
 mc:m≤c
 cm:c≤9223372036854775807
 mm:m≤1099511628
 sz :∀z∈mid,z.size≤1099511627776
 st:t.size≤1099511627
theorem oJ.last{w:World}{g m k c:Nat}{f t:ByteArray}{mid:List ByteArray}(h:oJ w g m k c f t mid):w.cell? ⟨g,k,none⟩=some (.string t):=h.at_ k t (by rw[h.ek,List.getElem?_cons_succ];simp)
theorem oJ.below{w w':World}{g m k c:Nat}{f t:ByteArray}{mid:List ByteArray}(h:oJ w g m k c f t mid)(hb:Below w.heap.size w w'):oJ w' g m k c f t mid :=
 ⟨h.at_.below h.lt hb,aH h.lt hb.size,h.ek,h.em,h.mc,h.cm,h.mm,h.sz,h.st⟩
theorem oJ.words{w:World}{g m k c:Nat}{f t:ByteArray}{mid:List ByteArray}(h:oJ w g m k c f t mid)(c2:Nat):
  Calls Tryz.prog 122 #[.slice (some ⟨g,1,none⟩) (k-1) c2] w fun e w'=>e = .returned (.bool (mid.all isWord))∧w=w':=by
 have e:k-1=mid.length:=by rw[h.ek];rfl
 rw[e];have hrd:Rd (fun _=>True) w (some ⟨g,1,none⟩) (mid.map .string):= .inr ⟨g,1,rfl,trivial,fun j u hu=>by
  rw[List.getElem?_map]at hu;obtain⟨s,hs,rfl⟩:=Option.map_eq_some_iff.1 hu;have hj:j<mid.length:=(List.getElem?_eq_some_iff.1 hs).1;exact h.at_ (1+j) s (by rw[Nat.add_comm,List.getElem?_cons_succ,List.getElem?_append_left hj];exact hs)⟩
 refine(ry hrd (by have:=h.mm;have:=h.em;omega) h.sz).mono ?_;rintro e w' ⟨rfl,rfl⟩;exact⟨rfl,rfl⟩
theorem OJ:(Tryz.prog.info? 43).map (·.size)=some 14:=by kernel_rfl
theorem SK(p:Pt)(x:Ph):(bU p x).toArray.all (·.oneCell')=true:=all_oneCell_toArray (cs:=bU p x) (by
 intro v hv;simp only[bU,List.mem_cons,List.not_mem_nil,or_false]at hv;rcases hv with rfl|rfl|rfl|rfl|rfl|rfl|rfl|rfl|rfl|rfl|rfl|rfl|rfl|rfl<;>rfl)
theorem SL{S:Nat→Prop}{w:World}{B:Nat}{A:Option Addr}{n:Nat}{b:List UInt8}(ho:w.ownsRow B 5 1 (.slice A b.length n) b.length (Lib.byteCells b))(hS :∀g,B≤g→S g):BytesIn S w A b∧b.length≤n∧n≤9223372036854775807:=by
 have h0:=NW ho;have hr:=JG h0 rfl;exact⟨⟨Fh h0 (fun g hg=>hS g (NY ho g hg)),aI hr.1 hr.2⟩,hr⟩
theorem zx{S:Nat→Prop}{w:World}{A:Option Addr}{c:Nat}{l:List UInt8}(hb:BytesIn S w A l)(hc:l.length≤c)(hc2:c≤9223372036854775807)(hl:l.length≤lid)(hp:iM l=none):
  Calls Tryz.prog 187 #[.slice A l.length c] w fun e w'=>e = .returned (.tuple #[.agg (bU Pt.zero Ph.zero).toArray,.int .i64 4])∧Below w.heap.size w w':=by
 refine(Xp hb hc hc2 hl).mono ?_;rintro e w' ⟨hB,⟨q,y,h1,h2,h3,_⟩|⟨_,rfl⟩⟩
 ·exact absurd ⟨q,h1,h2,h3⟩ (Uy hp)
 ·exact⟨rfl,hB⟩
theorem Xv{S:Nat→Prop}{w:World}{A:Option Addr}{c:Nat}{l:List UInt8}{p:Pt}(hb:BytesIn S w A l)(hc:l.length≤c)(hc2:c≤9223372036854775807)(hl:l.length≤lid)(hp:iM l=some p):
  Calls Tryz.prog 187 #[.slice A l.length c] w fun e w'=>∃y,e = .returned (.tuple #[.agg (bU p y).toArray,.int .i64 0])∧bM (fun b=>w.heap.size≤b) w' y p∧Below w.heap.size w w':=by
 obtain⟨h1,h2,h3⟩:=PI hp;refine(Xp hb hc hc2 hl).mono ?_;rintro e w' ⟨hB,⟨q,y,g1,g2,g3,rfl,g5⟩|⟨hn,_⟩⟩
 ·have e:q=p:=by
   have h4:=Uz g1 g2;rw[←g3,hp]at h4;injection h4 with h4;exact h4.symm
  subst e;exact⟨y,rfl,g5,hB⟩
 ·exact absurd ⟨p,h1,h2,h3⟩ hn
theorem zjo{w:World}{g m k c:Nat}{t:ByteArray}{mid:List ByteArray}(h:oJ w g m k c ay t mid){b:List UInt8}(hu:unhexL t.data.toList=some b)(hall:mid.all isWord=true)(hp:iM b=none):Calls Tryz.prog 121 #[.slice (some ⟨g,0,none⟩) m c] w (dL (ay::(mid++[t])) w):=by
 have hlo:lineOf (ay::(mid++[t]))=none:=by
  by_cases hl:mid.length=2
  ·rcases mid with _|⟨repo,_|⟨n,_|⟨x,r⟩⟩⟩
   ·cases hl
   ·cases hl
   ·rw[List.cons_append,List.cons_append,List.nil_append,SI,hu];split
    ·simp[hp]
    ·rfl
   ·simp at hl
  ·exact SH (by simp;omega)
 have iW:=hide hlo;have hbl:b.length≤lid:=by
  have h1:t.data.toList.length=t.size:=by rw[Array.length_toList];rfl
  have h2:=h.st;have h3:=congrArg List.length (ER _ _ hu);by_cases hb:b=[]
  ·subst hb;simp
  ·rw[hexL,if_neg hb,zZ]at h3;show b.length≤1099511627776;omega
 have HG:Hid (∀{A n} W,(BytesIn (fun _=>True) W A b∧b.length≤n∧n≤9223372036854775807)→Calls Tryz.prog 187 #[.slice A b.length n] W fun e w'=>e = .returned (.tuple #[.agg (bU Pt.zero Ph.zero).toArray,.int .i64 4])∧Below W.heap.size W w'):=hide fun W h=>zx h.1 h.2.1 h.2.2 hbl hp;have EC:Hid (∀W,oJ W g m k c ay t mid→W.cell? ⟨g,0,none⟩=some (.string {data:=#[114,101,99,111,114,100]})):=hide fun W hW=>hW.at_ 0 _ rfl;have hwk:IntKind.i64.wrap ((m:Int)-1)=(k:Int):=by have:=h.ek;have:=h.em;have:=h.mm;rw[IntKind.wrap_i64];omega
 have OL:k<m:=by have:=h.ek;have:=h.em;omega
 have hk1:1≤k:=by have:=h.ek;omega
 have hmc:=h.mc;have hcm:=h.cm;have kl:=h.last;have hst:=h.st;have HU:Hid (∀W,Calls Tryz.prog 186 #[.string t] W fun e w'=>∃v,e = .returned (.tuple #[v,.bool true])∧w'.ownsRow W.heap.size 5 1 v b.length (Lib.byteCells b)∧Below W.heap.size W w'):=hide fun W=>(IL t (by omega) W).mono fun e w' h=>by obtain⟨v,h1,h2⟩:=h.2.2 b hu;exact⟨v,h1,h2,h.1⟩
 have HZ0:=hide (lG w);have HH:=hide (h.below (az w (.cells ak.toArray 46)));have La:=((az w (.cells ak.toArray 46)).cell (p:=⟨g,k,none⟩) h.lt).trans kl;have aQ:=hide hall;clear hu hst kl hall;have hm2:2≤m:=by have:=h.em;omega
 clear hlo hp h hbl;rcases hm4:((m:Int) != 4)with _|_
 all_goals
  go_enter Tryz.func121,Tryz.ntmps121
  go_wp2_with(first
   | (go_at_call 186;(with_reducible refine(HU.out _).mono ?_);rintro e1 w1 ⟨v1,rfl,ho1,hB1⟩;obtain⟨A1,n1,rfl⟩:=jD ho1;have iI:=hide ho1;have HZ1:=hide (HZ0.out.next hB1);have mQ:=hide (HH.out.below hB1);have hg1:g<w1.heap.size:=mQ.out.lt;have HR1:=hide (SL (S:=fun _=>True) ho1 (fun _ _=>trivial));have k0:=EC.out _ mQ.out;clear ho1 hB1)
   | (go_at_call 122;(with_reducible refine(mQ.out.words _).mono ?_);rintro e2 w2 ⟨rfl,rfl⟩;rw[aQ.out])
   | (go_at_call 187;(with_reducible refine(HG.out _ HR1.out).mono ?_);rintro e3 w3 ⟨rfl,hB3⟩;have HZ3:=hide (HZ1.out.next hB3);have ED:=hide (mQ.out.below hB3);have hg3:g<w3.heap.size:=ED.out.lt;have HB3:=hide hB3;clear hB3)
   | (refine wpList_store_mid rfl _ _ _ rfl w3.heap.size 0 (bU Pt.zero Ph.zero).toArray rfl rfl (oI w3 lU _) OJ (SK Pt.zero Ph.zero) ?_;obtain⟨V,hV,hV1,hV2,gW⟩:=o5 w3 43 lU (bU Pt.zero Ph.zero) rfl;rw[←hV];have AB:=hide (HZ3.out.next hV2);have OM:=hide (ED.out.below hV2);have kW:=hide hV1;have kE:=hide hV2;have mW:=hide gW;clear hV hV1 hV2 gW)
   | (refine wpList_store_mid rfl _ _ _ rfl w.heap.size 0 ak.toArray rfl rfl AB.out.ct zag Ai ?_;obtain⟨X,hX,hX1,hX2,dQ,iH⟩:=AB.out.stored ak rfl;rw[←hX];have fE:=hide hX1;have fD:=hide dQ;clear hX hX1 hX2 dQ iH))
 all_goals refine bodyPost_ret (v:= .tuple #[.agg gV.toArray,.bool false]) (mX Tryz.results121 rfl rfl fE.out rfl) rfl ⟨fD.out,_,_,_,_,false,rfl,fun h=>(by cases h),fun h=>iW.out⟩
theorem zjp{w:World}{g m k c:Nat}{t:ByteArray}{mid:List ByteArray}(h:oJ w g m k c ay t mid){b:List UInt8}{p:Pt}(hu:unhexL t.data.toList=some b)(hall:mid.all isWord=true)(hp:iM b=some p)(hml:mid.length≠2):Calls Tryz.prog 121 #[.slice (some ⟨g,0,none⟩) m c] w (dL (ay::(mid++[t])) w):=by
 have iW:=hide (SH (l:=mid++[t]) (by simp;omega));have hm4:((m:Int) != 4)=true:=by have:=h.em;rw[bne_iff_ne];omega
 have hbl:b.length≤lid:=by
  have h1:t.data.toList.length=t.size:=by rw[Array.length_toList];rfl
  have h2:=h.st;have h3:=congrArg List.length (ER _ _ hu);by_cases hb:b=[]
  ·subst hb;simp
  ·rw[hexL,if_neg hb,zZ]at h3;show b.length≤1099511627776;omega
 have HG:Hid (∀{A n} W,(BytesIn (fun _=>True) W A b∧b.length≤n∧n≤9223372036854775807)→Calls Tryz.prog 187 #[.slice A b.length n] W fun e w'=>∃y,e = .returned (.tuple #[.agg (bU p y).toArray,.int .i64 0])∧bM (fun b=>W.heap.size≤b) w' y p∧Below W.heap.size W w'):=hide fun W h=>Xv h.1 h.2.1 h.2.2 hbl hp;have EC:Hid (∀W,oJ W g m k c ay t mid→W.cell? ⟨g,0,none⟩=some (.string {data:=#[114,101,99,111,114,100]})):=hide fun W hW=>hW.at_ 0 _ rfl;have hwk:IntKind.i64.wrap ((m:Int)-1)=(k:Int):=by have:=h.ek;have:=h.em;have:=h.mm;rw[IntKind.wrap_i64];omega
 have OL:k<m:=by have:=h.ek;have:=h.em;omega
 have hk1:1≤k:=by have:=h.ek;omega
 have hmc:=h.mc;have hcm:=h.cm;have kl:=h.last;have hst:=h.st;have HU:Hid (∀W,Calls Tryz.prog 186 #[.string t] W fun e w'=>∃v,e = .returned (.tuple #[v,.bool true])∧w'.ownsRow W.heap.size 5 1 v b.length (Lib.byteCells b)∧Below W.heap.size W w'):=hide fun W=>(IL t (by omega) W).mono fun e w' h=>by obtain⟨v,h1,h2⟩:=h.2.2 b hu;exact⟨v,h1,h2,h.1⟩
 have HZ0:=hide (lG w);have HH:=hide (h.below (az w (.cells ak.toArray 46)));have La:=((az w (.cells ak.toArray 46)).cell (p:=⟨g,k,none⟩) h.lt).trans kl;have aQ:=hide hall;clear hu hst kl hall;have hm2:2≤m:=by have:=h.em;omega
 clear hp h hbl hml;go_enter Tryz.func121,Tryz.ntmps121
 go_wp2_with(first
  | (go_at_call 186;(with_reducible refine(HU.out _).mono ?_);rintro e1 w1 ⟨v1,rfl,ho1,hB1⟩;obtain⟨A1,n1,rfl⟩:=jD ho1;have iI:=hide ho1;have HZ1:=hide (HZ0.out.next hB1);have mQ:=hide (HH.out.below hB1);have hg1:g<w1.heap.size:=mQ.out.lt;have HR1:=hide (SL (S:=fun _=>True) ho1 (fun _ _=>trivial));have k0:=EC.out _ mQ.out;clear ho1 hB1)
  | (go_at_call 122;(with_reducible refine(mQ.out.words _).mono ?_);rintro e2 w2 ⟨rfl,rfl⟩;rw[aQ.out])
  | (go_at_call 187;(with_reducible refine(HG.out _ HR1.out).mono ?_);rintro e3 w3 ⟨y,rfl,hP3,hB3⟩;have HZ3:=hide (HZ1.out.next hB3);have ED:=hide (mQ.out.below hB3);have hg3:g<w3.heap.size:=ED.out.lt;have Ot:=hide hP3;clear hP3;have HB3:=hide hB3;clear hB3)
  | (refine wpList_store_mid rfl _ _ _ rfl w3.heap.size 0 (bU p y).toArray rfl rfl (oI w3 lU _) OJ (SK p y) ?_;obtain⟨V,hV,hV1,hV2,gW⟩:=o5 w3 43 lU (bU p y) rfl;rw[←hV];have AB:=hide (HZ3.out.next hV2);have OM:=hide (ED.out.below hV2);have kW:=hide hV1;have kE:=hide hV2;have mW:=hide gW;clear hV hV1 hV2 gW)
  | (refine wpList_store_mid rfl _ _ _ rfl w.heap.size 0 ak.toArray rfl rfl AB.out.ct zag Ai ?_;obtain⟨X,hX,hX1,hX2,dQ,iH⟩:=AB.out.stored ak rfl;rw[←hX];have fE:=hide hX1;have fD:=hide dQ;clear hX hX1 hX2 dQ iH))
 refine bodyPost_ret (v:= .tuple #[.agg gV.toArray,.bool false]) (mX Tryz.results121 rfl rfl fE.out rfl) rfl ⟨fD.out,_,_,_,_,false,rfl,fun h=>(by cases h),fun h=>iW.out⟩
end
end Go.Proofs.YtjjaojnglnpgaaaGreatDoor
