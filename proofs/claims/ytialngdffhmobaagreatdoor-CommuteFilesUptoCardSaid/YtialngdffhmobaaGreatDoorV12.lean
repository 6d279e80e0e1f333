/- Part 13 of what commuteFiles_cardUpto rests on. -/
import Derived.Deep.RegionWith
import Derived.Laws.IdiomCopy
import Derived.Test.YtialngdffhmobaaGreatDoorV07
import Derived.Test.YtialngdffhmobaaGreatDoorV11
import Derived.Test.YtialngdffhmobaaGreatDoorV05
import Derived.Test.YtialngdffhmobaaGreatDoorV04
import Derived.Test.YtialngdffhmobaaGreatDoorV00
set_option linter.unusedVariables false
set_option linter.unusedSimpArgs false
set_option maxHeartbeats 16000000
set_option maxRecDepth 1000000
namespace Go.Proofs.YtialngdffhmobaaGreatDoor
section
open Go.RowKit
theorem vw{w:World}{e:TypeId}{n:Nat}{v:Value}{vs:List Value}(h:w.ownsRow 0 e 4 v n vs)(hn:0<n):
  ∃R cap,v = .slice (some ⟨R,0,none⟩) n cap∧(∀j u,vs[j]?=some u→w.cell? ⟨R,0+j,none⟩=some u)∧(∀o,w.frozen? ⟨R,o,none⟩=false)∧n≤cap∧cap≤9223372036854775807∧R<w.heap.size:=by
 rcases h.2 with⟨rfl,h0⟩|⟨g,cap,cur,rfl,hb,hgg,hnc,hcm,_⟩
 ·omega
 ·refine⟨g,cap,rfl,fun j u hu=>?_,fun o=>?_,hnc,by unfold maxLen at hcm;omega,(Array.getElem?_eq_some_iff.mp hgg).1⟩
  ·have:=h.cells (g:=g) rfl j u hu
   rwa [Addr.add_lit]at this
  ·unfold World.frozen?;rw[hgg];simp
theorem vz{f:Fo}(h:f.len=0):f = .nil:=by
 cases f with
 | nil=>rfl
 | cons=>simp[Fo.len]at h
theorem mX(w:World)(R a b c d:Nat)(x y z u:Value){k:Nat}(hk:k≠R):((((w.setCell ⟨R,a,none⟩ x).setCell ⟨R,b,none⟩ y).setCell ⟨R,c,none⟩ z).setCell ⟨R,d,none⟩ u).heap[k]?=w.heap[k]?:=by
 rw[Below.heap_setCell _ _ _ k hk,Below.heap_setCell _ _ _ k hk,Below.heap_setCell _ _ _ k hk,Below.heap_setCell _ _ _ k hk]
theorem vC(w:World)(R a b c d:Nat)(x y z u:Value)(q:Addr):((((w.setCell ⟨R,a,none⟩ x).setCell ⟨R,b,none⟩ y).setCell ⟨R,c,none⟩ z).setCell ⟨R,d,none⟩ u).frozen? q=w.frozen? q:=by
 rw[World.frozen?_setCell,World.frozen?_setCell,World.frozen?_setCell,World.frozen?_setCell]
theorem yj(w:World)(R p q:Nat)(x y z u:Value)(hq:q<p∨p+4≤q):((((w.setCell ⟨R,p,none⟩ x).setCell ⟨R,p+1,none⟩ y).setCell ⟨R,p+2,none⟩ z).setCell ⟨R,p+3,none⟩ u).cell? ⟨R,q,none⟩=w.cell? ⟨R,q,none⟩:=by
 rw[World.cell?_setCell_other _ _ _ _ (by simp<;>omega),World.cell?_setCell_other _ _ _ _ (by simp<;>omega),World.cell?_setCell_other _ _ _ _ (by simp<;>omega),World.cell?_setCell_other _ _ _ _ (by simp<;>omega)]
theorem oU{w:World}{R p:Nat}{x y z u a b c d:Value}(h0:w.cell? ⟨R,p,none⟩=some a)(h1:w.cell? ⟨R,p+1,none⟩=some b)(h2:w.cell? ⟨R,p+2,none⟩=some c)(h3:w.cell? ⟨R,p+3,none⟩=some d):
  ((((w.setCell ⟨R,p,none⟩ x).setCell ⟨R,p+1,none⟩ y).setCell ⟨R,p+2,none⟩ z).setCell ⟨R,p+3,none⟩ u).cell? ⟨R,p,none⟩=some x∧
  ((((w.setCell ⟨R,p,none⟩ x).setCell ⟨R,p+1,none⟩ y).setCell ⟨R,p+2,none⟩ z).setCell ⟨R,p+3,none⟩ u).cell? ⟨R,p+1,none⟩=some y∧
  ((((w.setCell ⟨R,p,none⟩ x).setCell ⟨R,p+1,none⟩ y).setCell ⟨R,p+2,none⟩ z).setCell ⟨R,p+3,none⟩ u).cell? ⟨R,p+2,none⟩=some z∧
  ((((w.setCell ⟨R,p,none⟩ x).setCell ⟨R,p+1,none⟩ y).setCell ⟨R,p+2,none⟩ z).setCell ⟨R,p+3,none⟩ u).cell? ⟨R,p+3,none⟩=some u:=by
 refine⟨?_,?_,?_,?_⟩
 ·rw[World.cell?_setCell_other _ _ _ _ (by simp),World.cell?_setCell_other _ _ _ _ (by simp),World.cell?_setCell_other _ _ _ _ (by simp)];exact World.cell?_setCell_same _ _ _ h0
 ·rw[World.cell?_setCell_other _ _ _ _ (by simp),World.cell?_setCell_other _ _ _ _ (by simp)];exact World.cell?_setCell_same _ _ _ ((World.cell?_setCell_other _ _ _ _ (by simp)).trans h1)
 ·rw[World.cell?_setCell_other _ _ _ _ (by simp)];exact World.cell?_setCell_same _ _ _ ((World.cell?_setCell_other _ _ _ _ (by simp)).trans ((World.cell?_setCell_other _ _ _ _ (by simp)).trans h2))
 ·exact World.cell?_setCell_same _ _ _ ((World.cell?_setCell_other _ _ _ _ (by simp)).trans ((World.cell?_setCell_other _ _ _ _ (by simp)).trans ((World.cell?_setCell_other _ _ _ _ (by simp)).trans h3)))
theorem fM.put4{S:Nat→Prop}{w:World}{R o i p k:Nat}{t:ByteArray}{n:Int}{ks r f:Fo}{KA:Option Addr}{c:Nat}(h:fM S w R o f)(hd:f.drop i = .cons k t n ks r)(hi:i<f.len)(hS :∀b,S b→b≠R)
  (h4:ks.len≤c) (h5:c≤9223372036854775807) (h6:bu S w KA ks) (hp:p=o+i*4):
  fM S ((((w.setCell ⟨R,p,none⟩ (.int .u8 k)).setCell ⟨R,p+1,none⟩ (.string t)).setCell ⟨R,p+2,none⟩ (.int .i64 n)).setCell ⟨R,p+3,none⟩ (.slice KA ks.len c)) R o f:=by
 subst hp;obtain⟨jW,c',k',t',n',kk,r',hd',d0,d1,d2,d3,_⟩:=h.at_ hi;obtain⟨s0,s1,s2,s3⟩:=oU (x:= .int .u8 k) (y:= .string t) (z:= .int .i64 n) (u:= .slice KA ks.len c) d0 d1 d2 d3;exact h.set (fun b hb _=>mX w R _ _ _ _ _ _ _ _ (hS b hb)) h4 h5 (h6.keep fun b hb=>mX w R _ _ _ _ _ _ _ _ (hS b hb)) hd (fun q hq=>yj w R _ q _ _ _ _ hq) s0 s1 s2 s3
theorem rU(b:Nat)(w:World):Calls Tryz.prog 272 #[.pointer (some ⟨b,0,none⟩),.slice none 0 0] w fun e w'=>e = .returned (.pointer (some ⟨b,0,none⟩))∧w'=w:=by
 go_enter Tryz.func272,Tryz.ntmps272
 go_wp2_with fail
 go_loopw [9,0] (fun i p wr=>i = .int .i64 0∧p = .pointer (some ⟨b,0,none⟩)∧wr=w) (fun _ _ _=>0)
 case atStart=>exact⟨rfl,rfl,rfl⟩
 case round =>
  obtain⟨rfl,rfl,rfl⟩:=hrel
  go_wp2_with fail
  go_ret;exact⟨rfl,rfl⟩
theorem Lu(w:World)(ob:Obj)(a b c d:Value)(t:TypeId):∀j u,[a,b,c,d][j]?=some u→((w.alloc ob).alloc (.cells #[a,b,c,d] t)).cell? ((⟨w.heap.size+1,0,none⟩:Addr).add j)=some u:=by
 intro j u hu;rw[Addr.add_lit,Nat.zero_add,World.cell?_alloc2_new]
 simpa using hu
theorem zN{e:TypeId}{size n:Nat}{w w':World}{v:Value}{xs:List Value}(h:w.ownsRow 0 e size v n xs)(hl :∀g,v.ownBlock=some g→g<w.heap.size)(hB:Below w.heap.size w w'):w'.ownsRow 0 e size v n xs:=by
 refine⟨h.1,?_⟩;rcases h.2 with⟨rfl,h0⟩|⟨g,cap,cur,rfl,hb,hg,hr⟩
 ·exact .inl ⟨rfl,h0⟩
 ·exact .inr ⟨g,cap,cur,rfl,hb,(hB.block g (hl g rfl)).trans hg,hr⟩
theorem Fo.take_next :∀{f:Fo} {i k:Nat} {t:ByteArray} {n:Int} {ks r:Fo},f.drop i = .cons k t n ks r→f.take (i+1)=(f.take i).app (.cons k t n ks .nil):=by
 intro f
 induction f with
 | nil=>intro i k t n ks r h;cases i<;>cases h
 | cons k' t' n' ks' r' _ ih =>
  intro i k t n ks r h;cases i with
  | zero=>cases h;cases r'<;>rfl
  | succ i=>simp only[Fo.take,Fo.app];rw[←ih (i:=i) h]
theorem Fo.take_whole :∀f:Fo,f.take f.len=f:=by
 intro f
 induction f with
 | nil=>rfl
 | cons k t n ks r _ ih=>simp only[Fo.len,Fo.take,ih]
theorem ED :∀{f:Fo} {i k:Nat} {t:ByteArray} {n:Int} {ks r:Fo},f.drop i = .cons k t n ks r→(fC ks).length≤(fC f).length:=by
 intro f
 induction f with
 | nil=>intro i k t n ks r h;cases i<;>cases h
 | cons k' t' n' ks' r' _ ih =>
  intro i k t n ks r h;cases i with
  | zero=>cases h;simp[fC];omega
  | succ i=>have:=ih (i:=i) h;simp[fC];omega
end
section
open Go.RowKit
section
variable {s : Nat} {E : TypeId} {mk : Nat → Nat → List Value} {B K : Nat} {vs : Nat → Value} {ns m m' : Nat → Nat} {T : Nat → Option Nat} {w w' : World}
theorem II{e n c g:Nat}:∀(us:List Value) (o:Nat) (w:World) (xs:List Value),w.ownsRow B e s (.slice (some ⟨g,0,none⟩) n c) n xs→o+us.length≤xs.length→
  (w.setCells g o us).ownsRow B e s (.slice (some ⟨g,0,none⟩) n c) n (xs.take o++(us++xs.drop (o+us.length)))∧w.grownBy (w.setCells g o us) (some g)
 | [],o,w,xs,h,_=>⟨by show w.ownsRow _ _ _ _ _ _;simpa using h,World.grownBy.refl _ _⟩
 | u::us,o,w,xs,h,hl=>by
  obtain⟨h1,h2⟩:=h.stored o u;simp only[List.length_cons]at hl;obtain⟨h3,h4⟩:=II us (o+1) _ _ h1 (by simp;omega);refine⟨?_,⟨h4.os.trans h2.os,h4.tape.trans h2.tape,h4.output.trans h2.output,aI h2.size h4.size,fun k hk hr=>(h4.block k (aH hk h2.size) hr).trans (h2.block k hk hr)⟩⟩;have ho:o<xs.length:=by omega
  have e1:(xs.set o u).take (o+1)=xs.take o++[u]:=by
   rw[List.set_eq_take_append_cons_drop,if_pos ho,show o+1=(xs.take o).length+1 by simp;omega,List.take_length_add_append];rfl
  have e2:(xs.set o u).drop (o+1+us.length)=xs.drop (o+(us.length+1)):=by
   rw[List.drop_set_of_lt (by omega),show o+1+us.length=o+(us.length+1)by omega]
  rw[e1,e2]at h3;simp only[List.append_assoc,List.cons_append,List.nil_append]at h3;exact h3
end
section
variable {s : Nat} {mk : Nat → Nat → List Value} {E E2 : TypeId} {w wr w' : World} {LB GB K B : Nat} {vs : Nat → Value} {ns p : Nat → Nat} {T0 T : Nat → Option Nat} {xs : List Value} {J : Nat → Prop}
end
end
section
open Go.RowKit
theorem wY{P:Program}{o:Oper}{a:Act}{w w':World}{s x:Operand}{t:TypeId}{v1 v2 r:Value}(hrun:(Builtin.append_ #[t,t] o.type #[v1,v2]).run P w = .ok r w')
  (hop:o.op=Op.call {callee:=Callee.builtin Builtin.append,args:=#[s,x],argTypes:=#[t,t]}) (h1:a.eval s=v1) (h2:a.eval x=v2):(execOp a.eval o).run P w = .ok (.value r) w':=by
 simp[execOp,hop,resolve,invoke,builtin,h1,h2,hrun,Result.andThen]
def Pushed(e:TypeId)(w:World)(v:Value)(n:Nat)(xs:List Value)(v':Value)(w':World):Prop :=
 w'.ownsRow 0 e 1 v' n xs∧w.grownBy w' v.ownBlock∧(v'.ownBlock=v.ownBlock∨v'.ownBlock=some w.heap.size)
theorem rV{w:World}{v u:Value}{n:Nat}{xs:List Value}{ad:Addr}(hown:w.ownsRow 0 3 1 v n xs)(hc:w.cell? (ad.add 0)=some u)(h1:u.oneCell'=true)(hn:n≤549755813888):
  ∃v' w',(Builtin.append_ #[27,27] 27 #[v,.slice (some ad) 1 1]).run Tryz.prog w = .ok v' w'∧Pushed 3 w v (n+1) (xs++[u]) v' w':=by
 obtain⟨i0,hi,hz0,hz1,hz2⟩:=info_parts GH;have hnews :∀j x,[u][j]?=some x→w.cell? (ad.add j)=some x:=by
  intro j x hx
  match j,hx with
  | 0,hx=>injection hx with hx;subst hx;exact hc
 have hone :∀x∈[u],x.oneCell'=true:=by intro x hx;simp at hx;subst hx;exact h1
 obtain⟨v',w',hr,h2,h3,h4⟩:=run_append_own (P:=Tryz.prog) w 0 27 27 3 i0 (.int .i64 0) 1 8 Tryz.underlying27 hi hz0 hz1 hz2 rfl (by decide) v n xs hown ad 1 1 [u] rfl hnews hone (by unfold maxLen;omega) (by omega) (Nat.zero_le _);have h5:=Ap w 27 27 3 i0 (.int .i64 0) 1 8 Tryz.underlying27 hi hz0 hz1 hz2 v n xs hown ad 1 1 [u] rfl hnews hone (by unfold maxLen;omega) (by omega) v' w' hr;exact⟨v',w',hr,h2,h3,h5⟩
theorem IJ{w:World}{v u:Value}{n:Nat}{xs:List Value}{ad:Addr}(hown:w.ownsRow 0 9 1 v n xs)(hc:w.cell? (ad.add 0)=some u)(h1:u.oneCell'=true)(hn:n≤549755813888):
  ∃v' w',(Builtin.append_ #[23,23] 23 #[v,.slice (some ad) 1 1]).run Tryz.prog w = .ok v' w'∧Pushed 9 w v (n+1) (xs++[u]) v' w':=by
 obtain⟨i0,hi,hz0,hz1,hz2⟩:=info_parts GI;have hnews :∀j x,[u][j]?=some x→w.cell? (ad.add j)=some x:=by
  intro j x hx
  match j,hx with
  | 0,hx=>injection hx with hx;subst hx;exact hc
 have hone :∀x∈[u],x.oneCell'=true:=by intro x hx;simp at hx;subst hx;exact h1
 obtain⟨v',w',hr,h2,h3,h4⟩:=run_append_own (P:=Tryz.prog) w 0 23 23 9 i0 (.string ByteArray.empty) 1 16 Tryz.underlying23 hi hz0 hz1 hz2 rfl (by decide) v n xs hown ad 1 1 [u] rfl hnews hone (by unfold maxLen;omega) (by omega) (Nat.zero_le _);have h5:=Ap w 23 23 9 i0 (.string ByteArray.empty) 1 16 Tryz.underlying23 hi hz0 hz1 hz2 v n xs hown ad 1 1 [u] rfl hnews hone (by unfold maxLen;omega) (by omega) v' w' hr;exact⟨v',w',hr,h2,h3,h5⟩
end
end Go.Proofs.YtialngdffhmobaaGreatDoor
