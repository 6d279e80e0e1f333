/- Part 4 of what scriptBack_cardUpto rests on. -/
import Derived.Lib.AppendStr
import Derived.Test.YtjjaojnglnpgaaaGreatDoorProg
import Derived.OwnWalk
import Derived.Laws.AppendOwn
import Derived.Laws.OwnMore
import Derived.Laws.IdiomStrings
import Derived.BigQuiet
import Derived.Deep.RegionWith
import Derived.Test.YtjjaojnglnpgaaaGreatDoorY01
import Derived.Test.YtjjaojnglnpgaaaGreatDoorY00
set_option linter.unusedVariables false
set_option linter.unusedSimpArgs false
set_option maxHeartbeats 16000000
set_option maxRecDepth 1000000
namespace Go.Proofs.YtjjaojnglnpgaaaGreatDoor
section
open Go.RowKit
section
variable {P : Program} {w : World} {ops : Array Oper} {rest : List Oper} {o : Oper} {a : Act} {K0 : Exit → Act → World → Prop}
def jL(w w':World)(v v':Value)(n m:Nat):Prop:=(∃A c,v = .slice A n c∧v' = .slice A (n+m) c)∨v'.ownBlock=some w.heap.size∧∀k,k<w.heap.size→w'.heap[k]?=w.heap[k]?
theorem LM(base:Nat)(t ty e:TypeId)(i:TypeInfo)(z:Value)(size bytes:Nat)(ht:P.underlying t=some (.slice e))(hi:P.info? e=some i)(hz:i.zero=some z)
  (hsize:i.size=size) (hby:i.bytes=bytes) (v:Value) (n:Nat) (xs:List Value) (hown:w.ownsRow base e size v n xs)
  (a:Addr) (m c:Nat) (news:List Value) (hl:news.length=m*size) (hnews :∀j u,news[j]?=some u→w.cell? (a.add j)=some u) (h1 :∀u∈news,u.oneCell'=true)
  (h63:n+m≤maxLen) (hbytes:(n+m)*bytes≤140737488355328) (v':Value) (w':World) (hrun:(Builtin.append_ #[t,t] ty #[v,.slice (some a) m c]).run P w = .ok v' w'):
  jL w w' v v' n m:=by
 subst hsize;subst hby;have hm:n+m≤9223372036854775807:=by simp only[maxLen]at h63;omega
 rcases hown.2 with⟨rfl,rfl⟩|⟨g,cap,cur,rfl,_,hg,hnc,hcm,hcs,htake⟩
 ·by_cases h0:m=0
  ·subst h0;have hn:news=[]:=List.eq_nil_of_length_eq_zero (by simpa using hl);have hr:(Builtin.append_ #[t,t] ty #[.slice none 0 0,.slice (some a) 0 c]).run P w = .ok (.slice none 0 0) w:=by
    simp[Builtin.append_,run_underlying ht,sizeOf,typeInfo,hi,Builtin.lenOf,Builtin.firstCells,loadCells,loadCellsFrom]
   rw[hr]at hrun;injection hrun with e1 e2;subst e1;exact .inl ⟨none,0,rfl,rfl⟩
  ·have hr:=run_append_nil (P:=P) w t ty e i z ht hi hz a m c news hl hnews (by omega) (by omega) (by have:=hbytes;simp only[Nat.zero_add]at this;omega);rw[hr]at hrun;injection hrun with e1 e2;subst e1;exact .inr ⟨rfl,fun k hk=>by rw[←e2];exact heap_alloc_old w.drew _ hk⟩
 ·by_cases hroom:n+m≤cap
  ·have hfit:n*i.size+news.length≤cur.size:=by rw[hl,hcs,←Nat.add_mul];exact Nat.mul_le_mul_right _ hroom
   have hr:=run_append_room (P:=P) w t ty e i ht hi g n cap cur hg a m c news hl hnews h1 hroom hfit;rw[hr]at hrun;injection hrun with e1 e2;subst e1;exact .inl ⟨_,_,rfl,rfl⟩
  ·have hr:=run_append_grow (P:=P) w t ty e i z ht hi hz ⟨g,0,none⟩ n cap xs hown.1 (hown.cells (g:=g) rfl) a m c news hl hnews (by omega) (by omega) (growslice_fits (by omega) hbytes);rw[hr]at hrun;injection hrun with e1 e2;subst e1;exact .inr ⟨rfl,fun k hk=>by rw[←e2];exact heap_alloc_old w.drew _ hk⟩
theorem BQ(hgd:o.guard=none)(s x:Operand)(t:TypeId)
  (ho:o.op = .call {callee:= .builtin .append,args:=#[s,x],argTypes:=#[t,t]})
  (base:Nat) (e:TypeId) {z:Value} {size bytes:Nat} (ht:P.underlying t=some (.slice e)) (hI:(P.info? e).map (fun i=>(i.zero,i.size,i.bytes))=some (some z,size,bytes)) (hzs:z.cells.size=size) (hsz:0<size)
  (v:Value) (n:Nat) (xs:List Value) (hs:a.eval s=v) (hown:w.ownsRow base e size v n xs)
  (B:Option Addr) (m c:Nat) (news:List Value) (hx:a.eval x = .slice B m c) (hB:B=none→m=0) (hl:news.length=m*size) (hnews :∀ad,B=some ad→∀j u,news[j]?=some u→w.cell? (ad.add j)=some u) (h1 :∀u∈news,u.oneCell'=true)
  (h63:n+m≤maxLen) (hbytes:(n+m)*bytes≤140737488355328) (hbase:base≤w.heap.size)
  (h :∀v' w',w'.ownsRow base e size v' (n+m) (xs++news)→w.grownBy w' v.ownBlock→jL w w' v v' n m→wpList P ops K0 rest (a.put o.dst v') w'):wpList P ops K0 (o::rest) a w:=by
 obtain⟨i,hi,hz,hsize,hby⟩:=info_parts hI;refine wpList_plain hgd fun K hK'=>?_;have key :∃v' w',(Builtin.append_ #[t,t] o.type #[v,.slice B m c]).run P w = .ok v' w'∧w'.ownsRow base e size v' (n+m) (xs++news)∧w.grownBy w' v.ownBlock∧jL w w' v v' n m:=by
  rcases B with _|ad
  ·have hm:=hB rfl;subst hm;have hu:news=[]:=List.length_eq_zero_iff.1 (by simpa using hl);subst hu;obtain⟨A,c',rfl⟩:=iw hown;exact⟨_,w,LG ht hi hown _,by simpa using hown,World.grownBy.refl _ _,.inl ⟨A,c',rfl,rfl⟩⟩
  ·obtain⟨v',w',hr,h2,h3,h4⟩:=run_append_own (P:=P) w base t o.type e i z size bytes ht hi hz hsize hby hzs hsz v n xs hown ad m c news hl (hnews ad rfl) h1 h63 hbytes hbase;exact⟨v',w',hr,h2,h3,LM base t o.type e i z size bytes ht hi hz hsize hby v n xs hown ad m c news hl (hnews ad rfl) h1 h63 hbytes v' w' hr⟩
 obtain⟨v',w',hr,h2,h3,h5⟩:=key;unfold Oper.wp;simp[execOp,ho,resolve,invoke,builtin,hs,hx,hr,Result.andThen];exact hK' _ _ (h v' w' h2 h3 h5)
end
end
section
open Go.RowKit
theorem Fj{α:Type}{l m:List α}{k:Nat}(h :∀j,j<k→l[j]?=m[j]?)(hk:l[k]?=m[k]?):∀j,j<k+1→l[j]?=m[j]?:=by
 intro j hj;rcases Nat.lt_or_ge j k with h1|h1
 ·exact h j h1
 ·obtain rfl:j=k:=by omega
  exact hk
theorem Fq{α:Type}{l m:List α}{k:Nat}(h :∀j,j<k→l[j]?=m[j]?)(hl:l.length=m.length)(hk :¬k<l.length):l=m:=by
 apply List.ext_getElem?;intro j;by_cases hj:j<k
 ·exact h j hj
 ·rw[List.getElem?_eq_none (by omega),List.getElem?_eq_none (by omega)]
theorem mX{s t:ByteArray}:(s.toList == t.toList)=true↔s=t:=by
 rw[beq_iff_eq,ByteArray.toList_eq,ByteArray.toList_eq];obtain⟨⟨a⟩⟩:=s;obtain⟨⟨b⟩⟩:=t;simp
theorem dW{s t:ByteArray}:s.toList=t.toList↔s=t:=by rw[←beq_iff_eq,mX]
theorem Fv{α:Type}{l m:List α}{k:Nat}{x y:α}(h1:l[k]?=some x)(h2:m[k]?=some y)(h:x≠y):l≠m:=by
 rintro rfl;rw[h1]at h2;exact h (by injection h2)
theorem tV{s t:ByteArray}(h:(!s.toList == t.toList)=true):s≠t:=by
 rintro rfl;simp at h
theorem nZ{s t:ByteArray}(h:(!s.toList == t.toList)=false):s=t:=mX.1 (by simpa using h)
theorem Fz{α:Type}{l m:List α}(h :¬l.length=m.length):l≠m:=by rintro rfl;exact h rfl
theorem QD{S S':Nat→Prop}{A A':Option Addr}{c c':Nat}{l m:List ByteArray}{w:World}(hl:bH S w A l)(hm:bH S' w A' m):
  Calls Tryz.prog 65 #[.slice A l.length c,.slice A' m.length c'] w fun e w'=>ag (l=m) e∧∃n,w'=w.drewN n:=by
 have hl3:=hl.2.2;have BR:=hm.2.2;have Hl:=hide hl.1;have Hm:=hide hm.1;clear hl hm;by_cases hn:l.length=m.length
 ·have hd:((l.length:Int) != (m.length:Int))=false:=by simp[hn]
  have Hn:=hide hn;clear hn;go_enter Tryz.func65,Tryz.ntmps65
  go_wp2
  go_loopw [5] (fun i wr=>∃k q:Nat,k≤l.length∧i = .int .i64 k∧wr=w.drewN q∧Hid (∀j,j<k→l[j]?=m[j]?)) (fun i _=>l.length-(intOf i).toNat)
  case atStart=>exact⟨0,0,Nat.zero_le _,rfl,rfl,hide (fun j h=>absurd h (by omega))⟩
  case round =>
   obtain⟨k,q,hk,rfl,rfl,hall⟩:=hrel;by_cases hlt:k<l.length
   ·obtain⟨b,o,rfl,h1⟩:=Hl.out.at_ (j:=k) (by simpa using hlt);obtain⟨b',o',rfl,h2⟩:=Hm.out.at_ (j:=k) (by have:=Hn.out;simp;omega);simp only[List.getElem_map]at h1 h2;have hlt2:k<m.length:=by have:=Hn.out;omega
    have e1:l[k]?=some l[k]:=by simp[hlt]
    have e2:m[k]?=some m[k]:=by simp[hlt2]
    have E1:=hide e1;have E2:=hide e2;clear e1 e2;generalize l[k]=s at h1 E1;generalize m[k]=s' at h2 E2
    go_wp2
    go_quiet (fail)
    go_wp2
    ·have ht:(!s.toList == s'.toList)=true:=by assumption
     go_ret;exact⟨ag.no (Fv E1.out E2.out (tV ht)),_,World.drewN_drewN _ _ _⟩
    ·have ht:(!s.toList == s'.toList)=false:=by assumption
     go_roundw
     case rel=>exact⟨k+1,_,by omega,by go_num,rfl,hide (Fj hall.out (by rw[E1.out,E2.out,nZ ht]))⟩
     case measure=>simp[intOf];omega
   ·go_wp2
    go_ret;exact⟨ag.yes (Fq hall.out Hn.out hlt),_,rfl⟩
 ·have hd:((l.length:Int) != (m.length:Int))=true:=by simp;omega
  have Hn:=hide hn;clear hn;go_enter Tryz.func65,Tryz.ntmps65
  go_wp2
  go_ret;exact⟨ag.no (Fz Hn.out),0,rfl⟩
theorem Vr{S S':Nat→Prop}{A A':Option Addr}{c c':Nat}{l m:List Int}{w:World}(hl:IntsIn S w A l)(hm:IntsIn S' w A' m):
  Calls Tryz.prog 207 #[.slice A l.length c,.slice A' m.length c'] w fun e w'=>ag (l=m) e∧∃n,w'=w.drewN n:=by
 have hl3:=hl.2.2;have BR:=hm.2.2;have Hl:=hide hl.1;have Hm:=hide hm.1;clear hl hm;by_cases hn:l.length=m.length
 ·have hd:((l.length:Int) != (m.length:Int))=false:=by simp[hn]
  have Hn:=hide hn;clear hn;go_enter Tryz.func207,Tryz.ntmps207
  go_wp2
  go_loopw [5] (fun i wr=>∃k q:Nat,k≤l.length∧i = .int .i64 k∧wr=w.drewN q∧Hid (∀j,j<k→l[j]?=m[j]?)) (fun i _=>l.length-(intOf i).toNat)
  case atStart=>exact⟨0,0,Nat.zero_le _,rfl,rfl,hide (fun j h=>absurd h (by omega))⟩
  case round =>
   obtain⟨k,q,hk,rfl,rfl,hall⟩:=hrel;by_cases hlt:k<l.length
   ·obtain⟨b,o,rfl,h1⟩:=Hl.out.at_ (j:=k) (by simpa using hlt);obtain⟨b',o',rfl,h2⟩:=Hm.out.at_ (j:=k) (by have:=Hn.out;simp;omega);simp only[List.getElem_map]at h1 h2;have hlt2:k<m.length:=by have:=Hn.out;omega
    have e1:l[k]?=some l[k]:=by simp[hlt]
    have e2:m[k]?=some m[k]:=by simp[hlt2]
    have E1:=hide e1;have E2:=hide e2;clear e1 e2;generalize l[k]=s at h1 E1;generalize m[k]=s' at h2 E2
    go_wp2
    go_quiet (fail)
    go_wp2
    ·have ht:(s != s')=true:=by assumption
     go_ret;exact⟨ag.no (Fv E1.out E2.out (by simpa using ht)),_,World.drewN_drewN _ _ _⟩
    ·have ht:(s != s')=false:=by assumption
     go_roundw
     case rel=>exact⟨k+1,_,by omega,by go_num,rfl,hide (Fj hall.out (by rw[E1.out,E2.out,(by simpa using ht:s=s')]))⟩
     case measure=>simp[intOf];omega
   ·go_wp2
    go_ret;exact⟨ag.yes (Fq hall.out Hn.out hlt),_,rfl⟩
 ·have hd:((l.length:Int) != (m.length:Int))=true:=by simp;omega
  have Hn:=hide hn;clear hn;go_enter Tryz.func207,Tryz.ntmps207
  go_wp2
  go_ret;exact⟨ag.no (Fz Hn.out),0,rfl⟩
theorem LP{S S':Nat→Prop}{A A':Option Addr}{c c':Nat}{l m:List ByteArray}{w:World}(hl:bH S w A l)(hm:bH S' w A' m):
  Calls Tryz.prog 215 #[.slice A l.length c,.slice A' m.length c'] w fun e w'=>ag (l=m) e∧∃n,w'=w.drewN n:=by
 have hl3:=hl.2.2;have BR:=hm.2.2;have Hl:=hide hl.1;have Hm:=hide hm.1;clear hl hm;by_cases hn:l.length=m.length
 ·have hd:((l.length:Int) != (m.length:Int))=false:=by simp[hn]
  have Hn:=hide hn;clear hn;go_enter Tryz.func215,Tryz.ntmps215
  go_wp2
  go_loopw [13,5] (fun i _ wr=>∃k q:Nat,k≤l.length∧i = .int .i64 k∧wr=w.drewN q∧Hid (∀j,j<k→l[j]?=m[j]?)) (fun i _ _=>l.length-(intOf i).toNat)
  case atStart=>exact⟨0,0,Nat.zero_le _,rfl,rfl,hide (fun j h=>absurd h (by omega))⟩
  case round =>
   obtain⟨k,q,hk,rfl,rfl,hall⟩:=hrel;by_cases hlt:k<l.length
   ·obtain⟨b,o,rfl,h1⟩:=Hl.out.at_ (j:=k) (by simpa using hlt);obtain⟨b',o',rfl,h2⟩:=Hm.out.at_ (j:=k) (by have:=Hn.out;simp;omega);simp only[List.getElem_map]at h1 h2;have hlt2:k<m.length:=by have:=Hn.out;omega
    have e1:l[k]?=some l[k]:=by simp[hlt]
    have e2:m[k]?=some m[k]:=by simp[hlt2]
    have E1:=hide e1;have E2:=hide e2;clear e1 e2;generalize l[k]=s at h1 E1;generalize m[k]=s' at h2 E2
    go_wp2
    go_quiet (fail)
    go_wp2
    ·have ht:(!s.toList == s'.toList)=true:=by assumption
     go_ret;exact⟨ag.no (Fv E1.out E2.out (tV ht)),_,World.drewN_drewN _ _ _⟩
    ·have ht:(!s.toList == s'.toList)=false:=by assumption
     go_roundw
     case rel=>exact⟨k+1,_,by omega,by go_num,rfl,hide (Fj hall.out (by rw[E1.out,E2.out,nZ ht]))⟩
     case measure=>simp[intOf];omega
   ·go_wp2
    go_ret;exact⟨ag.yes (Fq hall.out Hn.out hlt),_,rfl⟩
 ·have hd:((l.length:Int) != (m.length:Int))=true:=by simp;omega
  have Hn:=hide hn;clear hn;go_enter Tryz.func215,Tryz.ntmps215
  go_wp2
  go_ret;exact⟨ag.no (Fz Hn.out),0,rfl⟩
theorem Vs{S S':Nat→Prop}{A A':Option Addr}{c c':Nat}{l m:List Int}{w:World}(hl:IntsIn S w A l)(hm:IntsIn S' w A' m):
  Calls Tryz.prog 223 #[.slice A l.length c,.slice A' m.length c'] w fun e w'=>ag (l=m) e∧∃n,w'=w.drewN n:=by
 have hl3:=hl.2.2;have BR:=hm.2.2;have Hl:=hide hl.1;have Hm:=hide hm.1;clear hl hm;by_cases hn:l.length=m.length
 ·have hd:((l.length:Int) != (m.length:Int))=false:=by simp[hn]
  have Hn:=hide hn;clear hn;go_enter Tryz.func223,Tryz.ntmps223
  go_wp2
  go_loopw [13,5] (fun i _ wr=>∃k q:Nat,k≤l.length∧i = .int .i64 k∧wr=w.drewN q∧Hid (∀j,j<k→l[j]?=m[j]?)) (fun i _ _=>l.length-(intOf i).toNat)
  case atStart=>exact⟨0,0,Nat.zero_le _,rfl,rfl,hide (fun j h=>absurd h (by omega))⟩
  case round =>
   obtain⟨k,q,hk,rfl,rfl,hall⟩:=hrel;by_cases hlt:k<l.length
   ·obtain⟨b,o,rfl,h1⟩:=Hl.out.at_ (j:=k) (by simpa using hlt);obtain⟨b',o',rfl,h2⟩:=Hm.out.at_ (j:=k) (by have:=Hn.out;simp;omega);simp only[List.getElem_map]at h1 h2;have hlt2:k<m.length:=by have:=Hn.out;omega
    have e1:l[k]?=some l[k]:=by simp[hlt]
    have e2:m[k]?=some m[k]:=by simp[hlt2]
    have E1:=hide e1;have E2:=hide e2;clear e1 e2;generalize l[k]=s at h1 E1;generalize m[k]=s' at h2 E2
    go_wp2
    go_quiet (fail)
    go_wp2
    ·have ht:(s != s')=true:=by assumption
     go_ret;exact⟨ag.no (Fv E1.out E2.out (by simpa using ht)),_,World.drewN_drewN _ _ _⟩
    ·have ht:(s != s')=false:=by assumption
     go_roundw
     case rel=>exact⟨k+1,_,by omega,by go_num,rfl,hide (Fj hall.out (by rw[E1.out,E2.out,(by simpa using ht:s=s')]))⟩
     case measure=>simp[intOf];omega
   ·go_wp2
    go_ret;exact⟨ag.yes (Fq hall.out Hn.out hlt),_,rfl⟩
 ·have hd:((l.length:Int) != (m.length:Int))=true:=by simp;omega
  have Hn:=hide hn;clear hn;go_enter Tryz.func223,Tryz.ntmps223
  go_wp2
  go_ret;exact⟨ag.no (Fz Hn.out),0,rfl⟩
end
section
open Go.RowKit
def Buf(P:Nat→Prop)(wb:Nat)(w:World)(l:List UInt8):Prop :=
 ∃v,w.cell? ⟨wb,0,none⟩=some v∧w.frozen? ⟨wb,0,none⟩=false∧¬P wb∧(∀k,P k→k<w.heap.size)∧w.ownsRow 0 5 1 v l.length (bytesV l)∧
  (∀g,v.ownBlock=some g→g≠wb∧¬P g)∧(v = .slice none 0 0∨l≠[])
abbrev lid:Nat:=1099511627776
theorem Vt(w:World)(a:Addr)(u:Value):w.grownBy (w.setCell a u) (some a.block):=
 ⟨rfl,rfl,rfl,by simp[World.setCell],fun k _ hne=>Below.heap_setCell w a u k (fun e=>hne (by rw[e]))⟩
theorem QE(l m:List UInt8):bytesV (l++m)=bytesV l++bytesV m:=by simp[bytesV]
section
variable {P P' : Nat → Prop} {wb : Nat} {w : World} {l : List UInt8}
theorem Buf.lt(h:Buf P wb w l):wb<w.heap.size:=by
 obtain⟨v,h0,_⟩:=h;exact World.block_lt_of_cell? _ _ h0
theorem Buf.lts(h:Buf P wb w l):∀k,P k→k<w.heap.size:=by
 obtain⟨v,_,_,_,h3,_⟩:=h;exact h3
theorem Buf.mono(h:Buf P' wb w l)(hp :∀k,P k→P' k):Buf P wb w l:=by
 obtain⟨v,h0,h1,h2,h3,h4,h5,h6⟩:=h;exact⟨v,h0,h1,fun a=>h2 (hp _ a),fun k hk=>h3 k (hp k hk),h4,fun g hg=>⟨(h5 g hg).1,fun a=>(h5 g hg).2 (hp g a)⟩,h6⟩
theorem Buf.alloc(h:Buf P wb w l)(o:Obj):Buf P wb (w.alloc o) l:=by
 have hlt:=h.lt;obtain⟨v,h0,h1,h2,h3,h4,h5,h6⟩:=h;have hb:=az w o;exact⟨v,(hb.cell (p:=⟨wb,0,none⟩) hlt).trans h0,(hb.frozen (p:=⟨wb,0,none⟩) hlt).trans h1,h2,fun k hk=>aH (h3 k hk) hb.size,h4.alloc o,h5,h6⟩
theorem Buf.box(h:Buf P wb w l)(o:Obj):Buf (fun k=>P k∨k=w.heap.size) wb (w.alloc o) l:=by
 have hlt:=h.lt;have ha:=h.alloc o;obtain⟨v,h0,h1,h2,h3,h4,h5,h6⟩:=h;obtain⟨v',a0,a1,a2,a3,a4,a5,a6⟩:=ha;have hv:v'=v:=by
  have hb:=(az w o).cell (p:=⟨wb,0,none⟩) hlt;rw[a0,h0]at hb;injection hb
 subst hv;refine⟨v',a0,a1,fun e=>e.elim a2 (fun e=>by omega),fun k hk=>hk.elim (a3 k) (fun e=>by subst e;simp),a4,fun g hg=>⟨(a5 g hg).1,fun e=>e.elim (a5 g hg).2 (fun e=>?_)⟩,a6⟩;have:=(h4.lt g hg).2;omega
theorem Buf.drew(h:Buf P wb w l):Buf P wb w.drew l:=h
end
theorem FB:(Tryz.prog.info? 5).map (fun i=>(i.zero,i.size,i.bytes))=some (some (.int .u8 0),1,1):=by kernel_rfl
theorem LQ{P:Nat→Prop}{wb:Nat}{w:World}{l news:List UInt8}{b o c:Nat}(h:Buf P wb w l)(hn :∀j u,(bytesV news)[j]?=some u→w.cell? ((⟨b,o,none⟩:Addr).add j)=some u)(hlen:l.length+news.length≤lid):
  Calls Tryz.prog 176 #[.pointer (some ⟨wb,0,none⟩),.slice (some ⟨b,o,none⟩) news.length c] w fun e w'=>e = .returned (.tuple #[])∧Buf P wb w' (l++news)∧Keep P w w':=by
 have hlt:=h.lt;obtain⟨v,h0,hf,hB,hP,hown,hne,hnil0⟩:=h;obtain⟨i0,hi,hz0,hz1,hz2⟩:=info_parts FB;have LU:=hide hown;have Hn:=hide hn;obtain⟨A,c0,rfl⟩:=iw hown;have Jy:=hide hne;have FC:=hide hnil0;have HP:=hide hP;have LV:=hide hB;have ZQ:=hide hown.lt;clear hown hn hne hnil0 hP hB;go_enter Tryz.func176,Tryz.ntmps176
 go_wp2_with(at_builtin;refine Js _ rfl _ _ 44 rfl 5 i0 (.int .u8 0) 1 1 Tryz.underlying44 hi hz0 hz1 hz2 rfl (by decide) _ l.length (bytesV l) rfl LU.out ⟨b,o,none⟩ news.length c (bytesV news) rfl (by simp[bytesV]) Hn.out (by intro u hu;simp[bytesV]at hu;obtain⟨x,_,rfl⟩:=hu;rfl) (by unfold maxLen;simp only[lid]at hlen;omega) (by simp only[lid]at hlen;omega) ?_)
 intro v' w1 hown' hgrow hnil hown2;have k0:=hgrow.cell h0 (fun e=>(Jy.out _ e.symm).1 rfl);have k1:=(World.frozen?_of_block (a:=⟨wb,0,none⟩) (hgrow.block wb hlt (fun e=>(Jy.out _ e.symm).1 rfl))).trans hf;obtain⟨A',c',rfl⟩:=iw hown';have FD:=hide hgrow;have Az:=hide hown';have AA:=hide hnil;have FH:=hide hown2;clear hown' hgrow hnil hown2
 go_wp2
 go_end0
 have hne':(Value.slice A' (l.length+news.length) c').ownBlock≠some wb:=by
  intro e;by_cases h0':l.length+news.length=0
  ·have hl:l=[]:=List.eq_nil_of_length_eq_zero (by omega);have hn':news=[]:=List.eq_nil_of_length_eq_zero (by omega);have hv:=FC.out.resolve_right (fun hn=>hn hl);have h1:=AA.out;subst hl;subst hn';simp only[Value.slice.injEq]at hv;rw[h1.mpr ⟨⟨hv.1,rfl,hv.2.2⟩,rfl⟩]at e;cases e
  ·have hc:=Az.out.cells e 0;obtain⟨x,hx⟩:∃x,(bytesV l++bytesV news)[0]?=some (.int .u8 x):=by
    rw[←QE];cases hq:l++news with
    | nil=>rw[←aJ,hq]at h0';exact absurd rfl h0'
    | cons c r=>exact⟨_,rfl⟩
   have:=hc _ hx;rw[show((⟨wb,0,none⟩:Addr).add 0)=⟨wb,0,none⟩from rfl,k0]at this;cases this
 have hown2 :∀g,(Value.slice A' (l.length+news.length) c').ownBlock=some g→g≠wb∧¬P g:=by
  intro g hg;refine⟨fun e=>hne' (by rw[hg,e]),fun hp=>?_⟩;rcases FH.out with e|e
  ·rw[hg]at e;exact(Jy.out g e.symm).2 hp
  ·rw[hg]at e;injection e with e;have:=HP.out g hp;omega
 have hB1:Keep P w w1:=(Keep.refl P w).grown FD.out HP.out (fun k hk=>(Jy.out k hk).2);refine⟨rfl,⟨_,World.cell?_setCell_same _ _ _ k0,?_,LV.out,fun k hk=>aH (HP.out k hk) (hB1.setCell (a:=⟨wb,0,none⟩) LV.out _).size,?_,hown2,?_⟩,hB1.setCell LV.out _⟩
 ·rw[World.frozen?_setCell];exact k1
 ·rw[QE,aJ];exact Az.out.kept (Vt _ _ _) (.inr hne')
 ·by_cases h0':l++news=[]
  ·have hl:l=[]:=(List.append_eq_nil_iff.mp h0').1;have hn':news=[]:=(List.append_eq_nil_iff.mp h0').2;have hv:=FC.out.resolve_right (fun hn=>hn hl);have h1:=AA.out;subst hl;subst hn';simp only[Value.slice.injEq]at hv;exact .inl (h1.mpr ⟨⟨hv.1,rfl,hv.2.2⟩,rfl⟩)
  ·exact .inr h0'
theorem QF(w:World)(e:TypeId)(x:UInt8)(c:Int)(hx:c=(x.toNat:Int)):
  ∀j u,(bytesV [x])[j]?=some u→(w.alloc (.cells #[.int .u8 c] e)).cell? ((⟨w.heap.size,0,none⟩:Addr).add j)=some u:=by
 subst hx;exact cell_one_new w (.int .u8 x.toNat) e
theorem yz(n:Int)(j:Nat)(hj:j<8):IntKind.u64.wrap n / 2 ^ (56-8*j) % 256=(((au n)[j]' hj).toNat:Int):=by
 have hw:IntKind.u64.wrap n=n % 18446744073709551616:=by simp[IntKind.wrap,IntKind.bits,IntKind.signed]
 rw[hw]
 match j,hj with
 | 0,_=>simp[au];omega
 | 1,_=>simp[au];omega
 | 2,_=>simp[au];omega
 | 3,_=>simp[au];omega
 | 4,_=>simp[au];omega
 | 5,_=>simp[au];omega
 | 6,_=>simp[au];omega
 | 7,_=>simp[au];omega
theorem pW(n:Int)(j:Nat)(hj:j<8):(au n).take (j+1)=(au n).take j++[(au n)[j]' hj]:=by
 rw[List.take_succ_eq_append_getElem];rfl
theorem yA{P:Nat→Prop}{wb:Nat}{w:World}{l:List UInt8}{n:Int}(h:Buf P wb w l)(hn:aT n)(hlen:l.length+8≤lid):
  Calls Tryz.prog 178 #[.pointer (some ⟨wb,0,none⟩),.int .i64 n] w fun e w'=>e = .returned (.tuple #[])∧Buf P wb w' (l++au n)∧Keep P w w':=by
 have H:=hide h;unfold aT at hn;clear h;go_enter Tryz.func178,Tryz.ntmps178
 go_wp2_with fail
 go_loopw [4] (fun s wr=>∃j:Nat,j≤8∧s = .int .i64 (56-8*(j:Int))∧Hid (Buf P wb wr (l++(au n).take j))∧Hid (Keep P w wr)) (fun s _=>(intOf s+8).toNat)
 case atStart=>exact⟨0,by omega,rfl,hide (by simpa using H.out),hide (Keep.refl _ _)⟩
 case round =>
  obtain⟨j,hj,rfl,HB,HW⟩:=hrel;by_cases hlt:j<8
  ·go_wp2_with(go_at_call 176;refine(LQ (news:=[(au n)[j]' hlt]) (HB.out.alloc _) (QF _ _ _ _ (yz n j hlt)) (by simp[fD];omega)).mono ?_;rintro e w1 ⟨rfl,hb,hB⟩;have HB1:=hide hb;have HW1:=hide (HW.out.trans (((Keep.refl _ _).alloc HB.out.lts _).trans hB));clear hb hB)
   go_roundw
   case rel=>exact⟨j+1,by omega,by go_num,hide (by rw[pW n j hlt,←List.append_assoc];exact HB1.out),HW1⟩
   case measure=>simp[intOf];omega
  ·go_wp2_with fail
   go_end0
   have Vu:j=8:=by omega
   subst Vu;exact⟨rfl,by have:=HB.out;rwa [List.take_of_length_le (by rw[fD];omega)]at this,HW.out⟩
end
section
open Go.RowKit
theorem Vw{S S':Nat→Prop}{A A':Option Addr}{c c':Nat}{l m:List UInt8}{w:World}(hl:BytesIn S w A l)(hm:BytesIn S' w A' m):
  Calls Tryz.prog 66 #[.slice A l.length c,.slice A' m.length c'] w fun e w'=>ag (l=m) e∧∃n,w'=w.drewN n:=by
 have hl3:=hl.2;have BR:=hm.2;have Hl:=hide hl.1;have Hm:=hide hm.1;clear hl hm;by_cases hn:l.length=m.length
 ·have hd:((l.length:Int) != (m.length:Int))=false:=by simp[hn]
  have Hn:=hide hn;clear hn;go_enter Tryz.func66,Tryz.ntmps66
  go_wp2
  go_loopw [5] (fun i wr=>∃k q:Nat,k≤l.length∧i = .int .i64 k∧wr=w.drewN q∧Hid (∀j,j<k→l[j]?=m[j]?)) (fun i _=>l.length-(intOf i).toNat)
  case atStart=>exact⟨0,0,Nat.zero_le _,rfl,rfl,hide (fun j h=>absurd h (by omega))⟩
  case round =>
   obtain⟨k,q,hk,rfl,rfl,hall⟩:=hrel;by_cases hlt:k<l.length
   ·obtain⟨b,o,rfl,h1⟩:=Hl.out.at_ (j:=k) (by simpa[bytesV]using hlt);obtain⟨b',o',rfl,h2⟩:=Hm.out.at_ (j:=k) (by have:=Hn.out;simp[bytesV];omega);simp only[bytesV,List.getElem_map]at h1 h2;have hlt2:k<m.length:=by have:=Hn.out;omega
    have e1:l[k]?=some l[k]:=by simp[hlt]
    have e2:m[k]?=some m[k]:=by simp[hlt2]
    have E1:=hide e1;have E2:=hide e2;clear e1 e2;generalize l[k]=s at h1 E1;generalize m[k]=s' at h2 E2
    go_wp2
    go_quiet (fail)
    go_wp2
    ·have ht:((s.toNat:Int) != (s'.toNat:Int))=true:=by assumption
     go_ret;exact⟨ag.no (Fv E1.out E2.out (by intro e;subst e;simp at ht)),_,World.drewN_drewN _ _ _⟩
    ·have ht:((s.toNat:Int) != (s'.toNat:Int))=false:=by assumption
     go_roundw
     case rel=>exact⟨k+1,_,by omega,by go_num,rfl,hide (Fj hall.out (by rw[E1.out,E2.out,(UInt8.toNat_inj.mp (by simp at ht;omega):s=s')]))⟩
     case measure=>simp[intOf];omega
   ·go_wp2
    go_ret;exact⟨ag.yes (Fq hall.out Hn.out hlt),_,rfl⟩
 ·have hd:((l.length:Int) != (m.length:Int))=true:=by simp;omega
  have Hn:=hide hn;clear hn;go_enter Tryz.func66,Tryz.ntmps66
  go_wp2
  go_ret;exact⟨ag.no (Fz Hn.out),0,rfl⟩
theorem tX :∀c:Fin 256,(97≤(c.val ||| 32)∧(c.val ||| 32)≤122)↔((97≤c.val∧c.val≤122)∨(65≤c.val∧c.val≤90)):=by decide +kernel
theorem og(c:UInt8):bits .or .u8 (c.toNat:Int) 32=((c.toNat ||| 32:Nat):Int):=by
 have h :∀c:Fin 256,bits .or .u8 (c.val:Int) 32=((c.val ||| 32:Nat):Int):=by decide +kernel
 exact h ⟨c.toNat,c.toNat_lt⟩
theorem QG(c:UInt8):(97≤(c.toNat ||| 32)∧(c.toNat ||| 32)≤122)↔((97≤c.toNat∧c.toNat≤122)∨(65≤c.toNat∧c.toNat≤90)):=tX ⟨c.toNat,c.toNat_lt⟩
theorem QH(c:UInt8)(w:World):Calls Tryz.prog 255 #[.int .u8 c.toNat] w fun e w'=>ag (Letter c) e∧w=w':=by
 have h1:=og c;have h2:=hide (QG c);generalize c.toNat ||| 32=m at h1 h2;go_enter Tryz.func255,Tryz.ntmps255
 go_wp2
 all_goals go_ret
 all_goals exact⟨ag.mk (by have:=h2.out;unfold Letter;simp;try omega),rfl⟩
theorem pX(c:UInt8)(w:World):Calls Tryz.prog 258 #[.int .u8 c.toNat] w fun e w'=>ag (Letter c∨Digit c) e∧w=w':=by
 go_enter Tryz.func258,Tryz.ntmps258
 go_wp2_with(go_at_call 255;refine(QH c _).mono ?_;rintro e w' ⟨⟨b,rfl,hb⟩,rfl⟩;have Hb:=hide hb;clear hb)
 all_goals(go_ret;go_tidy;exact⟨ag.mk (by rw[←Hb.out];unfold Digit;simp[*];try omega),rfl⟩)
theorem Vx(c:UInt8)(w:World):Calls Tryz.prog 222 #[.int .u8 c.toNat] w fun e w'=>ag (fZ c) e∧w=w':=by
 have h1:=og c;have h2:=hide (QG c);generalize c.toNat ||| 32=m at h1 h2;go_enter Tryz.func222,Tryz.ntmps222
 go_wp2
 all_goals go_ret
 all_goals exact⟨ag.mk (by have:=h2.out;unfold fZ Digit;simp;try omega),rfl⟩
theorem QI{s:ByteArray}{P:UInt8→Prop}{k:Nat}(h :∀j,j<k→(h':j<s.size)→P (s[j]))(hk:k<s.size)(hp:P s[k]):∀j,j<k+1→(h':j<s.size)→P (s[j]):=by
 intro j hj h';rcases Nat.lt_or_ge j k with h1|h1
 ·exact h j h1 h'
 ·obtain rfl:j=k:=by omega
  exact hp
theorem QJ{s:ByteArray}{P:UInt8→Prop}{k:Nat}(h :∀j,j<k→(h':j<s.size)→P (s[j]))(hk :¬k<s.size):∀c∈s.data.toList,P c :=
 yt fun j h'=>h j (by omega) h'
theorem Vy{s:ByteArray}(h :∀c∈s.data.toList,fZ c):eu s↔1≤s.size∧s.size≤24:=by unfold eu;exact⟨fun h=>⟨h.1,h.2.1⟩,fun h'=>⟨h'.1,h'.2,h⟩⟩
theorem Jz(s:ByteArray)(w:World)(hs:s.size≤9223372036854775807):Calls Tryz.prog 174 #[.string s] w fun e w'=>ag (eu s) e∧w=w':=by
 go_enter Tryz.func174,Tryz.ntmps174
 go_wp2_with fail
 go_loop [7,4] (fun i _=>∃k:Nat,k≤s.size∧i = .int .i64 k∧Hid (∀j,(h:j<k)→(h':j<s.size)→fZ (s[j]))) (fun i _=>s.size-(intOf i).toNat)
 case atStart=>exact⟨0,Nat.zero_le _,rfl,hide (fun j h=>absurd h (by omega))⟩
 case round =>
  obtain⟨k,hk,rfl,hall⟩:=hrel;by_cases hlt:k<s.size
  ·go_wp2_with(go_at_call 222;refine(Vx s[k] _).mono ?_;rintro e w' ⟨⟨_|_,rfl,hb⟩,rfl⟩<;>(have Hb:=hide hb;clear hb))
   ·go_ret;exact⟨ag.no fun h=>(by simpa using Hb.out :¬fZ s[k]) (h.2.2 _ (nT s k hlt)),rfl⟩
   ·go_round
    case rel=>exact⟨k+1,by omega,by go_num,hide (QI hall.out hlt (by simpa using Hb.out))⟩
    case measure=>simp[intOf];omega
  ·have H:=hide (QJ hall.out hlt);clear hall
   go_wp2_with fail
   all_goals(go_ret;go_tidy;exact⟨ag.mk (by rw[Vy H.out];have hz:=lH s;clear H;grind),rfl⟩)
def gm(P:Prop)(e:Ending):Prop:=∃i:Int,e = .returned (.int .i64 i)∧-1≤i∧(0≤i↔P)
theorem gm.yes{P:Prop}{i:Int}(h:0≤i)(hp:P):gm P (.returned (.int .i64 i)):=⟨i,rfl,by omega,by simp[h,hp]⟩
theorem gm.no{P:Prop}(hp :¬P):gm P (.returned (.int .i64 (-1))):=⟨-1,rfl,by omega,by simp[hp]⟩
theorem LW{α:Type}{l:List α}{k:Nat}{x s:α}(h :∀j,j<k→l[j]?≠some x)(hk:l[k]?=some s)(hne:s≠x):∀j,j<k+1→l[j]?≠some x:=by
 intro j hj;rcases Nat.lt_or_ge j k with h1|h1
 ·exact h j h1
 ·obtain rfl:j=k:=by omega
  rw[hk];exact fun e=>hne (by injection e)
theorem LX{α:Type}{l:List α}{k:Nat}{x:α}(h :∀j,j<k→l[j]?≠some x)(hk :¬k<l.length):¬x∈l:=by
 intro hx;obtain⟨j,hj,rfl⟩:=List.getElem_of_mem hx;exact h j (by omega) (by simp)
theorem Vz{S:Nat→Prop}{A:Option Addr}{c:Nat}{l:List Int}{x:Int}{w:World}(hl:Rd S w A (l.map (.int .u8)))(hlen:l.length≤9223372036854775807):
  Calls Tryz.prog 309 #[.slice A l.length c,.int .u8 x] w fun e w'=>gm (x∈l) e∧w=w':=by
 have Hl:=hide hl;clear hl;go_enter Tryz.func309,Tryz.ntmps309
 go_wp2_with fail
 go_loop [8,5] (fun i _=>∃k:Nat,k≤l.length∧i = .int .i64 k∧Hid (∀j,j<k→l[j]?≠some x)) (fun i _=>l.length-(intOf i).toNat)
 case atStart=>exact⟨0,Nat.zero_le _,rfl,hide (fun j h=>absurd h (by omega))⟩
 case round =>
  obtain⟨k,hk,rfl,hall⟩:=hrel;by_cases hlt:k<l.length
  ·obtain⟨b,o,rfl,h1⟩:=Hl.out.at_ (j:=k) (by simpa using hlt);simp only[List.getElem_map]at h1;have E:=hide (show l[k]?=some l[k]by simp[hlt]);generalize l[k]=s at h1 E
   go_wp2_with fail
   ·have ht:(x == s)=true:=by assumption
    go_ret;exact⟨gm.yes (by omega) (List.mem_of_getElem? (E.out.trans (congrArg some (by simpa using ht:x=s).symm))),rfl⟩
   ·have ht:(x == s)=false:=by assumption
    go_round
    case rel=>exact⟨k+1,by omega,by go_num,hide (LW hall.out E.out (fun e=>by subst e;simp at ht))⟩
    case measure=>simp[intOf];omega
  ·go_wp2_with fail
   go_ret;exact⟨gm.no (LX hall.out hlt),rfl⟩
theorem VA{S:Nat→Prop}{A:Option Addr}{c:Nat}{l:List Int}{x:Int}{w:World}(hl:Rd S w A (l.map (.int .u8)))(hlen:l.length≤9223372036854775807):
  Calls Tryz.prog 304 #[.slice A l.length c,.int .u8 x] w fun e w'=>ag (x∈l) e∧w=w':=by
 have Hl:=hide hl;clear hl;go_enter Tryz.func304,Tryz.ntmps304
 go_wp2_with(go_at_call 309;refine(Vz Hl.out hlen).mono ?_;rintro e w' ⟨⟨i,rfl,hlo,hi⟩,rfl⟩;have Hi:=hide hi;clear hi)
 go_ret;exact⟨ag.mk (by rw[←Hi.out];simp),rfl⟩
theorem VB{S:Nat→Prop}{A:Option Addr}{c:Nat}{l:List ByteArray}{x:ByteArray}{w:World}(hl:Rd S w A (l.map .string))(hlen:l.length≤9223372036854775807):
  Calls Tryz.prog 280 #[.slice A l.length c,.string x] w fun e w'=>gm (x∈l) e∧w=w':=by
 have Hl:=hide hl;clear hl;go_enter Tryz.func280,Tryz.ntmps280
 go_wp2_with fail
 go_loop [8,5] (fun i _=>∃k:Nat,k≤l.length∧i = .int .i64 k∧Hid (∀j,j<k→l[j]?≠some x)) (fun i _=>l.length-(intOf i).toNat)
 case atStart=>exact⟨0,Nat.zero_le _,rfl,hide (fun j h=>absurd h (by omega))⟩
 case round =>
  obtain⟨k,hk,rfl,hall⟩:=hrel;by_cases hlt:k<l.length
  ·obtain⟨b,o,rfl,h1⟩:=Hl.out.at_ (j:=k) (by simpa using hlt);simp only[List.getElem_map]at h1;have E:=hide (show l[k]?=some l[k]by simp[hlt]);generalize l[k]=s at h1 E
   go_wp2_with fail
   ·have ht:(x.toList == s.toList)=true:=by assumption
    go_ret;exact⟨gm.yes (by omega) (List.mem_of_getElem? (E.out.trans (congrArg some (mX.1 ht).symm))),rfl⟩
   ·have ht:(x.toList == s.toList)=false:=by assumption
    go_round
    case rel=>exact⟨k+1,by omega,by go_num,hide (LW hall.out E.out (fun e=>by subst e;simp at ht))⟩
    case measure=>simp[intOf];omega
  ·go_wp2_with fail
   go_ret;exact⟨gm.no (LX hall.out hlt),rfl⟩
theorem QK{S:Nat→Prop}{A:Option Addr}{c:Nat}{l:List ByteArray}{x:ByteArray}{w:World}(hl:Rd S w A (l.map .string))(hlen:l.length≤9223372036854775807):
  Calls Tryz.prog 256 #[.slice A l.length c,.string x] w fun e w'=>ag (x∈l) e∧w=w':=by
 have Hl:=hide hl;clear hl;go_enter Tryz.func256,Tryz.ntmps256
 go_wp2_with(go_at_call 280;refine(VB Hl.out hlen).mono ?_;rintro e w' ⟨⟨i,rfl,hlo,hi⟩,rfl⟩;have Hi:=hide hi;clear hi)
 go_ret;exact⟨ag.mk (by rw[←Hi.out];simp),rfl⟩
def cnt:List ByteArray→Int→Int→Int
 | [],_,n=>n
 | s::r,m,n=>if n≤m then cnt r m (wrap64 (n+wrap64 ((s.size:Int) / 8)))else n
theorem tY{l:List ByteArray}{q:Nat}{m n r:Int}(hq:q<l.length)(h:cnt (l.drop q) m n=r)(hn:n≤m):cnt (l.drop (q+1)) m (wrap64 (n+wrap64 ((l[q].size:Int) / 8)))=r:=by
 rw[List.drop_eq_getElem_cons hq]at h;unfold cnt at h
 rwa [if_pos hn]at h
theorem QL{l:List ByteArray}{q:Nat}{m n r:Int}(h:cnt (l.drop q) m n=r)(hn :¬(q<l.length∧n≤m)):n=r:=by
 by_cases hq:q<l.length
 ·rw[List.drop_eq_getElem_cons hq]at h;unfold cnt at h
  rwa [if_neg (fun e=>hn ⟨hq,e⟩)]at h
 ·rw[List.drop_eq_nil_of_le (by omega)]at h;exact h
theorem QM{S:Nat→Prop}{A:Option Addr}{c:Nat}{l:List ByteArray}{w:World}{m:Int}(hl:bH S w A l):
  Calls Tryz.prog 18 #[.slice A l.length c,.int .i64 m] w fun e w'=>e = .returned (.int .i64 (cnt l m l.length))∧w=w':=by
 have Hl:=hide hl;have hlen:l.length≤9223372036854775807:=hl.2.2;clear hl;go_enter Tryz.func18,Tryz.ntmps18
 go_wp2_with fail
 go_loopw [5,6] (fun v i wr=>∃(q:Nat) (n:Int),q≤l.length∧i = .int .i64 q∧v = .int .i64 n∧Hid (cnt (l.drop q) m n=cnt l m l.length)∧w=wr) (fun _ i _=>l.length-(intOf i).toNat)
 case atStart=>exact⟨0,l.length,Nat.zero_le _,rfl,rfl,hide rfl,rfl⟩
 case round =>
  obtain⟨q,n,hq,rfl,rfl,Hn,rfl⟩:=hrel;by_cases hlt:q<l.length
  ·obtain⟨b,o,rfl,hc⟩:=Hl.out.1.at_ (j:=q) (by simpa using hlt);simp only[List.getElem_map]at hc;by_cases hnm:n≤m
   ·have Hs:=hide (tY hlt Hn.out hnm)
    go_wp2_with fail
    go_roundw
    case rel=>exact⟨q+1,_,by omega,by go_num,rfl,Hs,(by first|rfl|trivial)⟩
    case measure=>simp[intOf];omega
   ·have hs:=hide (QL Hn.out (fun e=>hnm e.2))
    go_wp2_with fail
    go_ret;exact⟨by rw[←hs.out];rfl,rfl⟩
  ·have hs:=hide (QL Hn.out (fun e=>hlt e.1))
   go_wp2_with fail
   go_ret;exact⟨by rw[←hs.out];rfl,rfl⟩
end
end Go.Proofs.YtjjaojnglnpgaaaGreatDoor
