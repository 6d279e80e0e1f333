/- Part 8 of what scriptBack_cardUpto rests on. -/
import Derived.Test.YtjjaojnglnpgaaaGreatDoorShelf
import Derived.Deep.RegionWith
import Derived.Test.YtjjaojnglnpgaaaGreatDoorY03
import Derived.Test.YtjjaojnglnpgaaaGreatDoorY06
import Derived.Test.YtjjaojnglnpgaaaGreatDoorY00
set_option linter.unusedVariables false
set_option linter.unusedSimpArgs false
set_option maxHeartbeats 16000000
set_option maxRecDepth 1000000
namespace Go.Proofs.YtjjaojnglnpgaaaGreatDoor
section
open Go.RowKit
def ax (w : World) : Prop := 5 < w.heap.size ∧ Lib.TabIs Tryz.prog w "strings.asciiSpace" .u8 Lib.asciiSpaceTab
theorem ax.below{w w':World}(h:ax w)(hb:Below w.heap.size w w'):ax w' :=
 ⟨aH h.1 hb.size,var?_below hb (by kernel_rfl) h.1 h.2⟩
def txt(l:List UInt8):ByteArray:=⟨l.toArray⟩
def jU(l:List (List UInt8)):List ByteArray:=l.map txt
theorem Ry{l:List (List UInt8)}{s:ByteArray}:s∈jU l↔s.data.toList∈l:=by
 unfold jU;rw[List.mem_map];constructor
 ·rintro⟨x,hx,rfl⟩
  simpa[txt]using hx
 ·intro h;exact⟨_,h,by simp[txt]⟩
def kL(ws:List (List UInt8))(w:World)(e:Ending)(w':World):Prop :=
 ∃A c,e = .returned (.slice A (jU ws).length c)∧Rd (fun _=>True) w' A ((jU ws).map .string)∧Below w.heap.size w w'
theorem Rz(s:List UInt8)(ws:List (List UInt8))(w:World)(ht:ax w)(hf:Lib.fields s=ws)(hs:s.length<4294967281)(ha :∀b∈s,b.toNat<128):
  Calls Tryz.prog 281 #[.string ⟨s.toArray⟩] w (kL ws w):=by
 refine(Tryz.strings_Fields ⟨s.toArray⟩ w (by simpa[ByteArray.size]using hs) (fun j b hb=>ha b (List.mem_of_getElem? hb)) ht.2).mono ?_;rintro e w' ⟨rfl,rfl⟩;have e1:(Lib.fields (List.toArray s).toList)=ws:=by simpa using hf
 simp only[e1];refine⟨some ⟨w.heap.size,0,none⟩,ws.length,by simp[jU],?_,az _ _⟩;have:=ED (S:=fun _=>True) (w:=w) (cs:=(jU ws).map .string) (t:=9) trivial
 simpa[jU,txt,Function.comp_def]using this
theorem qF(w:World)(ht:ax w):Calls Tryz.prog 257 #[] w (kL words w):=by
 have H:Hid (ax w):=ht;clear ht;go_enter Tryz.func257,Tryz.ntmps257
 go_wp2_with(go_at_call 281;refine(Rz _ words _ H.out (by decide +kernel) (by decide) (by decide)).mono ?_;rintro e w' ⟨A,c,rfl,hr,hb⟩;have Hr:=hide hr;have Hb:=hide hb;clear hr hb)
 go_ret;exact⟨A,c,rfl,Hr.out,Hb.out⟩
theorem Wn{s:ByteArray}(h:0<s.size):dK s↔s.size≤24∧Letter (s[0])∧s∉jU words∧∀c∈s.data.toList,Letter c∨Digit c:=by
 unfold dK;rw[Ry];obtain⟨⟨l⟩⟩:=s;cases l with
 | nil=>simp[ByteArray.size]at h
 | cons c l =>
  have:(⟨(c::l).toArray⟩:ByteArray)[0]=c:=rfl;rw[this];simp
theorem Wp{s:ByteArray}(h :¬0<s.size):¬dK s:=by
 rintro⟨_,⟨c,l,hc,_⟩,_⟩;apply h;have:s.data.toList.length=s.size:=by simp
 rw[hc]at this;simp at this;omega
theorem iZ(s:ByteArray)(w:World)(hs:s.size≤9223372036854775807)(ht:ax w):Calls Tryz.prog 219 #[.string s] w fun e w'=>ag (dK s) e∧Below w.heap.size w w':=by
 have Ht:Hid (ax w):=ht;clear ht;have hz:=hide (lH s);by_cases h0:0<s.size
 ·have hne :¬s.toList=[]:=by rw[lH];omega
  have hne2:s.toList.isEmpty=false:=by simpa using hne
  by_cases h1:s.size≤24
  ·have yZ:=hide (Wn h0);go_enter Tryz.func219,Tryz.ntmps219
   go_wp2_with(first
    | (go_at_call 255;refine(QH s[0] _).mono ?_;rintro e w1 ⟨⟨_|_,rfl,hb⟩,rfl⟩<;>(have Hb:=hide hb;clear hb))
    | (go_at_call 257;refine(qF _ Ht.out).mono ?_;rintro e w1 ⟨A,c,rfl,hr,hb⟩;have Hr:=hide hr;have HB:=hide hb;clear hr hb)
    | (go_at_call 256;refine(QK (l:=jU words) (x:=s) Hr.out (by decide)).mono ?_;rintro e w2 ⟨⟨_|_,rfl,hb⟩,rfl⟩<;>(have Hc:=hide hb;clear hb)))
   ·go_ret;exact⟨ag.no fun h=>(by simpa using Hb.out :¬Letter s[0]) (yZ.out.1 h).2.1,Below.refl _ _⟩
   ·go_loop [24,3] (fun i _=>∃k:Nat,k≤s.size∧i = .int .i64 k∧Hid (∀j,(h:j<k)→(h':j<s.size)→Letter (s[j])∨Digit (s[j]))) (fun i _=>s.size-(intOf i).toNat)
    case atStart=>exact⟨0,Nat.zero_le _,rfl,hide (fun j h=>absurd h (by omega))⟩
    case round =>
     obtain⟨k,hk,rfl,hall⟩:=hrel;by_cases hlt:k<s.size
     ·go_wp2_with(go_at_call 258;refine(pX s[k] _).mono ?_;rintro e w' ⟨⟨_|_,rfl,hb⟩,rfl⟩<;>(have Hd:=hide hb;clear hb))
      ·go_ret;exact⟨ag.no fun h=>(by simpa using Hd.out :¬(Letter s[k]∨Digit s[k])) ((yZ.out.1 h).2.2.2 _ (nT s k hlt)),HB.out⟩
      ·go_round
       case rel=>exact⟨k+1,by omega,by go_num,hide (QI (P:=fun c=>Letter c∨Digit c) hall.out hlt (by simpa using Hd.out))⟩
       case measure=>simp[intOf];omega
     ·have H:=hide (QJ (P:=fun c=>Letter c∨Digit c) hall.out hlt);clear hall
      go_wp2_with fail
      go_ret;exact⟨ag.yes (yZ.out.2 ⟨h1,by simpa using Hb.out,by simpa using Hc.out,H.out⟩),HB.out⟩
   ·go_ret;exact⟨ag.no fun h=>(yZ.out.1 h).2.2.1 (by simpa using Hc.out),HB.out⟩
  ·go_enter Tryz.func219,Tryz.ntmps219
   go_wp2_with fail
   go_ret;exact⟨ag.no fun h=>h1 h.1,Below.refl _ _⟩
 ·have he:s.toList=[]:=by rw[lH];omega
  go_enter Tryz.func219,Tryz.ntmps219
  go_wp2_with fail
  go_ret;exact⟨ag.no (Wp h0),Below.refl _ _⟩
def jF(k o:Nat):Prop:=(o=200∧Expr k)∨(o=201∧Stmt k)∨(o=202∧(k=22∨k=26))∨(o<200∧k=o)∨(202<o∧k=o)
theorem uS(k o:Nat)(w:World):Calls Tryz.prog 298 #[.int .u8 k,.int .u8 o] w fun e w'=>ag (jF k o) e∧w=w':=by
 go_enter Tryz.func298,Tryz.ntmps298
 go_wp2
 all_goals(go_ret;go_tidy;exact⟨ag.mk (by unfold jF Expr Stmt;grind),rfl⟩)
theorem CG{S:Nat→Prop}{w:World}{cs:List Value}{t:TypeId}(hS:S w.heap.size):Rd S (w.alloc (.cells cs.toArray t)) (some ⟨w.heap.size,0,none⟩) cs:=ED hS
theorem qG(k:Nat)(w:World):Calls Tryz.prog 297 #[.int .u8 k] w fun e w'=>ag (Named k) e∧Below w.heap.size w w':=by
 go_enter Tryz.func297,Tryz.ntmps297
 go_wp2_with(go_at_call 304;refine(VA (S:=fun _=>True) (l:=[2,4,6,22,25]) (x:=(k:Int)) (CG trivial) (by simp)).mono ?_;rintro e w' ⟨⟨b,rfl,hb⟩,rfl⟩;have Hb:=hide hb;clear hb)
 go_ret;exact⟨ag.mk (by rw[Hb.out];unfold Named;simp;omega),az _ _⟩
theorem CJ{p:Nat}{k':Int}{ks:List Int}{all:Bool}(h:kindRow p=some (k',ks,all)):(k',ks,all)∈dE∧k'=p:=by
 unfold kindRow at h;have h1:=List.mem_of_find?_eq_some h;have h2:=List.find?_some h;simp at h2;exact⟨h1,h2.symm⟩
theorem RD{p:Nat}(h:kindRow p=none):∀r∈dE,r.1≠p:=by
 unfold kindRow at h;rw[List.find?_eq_none]at h;intro r hr e;exact h r hr (by simp[e])
theorem CO(p:Nat):nS p↔(kindRow p).isSome=true:=by
 cases h:kindRow p with
 | none =>
  have:=RD h;simp[dE]at this;unfold nS Expr;simp;omega
 | some x =>
  obtain⟨k',ks,all⟩:=x;obtain⟨h1,rfl⟩:=CJ h;simp[dE]at h1;unfold nS Expr;simp;omega
theorem qH{p:Nat}(h:kindRow p=none)(k i:Nat):¬aX p k i:=by
 have:=RD h;simp[dE]at this;unfold aX many;intro hf;have:=hf.1 0;rw[if_neg (by omega),if_neg (by omega),if_neg (by omega),if_neg (by omega)]at this;exact absurd (this rfl) (by omega)
theorem MZ{p:Nat}{k':Int}{ks:List Int}{all:Bool}(h:kindRow p=some (k',ks,all))(k i:Nat):
  aX p k i↔if all then∃o:Nat,ks[0]?=some (o:Int)∧jF k o else∃o:Nat,ks[i]?=some (o:Int)∧jF k o:=by
 obtain⟨h1,rfl⟩:=CJ h;clear h;simp[dE]at h1;rcases h1 with⟨hp,rfl,rfl⟩|⟨hp,rfl,rfl⟩|⟨hp,rfl,rfl⟩|⟨hp,rfl,rfl⟩|⟨hp,rfl,rfl⟩|⟨hp,rfl,rfl⟩|⟨hp,rfl,rfl⟩|⟨hp,rfl,rfl⟩|⟨hp,rfl,rfl⟩|⟨hp,rfl,rfl⟩|⟨hp,rfl,rfl⟩|⟨hp,rfl,rfl⟩|⟨hp,rfl,rfl⟩|⟨hp,rfl,rfl⟩|⟨hp,rfl,rfl⟩|⟨hp,rfl,rfl⟩|⟨hp,rfl,rfl⟩|⟨hp,rfl,rfl⟩|⟨hp,rfl,rfl⟩|⟨hp,rfl,rfl⟩|⟨hp,rfl,rfl⟩|⟨hp,rfl,rfl⟩
 ·obtain rfl:p=1:=by omega
  rcases i with _|_|_|i<;>simp[aX,many,jF,Stmt,Expr]<;>grind
 ·obtain rfl:p=2:=by omega
  rcases i with _|_|_|i<;>simp[aX,many,jF,Stmt,Expr]<;>grind
 ·obtain rfl:p=3:=by omega
  rcases i with _|_|_|i<;>simp[aX,many,jF,Stmt,Expr]<;>grind
 ·obtain rfl:p=4:=by omega
  rcases i with _|_|_|i<;>simp[aX,many,jF,Stmt,Expr]<;>grind
 ·obtain rfl:p=5:=by omega
  rcases i with _|_|_|i<;>simp[aX,many,jF,Stmt,Expr]<;>grind
 ·obtain rfl:p=6:=by omega
  rcases i with _|_|_|i<;>simp[aX,many,jF,Stmt,Expr]<;>grind
 ·obtain rfl:p=7:=by omega
  rcases i with _|_|_|i<;>simp[aX,many,jF,Stmt,Expr]<;>grind
 ·obtain rfl:p=8:=by omega
  rcases i with _|_|_|i<;>simp[aX,many,jF,Stmt,Expr]<;>grind
 ·obtain rfl:p=9:=by omega
  rcases i with _|_|_|i<;>simp[aX,many,jF,Stmt,Expr]<;>grind
 ·obtain rfl:p=10:=by omega
  rcases i with _|_|_|i<;>simp[aX,many,jF,Stmt,Expr]<;>grind
 ·obtain rfl:p=11:=by omega
  rcases i with _|_|_|i<;>simp[aX,many,jF,Stmt,Expr]<;>grind
 ·obtain rfl:p=12:=by omega
  rcases i with _|_|_|i<;>simp[aX,many,jF,Stmt,Expr]<;>grind
 ·obtain rfl:p=20:=by omega
  rcases i with _|_|_|i<;>simp[aX,many,jF,Stmt,Expr]<;>grind
 ·obtain rfl:p=21:=by omega
  rcases i with _|_|_|i<;>simp[aX,many,jF,Stmt,Expr]<;>grind
 ·obtain rfl:p=22:=by omega
  rcases i with _|_|_|i<;>simp[aX,many,jF,Stmt,Expr]<;>grind
 ·obtain rfl:p=23:=by omega
  rcases i with _|_|_|i<;>simp[aX,many,jF,Stmt,Expr]<;>grind
 ·obtain rfl:p=24:=by omega
  rcases i with _|_|_|i<;>simp[aX,many,jF,Stmt,Expr]<;>grind
 ·obtain rfl:p=25:=by omega
  rcases i with _|_|_|i<;>simp[aX,many,jF,Stmt,Expr]<;>grind
 ·obtain rfl:p=26:=by omega
  rcases i with _|_|_|i<;>simp[aX,many,jF,Stmt,Expr]<;>grind
 ·obtain rfl:p=27:=by omega
  rcases i with _|_|_|i<;>simp[aX,many,jF,Stmt,Expr]<;>grind
 ·obtain rfl:p=28:=by omega
  rcases i with _|_|_|i<;>simp[aX,many,jF,Stmt,Expr]<;>grind
 ·obtain rfl:p=29:=by omega
  rcases i with _|_|_|i<;>simp[aX,many,jF,Stmt,Expr]<;>grind
theorem RF(s:List UInt8)(ws:List (List UInt8))(bx:Nat)(t:ByteArray)(w:World)(ht:ax w)(hf:Lib.fields s=ws)(hs:s.length<4294967281)(ha :∀b∈s,b.toNat<128)(hl:(jU ws).length≤9223372036854775807)
  (hc:w.cell? ⟨bx,1,none⟩=some (.string t)) (hemp:[]∉ws):
  Calls Tryz.prog 296 #[.string ⟨s.toArray⟩,.pointer (some ⟨bx,0,none⟩)] w fun e w'=>ag (t.data.toList∈ws) e∧Below w.heap.size w w':=by
 have Ht:Hid (ax w):=ht;have Hf:=hide hf;have Ha:=hide ha;have Hl:=hide hl;have He:=hide hemp;have hbx:=block_lt_of_cell hc;clear ht hf ha hl hemp;by_cases h0:t.toList=[]
 ·have hz:t.data.toList=[]:=by rw[←ByteArray.toList_eq];exact h0
  have Hz:=hide hz;clear hz;go_enter Tryz.func296,Tryz.ntmps296
  go_wp2_with fail
  go_quiet (fail)
  go_wp2_with fail
  go_ret;exact⟨ag.no (by rw[Hz.out];exact He.out),bW (Below.refl _ _) _⟩
 ·have h1:t.toList.isEmpty=false:=by simpa using h0
  go_enter Tryz.func296,Tryz.ntmps296
  go_wp2_with fail
  go_region_with (first
   | (go_at_call 281;refine(Rz s ws _ (Ht.out.below (bW (Below.refl _ _) 1)) Hf.out hs Ha.out).mono ?_;rintro e w1 ⟨A,c,rfl,hr,hB⟩;have hcw:=(hB.cell (p:=⟨bx,1,none⟩) hbx).trans hc;have Hr:=hide hr;have HB:=hide hB;clear hr hB)
   | (go_at_call 256;refine(QK (l:=jU ws) (x:=t) Hr.out Hl.out).mono ?_;rintro e w2 ⟨⟨b2,rfl,hb⟩,rfl⟩;have Hc:=hide hb;clear hb))
  all_goals
   go_wp2_with fail
   go_ret;exact⟨ag.mk (by rw[Hc.out,Ry]),Jm HB.out⟩
def ny:List (List UInt8):=[[45],[33]]
theorem Wq{k:Nat}{t:ByteArray}(h:Named k):fV k t↔dK t:=by unfold fV;rw[if_pos h]
theorem Ws{t:ByteArray}:fV 23 t↔t.data.toList∈ny:=by
 unfold fV;rw[if_neg (by unfold Named;omega),if_pos rfl];simp[ny]
theorem Wu{t:ByteArray}:fV 24 t↔t.data.toList∈binaries:=by
 unfold fV;rw[if_neg (by unfold Named;omega),if_neg (by omega),if_pos rfl]
theorem Gj{k:Nat}{t:ByteArray}(h :¬Named k)(h3:k≠23)(h4:k≠24):fV k t↔t.toList=[]:=by
 unfold fV;rw[if_neg h,if_neg h3,if_neg h4,ByteArray.toList_eq]
theorem Na(k:Nat)(t:ByteArray)(n:Int)(A:Option Addr)(l c:Nat)(w:World)(ht:ax w)(hk:k<256)(hs:t.size≤9223372036854775807)(hn:ay n):
  Calls Tryz.prog 284 #[.agg #[.int .u8 k,.string t,.int .i64 n,.slice A l c]] w fun e w'=>ag (sW k n∧fV k t) e∧Below w.heap.size w w':=by
 have Ht:Hid (ax w):=ht;unfold ay at hn;have hmf :∀(fn:Fn) (first cap:Array Value) (w:World),(Instr.makeFunc fn first cap).run Tryz.prog w = .ok (.func fn first cap) w:=fun _ _ _ _=>rfl;clear ht;go_enter Tryz.func284,Tryz.ntmps284
 go_wp2_with(first
  | (go_at_call 297;refine(qG k _).mono ?_;rintro e w1 ⟨⟨_|_,rfl,hb⟩,hB⟩<;>(have Hb:=hide hb;have HB:=hide (aZ (az _ _) hB);obtain⟨hc1,hf1⟩:=fM hB;have hz:w.heap.size<w1.heap.size:=(by have:=hB.size;simp at this;omega);clear hb hB))
  | (go_at_call 219;refine(iZ t _ hs (Ht.out.below HB.out)).mono ?_;rintro e w2 ⟨⟨b2,rfl,hb⟩,hB⟩;have Hb2:=hide hb;have HB2:=hide (aZ HB.out hB);clear hb hB)
  | (go_at_call 296;first
   | ((with_reducible refine(RF [45,32,33] ny _ t _ (Ht.out.below HB.out) (by decide +kernel) (by decide) (by decide) (by decide) ?_ (by decide)).mono ?_);(rw[hc1 _ _ (by simp)];simp);rintro e w2 ⟨⟨b2,rfl,hb⟩,hB⟩;have Hb2:=hide hb;have HB2:=hide (aZ HB.out hB);clear hb hB)
   | ((with_reducible refine(RF [124,124,32,38,38,32,61,61,32,33,61,32,60,32,60,61,32,62,32,62,61,32,43,32,45,32,42,32,47,32,37] binaries _ t _ (Ht.out.below HB.out) (by decide +kernel) (by decide) (by decide) (by decide) ?_ (by decide)).mono ?_);(rw[hc1 _ _ (by simp)];simp);rintro e w2 ⟨⟨b2,rfl,hb⟩,hB⟩;have Hb2:=hide hb;have HB2:=hide (aZ HB.out hB);clear hb hB)))
 all_goals go_ret
 all_goals go_tidy
 all_goals(try have hb:=Hb.out)
 all_goals(try have hb2:=Hb2.out)
 all_goals(try clear hc1 hf1 hz)
 all_goals refine⟨ag.mk ?_,(by first|exact HB2.out|exact HB.out|exact az _ _)⟩
 all_goals(try clear HB2)
 all_goals(try clear HB)
 all_goals(try clear Hb)
 all_goals(try clear Hb2)
 all_goals clear Ht
 all_goals(try clear hk hs)
 all_goals simp only[beq_iff_eq,aK,bne_eq_false_iff_eq,bne_iff_ne,ne_eq,decide_eq_true_eq,List.isEmpty_iff]at *
 all_goals unfold sW
 ·have hk:k=20:=by omega
  subst hk;rw[Gj (by unfold Named;omega) (by omega) (by omega)];constructor
  ·intro h;exact⟨by omega,by assumption⟩
  ·rintro⟨h,_⟩;omega
 ·have hk:k=20:=by omega
  subst hk;rw[Gj (by unfold Named;omega) (by omega) (by omega)];constructor
  ·intro h;exact absurd h (by decide)
  ·rintro⟨_,h⟩;exact absurd h (by assumption)
 ·have hk:k=21:=by omega
  subst hk;rw[Gj (by unfold Named;omega) (by omega) (by omega)];constructor
  ·intro h;exact⟨by omega,by assumption⟩
  ·rintro⟨h,_⟩;omega
 ·have hk:k=21:=by omega
  subst hk;rw[Gj (by unfold Named;omega) (by omega) (by omega)];constructor
  ·intro h;exact absurd h (by decide)
  ·rintro⟨_,h⟩;exact absurd h (by assumption)
 ·constructor
  ·intro h;exact absurd h (by decide)
  ·rintro⟨h,_⟩;omega
 ·have hk:k=23:=by omega
  subst hk;rw[Ws,hb2];constructor
  ·intro h;exact⟨by omega,h⟩
  ·rintro⟨_,h⟩;exact h
 ·have hk:k=24:=by omega
  subst hk;rw[Wu,hb2];constructor
  ·intro h;exact⟨by omega,h⟩
  ·rintro⟨_,h⟩;exact h
 ·rw[Gj (fun h=>absurd (hb.mpr h) (by decide)) (by omega) (by omega)];constructor
  ·intro h;exact⟨by omega,h⟩
  ·rintro⟨_,h⟩;exact h
 ·rw[Wq (hb.mp trivial),hb2];constructor
  ·intro h;exact⟨by omega,h⟩
  ·rintro⟨_,h⟩;exact h
end
end Go.Proofs.YtjjaojnglnpgaaaGreatDoor
