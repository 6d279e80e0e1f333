/- Part 6 of what scriptShows_cardUpto rests on. -/
import Derived.Test.YtjjaojnglnpgaaaGreatDoorShelf
import Derived.Test.YtjjaojnglnpgaaaGreatDoorProg
import Derived.Test.YtjjaojnglnpgaaaGreatDoorZ01
import Derived.Test.YtjjaojnglnpgaaaGreatDoorZ02
import Derived.Test.YtjjaojnglnpgaaaGreatDoorZ04
import Derived.Test.YtjjaojnglnpgaaaGreatDoorZ00
set_option linter.unusedVariables false
set_option linter.unusedSimpArgs false
set_option maxHeartbeats 16000000
set_option maxRecDepth 1000000
namespace Go.Proofs.YtjjaojnglnpgaaaGreatDoor
section
open Go.RowKit
def bF (w : World) : Prop := 5 < w.heap.size ∧ Lib.TabIs Tryz.prog w "strings.asciiSpace" .u8 Lib.asciiSpaceTab
theorem bF.below{w w':World}(h:bF w)(hb:Below w.heap.size w w'):bF w' :=
 ⟨aH h.1 hb.size,var?_below hb (by kernel_rfl) h.1 h.2⟩
def txt(l:List UInt8):ByteArray:=⟨l.toArray⟩
def iY(l:List (List UInt8)):List ByteArray:=l.map txt
theorem PR{l:List (List UInt8)}{s:ByteArray}:s∈iY l↔s.data.toList∈l:=by
 unfold iY;rw[List.mem_map];constructor
 ·rintro⟨x,hx,rfl⟩
  simpa[txt]using hx
 ·intro h;exact⟨_,h,by simp[txt]⟩
def kZ(ws:List (List UInt8))(w:World)(e:Ending)(w':World):Prop :=
 ∃A c,e = .returned (.slice A (iY ws).length c)∧Rd (fun _=>True) w' A ((iY ws).map .string)∧Below w.heap.size w w'
theorem UH(s:List UInt8)(ws:List (List UInt8))(w:World)(ht:bF w)(hf:Lib.fields s=ws)(hs:s.length<4294967281)(ha :∀b∈s,b.toNat<128):
  Calls Tryz.prog 281 #[.string ⟨s.toArray⟩] w (kZ ws w):=by
 refine(Tryz.strings_Fields ⟨s.toArray⟩ w (by simpa[ByteArray.size]using hs) (fun j b hb=>ha b (List.mem_of_getElem? hb)) ht.2).mono ?_;rintro e w' ⟨rfl,rfl⟩;have e1:(Lib.fields (List.toArray s).toList)=ws:=by simpa using hf
 simp only[e1];refine⟨some ⟨w.heap.size,0,none⟩,ws.length,by simp[iY],?_,az _ _⟩;have:=ES (S:=fun _=>True) (w:=w) (cs:=(iY ws).map .string) (t:=9) trivial
 simpa[iY,txt,Function.comp_def]using this
theorem sH(w:World)(ht:bF w):Calls Tryz.prog 257 #[] w (kZ words w):=by
 have H:Hid (bF w):=ht;clear ht;go_enter Tryz.func257,Tryz.ntmps257
 go_wp2_with(go_at_call 281;refine(UH _ words _ H.out (by decide +kernel) (by decide) (by decide)).mono ?_;rintro e w' ⟨A,c,rfl,hr,hb⟩;have Hr:=hide hr;have Hb:=hide hb;clear hr hb)
 go_ret;exact⟨A,c,rfl,Hr.out,Hb.out⟩
theorem UI{s:ByteArray}(h:0<s.size):dM s↔s.size≤24∧Letter (s[0])∧s∉iY words∧∀c∈s.data.toList,Letter c∨Digit c:=by
 unfold dM;rw[PR];obtain⟨⟨l⟩⟩:=s;cases l with
 | nil=>simp[ByteArray.size]at h
 | cons c l =>
  have:(⟨(c::l).toArray⟩:ByteArray)[0]=c:=rfl;rw[this];simp
theorem UJ{s:ByteArray}(h :¬0<s.size):¬dM s:=by
 rintro⟨_,⟨c,l,hc,_⟩,_⟩;apply h;have:s.data.toList.length=s.size:=by simp
 rw[hc]at this;simp at this;omega
theorem kH(s:ByteArray)(w:World)(hs:s.size≤9223372036854775807)(ht:bF w):Calls Tryz.prog 219 #[.string s] w fun e w'=>ah (dM s) e∧Below w.heap.size w w':=by
 have Ht:Hid (bF w):=ht;clear ht;have hz:=hide (mg s);by_cases h0:0<s.size
 ·have hne :¬s.toList=[]:=by rw[mg];omega
  have hne2:s.toList.isEmpty=false:=by simpa using hne
  by_cases h1:s.size≤24
  ·have nS:=hide (UI h0);go_enter Tryz.func219,Tryz.ntmps219
   go_wp2_with(first
    | (go_at_call 255;refine(TY s[0] _).mono ?_;rintro e w1 ⟨⟨_|_,rfl,hb⟩,rfl⟩<;>(have Hb:=hide hb;clear hb))
    | (go_at_call 257;refine(sH _ Ht.out).mono ?_;rintro e w1 ⟨A,c,rfl,hr,hb⟩;have Hr:=hide hr;have HB:=hide hb;clear hr hb)
    | (go_at_call 256;refine(Um (l:=iY words) (x:=s) Hr.out (by decide)).mono ?_;rintro e w2 ⟨⟨_|_,rfl,hb⟩,rfl⟩<;>(have Hc:=hide hb;clear hb)))
   ·go_ret;exact⟨ah.no fun h=>(by simpa using Hb.out :¬Letter s[0]) (nS.out.1 h).2.1,Below.refl _ _⟩
   ·go_loop [24,3] (fun i _=>∃k:Nat,k≤s.size∧i = .int .i64 k∧Hid (∀j,(h:j<k)→(h':j<s.size)→Letter (s[j])∨Digit (s[j]))) (fun i _=>s.size-(intOf i).toNat)
    case atStart=>exact⟨0,Nat.zero_le _,rfl,hide (fun j h=>absurd h (by omega))⟩
    case round =>
     obtain⟨k,hk,rfl,hall⟩:=hrel;by_cases hlt:k<s.size
     ·go_wp2_with(go_at_call 258;refine(rQ s[k] _).mono ?_;rintro e w' ⟨⟨_|_,rfl,hb⟩,rfl⟩<;>(have Hd:=hide hb;clear hb))
      ·go_ret;exact⟨ah.no fun h=>(by simpa using Hd.out :¬(Letter s[k]∨Digit s[k])) ((nS.out.1 h).2.2.2 _ (ML s k hlt)),HB.out⟩
      ·go_round
       case rel=>exact⟨k+1,by omega,by go_num,hide (MM (P:=fun c=>Letter c∨Digit c) hall.out hlt (by simpa using Hd.out))⟩
       case measure=>simp[intOf];omega
     ·have H:=hide (MN (P:=fun c=>Letter c∨Digit c) hall.out hlt);clear hall
      go_wp2_with fail
      go_ret;exact⟨ah.yes (nS.out.2 ⟨h1,by simpa using Hb.out,by simpa using Hc.out,H.out⟩),HB.out⟩
   ·go_ret;exact⟨ah.no fun h=>(nS.out.1 h).2.2.1 (by simpa using Hc.out),HB.out⟩
  ·go_enter Tryz.func219,Tryz.ntmps219
   go_wp2_with fail
   go_ret;exact⟨ah.no fun h=>h1 h.1,Below.refl _ _⟩
 ·have he:s.toList=[]:=by rw[mg];omega
  go_enter Tryz.func219,Tryz.ntmps219
  go_wp2_with fail
  go_ret;exact⟨ah.no (UJ h0),Below.refl _ _⟩
def lM(k o:Nat):Prop:=(o=200∧Expr k)∨(o=201∧Stmt k)∨(o=202∧(k=22∨k=26))∨(o<200∧k=o)∨(202<o∧k=o)
theorem wE(k o:Nat)(w:World):Calls Tryz.prog 298 #[.int .u8 k,.int .u8 o] w fun e w'=>ah (lM k o) e∧w=w':=by
 go_enter Tryz.func298,Tryz.ntmps298
 go_wp2
 all_goals(go_ret;go_tidy;exact⟨ah.mk (by unfold lM Expr Stmt;grind),rfl⟩)
theorem ET{S:Nat→Prop}{w:World}{cs:List Value}{t:TypeId}(hS:S w.heap.size):Rd S (w.alloc (.cells cs.toArray t)) (some ⟨w.heap.size,0,none⟩) cs:=ES hS
theorem sJ(k:Nat)(w:World):Calls Tryz.prog 297 #[.int .u8 k] w fun e w'=>ah (Named k) e∧Below w.heap.size w w':=by
 go_enter Tryz.func297,Tryz.ntmps297
 go_wp2_with(go_at_call 304;refine(X7 (S:=fun _=>True) (l:=[2,4,6,22,25]) (x:=(k:Int)) (ET trivial) (by simp)).mono ?_;rintro e w' ⟨⟨b,rfl,hb⟩,rfl⟩;have Hb:=hide hb;clear hb)
 go_ret;exact⟨ah.mk (by rw[Hb.out];unfold Named;simp;omega),az _ _⟩
theorem EU{p:Nat}{k':Int}{ks:List Int}{all:Bool}(h:kindRow p=some (k',ks,all)):(k',ks,all)∈fB∧k'=p:=by
 unfold kindRow at h;have h1:=List.mem_of_find?_eq_some h;have h2:=List.find?_some h;simp at h2;exact⟨h1,h2.symm⟩
theorem UK{p:Nat}(h:kindRow p=none):∀r∈fB,r.1≠p:=by
 unfold kindRow at h;rw[List.find?_eq_none]at h;intro r hr e;exact h r hr (by simp[e])
theorem EW(p:Nat):nC p↔(kindRow p).isSome=true:=by
 cases h:kindRow p with
 | none =>
  have:=UK h;simp[fB]at this;unfold nC Expr;simp;omega
 | some x =>
  obtain⟨k',ks,all⟩:=x;obtain⟨h1,rfl⟩:=EU h;simp[fB]at h1;unfold nC Expr;simp;omega
theorem sK{p:Nat}(h:kindRow p=none)(k i:Nat):¬aZ p k i:=by
 have:=UK h;simp[fB]at this;unfold aZ many;intro hf;have:=hf.1 0;rw[if_neg (by omega),if_neg (by omega),if_neg (by omega),if_neg (by omega)]at this;exact absurd (this rfl) (by omega)
theorem PS{p:Nat}{k':Int}{ks:List Int}{all:Bool}(h:kindRow p=some (k',ks,all))(k i:Nat):
  aZ p k i↔if all then∃o:Nat,ks[0]?=some (o:Int)∧lM k o else∃o:Nat,ks[i]?=some (o:Int)∧lM k o:=by
 obtain⟨h1,rfl⟩:=EU h;clear h;simp[fB]at h1;rcases h1 with⟨hp,rfl,rfl⟩|⟨hp,rfl,rfl⟩|⟨hp,rfl,rfl⟩|⟨hp,rfl,rfl⟩|⟨hp,rfl,rfl⟩|⟨hp,rfl,rfl⟩|⟨hp,rfl,rfl⟩|⟨hp,rfl,rfl⟩|⟨hp,rfl,rfl⟩|⟨hp,rfl,rfl⟩|⟨hp,rfl,rfl⟩|⟨hp,rfl,rfl⟩|⟨hp,rfl,rfl⟩|⟨hp,rfl,rfl⟩|⟨hp,rfl,rfl⟩|⟨hp,rfl,rfl⟩|⟨hp,rfl,rfl⟩|⟨hp,rfl,rfl⟩|⟨hp,rfl,rfl⟩|⟨hp,rfl,rfl⟩|⟨hp,rfl,rfl⟩|⟨hp,rfl,rfl⟩
 ·obtain rfl:p=1:=by omega
  rcases i with _|_|_|i<;>simp[aZ,many,lM,Stmt,Expr]<;>grind
 ·obtain rfl:p=2:=by omega
  rcases i with _|_|_|i<;>simp[aZ,many,lM,Stmt,Expr]<;>grind
 ·obtain rfl:p=3:=by omega
  rcases i with _|_|_|i<;>simp[aZ,many,lM,Stmt,Expr]<;>grind
 ·obtain rfl:p=4:=by omega
  rcases i with _|_|_|i<;>simp[aZ,many,lM,Stmt,Expr]<;>grind
 ·obtain rfl:p=5:=by omega
  rcases i with _|_|_|i<;>simp[aZ,many,lM,Stmt,Expr]<;>grind
 ·obtain rfl:p=6:=by omega
  rcases i with _|_|_|i<;>simp[aZ,many,lM,Stmt,Expr]<;>grind
 ·obtain rfl:p=7:=by omega
  rcases i with _|_|_|i<;>simp[aZ,many,lM,Stmt,Expr]<;>grind
 ·obtain rfl:p=8:=by omega
  rcases i with _|_|_|i<;>simp[aZ,many,lM,Stmt,Expr]<;>grind
 ·obtain rfl:p=9:=by omega
  rcases i with _|_|_|i<;>simp[aZ,many,lM,Stmt,Expr]<;>grind
 ·obtain rfl:p=10:=by omega
  rcases i with _|_|_|i<;>simp[aZ,many,lM,Stmt,Expr]<;>grind
 ·obtain rfl:p=11:=by omega
  rcases i with _|_|_|i<;>simp[aZ,many,lM,Stmt,Expr]<;>grind
 ·obtain rfl:p=12:=by omega
  rcases i with _|_|_|i<;>simp[aZ,many,lM,Stmt,Expr]<;>grind
 ·obtain rfl:p=20:=by omega
  rcases i with _|_|_|i<;>simp[aZ,many,lM,Stmt,Expr]<;>grind
 ·obtain rfl:p=21:=by omega
  rcases i with _|_|_|i<;>simp[aZ,many,lM,Stmt,Expr]<;>grind
 ·obtain rfl:p=22:=by omega
  rcases i with _|_|_|i<;>simp[aZ,many,lM,Stmt,Expr]<;>grind
 ·obtain rfl:p=23:=by omega
  rcases i with _|_|_|i<;>simp[aZ,many,lM,Stmt,Expr]<;>grind
 ·obtain rfl:p=24:=by omega
  rcases i with _|_|_|i<;>simp[aZ,many,lM,Stmt,Expr]<;>grind
 ·obtain rfl:p=25:=by omega
  rcases i with _|_|_|i<;>simp[aZ,many,lM,Stmt,Expr]<;>grind
 ·obtain rfl:p=26:=by omega
  rcases i with _|_|_|i<;>simp[aZ,many,lM,Stmt,Expr]<;>grind
 ·obtain rfl:p=27:=by omega
  rcases i with _|_|_|i<;>simp[aZ,many,lM,Stmt,Expr]<;>grind
 ·obtain rfl:p=28:=by omega
  rcases i with _|_|_|i<;>simp[aZ,many,lM,Stmt,Expr]<;>grind
 ·obtain rfl:p=29:=by omega
  rcases i with _|_|_|i<;>simp[aZ,many,lM,Stmt,Expr]<;>grind
theorem wG{S:Nat→Prop}{A:Option Addr}{c:Nat}{l:List ByteArray}{x:ByteArray}{w:World}(hl:Rd S w A (l.map .string))(hlen:l.length≤9223372036854775807):
  Calls Tryz.prog 262 #[.string x,.slice A l.length c] w fun e w'=>ah (x∈l) e∧w=w':=by
 have Hl:=hide hl;clear hl;go_enter Tryz.func262,Tryz.ntmps262
 go_wp2_with fail
 go_loop [5] (fun i=>∃k:Nat,k≤l.length∧i = .int .i64 k∧Hid (∀j,j<k→l[j]?≠some x)) (fun i=>l.length-(intOf i).toNat)
 case atStart=>exact⟨0,Nat.zero_le _,rfl,hide (fun j h=>absurd h (by omega))⟩
 case round =>
  obtain⟨k,hk,rfl,hall⟩:=hrel;by_cases hlt:k<l.length
  ·obtain⟨b,o,rfl,h1⟩:=Hl.out.at_ (j:=k) (by simpa using hlt);simp only[List.getElem_map]at h1;have E:=hide (show l[k]?=some l[k]by simp[hlt]);generalize l[k]=s at h1 E
   go_wp2_with fail
   ·have ht:(s.toList == x.toList)=true:=by assumption
    go_ret;exact⟨ah.yes (List.mem_of_getElem? (E.out.trans (congrArg some (Jd.1 ht)))),rfl⟩
   ·have ht:(s.toList == x.toList)=false:=by assumption
    go_round
    case rel=>exact⟨k+1,by omega,by go_num,hide (Jo hall.out E.out (fun e=>by subst e;simp at ht))⟩
    case measure=>simp[intOf];omega
  ·go_wp2_with fail
   go_ret;exact⟨ah.no (Jp hall.out hlt),rfl⟩
theorem Ym(w:World):Calls Tryz.prog 263 #[] w (kZ words w):=by
 go_enter Tryz.func263,Tryz.ntmps263
 go_wp2
 go_ret;refine⟨some ⟨w.heap.size,0,none⟩,11,rfl,?_,az _ _⟩;exact ES (S:=fun _=>True) (w:=w) (cs:=(iY words).map .string) (t:=9) trivial
theorem PT(s:ByteArray)(w:World)(hs:s.size≤9223372036854775807):Calls Tryz.prog 230 #[.string s] w fun e w'=>ah (dM s) e∧Below w.heap.size w w':=by
  have hz:=hide (mg s);by_cases h0:0<s.size
  · have hne :¬s.toList=[]:=by rw[mg];omega
    have hne2:s.toList.isEmpty=false:=by simpa using hne
    by_cases h1:s.size≤24
    · have nS:=hide (UI h0)
      go_enter Tryz.func230,Tryz.ntmps230
      go_wp2_with(first
        | (go_at_call 261;refine(Ud s[0] _).mono ?_;rintro e w1 ⟨⟨_|_,rfl,hb⟩,rfl⟩<;>(have Hb:=hide hb;clear hb))
        | (go_at_call 263;refine(Ym _).mono ?_;rintro e w1 ⟨A,c,rfl,hr,hb⟩;have Hr:=hide hr;have HB:=hide hb;clear hr hb)
        | (go_at_call 262;refine(wG (l:=iY words) (x:=s) Hr.out (by decide)).mono ?_;rintro e w2 ⟨⟨_|_,rfl,hb⟩,rfl⟩<;>(have Hc:=hide hb;clear hb)))
      · go_ret
        exact⟨ah.no fun h=>(by simpa using Hb.out :¬Letter s[0]) (nS.out.1 h).2.1,Below.refl _ _⟩
      · go_loop [3] (fun i=>∃k:Nat,k≤s.size∧i = .int .i64 k∧Hid (∀j,(h:j<k)→(h':j<s.size)→Letter (s[j])∨Digit (s[j]))) (fun i=>s.size-(intOf i).toNat)
        case atStart=>exact⟨0,Nat.zero_le _,rfl,hide (fun j h=>absurd h (by omega))⟩
        case round =>
          obtain⟨k,hk,rfl,hall⟩:=hrel;by_cases hlt:k<s.size
          · go_wp2_with(first
              | (go_at_call 261;refine(Ud s[k] _).mono ?_;rintro e w' ⟨⟨_|_,rfl,hb⟩,rfl⟩<;>(have Hd:=hide hb;clear hb))
              | (go_at_call 264;refine(rU s[k] _).mono ?_;rintro e w' ⟨⟨_|_,rfl,hb⟩,rfl⟩<;>(have Hg:=hide hb;clear hb)))
            all_goals first
              | (go_ret
                 exact⟨ah.no fun h=>((nS.out.1 h).2.2.2 _ (ML s k hlt)).elim (by simpa using Hd.out) (by simpa using Hg.out),HB.out⟩)
              | (go_round
                 case rel=>exact⟨k+1,by omega,by go_num,hide (MM (P:=fun c=>Letter c∨Digit c) hall.out hlt (by first|exact .inl (by simpa using Hd.out)|exact .inr (by simpa using Hg.out)))⟩
                 case measure=>simp[intOf];omega)
          · have H:=hide (MN (P:=fun c=>Letter c∨Digit c) hall.out hlt)
            clear hall
            go_wp2_with fail
            go_ret;exact⟨ah.yes (nS.out.2 ⟨h1,by simpa using Hb.out,by simpa using Hc.out,H.out⟩),HB.out⟩
      · go_ret
        exact⟨ah.no fun h=>(nS.out.1 h).2.2.1 (by simpa using Hc.out),HB.out⟩
    · go_enter Tryz.func230,Tryz.ntmps230
      go_wp2_with fail
      go_ret;exact⟨ah.no fun h=>h1 h.1,Below.refl _ _⟩
  · have he:s.toList=[]:=by rw[mg];omega
    go_enter Tryz.func230,Tryz.ntmps230
    go_wp2_with fail
    go_ret;exact⟨ah.no (UJ h0),Below.refl _ _⟩
theorem UL(k:Nat)(w:World):Calls Tryz.prog 299 #[.int .u8 k] w fun e w'=>ah (Expr k) e∧w=w':=by
 go_enter Tryz.func299,Tryz.ntmps299
 go_wp2
 all_goals(go_ret;go_tidy;exact⟨ah.mk (by unfold Expr;grind),rfl⟩)
theorem sN(k:Nat)(w:World):Calls Tryz.prog 306 #[.int .u8 k] w fun e w'=>ah (Stmt k) e∧w=w':=by
 go_enter Tryz.func306,Tryz.ntmps306
 go_wp2
 all_goals(go_ret;go_tidy;exact⟨ah.mk (by unfold Stmt;grind),rfl⟩)
theorem Nb(k:Nat)(w:World):Calls Tryz.prog 305 #[.int .u8 k] w fun e w'=>ah (Named k) e∧w=w':=by
 go_enter Tryz.func305,Tryz.ntmps305
 go_wp2
 all_goals(go_ret;go_tidy;exact⟨ah.mk (by unfold Named;grind),rfl⟩)
def dS(k:Nat):Int :=
 if k=1∨k=3∨k=5∨k=25 then -1
 else if k=2∨k=7∨k=9∨k=24∨k=26∨k=27 then 2
 else if k=8 then 3
 else if k=6∨k=10∨k=11∨k=23∨k=28∨k=12 then 1
 else 0
theorem Nc{k n:Nat}:many k=some n↔dS k=n:=by
 unfold many dS
 repeat' split
 all_goals simp<;>omega
theorem PU(k:Nat):-1≤dS k∧dS k≤3:=by
 unfold dS
 repeat' split
 all_goals omega
theorem UM(k:Nat)(w:World):Calls Tryz.prog 300 #[.int .u8 k] w fun e w'=>e = .returned (.int .i64 (dS k))∧w=w':=by
 go_enter Tryz.func300,Tryz.ntmps300
 go_wp2
 all_goals go_ret
 all_goals go_tidy
 all_goals first
  | (have e:dS k = -1:=(by unfold dS;grind);exact⟨by rw[e];rfl,rfl⟩)
  | (have e:dS k=2:=(by unfold dS;grind);exact⟨by rw[e];rfl,rfl⟩)
  | (have e:dS k=3:=(by unfold dS;grind);exact⟨by rw[e];rfl,rfl⟩)
  | (have e:dS k=1:=(by unfold dS;grind);exact⟨by rw[e];rfl,rfl⟩)
  | (have e:dS k=0:=(by unfold dS;grind);exact⟨by rw[e];rfl,rfl⟩)
theorem UN(p k i:Nat)(w:World):Calls Tryz.prog 302 #[.int .u8 p,.int .u8 k,.int .i64 i] w fun e w'=>ah (aZ p k i) e∧w=w':=by
  have hm:=PU p;have hF:Hid (∀i:Nat,aZ p k i↔(0≤dS p→(i:Int)<dS p)∧(if p=1 then k=2
   else if p=2 then(i=0∧k=3)∨(i=1∧k=5)
   else if p=3 then k=4
   else if p=5 then Stmt k
   else if p=7 then(i=0∧(k=22∨k=26))∨(i=1∧Expr k)
   else if p=8∨p=9 then(i=0∧Expr k)∨(0<i∧k=5)
   else if p=12 then k=25
   else Expr k)):=hide (by
    intro i;unfold aZ;refine and_congr ⟨fun h h0=>?_,fun h n hn=>?_⟩ Iff.rfl
    · have:=h (dS p).toNat (Nc.2 (by omega))
      omega
    · have h1:=Nc.1 hn
      have:=h (by omega);omega)
  go_enter Tryz.func302,Tryz.ntmps302
  go_wp2_with(first
    | (go_at_call 300;(with_reducible refine(UM p _).mono ?_);rintro e w1 ⟨rfl,rfl⟩)
    | (go_at_call 306;(with_reducible refine(sN k _).mono ?_);rintro e w1 ⟨⟨b,rfl,hb⟩,rfl⟩)
    | (go_at_call 299;(with_reducible refine(UL k _).mono ?_);rintro e w1 ⟨⟨b,rfl,hb⟩,rfl⟩))
  all_goals(go_ret;go_tidy;exact⟨ah.mk (by rw[hF.out];clear hF;grind),rfl⟩)
end
end Go.Proofs.YtjjaojnglnpgaaaGreatDoor
