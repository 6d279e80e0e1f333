/- Part 6 of what commuteFiles_cardUpto rests on. -/
import Derived.Test.YtialngdffhmobaaGreatDoorProg
import Derived.Test.YtialngdffhmobaaGreatDoorV02
import Derived.Test.YtialngdffhmobaaGreatDoorV04
import Derived.Test.YtialngdffhmobaaGreatDoorV00
set_option linter.unusedVariables false
set_option linter.unusedSimpArgs false
set_option maxHeartbeats 16000000
set_option maxRecDepth 1000000
namespace Go.Proofs.YtialngdffhmobaaGreatDoor
section
open Go.RowKit
theorem rD :∀c:Fin 256,(97≤(c.val ||| 32)∧(c.val ||| 32)≤122)↔((97≤c.val∧c.val≤122)∨(65≤c.val∧c.val≤90)):=by decide +kernel
theorem oJ(c:UInt8):bits .or .u8 (c.toNat:Int) 32=((c.toNat ||| 32:Nat):Int):=by
 have h :∀c:Fin 256,bits .or .u8 (c.val:Int) 32=((c.val ||| 32:Nat):Int):=by decide +kernel
 exact h ⟨c.toNat,c.toNat_lt⟩
theorem G9(c:UInt8):(97≤(c.toNat ||| 32)∧(c.toNat ||| 32)≤122)↔((97≤c.toNat∧c.toNat≤122)∨(65≤c.toNat∧c.toNat≤90)):=rD ⟨c.toNat,c.toNat_lt⟩
theorem Hu(c:UInt8)(w:World):Calls Tryz.prog 176 #[.int .u8 c.toNat] w fun e w'=>ay (Letter c) e∧w=w':=by
 have h1:=oJ c;have h2:=hide (G9 c);generalize c.toNat ||| 32=m at h1 h2;go_enter Tryz.func176,Tryz.ntmps176
 go_wp2
 all_goals go_ret
 all_goals exact⟨ay.mk (by have:=h2.out;unfold Letter;simp;try omega),rfl⟩
theorem qf(c:UInt8)(w:World):Calls Tryz.prog 179 #[.int .u8 c.toNat] w fun e w'=>ay (Letter c∨Digit c) e∧w=w':=by
 go_enter Tryz.func179,Tryz.ntmps179
 go_wp2_with(go_at_call 176;refine(Hu c _).mono ?_;rintro e w' ⟨⟨b,rfl,hb⟩,rfl⟩;have Hb:=hide hb;clear hb)
 all_goals(go_ret;go_tidy;exact⟨ay.mk (by rw[←Hb.out];unfold Digit;simp[*];try omega),rfl⟩)
theorem KE(c:UInt8)(w:World):Calls Tryz.prog 111 #[.int .u8 c.toNat] w fun e w'=>ay (eG c) e∧w=w':=by
 have h1:=oJ c;have h2:=hide (G9 c);generalize c.toNat ||| 32=m at h1 h2;go_enter Tryz.func111,Tryz.ntmps111
 go_wp2
 all_goals go_ret
 all_goals exact⟨ay.mk (by have:=h2.out;unfold eG Digit;simp;try omega),rfl⟩
theorem Ia{s:ByteArray}{P:UInt8→Prop}{k:Nat}(h :∀j,j<k→(h':j<s.size)→P (s[j]))(hk:k<s.size)(hp:P s[k]):∀j,j<k+1→(h':j<s.size)→P (s[j]):=by
 intro j hj h';rcases Nat.lt_or_ge j k with h1|h1
 ·exact h j h1 h'
 ·obtain rfl:j=k:=by omega
  exact hp
theorem Ib{s:ByteArray}{P:UInt8→Prop}{k:Nat}(h :∀j,j<k→(h':j<s.size)→P (s[j]))(hk :¬k<s.size):∀c∈s.data.toList,P c :=
 uS fun j h'=>h j (by omega) h'
theorem KF{s:ByteArray}(h :∀c∈s.data.toList,eG c):dF s↔1≤s.size∧s.size≤24:=by unfold dF;exact⟨fun h=>⟨h.1,h.2.1⟩,fun h'=>⟨h'.1,h'.2,h⟩⟩
theorem Dc(s:ByteArray)(w:World)(hs:s.size≤9223372036854775807):Calls Tryz.prog 37 #[.string s] w fun e w'=>ay (dF s) e∧w=w':=by
 go_enter Tryz.func37,Tryz.ntmps37
 go_wp2_with fail
 go_loop [7,4] (fun i _=>∃k:Nat,k≤s.size∧i = .int .i64 k∧Hid (∀j,(h:j<k)→(h':j<s.size)→eG (s[j]))) (fun i _=>s.size-(intOf i).toNat)
 case atStart=>exact⟨0,Nat.zero_le _,rfl,hide (fun j h=>absurd h (by omega))⟩
 case round =>
  obtain⟨k,hk,rfl,hall⟩:=hrel;by_cases hlt:k<s.size
  ·go_wp2_with(go_at_call 111;refine(KE s[k] _).mono ?_;rintro e w' ⟨⟨_|_,rfl,hb⟩,rfl⟩<;>(have Hb:=hide hb;clear hb))
   ·go_ret;exact⟨ay.no fun h=>(by simpa using Hb.out :¬eG s[k]) (h.2.2 _ (oD s k hlt)),rfl⟩
   ·go_round
    case rel=>exact⟨k+1,by omega,by go_num,hide (Ia hall.out hlt (by simpa using Hb.out))⟩
    case measure=>simp[intOf];omega
  ·have H:=hide (Ib hall.out hlt);clear hall
   go_wp2_with fail
   all_goals(go_ret;go_tidy;exact⟨ay.mk (by rw[KF H.out];have hz:=CS s;clear H;grind),rfl⟩)
def gY(P:Prop)(e:Ending):Prop:=∃i:Int,e = .returned (.int .i64 i)∧-1≤i∧(0≤i↔P)
theorem gY.yes{P:Prop}{i:Int}(h:0≤i)(hp:P):gY P (.returned (.int .i64 i)):=⟨i,rfl,by omega,by simp[h,hp]⟩
theorem gY.no{P:Prop}(hp :¬P):gY P (.returned (.int .i64 (-1))):=⟨-1,rfl,by omega,by simp[hp]⟩
theorem oK{α:Type}{l:List α}{k:Nat}{x s:α}(h :∀j,j<k→l[j]?≠some x)(hk:l[k]?=some s)(hne:s≠x):∀j,j<k+1→l[j]?≠some x:=by
 intro j hj;rcases Nat.lt_or_ge j k with h1|h1
 ·exact h j h1
 ·obtain rfl:j=k:=by omega
  rw[hk];exact fun e=>hne (by injection e)
theorem oL{α:Type}{l:List α}{k:Nat}{x:α}(h :∀j,j<k→l[j]?≠some x)(hk :¬k<l.length):¬x∈l:=by
 intro hx;obtain⟨j,hj,rfl⟩:=List.getElem_of_mem hx;exact h j (by omega) (by simp)
theorem KG{S:Nat→Prop}{A:Option Addr}{c:Nat}{l:List Int}{x:Int}{w:World}(hl:Rd S w A (l.map (.int .u8)))(hlen:l.length≤9223372036854775807):
  Calls Tryz.prog 284 #[.slice A l.length c,.int .u8 x] w fun e w'=>gY (x∈l) e∧w=w':=by
 have Hl:=hide hl;clear hl;go_enter Tryz.func284,Tryz.ntmps284
 go_wp2_with fail
 go_loop [8,5] (fun i _=>∃k:Nat,k≤l.length∧i = .int .i64 k∧Hid (∀j,j<k→l[j]?≠some x)) (fun i _=>l.length-(intOf i).toNat)
 case atStart=>exact⟨0,Nat.zero_le _,rfl,hide (fun j h=>absurd h (by omega))⟩
 case round =>
  obtain⟨k,hk,rfl,hall⟩:=hrel;by_cases hlt:k<l.length
  ·obtain⟨b,o,rfl,h1⟩:=Hl.out.at_ (j:=k) (by simpa using hlt);simp only[List.getElem_map]at h1;have E:=hide (show l[k]?=some l[k]by simp[hlt]);generalize l[k]=s at h1 E
   go_wp2_with fail
   ·have ht:(x == s)=true:=by assumption
    go_ret;exact⟨gY.yes (by omega) (List.mem_of_getElem? (E.out.trans (congrArg some (by simpa using ht:x=s).symm))),rfl⟩
   ·have ht:(x == s)=false:=by assumption
    go_round
    case rel=>exact⟨k+1,by omega,by go_num,hide (oK hall.out E.out (fun e=>by subst e;simp at ht))⟩
    case measure=>simp[intOf];omega
  ·go_wp2_with fail
   go_ret;exact⟨gY.no (oL hall.out hlt),rfl⟩
theorem KH{S:Nat→Prop}{A:Option Addr}{c:Nat}{l:List Int}{x:Int}{w:World}(hl:Rd S w A (l.map (.int .u8)))(hlen:l.length≤9223372036854775807):
  Calls Tryz.prog 271 #[.slice A l.length c,.int .u8 x] w fun e w'=>ay (x∈l) e∧w=w':=by
 have Hl:=hide hl;clear hl;go_enter Tryz.func271,Tryz.ntmps271
 go_wp2_with(go_at_call 284;refine(KG Hl.out hlen).mono ?_;rintro e w' ⟨⟨i,rfl,hlo,hi⟩,rfl⟩;have Hi:=hide hi;clear hi)
 go_ret;exact⟨ay.mk (by rw[←Hi.out];simp),rfl⟩
theorem KI{S:Nat→Prop}{A:Option Addr}{c:Nat}{l:List ByteArray}{x:ByteArray}{w:World}(hl:Rd S w A (l.map .string))(hlen:l.length≤9223372036854775807):
  Calls Tryz.prog 213 #[.slice A l.length c,.string x] w fun e w'=>gY (x∈l) e∧w=w':=by
 have Hl:=hide hl;clear hl;go_enter Tryz.func213,Tryz.ntmps213
 go_wp2_with fail
 go_loop [8,5] (fun i _=>∃k:Nat,k≤l.length∧i = .int .i64 k∧Hid (∀j,j<k→l[j]?≠some x)) (fun i _=>l.length-(intOf i).toNat)
 case atStart=>exact⟨0,Nat.zero_le _,rfl,hide (fun j h=>absurd h (by omega))⟩
 case round =>
  obtain⟨k,hk,rfl,hall⟩:=hrel;by_cases hlt:k<l.length
  ·obtain⟨b,o,rfl,h1⟩:=Hl.out.at_ (j:=k) (by simpa using hlt);simp only[List.getElem_map]at h1;have E:=hide (show l[k]?=some l[k]by simp[hlt]);generalize l[k]=s at h1 E
   go_wp2_with fail
   ·have ht:(x.toList == s.toList)=true:=by assumption
    go_ret;exact⟨gY.yes (by omega) (List.mem_of_getElem? (E.out.trans (congrArg some (zH.1 ht).symm))),rfl⟩
   ·have ht:(x.toList == s.toList)=false:=by assumption
    go_round
    case rel=>exact⟨k+1,by omega,by go_num,hide (oK hall.out E.out (fun e=>by subst e;simp at ht))⟩
    case measure=>simp[intOf];omega
  ·go_wp2_with fail
   go_ret;exact⟨gY.no (oL hall.out hlt),rfl⟩
theorem Em{S:Nat→Prop}{A:Option Addr}{c:Nat}{l:List ByteArray}{x:ByteArray}{w:World}(hl:Rd S w A (l.map .string))(hlen:l.length≤9223372036854775807):
  Calls Tryz.prog 177 #[.slice A l.length c,.string x] w fun e w'=>ay (x∈l) e∧w=w':=by
 have Hl:=hide hl;clear hl;go_enter Tryz.func177,Tryz.ntmps177
 go_wp2_with(go_at_call 213;refine(KI Hl.out hlen).mono ?_;rintro e w' ⟨⟨i,rfl,hlo,hi⟩,rfl⟩;have Hi:=hide hi;clear hi)
 go_ret;exact⟨ay.mk (by rw[←Hi.out];simp),rfl⟩
def Has(w:World)(N n:Nat):Prop:=∀j,j<n→∃v,w.cell? ⟨N,j,none⟩=some v
theorem Has.set{w:World}{N n:Nat}(h:Has w N n)(a:Addr)(u:Value):Has (w.setCell a u) N n:=by
 intro j hj;obtain⟨v,hv⟩:=h j hj;by_cases e:a=⟨N,j,none⟩
 ·subst e;exact⟨u,World.cell?_setCell_same _ _ _ hv⟩
 ·exact⟨v,(World.cell?_setCell_other _ _ _ _ e).trans hv⟩
theorem Has.of_eq{w w':World}{N n:Nat}(h:Has w N n)(he :∀o,w'.cell? ⟨N,o,none⟩=w.cell? ⟨N,o,none⟩):Has w' N n:=fun j hj=>by
 obtain⟨v,hv⟩:=h j hj;exact⟨v,(he j).trans hv⟩
theorem Has.new(w:World)(cs:Array Value)(t:TypeId)(n:Nat)(hn:n≤cs.size):Has (w.alloc (.cells cs t)) w.heap.size n:=fun j hj =>
 ⟨cs[j],by rw[World.cell?_alloc_new,Array.getElem?_eq_getElem (by omega)]⟩
theorem wS{w:World}{N n j:Nat}{v:Value}(h:Has w N n)(hj:j<n):(w.setCell ⟨N,j,none⟩ v).cell? ⟨N,j,none⟩=some v:=by
 obtain⟨u,hu⟩:=h j hj;exact World.cell?_setCell_same _ _ _ hu
theorem Has.new2(w:World)(a:Obj)(cs:Array Value)(t:TypeId)(n:Nat)(hn:n≤cs.size):Has ((w.alloc a).alloc (.cells cs t)).drew (w.heap.size+1) n:=by
 have h:=Has.new (w.alloc a) cs t n hn;rw[show(w.alloc a).heap.size=w.heap.size+1 by simp]at h;exact h
end
section
open Go.RowKit
section
variable {E : TypeId} {mk : Nat → Nat → Value} {B K : Nat} {vs : Nat → Value} {ns m m' : Nat → Nat} {T : Nat → Option Nat} {w w' : World}
end
end
end Go.Proofs.YtialngdffhmobaaGreatDoor
