/- Part 11 of what scriptBack_cardUpto rests on. -/
import Derived.Test.YtjjaojnglnpgaaaGreatDoorProg
import Derived.Deep.Cut
import Derived.Deep.MidRow
import Derived.Defers
import Derived.Recover
import Derived.Laws.EntriesVeiled
import Derived.Lib.IndexLaws
import Derived.BigQuiet
import Derived.Test.YtjjaojnglnpgaaaGreatDoorShelf
import Derived.Test.YtjjaojnglnpgaaaGreatDoorY04
import Derived.Test.YtjjaojnglnpgaaaGreatDoorY05
import Derived.Test.YtjjaojnglnpgaaaGreatDoorY07
import Derived.Test.YtjjaojnglnpgaaaGreatDoorY09
import Derived.Test.YtjjaojnglnpgaaaGreatDoorY08
import Derived.Test.YtjjaojnglnpgaaaGreatDoorY00
set_option linter.unusedVariables false
set_option linter.unusedSimpArgs false
set_option maxHeartbeats 16000000
set_option maxRecDepth 1000000
namespace Go.Proofs.YtjjaojnglnpgaaaGreatDoor
section
open Go.RowKit
theorem Gp(p q:Addr)(w:World):
  CallsD Tryz.prog 75 #[.pointer (some p),.pointer (some q)] .returning w fun e u' w'=>e = .returned (.tuple #[])∧u' = .returning∧w'=w:=by
 refine callsD_of_wpS Tryz.func75 rfl fun c₀ cs hu=>?_;apply wpS_seq;apply wpS_region;simp[wpOpsS,go_sem,recoverD,hu,Tryz.ntmps75,Exit.thenS];refine wpS_of_wp ?_;rw[show(#[Value.pointer (some p),Value.pointer (some q)]++(((Array.replicate 15 undef).setIfInBounds 3 Value.nilIface).setIfInBounds 0 Value.nilIface))=#[.pointer (some p),.pointer (some q),.nilIface,undef,undef,.nilIface,undef,undef,undef,undef,undef,undef,undef,undef,undef,undef,undef]from rfl]
 go_wp2_with fail
 cases c₀;simp_all [bodyPostS,results,Tryz.results75]
abbrev aY:List Value:=[.int .u8 0,.string {data:=#[]},.string {data:=#[]},.string {data:=#[]},.string {data:=#[]},.int .u8 0,.string {data:=#[]},.string {data:=#[]},.int .i64 0,.slice none 0 0,.slice none 0 0,.int .u8 0,.slice none 0 0,.int .i64 0,.int .i64 0,.string {data:=#[]},.string {data:=#[]},.slice none 0 0,.slice none 0 0,.slice none 0 0]
def jV(w:World)(p q:Nat):World:=((w.alloc (.cells #[] 136)).setCells p 0 aY).setCell ⟨q,0,none⟩ (.bool false)
theorem Nj:aY.toArray.all (·.oneCell')=true:=all_oneCell_toArray (cs:=aY) (by
 intro v hv;simp only[aY,List.mem_cons,List.not_mem_nil,or_false]at hv;rcases hv with rfl|rfl|rfl|rfl|rfl|rfl|rfl|rfl|rfl|rfl|rfl|rfl|rfl|rfl|rfl|rfl|rfl|rfl|rfl|rfl<;>rfl)
theorem mg:(Tryz.prog.info? 46).map (·.size)=some 20:=by kernel_rfl
theorem y8(p q:Nat)(z:Value)(w:World)(older:List PanicEntry)(hp:w.cell? ⟨q,0,none⟩=some z)(Nk:w.frozen? ⟨q,0,none⟩=false)(hpq :¬p=q)(ht:w.there p 0 20):
  CallsD Tryz.prog 75 #[.pointer (some ⟨p,0,none⟩),.pointer (some ⟨q,0,none⟩)] (.panicking ({v:= .iface 136 (.agg #[]),recovered:=false}::older)) w fun e u' w' =>
   e = .returned (.tuple #[])∧u' = .panicking ({v:= .iface 136 (.agg #[]),recovered:=true}::older)∧w'=jV w p q:=by
 refine callsD_of_wpS Tryz.func75 rfl fun c₀ cs hu=>?_;apply wpS_seq;apply wpS_region;simp[wpOpsS,go_sem,recoverD,hu,Tryz.ntmps75,Exit.thenS];have uY :¬q=p:=fun e=>hpq e.symm;have EE:=block_lt_of_cell hp;have hbb:=az w (.cells #[] 136);have Ht:(w.alloc (.cells #[] 136)).there p 0 20:=World.there_alloc ht _;have Hp:((w.alloc (.cells #[] 136)).setCells p 0 aY).cell? ⟨q,0,none⟩=some z:=(World.cell?_setCells_out p aY 0 _ ⟨q,0,none⟩ (fun e _=>absurd e uY)).trans ((hbb.cell (p:=⟨q,0,none⟩) EE).trans hp);have Fp:((w.alloc (.cells #[] 136)).setCells p 0 aY).frozen? ⟨q,0,none⟩=false:=(World.frozen?_setCells p aY 0 _ _).trans ((hbb.frozen (p:=⟨q,0,none⟩) EE).trans Nk);have hta :∀w',(Instr.typeAssert (.iface 136 (.agg #[])) 20 136 true).run Tryz.prog w' = .ok (.tuple #[.agg #[],.bool true]) w':=fun w'=>by simp[Instr.typeAssert,run_underlying Tryz.underlying136]
 clear hbb hp Nk ht;refine wpS_of_wp ?_;rw[show(#[Value.pointer (some (⟨p,0,none⟩:Addr)),Value.pointer (some (⟨q,0,none⟩:Addr))]++(((Array.replicate 15 undef).setIfInBounds 3 (Value.iface 136 (Value.agg #[]))).setIfInBounds 0 (Value.iface 136 (Value.agg #[]))))=#[.pointer (some ⟨p,0,none⟩),.pointer (some ⟨q,0,none⟩),.iface 136 (.agg #[]),undef,undef,.iface 136 (.agg #[]),undef,undef,undef,undef,undef,undef,undef,undef,undef,undef,undef]from rfl]
 go_upto_region 5 with fail
 generalize hWw:w.alloc (.cells #[] 136)=W at Hp Fp Ht⊢;generalize hV:W.setCells p 0 aY=V at Hp Fp;have HW:=hide hWw;have HV:=hide hV;clear hWw hV
 go_wp2_with(refine wpList_store_mid rfl _ _ _ rfl p 0 aY.toArray rfl rfl Ht mg Nj ?_;rw[show W.setCells p 0 aY.toArray.toList=V from HV.out])
 clear hta Hp Fp Ht;cases c₀;simp_all [bodyPostS,results,Tryz.results75];unfold jV;rw[HW.out,HV.out]
theorem RI(last:Bool)(s:List UInt8){p:Int}(hp:Lib.indexByte s 10=p):kN last s↔s≠[]∧¬(0≤p∧p<s.length-1)∧(p<0→last=true):=by
 have hge:=Lib.indexByte_ge s 10;rw[hp]at hge;unfold kN;by_cases h0:p<0
 ·have e:p = -1:=by omega
  subst e;have hn:=Lib.indexByte_none hp;constructor
  ·rintro⟨h1,h2,h3⟩;refine⟨h1,by omega,fun _=>?_⟩;rcases h3 with h3|h3
   ·exact h3
   ·rw[List.getLast?_eq_getElem?]at h3;exact absurd h3 (hn _)
  ·rintro⟨h1,_,h3⟩;exact⟨h1,fun i _=>hn i,.inl (h3 (by omega))⟩
 ·obtain⟨o,rfl⟩:=Int.eq_ofNat_of_zero_le (a:=p) (by omega);obtain⟨hs,hlt⟩:=Lib.indexByte_some hp;have hol:o<s.length:=(List.getElem?_eq_some_iff.1 hs).1;constructor
  ·rintro⟨h1,h2,h3⟩;refine⟨h1,fun h=>h2 o (by omega) hs,by omega⟩
  ·rintro⟨h1,h2,_⟩;have e:o=s.length-1:=by omega
   refine⟨h1,fun i hi=>hlt i (by omega),.inr ?_⟩;rw[List.getLast?_eq_getElem?,←e];exact hs
theorem RJ{l:List ByteArray}{k:Nat}(hk:k<l.length){s:ByteArray}(hs:l[k]?=some s):LinesOk (l.drop k)↔kN (decide (k+1=l.length)) s.data.toList∧LinesOk (l.drop (k+1)):=by
 have e:l[k]=s:=by
  have:=List.getElem?_eq_getElem hk;rw[this]at hs;injection hs
 rw[List.drop_eq_getElem_cons hk,LinesOk,e];have:(l.drop (k+1)).isEmpty=decide (k+1=l.length):=by
  rw[Bool.eq_iff_iff];simp;omega
 rw[this]
theorem WJ{l:List ByteArray}{k:Nat}(h:LinesOk l↔LinesOk (l.drop k))(hk:k<l.length){s:ByteArray}(hs:l[k]?=some s){p:Int}(hp:Lib.indexByte s.data.toList 10=p)
  (hok :¬s.toList=[]∧¬(0≤p∧p<(s.size:Int)-1)∧(p<0→k+1=l.length)):LinesOk l↔LinesOk (l.drop (k+1)):=by
 rw[ByteArray.toList_eq]at hok;have hl:s.data.toList.length=s.size:=by simp
 rw[←hl]at hok;rw[h,RJ hk hs,RI _ _ hp];simp only[decide_eq_true_eq];exact⟨fun h=>h.2,fun h=>⟨hok,h⟩⟩
theorem uZ{l:List ByteArray}{k:Nat}(h:LinesOk l↔LinesOk (l.drop k))(hk:k<l.length){s:ByteArray}(hs:l[k]?=some s){p:Int}(hp:Lib.indexByte s.data.toList 10=p)
  (hok :¬(¬s.toList=[]∧¬(0≤p∧p<(s.size:Int)-1)∧(p<0→k+1=l.length))):¬LinesOk l:=by
 rw[ByteArray.toList_eq]at hok;have hl:s.data.toList.length=s.size:=by simp
 rw[←hl]at hok;rw[h,RJ hk hs,RI _ _ hp];simp only[decide_eq_true_eq];exact fun h=>hok h.1
theorem qJ{l:List ByteArray}{k:Nat}(h:LinesOk l↔LinesOk (l.drop k))(hk :¬k<l.length):LinesOk l:=by
 rw[h,List.drop_eq_nil_of_le (by omega)];trivial
theorem RN{S:Nat→Prop}{A:Option Addr}{c:Nat}{l:List ByteArray}{w:World}(hl:bH S w A l):
    Calls Tryz.prog 214 #[.slice A l.length c] w fun e w'=>ag (LinesOk l) e∧w=w':=by
  have hl3:=hl.2.2;have Hl:=hide hl;clear hl;go_enter Tryz.func214,Tryz.ntmps214
  go_wp2_with fail
  go_loop [8,3,4,5,15,29] (fun i _ _ _ _ _=>∃k:Nat,k≤l.length∧i = .int .i64 k∧Hid (LinesOk l↔LinesOk (l.drop k))) (fun i _ _ _ _ _=>l.length-(intOf i).toNat)
  case atStart=>exact⟨0,Nat.zero_le _,rfl,hide Iff.rfl⟩
  case round =>
    obtain⟨k,hk,rfl,hall⟩:=hrel;by_cases hlt:k<l.length
    · obtain⟨b,o,rfl,h1⟩:=Hl.out.1.at_ (j:=k) (by simpa using hlt)
      simp only[List.getElem_map]at h1;have hsz:=Hl.out.2.1 _ (List.getElem_mem hlt);have E:=hide (show l[k]?=some l[k]by simp[hlt]);generalize l[k]=s at h1 hsz E;have hge:=Lib.indexByte_ge s.data.toList 10;obtain⟨p,hp⟩:∃p,Lib.indexByte s.data.toList 10=p:=⟨_,rfl⟩;rw[hp]at hge;have hup:p<s.size+1:=by
        rcases Int.lt_or_le p 0 with h|h
        · omega
        · obtain⟨q,rfl⟩:=Int.eq_ofNat_of_zero_le h
          have:=(List.getElem?_eq_some_iff.1 (Lib.indexByte_some hp).1).1;simp at this;omega
      have Hp:=hide hp;clear hp
      go_wp2_with(go_at_call 213;refine(Tryz.strings_IndexByte s 10 _).mono ?_;rintro e w' ⟨rfl,rfl⟩;simp only[show((10:Int).toNat.toUInt8)=10 from rfl,Hp.out])
      all_goals first
        | (go_ret
           exact⟨ag.no (uZ hall.out hlt E.out Hp.out (by go_tidy;clear hall Hp E Hl;grind)),rfl⟩)
        | (go_round
           case rel=>exact⟨k+1,by omega,by go_num,hide (WJ hall.out hlt E.out Hp.out (by go_tidy;clear hall Hp E Hl;grind))⟩
           case measure=>simp[intOf];omega)
    · go_wp2_with fail
      go_ret;exact⟨ag.yes (qJ hall.out hlt),rfl⟩
theorem WL{S:Nat→Prop}{x:Hh}{a:Hk}{w:World}(ha:gW S w x a):
  Calls Tryz.prog 172 #[.agg #[.int .i64 a.at_,.slice x.oA a.old.length x.oc,.slice x.nA a.new.length x.nc]] w
   fun e w'=>ag (yl a) e∧Below w.heap.size w w':=by
 have h1:=ha.at_;unfold ay at h1;have Ha:=hide ha;have fU:Hid (yl a↔0≤a.at_∧a.at_≤1099511627776∧LinesOk a.old∧LinesOk a.new∧a.old≠a.new):=hide Iff.rfl;clear ha;go_enter Tryz.func172,Tryz.ntmps172
 go_wp2_with(first
  | (go_at_call 214;(with_reducible refine(RN (Ha.out.old.below (az _ _))).mono ?_);rintro e w1 ⟨⟨b1,rfl,hb⟩,rfl⟩;have Hb1:=hide hb;clear hb)
  | (go_at_call 214;(with_reducible refine(RN (Ha.out.new.below (az _ _))).mono ?_);rintro e w1 ⟨⟨b2,rfl,hb⟩,rfl⟩;have Hb2:=hide hb;clear hb)
  | (go_at_call 215;(with_reducible refine(LP (Ha.out.old.below (az _ _)) (Ha.out.new.below (az _ _))).mono ?_);rintro e w1 ⟨⟨b3,rfl,hb⟩,q,rfl⟩;have Hb3:=hide hb;clear hb))
 all_goals
  go_ret;go_tidy;refine⟨ag.mk ?_,?_⟩
  ·rw[fU.out]
   first
    | (have h1:=Hb1.out;have h2:=Hb2.out;have h3:=Hb3.out;clear Hb1 Hb2 Hb3 Ha fU;grind)
    | (have h1:=Hb1.out;have h2:=Hb2.out;clear Hb1 Hb2 Ha fU;grind)
    | (have h1:=Hb1.out;clear Hb1 Ha fU;grind)
    | grind
  ·first
    | exact az _ _
    | exact bW (az _ _) _
end
end Go.Proofs.YtjjaojnglnpgaaaGreatDoor
