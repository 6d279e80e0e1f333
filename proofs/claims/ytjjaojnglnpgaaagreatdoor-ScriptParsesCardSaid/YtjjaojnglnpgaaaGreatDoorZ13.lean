/- Part 14 of what scriptParses_card rests on. -/
import Derived.Defers
import Derived.Recover
import Derived.Laws.EntriesVeiled
import Derived.Deep.RegionHeld3
import Derived.Deep.CutBlock
import Derived.Deep.DeepCutAuto
import Derived.BigQuiet
import Derived.Test.YtjjaojnglnpgaaaGreatDoorZ11
import Derived.Test.YtjjaojnglnpgaaaGreatDoorZ12
import Derived.Test.YtjjaojnglnpgaaaGreatDoorZ10
import Derived.Test.YtjjaojnglnpgaaaGreatDoorZ00
set_option linter.unusedVariables false
set_option linter.unusedSimpArgs false
set_option maxHeartbeats 16000000
set_option maxRecDepth 1000000
namespace Go.Proofs.YtjjaojnglnpgaaaGreatDoor
section
open Go.RowKit
theorem idle(p q:Addr)(w:World):
  CallsD Tryz.prog 211 #[.pointer (some p),.pointer (some q)] .returning w fun e u' w'=>e = .returned (.tuple #[])∧u' = .returning∧w'=w:=by
 refine callsD_of_wpS Tryz.func211 rfl fun c₀ cs hu=>?_;apply wpS_seq;apply wpS_region;simp[wpOpsS,go_sem,recoverD,hu,Tryz.ntmps211,Exit.thenS];refine wpS_of_wp ?_;rw[show(#[Value.pointer (some p),Value.pointer (some q)]++(((Array.replicate 14 undef).setIfInBounds 2 Value.nilIface).setIfInBounds 0 Value.nilIface))=#[.pointer (some p),.pointer (some q),.nilIface,undef,.nilIface,undef,undef,undef,undef,undef,undef,undef,undef,undef,undef,undef]from rfl]
 go_wp2_with fail
 cases c₀;simp_all [bodyPostS,results,Tryz.results211]
abbrev wiped(w:World)(p q:Nat):World:=(((((((((((((((w.setCell ⟨p,0,none⟩ (.int .i64 4)).setCell ⟨q,0,none⟩ (.int .u8 0)).setCell ⟨q,1,none⟩ (.string {data:=#[]})).setCell ⟨q,2,none⟩ (.string {data:=#[]})).setCell ⟨q,3,none⟩ (.int .i64 0)).setCell ⟨q,4,none⟩ (.slice none 0 0)).setCell ⟨q,5,none⟩ (.slice none 0 0)).setCell ⟨q,6,none⟩ (.int .u8 0)).setCell ⟨q,7,none⟩ (.slice none 0 0)).setCell ⟨q,8,none⟩ (.int .i64 0)).setCell ⟨q,9,none⟩ (.int .i64 0)).setCell ⟨q,10,none⟩ (.string {data:=#[]})).setCell ⟨q,11,none⟩ (.string {data:=#[]})).setCell ⟨q,12,none⟩ (.slice none 0 0)).setCell ⟨q,13,none⟩ (.slice none 0 0))
theorem caught(p q:Nat)(z:Value)(w:World)(older:List PanicEntry)(hp:w.cell? ⟨p,0,none⟩=some z)(Me:w.frozen? ⟨p,0,none⟩=false)(hpq :¬p=q)(hq:Has w q 14)(RI :∀o,w.frozen? ⟨q,o,none⟩=false):
  CallsD Tryz.prog 211 #[.pointer (some ⟨p,0,none⟩),.pointer (some ⟨q,0,none⟩)] (.panicking ({v:= .iface 24 (.int .i64 4),recovered:=false}::older)) w fun e u' w' =>
   e = .returned (.tuple #[])∧u' = .panicking ({v:= .iface 24 (.int .i64 4),recovered:=true}::older)∧w'=wiped w p q:=by
 refine callsD_of_wpS Tryz.func211 rfl fun c₀ cs hu=>?_;apply wpS_seq;apply wpS_region;simp[wpOpsS,go_sem,recoverD,hu,Tryz.ntmps211,Exit.thenS];have qO :¬q=p:=fun e=>hpq e.symm;obtain⟨v0,q0⟩:=hq 0 (by omega);obtain⟨v1,q1⟩:=hq 1 (by omega);obtain⟨v2,q2⟩:=hq 2 (by omega);obtain⟨v3,q3⟩:=hq 3 (by omega);obtain⟨v4,q4⟩:=hq 4 (by omega);obtain⟨v5,q5⟩:=hq 5 (by omega);obtain⟨v6,q6⟩:=hq 6 (by omega);obtain⟨v7,q7⟩:=hq 7 (by omega);obtain⟨v8,q8⟩:=hq 8 (by omega);obtain⟨v9,q9⟩:=hq 9 (by omega);obtain⟨v10,q10⟩:=hq 10 (by omega);obtain⟨v11,q11⟩:=hq 11 (by omega);obtain⟨v12,q12⟩:=hq 12 (by omega);obtain⟨v13,q13⟩:=hq 13 (by omega);clear hq;have hta :∀w',(Instr.typeAssert (.iface 24 (.int .i64 4)) 20 24 true).run Tryz.prog w' = .ok (.tuple #[.int .i64 4,.bool true]) w':=fun w'=>by simp[Instr.typeAssert,run_underlying Tryz.underlying24]
 refine wpS_of_wp ?_;rw[show(#[Value.pointer (some (⟨p,0,none⟩:Addr)),Value.pointer (some (⟨q,0,none⟩:Addr))]++(((Array.replicate 14 undef).setIfInBounds 2 (Value.iface 24 (Value.int IntKind.i64 4))).setIfInBounds 0 (Value.iface 24 (Value.int IntKind.i64 4))))=#[.pointer (some ⟨p,0,none⟩),.pointer (some ⟨q,0,none⟩),.iface 24 (.int .i64 4),undef,.iface 24 (.int .i64 4),undef,undef,undef,undef,undef,undef,undef,undef,undef,undef,undef]from rfl]
 go_wp2_with fail
 cases c₀;simp_all [bodyPostS,results,Tryz.results211]
theorem mG{S:Nat→Prop}{k:Nat}{t:ByteArray}{n:Int}{ks:Fo}{KA:Option Addr}{c:Nat}{w:World}(hk:k<256)(ht:t.size≤9223372036854775807)(hn:isInt64 n)(hl:ks.len≤c)(hc:c≤9223372036854775807)
  (hks:FoIn S w KA ks) (htab:TabOk w):
  Calls Tryz.prog 259 #[.agg #[.int .u8 k,.string t,.int .i64 n,.slice KA ks.len c]] w fun e w'=>RetB (NodeOk 40 k t n ks) e∧Below w.heap.size w w':=by
 have fO:=hide hks;have af:Hid (TabOk w):=htab;have Hn:=hide hn;clear hks htab hn;have hmf :∀(fn:Fn) (first cap:Array Value) (w:World),(Instr.makeFunc fn first cap).run Tryz.prog w = .ok (.func fn first cap) w:=fun _ _ _ _=>rfl;go_enter Tryz.func259,Tryz.ntmps259
 go_wp2_with(go_at_call 282;refine(WQ (ks.cnt+1) S k t n ks KA c _ 1 _ _ (by omega) (by omega) hk ht Hn.out hl hc (fO.out.below (bT _ _)) (af.out.below (bT _ _)) (by simp) (by omega) (by omega)).mono ?_;rintro e w1 ⟨⟨b,rfl,hb⟩,hB⟩;have Hb:=hide hb;have HB:=hide (xQ hB);clear hb hB)
 go_ret;exact⟨RetB.mk Hb.out,HB.out⟩
theorem dO(n:Int)(w:World)(hn:isInt64 n):Calls Tryz.prog 218 #[.int .i64 n] w fun e w'=>RetB (Number n) e∧w'=w:=by
 unfold isInt64 at hn;go_enter Tryz.func218,Tryz.ntmps218
 go_wp2_with fail
 all_goals(go_ret;go_tidy;exact⟨RetB.mk (by unfold Number;grind),rfl⟩)
theorem WZ(n:Int)(w:World)(hn:isInt64 n):Calls Tryz.prog 217 #[.int .i64 n] w fun e w'=>RetB (¬Number n) e∧w'=w:=by
 have Hn:=hide hn;clear hn;go_enter Tryz.func217,Tryz.ntmps217
 go_wp2_with(go_at_call 218;refine(dO n _ Hn.out).mono ?_;rintro e w1 ⟨⟨b,rfl,hb⟩,rfl⟩;have Hb:=hide hb;clear hb)
 go_ret;exact⟨RetB.mk (by rw[←Hb.out];simp),rfl⟩
theorem W9{S:Nat→Prop}{A:Option Addr}{c:Nat}{l:List Int}{w:World}(hl:IntsIn S w A l):
  Calls Tryz.prog 254 #[.slice A l.length c,.func (.func 217) #[] #[]] w fun e w'=>(∃r:Int,e = .returned (.int .i64 r)∧isInt64 r∧(0≤r↔∃n∈l,¬Number n))∧w'=w:=by
 have Hl:=hide hl;have hlen:l.length≤9223372036854775807:=hl.2.2;clear hl;go_enter Tryz.func254,Tryz.ntmps254
 go_wp2_with fail
 go_loopw [8,5] (fun i _ wr=>∃q:Nat,q≤l.length∧i = .int .i64 q∧wr=w∧Hid (∀j,(h:j<l.length)→j<q→Number l[j])) (fun i _ _=>l.length-(intOf i).toNat)
 case atStart=>exact⟨0,Nat.zero_le _,rfl,rfl,hide (by omega)⟩
 case round =>
  obtain⟨i,hi,rfl,rfl,hall⟩:=hrel;by_cases hlt:i<l.length
  ·obtain⟨b,o,rfl,hc⟩:=Hl.out.1.at_ (j:=i) (by simpa using hlt);simp only[List.getElem_map]at hc;have hi64:=hide (Hl.out.2.1 l[i] (List.getElem_mem hlt))
   go_wp2_with(go_at_call 217;refine(WZ l[i] _ hi64.out).mono ?_;rintro e w1 ⟨⟨_|_,rfl,hb⟩,rfl⟩<;>(have Hb:=hide hb;clear hb))
   ·go_roundw
    case rel=>exact⟨i+1,by omega,by go_num,(by first|rfl|trivial),hide fun j hj hji=>if h:j=i then by subst h;exact Classical.byContradiction fun hn=>absurd (Hb.out.mpr hn) (by decide)else hall.out j hj (by omega)⟩
    case measure=>simp[intOf];omega
   ·go_ret;exact⟨⟨i,rfl,by unfold isInt64;omega,iff_of_true (by omega) ⟨l[i],List.getElem_mem hlt,Hb.out.mp (by first|rfl|trivial)⟩⟩,rfl⟩
  ·go_wp2_with fail
   go_ret;refine⟨⟨-1,rfl,by unfold isInt64;omega,iff_of_false (by omega) ?_⟩,rfl⟩;rintro⟨n,hn,hnn⟩;obtain⟨j,hj,rfl⟩:=List.getElem_of_mem hn;exact hnn (hall.out j hj (by omega))
theorem kP{S:Nat→Prop}{A:Option Addr}{c:Nat}{l:List Int}{w:World}(hl:IntsIn S w A l):
  Calls Tryz.prog 216 #[.slice A l.length c,.func (.func 217) #[] #[]] w fun e w'=>RetB (∃n∈l,¬Number n) e∧w'=w:=by
 have Hl:=hide hl;clear hl;go_enter Tryz.func216,Tryz.ntmps216
 go_wp2_with(go_at_call 254;refine(W9 Hl.out).mono ?_;rintro e w1 ⟨⟨r,rfl,hr,hb⟩,rfl⟩;have Hb:=hide hb;clear hb)
 go_ret;exact⟨RetB.mk (by rw[←Hb.out];simp),rfl⟩
theorem dD{S:Nat→Prop}{A:Option Addr}{c:Nat}{f:Fo}{w:World}(hf:FoIn S w A f)(hl:f.len≤c)(hc:c≤9223372036854775807)(htab:TabOk w):
  Calls Tryz.prog 220 #[.slice A f.len c] w fun e w'=>RetB (PartOk f) e∧Below w.heap.size w w':=by
 have af:Hid (TabOk w):=htab;by_cases h1:f.len=1
 ·obtain⟨k,t,n,ks,r,rfl⟩:=jo (f:=f) (by omega);have hr:r = .nil:=by cases r with
   | nil=>rfl
   | cons=>simp[Fo.len]at h1
  subst hr;obtain⟨b,o,KA,c',rfl,hS,c0,c1,c2,c3,e1,e2,e3,e4,e5,hks,_⟩:=hf;have fO:=hide hks;have He:=hide e3;have hq:(((Fo.cons k t n ks .nil).len:Int) == 1)=true:=by simp[Fo.len]
  have hl0:0<(Fo.cons k t n ks .nil).len:=by simp[Fo.len]
  clear hks htab h1 e3;go_enter Tryz.func220,Tryz.ntmps220
  go_wp2_with(go_at_call 259;refine(mG e1 e2 He.out e4 e5 fO.out af.out).mono ?_;rintro e w1 ⟨⟨b,rfl,hb⟩,hB⟩;have Hb:=hide hb;have HB:=hide hB;clear hb hB)
  go_ret;exact⟨RetB.mk Hb.out,HB.out⟩
 ·have hq:((f.len:Int) == 1)=false:=by simp;omega
  have H1:=hide h1;clear htab h1 hf;go_enter Tryz.func220,Tryz.ntmps220
  go_wp2_with fail
  go_ret;refine⟨RetB.no (fun h=>?_),Below.refl _ _⟩;have h1:=H1.out;cases f with
  | nil=>exact h
  | cons k t n ks r=>cases r with
   | nil=>simp[Fo.len]at h1
   | cons=>exact h
theorem Xa:(Tryz.prog.info? 238).map (fun i=>(i.zero,i.size,i.bytes))=some (some (.slice none 0 0),1,24):=by kernel_rfl
theorem RJ{w:World}:Calls Tryz.prog 96 #[.slice none 0 0] w fun e w'=>e = .returned (.bool true)∧Below w.heap.size w w':=by
 obtain⟨i1,hi1,aN,az,aP⟩:=info_parts Xa;go_enter Tryz.func96,Tryz.ntmps96
 go_wp2_with fail
 go_loopg [3] 0 (fun g k wx=>k = .int .i64 0∧Hid (Below w.heap.size w wx))
 case atStart=>exact⟨rfl,hide (Below.refl _ _)⟩
 case round =>
 obtain⟨rfl,HB⟩:=hrel
 go_wp2_with(at_make;refine wpList_make_full _ rfl _ _ 86 rfl 0 238 i1 (.slice none 0 0) 1 Tryz.underlying86 hi1 aN az _ _ _ _ 0 rfl rfl rfl rfl (by rw[aP];omega) (by unfold maxLen;omega) (Nat.zero_le _) ?_)
 intro w1 hown hgrow;have HB1:=hide (HB.out.trans ((Below.refl wr.heap.size wr).grown hgrow (aC _) (by simp)|>.mono HB.out.size));clear hown hgrow HB;generalize wr.heap.size=GB
 go_wp2_with fail
 go_loopg [6] 0 (fun g k wx=>k = .int .i64 0∧Hid (Below w.heap.size w wx))
 case atStart=>exact⟨rfl,HB1⟩
 case round =>
 clear HB1;obtain⟨rfl,aV⟩:=hrel
 go_wp2_with fail
 go_loopg [9] 0 (fun g k wx=>k = .int .i64 0∧Hid (Below w.heap.size w wx))
 case atStart=>exact⟨rfl,aV⟩
 case round =>
 clear aV;obtain⟨rfl,aQ⟩:=hrel
 go_wp2_with fail
 go_loopg [11] 0 (fun g k wx=>k = .int .i64 0∧Hid (Below w.heap.size w wx))
 case atStart=>exact⟨rfl,aQ⟩
 case round =>
 clear aQ;obtain⟨rfl,ax⟩:=hrel
 go_wp2_with fail
 go_loopg [14] 0 (fun g k wx=>k = .int .i64 0∧Hid (Below w.heap.size w wx))
 case atStart=>exact⟨rfl,ax⟩
 case round =>
 clear ax;obtain⟨rfl,aS⟩:=hrel
 go_wp2_with fail
 go_ret;exact⟨rfl,aS.out⟩
theorem Xb:(Tryz.prog.info? 243).map (fun i=>(i.zero,i.size,i.bytes))=some (some (.slice none 0 0),1,24):=by kernel_rfl
theorem RN{w:World}:Calls Tryz.prog 97 #[.slice none 0 0] w fun e w'=>e = .returned (.bool true)∧Below w.heap.size w w':=by
 obtain⟨i1,hi1,aN,az,aP⟩:=info_parts Xb;go_enter Tryz.func97,Tryz.ntmps97
 go_wp2_with fail
 go_loopg [3] 0 (fun g k wx=>k = .int .i64 0∧Hid (Below w.heap.size w wx))
 case atStart=>exact⟨rfl,hide (Below.refl _ _)⟩
 case round =>
 obtain⟨rfl,HB⟩:=hrel
 go_wp2_with(at_make;refine wpList_make_full _ rfl _ _ 87 rfl 0 243 i1 (.slice none 0 0) 1 Tryz.underlying87 hi1 aN az _ _ _ _ 0 rfl rfl rfl rfl (by rw[aP];omega) (by unfold maxLen;omega) (Nat.zero_le _) ?_)
 intro w1 hown hgrow;have HB1:=hide (HB.out.trans ((Below.refl wr.heap.size wr).grown hgrow (aC _) (by simp)|>.mono HB.out.size));clear hown hgrow HB;generalize wr.heap.size=GB
 go_wp2_with fail
 go_loopg [6] 0 (fun g k wx=>k = .int .i64 0∧Hid (Below w.heap.size w wx))
 case atStart=>exact⟨rfl,HB1⟩
 case round =>
 clear HB1;obtain⟨rfl,aV⟩:=hrel
 go_wp2_with fail
 go_loopg [9] 0 (fun g k wx=>k = .int .i64 0∧Hid (Below w.heap.size w wx))
 case atStart=>exact⟨rfl,aV⟩
 case round =>
 clear aV;obtain⟨rfl,aQ⟩:=hrel
 go_wp2_with fail
 go_loopg [11] 0 (fun g k wx=>k = .int .i64 0∧Hid (Below w.heap.size w wx))
 case atStart=>exact⟨rfl,aQ⟩
 case round =>
 clear aQ;obtain⟨rfl,ax⟩:=hrel
 go_wp2_with fail
 go_loopg [14] 0 (fun g k wx=>k = .int .i64 0∧Hid (Below w.heap.size w wx))
 case atStart=>exact⟨rfl,ax⟩
 case round =>
 clear ax;obtain⟨rfl,aS⟩:=hrel
 go_wp2_with fail
 go_ret;exact⟨rfl,aS.out⟩
theorem Xc:(Tryz.prog.info? 249).map (fun i=>(i.zero,i.size,i.bytes))=some (some (.slice none 0 0),1,24):=by kernel_rfl
theorem RP{w:World}:Calls Tryz.prog 98 #[.slice none 0 0] w fun e w'=>e = .returned (.bool true)∧Below w.heap.size w w':=by
 obtain⟨i1,hi1,aN,az,aP⟩:=info_parts Xc;go_enter Tryz.func98,Tryz.ntmps98
 go_wp2_with fail
 go_loopg [3] 0 (fun g k wx=>k = .int .i64 0∧Hid (Below w.heap.size w wx))
 case atStart=>exact⟨rfl,hide (Below.refl _ _)⟩
 case round =>
 obtain⟨rfl,HB⟩:=hrel
 go_wp2_with(at_make;refine wpList_make_full _ rfl _ _ 88 rfl 0 249 i1 (.slice none 0 0) 1 Tryz.underlying88 hi1 aN az _ _ _ _ 0 rfl rfl rfl rfl (by rw[aP];omega) (by unfold maxLen;omega) (Nat.zero_le _) ?_)
 intro w1 hown hgrow;have HB1:=hide (HB.out.trans ((Below.refl wr.heap.size wr).grown hgrow (aC _) (by simp)|>.mono HB.out.size));clear hown hgrow HB;generalize wr.heap.size=GB
 go_wp2_with fail
 go_loopg [6] 0 (fun g k wx=>k = .int .i64 0∧Hid (Below w.heap.size w wx))
 case atStart=>exact⟨rfl,HB1⟩
 case round =>
 clear HB1;obtain⟨rfl,aV⟩:=hrel
 go_wp2_with fail
 go_loopg [9] 0 (fun g k wx=>k = .int .i64 0∧Hid (Below w.heap.size w wx))
 case atStart=>exact⟨rfl,aV⟩
 case round =>
 clear aV;obtain⟨rfl,aQ⟩:=hrel
 go_wp2_with fail
 go_loopg [11] 0 (fun g k wx=>k = .int .i64 0∧Hid (Below w.heap.size w wx))
 case atStart=>exact⟨rfl,aQ⟩
 case round =>
 clear aQ;obtain⟨rfl,ax⟩:=hrel
 go_wp2_with fail
 go_loopg [14] 0 (fun g k wx=>k = .int .i64 0∧Hid (Below w.heap.size w wx))
 case atStart=>exact⟨rfl,ax⟩
 case round =>
 clear ax;obtain⟨rfl,aS⟩:=hrel
 go_wp2_with fail
 go_ret;exact⟨rfl,aS.out⟩
theorem Xd:(Tryz.prog.info? 255).map (fun i=>(i.zero,i.size,i.bytes))=some (some (.slice none 0 0),1,24):=by kernel_rfl
theorem RQ{w:World}:Calls Tryz.prog 100 #[.slice none 0 0] w fun e w'=>e = .returned (.bool true)∧Below w.heap.size w w':=by
 obtain⟨i1,hi1,aN,az,aP⟩:=info_parts Xd;go_enter Tryz.func100,Tryz.ntmps100
 go_wp2_with fail
 go_loopg [3] 0 (fun g k wx=>k = .int .i64 0∧Hid (Below w.heap.size w wx))
 case atStart=>exact⟨rfl,hide (Below.refl _ _)⟩
 case round =>
 obtain⟨rfl,HB⟩:=hrel
 go_wp2_with(at_make;refine wpList_make_full _ rfl _ _ 89 rfl 0 255 i1 (.slice none 0 0) 1 Tryz.underlying89 hi1 aN az _ _ _ _ 0 rfl rfl rfl rfl (by rw[aP];omega) (by unfold maxLen;omega) (Nat.zero_le _) ?_)
 intro w1 hown hgrow;have HB1:=hide (HB.out.trans ((Below.refl wr.heap.size wr).grown hgrow (aC _) (by simp)|>.mono HB.out.size));clear hown hgrow HB;generalize wr.heap.size=GB
 go_wp2_with fail
 go_loopg [6] 0 (fun g k wx=>k = .int .i64 0∧Hid (Below w.heap.size w wx))
 case atStart=>exact⟨rfl,HB1⟩
 case round =>
 clear HB1;obtain⟨rfl,aV⟩:=hrel
 go_wp2_with fail
 go_loopg [9] 0 (fun g k wx=>k = .int .i64 0∧Hid (Below w.heap.size w wx))
 case atStart=>exact⟨rfl,aV⟩
 case round =>
 clear aV;obtain⟨rfl,aQ⟩:=hrel
 go_wp2_with fail
 go_loopg [11] 0 (fun g k wx=>k = .int .i64 0∧Hid (Below w.heap.size w wx))
 case atStart=>exact⟨rfl,aQ⟩
 case round =>
 clear aQ;obtain⟨rfl,ax⟩:=hrel
 go_wp2_with fail
 go_loopg [14] 0 (fun g k wx=>k = .int .i64 0∧Hid (Below w.heap.size w wx))
 case atStart=>exact⟨rfl,ax⟩
 case round =>
 clear ax;obtain⟨rfl,aS⟩:=hrel
 go_wp2_with fail
 go_ret;exact⟨rfl,aS.out⟩
end
end Go.Proofs.YtjjaojnglnpgaaaGreatDoor
