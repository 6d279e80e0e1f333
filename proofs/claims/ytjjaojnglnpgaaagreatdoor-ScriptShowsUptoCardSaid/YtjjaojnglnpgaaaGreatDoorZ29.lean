/- Part 30 of what scriptShows_cardUpto rests on. -/
import Derived.Deep.RegionWith
import Derived.Deep.DeepCutAuto
import Derived.Test.YtjjaojnglnpgaaaGreatDoorZ25
import Derived.Test.YtjjaojnglnpgaaaGreatDoorZ24
import Derived.Test.YtjjaojnglnpgaaaGreatDoorZ08
import Derived.Test.YtjjaojnglnpgaaaGreatDoorZ28
import Derived.Test.YtjjaojnglnpgaaaGreatDoorZ03
import Derived.Test.YtjjaojnglnpgaaaGreatDoorZ00
set_option linter.unusedVariables false
set_option linter.unusedSimpArgs false
set_option maxHeartbeats 16000000
set_option maxRecDepth 1000000
namespace Go.Proofs.YtjjaojnglnpgaaaGreatDoor
section
open Go.RowKit
theorem Gv{w wZ:World}{c:aY}{ps:List ByteArray}{A:Option Addr}{k B:Nat}(ho:wZ.ownsRow B 9 1 (.slice A ps.length k) ps.length (ps.map .string))(e:ps=aT c)(h:fM c)(hz:oh c)(hw:Below w.heap.size w wZ):
  Calls Tryz.prog 47 #[.slice A ps.length k] wZ fun e w'=>e = .returned (.string (kN c))∧Below w.heap.size w w':=by
 subst e;refine(Nv ho rfl (by simp[aT]) ?_ ?_).mono ?_
 ·have:(aT c).length≤7:=WL c;omega
 ·rw[←WE];exact yG h hz
 ·rintro e w' ⟨rfl,hB⟩;exact⟨by rw[WJ h,zjf],hw.trans (hB.mono hw.size)⟩
theorem yS{S:Nat→Prop}{x:Ph}{A:Option Addr}{n:Nat}{c:aY}{w:World}(hc:dF S w c x A n)(hz:oh c)(htab:bF w):
  Calls Tryz.prog 15 #[.agg (ag c x A n).toArray] w fun e w'=>e = .returned (.string (kN c))∧Below w.heap.size w w':=by
 obtain⟨fv,hfun,hlook⟩:=yJ hc.kind;obtain⟨is,RJ⟩:∃b,b=decide (1≤c.kind∧c.kind≤9):=⟨_,rfl⟩;rw[←RJ]at hlook;obtain⟨bf,RN⟩:∃b,b=decide ((c.kind:Int)∈[3,5]):=⟨_,rfl⟩;obtain⟨bn,RP⟩:∃b,b=decide ((c.kind:Int)∈[2,3,4]):=⟨_,rfl⟩;obtain⟨bi,RQ⟩:∃b,b=decide ((c.kind:Int)∈[6]):=⟨_,rfl⟩;obtain⟨bp,RS⟩:∃b,b=decide ((c.kind:Int)∈[2]):=⟨_,rfl⟩;obtain⟨bb,RU⟩:∃b,b=decide ((c.kind:Int)∈[9]):=⟨_,rfl⟩;have HH:Hid (∀W:World,Calls Tryz.prog 41 #[.int .u8 c.kind] W fun e w'=>e = .returned (.tuple #[.bool bf,.bool bn,.bool bi,.bool bp,.bool bb])∧Below W.heap.size W w'):=hide (by rw[RN,RP,RQ,RS,RU];exact fun W=>rC c.kind W);have HE:=hide (oq.mk RJ RN RP RQ RS RU);clear RJ RN RP RQ RS RU;have HC:=hide hc;have HT:=hide htab;have HS:=hide hz;have HL:=hide hlook;clear hc hz htab hlook;have HB:=hide (az w (.cells (ag c x A n).toArray 46));go_enter Tryz.func15,Tryz.ntmps15
 go_upto_region 1 with fail
 go_cut [3,4] (fun p q wx=>∃b:Nat,p = .pointer (some ⟨b,0,none⟩)∧q = .bool is∧F8 w wx b (ag c x A n) (kwOf c.kind))
 case first =>
  rcases hfun with⟨fi,rfl⟩|rfl
  all_goals
   go_region_with (go_at_call 40;(with_reducible refine(QK _).mono ?_);rintro e2 w2 ⟨rfl,hT,hB⟩;have hc0:=hB.cell (p:=⟨w.heap.size,0,none⟩) (by simp<;>omega);have hc1:=hB.cell (p:=⟨w.heap.size+1,0,none⟩);have hc2:=hB.cell (p:=⟨w.heap.size+1,1,none⟩);have hf1:=hB.frozen (p:=⟨w.heap.size+1,0,none⟩);have hf2:=hB.frozen (p:=⟨w.heap.size+1,1,none⟩);simp at hc0 hc1 hc2 hf1 hf2;have hlk:=HL.out _ _ hT;have hlk2:=(fun o=>HL.out _ _ (World.ownsMap.alloc hT o));simp at hlk hlk2;have hlt2:w.heap.size<w2.heap.size:=(by have h:=hB.size;simp at h;omega);have hne2 :¬w.heap.size=w2.heap.size:=(by omega);have HT2:=hide hT;have HB2:=hide hB;clear hT hB)
   all_goals(try simp only[Act.put,aG,aE,aF,aD,aA,aB])
   all_goals go_wp2_with fail
   all_goals go_meet
   all_goals
    first
     | exact⟨_,rfl,rfl,KJ (by first|exact IP w (ag c x A n) _|exact Ru (IP w (ag c x A n) _)|exact zji (IP w (ag c x A n) _)) (by first|exact HB.out|exact HB.out.drew|exact di HB.out _) (by simp) HB2.out⟩
     | exact⟨_,rfl,rfl,KL (by first|exact World.rangeAt_alloc (IP w (ag c x A n) _) _|exact Ru (World.rangeAt_alloc (IP w (ag c x A n) _) _)|exact World.rangeAt_alloc (Ru (IP w (ag c x A n) _)) _) (by first|exact HB.out.alloc (by simp) _|exact(HB.out.alloc (by simp) _).drew|exact HB.out.drew.alloc (by simp) _) (by simp) HB2.out (yK _ _ _ _ _)⟩
 case rest =>
 obtain⟨b3,rfl,rfl,hA⟩:=hcut;have HA:=hide hA;clear hA HB hfun;have k0:wc.cell? ⟨w.heap.size,0,none⟩=some (.int .u8 c.kind):=HA.out.box 0 _ rfl
 go_upto_region 3 with(go_at_call 41;(with_reducible refine(HH.out _).mono ?_);rintro e2 w2 ⟨rfl,hB2⟩;have HA2:=hide (HA.out.next hB2);clear hB2)
 have q1:w2.cell? ⟨w.heap.size,1,none⟩=some (.string c.repo):=HA2.out.box 1 _ rfl;have qb:w2.cell? ⟨b3,0,none⟩=some (.string (kwOf c.kind)):=HA2.out.word;have fF:=hide (Cf (t:=c.repo) HA2.out)
 go_upto_region 4 with fail
 generalize (w2.alloc (.cells #[.string (kwOf c.kind),.string c.repo] 9)).alloc (.cells #[.slice (some ⟨w2.heap.size,0,none⟩) 2 2] 34)=W4 at fF⊢;generalize w2.heap.size+1=P at fF⊢;clear k0 q1 qb HA HA2;have k1:W4.cell? ⟨w.heap.size,1,none⟩=_:=fF.out.box 1 _ rfl;have k5:W4.cell? ⟨w.heap.size,5,none⟩=_:=fF.out.box 5 _ rfl;have k6:W4.cell? ⟨w.heap.size,6,none⟩=_:=fF.out.box 6 _ rfl;have k7:W4.cell? ⟨w.heap.size,7,none⟩=_:=fF.out.box 7 _ rfl;have k8:W4.cell? ⟨w.heap.size,8,none⟩=_:=fF.out.box 8 _ rfl;have k9:W4.cell? ⟨w.heap.size,9,none⟩=_:=fF.out.box 9 _ rfl;have k10:W4.cell? ⟨w.heap.size,10,none⟩=_:=fF.out.box 10 _ rfl;have k11:W4.cell? ⟨w.heap.size,11,none⟩=_:=fF.out.box 11 _ rfl;have k12:W4.cell? ⟨w.heap.size,12,none⟩=_:=fF.out.box 12 _ rfl;have k13:W4.cell? ⟨w.heap.size,13,none⟩=_:=fF.out.box 13 _ rfl;have k14:W4.cell? ⟨w.heap.size,14,none⟩=_:=fF.out.box 14 _ rfl;have k15:W4.cell? ⟨w.heap.size,15,none⟩=_:=fF.out.box 15 _ rfl;have k16:W4.cell? ⟨w.heap.size,16,none⟩=_:=fF.out.box 16 _ rfl;have k17:W4.cell? ⟨w.heap.size,17,none⟩=_:=fF.out.box 17 _ rfl;have k18:W4.cell? ⟨w.heap.size,18,none⟩=_:=fF.out.box 18 _ rfl;have k19:W4.cell? ⟨w.heap.size,19,none⟩=_:=fF.out.box 19 _ rfl;obtain⟨z,ez⟩:∃z,z=zB c.patch:=⟨_,rfl⟩;obtain⟨wd,RV⟩:∃b,b=isWord c.repo:=⟨_,rfl⟩;have HZ:Hid (∀W:World,Calls Tryz.prog 43 #[.agg (bU c.patch x).toArray] W fun e w'=>e = .returned (.bool z)∧Below W.heap.size W w'):=hide fun W=>by
  refine(yR HS.out.rows HS.out.parts W).mono ?_;rintro e w' ⟨⟨b,rfl,hb⟩,hB⟩;exact⟨by rw[ez,Bool.eq_iff_iff.2 (hb.trans yD.symm)],hB⟩
 have HW:Hid (∀W:World,Calls Tryz.prog 42 #[.string c.repo] W fun e w'=>e = .returned (.bool wd)∧w'=W):=hide fun W=>by rw[RV];exact Fe c.repo W
 have RX:=hide (And.intro ez RV);clear ez RV
 go_cut [11] (fun r wx=>∃R:Nat,r = .pointer (some ⟨R,0,none⟩)∧fV w wx P R (ag c x A n) [kwOf c.kind,c.repo] (q0 is wd bp z bb ((c.bytes.length:Int) == 0)))
 case first =>
  rcases is with _|_
  ·go_wp2_with(first
    | (go_at_call 42;(with_reducible refine(HW.out _).mono ?_);rintro e3 w3 ⟨rfl,rfl⟩)
    | (go_at_call 43;(with_reducible refine(HZ.out _).mono ?_);rintro e5 w5 ⟨rfl,gy⟩;have iE:=hide gy;have ny:=(gy.cell (block_lt_of_cell k19)).trans k19;clear gy))
   all_goals go_meet
   all_goals first
    | exact⟨_,rfl,jC fF.out (Below.refl _ _) _ _⟩
    | exact⟨_,rfl,jC fF.out iE.out _ _⟩
    | (rw[hln];exact⟨_,rfl,jC fF.out (Below.refl _ _) _ _⟩)
    | (rw[hln];exact⟨_,rfl,jC fF.out iE.out _ _⟩)
  ·rcases wd with _|_
   ·go_wp2_with(first
     | (go_at_call 42;(with_reducible refine(HW.out _).mono ?_);rintro e3 w3 ⟨rfl,rfl⟩)
     | (go_at_call 43;(with_reducible refine(HZ.out _).mono ?_);rintro e5 w5 ⟨rfl,gy⟩;have iE:=hide gy;have ny:=(gy.cell (block_lt_of_cell k19)).trans k19;clear gy))
    all_goals go_meet
    all_goals first
     | exact⟨_,rfl,jC fF.out (Below.refl _ _) _ _⟩
     | exact⟨_,rfl,jC fF.out iE.out _ _⟩
     | (rw[hln];exact⟨_,rfl,jC fF.out (Below.refl _ _) _ _⟩)
     | (rw[hln];exact⟨_,rfl,jC fF.out iE.out _ _⟩)
   ·rcases bp with _|_
    ·rcases z with _|_
     ·go_wp2_with(first
       | (go_at_call 42;(with_reducible refine(HW.out _).mono ?_);rintro e3 w3 ⟨rfl,rfl⟩)
       | (go_at_call 43;(with_reducible refine(HZ.out _).mono ?_);rintro e5 w5 ⟨rfl,gy⟩;have iE:=hide gy;have ny:=(gy.cell (block_lt_of_cell k19)).trans k19;clear gy))
      all_goals go_meet
      all_goals first
       | exact⟨_,rfl,jC fF.out (Below.refl _ _) _ _⟩
       | exact⟨_,rfl,jC fF.out iE.out _ _⟩
       | (rw[hln];exact⟨_,rfl,jC fF.out (Below.refl _ _) _ _⟩)
       | (rw[hln];exact⟨_,rfl,jC fF.out iE.out _ _⟩)
     ·rcases bb with _|_
      ·rcases hln:((c.bytes.length:Int) == 0)with _|_
       ·go_wp2_with(first
         | (go_at_call 42;(with_reducible refine(HW.out _).mono ?_);rintro e3 w3 ⟨rfl,rfl⟩)
         | (go_at_call 43;(with_reducible refine(HZ.out _).mono ?_);rintro e5 w5 ⟨rfl,gy⟩;have iE:=hide gy;have ny:=(gy.cell (block_lt_of_cell k19)).trans k19;clear gy))
        all_goals go_meet
        all_goals first
         | exact⟨_,rfl,jC fF.out (Below.refl _ _) _ _⟩
         | exact⟨_,rfl,jC fF.out iE.out _ _⟩
         | (rw[hln];exact⟨_,rfl,jC fF.out (Below.refl _ _) _ _⟩)
         | (rw[hln];exact⟨_,rfl,jC fF.out iE.out _ _⟩)
       ·go_wp2_with(first
         | (go_at_call 42;(with_reducible refine(HW.out _).mono ?_);rintro e3 w3 ⟨rfl,rfl⟩)
         | (go_at_call 43;(with_reducible refine(HZ.out _).mono ?_);rintro e5 w5 ⟨rfl,gy⟩;have iE:=hide gy;have ny:=(gy.cell (block_lt_of_cell k19)).trans k19;clear gy))
        all_goals go_meet
        all_goals first
         | exact⟨_,rfl,jC fF.out (Below.refl _ _) _ _⟩
         | exact⟨_,rfl,jC fF.out iE.out _ _⟩
         | (rw[hln];exact⟨_,rfl,jC fF.out (Below.refl _ _) _ _⟩)
         | (rw[hln];exact⟨_,rfl,jC fF.out iE.out _ _⟩)
      ·go_wp2_with(first
        | (go_at_call 42;(with_reducible refine(HW.out _).mono ?_);rintro e3 w3 ⟨rfl,rfl⟩)
        | (go_at_call 43;(with_reducible refine(HZ.out _).mono ?_);rintro e5 w5 ⟨rfl,gy⟩;have iE:=hide gy;have ny:=(gy.cell (block_lt_of_cell k19)).trans k19;clear gy))
       all_goals go_meet
       all_goals first
        | exact⟨_,rfl,jC fF.out (Below.refl _ _) _ _⟩
        | exact⟨_,rfl,jC fF.out iE.out _ _⟩
        | (rw[hln];exact⟨_,rfl,jC fF.out (Below.refl _ _) _ _⟩)
        | (rw[hln];exact⟨_,rfl,jC fF.out iE.out _ _⟩)
    ·rcases bb with _|_
     ·rcases hln:((c.bytes.length:Int) == 0)with _|_
      ·go_wp2_with(first
        | (go_at_call 42;(with_reducible refine(HW.out _).mono ?_);rintro e3 w3 ⟨rfl,rfl⟩)
        | (go_at_call 43;(with_reducible refine(HZ.out _).mono ?_);rintro e5 w5 ⟨rfl,gy⟩;have iE:=hide gy;have ny:=(gy.cell (block_lt_of_cell k19)).trans k19;clear gy))
       all_goals go_meet
       all_goals first
        | exact⟨_,rfl,jC fF.out (Below.refl _ _) _ _⟩
        | exact⟨_,rfl,jC fF.out iE.out _ _⟩
        | (rw[hln];exact⟨_,rfl,jC fF.out (Below.refl _ _) _ _⟩)
        | (rw[hln];exact⟨_,rfl,jC fF.out iE.out _ _⟩)
      ·go_wp2_with(first
        | (go_at_call 42;(with_reducible refine(HW.out _).mono ?_);rintro e3 w3 ⟨rfl,rfl⟩)
        | (go_at_call 43;(with_reducible refine(HZ.out _).mono ?_);rintro e5 w5 ⟨rfl,gy⟩;have iE:=hide gy;have ny:=(gy.cell (block_lt_of_cell k19)).trans k19;clear gy))
       all_goals go_meet
       all_goals first
        | exact⟨_,rfl,jC fF.out (Below.refl _ _) _ _⟩
        | exact⟨_,rfl,jC fF.out iE.out _ _⟩
        | (rw[hln];exact⟨_,rfl,jC fF.out (Below.refl _ _) _ _⟩)
        | (rw[hln];exact⟨_,rfl,jC fF.out iE.out _ _⟩)
     ·go_wp2_with(first
       | (go_at_call 42;(with_reducible refine(HW.out _).mono ?_);rintro e3 w3 ⟨rfl,rfl⟩)
       | (go_at_call 43;(with_reducible refine(HZ.out _).mono ?_);rintro e5 w5 ⟨rfl,gy⟩;have iE:=hide gy;have ny:=(gy.cell (block_lt_of_cell k19)).trans k19;clear gy))
      all_goals go_meet
      all_goals first
       | exact⟨_,rfl,jC fF.out (Below.refl _ _) _ _⟩
       | exact⟨_,rfl,jC fF.out iE.out _ _⟩
       | (rw[hln];exact⟨_,rfl,jC fF.out (Below.refl _ _) _ _⟩)
       | (rw[hln];exact⟨_,rfl,jC fF.out iE.out _ _⟩)
 case rest =>
 obtain⟨R,rfl,hA⟩:=hcut;obtain⟨r0,Ox⟩:∃q,q=q0 is wd bp z bb ((c.bytes.length:Int) == 0):=⟨_,rfl⟩;rw[←Ox]at hA;rw[RX.out.1,RX.out.2]at Ox;have Xg:=hide Ox;have HA:=hide hA;clear hA Ox k1 k5 k6 k7 k8 k9 k10 k11 k12 k13 k14 k15 k16 k17 k18 k19 fF HZ HW RX HH HL;have hmf :∀(fn:Fn) (first cap:Array Value) (w:World),(Instr.makeFunc fn first cap).run Tryz.prog w = .ok (.func fn first cap) w:=fun _ _ _ _=>rfl;obtain⟨ps1,Oy⟩:∃l,l=if bf then[kwOf c.kind,c.repo]++[c.frm]else[kwOf c.kind,c.repo]:=⟨_,rfl⟩
 obtain⟨ps2,Oz⟩:∃l,l=if bn then ps1++[c.name]else ps1:=⟨_,rfl⟩
 obtain⟨kP,OA⟩:∃l,l=if bi then ps2++[c.file]else ps2:=⟨_,rfl⟩
 obtain⟨r1,RY⟩:∃q,q=if bf then r0 && isWord c.frm else r0 && decide (c.frm.size=0):=⟨_,rfl⟩
 obtain⟨r2,RZ⟩:∃q,q=if bn then r1 && isWord c.name else r1 && decide (c.name.size=0):=⟨_,rfl⟩
 obtain⟨r3,Si⟩:∃q,q=if bi then r2 && isWord c.file else r2 && decide (c.file.size=0):=⟨_,rfl⟩
 have hl1:ps1.length≤3:=by rw[Oy];split<;>simp
 have hl2:ps2.length≤4:=by rw[Oz];split<;>(try simp)<;>omega
 have hl3:kP.length≤5:=by rw[OA];split<;>(try simp)<;>omega
 have Iq:Hid (∀W:World,fV w W P R (ag c x A n) [kwOf c.kind,c.repo] r0→Calls Tryz.prog 44 #[.bool bf,.string c.frm,.pointer (some ⟨P,0,none⟩),.pointer (some ⟨R,0,none⟩)] W fun e w'=>e = .returned (.tuple #[])∧fV w w' P R (ag c x A n) ps1 r1):=hide fun W h=>by rw[Oy,RY];exact Rq bf h (by simp)
 have HS2:Hid (∀W:World,fV w W P R (ag c x A n) ps1 r1→Calls Tryz.prog 44 #[.bool bn,.string c.name,.pointer (some ⟨P,0,none⟩),.pointer (some ⟨R,0,none⟩)] W fun e w'=>e = .returned (.tuple #[])∧fV w w' P R (ag c x A n) ps2 r2):=hide fun W h=>by rw[Oz,RZ];exact Rq bn h (by omega)
 have tJ:Hid (∀W:World,fV w W P R (ag c x A n) ps2 r2→Calls Tryz.prog 44 #[.bool bi,.string c.file,.pointer (some ⟨P,0,none⟩),.pointer (some ⟨R,0,none⟩)] W fun e w'=>e = .returned (.tuple #[])∧fV w w' P R (ag c x A n) kP r3):=hide fun W h=>by rw[OA,Si];exact Rq bi h (by omega)
 have IU:=hide (fun vH eF=>F5 (vH:=vH) HE.out Oy Oz OA eF);have IV:=hide (fun rF eF=>KD (rF:=rF) HE.out (by rw[←Xg.out];exact RY) RZ Si eF);have HPB:Hid (bp=true→bb=false):=hide (yE HE.out);clear Oy Oz OA RY RZ Si hl1 hl2 HE Xg;have pG:=hide hl3;clear hl3;have k2:wc.cell? ⟨w.heap.size,2,none⟩=some (.string c.frm):=HA.out.box 2 _ rfl
 go_upto_region 7 with(go_at_call 44;(with_reducible refine(Iq.out _ HA.out).mono ?_);rintro e7 w7 ⟨rfl,h7⟩;have H7:=hide h7;clear h7)
 have k3:w7.cell? ⟨w.heap.size,3,none⟩=some (.string c.name):=H7.out.box 3 _ rfl;clear k2
 go_upto_region 8 with(go_at_call 44;(with_reducible refine(HS2.out _ H7.out).mono ?_);rintro e8 w8 ⟨rfl,h8⟩;have H8:=hide h8;clear h8)
 have k4:w8.cell? ⟨w.heap.size,4,none⟩=some (.string c.file):=H8.out.box 4 _ rfl;clear k3
 go_upto_region 9 with(go_at_call 44;(with_reducible refine(tJ.out _ H8.out).mono ?_);rintro e9 w9 ⟨rfl,h9⟩;have H9:=hide h9;clear h9)
 clear k4 Iq HS2 tJ HA H7 H8;rcases bp with _|_
 ·rcases bb with _|_
  ·have mM:=hide (IU.out kP rfl);have iw:=hide (IV.out r3 rfl);have HX:=H9;clear H9 IU IV;generalize w9=wZ at HX⊢;generalize kP=vH at HX mM;generalize r3=rF at HX iw;obtain⟨vF,lH⟩:=HX.out.vt;obtain⟨AF,cF,rfl⟩:=jD lH.own.1;have HV:=hide lH;have cP:=HV.out.cell;have cR:=HX.out.right;clear lH;rcases rF with _|_
   ·go_wp2_with fail
    go_ret;exact⟨by rw[En (fun h=>by cases iw.out.2 h)];rfl,HX.out.below⟩
   ·go_wp2_with(go_at_call 47;(with_reducible refine(Gv HV.out.own.1 mM.out (iw.out.1 rfl) HS.out HX.out.below).mono ?_);rintro e20 IW ⟨rfl,jf⟩;have lI:=hide jf;clear jf)
    go_ret;exact⟨rfl,lI.out⟩
  ·have mM:Hid (kP++[dh c.bytes]=aT c):=hide (IU.out _ rfl);have iw:=hide (IV.out r3 rfl);clear IU IV;have k19:w9.cell? ⟨w.heap.size,19,none⟩=some (.slice A c.bytes.length n):=H9.out.box 19 _ rfl
   go_upto_region 14 with fail
   obtain⟨l,hl⟩:∃l,l=c.bytes:=⟨_,rfl⟩;have Ep:Hid (∀W:World,Below w9.drew.heap.size w9.drew W→Calls Tryz.prog 46 #[.slice A c.bytes.length n] W fun e w'=>e = .returned (.string (dh c.bytes))∧Below W.heap.size W w'):=hide fun W hW=>JE ((HC.out.below (H9.out.below.trans ((Below.refl _ w9).drew.trans hW |>.mono (Nat.le_of_lt H9.out.lt)))).bytes) HS.out.bytes;have Es:=H9;generalize w9=rJ at Es Ep⊢;obtain⟨v,hv⟩:=Es.out.drew.vt;obtain⟨A1,c1,rfl⟩:=jD hv.own.1;have hS:rJ.drew.cell? ⟨w.heap.size,19,none⟩=some (.slice A c.bytes.length n):=hv.st.box 19 _ rfl;clear k19;refine wp_region_held_drew (S:=fun W=>W.cell? ⟨w.heap.size,19,none⟩=some (.slice A c.bytes.length n)) (by kernel_rfl) hS (fun hSD=>?_);generalize rJ.drew=D at hv hSD Ep⊢;have cP:=hv.cell;have KR:=hv;clear hS hv Es;refine aj 1 hSD ?_;refine aj 2 hSD ?_;refine wpAnyH_ready (rs:=[0,3]) (by kernel_rfl) (by simp) ?_;refine AllReadyH.cons rfl (fun K hK=>?_) (AllReadyH.cons rfl (fun K hK=>?_) AllReadyH.nil)
   ·go_simp
    go_wp2_with fail
    refine hK.out _ _ hSD (fun _=>?_);clear hK K
    try simp only[Act.put,aG,aE,aF,aD,aA,aB]
    refine wpAnyH_ready (rs:=[3]) (by kernel_rfl) (by simp) ?_;refine AllReadyH.cons rfl (fun K hK=>?_) AllReadyH.nil;go_simp
    go_wp2_with(go_at_call 46;(with_reducible refine(Ep.out _ (Below.refl _ _)).mono ?_);rintro e7 x7 ⟨rfl,lJ⟩)
    have jK:=KR.next lJ;have Gw:=jK.cell;have oz:x7.cell? ⟨w.heap.size,19,none⟩=some (.slice A c.bytes.length n):=jK.st.box 19 _ rfl;clear lJ;refine hK.out _ _ oz (fun _=>?_);clear hK K
    try simp only[Act.put,aG,aE,aF,aD,aA,aB]
    refine wpAnyH_ready (rs:=[4]) (by kernel_rfl) (by simp) ?_;refine AllReadyH.cons rfl (fun K hK=>?_) AllReadyH.nil;go_simp
    go_wp2_with fail
    have hbB:=az x7 (.cells #[.string (dh c.bytes)] 9);have hvB:=jK.next hbB;have hgB:(x7.alloc (.cells #[.string (dh c.bytes)] 9)).cell? ⟨x7.heap.size,0,none⟩=some (.string (dh c.bytes)):=by rw[Lib.cell_of_heap (heap_alloc_new x7 _)];rfl
    have yT:=hvB.cell;have oC:(x7.alloc (.cells #[.string (dh c.bytes)] 9)).cell? ⟨w.heap.size,19,none⟩=some (.slice A c.bytes.length n):=hvB.st.box 19 _ rfl;clear hbB;refine hK.out _ _ oC (fun _=>?_);clear hK K
    try simp only[Act.put,aG,aE,aF,aD,aA,aB]
    refine wpAnyH_ready (rs:=[5]) (by kernel_rfl) (by simp) ?_;refine AllReadyH.cons rfl (fun K hK=>?_) AllReadyH.nil;obtain⟨v',wg,hrun,⟨A9,c9,rfl⟩,⟨z9,vC⟩,yU,o9,nM⟩:=hvB.app_run hgB (aI pG.out (by decide));have HX:=hide o9;have jB:=nM 19 _ rfl;simp only[Nat.zero_add]at jB;refine uV (v1:= .slice A1 kP.length c1) (v2:= .slice (some ⟨x7.heap.size,0,none⟩) 1 1) rfl _ _ _ rfl (by rfl) (by rfl) hrun ?_;clear o9 nM hrun yT oC hgB hvB;refine hK.out _ _ jB (fun _=>?_);clear hK K
    try simp only[Act.put,aG,aE,aF,aD,aA,aB]
    refine wpAnyH_ready (rs:=[6]) (by kernel_rfl) (by simp) ?_;refine AllReadyH.cons rfl (fun K hK=>?_) AllReadyH.nil;go_simp
    go_wp2_with fail
    refine hK.out _ _ (HX.out.box 19 _ rfl) (fun _=>?_);clear hK K
    try simp only[Act.put,aG,aE,aF,aD,aA,aB]
    refine wpAnyH_done (by kernel_rfl) ?_ _
    try simp only[Act.put,aG,aE,aF,aD,aA,aB]
    generalize wg.setCell ⟨P,0,none⟩ (.slice A9 (kP.length+1) c9)=wZ at HX⊢;generalize kP++[dh c.bytes]=vH at HX mM;generalize r3=rF at HX iw;clear vC yU jB;obtain⟨vF,lH⟩:=HX.out.vt;obtain⟨AF,cF,rfl⟩:=jD lH.own.1;have HV:=hide lH;have cP:=HV.out.cell;have cR:=HX.out.right;clear lH;rcases rF with _|_
    ·go_wp2_with fail
     go_ret;exact⟨by rw[En (fun h=>by cases iw.out.2 h)];rfl,HX.out.below⟩
    ·go_wp2_with(go_at_call 47;(with_reducible refine(Gv HV.out.own.1 mM.out (iw.out.1 rfl) HS.out HX.out.below).mono ?_);rintro e20 IW ⟨rfl,jf⟩;have lI:=hide jf;clear jf)
     go_ret;exact⟨rfl,lI.out⟩
   ·go_simp
    go_wp2_with(go_at_call 46;(with_reducible refine(Ep.out _ (Below.refl _ _)).mono ?_);rintro e7 x7 ⟨rfl,lJ⟩)
    have jK:=KR.next lJ;have Gw:=jK.cell;have oz:x7.cell? ⟨w.heap.size,19,none⟩=some (.slice A c.bytes.length n):=jK.st.box 19 _ rfl;clear lJ;refine hK.out _ _ oz (fun _=>?_);clear hK K
    try simp only[Act.put,aG,aE,aF,aD,aA,aB]
    refine wpAnyH_ready (rs:=[0,4]) (by kernel_rfl) (by simp) ?_;refine AllReadyH.cons rfl (fun K hK=>?_) (AllReadyH.cons rfl (fun K hK=>?_) AllReadyH.nil)
    ·go_simp
     go_wp2_with fail
     refine hK.out _ _ oz (fun _=>?_);clear hK K
     try simp only[Act.put,aG,aE,aF,aD,aA,aB]
     refine wpAnyH_ready (rs:=[4]) (by kernel_rfl) (by simp) ?_;refine AllReadyH.cons rfl (fun K hK=>?_) AllReadyH.nil;go_simp
     go_wp2_with fail
     have hbB:=az x7 (.cells #[.string (dh c.bytes)] 9);have hvB:=jK.next hbB;have hgB:(x7.alloc (.cells #[.string (dh c.bytes)] 9)).cell? ⟨x7.heap.size,0,none⟩=some (.string (dh c.bytes)):=by rw[Lib.cell_of_heap (heap_alloc_new x7 _)];rfl
     have yT:=hvB.cell;have oC:(x7.alloc (.cells #[.string (dh c.bytes)] 9)).cell? ⟨w.heap.size,19,none⟩=some (.slice A c.bytes.length n):=hvB.st.box 19 _ rfl;clear hbB;refine hK.out _ _ oC (fun _=>?_);clear hK K
     try simp only[Act.put,aG,aE,aF,aD,aA,aB]
     refine wpAnyH_ready (rs:=[5]) (by kernel_rfl) (by simp) ?_;refine AllReadyH.cons rfl (fun K hK=>?_) AllReadyH.nil;obtain⟨v',wg,hrun,⟨A9,c9,rfl⟩,⟨z9,vC⟩,yU,o9,nM⟩:=hvB.app_run hgB (aI pG.out (by decide));have HX:=hide o9;have jB:=nM 19 _ rfl;simp only[Nat.zero_add]at jB;refine uV (v1:= .slice A1 kP.length c1) (v2:= .slice (some ⟨x7.heap.size,0,none⟩) 1 1) rfl _ _ _ rfl (by rfl) (by rfl) hrun ?_;clear o9 nM hrun yT oC hgB hvB;refine hK.out _ _ jB (fun _=>?_);clear hK K
     try simp only[Act.put,aG,aE,aF,aD,aA,aB]
     refine wpAnyH_ready (rs:=[6]) (by kernel_rfl) (by simp) ?_;refine AllReadyH.cons rfl (fun K hK=>?_) AllReadyH.nil;go_simp
     go_wp2_with fail
     refine hK.out _ _ (HX.out.box 19 _ rfl) (fun _=>?_);clear hK K
     try simp only[Act.put,aG,aE,aF,aD,aA,aB]
     refine wpAnyH_done (by kernel_rfl) ?_ _
     try simp only[Act.put,aG,aE,aF,aD,aA,aB]
     generalize wg.setCell ⟨P,0,none⟩ (.slice A9 (kP.length+1) c9)=wZ at HX⊢;generalize kP++[dh c.bytes]=vH at HX mM;generalize r3=rF at HX iw;clear vC yU jB;obtain⟨vF,lH⟩:=HX.out.vt;obtain⟨AF,cF,rfl⟩:=jD lH.own.1;have HV:=hide lH;have cP:=HV.out.cell;have cR:=HX.out.right;clear lH;rcases rF with _|_
     ·go_wp2_with fail
      go_ret;exact⟨by rw[En (fun h=>by cases iw.out.2 h)];rfl,HX.out.below⟩
     ·go_wp2_with(go_at_call 47;(with_reducible refine(Gv HV.out.own.1 mM.out (iw.out.1 rfl) HS.out HX.out.below).mono ?_);rintro e20 IW ⟨rfl,jf⟩;have lI:=hide jf;clear jf)
      go_ret;exact⟨rfl,lI.out⟩
    ·go_simp
     go_wp2_with fail
     have hbB:=az x7 (.cells #[.string (dh c.bytes)] 9);have hvB:=jK.next hbB;have hgB:(x7.alloc (.cells #[.string (dh c.bytes)] 9)).cell? ⟨x7.heap.size,0,none⟩=some (.string (dh c.bytes)):=by rw[Lib.cell_of_heap (heap_alloc_new x7 _)];rfl
     have yT:=hvB.cell;have oC:(x7.alloc (.cells #[.string (dh c.bytes)] 9)).cell? ⟨w.heap.size,19,none⟩=some (.slice A c.bytes.length n):=hvB.st.box 19 _ rfl;clear hbB;refine hK.out _ _ oC (fun _=>?_);clear hK K
     try simp only[Act.put,aG,aE,aF,aD,aA,aB]
     refine wpAnyH_ready (rs:=[0]) (by kernel_rfl) (by simp) ?_;refine AllReadyH.cons rfl (fun K hK=>?_) AllReadyH.nil;go_simp
     go_wp2_with fail
     refine hK.out _ _ oC (fun _=>?_);clear hK K
     try simp only[Act.put,aG,aE,aF,aD,aA,aB]
     refine wpAnyH_ready (rs:=[5]) (by kernel_rfl) (by simp) ?_;refine AllReadyH.cons rfl (fun K hK=>?_) AllReadyH.nil;obtain⟨v',wg,hrun,⟨A9,c9,rfl⟩,⟨z9,vC⟩,yU,o9,nM⟩:=hvB.app_run hgB (aI pG.out (by decide));have HX:=hide o9;have jB:=nM 19 _ rfl;simp only[Nat.zero_add]at jB;refine uV (v1:= .slice A1 kP.length c1) (v2:= .slice (some ⟨x7.heap.size,0,none⟩) 1 1) rfl _ _ _ rfl (by rfl) (by rfl) hrun ?_;clear o9 nM hrun yT oC hgB hvB;refine hK.out _ _ jB (fun _=>?_);clear hK K
     try simp only[Act.put,aG,aE,aF,aD,aA,aB]
     refine wpAnyH_ready (rs:=[6]) (by kernel_rfl) (by simp) ?_;refine AllReadyH.cons rfl (fun K hK=>?_) AllReadyH.nil;go_simp
     go_wp2_with fail
     refine hK.out _ _ (HX.out.box 19 _ rfl) (fun _=>?_);clear hK K
     try simp only[Act.put,aG,aE,aF,aD,aA,aB]
     refine wpAnyH_done (by kernel_rfl) ?_ _
     try simp only[Act.put,aG,aE,aF,aD,aA,aB]
     generalize wg.setCell ⟨P,0,none⟩ (.slice A9 (kP.length+1) c9)=wZ at HX⊢;generalize kP++[dh c.bytes]=vH at HX mM;generalize r3=rF at HX iw;clear vC yU jB;obtain⟨vF,lH⟩:=HX.out.vt;obtain⟨AF,cF,rfl⟩:=jD lH.own.1;have HV:=hide lH;have cP:=HV.out.cell;have cR:=HX.out.right;clear lH;rcases rF with _|_
     ·go_wp2_with fail
      go_ret;exact⟨by rw[En (fun h=>by cases iw.out.2 h)];rfl,HX.out.below⟩
     ·go_wp2_with(go_at_call 47;(with_reducible refine(Gv HV.out.own.1 mM.out (iw.out.1 rfl) HS.out HX.out.below).mono ?_);rintro e20 IW ⟨rfl,jf⟩;have lI:=hide jf;clear jf)
      go_ret;exact⟨rfl,lI.out⟩
 ·obtain rfl:=HPB.out rfl;have mM:Hid (kP++[dh (dG c.patch)]=aT c):=hide (IU.out _ rfl);have iw:Hid (((r3 && okB c.patch)=true)↔fM c):=hide (IV.out _ rfl);clear IU IV;obtain⟨okb,Et⟩:∃b,b=okB c.patch:=⟨_,rfl⟩;rw[←Et]at iw;obtain⟨ec,qA,hec⟩:∃ec:Int,ec=(if okb=true then 0 else 4)∧(ec == 0)=okb:=⟨_,rfl,by cases okb<;>rfl⟩;have CG:Hid (Calls Tryz.prog 45 #[.agg (bU c.patch x).toArray] w9 fun e w'=>Below w9.heap.size w9 w'∧∃A2 c2,e = .returned (.tuple #[.slice A2 (dG c.patch).length c2,.int .i64 ec])∧BytesIn (fun b=>w9.heap.size≤b) w' A2 (dG c.patch)):=hide (by
   refine(CE (HC.out.below H9.out.below).patch (HT.out.below H9.out.below) HS.out.names HS.out.put).mono ?_;rintro e w' ⟨hB,⟨hok,A2,c2,rfl,hb,_⟩|⟨hno,rfl⟩⟩
   ·have e1:dG c.patch=gJ c.patch:=if_pos hok;have e2:okb=true:=by rw[Et,KC];exact hok
    refine⟨hB,A2,c2,?_,by rw[e1];exact hb⟩;rw[e1,qA,if_pos e2]
   ·have e1:dG c.patch=[]:=if_neg hno;have e2 :¬okb=true:=by rw[Et,KC];exact hno
    refine⟨hB,none,0,?_,by rw[e1];exact⟨.nil,Nat.zero_le _⟩⟩;rw[e1,qA,if_neg e2];rfl)
  clear qA Et;have HR9:Hid (R<w9.heap.size):=hide (block_lt_of_cell H9.out.right);have k5:w9.cell? ⟨w.heap.size,5,none⟩=_:=H9.out.box 5 _ rfl;have k6:w9.cell? ⟨w.heap.size,6,none⟩=_:=H9.out.box 6 _ rfl;have k7:w9.cell? ⟨w.heap.size,7,none⟩=_:=H9.out.box 7 _ rfl;have k8:w9.cell? ⟨w.heap.size,8,none⟩=_:=H9.out.box 8 _ rfl;have k9:w9.cell? ⟨w.heap.size,9,none⟩=_:=H9.out.box 9 _ rfl;have k10:w9.cell? ⟨w.heap.size,10,none⟩=_:=H9.out.box 10 _ rfl;have k11:w9.cell? ⟨w.heap.size,11,none⟩=_:=H9.out.box 11 _ rfl;have k12:w9.cell? ⟨w.heap.size,12,none⟩=_:=H9.out.box 12 _ rfl;have k13:w9.cell? ⟨w.heap.size,13,none⟩=_:=H9.out.box 13 _ rfl;have k14:w9.cell? ⟨w.heap.size,14,none⟩=_:=H9.out.box 14 _ rfl;have k15:w9.cell? ⟨w.heap.size,15,none⟩=_:=H9.out.box 15 _ rfl;have k16:w9.cell? ⟨w.heap.size,16,none⟩=_:=H9.out.box 16 _ rfl;have k17:w9.cell? ⟨w.heap.size,17,none⟩=_:=H9.out.box 17 _ rfl;have k18:w9.cell? ⟨w.heap.size,18,none⟩=_:=H9.out.box 18 _ rfl
  go_upto_region 11 with(go_at_call 45;(with_reducible refine CG.out.mono ?_);rintro e10 w10 ⟨yV,A2,c2,rfl,hby⟩;have OB:=hide (H9.out.next yV);have OC:=hide hby;clear yV hby)
  clear k5 k6 k7 k8 k9 k10 k11 k12 k13 k14 k15 k16 k17 k18 CG H9;have cR:=OB.out.right;have fR:=OB.out.rf;refine wp_region_lit ?_;refine sk ?_;refine sk ?_;refine sg (b:=r3) ?_ (hw:=by cases r3<;>rfl);refine sg (b:=r3) ?_ (hw:=by cases r3<;>rfl);refine sp (g:=r3) ?_;refine ss ?_;refine wpList_nil ?_;generalize (if r3=true then Value.int .i64 ec else undef)=y84;generalize (if r3=true then Value.bool okb else undef)=y85;have Es:=hide (OB.out.setR (r3 && okb));have CJ:=hide (OC.out.keep (w':=w10.setCell ⟨R,0,none⟩ (.bool (r3 && okb))) fun b hb=>Below.heap_setCell _ _ _ _ (by have:=HR9.out;show b≠R;omega));generalize (r3 && okb)=r4 at Es iw CJ⊢;clear cR fR hec OC OB;generalize w10.setCell ⟨R,0,none⟩ (.bool r4)=rJ at Es CJ⊢;have Ep:Hid (∀W:World,Below rJ.drew.heap.size rJ.drew W→Calls Tryz.prog 46 #[.slice A2 (dG c.patch).length c2] W fun e w'=>e = .returned (.string (dh (dG c.patch)))∧Below W.heap.size W w'):=hide fun W hW=>JE (CJ.out.below ((Below.refl _ rJ).drew.trans hW)) (aI (Oo c.patch) HS.out.put);rename_i hK;refine hK _ _ ?_;clear hK CJ;obtain⟨v,hv⟩:=Es.out.drew.vt;obtain⟨A1,c1,rfl⟩:=jD hv.own.1;have hS:rJ.drew.cell? ⟨w.heap.size,19,none⟩=some (.slice A c.bytes.length n):=hv.st.box 19 _ rfl;refine wp_region_held_drew (S:=fun W=>W.cell? ⟨w.heap.size,19,none⟩=some (.slice A c.bytes.length n)) (by kernel_rfl) hS (fun hSD=>?_);generalize rJ.drew=D at hv hSD Ep⊢;have cP:=hv.cell;have KR:=hv;clear hS hv Es;refine aj 1 hSD ?_;refine wpAnyH_ready (rs:=[0,2]) (by kernel_rfl) (by simp) ?_;refine AllReadyH.cons rfl (fun K hK=>?_) (AllReadyH.cons rfl (fun K hK=>?_) AllReadyH.nil)
  ·go_simp
   go_wp2_with fail
   refine hK.out _ _ hSD (fun _=>?_);clear hK K
   try simp only[Act.put,aG,aE,aF,aD,aA,aB]
   refine wpAnyH_ready (rs:=[2]) (by kernel_rfl) (by simp) ?_;refine AllReadyH.cons rfl (fun K hK=>?_) AllReadyH.nil;go_simp
   go_wp2_with(go_at_call 46;(with_reducible refine(Ep.out _ (Below.refl _ _)).mono ?_);rintro e7 x7 ⟨rfl,lJ⟩)
   have jK:=KR.next lJ;have Gw:=jK.cell;have oz:x7.cell? ⟨w.heap.size,19,none⟩=some (.slice A c.bytes.length n):=jK.st.box 19 _ rfl;clear lJ;refine hK.out _ _ oz (fun _=>?_);clear hK K
   try simp only[Act.put,aG,aE,aF,aD,aA,aB]
   refine wpAnyH_ready (rs:=[3]) (by kernel_rfl) (by simp) ?_;refine AllReadyH.cons rfl (fun K hK=>?_) AllReadyH.nil;go_simp
   go_wp2_with fail
   have hbB:=az x7 (.cells #[.string (dh (dG c.patch))] 9);have hvB:=jK.next hbB;have hgB:(x7.alloc (.cells #[.string (dh (dG c.patch))] 9)).cell? ⟨x7.heap.size,0,none⟩=some (.string (dh (dG c.patch))):=by rw[Lib.cell_of_heap (heap_alloc_new x7 _)];rfl
   have yT:=hvB.cell;have oC:(x7.alloc (.cells #[.string (dh (dG c.patch))] 9)).cell? ⟨w.heap.size,19,none⟩=some (.slice A c.bytes.length n):=hvB.st.box 19 _ rfl;clear hbB;refine hK.out _ _ oC (fun _=>?_);clear hK K
   try simp only[Act.put,aG,aE,aF,aD,aA,aB]
   refine wpAnyH_ready (rs:=[4]) (by kernel_rfl) (by simp) ?_;refine AllReadyH.cons rfl (fun K hK=>?_) AllReadyH.nil;obtain⟨v',wg,hrun,⟨A9,c9,rfl⟩,⟨z9,vC⟩,yU,o9,nM⟩:=hvB.app_run hgB (aI pG.out (by decide));have HX:=hide o9;have jB:=nM 19 _ rfl;simp only[Nat.zero_add]at jB;refine uV (v1:= .slice A1 kP.length c1) (v2:= .slice (some ⟨x7.heap.size,0,none⟩) 1 1) rfl _ _ _ rfl (by rfl) (by rfl) hrun ?_;clear o9 nM hrun yT oC hgB hvB;refine hK.out _ _ jB (fun _=>?_);clear hK K
   try simp only[Act.put,aG,aE,aF,aD,aA,aB]
   refine wpAnyH_ready (rs:=[5]) (by kernel_rfl) (by simp) ?_;refine AllReadyH.cons rfl (fun K hK=>?_) AllReadyH.nil;go_simp
   go_wp2_with fail
   refine hK.out _ _ (HX.out.box 19 _ rfl) (fun _=>?_);clear hK K
   try simp only[Act.put,aG,aE,aF,aD,aA,aB]
   refine wpAnyH_done (by kernel_rfl) ?_ _
   try simp only[Act.put,aG,aE,aF,aD,aA,aB]
   generalize wg.setCell ⟨P,0,none⟩ (.slice A9 (kP.length+1) c9)=wZ at HX⊢;generalize kP++[dh (dG c.patch)]=vH at HX mM;generalize r4=rF at HX iw;clear vC yU jB;obtain⟨vF,lH⟩:=HX.out.vt;obtain⟨AF,cF,rfl⟩:=jD lH.own.1;have HV:=hide lH;have cP:=HV.out.cell;have cR:=HX.out.right;clear lH;rcases rF with _|_
   ·go_wp2_with fail
    go_ret;exact⟨by rw[En (fun h=>by cases iw.out.2 h)];rfl,HX.out.below⟩
   ·go_wp2_with(go_at_call 47;(with_reducible refine(Gv HV.out.own.1 mM.out (iw.out.1 rfl) HS.out HX.out.below).mono ?_);rintro e20 IW ⟨rfl,jf⟩;have lI:=hide jf;clear jf)
    go_ret;exact⟨rfl,lI.out⟩
  ·go_simp
   go_wp2_with(go_at_call 46;(with_reducible refine(Ep.out _ (Below.refl _ _)).mono ?_);rintro e7 x7 ⟨rfl,lJ⟩)
   have jK:=KR.next lJ;have Gw:=jK.cell;have oz:x7.cell? ⟨w.heap.size,19,none⟩=some (.slice A c.bytes.length n):=jK.st.box 19 _ rfl;clear lJ;refine hK.out _ _ oz (fun _=>?_);clear hK K
   try simp only[Act.put,aG,aE,aF,aD,aA,aB]
   refine wpAnyH_ready (rs:=[0,3]) (by kernel_rfl) (by simp) ?_;refine AllReadyH.cons rfl (fun K hK=>?_) (AllReadyH.cons rfl (fun K hK=>?_) AllReadyH.nil)
   ·go_simp
    go_wp2_with fail
    refine hK.out _ _ oz (fun _=>?_);clear hK K
    try simp only[Act.put,aG,aE,aF,aD,aA,aB]
    refine wpAnyH_ready (rs:=[3]) (by kernel_rfl) (by simp) ?_;refine AllReadyH.cons rfl (fun K hK=>?_) AllReadyH.nil;go_simp
    go_wp2_with fail
    have hbB:=az x7 (.cells #[.string (dh (dG c.patch))] 9);have hvB:=jK.next hbB;have hgB:(x7.alloc (.cells #[.string (dh (dG c.patch))] 9)).cell? ⟨x7.heap.size,0,none⟩=some (.string (dh (dG c.patch))):=by rw[Lib.cell_of_heap (heap_alloc_new x7 _)];rfl
    have yT:=hvB.cell;have oC:(x7.alloc (.cells #[.string (dh (dG c.patch))] 9)).cell? ⟨w.heap.size,19,none⟩=some (.slice A c.bytes.length n):=hvB.st.box 19 _ rfl;clear hbB;refine hK.out _ _ oC (fun _=>?_);clear hK K
    try simp only[Act.put,aG,aE,aF,aD,aA,aB]
    refine wpAnyH_ready (rs:=[4]) (by kernel_rfl) (by simp) ?_;refine AllReadyH.cons rfl (fun K hK=>?_) AllReadyH.nil;obtain⟨v',wg,hrun,⟨A9,c9,rfl⟩,⟨z9,vC⟩,yU,o9,nM⟩:=hvB.app_run hgB (aI pG.out (by decide));have HX:=hide o9;have jB:=nM 19 _ rfl;simp only[Nat.zero_add]at jB;refine uV (v1:= .slice A1 kP.length c1) (v2:= .slice (some ⟨x7.heap.size,0,none⟩) 1 1) rfl _ _ _ rfl (by rfl) (by rfl) hrun ?_;clear o9 nM hrun yT oC hgB hvB;refine hK.out _ _ jB (fun _=>?_);clear hK K
    try simp only[Act.put,aG,aE,aF,aD,aA,aB]
    refine wpAnyH_ready (rs:=[5]) (by kernel_rfl) (by simp) ?_;refine AllReadyH.cons rfl (fun K hK=>?_) AllReadyH.nil;go_simp
    go_wp2_with fail
    refine hK.out _ _ (HX.out.box 19 _ rfl) (fun _=>?_);clear hK K
    try simp only[Act.put,aG,aE,aF,aD,aA,aB]
    refine wpAnyH_done (by kernel_rfl) ?_ _
    try simp only[Act.put,aG,aE,aF,aD,aA,aB]
    generalize wg.setCell ⟨P,0,none⟩ (.slice A9 (kP.length+1) c9)=wZ at HX⊢;generalize kP++[dh (dG c.patch)]=vH at HX mM;generalize r4=rF at HX iw;clear vC yU jB;obtain⟨vF,lH⟩:=HX.out.vt;obtain⟨AF,cF,rfl⟩:=jD lH.own.1;have HV:=hide lH;have cP:=HV.out.cell;have cR:=HX.out.right;clear lH;rcases rF with _|_
    ·go_wp2_with fail
     go_ret;exact⟨by rw[En (fun h=>by cases iw.out.2 h)];rfl,HX.out.below⟩
    ·go_wp2_with(go_at_call 47;(with_reducible refine(Gv HV.out.own.1 mM.out (iw.out.1 rfl) HS.out HX.out.below).mono ?_);rintro e20 IW ⟨rfl,jf⟩;have lI:=hide jf;clear jf)
     go_ret;exact⟨rfl,lI.out⟩
   ·go_simp
    go_wp2_with fail
    have hbB:=az x7 (.cells #[.string (dh (dG c.patch))] 9);have hvB:=jK.next hbB;have hgB:(x7.alloc (.cells #[.string (dh (dG c.patch))] 9)).cell? ⟨x7.heap.size,0,none⟩=some (.string (dh (dG c.patch))):=by rw[Lib.cell_of_heap (heap_alloc_new x7 _)];rfl
    have yT:=hvB.cell;have oC:(x7.alloc (.cells #[.string (dh (dG c.patch))] 9)).cell? ⟨w.heap.size,19,none⟩=some (.slice A c.bytes.length n):=hvB.st.box 19 _ rfl;clear hbB;refine hK.out _ _ oC (fun _=>?_);clear hK K
    try simp only[Act.put,aG,aE,aF,aD,aA,aB]
    refine wpAnyH_ready (rs:=[0]) (by kernel_rfl) (by simp) ?_;refine AllReadyH.cons rfl (fun K hK=>?_) AllReadyH.nil;go_simp
    go_wp2_with fail
    refine hK.out _ _ oC (fun _=>?_);clear hK K
    try simp only[Act.put,aG,aE,aF,aD,aA,aB]
    refine wpAnyH_ready (rs:=[4]) (by kernel_rfl) (by simp) ?_;refine AllReadyH.cons rfl (fun K hK=>?_) AllReadyH.nil;obtain⟨v',wg,hrun,⟨A9,c9,rfl⟩,⟨z9,vC⟩,yU,o9,nM⟩:=hvB.app_run hgB (aI pG.out (by decide));have HX:=hide o9;have jB:=nM 19 _ rfl;simp only[Nat.zero_add]at jB;refine uV (v1:= .slice A1 kP.length c1) (v2:= .slice (some ⟨x7.heap.size,0,none⟩) 1 1) rfl _ _ _ rfl (by rfl) (by rfl) hrun ?_;clear o9 nM hrun yT oC hgB hvB;refine hK.out _ _ jB (fun _=>?_);clear hK K
    try simp only[Act.put,aG,aE,aF,aD,aA,aB]
    refine wpAnyH_ready (rs:=[5]) (by kernel_rfl) (by simp) ?_;refine AllReadyH.cons rfl (fun K hK=>?_) AllReadyH.nil;go_simp
    go_wp2_with fail
    refine hK.out _ _ (HX.out.box 19 _ rfl) (fun _=>?_);clear hK K
    try simp only[Act.put,aG,aE,aF,aD,aA,aB]
    refine wpAnyH_done (by kernel_rfl) ?_ _
    try simp only[Act.put,aG,aE,aF,aD,aA,aB]
    generalize wg.setCell ⟨P,0,none⟩ (.slice A9 (kP.length+1) c9)=wZ at HX⊢;generalize kP++[dh (dG c.patch)]=vH at HX mM;generalize r4=rF at HX iw;clear vC yU jB;obtain⟨vF,lH⟩:=HX.out.vt;obtain⟨AF,cF,rfl⟩:=jD lH.own.1;have HV:=hide lH;have cP:=HV.out.cell;have cR:=HX.out.right;clear lH;rcases rF with _|_
    ·go_wp2_with fail
     go_ret;exact⟨by rw[En (fun h=>by cases iw.out.2 h)];rfl,HX.out.below⟩
    ·go_wp2_with(go_at_call 47;(with_reducible refine(Gv HV.out.own.1 mM.out (iw.out.1 rfl) HS.out HX.out.below).mono ?_);rintro e20 IW ⟨rfl,jf⟩;have lI:=hide jf;clear jf)
     go_ret;exact⟨rfl,lI.out⟩
end
end Go.Proofs.YtjjaojnglnpgaaaGreatDoor
