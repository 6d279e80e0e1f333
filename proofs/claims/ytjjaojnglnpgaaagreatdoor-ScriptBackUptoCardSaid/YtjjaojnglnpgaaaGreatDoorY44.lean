/- Part 45 of what scriptBack_cardUpto rests on. -/
import Derived.Deep.RegionWith
import Derived.Deep.DeepCutAuto
import Derived.Test.YtjjaojnglnpgaaaGreatDoorY39
import Derived.Test.YtjjaojnglnpgaaaGreatDoorY05
import Derived.Test.YtjjaojnglnpgaaaGreatDoorY27
import Derived.Test.YtjjaojnglnpgaaaGreatDoorY40
import Derived.Test.YtjjaojnglnpgaaaGreatDoorY02
import Derived.Test.YtjjaojnglnpgaaaGreatDoorY00
set_option linter.unusedVariables false
set_option linter.unusedSimpArgs false
set_option maxHeartbeats 16000000
set_option maxRecDepth 1000000
namespace Go.Proofs.YtjjaojnglnpgaaaGreatDoor
section
open Go.RowKit
theorem D5{w wZ:World}{c:bJ}{ps:List ByteArray}{A:Option Addr}{k B:Nat}(ho:wZ.ownsRow B 9 1 (.slice A ps.length k) ps.length (ps.map .string))(e:ps=aj c)(h:aQ c)(hz:iM c)(hw:Below w.heap.size w wZ):
  Calls Tryz.prog 47 #[.slice A ps.length k] wZ fun e w'=>e = .returned (.string (kK c))∧Below w.heap.size w w':=by
 subst e;refine(JH ho rfl (by simp[aj]) ?_ ?_).mono ?_
 ·have:(aj c).length≤7:=Ru c;omega
 ·rw[←JF];exact uJ h hz
 ·rintro e w' ⟨rfl,hB⟩;exact⟨by rw[MV h,V7],hw.trans (hB.mono hw.size)⟩
theorem Ux{S:Nat→Prop}{x:Ph}{A:Option Addr}{n:Nat}{c:bJ}{w:World}(hc:dw S w c x A n)(hz:iM c)(htab:ax w):
  Calls Tryz.prog 15 #[.agg (ak c x A n).toArray] w fun e w'=>e = .returned (.string (kK c))∧Below w.heap.size w w':=by
 obtain⟨fv,hfun,hlook⟩:=wO hc.kind;obtain⟨is,OQ⟩:∃b,b=decide (1≤c.kind∧c.kind≤9):=⟨_,rfl⟩;rw[←OQ]at hlook;obtain⟨bf,OT⟩:∃b,b=decide ((c.kind:Int)∈[3,5]):=⟨_,rfl⟩;obtain⟨bn,OU⟩:∃b,b=decide ((c.kind:Int)∈[2,3,4]):=⟨_,rfl⟩;obtain⟨bi,OV⟩:∃b,b=decide ((c.kind:Int)∈[6]):=⟨_,rfl⟩;obtain⟨bp,OW⟩:∃b,b=decide ((c.kind:Int)∈[2]):=⟨_,rfl⟩;obtain⟨bb,OX⟩:∃b,b=decide ((c.kind:Int)∈[9]):=⟨_,rfl⟩;have HH:Hid (∀W:World,Calls Tryz.prog 41 #[.int .u8 c.kind] W fun e w'=>e = .returned (.tuple #[.bool bf,.bool bn,.bool bi,.bool bp,.bool bb])∧Below W.heap.size W w'):=hide (by rw[OT,OU,OV,OW,OX];exact fun W=>pF c.kind W);have HE:=hide (kT.mk OQ OT OU OV OW OX);clear OQ OT OU OV OW OX;have HC:=hide hc;have HT:=hide htab;have HS:=hide hz;have HL:=hide hlook;clear hc hz htab hlook;have HB:=hide (az w (.cells (ak c x A n).toArray 46));go_enter Tryz.func15,Tryz.ntmps15
 go_upto_region 1 with fail
 go_cut [3,4] (fun p q wx=>∃b:Nat,p = .pointer (some ⟨b,0,none⟩)∧q = .bool is∧DK w wx b (ak c x A n) (kwOf c.kind))
 case first =>
  rcases hfun with⟨fi,rfl⟩|rfl
  all_goals
   go_region_with (go_at_call 40;(with_reducible refine(Nz _).mono ?_);rintro e2 w2 ⟨rfl,hT,hB⟩;have hc0:=hB.cell (p:=⟨w.heap.size,0,none⟩) (by simp<;>omega);have hc1:=hB.cell (p:=⟨w.heap.size+1,0,none⟩);have hc2:=hB.cell (p:=⟨w.heap.size+1,1,none⟩);have hf1:=hB.frozen (p:=⟨w.heap.size+1,0,none⟩);have hf2:=hB.frozen (p:=⟨w.heap.size+1,1,none⟩);simp at hc0 hc1 hc2 hf1 hf2;have hlk:=HL.out _ _ hT;have hlk2:=(fun o=>HL.out _ _ (World.ownsMap.alloc hT o));simp at hlk hlk2;have hlt2:w.heap.size<w2.heap.size:=(by have h:=hB.size;simp at h;omega);have hne2 :¬w.heap.size=w2.heap.size:=(by omega);have HT2:=hide hT;have HB2:=hide hB;clear hT hB)
   all_goals(try simp only[Act.put,aG,aE,aF,aD,aA,aB])
   all_goals go_wp2_with fail
   all_goals go_meet
   all_goals
    first
     | exact⟨_,rfl,rfl,Ih (by first|exact EU w (ak c x A n) _|exact OD (EU w (ak c x A n) _)|exact YN (EU w (ak c x A n) _)) (by first|exact HB.out|exact HB.out.drew|exact bW HB.out _) (by simp) HB2.out⟩
     | exact⟨_,rfl,rfl,Ii (by first|exact World.rangeAt_alloc (EU w (ak c x A n) _) _|exact OD (World.rangeAt_alloc (EU w (ak c x A n) _) _)|exact World.rangeAt_alloc (OD (EU w (ak c x A n) _)) _) (by first|exact HB.out.alloc (by simp) _|exact(HB.out.alloc (by simp) _).drew|exact HB.out.drew.alloc (by simp) _) (by simp) HB2.out (wP _ _ _ _ _)⟩
 case rest =>
 obtain⟨b3,rfl,rfl,hA⟩:=hcut;have HA:=hide hA;clear hA HB hfun;have k0:wc.cell? ⟨w.heap.size,0,none⟩=some (.int .u8 c.kind):=HA.out.box 0 _ rfl
 go_upto_region 3 with(go_at_call 41;(with_reducible refine(HH.out _).mono ?_);rintro e2 w2 ⟨rfl,hB2⟩;have HA2:=hide (HA.out.next hB2);clear hB2)
 have q1:w2.cell? ⟨w.heap.size,1,none⟩=some (.string c.repo):=HA2.out.box 1 _ rfl;have qb:w2.cell? ⟨b3,0,none⟩=some (.string (kwOf c.kind)):=HA2.out.word;have dJ:=hide (zy (t:=c.repo) HA2.out)
 go_upto_region 4 with fail
 generalize (w2.alloc (.cells #[.string (kwOf c.kind),.string c.repo] 9)).alloc (.cells #[.slice (some ⟨w2.heap.size,0,none⟩) 2 2] 34)=W4 at dJ⊢;generalize w2.heap.size+1=P at dJ⊢;clear k0 q1 qb HA HA2;have k1:W4.cell? ⟨w.heap.size,1,none⟩=_:=dJ.out.box 1 _ rfl;have k5:W4.cell? ⟨w.heap.size,5,none⟩=_:=dJ.out.box 5 _ rfl;have k6:W4.cell? ⟨w.heap.size,6,none⟩=_:=dJ.out.box 6 _ rfl;have k7:W4.cell? ⟨w.heap.size,7,none⟩=_:=dJ.out.box 7 _ rfl;have k8:W4.cell? ⟨w.heap.size,8,none⟩=_:=dJ.out.box 8 _ rfl;have k9:W4.cell? ⟨w.heap.size,9,none⟩=_:=dJ.out.box 9 _ rfl;have k10:W4.cell? ⟨w.heap.size,10,none⟩=_:=dJ.out.box 10 _ rfl;have k11:W4.cell? ⟨w.heap.size,11,none⟩=_:=dJ.out.box 11 _ rfl;have k12:W4.cell? ⟨w.heap.size,12,none⟩=_:=dJ.out.box 12 _ rfl;have k13:W4.cell? ⟨w.heap.size,13,none⟩=_:=dJ.out.box 13 _ rfl;have k14:W4.cell? ⟨w.heap.size,14,none⟩=_:=dJ.out.box 14 _ rfl;have k15:W4.cell? ⟨w.heap.size,15,none⟩=_:=dJ.out.box 15 _ rfl;have k16:W4.cell? ⟨w.heap.size,16,none⟩=_:=dJ.out.box 16 _ rfl;have k17:W4.cell? ⟨w.heap.size,17,none⟩=_:=dJ.out.box 17 _ rfl;have k18:W4.cell? ⟨w.heap.size,18,none⟩=_:=dJ.out.box 18 _ rfl;have k19:W4.cell? ⟨w.heap.size,19,none⟩=_:=dJ.out.box 19 _ rfl;obtain⟨z,ez⟩:∃z,z=zB c.patch:=⟨_,rfl⟩;obtain⟨wd,OY⟩:∃b,b=isWord c.repo:=⟨_,rfl⟩;have HZ:Hid (∀W:World,Calls Tryz.prog 43 #[.agg (gQ c.patch x).toArray] W fun e w'=>e = .returned (.bool z)∧Below W.heap.size W w'):=hide fun W=>by
  refine(wL HS.out.rows HS.out.parts W).mono ?_;rintro e w' ⟨⟨b,rfl,hb⟩,hB⟩;exact⟨by rw[ez,Bool.eq_iff_iff.2 (hb.trans uG.symm)],hB⟩
 have HW:Hid (∀W:World,Calls Tryz.prog 42 #[.string c.repo] W fun e w'=>e = .returned (.bool wd)∧w'=W):=hide fun W=>by rw[OY];exact CB c.repo W
 have OZ:=hide (And.intro ez OY);clear ez OY
 go_cut [11] (fun r wx=>∃R:Nat,r = .pointer (some ⟨R,0,none⟩)∧dI w wx P R (ak c x A n) [kwOf c.kind,c.repo] (q0 is wd bp z bb ((c.bytes.length:Int) == 0)))
 case first =>
  rcases is with _|_
  ·go_wp2_with(first
    | (go_at_call 42;(with_reducible refine(HW.out _).mono ?_);rintro e3 w3 ⟨rfl,rfl⟩)
    | (go_at_call 43;(with_reducible refine(HZ.out _).mono ?_);rintro e5 w5 ⟨rfl,fA⟩;have dV:=hide fA;have lX:=(fA.cell (block_lt_of_cell k19)).trans k19;clear fA))
   all_goals go_meet
   all_goals first
    | exact⟨_,rfl,ik dJ.out (Below.refl _ _) _ _⟩
    | exact⟨_,rfl,ik dJ.out dV.out _ _⟩
    | (rw[hln];exact⟨_,rfl,ik dJ.out (Below.refl _ _) _ _⟩)
    | (rw[hln];exact⟨_,rfl,ik dJ.out dV.out _ _⟩)
  ·rcases wd with _|_
   ·go_wp2_with(first
     | (go_at_call 42;(with_reducible refine(HW.out _).mono ?_);rintro e3 w3 ⟨rfl,rfl⟩)
     | (go_at_call 43;(with_reducible refine(HZ.out _).mono ?_);rintro e5 w5 ⟨rfl,fA⟩;have dV:=hide fA;have lX:=(fA.cell (block_lt_of_cell k19)).trans k19;clear fA))
    all_goals go_meet
    all_goals first
     | exact⟨_,rfl,ik dJ.out (Below.refl _ _) _ _⟩
     | exact⟨_,rfl,ik dJ.out dV.out _ _⟩
     | (rw[hln];exact⟨_,rfl,ik dJ.out (Below.refl _ _) _ _⟩)
     | (rw[hln];exact⟨_,rfl,ik dJ.out dV.out _ _⟩)
   ·rcases bp with _|_
    ·rcases z with _|_
     ·go_wp2_with(first
       | (go_at_call 42;(with_reducible refine(HW.out _).mono ?_);rintro e3 w3 ⟨rfl,rfl⟩)
       | (go_at_call 43;(with_reducible refine(HZ.out _).mono ?_);rintro e5 w5 ⟨rfl,fA⟩;have dV:=hide fA;have lX:=(fA.cell (block_lt_of_cell k19)).trans k19;clear fA))
      all_goals go_meet
      all_goals first
       | exact⟨_,rfl,ik dJ.out (Below.refl _ _) _ _⟩
       | exact⟨_,rfl,ik dJ.out dV.out _ _⟩
       | (rw[hln];exact⟨_,rfl,ik dJ.out (Below.refl _ _) _ _⟩)
       | (rw[hln];exact⟨_,rfl,ik dJ.out dV.out _ _⟩)
     ·rcases bb with _|_
      ·rcases hln:((c.bytes.length:Int) == 0)with _|_
       ·go_wp2_with(first
         | (go_at_call 42;(with_reducible refine(HW.out _).mono ?_);rintro e3 w3 ⟨rfl,rfl⟩)
         | (go_at_call 43;(with_reducible refine(HZ.out _).mono ?_);rintro e5 w5 ⟨rfl,fA⟩;have dV:=hide fA;have lX:=(fA.cell (block_lt_of_cell k19)).trans k19;clear fA))
        all_goals go_meet
        all_goals first
         | exact⟨_,rfl,ik dJ.out (Below.refl _ _) _ _⟩
         | exact⟨_,rfl,ik dJ.out dV.out _ _⟩
         | (rw[hln];exact⟨_,rfl,ik dJ.out (Below.refl _ _) _ _⟩)
         | (rw[hln];exact⟨_,rfl,ik dJ.out dV.out _ _⟩)
       ·go_wp2_with(first
         | (go_at_call 42;(with_reducible refine(HW.out _).mono ?_);rintro e3 w3 ⟨rfl,rfl⟩)
         | (go_at_call 43;(with_reducible refine(HZ.out _).mono ?_);rintro e5 w5 ⟨rfl,fA⟩;have dV:=hide fA;have lX:=(fA.cell (block_lt_of_cell k19)).trans k19;clear fA))
        all_goals go_meet
        all_goals first
         | exact⟨_,rfl,ik dJ.out (Below.refl _ _) _ _⟩
         | exact⟨_,rfl,ik dJ.out dV.out _ _⟩
         | (rw[hln];exact⟨_,rfl,ik dJ.out (Below.refl _ _) _ _⟩)
         | (rw[hln];exact⟨_,rfl,ik dJ.out dV.out _ _⟩)
      ·go_wp2_with(first
        | (go_at_call 42;(with_reducible refine(HW.out _).mono ?_);rintro e3 w3 ⟨rfl,rfl⟩)
        | (go_at_call 43;(with_reducible refine(HZ.out _).mono ?_);rintro e5 w5 ⟨rfl,fA⟩;have dV:=hide fA;have lX:=(fA.cell (block_lt_of_cell k19)).trans k19;clear fA))
       all_goals go_meet
       all_goals first
        | exact⟨_,rfl,ik dJ.out (Below.refl _ _) _ _⟩
        | exact⟨_,rfl,ik dJ.out dV.out _ _⟩
        | (rw[hln];exact⟨_,rfl,ik dJ.out (Below.refl _ _) _ _⟩)
        | (rw[hln];exact⟨_,rfl,ik dJ.out dV.out _ _⟩)
    ·rcases bb with _|_
     ·rcases hln:((c.bytes.length:Int) == 0)with _|_
      ·go_wp2_with(first
        | (go_at_call 42;(with_reducible refine(HW.out _).mono ?_);rintro e3 w3 ⟨rfl,rfl⟩)
        | (go_at_call 43;(with_reducible refine(HZ.out _).mono ?_);rintro e5 w5 ⟨rfl,fA⟩;have dV:=hide fA;have lX:=(fA.cell (block_lt_of_cell k19)).trans k19;clear fA))
       all_goals go_meet
       all_goals first
        | exact⟨_,rfl,ik dJ.out (Below.refl _ _) _ _⟩
        | exact⟨_,rfl,ik dJ.out dV.out _ _⟩
        | (rw[hln];exact⟨_,rfl,ik dJ.out (Below.refl _ _) _ _⟩)
        | (rw[hln];exact⟨_,rfl,ik dJ.out dV.out _ _⟩)
      ·go_wp2_with(first
        | (go_at_call 42;(with_reducible refine(HW.out _).mono ?_);rintro e3 w3 ⟨rfl,rfl⟩)
        | (go_at_call 43;(with_reducible refine(HZ.out _).mono ?_);rintro e5 w5 ⟨rfl,fA⟩;have dV:=hide fA;have lX:=(fA.cell (block_lt_of_cell k19)).trans k19;clear fA))
       all_goals go_meet
       all_goals first
        | exact⟨_,rfl,ik dJ.out (Below.refl _ _) _ _⟩
        | exact⟨_,rfl,ik dJ.out dV.out _ _⟩
        | (rw[hln];exact⟨_,rfl,ik dJ.out (Below.refl _ _) _ _⟩)
        | (rw[hln];exact⟨_,rfl,ik dJ.out dV.out _ _⟩)
     ·go_wp2_with(first
       | (go_at_call 42;(with_reducible refine(HW.out _).mono ?_);rintro e3 w3 ⟨rfl,rfl⟩)
       | (go_at_call 43;(with_reducible refine(HZ.out _).mono ?_);rintro e5 w5 ⟨rfl,fA⟩;have dV:=hide fA;have lX:=(fA.cell (block_lt_of_cell k19)).trans k19;clear fA))
      all_goals go_meet
      all_goals first
       | exact⟨_,rfl,ik dJ.out (Below.refl _ _) _ _⟩
       | exact⟨_,rfl,ik dJ.out dV.out _ _⟩
       | (rw[hln];exact⟨_,rfl,ik dJ.out (Below.refl _ _) _ _⟩)
       | (rw[hln];exact⟨_,rfl,ik dJ.out dV.out _ _⟩)
 case rest =>
 obtain⟨R,rfl,hA⟩:=hcut;obtain⟨r0,KF⟩:∃q,q=q0 is wd bp z bb ((c.bytes.length:Int) == 0):=⟨_,rfl⟩;rw[←KF]at hA;rw[OZ.out.1,OZ.out.2]at KF;have Uy:=hide KF;have HA:=hide hA;clear hA KF k1 k5 k6 k7 k8 k9 k10 k11 k12 k13 k14 k15 k16 k17 k18 k19 dJ HZ HW OZ HH HL;have hmf :∀(fn:Fn) (first cap:Array Value) (w:World),(Instr.makeFunc fn first cap).run Tryz.prog w = .ok (.func fn first cap) w:=fun _ _ _ _=>rfl;obtain⟨ps1,KG⟩:∃l,l=if bf then[kwOf c.kind,c.repo]++[c.frm]else[kwOf c.kind,c.repo]:=⟨_,rfl⟩
 obtain⟨ps2,KH⟩:∃l,l=if bn then ps1++[c.name]else ps1:=⟨_,rfl⟩
 obtain⟨iY,KI⟩:∃l,l=if bi then ps2++[c.file]else ps2:=⟨_,rfl⟩
 obtain⟨r1,O0⟩:∃q,q=if bf then r0 && isWord c.frm else r0 && decide (c.frm.size=0):=⟨_,rfl⟩
 obtain⟨r2,O1⟩:∃q,q=if bn then r1 && isWord c.name else r1 && decide (c.name.size=0):=⟨_,rfl⟩
 obtain⟨r3,O3⟩:∃q,q=if bi then r2 && isWord c.file else r2 && decide (c.file.size=0):=⟨_,rfl⟩
 have hl1:ps1.length≤3:=by rw[KG];split<;>simp
 have hl2:ps2.length≤4:=by rw[KH];split<;>(try simp)<;>omega
 have hl3:iY.length≤5:=by rw[KI];split<;>(try simp)<;>omega
 have Jt:Hid (∀W:World,dI w W P R (ak c x A n) [kwOf c.kind,c.repo] r0→Calls Tryz.prog 44 #[.bool bf,.string c.frm,.pointer (some ⟨P,0,none⟩),.pointer (some ⟨R,0,none⟩)] W fun e w'=>e = .returned (.tuple #[])∧dI w w' P R (ak c x A n) ps1 r1):=hide fun W h=>by rw[KG,O0];exact OA bf h (by simp)
 have HS2:Hid (∀W:World,dI w W P R (ak c x A n) ps1 r1→Calls Tryz.prog 44 #[.bool bn,.string c.name,.pointer (some ⟨P,0,none⟩),.pointer (some ⟨R,0,none⟩)] W fun e w'=>e = .returned (.tuple #[])∧dI w w' P R (ak c x A n) ps2 r2):=hide fun W h=>by rw[KH,O1];exact OA bn h (by omega)
 have jh:Hid (∀W:World,dI w W P R (ak c x A n) ps2 r2→Calls Tryz.prog 44 #[.bool bi,.string c.file,.pointer (some ⟨P,0,none⟩),.pointer (some ⟨R,0,none⟩)] W fun e w'=>e = .returned (.tuple #[])∧dI w w' P R (ak c x A n) iY r3):=hide fun W h=>by rw[KI,O3];exact OA bi h (by omega)
 have EW:=hide (fun su eF=>CE (su:=su) HE.out KG KH KI eF);have EX:=hide (fun rF eF=>Gg (rF:=rF) HE.out (by rw[←Uy.out];exact O0) O1 O3 eF);have Y7:Hid (bp=true→bb=false):=hide (uH HE.out);clear KG KH KI O0 O1 O3 hl1 hl2 HE Uy;have mi:=hide hl3;clear hl3;have k2:wc.cell? ⟨w.heap.size,2,none⟩=some (.string c.frm):=HA.out.box 2 _ rfl
 go_upto_region 7 with(go_at_call 44;(with_reducible refine(Jt.out _ HA.out).mono ?_);rintro e7 w7 ⟨rfl,h7⟩;have H7:=hide h7;clear h7)
 have k3:w7.cell? ⟨w.heap.size,3,none⟩=some (.string c.name):=H7.out.box 3 _ rfl;clear k2
 go_upto_region 8 with(go_at_call 44;(with_reducible refine(HS2.out _ H7.out).mono ?_);rintro e8 w8 ⟨rfl,h8⟩;have H8:=hide h8;clear h8)
 have k4:w8.cell? ⟨w.heap.size,4,none⟩=some (.string c.file):=H8.out.box 4 _ rfl;clear k3
 go_upto_region 9 with(go_at_call 44;(with_reducible refine(jh.out _ H8.out).mono ?_);rintro e9 w9 ⟨rfl,h9⟩;have H9:=hide h9;clear h9)
 clear k4 Jt HS2 jh HA H7 H8;rcases bp with _|_
 ·rcases bb with _|_
  ·have mJ:=hide (EW.out iY rfl);have eQ:=hide (EX.out r3 rfl);have HX:=H9;clear H9 EW EX;generalize w9=wZ at HX⊢;generalize iY=su at HX mJ;generalize r3=rF at HX eQ;obtain⟨vF,jB⟩:=HX.out.vt;obtain⟨AF,cF,rfl⟩:=iw jB.own.1;have HV:=hide jB;have cP:=HV.out.cell;have cR:=HX.out.right;clear jB;rcases rF with _|_
   ·go_wp2_with fail
    go_ret;exact⟨by rw[Ba (fun h=>by cases eQ.out.2 h)];rfl,HX.out.below⟩
   ·go_wp2_with(go_at_call 47;(with_reducible refine(D5 HV.out.own.1 mJ.out (eQ.out.1 rfl) HS.out HX.out.below).mono ?_);rintro e20 EY ⟨rfl,gu⟩;have jC:=hide gu;clear gu)
    go_ret;exact⟨rfl,jC.out⟩
  ·have mJ:Hid (iY++[bG c.bytes]=aj c):=hide (EW.out _ rfl);have eQ:=hide (EX.out r3 rfl);clear EW EX;have k19:w9.cell? ⟨w.heap.size,19,none⟩=some (.slice A c.bytes.length n):=H9.out.box 19 _ rfl
   go_upto_region 14 with fail
   obtain⟨l,hl⟩:∃l,l=c.bytes:=⟨_,rfl⟩;have BD:Hid (∀W:World,Below w9.drew.heap.size w9.drew W→Calls Tryz.prog 46 #[.slice A c.bytes.length n] W fun e w'=>e = .returned (.string (bG c.bytes))∧Below W.heap.size W w'):=hide fun W hW=>Ff ((HC.out.below (H9.out.below.trans ((Below.refl _ w9).drew.trans hW |>.mono (Nat.le_of_lt H9.out.lt)))).bytes) HS.out.bytes;have BF:=H9;generalize w9=yh at BF BD⊢;obtain⟨v,hv⟩:=BF.out.drew.vt;obtain⟨A1,c1,rfl⟩:=iw hv.own.1;have hS:yh.drew.cell? ⟨w.heap.size,19,none⟩=some (.slice A c.bytes.length n):=hv.st.box 19 _ rfl;clear k19;refine wp_region_held_drew (S:=fun W=>W.cell? ⟨w.heap.size,19,none⟩=some (.slice A c.bytes.length n)) (by kernel_rfl) hS (fun hSD=>?_);generalize yh.drew=D at hv hSD BD⊢;have cP:=hv.cell;have IC:=hv;clear hS hv BF;refine dC 1 hSD ?_;refine dC 2 hSD ?_;refine wpAnyH_ready (rs:=[0,3]) (by kernel_rfl) (by simp) ?_;refine AllReadyH.cons rfl (fun K hK=>?_) (AllReadyH.cons rfl (fun K hK=>?_) AllReadyH.nil)
   ·go_simp
    go_wp2_with fail
    refine hK.out _ _ hSD (fun _=>?_);clear hK K
    try simp only[Act.put,aG,aE,aF,aD,aA,aB]
    refine wpAnyH_ready (rs:=[3]) (by kernel_rfl) (by simp) ?_;refine AllReadyH.cons rfl (fun K hK=>?_) AllReadyH.nil;go_simp
    go_wp2_with(go_at_call 46;(with_reducible refine(BD.out _ (Below.refl _ _)).mono ?_);rintro e7 x7 ⟨rfl,ku⟩)
    have iE:=IC.next ku;have D6:=iE.cell;have lg:x7.cell? ⟨w.heap.size,19,none⟩=some (.slice A c.bytes.length n):=iE.st.box 19 _ rfl;clear ku;refine hK.out _ _ lg (fun _=>?_);clear hK K
    try simp only[Act.put,aG,aE,aF,aD,aA,aB]
    refine wpAnyH_ready (rs:=[4]) (by kernel_rfl) (by simp) ?_;refine AllReadyH.cons rfl (fun K hK=>?_) AllReadyH.nil;go_simp
    go_wp2_with fail
    have hbB:=az x7 (.cells #[.string (bG c.bytes)] 9);have hvB:=iE.next hbB;have hgB:(x7.alloc (.cells #[.string (bG c.bytes)] 9)).cell? ⟨x7.heap.size,0,none⟩=some (.string (bG c.bytes)):=by rw[Lib.cell_of_heap (heap_alloc_new x7 _)];rfl
    have wV:=hvB.cell;have lh:(x7.alloc (.cells #[.string (bG c.bytes)] 9)).cell? ⟨w.heap.size,19,none⟩=some (.slice A c.bytes.length n):=hvB.st.box 19 _ rfl;clear hbB;refine hK.out _ _ lh (fun _=>?_);clear hK K
    try simp only[Act.put,aG,aE,aF,aD,aA,aB]
    refine wpAnyH_ready (rs:=[5]) (by kernel_rfl) (by simp) ?_;refine AllReadyH.cons rfl (fun K hK=>?_) AllReadyH.nil;obtain⟨v',wg,hrun,⟨A9,c9,rfl⟩,⟨z9,sO⟩,pg,lY,lD⟩:=hvB.app_run hgB (aI mi.out (by decide));have HX:=hide lY;have ig:=lD 19 _ rfl;simp only[Nat.zero_add]at ig;refine uk (v1:= .slice A1 iY.length c1) (v2:= .slice (some ⟨x7.heap.size,0,none⟩) 1 1) rfl _ _ _ rfl (by rfl) (by rfl) hrun ?_;clear lY lD hrun wV lh hgB hvB;refine hK.out _ _ ig (fun _=>?_);clear hK K
    try simp only[Act.put,aG,aE,aF,aD,aA,aB]
    refine wpAnyH_ready (rs:=[6]) (by kernel_rfl) (by simp) ?_;refine AllReadyH.cons rfl (fun K hK=>?_) AllReadyH.nil;go_simp
    go_wp2_with fail
    refine hK.out _ _ (HX.out.box 19 _ rfl) (fun _=>?_);clear hK K
    try simp only[Act.put,aG,aE,aF,aD,aA,aB]
    refine wpAnyH_done (by kernel_rfl) ?_ _
    try simp only[Act.put,aG,aE,aF,aD,aA,aB]
    generalize wg.setCell ⟨P,0,none⟩ (.slice A9 (iY.length+1) c9)=wZ at HX⊢;generalize iY++[bG c.bytes]=su at HX mJ;generalize r3=rF at HX eQ;clear sO pg ig;obtain⟨vF,jB⟩:=HX.out.vt;obtain⟨AF,cF,rfl⟩:=iw jB.own.1;have HV:=hide jB;have cP:=HV.out.cell;have cR:=HX.out.right;clear jB;rcases rF with _|_
    ·go_wp2_with fail
     go_ret;exact⟨by rw[Ba (fun h=>by cases eQ.out.2 h)];rfl,HX.out.below⟩
    ·go_wp2_with(go_at_call 47;(with_reducible refine(D5 HV.out.own.1 mJ.out (eQ.out.1 rfl) HS.out HX.out.below).mono ?_);rintro e20 EY ⟨rfl,gu⟩;have jC:=hide gu;clear gu)
     go_ret;exact⟨rfl,jC.out⟩
   ·go_simp
    go_wp2_with(go_at_call 46;(with_reducible refine(BD.out _ (Below.refl _ _)).mono ?_);rintro e7 x7 ⟨rfl,ku⟩)
    have iE:=IC.next ku;have D6:=iE.cell;have lg:x7.cell? ⟨w.heap.size,19,none⟩=some (.slice A c.bytes.length n):=iE.st.box 19 _ rfl;clear ku;refine hK.out _ _ lg (fun _=>?_);clear hK K
    try simp only[Act.put,aG,aE,aF,aD,aA,aB]
    refine wpAnyH_ready (rs:=[0,4]) (by kernel_rfl) (by simp) ?_;refine AllReadyH.cons rfl (fun K hK=>?_) (AllReadyH.cons rfl (fun K hK=>?_) AllReadyH.nil)
    ·go_simp
     go_wp2_with fail
     refine hK.out _ _ lg (fun _=>?_);clear hK K
     try simp only[Act.put,aG,aE,aF,aD,aA,aB]
     refine wpAnyH_ready (rs:=[4]) (by kernel_rfl) (by simp) ?_;refine AllReadyH.cons rfl (fun K hK=>?_) AllReadyH.nil;go_simp
     go_wp2_with fail
     have hbB:=az x7 (.cells #[.string (bG c.bytes)] 9);have hvB:=iE.next hbB;have hgB:(x7.alloc (.cells #[.string (bG c.bytes)] 9)).cell? ⟨x7.heap.size,0,none⟩=some (.string (bG c.bytes)):=by rw[Lib.cell_of_heap (heap_alloc_new x7 _)];rfl
     have wV:=hvB.cell;have lh:(x7.alloc (.cells #[.string (bG c.bytes)] 9)).cell? ⟨w.heap.size,19,none⟩=some (.slice A c.bytes.length n):=hvB.st.box 19 _ rfl;clear hbB;refine hK.out _ _ lh (fun _=>?_);clear hK K
     try simp only[Act.put,aG,aE,aF,aD,aA,aB]
     refine wpAnyH_ready (rs:=[5]) (by kernel_rfl) (by simp) ?_;refine AllReadyH.cons rfl (fun K hK=>?_) AllReadyH.nil;obtain⟨v',wg,hrun,⟨A9,c9,rfl⟩,⟨z9,sO⟩,pg,lY,lD⟩:=hvB.app_run hgB (aI mi.out (by decide));have HX:=hide lY;have ig:=lD 19 _ rfl;simp only[Nat.zero_add]at ig;refine uk (v1:= .slice A1 iY.length c1) (v2:= .slice (some ⟨x7.heap.size,0,none⟩) 1 1) rfl _ _ _ rfl (by rfl) (by rfl) hrun ?_;clear lY lD hrun wV lh hgB hvB;refine hK.out _ _ ig (fun _=>?_);clear hK K
     try simp only[Act.put,aG,aE,aF,aD,aA,aB]
     refine wpAnyH_ready (rs:=[6]) (by kernel_rfl) (by simp) ?_;refine AllReadyH.cons rfl (fun K hK=>?_) AllReadyH.nil;go_simp
     go_wp2_with fail
     refine hK.out _ _ (HX.out.box 19 _ rfl) (fun _=>?_);clear hK K
     try simp only[Act.put,aG,aE,aF,aD,aA,aB]
     refine wpAnyH_done (by kernel_rfl) ?_ _
     try simp only[Act.put,aG,aE,aF,aD,aA,aB]
     generalize wg.setCell ⟨P,0,none⟩ (.slice A9 (iY.length+1) c9)=wZ at HX⊢;generalize iY++[bG c.bytes]=su at HX mJ;generalize r3=rF at HX eQ;clear sO pg ig;obtain⟨vF,jB⟩:=HX.out.vt;obtain⟨AF,cF,rfl⟩:=iw jB.own.1;have HV:=hide jB;have cP:=HV.out.cell;have cR:=HX.out.right;clear jB;rcases rF with _|_
     ·go_wp2_with fail
      go_ret;exact⟨by rw[Ba (fun h=>by cases eQ.out.2 h)];rfl,HX.out.below⟩
     ·go_wp2_with(go_at_call 47;(with_reducible refine(D5 HV.out.own.1 mJ.out (eQ.out.1 rfl) HS.out HX.out.below).mono ?_);rintro e20 EY ⟨rfl,gu⟩;have jC:=hide gu;clear gu)
      go_ret;exact⟨rfl,jC.out⟩
    ·go_simp
     go_wp2_with fail
     have hbB:=az x7 (.cells #[.string (bG c.bytes)] 9);have hvB:=iE.next hbB;have hgB:(x7.alloc (.cells #[.string (bG c.bytes)] 9)).cell? ⟨x7.heap.size,0,none⟩=some (.string (bG c.bytes)):=by rw[Lib.cell_of_heap (heap_alloc_new x7 _)];rfl
     have wV:=hvB.cell;have lh:(x7.alloc (.cells #[.string (bG c.bytes)] 9)).cell? ⟨w.heap.size,19,none⟩=some (.slice A c.bytes.length n):=hvB.st.box 19 _ rfl;clear hbB;refine hK.out _ _ lh (fun _=>?_);clear hK K
     try simp only[Act.put,aG,aE,aF,aD,aA,aB]
     refine wpAnyH_ready (rs:=[0]) (by kernel_rfl) (by simp) ?_;refine AllReadyH.cons rfl (fun K hK=>?_) AllReadyH.nil;go_simp
     go_wp2_with fail
     refine hK.out _ _ lh (fun _=>?_);clear hK K
     try simp only[Act.put,aG,aE,aF,aD,aA,aB]
     refine wpAnyH_ready (rs:=[5]) (by kernel_rfl) (by simp) ?_;refine AllReadyH.cons rfl (fun K hK=>?_) AllReadyH.nil;obtain⟨v',wg,hrun,⟨A9,c9,rfl⟩,⟨z9,sO⟩,pg,lY,lD⟩:=hvB.app_run hgB (aI mi.out (by decide));have HX:=hide lY;have ig:=lD 19 _ rfl;simp only[Nat.zero_add]at ig;refine uk (v1:= .slice A1 iY.length c1) (v2:= .slice (some ⟨x7.heap.size,0,none⟩) 1 1) rfl _ _ _ rfl (by rfl) (by rfl) hrun ?_;clear lY lD hrun wV lh hgB hvB;refine hK.out _ _ ig (fun _=>?_);clear hK K
     try simp only[Act.put,aG,aE,aF,aD,aA,aB]
     refine wpAnyH_ready (rs:=[6]) (by kernel_rfl) (by simp) ?_;refine AllReadyH.cons rfl (fun K hK=>?_) AllReadyH.nil;go_simp
     go_wp2_with fail
     refine hK.out _ _ (HX.out.box 19 _ rfl) (fun _=>?_);clear hK K
     try simp only[Act.put,aG,aE,aF,aD,aA,aB]
     refine wpAnyH_done (by kernel_rfl) ?_ _
     try simp only[Act.put,aG,aE,aF,aD,aA,aB]
     generalize wg.setCell ⟨P,0,none⟩ (.slice A9 (iY.length+1) c9)=wZ at HX⊢;generalize iY++[bG c.bytes]=su at HX mJ;generalize r3=rF at HX eQ;clear sO pg ig;obtain⟨vF,jB⟩:=HX.out.vt;obtain⟨AF,cF,rfl⟩:=iw jB.own.1;have HV:=hide jB;have cP:=HV.out.cell;have cR:=HX.out.right;clear jB;rcases rF with _|_
     ·go_wp2_with fail
      go_ret;exact⟨by rw[Ba (fun h=>by cases eQ.out.2 h)];rfl,HX.out.below⟩
     ·go_wp2_with(go_at_call 47;(with_reducible refine(D5 HV.out.own.1 mJ.out (eQ.out.1 rfl) HS.out HX.out.below).mono ?_);rintro e20 EY ⟨rfl,gu⟩;have jC:=hide gu;clear gu)
      go_ret;exact⟨rfl,jC.out⟩
 ·obtain rfl:=Y7.out rfl;have mJ:Hid (iY++[bG (cZ c.patch)]=aj c):=hide (EW.out _ rfl);have eQ:Hid (((r3 && okB c.patch)=true)↔aQ c):=hide (EX.out _ rfl);clear EW EX;obtain⟨okb,KJ⟩:∃b,b=okB c.patch:=⟨_,rfl⟩;rw[←KJ]at eQ;obtain⟨ec,D7,Y8⟩:∃ec:Int,ec=(if okb=true then 0 else 4)∧(ec == 0)=okb:=⟨_,rfl,by cases okb<;>rfl⟩;have IE:Hid (Calls Tryz.prog 45 #[.agg (gQ c.patch x).toArray] w9 fun e w'=>Below w9.heap.size w9 w'∧∃A2 c2,e = .returned (.tuple #[.slice A2 (cZ c.patch).length c2,.int .i64 ec])∧BytesIn (fun b=>w9.heap.size≤b) w' A2 (cZ c.patch)):=hide (by
   refine(zF (HC.out.below H9.out.below).patch (HT.out.below H9.out.below) HS.out.names HS.out.put).mono ?_;rintro e w' ⟨hB,⟨hok,A2,c2,rfl,hb,_⟩|⟨hno,rfl⟩⟩
   ·have e1:cZ c.patch=dX c.patch:=if_pos hok;have e2:okb=true:=by rw[KJ,MW];exact hok
    refine⟨hB,A2,c2,?_,by rw[e1];exact hb⟩;rw[e1,D7,if_pos e2]
   ·have e1:cZ c.patch=[]:=if_neg hno;have e2 :¬okb=true:=by rw[KJ,MW];exact hno
    refine⟨hB,none,0,?_,by rw[e1];exact⟨.nil,Nat.zero_le _⟩⟩;rw[e1,D7,if_neg e2];rfl)
  clear D7 KJ;have KL:Hid (R<w9.heap.size):=hide (block_lt_of_cell H9.out.right);have k5:w9.cell? ⟨w.heap.size,5,none⟩=_:=H9.out.box 5 _ rfl;have k6:w9.cell? ⟨w.heap.size,6,none⟩=_:=H9.out.box 6 _ rfl;have k7:w9.cell? ⟨w.heap.size,7,none⟩=_:=H9.out.box 7 _ rfl;have k8:w9.cell? ⟨w.heap.size,8,none⟩=_:=H9.out.box 8 _ rfl;have k9:w9.cell? ⟨w.heap.size,9,none⟩=_:=H9.out.box 9 _ rfl;have k10:w9.cell? ⟨w.heap.size,10,none⟩=_:=H9.out.box 10 _ rfl;have k11:w9.cell? ⟨w.heap.size,11,none⟩=_:=H9.out.box 11 _ rfl;have k12:w9.cell? ⟨w.heap.size,12,none⟩=_:=H9.out.box 12 _ rfl;have k13:w9.cell? ⟨w.heap.size,13,none⟩=_:=H9.out.box 13 _ rfl;have k14:w9.cell? ⟨w.heap.size,14,none⟩=_:=H9.out.box 14 _ rfl;have k15:w9.cell? ⟨w.heap.size,15,none⟩=_:=H9.out.box 15 _ rfl;have k16:w9.cell? ⟨w.heap.size,16,none⟩=_:=H9.out.box 16 _ rfl;have k17:w9.cell? ⟨w.heap.size,17,none⟩=_:=H9.out.box 17 _ rfl;have k18:w9.cell? ⟨w.heap.size,18,none⟩=_:=H9.out.box 18 _ rfl
  go_upto_region 11 with(go_at_call 45;(with_reducible refine IE.out.mono ?_);rintro e10 w10 ⟨nJ,A2,c2,rfl,hby⟩;have KN:=hide (H9.out.next nJ);have Uz:=hide hby;clear nJ hby)
  clear k5 k6 k7 k8 k9 k10 k11 k12 k13 k14 k15 k16 k17 k18 IE H9;have cR:=KN.out.right;have fR:=KN.out.rf;refine wp_region_lit ?_;refine sk ?_;refine sk ?_;refine sg (b:=r3) ?_ (hw:=by cases r3<;>rfl);refine sg (b:=r3) ?_ (hw:=by cases r3<;>rfl);refine sp (g:=r3) ?_;refine ss ?_;refine wpList_nil ?_;generalize (if r3=true then Value.int .i64 ec else undef)=y84;generalize (if r3=true then Value.bool okb else undef)=y85;have BF:=hide (KN.out.setR (r3 && okb));have zK:=hide (Uz.out.keep (w':=w10.setCell ⟨R,0,none⟩ (.bool (r3 && okb))) fun b hb=>Below.heap_setCell _ _ _ _ (by have:=KL.out;show b≠R;omega));generalize (r3 && okb)=r4 at BF eQ zK⊢;clear cR fR Y8 Uz KN;generalize w10.setCell ⟨R,0,none⟩ (.bool r4)=yh at BF zK⊢;have BD:Hid (∀W:World,Below yh.drew.heap.size yh.drew W→Calls Tryz.prog 46 #[.slice A2 (cZ c.patch).length c2] W fun e w'=>e = .returned (.string (bG (cZ c.patch)))∧Below W.heap.size W w'):=hide fun W hW=>Ff (zK.out.below ((Below.refl _ yh).drew.trans hW)) (aI (Rt c.patch) HS.out.put);rename_i hK;refine hK _ _ ?_;clear hK zK;obtain⟨v,hv⟩:=BF.out.drew.vt;obtain⟨A1,c1,rfl⟩:=iw hv.own.1;have hS:yh.drew.cell? ⟨w.heap.size,19,none⟩=some (.slice A c.bytes.length n):=hv.st.box 19 _ rfl;refine wp_region_held_drew (S:=fun W=>W.cell? ⟨w.heap.size,19,none⟩=some (.slice A c.bytes.length n)) (by kernel_rfl) hS (fun hSD=>?_);generalize yh.drew=D at hv hSD BD⊢;have cP:=hv.cell;have IC:=hv;clear hS hv BF;refine dC 1 hSD ?_;refine wpAnyH_ready (rs:=[0,2]) (by kernel_rfl) (by simp) ?_;refine AllReadyH.cons rfl (fun K hK=>?_) (AllReadyH.cons rfl (fun K hK=>?_) AllReadyH.nil)
  ·go_simp
   go_wp2_with fail
   refine hK.out _ _ hSD (fun _=>?_);clear hK K
   try simp only[Act.put,aG,aE,aF,aD,aA,aB]
   refine wpAnyH_ready (rs:=[2]) (by kernel_rfl) (by simp) ?_;refine AllReadyH.cons rfl (fun K hK=>?_) AllReadyH.nil;go_simp
   go_wp2_with(go_at_call 46;(with_reducible refine(BD.out _ (Below.refl _ _)).mono ?_);rintro e7 x7 ⟨rfl,ku⟩)
   have iE:=IC.next ku;have D6:=iE.cell;have lg:x7.cell? ⟨w.heap.size,19,none⟩=some (.slice A c.bytes.length n):=iE.st.box 19 _ rfl;clear ku;refine hK.out _ _ lg (fun _=>?_);clear hK K
   try simp only[Act.put,aG,aE,aF,aD,aA,aB]
   refine wpAnyH_ready (rs:=[3]) (by kernel_rfl) (by simp) ?_;refine AllReadyH.cons rfl (fun K hK=>?_) AllReadyH.nil;go_simp
   go_wp2_with fail
   have hbB:=az x7 (.cells #[.string (bG (cZ c.patch))] 9);have hvB:=iE.next hbB;have hgB:(x7.alloc (.cells #[.string (bG (cZ c.patch))] 9)).cell? ⟨x7.heap.size,0,none⟩=some (.string (bG (cZ c.patch))):=by rw[Lib.cell_of_heap (heap_alloc_new x7 _)];rfl
   have wV:=hvB.cell;have lh:(x7.alloc (.cells #[.string (bG (cZ c.patch))] 9)).cell? ⟨w.heap.size,19,none⟩=some (.slice A c.bytes.length n):=hvB.st.box 19 _ rfl;clear hbB;refine hK.out _ _ lh (fun _=>?_);clear hK K
   try simp only[Act.put,aG,aE,aF,aD,aA,aB]
   refine wpAnyH_ready (rs:=[4]) (by kernel_rfl) (by simp) ?_;refine AllReadyH.cons rfl (fun K hK=>?_) AllReadyH.nil;obtain⟨v',wg,hrun,⟨A9,c9,rfl⟩,⟨z9,sO⟩,pg,lY,lD⟩:=hvB.app_run hgB (aI mi.out (by decide));have HX:=hide lY;have ig:=lD 19 _ rfl;simp only[Nat.zero_add]at ig;refine uk (v1:= .slice A1 iY.length c1) (v2:= .slice (some ⟨x7.heap.size,0,none⟩) 1 1) rfl _ _ _ rfl (by rfl) (by rfl) hrun ?_;clear lY lD hrun wV lh hgB hvB;refine hK.out _ _ ig (fun _=>?_);clear hK K
   try simp only[Act.put,aG,aE,aF,aD,aA,aB]
   refine wpAnyH_ready (rs:=[5]) (by kernel_rfl) (by simp) ?_;refine AllReadyH.cons rfl (fun K hK=>?_) AllReadyH.nil;go_simp
   go_wp2_with fail
   refine hK.out _ _ (HX.out.box 19 _ rfl) (fun _=>?_);clear hK K
   try simp only[Act.put,aG,aE,aF,aD,aA,aB]
   refine wpAnyH_done (by kernel_rfl) ?_ _
   try simp only[Act.put,aG,aE,aF,aD,aA,aB]
   generalize wg.setCell ⟨P,0,none⟩ (.slice A9 (iY.length+1) c9)=wZ at HX⊢;generalize iY++[bG (cZ c.patch)]=su at HX mJ;generalize r4=rF at HX eQ;clear sO pg ig;obtain⟨vF,jB⟩:=HX.out.vt;obtain⟨AF,cF,rfl⟩:=iw jB.own.1;have HV:=hide jB;have cP:=HV.out.cell;have cR:=HX.out.right;clear jB;rcases rF with _|_
   ·go_wp2_with fail
    go_ret;exact⟨by rw[Ba (fun h=>by cases eQ.out.2 h)];rfl,HX.out.below⟩
   ·go_wp2_with(go_at_call 47;(with_reducible refine(D5 HV.out.own.1 mJ.out (eQ.out.1 rfl) HS.out HX.out.below).mono ?_);rintro e20 EY ⟨rfl,gu⟩;have jC:=hide gu;clear gu)
    go_ret;exact⟨rfl,jC.out⟩
  ·go_simp
   go_wp2_with(go_at_call 46;(with_reducible refine(BD.out _ (Below.refl _ _)).mono ?_);rintro e7 x7 ⟨rfl,ku⟩)
   have iE:=IC.next ku;have D6:=iE.cell;have lg:x7.cell? ⟨w.heap.size,19,none⟩=some (.slice A c.bytes.length n):=iE.st.box 19 _ rfl;clear ku;refine hK.out _ _ lg (fun _=>?_);clear hK K
   try simp only[Act.put,aG,aE,aF,aD,aA,aB]
   refine wpAnyH_ready (rs:=[0,3]) (by kernel_rfl) (by simp) ?_;refine AllReadyH.cons rfl (fun K hK=>?_) (AllReadyH.cons rfl (fun K hK=>?_) AllReadyH.nil)
   ·go_simp
    go_wp2_with fail
    refine hK.out _ _ lg (fun _=>?_);clear hK K
    try simp only[Act.put,aG,aE,aF,aD,aA,aB]
    refine wpAnyH_ready (rs:=[3]) (by kernel_rfl) (by simp) ?_;refine AllReadyH.cons rfl (fun K hK=>?_) AllReadyH.nil;go_simp
    go_wp2_with fail
    have hbB:=az x7 (.cells #[.string (bG (cZ c.patch))] 9);have hvB:=iE.next hbB;have hgB:(x7.alloc (.cells #[.string (bG (cZ c.patch))] 9)).cell? ⟨x7.heap.size,0,none⟩=some (.string (bG (cZ c.patch))):=by rw[Lib.cell_of_heap (heap_alloc_new x7 _)];rfl
    have wV:=hvB.cell;have lh:(x7.alloc (.cells #[.string (bG (cZ c.patch))] 9)).cell? ⟨w.heap.size,19,none⟩=some (.slice A c.bytes.length n):=hvB.st.box 19 _ rfl;clear hbB;refine hK.out _ _ lh (fun _=>?_);clear hK K
    try simp only[Act.put,aG,aE,aF,aD,aA,aB]
    refine wpAnyH_ready (rs:=[4]) (by kernel_rfl) (by simp) ?_;refine AllReadyH.cons rfl (fun K hK=>?_) AllReadyH.nil;obtain⟨v',wg,hrun,⟨A9,c9,rfl⟩,⟨z9,sO⟩,pg,lY,lD⟩:=hvB.app_run hgB (aI mi.out (by decide));have HX:=hide lY;have ig:=lD 19 _ rfl;simp only[Nat.zero_add]at ig;refine uk (v1:= .slice A1 iY.length c1) (v2:= .slice (some ⟨x7.heap.size,0,none⟩) 1 1) rfl _ _ _ rfl (by rfl) (by rfl) hrun ?_;clear lY lD hrun wV lh hgB hvB;refine hK.out _ _ ig (fun _=>?_);clear hK K
    try simp only[Act.put,aG,aE,aF,aD,aA,aB]
    refine wpAnyH_ready (rs:=[5]) (by kernel_rfl) (by simp) ?_;refine AllReadyH.cons rfl (fun K hK=>?_) AllReadyH.nil;go_simp
    go_wp2_with fail
    refine hK.out _ _ (HX.out.box 19 _ rfl) (fun _=>?_);clear hK K
    try simp only[Act.put,aG,aE,aF,aD,aA,aB]
    refine wpAnyH_done (by kernel_rfl) ?_ _
    try simp only[Act.put,aG,aE,aF,aD,aA,aB]
    generalize wg.setCell ⟨P,0,none⟩ (.slice A9 (iY.length+1) c9)=wZ at HX⊢;generalize iY++[bG (cZ c.patch)]=su at HX mJ;generalize r4=rF at HX eQ;clear sO pg ig;obtain⟨vF,jB⟩:=HX.out.vt;obtain⟨AF,cF,rfl⟩:=iw jB.own.1;have HV:=hide jB;have cP:=HV.out.cell;have cR:=HX.out.right;clear jB;rcases rF with _|_
    ·go_wp2_with fail
     go_ret;exact⟨by rw[Ba (fun h=>by cases eQ.out.2 h)];rfl,HX.out.below⟩
    ·go_wp2_with(go_at_call 47;(with_reducible refine(D5 HV.out.own.1 mJ.out (eQ.out.1 rfl) HS.out HX.out.below).mono ?_);rintro e20 EY ⟨rfl,gu⟩;have jC:=hide gu;clear gu)
     go_ret;exact⟨rfl,jC.out⟩
   ·go_simp
    go_wp2_with fail
    have hbB:=az x7 (.cells #[.string (bG (cZ c.patch))] 9);have hvB:=iE.next hbB;have hgB:(x7.alloc (.cells #[.string (bG (cZ c.patch))] 9)).cell? ⟨x7.heap.size,0,none⟩=some (.string (bG (cZ c.patch))):=by rw[Lib.cell_of_heap (heap_alloc_new x7 _)];rfl
    have wV:=hvB.cell;have lh:(x7.alloc (.cells #[.string (bG (cZ c.patch))] 9)).cell? ⟨w.heap.size,19,none⟩=some (.slice A c.bytes.length n):=hvB.st.box 19 _ rfl;clear hbB;refine hK.out _ _ lh (fun _=>?_);clear hK K
    try simp only[Act.put,aG,aE,aF,aD,aA,aB]
    refine wpAnyH_ready (rs:=[0]) (by kernel_rfl) (by simp) ?_;refine AllReadyH.cons rfl (fun K hK=>?_) AllReadyH.nil;go_simp
    go_wp2_with fail
    refine hK.out _ _ lh (fun _=>?_);clear hK K
    try simp only[Act.put,aG,aE,aF,aD,aA,aB]
    refine wpAnyH_ready (rs:=[4]) (by kernel_rfl) (by simp) ?_;refine AllReadyH.cons rfl (fun K hK=>?_) AllReadyH.nil;obtain⟨v',wg,hrun,⟨A9,c9,rfl⟩,⟨z9,sO⟩,pg,lY,lD⟩:=hvB.app_run hgB (aI mi.out (by decide));have HX:=hide lY;have ig:=lD 19 _ rfl;simp only[Nat.zero_add]at ig;refine uk (v1:= .slice A1 iY.length c1) (v2:= .slice (some ⟨x7.heap.size,0,none⟩) 1 1) rfl _ _ _ rfl (by rfl) (by rfl) hrun ?_;clear lY lD hrun wV lh hgB hvB;refine hK.out _ _ ig (fun _=>?_);clear hK K
    try simp only[Act.put,aG,aE,aF,aD,aA,aB]
    refine wpAnyH_ready (rs:=[5]) (by kernel_rfl) (by simp) ?_;refine AllReadyH.cons rfl (fun K hK=>?_) AllReadyH.nil;go_simp
    go_wp2_with fail
    refine hK.out _ _ (HX.out.box 19 _ rfl) (fun _=>?_);clear hK K
    try simp only[Act.put,aG,aE,aF,aD,aA,aB]
    refine wpAnyH_done (by kernel_rfl) ?_ _
    try simp only[Act.put,aG,aE,aF,aD,aA,aB]
    generalize wg.setCell ⟨P,0,none⟩ (.slice A9 (iY.length+1) c9)=wZ at HX⊢;generalize iY++[bG (cZ c.patch)]=su at HX mJ;generalize r4=rF at HX eQ;clear sO pg ig;obtain⟨vF,jB⟩:=HX.out.vt;obtain⟨AF,cF,rfl⟩:=iw jB.own.1;have HV:=hide jB;have cP:=HV.out.cell;have cR:=HX.out.right;clear jB;rcases rF with _|_
    ·go_wp2_with fail
     go_ret;exact⟨by rw[Ba (fun h=>by cases eQ.out.2 h)];rfl,HX.out.below⟩
    ·go_wp2_with(go_at_call 47;(with_reducible refine(D5 HV.out.own.1 mJ.out (eQ.out.1 rfl) HS.out HX.out.below).mono ?_);rintro e20 EY ⟨rfl,gu⟩;have jC:=hide gu;clear gu)
     go_ret;exact⟨rfl,jC.out⟩
end
end Go.Proofs.YtjjaojnglnpgaaaGreatDoor
