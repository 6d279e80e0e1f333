/- Answers are lent, held against each other, and are as they were (kit.LentAnswer, kit.SameAnswer, kit.KeptAnswer). Printed by gen_scrlent.py. -/
import Derived.Deep.CutBlock
import Derived.Deep.DeepCutAuto
import Derived.Test.YtjjaojnglnpgaaaGreatDoorLTell
import Derived.Test.YtjjaojnglnpgaaaGreatDoorLLentX
import Derived.Test.YtjjaojnglnpgaaaGreatDoorLLentBy
import Derived.Test.YtjjaojnglnpgaaaGreatDoorLKeptR
import Derived.Test.YtjjaojnglnpgaaaGreatDoorLKit

set_option linter.unusedVariables false
set_option linter.unusedSimpArgs false

namespace Go.Proofs.YtjjaojnglnpgaaaGreatDoor
open Go.RowKit

theorem LentBytes.keep {S : Nat → Prop} {w w' : World} {A : Option Addr} {c : Nat} {l : List UInt8} (h : LentBytes S w A c l) (hk : ∀ b, S b → w'.heap[b]? = w.heap[b]?) : LentBytes S w' A c l := ⟨h.1.keep hk, h.2⟩
theorem LentBytes.mono {S S' : Nat → Prop} {w : World} {A : Option Addr} {c : Nat} {l : List UInt8} (h : LentBytes S w A c l) (hm : ∀ b, S b → S' b) : LentBytes S' w A c l := ⟨h.1.mono (fun b _ => hm b), h.2⟩
theorem An.eq_iff {a b : An} : a = b ↔ a.err = b.err ∧ a.names = b.names ∧ a.text = b.text ∧ a.bytes = b.bytes := by cases a; cases b; simp
structure LentAn (S : Nat → Prop) (w : World) (x : Ah) (a : An) : Prop where
  err : isInt64 a.err
  names : LentStrs S w x.nA x.nc a.names
  text : a.text.size ≤ 9223372036854775807
  bytes : LentBytes S w x.bA x.bc a.bytes
theorem LentAn.below {S : Nat → Prop} {w w' : World} {x : Ah} {a : An} (h : LentAn S w x a) (hB : Below w.heap.size w w') : LentAn S w' x a := ⟨h.err, h.names.below hB, h.text, h.bytes.below hB⟩
theorem LentAn.an {S : Nat → Prop} {w : World} {x : Ah} {a : An} (h : LentAn S w x a) : AnIn S w x a := ⟨h.err, h.names.strs, h.text, h.bytes.bytes, h.names.1.cap, h.bytes.1.cap⟩
set_option maxHeartbeats 4000000 in
set_option maxRecDepth 100000 in
theorem lentAnswer_any {S : Nat → Prop} {x : Ah} {a : An} {w : World} (h : AnIn S w x a) (h1 : a.names.length ≤ 1099511627776) (h2 : a.bytes.length ≤ 1099511627776) :
    Calls Tryz.prog 19 #[.agg #[.int .i64 a.err, .slice x.nA a.names.length x.nc, .string a.text, .slice x.bA a.bytes.length x.bc]] w fun e w' => ∃ y : Ah, e = .returned (.agg #[.int .i64 a.err, .slice y.nA a.names.length y.nc, .string a.text, .slice y.bA a.bytes.length y.bc]) ∧ LentAn (fun b => w.heap.size ≤ b) w' y a ∧ Below w.heap.size w w' := by
  have H := hide h
  clear h
  obtain ⟨W0, hW0⟩ : ∃ W0, W0 = (w.alloc (.cells #[.int .i64 a.err, .slice x.nA a.names.length x.nc, .string a.text, .slice x.bA a.bytes.length x.bc] 53)).alloc (.cells #[.int .i64 0, .slice none 0 0, .string ⟨#[]⟩, .slice none 0 0] 53) := ⟨_, rfl⟩
  have hB0 : BxL w W0 [.int .i64 a.err, .slice x.nA a.names.length x.nc, .string a.text, .slice x.bA a.bytes.length x.bc] [.int .i64 0, .slice none 0 0, .string ⟨#[]⟩, .slice none 0 0] := by rw [hW0]; exact BxL.start w #[.int .i64 a.err, .slice x.nA a.names.length x.nc, .string a.text, .slice x.bA a.bytes.length x.bc] #[.int .i64 0, .slice none 0 0, .string ⟨#[]⟩, .slice none 0 0] _ _
  have HW0 := hide hW0
  clear hW0
  go_enter Tryz.func19, Tryz.ntmps19
  go_upto_region 1 with fail
  change Code.wp _ _ _ _ ((w.alloc (.cells #[.int .i64 a.err, .slice x.nA a.names.length x.nc, .string a.text, .slice x.bA a.bytes.length x.bc] 53)).alloc (.cells #[.int .i64 0, .slice none 0 0, .string ⟨#[]⟩, .slice none 0 0] 53))
  rw [← HW0.out]
  clear HW0
  have b0 := hB0.c 0 _ rfl
  have b1 := hB0.c 1 _ rfl
  have b2 := hB0.c 2 _ rfl
  have b3 := hB0.c 3 _ rfl
  have HB0 := hide hB0
  clear hB0
  go_cut [] (fun wx => ∃ A1 c1, BxL w wx [.int .i64 a.err, .slice A1 a.names.length c1, .string a.text, .slice x.bA a.bytes.length x.bc] [.int .i64 0, .slice none 0 0, .string ⟨#[]⟩, .slice none 0 0] ∧ LentStrs (fun b => w.heap.size + 2 ≤ b) wx A1 c1 a.names)
  case first =>
    go_wp2_with (go_at_call 54; (with_reducible refine (lentTexts_any (H.out.names.below HB0.out.b) h1).mono ?_); rintro e1 w1 ⟨A1, c1, rfl, hL, hB⟩; have hC := HB0.out.call hB; have hz := hC.z; have d0 := hC.c 0 _ rfl; have d1 := hC.c 1 _ rfl; have d2 := hC.c 2 _ rfl; have d3 := hC.c 3 _ rfl; have hf := hC.fc; have HC := hide hC; have HL := hide hL; have HBB := hide hB; clear hC hL hB)
    go_meet
    exact ⟨_, _, HC.out.put 1 [.slice A1 a.names.length c1] (by simp), ((HL.out.mono (S' := fun b => w.heap.size + 2 ≤ b) (fun b hb => Nat.le_trans HB0.out.z hb)).keep fun b hb => heap_setCellsL w.heap.size (by omega) [.slice A1 a.names.length c1] 1 w1)⟩
  case rest =>
  obtain ⟨A1, c1, hB1, hl⟩ := hcut
  clear HB0 b0 b1 b2 b3
  have Hhl := hide hl
  clear hl
  go_upto_region 2 with fail
  have hl := Hhl.out
  clear Hhl
  have b0 := hB1.c 0 _ rfl
  have b1 := hB1.c 1 _ rfl
  have b2 := hB1.c 2 _ rfl
  have b3 := hB1.c 3 _ rfl
  have HB1 := hide hB1
  clear hB1
  go_cut [] (fun wx => ∃ A2 c2, BxL w wx [.int .i64 a.err, .slice A1 a.names.length c1, .string a.text, .slice A2 a.bytes.length c2] [.int .i64 0, .slice none 0 0, .string ⟨#[]⟩, .slice none 0 0] ∧ LentStrs (fun b => w.heap.size + 2 ≤ b) wx A1 c1 a.names ∧ LentBytes (fun b => w.heap.size + 2 ≤ b) wx A2 c2 a.bytes)
  case first =>
    go_wp2_with (go_at_call 39; (with_reducible refine (lentBytes_any (H.out.bytes.below HB1.out.b) h2).mono ?_); rintro e1 w1 ⟨A2, c2, rfl, hL, hB⟩; have hC := HB1.out.call hB; have hz := hC.z; have d0 := hC.c 0 _ rfl; have d1 := hC.c 1 _ rfl; have d2 := hC.c 2 _ rfl; have d3 := hC.c 3 _ rfl; have hf := hC.fc; have HC := hide hC; have HL := hide hL; have HBB := hide hB; clear hC hL hB)
    go_meet
    exact ⟨_, _, HC.out.put 3 [.slice A2 a.bytes.length c2] (by simp), ((hl.below HBB.out).keep fun b hb => heap_setCellsL w.heap.size (by omega) [.slice A2 a.bytes.length c2] 3 w1), ((HL.out.mono (S' := fun b => w.heap.size + 2 ≤ b) (fun b hb => Nat.le_trans HB1.out.z hb)).keep fun b hb => heap_setCellsL w.heap.size (by omega) [.slice A2 a.bytes.length c2] 3 w1)⟩
  case rest =>
  obtain ⟨A2, c2, hB2, hl, hm⟩ := hcut
  clear HB1 b0 b1 b2 b3
  have Hhl := hide hl
  clear hl
  have Hhm := hide hm
  clear hm
  go_upto_region 3 with fail
  have hl := Hhl.out
  clear Hhl
  have hm := Hhm.out
  clear Hhm
  have b0 := hB2.c 0 _ rfl
  have b1 := hB2.c 1 _ rfl
  have b2 := hB2.c 2 _ rfl
  have b3 := hB2.c 3 _ rfl
  have r0 := hB2.r 0 _ rfl
  have r1 := hB2.r 1 _ rfl
  have r2 := hB2.r 2 _ rfl
  have r3 := hB2.r 3 _ rfl
  have hfr := hB2.fr
  obtain ⟨hR, hBe⟩ := hB2.res [.int .i64 a.err, .slice A1 a.names.length c1, .string a.text, .slice A2 a.bytes.length c2] rfl
  have hz := hB2.z
  have hlr := (hl.keep (w' := World.setCells wc (w.heap.size + 1) 0 [.int .i64 a.err, .slice A1 a.names.length c1, .string a.text, .slice A2 a.bytes.length c2]) fun b hb => heap_setCellsL (w.heap.size + 1) (by omega) _ _ _)
  have Hhl := hide hlr
  clear hl hlr
  have hmr := (hm.keep (w' := World.setCells wc (w.heap.size + 1) 0 [.int .i64 a.err, .slice A1 a.names.length c1, .string a.text, .slice A2 a.bytes.length c2]) fun b hb => heap_setCellsL (w.heap.size + 1) (by omega) _ _ _)
  have Hhm := hide hmr
  clear hm hmr
  have HBe := hide hBe
  clear hB2 hBe
  obtain ⟨wF, hF⟩ : ∃ wF, wF = World.setCells wc (w.heap.size + 1) 0 [.int .i64 a.err, .slice A1 a.names.length c1, .string a.text, .slice A2 a.bytes.length c2] := ⟨_, rfl⟩
  rw [← hF] at hR
  rw [← hF] at Hhl
  rw [← hF] at Hhm
  rw [← hF] at HBe
  simp only [World.setCells, Nat.reduceAdd] at hF
  have HR := hide hR
  have HF := hide hF
  clear hR hF
  go_wp2_with fail
  rw [← HF.out]
  clear HF
  have q0 := HR.out 0 _ rfl
  have q1 := HR.out 1 _ rfl
  have q2 := HR.out 2 _ rfl
  have q3 := HR.out 3 _ rfl
  refine bodyPost_ret (v := .agg #[.int .i64 a.err, .slice A1 a.names.length c1, .string a.text, .slice A2 a.bytes.length c2]) ?_ rfl ⟨⟨A1, c1, A2, c2⟩, rfl, ⟨H.out.err, Hhl.mono fun b hb => by omega, H.out.text, Hhm.mono fun b hb => by omega⟩, HBe⟩
  simp only [results, Tryz.results19]
  go_simp

set_option maxHeartbeats 2000000 in
theorem sameAnswer_any {S S' : Nat → Prop} {x y : Ah} {a b : An} {w : World} (ha : AnIn S w x a) (hb : AnIn S' w y b) :
    Calls Tryz.prog 29 #[.agg #[.int .i64 a.err, .slice x.nA a.names.length x.nc, .string a.text, .slice x.bA a.bytes.length x.bc], .agg #[.int .i64 b.err, .slice y.nA b.names.length y.nc, .string b.text, .slice y.bA b.bytes.length y.bc]] w fun e w' => RetB (a = b) e ∧ Below w.heap.size w w' := by
  have Ha := hide ha
  have Hb := hide hb
  have Heq := hide (@An.eq_iff a b)
  have Htl := hide (tl_eq (s := a.text) (t := b.text))
  clear ha hb
  go_enter Tryz.func29, Tryz.ntmps29
  go_wp2_with (first
    | (go_at_call 65; (with_reducible refine (sameTexts_any (Ha.out.names.below (below2 _ _)) (Hb.out.names.below (below2 _ _))).mono ?_); rintro e w1 ⟨⟨b1, rfl, hb⟩, q, rfl⟩; have Hb1 := hide hb; clear hb)
    | (go_at_call 66; (with_reducible refine (sameBytes_any (Ha.out.bytes.below (blw_drewN (below2 _ _) _)) (Hb.out.bytes.below (blw_drewN (below2 _ _) _))).mono ?_); rintro e w2 ⟨⟨b2, rfl, hb⟩, q2, rfl⟩; have Hb2 := hide hb; clear hb))
  all_goals
    go_ret
    go_tidy
    refine ⟨RetB.mk ?_, ?_⟩
    · rw [Heq.out]
      first
        | (have hHb1 := Hb1.out; have hHb2 := Hb2.out; clear Hb1 Hb2; have ht := Htl.out; grind)
        | (have hHb1 := Hb1.out; clear Hb1; have ht := Htl.out; grind)
        | (have ht := Htl.out; grind)
    · first
        | exact below2 _ _
        | exact blw_drewN (below2 _ _) _
        | exact blw_drewN (blw_drewN (below2 _ _) _) _

theorem sameAnswer_yes {S S' : Nat → Prop} {x y : Ah} {a : An} {w : World} (h : AnIn S w x a) (h' : AnIn S' w y a) :
    Calls Tryz.prog 29 #[.agg #[.int .i64 a.err, .slice x.nA a.names.length x.nc, .string a.text, .slice x.bA a.bytes.length x.bc], .agg #[.int .i64 a.err, .slice y.nA a.names.length y.nc, .string a.text, .slice y.bA a.bytes.length y.bc]] w fun e w' => e = .returned (.bool true) ∧ Below w.heap.size w w' := by
  refine (sameAnswer_any h h').mono ?_
  rintro e w' ⟨⟨b, rfl, hb⟩, hB⟩
  exact ⟨by rw [hb.2 rfl], hB⟩

set_option maxHeartbeats 4000000 in
set_option maxRecDepth 100000 in
theorem keptAnswer_any {S S' : Nat → Prop} {x y : Ah} {h : An} {w : World} (ho : LentAn S w x h) (hl : AnIn S' w y h) :
    Calls Tryz.prog 22 #[.agg #[.int .i64 h.err, .slice x.nA h.names.length x.nc, .string h.text, .slice x.bA h.bytes.length x.bc], .agg #[.int .i64 h.err, .slice y.nA h.names.length y.nc, .string h.text, .slice y.bA h.bytes.length y.bc]] w fun e w' => e = .returned (.bool true) ∧ Below w.heap.size w w' := by
  have Ho := hide ho
  have Hl := hide hl
  clear ho hl
  obtain ⟨W0, hW0⟩ : ∃ W0, W0 = (w.alloc (.cells #[.int .i64 h.err, .slice x.nA h.names.length x.nc, .string h.text, .slice x.bA h.bytes.length x.bc] 53)).alloc (.cells #[.int .i64 h.err, .slice y.nA h.names.length y.nc, .string h.text, .slice y.bA h.bytes.length y.bc] 53) := ⟨_, rfl⟩
  have hB0 : BxL w W0 [.int .i64 h.err, .slice x.nA h.names.length x.nc, .string h.text, .slice x.bA h.bytes.length x.bc] [.int .i64 h.err, .slice y.nA h.names.length y.nc, .string h.text, .slice y.bA h.bytes.length y.bc] := by rw [hW0]; exact BxL.start w #[.int .i64 h.err, .slice x.nA h.names.length x.nc, .string h.text, .slice x.bA h.bytes.length x.bc] #[.int .i64 h.err, .slice y.nA h.names.length y.nc, .string h.text, .slice y.bA h.bytes.length y.bc] _ _
  have HW0 := hide hW0
  clear hW0
  go_enter Tryz.func22, Tryz.ntmps22
  go_upto_region 1 with fail
  change Code.wp _ _ _ _ ((w.alloc (.cells #[.int .i64 h.err, .slice x.nA h.names.length x.nc, .string h.text, .slice x.bA h.bytes.length x.bc] 53)).alloc (.cells #[.int .i64 h.err, .slice y.nA h.names.length y.nc, .string h.text, .slice y.bA h.bytes.length y.bc] 53))
  rw [← HW0.out]
  clear HW0
  have b0 := hB0.c 0 _ rfl
  have b1 := hB0.c 1 _ rfl
  have b2 := hB0.c 2 _ rfl
  have b3 := hB0.c 3 _ rfl
  have r0 := hB0.r 0 _ rfl
  have r1 := hB0.r 1 _ rfl
  have r2 := hB0.r 2 _ rfl
  have r3 := hB0.r 3 _ rfl
  have HB0 := hide hB0
  clear hB0
  go_wp2_with (first
    | (go_at_call 29; (with_reducible refine (sameAnswer_yes (Ho.out.below HB0.out.b).an (Hl.out.below HB0.out.b)).mono ?_); rintro e0 w1 ⟨rfl, hB⟩; have hC := HB0.out.call hB; clear b0 r0 b1 r1 b2 r2 b3 r3; have b0 := hC.c 0 _ rfl; have b1 := hC.c 1 _ rfl; have b2 := hC.c 2 _ rfl; have b3 := hC.c 3 _ rfl; have r0 := hC.r 0 _ rfl; have r1 := hC.r 1 _ rfl; have r2 := hC.r 2 _ rfl; have r3 := hC.r 3 _ rfl; have HB1 := hide hC; clear hB hC)
    | (go_at_call 56; (with_reducible refine (keptTexts_any (Ho.out.names.below HB1.out.b) (Hl.out.names.below HB1.out.b)).mono ?_); rintro e1 w2 ⟨rfl, hB⟩; have hC := HB1.out.call hB; clear b0 r0 b1 r1 b2 r2 b3 r3; have b0 := hC.c 0 _ rfl; have b1 := hC.c 1 _ rfl; have b2 := hC.c 2 _ rfl; have b3 := hC.c 3 _ rfl; have r0 := hC.r 0 _ rfl; have r1 := hC.r 1 _ rfl; have r2 := hC.r 2 _ rfl; have r3 := hC.r 3 _ rfl; have HB2 := hide hC; clear hB hC)
    | (go_at_call 53; (with_reducible refine (keptBytes_any (Ho.out.bytes.below HB2.out.b) (Hl.out.bytes.below HB2.out.b)).mono ?_); rintro e2 w3 ⟨rfl, hB⟩; have hC := HB2.out.call hB;  have HB3 := hide hC; clear hB hC))
  go_ret
  exact ⟨rfl, HB3.out.b⟩

end Go.Proofs.YtjjaojnglnpgaaaGreatDoor
