/- script.has: which of a command's parts a kind names. -/
import Derived.Test.YtjjaojnglnpgaaaGreatDoorLRows
import Derived.Test.YtjjaojnglnpgaaaGreatDoorLTabs

set_option linter.unusedVariables false
set_option linter.unusedSimpArgs false

namespace Go.Proofs.YtjjaojnglnpgaaaGreatDoor
open Go.RowKit

set_option maxHeartbeats 400000 in
theorem indexCmd_any {S : Nat → Prop} {A : Option Addr} {c : Nat} {l : List Int} {x : Int} {w : World} (hl : Rd S w A (l.map (.int .u8))) (hlen : l.length ≤ 9223372036854775807) :
    Calls Tryz.prog 171 #[.slice A l.length c, .int .u8 x] w fun e w' => RetIx (x ∈ l) e ∧ w = w' := by
  have Hl := hide hl
  clear hl
  go_enter Tryz.func171, Tryz.ntmps171
  go_wp2_with fail
  go_loop [8, 5] (fun i _ => ∃ k : Nat, k ≤ l.length ∧ i = .int .i64 k ∧ Hid (∀ j, j < k → l[j]? ≠ some x)) (fun i _ => l.length - (intOf i).toNat)
  case atStart => exact ⟨0, Nat.zero_le _, rfl, hide (fun j h => absurd h (by omega))⟩
  case round =>
    obtain ⟨k, hk, rfl, hall⟩ := hrel
    by_cases hlt : k < l.length
    · obtain ⟨b, o, rfl, h1⟩ := Hl.out.at_ (j := k) (by simpa using hlt)
      simp only [List.getElem_map] at h1
      have E := hide (show l[k]? = some l[k] by simp [hlt])
      generalize l[k] = s at h1 E
      go_wp2_with fail
      · have ht : (x == s) = true := by assumption
        go_ret
        exact ⟨RetIx.yes (by omega) (List.mem_of_getElem? (E.out.trans (congrArg some (by simpa using ht : x = s).symm))), rfl⟩
      · have ht : (x == s) = false := by assumption
        go_round
        case rel => exact ⟨k + 1, by omega, by go_num, hide (ne_step hall.out E.out (fun e => by subst e; simp at ht))⟩
        case measure => simp [intOf]; omega
    · go_wp2_with fail
      go_ret
      exact ⟨RetIx.no (ne_done hall.out hlt), rfl⟩

theorem containsCmd_any {S : Nat → Prop} {A : Option Addr} {c : Nat} {l : List Int} {x : Int} {w : World} (hl : Rd S w A (l.map (.int .u8))) (hlen : l.length ≤ 9223372036854775807) :
    Calls Tryz.prog 113 #[.slice A l.length c, .int .u8 x] w fun e w' => RetB (x ∈ l) e ∧ w = w' := by
  have Hl := hide hl
  clear hl
  go_enter Tryz.func113, Tryz.ntmps113
  go_wp2_with (go_at_call 171; refine (indexCmd_any Hl.out hlen).mono ?_; rintro e w' ⟨⟨i, rfl, hlo, hi⟩, rfl⟩; have Hi := hide hi; clear hi)
  go_ret
  exact ⟨RetB.mk (by rw [← Hi.out]; simp), rfl⟩

theorem in_1 {w : World} {b p : Nat} {t : TypeId} {k a0 : Int} (hb : w.heap[b]? = some (.cells #[.int .u8 a0] t)) (hk : w.cell? ⟨p, 0, none⟩ = some (.int .u8 k)) :
    Calls Tryz.prog 112 #[.slice (some ⟨b, 0, none⟩) 1 1, .pointer (some ⟨p, 0, none⟩)] w fun e w' => e = .returned (.bool (decide (k ∈ [a0]))) ∧ w' = w := by
  have hr : Rd (fun _ => True) w (some ⟨b, 0, none⟩) (([a0] : List Int).map (.int .u8)) := .inr ⟨_, 0, rfl, trivial, fun j u hu => by rw [Nat.zero_add, Lib.cell_of_heap hb]; simpa using hu⟩
  have HC : Hid (Calls Tryz.prog 113 #[.slice (some ⟨b, 0, none⟩) 1 1, .int .u8 k] w fun e w' => RetB (k ∈ [a0]) e ∧ w = w') := hide (containsCmd_any (c := 1) hr (by simp))
  clear hr
  go_enter Tryz.func112, Tryz.ntmps112
  go_wp2_with (go_at_call 113; (with_reducible refine HC.out.mono ?_); rintro e1 w1 ⟨⟨x, rfl, hx⟩, rfl⟩; have HX := hide hx; clear hx)
  have hxd := Bool.eq_iff_iff.2 (HX.out.trans decide_eq_true_iff.symm)
  subst hxd
  go_ret
  exact ⟨rfl, rfl⟩

theorem in_2 {w : World} {b p : Nat} {t : TypeId} {k a0 a1 : Int} (hb : w.heap[b]? = some (.cells #[.int .u8 a0, .int .u8 a1] t)) (hk : w.cell? ⟨p, 0, none⟩ = some (.int .u8 k)) :
    Calls Tryz.prog 112 #[.slice (some ⟨b, 0, none⟩) 2 2, .pointer (some ⟨p, 0, none⟩)] w fun e w' => e = .returned (.bool (decide (k ∈ [a0, a1]))) ∧ w' = w := by
  have hr : Rd (fun _ => True) w (some ⟨b, 0, none⟩) (([a0, a1] : List Int).map (.int .u8)) := .inr ⟨_, 0, rfl, trivial, fun j u hu => by rw [Nat.zero_add, Lib.cell_of_heap hb]; simpa using hu⟩
  have HC : Hid (Calls Tryz.prog 113 #[.slice (some ⟨b, 0, none⟩) 2 2, .int .u8 k] w fun e w' => RetB (k ∈ [a0, a1]) e ∧ w = w') := hide (containsCmd_any (c := 2) hr (by simp))
  clear hr
  go_enter Tryz.func112, Tryz.ntmps112
  go_wp2_with (go_at_call 113; (with_reducible refine HC.out.mono ?_); rintro e1 w1 ⟨⟨x, rfl, hx⟩, rfl⟩; have HX := hide hx; clear hx)
  have hxd := Bool.eq_iff_iff.2 (HX.out.trans decide_eq_true_iff.symm)
  subst hxd
  go_ret
  exact ⟨rfl, rfl⟩

theorem in_3 {w : World} {b p : Nat} {t : TypeId} {k a0 a1 a2 : Int} (hb : w.heap[b]? = some (.cells #[.int .u8 a0, .int .u8 a1, .int .u8 a2] t)) (hk : w.cell? ⟨p, 0, none⟩ = some (.int .u8 k)) :
    Calls Tryz.prog 112 #[.slice (some ⟨b, 0, none⟩) 3 3, .pointer (some ⟨p, 0, none⟩)] w fun e w' => e = .returned (.bool (decide (k ∈ [a0, a1, a2]))) ∧ w' = w := by
  have hr : Rd (fun _ => True) w (some ⟨b, 0, none⟩) (([a0, a1, a2] : List Int).map (.int .u8)) := .inr ⟨_, 0, rfl, trivial, fun j u hu => by rw [Nat.zero_add, Lib.cell_of_heap hb]; simpa using hu⟩
  have HC : Hid (Calls Tryz.prog 113 #[.slice (some ⟨b, 0, none⟩) 3 3, .int .u8 k] w fun e w' => RetB (k ∈ [a0, a1, a2]) e ∧ w = w') := hide (containsCmd_any (c := 3) hr (by simp))
  clear hr
  go_enter Tryz.func112, Tryz.ntmps112
  go_wp2_with (go_at_call 113; (with_reducible refine HC.out.mono ?_); rintro e1 w1 ⟨⟨x, rfl, hx⟩, rfl⟩; have HX := hide hx; clear hx)
  have hxd := Bool.eq_iff_iff.2 (HX.out.trans decide_eq_true_iff.symm)
  subst hxd
  go_ret
  exact ⟨rfl, rfl⟩
theorem cell_al {w : World} {a : Addr} {v : Value} {o : Obj} (h : w.cell? a = some v) : (w.alloc o).cell? a = some v := by
  rw [World.cell?_alloc_lt _ _ _ (block_lt_of_cell h)]
  exact h
theorem heap_at {w : World} {o : Obj} {b : Nat} (hb : b = w.heap.size) : (w.alloc o).heap[b]? = some o := by
  subst hb
  exact heap_alloc_new w o
set_option maxHeartbeats 4000000 in
set_option maxRecDepth 1000000 in
theorem has_any (k : Nat) (w : World) : Calls Tryz.prog 41 #[.int .u8 k] w fun e w' => e = .returned (.tuple #[.bool (decide ((k : Int) ∈ [3, 5])), .bool (decide ((k : Int) ∈ [2, 3, 4])), .bool (decide ((k : Int) ∈ [6])), .bool (decide ((k : Int) ∈ [2])), .bool (decide ((k : Int) ∈ [9]))]) ∧ Below w.heap.size w w' := by
  have hk0 : (w.alloc (.cells #[.int .u8 (k : Int)] 32)).cell? ⟨w.heap.size, 0, none⟩ = some (.int .u8 (k : Int)) := by rw [Lib.cell_of_heap (heap_alloc_new w _)]; rfl
  have hmf : ∀ (fn : Fn) (first cap : Array Value) (w : World), (Instr.makeFunc fn first cap).run Tryz.prog w = .ok (.func fn first cap) w := fun _ _ _ _ => rfl
  go_enter Tryz.func41, Tryz.ntmps41
  go_wp2_with (first
    | (go_at_call 112; (with_reducible refine (in_2 (a0 := 3) (a1 := 5) (heap_at (by simp)) (by (repeat (first | exact hk0 | refine cell_al ?_)))).mono ?_); rintro e1 w1 ⟨rfl, rfl⟩)
    | (go_at_call 112; (with_reducible refine (in_3 (a0 := 2) (a1 := 3) (a2 := 4) (heap_at (by simp)) (by (repeat (first | exact hk0 | refine cell_al ?_)))).mono ?_); rintro e1 w1 ⟨rfl, rfl⟩)
    | (go_at_call 112; (with_reducible refine (in_1 (a0 := 6) (heap_at (by simp)) (by (repeat (first | exact hk0 | refine cell_al ?_)))).mono ?_); rintro e1 w1 ⟨rfl, rfl⟩)
    | (go_at_call 112; (with_reducible refine (in_1 (a0 := 2) (heap_at (by simp)) (by (repeat (first | exact hk0 | refine cell_al ?_)))).mono ?_); rintro e1 w1 ⟨rfl, rfl⟩)
    | (go_at_call 112; (with_reducible refine (in_1 (a0 := 9) (heap_at (by simp)) (by (repeat (first | exact hk0 | refine cell_al ?_)))).mono ?_); rintro e1 w1 ⟨rfl, rfl⟩))
  refine bodyPost_ret (v := .tuple #[.bool (decide ((k : Int) ∈ [3, 5])), .bool (decide ((k : Int) ∈ [2, 3, 4])), .bool (decide ((k : Int) ∈ [6])), .bool (decide ((k : Int) ∈ [2])), .bool (decide ((k : Int) ∈ [9]))]) ?_ rfl ⟨rfl, ?_⟩
  · simp [results, Tryz.results41, go_sem]
  · repeat (first | exact below_alloc _ _ | refine Below.alloc ?_ (by simp <;> omega) _)

end Go.Proofs.YtjjaojnglnpgaaaGreatDoor

namespace Go.Proofs.YtjjaojnglnpgaaaGreatDoor
open Go.RowKit

theorem noword : isWord { data := #[] } = false := by
  have h : (ByteArray.toList { data := #[] }).isEmpty = true := by rw [List.isEmpty_iff, size_nil]; decide
  unfold isWord
  rw [h]
  rfl
set_option maxHeartbeats 4000000 in
set_option maxRecDepth 1000000 in
theorem put_no {w : World} {P R : Nat} {r : Bool} {s : ByteArray} (hr : w.cell? ⟨R, 0, none⟩ = some (.bool r)) (hf : w.frozen? ⟨R, 0, none⟩ = false) :
    Calls Tryz.prog 44 #[.bool false, .string s, .pointer (some ⟨P, 0, none⟩), .pointer (some ⟨R, 0, none⟩)] w fun e w' => e = .returned (.tuple #[]) ∧ w' = w.setCell ⟨R, 0, none⟩ (.bool (r && decide (s.size = 0))) := by
  rcases r with _ | _
  · go_enter Tryz.func44, Tryz.ntmps44
    go_wp2_with fail
    all_goals go_end0
    exact ⟨rfl, rfl⟩
  · by_cases h0 : s.size = 0
    · have hs : s = ⟨#[]⟩ := ByteArray.ext (Array.eq_empty_of_size_eq_zero h0)
      subst hs
      go_enter Tryz.func44, Tryz.ntmps44
      go_wp2_with (go_at_call 42; (with_reducible refine (word_any _ _).mono ?_); rintro e1 w1 ⟨rfl, rfl⟩; rw [noword])
      all_goals go_end0
      exact ⟨rfl, rfl⟩
    · have hne : s.toList.isEmpty = false := by rw [Bool.eq_false_iff, ne_eq, List.isEmpty_iff, size_nil]; omega
      have hd : decide (s.size = 0) = false := by simp [h0]
      rcases hw : isWord s with _ | _
      all_goals
        go_enter Tryz.func44, Tryz.ntmps44
        go_wp2_with (go_at_call 42; (with_reducible refine (word_any _ _).mono ?_); rintro e1 w1 ⟨rfl, rfl⟩; rw [hw])
        all_goals go_end0
        exact ⟨rfl, by rw [hd]; rfl⟩
theorem look_any {w : World} {b : Nat} {p : Nat × ByteArray} (hT : WaysAt w b) (hp : p ∈ kwL) : (Instr.lookup 100 (.map (some b)) (.int .u8 p.1) true).run Tryz.prog w = .ok (.tuple #[wayV p, .bool true]) w := by
  obtain ⟨es, clock, hb, F, _, hD⟩ := hT
  have hlt : p.1 < 256 := by
    simp only [kwL, List.mem_cons, List.not_mem_nil, or_false] at hp
    rcases hp with rfl | rfl | rfl | rfl | rfl | rfl | rfl | rfl | rfl <;> decide
  have hk := ckey_of (p.1 : Int) (by
    simp only [kwL, List.mem_cons, List.not_mem_nil, or_false] at hp
    rcases hp with rfl | rfl | rfl | rfl | rfl | rfl | rfl | rfl | rfl <;> decide)
  have hz : (zeroValue 98).run Tryz.prog w = .ok (.agg #[.string { data := #[] }, .nilFunc]) w := by kernel_rfl
  have hat : ∀ zd, waysD.atKey (.int .u8 (p.1 : Int)) zd = .lit (.int .u8 (p.1 : Int)) := fun zd => by
    rw [waysD_eq]
    simp only [kwL, List.mem_cons, List.not_mem_nil, or_false] at hp
    rcases hp with rfl | rfl | rfl | rfl | rfl | rfl | rfl | rfl | rfl <;> rfl
  rw [hD] at hat
  rcases Maps.fit_look true ckey Tryz.underlying100 hz hb F hk with ⟨_, _, hh⟩ | ⟨e0, y, _, _, hrun, hRv, hat2, _⟩
  · have h1 := hh (.lit (.bool false))
    rw [hat] at h1
    cases h1
  · obtain ⟨⟨q, hq⟩, hv⟩ := wayR_inv hRv
    have hv : e0.val = wayV q := hv
    have hy := Option.some.inj ((wayR_mk hq).symm.trans (hv ▸ hRv))
    have hqp : (p.1 : Int) = (q.1 : Int) := by
      have h1 := hat2 (.lit (.bool false))
      have h2 : DataW.lit (Lit.int .u8 (p.1 : Int)) = y.1 := (hat _).symm.trans h1
      rw [← hy] at h2
      exact (Lit.int.inj (DataW.lit.inj h2)).2
    have hpq : p.1 = q.1 := by omega
    have h2 : p.2 = q.2 := kw_uniq (k := p.1) (show (p.1, p.2) ∈ kwL from hp) (by rw [hpq]; exact hq)
    have h3 : p = q := Prod.ext hpq h2
    subst h3
    rw [hv] at hrun
    simpa only [if_true] using hrun

end Go.Proofs.YtjjaojnglnpgaaaGreatDoor
