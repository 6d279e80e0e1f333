/- The document's words of a line, put together as strings. Plain data. -/
import Derived.Test.YtadilmijppdpoaaGreatDoorTLogB
import Derived.Test.YtadilmijppdpoaaGreatDoorTRef6
import Derived.Test.YtadilmijppdpoaaGreatDoorTLogA

set_option linter.unusedVariables false
set_option linter.unusedSimpArgs false

namespace Go.Proofs.YtadilmijppdpoaaGreatDoor
open Go

theorem ba_eq {a b : ByteArray} (h : a.data.toList = b.data.toList) : a = b := ByteArray.ext (Array.toList_inj.1 h)
theorem dot_one {p : List Int} (h : 0 < p.length) : dotS (p.take 1) = itoaS p[0] := by
  cases p with
  | nil => simp at h
  | cons a r =>
    apply ba_eq
    simp [dotS, dotW, itoaS, Lib.join, Lib.joinTail]
theorem dot_step {p : List Int} {i : Nat} (h0 : 0 < i) (h : i < p.length) : dotS (p.take (i + 1)) = dotS (p.take i) ++ ⟨#[46]⟩ ++ itoaS p[i] := by
  cases p with
  | nil => simp at h
  | cons a r =>
    obtain ⟨j, rfl⟩ : ∃ j, i = j + 1 := ⟨i - 1, by omega⟩
    have hj : j < r.length := by simpa using h
    apply ba_eq
    have e1 : (a :: r).take (j + 1 + 1) = a :: (r.take j ++ [r[j]]) := by rw [List.take_succ_cons, List.take_succ_eq_append_getElem hj]
    have e2 : (a :: r).take (j + 1) = a :: r.take j := List.take_succ_cons
    rw [e1, e2, List.getElem_cons_succ]
    generalize r.take j = t
    generalize r[j] = x
    have e3 : ∀ (x : Int) (l : List Int), dotW (x :: l) = Lib.itoa x ++ Lib.joinTail [46] (l.map Lib.itoa) := by
      intro x l
      unfold dotW
      rw [if_neg (by simp), List.map_cons, Lib.join_cons]
    simp [dotS, e3, itoaS, Lib.joinTail]
/-- words, one byte 32 between, as strings -/
def joinS : List ByteArray → ByteArray
  | [] => ⟨#[]⟩
  | [s] => s
  | s :: r => s ++ ⟨#[32]⟩ ++ joinS r
theorem joinS_list : ∀ (l : List ByteArray), (joinS l).data.toList = Lib.join (l.map (·.data.toList)) [32]
  | [] => by simp [joinS, Lib.join]
  | [s] => by simp [joinS, Lib.join, Lib.joinTail]
  | s :: t :: r => by
    have ih := joinS_list (t :: r)
    have e : joinS (s :: t :: r) = s ++ ⟨#[32]⟩ ++ joinS (t :: r) := rfl
    have hd : ∀ a b : ByteArray, (a ++ b).data.toList = a.data.toList ++ b.data.toList := by intro a b; simp
    rw [e, hd, hd, ih, List.map_cons, List.map_cons, Lib.join_cons, Lib.join_cons]
    simp [Lib.joinTail]
theorem joinS_line (p : Pt) : joinS (lineS p) = ⟨(lineB p).toArray⟩ := by
  apply ba_eq
  rw [joinS_list, lineS_list]
  simp [lineB]

end Go.Proofs.YtadilmijppdpoaaGreatDoor

namespace Go.Proofs.YtadilmijppdpoaaGreatDoor
open Go.RowKit

theorem itoa_any {n : Int} {w : World} (hn : isInt64 n) (htab : TabP w.heap.size w) : Calls Tryz.prog 20 #[.int .i64 n] w fun e w' => e = .returned (.string (itoaS n)) ∧ Below w.heap.size w w' := by
  refine (Tryz.strconv_Itoa n hn.1 hn.2 w htab.2).mono ?_
  rintro e w' ⟨rfl, k1, os, rfl⟩
  exact ⟨rfl, below_grow w k1 os⟩
theorem itoaS_fit {n : Int} (h : isInt64 n) : (itoaS n).size ≤ 21 := itoaS_size h
theorem dotS_fit {p : List Int} (h : ∀ n ∈ p, isInt64 n) (j : Nat) : (dotS (p.take j)).size ≤ 22 * p.length + 1 := by
  rw [dotS_size]
  have h1 := dotW_len (p.take j) (fun n hn => h n (List.mem_of_mem_take hn))
  have h2 : (p.take j).length ≤ p.length := by simp; omega
  omega
set_option maxHeartbeats 2000000 in
set_option maxRecDepth 100000 in
theorem path28_any {S : Nat → Prop} {A : Option Addr} {c : Nat} {p : List Int} {w : World} (h : IntsIn S w A p) (hp : p.length ≤ 1099511627776) (htab : TabP w.heap.size w) :
    Calls Tryz.prog 42 #[.slice A p.length c] w fun e w' => e = .returned (.string (dotS p)) ∧ Below w.heap.size w w' := by
  have H := hide h
  have HT := hide htab
  clear h htab
  by_cases h0 : p.length = 0
  · have hn : p = [] := List.length_eq_zero_iff.1 h0
    subst hn
    go_enter Tryz.func42, Tryz.ntmps42
    go_wp2_with fail
    go_ret
    exact ⟨by simp [dotS, dotW], Below.refl _ _⟩
  · have hpos : 0 < p.length := by omega
    have hd : ((p.length : Int) == 0) = false := by rw [beq_eq_false_iff_ne]; omega
    obtain ⟨b, o, rfl, hc⟩ := H.out.1.at_ (j := 0) (by simpa using hpos)
    simp only [List.getElem_map, Nat.add_zero] at hc
    have HF := hide (dotS_fit H.out.2.1)
    have hin := H.out.2.1 p[0] (List.getElem_mem hpos)
    have H1 := hide (dot_one hpos)
    have Hst := hide (fun (i : Nat) (a : 0 < i) (b : i < p.length) => dot_step (p := p) a b)
    obtain ⟨m, hm⟩ : ∃ m, m = p[0] := ⟨_, rfl⟩
    rw [← hm] at hc hin H1
    have Hin := hide hin
    clear hm hin h0
    go_enter Tryz.func42, Tryz.ntmps42
    go_wp2_with (go_at_call 20; (with_reducible refine (itoa_any Hin.out HT.out).mono ?_); rintro e1 w1 ⟨rfl, hB⟩; have HB1 := hide hB; clear hB)
    go_loopw [4, 3] (fun i s wr => ∃ q : Nat, 1 ≤ q ∧ q ≤ p.length ∧ i = .int .i64 q ∧ s = .string (dotS (p.take q)) ∧ Hid (Below w.heap.size w wr)) (fun i _ _ => p.length - (intOf i).toNat)
    case atStart => exact ⟨1, by omega, by omega, rfl, by rw [H1.out], HB1⟩
    case round =>
      clear HB1
      obtain ⟨q, hq1, hq, rfl, rfl, HB⟩ := hrel
      by_cases hlt : q < p.length
      · obtain ⟨b', o', e1, hc1⟩ := (H.out.below HB.out).1.at_ (j := q) (by simpa using hlt)
        injection e1 with e1
        injection e1 with e1 e2
        subst e1 e2
        simp only [List.getElem_map] at hc1
        have hin := H.out.2.1 p[q] (List.getElem_mem hlt)
        have hst := Hst.out q (by omega) hlt
        have hf1 := HF.out q
        have hf2 := itoaS_fit hin
        obtain ⟨m2, hm2⟩ : ∃ m2, m2 = p[q] := ⟨_, rfl⟩
        rw [← hm2] at hc1 hin hst hf2
        have Hin2 := hide hin
        have Hst2 := hide hst
        have hsz := HB.out.size
        have HT2 := hide ((HT.out.below HB.out).up hsz)
        clear hm2 hin hst
        generalize dotS (p.take q) = s at Hst2 hf1
        have z1 : ¬ 9223372036854775807 < s.size + 1 := by omega
        have z2 : ¬ 9223372036854775807 < s.size + 1 + (itoaS m2).size := by omega
        have z3 : ¬ 9223372036854775807 < s.size + 1 + (Lib.itoa m2).length := by have : (itoaS m2).size = (Lib.itoa m2).length := by simp [ByteArray.size]
                                                                                  omega
        go_wp2_with (go_at_call 20; (with_reducible refine (itoa_any Hin2.out HT2.out).mono ?_); rintro e1 w1 ⟨rfl, hB⟩; have HB1 := hide (HB.out.trans (hB.mono hsz)); clear hB)
        go_roundw
        case rel => exact ⟨q + 1, by omega, by omega, by go_num, by rw [Hst2.out], HB1⟩
        case measure => simp [intOf]; omega
      · obtain rfl : q = p.length := by omega
        go_wp2_with fail
        go_ret
        exact ⟨by first | rfl | (rw [List.take_length]; rfl), HB.out⟩
theorem sizesN_one {k : Nat} {t : ByteArray} {n : Int} {ks : Fo} : sizesN (.cons k t n ks .nil) = [((1 + cntNodes ks : Nat) : Int)] := rfl
set_option maxHeartbeats 2000000 in
theorem size28_any {S : Nat → Prop} {A : Option Addr} {c : Nat} {k : Nat} {t : ByteArray} {n : Int} {ks : Fo} {w : World} (h : FoIn S w A (.cons k t n ks .nil)) (hl : ks.len ≤ 9223372036854775807) (hz : 1 + cntNodes ks ≤ 9223372036854775807) (htab : TabP w.heap.size w) :
    Calls Tryz.prog 43 #[.slice A 1 c] w fun e w' => e = .returned (.string (itoaS ((1 + cntNodes ks : Nat) : Int))) ∧ Below w.heap.size w w' := by
  obtain ⟨b, o, KA, kc, rfl, hS, c0, c1, c2, c3, e1, e2, e3, e4, e5, hks, hr⟩ := h
  have Hks := hide hks
  have HT := hide htab
  have hin : isInt64 ((1 + cntNodes ks : Nat) : Int) := by unfold isInt64; omega
  have Hin := hide hin
  obtain ⟨z, hzz⟩ : ∃ z : Int, z = ((1 + cntNodes ks : Nat) : Int) := ⟨_, rfl⟩
  have HS : Hid (Calls Tryz.prog 73 #[.agg #[.int .u8 k, .string t, .int .i64 n, .slice KA ks.len kc]] w fun e w' => e = .returned (.int .i64 z) ∧ Below w.heap.size w w') := hide (by rw [hzz]; exact size6_any hks hl hz)
  rw [← hzz]
  rw [← hzz] at Hin
  clear hks hr e3 htab hin hzz hz
  go_enter Tryz.func43, Tryz.ntmps43
  go_wp2_with (first
    | (go_at_call 73; (with_reducible refine HS.out.mono ?_); rintro e1 w1 ⟨rfl, hB⟩; have HB1 := hide hB; clear hB)
    | (go_at_call 20; (with_reducible refine (itoa_any Hin.out ((HT.out.below HB1.out).up HB1.out.size)).mono ?_); rintro e2 w2 ⟨rfl, hB⟩; have HB2 := hide (blw_up HB1.out hB); clear hB))
  go_ret
  exact ⟨rfl, HB2.out⟩

end Go.Proofs.YtadilmijppdpoaaGreatDoor
