/- Hex words read back: plain data. Nothing here speaks of the program. -/
import Derived.Shelf.Strings.Search1
import Derived.Test.YtjjaojnglnpgaaaGreatDoorLHex
import Derived.Test.YtjjaojnglnpgaaaGreatDoorLBase
import Derived.Test.YtjjaojnglnpgaaaGreatDoorLTell

set_option linter.unusedVariables false
set_option linter.unusedSimpArgs false

namespace Go.Proofs.YtjjaojnglnpgaaaGreatDoor

/-- what a digit stands for; 16: it is none -/
def digV (c : UInt8) : Nat := if 48 ≤ c.toNat ∧ c.toNat ≤ 57 then c.toNat - 48 else if 97 ≤ c.toNat ∧ c.toNat ≤ 102 then c.toNat - 87 else 16
theorem digV_hexD : ∀ n, n < 16 → digV (hexD n) = n := by decide
theorem hexD_digV (c : UInt8) (h : digV c < 16) : hexD (digV c) = c := by
  have key : ∀ k : Fin 256, digV (UInt8.ofNat k.val) < 16 → hexD (digV (UInt8.ofNat k.val)) = UInt8.ofNat k.val := by decide +kernel
  have e : UInt8.ofNat c.toNat = c := by simp
  have := key ⟨c.toNat, c.toNat_lt⟩
  simp only [e] at this
  exact this h
theorem idx_digV (c : UInt8) : Go.Lib.indexByte signs.data.toList c = if digV c < 16 then (digV c : Int) else -1 := by
  have key : ∀ k : Fin 256, Go.Lib.indexByte signs.data.toList (UInt8.ofNat k.val) = if digV (UInt8.ofNat k.val) < 16 then (digV (UInt8.ofNat k.val) : Int) else -1 := by decide +kernel
  have e : UInt8.ofNat c.toNat = c := by simp
  have := key ⟨c.toNat, c.toNat_lt⟩
  simp only [e] at this
  exact this
/-- two digits a byte, read back -/
def unhexT : List UInt8 → Option (List UInt8)
  | [] => some []
  | [_] => none
  | x :: y :: r => if digV x < 16 ∧ digV y < 16 then (unhexT r).map (UInt8.ofNat (16 * digV x + digV y) :: ·) else none
theorem unhexT_hexT : ∀ b : List UInt8, unhexT (hexT b) = some b
  | [] => rfl
  | c :: b => by
    have hc := c.toNat_lt
    have h1 : digV (hexD (c.toNat / 16)) = c.toNat / 16 := digV_hexD _ (by omega)
    have h2 : digV (hexD (c.toNat % 16)) = c.toNat % 16 := digV_hexD _ (by omega)
    have ih := unhexT_hexT b
    simp only [hexT, List.flatMap_cons, List.cons_append, List.nil_append] at ih ⊢
    rw [unhexT, h1, h2, if_pos ⟨by omega, by omega⟩, ih]
    simp only [Option.map_some, Option.some.injEq, List.cons.injEq, and_true]
    rw [show 16 * (c.toNat / 16) + c.toNat % 16 = c.toNat by omega]
    simp
theorem hexT_unhexT : ∀ (t b : List UInt8), unhexT t = some b → hexT b = t
  | [], b, h => by
    simp only [unhexT, Option.some.injEq] at h
    subst h
    rfl
  | [_], _, h => by cases h
  | x :: y :: r, b, h => by
    rw [unhexT] at h
    split at h
    · rename_i hd
      obtain ⟨b', hb, rfl⟩ := Option.map_eq_some_iff.1 h
      have ih := hexT_unhexT r b' hb
      have e : (UInt8.ofNat (16 * digV x + digV y)).toNat = 16 * digV x + digV y := by rw [UInt8.toNat_ofNat']; omega
      simp only [hexT, List.flatMap_cons, List.cons_append, List.nil_append] at ih ⊢
      rw [e, ih, show (16 * digV x + digV y) / 16 = digV x by omega, show (16 * digV x + digV y) % 16 = digV y by omega, hexD_digV x hd.1, hexD_digV y hd.2]
    · cases h
/-- a word of bytes; none: it is none -/
def unhexL (t : List UInt8) : Option (List UInt8) := if t = [45] then some [] else if t = [] then none else unhexT t
theorem unhexL_hexL (b : List UInt8) : unhexL (hexL b) = some b := by
  unfold hexL
  split
  · rename_i h
    subst h
    rfl
  · rename_i h
    have h1 : hexT b ≠ [45] := fun e => by have := hexT_len b; rw [e] at this; simp at this; omega
    have h2 : hexT b ≠ [] := fun e => by
      have := hexT_len b
      rw [e] at this
      have : b.length = 0 := by simp at this; omega
      exact h (List.length_eq_zero_iff.1 this)
    rw [unhexL, if_neg h1, if_neg h2, unhexT_hexT]
theorem hexL_unhexL (t b : List UInt8) (h : unhexL t = some b) : hexL b = t := by
  unfold unhexL at h
  split at h
  · rename_i e
    injection h with h
    subst h e
    rfl
  · split at h
    · cases h
    · rename_i h1 h2
      have e := hexT_unhexT t b h
      have hb : b ≠ [] := fun hb => by subst hb; exact h2 e.symm
      rw [hexL, if_neg hb, e]

end Go.Proofs.YtjjaojnglnpgaaaGreatDoor

namespace Go.Proofs.YtjjaojnglnpgaaaGreatDoor

structure Cmd where
  kind : Nat
  repo : ByteArray
  frm : ByteArray
  name : ByteArray
  file : ByteArray
  patch : Pt
  bytes : List UInt8
def Cmd.zero : Cmd := ⟨0, noTxt, noTxt, noTxt, noTxt, Pt.zero, []⟩

/-- a text that is a word -/
def isWord (s : ByteArray) : Bool := !s.toList.isEmpty && (decide (s.size ≤ 100) && (!decide (0 ≤ Lib.indexByte s.data.toList 32) && !decide (0 ≤ Lib.indexByte s.data.toList 10)))

open Classical in
/-- the patch that bytes are -/
noncomputable def patOf (l : List UInt8) : Option Pt := if h : ∃ q : Pt, PtFit q ∧ PtOk q ∧ l = ptB q then some h.choose else none
theorem patOf_some {l : List UInt8} {p : Pt} (h : patOf l = some p) : PtFit p ∧ PtOk p ∧ l = ptB p := by
  unfold patOf at h
  split at h
  · rename_i hx
    injection h with h
    subst h
    exact hx.choose_spec
  · cases h
theorem patOf_none {l : List UInt8} (h : patOf l = none) : ¬ ∃ q : Pt, PtFit q ∧ PtOk q ∧ l = ptB q := by
  unfold patOf at h
  split at h
  · cases h
  · assumption
theorem patOf_of {p : Pt} (hf : PtFit p) (ho : PtOk p) : patOf (ptB p) = some p := by
  rcases h : patOf (ptB p) with _ | q
  · exact absurd ⟨p, hf, ho, rfl⟩ (patOf_none h)
  · obtain ⟨h1, h2, h3⟩ := patOf_some h
    rw [(ptB_split h1 hf h2.bare ho.bare (x := []) (y := []) (by rw [List.append_nil, List.append_nil, h3])).1]

/-- what stands behind the repository, by a line's kind: the command, the words that are left -/
abbrev RestF := Cmd → List ByteArray → Option (Cmd × List ByteArray)
def restAlone : RestF := fun c l => some (c, l)
noncomputable def restRecord : RestF
  | c, n :: t :: r => if isWord n then (unhexL t.data.toList).bind fun b => (patOf b).map fun p => ({ c with name := n, patch := p }, r) else none
  | _, _ => none
def restPull : RestF
  | c, f :: n :: r => if isWord f && isWord n then some ({ c with frm := f, name := n }, r) else none
  | _, _ => none
def restUnpull : RestF
  | c, n :: r => if isWord n then some ({ c with name := n }, r) else none
  | _, _ => none
def restMerge : RestF
  | c, f :: r => if isWord f then some ({ c with frm := f }, r) else none
  | _, _ => none
def restCheckout : RestF
  | c, f :: r => if isWord f then some ({ c with file := f }, r) else none
  | _, _ => none
def restLoad : RestF
  | c, t :: r => (unhexL t.data.toList).map fun b => ({ c with bytes := b }, r)
  | _, _ => none
noncomputable def restOf : Nat → RestF
  | 2 => restRecord
  | 3 => restPull
  | 4 => restUnpull
  | 5 => restMerge
  | 6 => restCheckout
  | 9 => restLoad
  | _ => restAlone

def kwNew : ByteArray := ⟨#[110, 101, 119]⟩
def kwRecord : ByteArray := ⟨#[114, 101, 99, 111, 114, 100]⟩
def kwPull : ByteArray := ⟨#[112, 117, 108, 108]⟩
def kwUnpull : ByteArray := ⟨#[117, 110, 112, 117, 108, 108]⟩
def kwMerge : ByteArray := ⟨#[109, 101, 114, 103, 101]⟩
def kwCheckout : ByteArray := ⟨#[99, 104, 101, 99, 107, 111, 117, 116]⟩
def kwLog : ByteArray := ⟨#[108, 111, 103]⟩
def kwExport : ByteArray := ⟨#[101, 120, 112, 111, 114, 116]⟩
def kwImport : ByteArray := ⟨#[105, 109, 112, 111, 114, 116]⟩
/-- the lines' first words, by kind -/
def kwL : List (Nat × ByteArray) := [(1, kwNew), (2, kwRecord), (3, kwPull), (4, kwUnpull), (5, kwMerge), (6, kwCheckout), (7, kwLog), (8, kwExport), (9, kwImport)]
def kindOf (s : ByteArray) : Option Nat := (kwL.find? fun p => decide (p.2 = s)).map (·.1)
theorem kindOf_some {s : ByteArray} {k : Nat} (h : kindOf s = some k) : (k, s) ∈ kwL := by
  unfold kindOf at h
  obtain ⟨p, hp, rfl⟩ := Option.map_eq_some_iff.1 h
  have h1 := List.mem_of_find?_eq_some hp
  have h2 := List.find?_some hp
  simp only [decide_eq_true_eq] at h2
  subst h2
  exact h1
theorem kindOf_of {s : ByteArray} {k : Nat} (h : (k, s) ∈ kwL) : kindOf s = some k := by
  simp only [kwL, List.mem_cons, List.not_mem_nil, or_false, Prod.mk.injEq] at h
  rcases h with ⟨rfl, rfl⟩ | ⟨rfl, rfl⟩ | ⟨rfl, rfl⟩ | ⟨rfl, rfl⟩ | ⟨rfl, rfl⟩ | ⟨rfl, rfl⟩ | ⟨rfl, rfl⟩ | ⟨rfl, rfl⟩ | ⟨rfl, rfl⟩ <;> decide
/-- the command that a line's words say -/
noncomputable def lineOf : List ByteArray → Option Cmd
  | first :: repo :: r => (kindOf first).bind fun k => if isWord repo then (match restOf k { Cmd.zero with kind := k, repo := repo } r with | some (c, []) => some c | _ => none) else none
  | _ => none
theorem lineOf_eq (b repo : ByteArray) (r : List ByteArray) : lineOf (b :: repo :: r) = (kindOf b).bind fun k => if isWord repo then (match restOf k ⟨k, repo, noTxt, noTxt, noTxt, Pt.zero, []⟩ r with | some (c, []) => some c | _ => none) else none := rfl

end Go.Proofs.YtjjaojnglnpgaaaGreatDoor

namespace Go.Proofs.YtjjaojnglnpgaaaGreatDoor
open Go.RowKit

set_option maxHeartbeats 1000000 in
theorem word_any (s : ByteArray) (w : World) : Calls Tryz.prog 42 #[.string s] w fun e w' => e = .returned (.bool (isWord s)) ∧ w' = w := by
  go_enter Tryz.func42, Tryz.ntmps42
  go_wp2_with (go_at_call 28; first
    | ((with_reducible refine (Tryz.strings_Contains_one s 32 _).mono ?_); rintro e1 w1 ⟨rfl, rfl⟩)
    | ((with_reducible refine (Tryz.strings_Contains_one s 10 _).mono ?_); rintro e1 w1 ⟨rfl, rfl⟩))
  all_goals
    go_ret
    refine ⟨?_, rfl⟩
    refine congrArg (fun b => Ending.returned (.bool b)) (?_ : (_ : Bool) = isWord s)
    unfold isWord
    first
      | rfl
      | grind
      | (simp_all; done)

end Go.Proofs.YtjjaojnglnpgaaaGreatDoor

namespace Go.Proofs.YtjjaojnglnpgaaaGreatDoor
open Go.RowKit

/-- the line is none's -/
abbrev nones : Ending := .panicked [{ v := .iface 136 (.agg #[]), recovered := false }]
set_option maxHeartbeats 1000000 in
theorem smust_yes {b : Bool} (hb : b = true) (w : World) : Calls Tryz.prog 78 #[.bool b] w fun e w' => e = .returned (.tuple #[]) ∧ w' = w := by
  subst hb
  go_enter Tryz.func78, Tryz.ntmps78
  go_wp2_with fail
  all_goals go_end0
  all_goals exact ⟨rfl, rfl⟩
set_option maxHeartbeats 1000000 in
theorem smust_no {b : Bool} (hb : b = false) (w : World) : Calls Tryz.prog 78 #[.bool b] w fun e w' => e = nones ∧ w' = w := by
  subst hb
  go_enter Tryz.func78, Tryz.ntmps78
  go_wp2_with fail
  exact ⟨rfl, rfl, rfl⟩

/-- the words that are left, in the cell N -/
structure WdIn (D : Nat → Prop) (N : Nat) (w : World) (l : List ByteArray) : Prop where
  at_ : ∃ A c, w.cell? ⟨N, 0, none⟩ = some (.slice A l.length c) ∧ Rd D w A (l.map .string) ∧ l.length ≤ c ∧ c ≤ 9223372036854775807
  free : w.frozen? ⟨N, 0, none⟩ = false
  off : ∀ b, D b → b ≠ N
set_option maxHeartbeats 2000000 in
set_option maxRecDepth 1000000 in
theorem wtake_nil {D : Nat → Prop} {N : Nat} {w : World} (h : WdIn D N w []) :
    Calls Tryz.prog 76 #[.pointer (some ⟨N, 0, none⟩)] w fun e w' => e = nones ∧ w' = w := by
  obtain ⟨A, c, hc, hr, h1, h2⟩ := h.at_
  have hc0 : w.cell? ⟨N, 0, none⟩ = some (.slice A 0 c) := hc
  clear h hr hc
  go_enter Tryz.func76, Tryz.ntmps76
  go_wp2_with (go_at_call 78; (with_reducible refine (smust_no rfl _).mono ?_); rintro e1 w1 ⟨rfl, rfl⟩)
  exact ⟨rfl, rfl, rfl⟩

theorem rd_tail {D : Nat → Prop} {w : World} {b o : Nat} {x : Value} {xs : List Value} (h : Rd D w (some ⟨b, o, none⟩) (x :: xs)) : Rd D w (some ⟨b, o + 1, none⟩) xs := by
  rcases h with h | ⟨b', o', e, hS, hc⟩
  · cases h
  · injection e with e
    injection e with e1 e2
    subst e1 e2
    refine .inr ⟨b, o + 1, rfl, hS, fun j u hu => ?_⟩
    have := hc (j + 1) u (by simpa using hu)
    rwa [show o + 1 + j = o + (j + 1) by omega]
theorem WdIn.next {D : Nat → Prop} {N : Nat} {w : World} {s : ByteArray} {r : List ByteArray} {A : Option Addr} {c : Nat} (h : WdIn D N w (s :: r)) (hr : Rd D w A (r.map .string)) (hc : r.length ≤ c ∧ c ≤ 9223372036854775807) :
    WdIn D N (w.setCell ⟨N, 0, none⟩ (.slice A r.length c)) r := by
  obtain ⟨A0, c0, hc0, _⟩ := h.at_
  refine ⟨⟨A, c, World.cell?_setCell_same _ _ _ hc0, hr.keep (fun b hb => Below.heap_setCell w _ _ b (h.off b hb)), hc⟩, by rw [World.frozen?_setCell]; exact h.free, h.off⟩
set_option maxHeartbeats 2000000 in
set_option maxRecDepth 1000000 in
theorem wtake_cons {D : Nat → Prop} {N : Nat} {w : World} {s : ByteArray} {r : List ByteArray} (h : WdIn D N w (s :: r)) :
    Calls Tryz.prog 76 #[.pointer (some ⟨N, 0, none⟩)] w fun e w' => e = .returned (.string s) ∧ WdIn D N w' r ∧ ∃ v, w' = w.setCell ⟨N, 0, none⟩ v := by
  obtain ⟨A, c, hc, hr, h1, h2⟩ := h.at_
  obtain ⟨b, o, rfl, hx⟩ := hr.at_ (j := 0) (by simp)
  have hx0 : w.cell? ⟨b, o, none⟩ = some (.string s) := by simpa using hx
  have hc0 : w.cell? ⟨N, 0, none⟩ = some (.slice (some ⟨b, o, none⟩) (r.length + 1) c) := hc
  have hf := h.free
  have hl : 0 < r.length + 1 := by omega
  have hli : (0 : Int) < (r.length : Int) + 1 := by omega
  have hlc : r.length + 1 ≤ c := h1
  have Hr := hide hr
  have H := hide h
  clear h hr hc hx
  go_enter Tryz.func76, Tryz.ntmps76
  go_wp2_with (go_at_call 78; (with_reducible refine (smust_yes rfl _).mono ?_); rintro e1 w1 ⟨rfl, rfl⟩)
  all_goals
    go_ret
    first
      | exact ⟨rfl, H.out.next (rd_tail Hr.out) ⟨by omega, by omega⟩, _, rfl⟩
      | (have hr0 : r = [] := List.eq_nil_of_length_eq_zero (by omega)
         subst hr0
         exact ⟨rfl, H.out.next (r := []) .nil ⟨by simp, by omega⟩, _, rfl⟩)

end Go.Proofs.YtjjaojnglnpgaaaGreatDoor

namespace Go.Proofs.YtjjaojnglnpgaaaGreatDoor
open Go.RowKit

set_option maxHeartbeats 1000000 in
theorem wword_nil {D : Nat → Prop} {N : Nat} {w : World} (h : WdIn D N w []) :
    Calls Tryz.prog 77 #[.pointer (some ⟨N, 0, none⟩)] w fun e w' => e = nones ∧ w' = w := by
  have H := hide h
  clear h
  go_enter Tryz.func77, Tryz.ntmps77
  go_wp2_with (go_at_call 76; (with_reducible refine (wtake_nil H.out).mono ?_); rintro e1 w1 ⟨rfl, rfl⟩)
  exact ⟨rfl, rfl, rfl⟩
set_option maxHeartbeats 1000000 in
theorem wword_no {D : Nat → Prop} {N : Nat} {w : World} {s : ByteArray} {r : List ByteArray} (h : WdIn D N w (s :: r)) (hs : isWord s = false) :
    Calls Tryz.prog 77 #[.pointer (some ⟨N, 0, none⟩)] w fun e w' => e = nones ∧ ∃ v, w' = w.setCell ⟨N, 0, none⟩ v := by
  have H := hide h
  have Hs := hide hs
  clear h hs
  go_enter Tryz.func77, Tryz.ntmps77
  go_wp2_with (first
    | (go_at_call 76; (with_reducible refine (wtake_cons H.out).mono ?_); rintro e1 w1 ⟨rfl, h1, hv⟩)
    | (go_at_call 42; (with_reducible refine (word_any s _).mono ?_); rintro e2 w2 ⟨rfl, rfl⟩)
    | (go_at_call 78; (with_reducible refine (smust_no Hs.out _).mono ?_); rintro e3 w3 ⟨rfl, rfl⟩))
  exact ⟨rfl, rfl, hv⟩
set_option maxHeartbeats 1000000 in
theorem wword_yes {D : Nat → Prop} {N : Nat} {w : World} {s : ByteArray} {r : List ByteArray} (h : WdIn D N w (s :: r)) (hs : isWord s = true) :
    Calls Tryz.prog 77 #[.pointer (some ⟨N, 0, none⟩)] w fun e w' => e = .returned (.string s) ∧ WdIn D N w' r ∧ ∃ v, w' = w.setCell ⟨N, 0, none⟩ v := by
  have H := hide h
  have Hs := hide hs
  clear h hs
  go_enter Tryz.func77, Tryz.ntmps77
  go_wp2_with (first
    | (go_at_call 76; (with_reducible refine (wtake_cons H.out).mono ?_); rintro e1 w1 ⟨rfl, h1, hv⟩; have H1 := hide h1; have Hv := hide hv; clear h1 hv)
    | (go_at_call 42; (with_reducible refine (word_any s _).mono ?_); rintro e2 w2 ⟨rfl, rfl⟩)
    | (go_at_call 78; (with_reducible refine (smust_yes Hs.out _).mono ?_); rintro e3 w3 ⟨rfl, rfl⟩))
  go_ret
  exact ⟨rfl, H1.out, Hv.out⟩

end Go.Proofs.YtjjaojnglnpgaaaGreatDoor
