/- What the functions on bytes and on names tell. -/
import Derived.Test.YtjjaojnglnpgaaaGreatDoorProg
import Derived.ChangeMaps5
import Derived.Test.YtjjaojnglnpgaaaGreatDoorShelf
import Derived.Test.YtjjaojnglnpgaaaGreatDoorLBase
import Derived.Test.YtjjaojnglnpgaaaGreatDoorLKit

set_option linter.unusedVariables false
set_option linter.unusedSimpArgs false

namespace Go.Proofs.YtjjaojnglnpgaaaGreatDoor
open Go.RowKit

theorem or32_low : ∀ c : Fin 256, (97 ≤ (c.val ||| 32) ∧ (c.val ||| 32) ≤ 122) ↔ ((97 ≤ c.val ∧ c.val ≤ 122) ∨ (65 ≤ c.val ∧ c.val ≤ 90)) := by decide +kernel
theorem or32_u8 (c : UInt8) : bits .or .u8 (c.toNat : Int) 32 = ((c.toNat ||| 32 : Nat) : Int) := by
  have h : ∀ c : Fin 256, bits .or .u8 (c.val : Int) 32 = ((c.val ||| 32 : Nat) : Int) := by decide +kernel
  exact h ⟨c.toNat, c.toNat_lt⟩
theorem or32_iff (c : UInt8) : (97 ≤ (c.toNat ||| 32) ∧ (c.toNat ||| 32) ≤ 122) ↔ ((97 ≤ c.toNat ∧ c.toNat ≤ 122) ∨ (65 ≤ c.toNat ∧ c.toNat ≤ 90)) := or32_low ⟨c.toNat, c.toNat_lt⟩

theorem letter_any (c : UInt8) (w : World) : Calls Tryz.prog 255 #[.int .u8 c.toNat] w fun e w' => RetB (Letter c) e ∧ w = w' := by
  have h1 := or32_u8 c
  have h2 := hide (or32_iff c)
  generalize c.toNat ||| 32 = m at h1 h2
  go_enter Tryz.func255, Tryz.ntmps255
  go_wp2
  all_goals go_ret
  all_goals exact ⟨RetB.mk (by have := h2.out; unfold Letter; simp; try omega), rfl⟩

theorem wordy_any (c : UInt8) (w : World) : Calls Tryz.prog 258 #[.int .u8 c.toNat] w fun e w' => RetB (Letter c ∨ Digit c) e ∧ w = w' := by
  go_enter Tryz.func258, Tryz.ntmps258
  go_wp2_with (go_at_call 255; refine (letter_any c _).mono ?_; rintro e w' ⟨⟨b, rfl, hb⟩, rfl⟩; have Hb := hide hb; clear hb)
  all_goals (go_ret; go_tidy; exact ⟨RetB.mk (by rw [← Hb.out]; unfold Digit; simp [*]; try omega), rfl⟩)

theorem fileChar_any (c : UInt8) (w : World) : Calls Tryz.prog 222 #[.int .u8 c.toNat] w fun e w' => RetB (FileChar c) e ∧ w = w' := by
  have h1 := or32_u8 c
  have h2 := hide (or32_iff c)
  generalize c.toNat ||| 32 = m at h1 h2
  go_enter Tryz.func222, Tryz.ntmps222
  go_wp2
  all_goals go_ret
  all_goals exact ⟨RetB.mk (by have := h2.out; unfold FileChar Digit; simp; try omega), rfl⟩

/-- the round's step for 'every byte is so' -/
theorem all_step {s : ByteArray} {P : UInt8 → Prop} {k : Nat} (h : ∀ j, j < k → (h' : j < s.size) → P (s[j])) (hk : k < s.size) (hp : P s[k]) : ∀ j, j < k + 1 → (h' : j < s.size) → P (s[j]) := by
  intro j hj h'
  rcases Nat.lt_or_ge j k with h1 | h1
  · exact h j h1 h'
  · obtain rfl : j = k := by omega
    exact hp
theorem all_done {s : ByteArray} {P : UInt8 → Prop} {k : Nat} (h : ∀ j, j < k → (h' : j < s.size) → P (s[j])) (hk : ¬ k < s.size) : ∀ c ∈ s.data.toList, P c :=
  all_idx fun j h' => h j (by omega) h'

theorem fileName_end {s : ByteArray} (h : ∀ c ∈ s.data.toList, FileChar c) : FileName s ↔ 1 ≤ s.size ∧ s.size ≤ 24 := by unfold FileName; exact ⟨fun h => ⟨h.1, h.2.1⟩, fun h' => ⟨h'.1, h'.2, h⟩⟩

set_option maxHeartbeats 400000 in
theorem patchName_any (s : ByteArray) (w : World) (hs : s.size ≤ 9223372036854775807) : Calls Tryz.prog 174 #[.string s] w fun e w' => RetB (FileName s) e ∧ w = w' := by
  go_enter Tryz.func174, Tryz.ntmps174
  go_wp2_with fail
  go_loop [7, 4] (fun i _ => ∃ k : Nat, k ≤ s.size ∧ i = .int .i64 k ∧ Hid (∀ j, (h : j < k) → (h' : j < s.size) → FileChar (s[j]))) (fun i _ => s.size - (intOf i).toNat)
  case atStart => exact ⟨0, Nat.zero_le _, rfl, hide (fun j h => absurd h (by omega))⟩
  case round =>
    obtain ⟨k, hk, rfl, hall⟩ := hrel
    by_cases hlt : k < s.size
    · go_wp2_with (go_at_call 222; refine (fileChar_any s[k] _).mono ?_; rintro e w' ⟨⟨_ | _, rfl, hb⟩, rfl⟩ <;> (have Hb := hide hb; clear hb))
      · go_ret
        exact ⟨RetB.no fun h => (by simpa using Hb.out : ¬ FileChar s[k]) (h.2.2 _ (mem_idx s k hlt)), rfl⟩
      · go_round
        case rel => exact ⟨k + 1, by omega, by go_num, hide (all_step hall.out hlt (by simpa using Hb.out))⟩
        case measure => simp [intOf]; omega
    · have H := hide (all_done hall.out hlt)
      clear hall
      go_wp2_with fail
      all_goals (go_ret; go_tidy; exact ⟨RetB.mk (by rw [fileName_end H.out]; have hz := size_nil s; clear H; grind), rfl⟩)

end Go.Proofs.YtjjaojnglnpgaaaGreatDoor

namespace Go.Proofs.YtjjaojnglnpgaaaGreatDoor
open Go.RowKit

/-- the call hands back a place, or -1 -/
def RetIx (P : Prop) (e : Ending) : Prop := ∃ i : Int, e = .returned (.int .i64 i) ∧ -1 ≤ i ∧ (0 ≤ i ↔ P)
theorem RetIx.yes {P : Prop} {i : Int} (h : 0 ≤ i) (hp : P) : RetIx P (.returned (.int .i64 i)) := ⟨i, rfl, by omega, by simp [h, hp]⟩
theorem RetIx.no {P : Prop} (hp : ¬ P) : RetIx P (.returned (.int .i64 (-1))) := ⟨-1, rfl, by omega, by simp [hp]⟩
theorem ne_step {α : Type} {l : List α} {k : Nat} {x s : α} (h : ∀ j, j < k → l[j]? ≠ some x) (hk : l[k]? = some s) (hne : s ≠ x) : ∀ j, j < k + 1 → l[j]? ≠ some x := by
  intro j hj
  rcases Nat.lt_or_ge j k with h1 | h1
  · exact h j h1
  · obtain rfl : j = k := by omega
    rw [hk]
    exact fun e => hne (by injection e)
theorem ne_done {α : Type} {l : List α} {k : Nat} {x : α} (h : ∀ j, j < k → l[j]? ≠ some x) (hk : ¬ k < l.length) : ¬ x ∈ l := by
  intro hx
  obtain ⟨j, hj, rfl⟩ := List.getElem_of_mem hx
  exact h j (by omega) (by simp)

set_option maxHeartbeats 400000 in
theorem indexKind_any {S : Nat → Prop} {A : Option Addr} {c : Nat} {l : List Int} {x : Int} {w : World} (hl : Rd S w A (l.map (.int .u8))) (hlen : l.length ≤ 9223372036854775807) :
    Calls Tryz.prog 309 #[.slice A l.length c, .int .u8 x] w fun e w' => RetIx (x ∈ l) e ∧ w = w' := by
  have Hl := hide hl
  clear hl
  go_enter Tryz.func309, Tryz.ntmps309
  go_wp2_with fail
  go_loop [8, 5] (fun i _ => ∃ k : Nat, k ≤ l.length ∧ i = .int .i64 k ∧ Hid (∀ j, j < k → l[j]? ≠ some x)) (fun i _ => l.length - (intOf i).toNat)
  case atStart => exact ⟨0, Nat.zero_le _, rfl, hide (fun j h => absurd h (by omega))⟩
  case round =>
    obtain ⟨k, hk, rfl, hall⟩ := hrel
    by_cases hlt : k < l.length
    · obtain ⟨b, o, rfl, h1⟩ := Hl.out.at_ (j := k) (by simpa using hlt)
      simp only [List.getElem_map] at h1
      have E := hide (show l[k]? = some l[k] by simp [hlt])
      generalize l[k] = s at h1 E
      go_wp2_with fail
      · have ht : (x == s) = true := by assumption
        go_ret
        exact ⟨RetIx.yes (by omega) (List.mem_of_getElem? (E.out.trans (congrArg some (by simpa using ht : x = s).symm))), rfl⟩
      · have ht : (x == s) = false := by assumption
        go_round
        case rel => exact ⟨k + 1, by omega, by go_num, hide (ne_step hall.out E.out (fun e => by subst e; simp at ht))⟩
        case measure => simp [intOf]; omega
    · go_wp2_with fail
      go_ret
      exact ⟨RetIx.no (ne_done hall.out hlt), rfl⟩

theorem containsKind_any {S : Nat → Prop} {A : Option Addr} {c : Nat} {l : List Int} {x : Int} {w : World} (hl : Rd S w A (l.map (.int .u8))) (hlen : l.length ≤ 9223372036854775807) :
    Calls Tryz.prog 304 #[.slice A l.length c, .int .u8 x] w fun e w' => RetB (x ∈ l) e ∧ w = w' := by
  have Hl := hide hl
  clear hl
  go_enter Tryz.func304, Tryz.ntmps304
  go_wp2_with (go_at_call 309; refine (indexKind_any Hl.out hlen).mono ?_; rintro e w' ⟨⟨i, rfl, hlo, hi⟩, rfl⟩; have Hi := hide hi; clear hi)
  go_ret
  exact ⟨RetB.mk (by rw [← Hi.out]; simp), rfl⟩

set_option maxHeartbeats 400000 in
theorem indexText_any {S : Nat → Prop} {A : Option Addr} {c : Nat} {l : List ByteArray} {x : ByteArray} {w : World} (hl : Rd S w A (l.map .string)) (hlen : l.length ≤ 9223372036854775807) :
    Calls Tryz.prog 280 #[.slice A l.length c, .string x] w fun e w' => RetIx (x ∈ l) e ∧ w = w' := by
  have Hl := hide hl
  clear hl
  go_enter Tryz.func280, Tryz.ntmps280
  go_wp2_with fail
  go_loop [8, 5] (fun i _ => ∃ k : Nat, k ≤ l.length ∧ i = .int .i64 k ∧ Hid (∀ j, j < k → l[j]? ≠ some x)) (fun i _ => l.length - (intOf i).toNat)
  case atStart => exact ⟨0, Nat.zero_le _, rfl, hide (fun j h => absurd h (by omega))⟩
  case round =>
    obtain ⟨k, hk, rfl, hall⟩ := hrel
    by_cases hlt : k < l.length
    · obtain ⟨b, o, rfl, h1⟩ := Hl.out.at_ (j := k) (by simpa using hlt)
      simp only [List.getElem_map] at h1
      have E := hide (show l[k]? = some l[k] by simp [hlt])
      generalize l[k] = s at h1 E
      go_wp2_with fail
      · have ht : (x.toList == s.toList) = true := by assumption
        go_ret
        exact ⟨RetIx.yes (by omega) (List.mem_of_getElem? (E.out.trans (congrArg some (txt_eq.1 ht).symm))), rfl⟩
      · have ht : (x.toList == s.toList) = false := by assumption
        go_round
        case rel => exact ⟨k + 1, by omega, by go_num, hide (ne_step hall.out E.out (fun e => by subst e; simp at ht))⟩
        case measure => simp [intOf]; omega
    · go_wp2_with fail
      go_ret
      exact ⟨RetIx.no (ne_done hall.out hlt), rfl⟩

theorem containsText_any {S : Nat → Prop} {A : Option Addr} {c : Nat} {l : List ByteArray} {x : ByteArray} {w : World} (hl : Rd S w A (l.map .string)) (hlen : l.length ≤ 9223372036854775807) :
    Calls Tryz.prog 256 #[.slice A l.length c, .string x] w fun e w' => RetB (x ∈ l) e ∧ w = w' := by
  have Hl := hide hl
  clear hl
  go_enter Tryz.func256, Tryz.ntmps256
  go_wp2_with (go_at_call 280; refine (indexText_any Hl.out hlen).mono ?_; rintro e w' ⟨⟨i, rfl, hlo, hi⟩, rfl⟩; have Hi := hide hi; clear hi)
  go_ret
  exact ⟨RetB.mk (by rw [← Hi.out]; simp), rfl⟩

end Go.Proofs.YtjjaojnglnpgaaaGreatDoor

namespace Go.Proofs.YtjjaojnglnpgaaaGreatDoor
open Go.RowKit

section
variable {α : Type} {V : World → Value → α → Prop} {r : Nat} {w w' : World}

/-- what V says of a value stays while only block r turns -/
def Stable (r : Nat) (V : World → Value → α → Prop) : Prop :=
  ∀ (w w' : World) v x, (∀ i, i < w.heap.size → i ≠ r → w'.heap[i]? = w.heap[i]?) → V w v x → V w' v x

def Match (V : World → Value → α → Prop) (kd : IntKind) (w : World) : List MapEntry → List (Int × α) → Prop
  | [], [] => True
  | e :: es, (k, x) :: t => e.key = .int kd k ∧ V w e.val x ∧ Match V kd w es t
  | _, _ => False

/-- block r is a map that holds the rows t, one by one -/
def Tab (V : World → Value → α → Prop) (kd : IntKind) (w : World) (r : Nat) (t : List (Int × α)) : Prop :=
  ∃ (es : Array MapEntry) (c : Nat), w.heap[r]? = some (.map es c) ∧ Match V kd w es.toList t

variable {kd : IntKind}

theorem Match.keep (hV : Stable r V) (hk : ∀ i, i < w.heap.size → i ≠ r → w'.heap[i]? = w.heap[i]?) : ∀ {es : List MapEntry} {t : List (Int × α)}, Match V kd w es t → Match V kd w' es t
  | [], [], _ => trivial
  | _ :: _, (_, _) :: _, ⟨h1, h2, h3⟩ => ⟨h1, hV w w' _ _ hk h2, Match.keep hV hk h3⟩
  | [], _ :: _, h => h.elim
  | _ :: _, [], h => h.elim

theorem Match.snoc : ∀ {es : List MapEntry} {t : List (Int × α)} {e : MapEntry} {k : Int} {x : α}, Match V kd w es t → e.key = .int kd k → V w e.val x → Match V kd w (es ++ [e]) (t ++ [(k, x)])
  | [], [], _, _, _, _, h1, h2 => ⟨h1, h2, trivial⟩
  | _ :: _, (_, _) :: _, _, _, _, ⟨a, b, c⟩, h1, h2 => ⟨a, b, Match.snoc c h1 h2⟩
  | [], _ :: _, _, _, _, h, _, _ => h.elim
  | _ :: _, [], _, _, _, h, _, _ => h.elim

theorem Match.find : ∀ {es : List MapEntry} {t : List (Int × α)} (k : Int) (i : Nat), Match V kd w es t →
    (t.find? (fun p => k == p.1) = none ∧ Instr.findNow (.int kd) (.int kd k) es i = some none) ∨
    ∃ k' x j v, t.find? (fun p => k == p.1) = some (k', x) ∧ V w v x ∧ Instr.findNow (.int kd) (.int kd k) es i = some (some (j, v))
  | [], [], _, _, _ => .inl ⟨rfl, rfl⟩
  | e :: es, (k', x) :: t, k, i, ⟨h1, h2, h3⟩ => by
    by_cases hk : k = k'
    · subst hk
      exact .inr ⟨k, x, i, e.val, by simp, h2, by simp [Instr.findNow, h1, Instr.sameNow]⟩
    · have hk' : (k == k') = false := by simp [hk]
      rcases Match.find k (i + 1) h3 with ⟨ha, hb⟩ | ⟨k'', x', j, v, ha, hv, hb⟩
      · exact .inl ⟨by simp [hk, ha], by simp [Instr.findNow, h1, Instr.sameNow, hb, hk']⟩
      · exact .inr ⟨k'', x', j, v, by simp [hk, ha], hv, by simp [Instr.findNow, h1, Instr.sameNow, hb, hk']⟩
  | [], _ :: _, _, _, h => h.elim
  | _ :: _, [], _, _, h => h.elim

theorem Tab.keep {t : List (Int × α)} (h : Tab V kd w r t) (hV : Stable r V) (hb : Below w.heap.size w w') : Tab V kd w' r t := by
  obtain ⟨es, c, h1, h2⟩ := h
  exact ⟨es, c, (hb.block r (Array.getElem?_eq_some_iff.1 h1).1).trans h1, h2.keep hV fun i hi _ => hb.block i hi⟩
theorem Tab.new (w : World) : Tab V kd (w.alloc (.map #[] 0)) w.heap.size [] := ⟨#[], 0, heap_alloc_new w _, trivial⟩
theorem Tab.lt {t : List (Int × α)} (h : Tab V kd w r t) : r < w.heap.size := by obtain ⟨es, c, h1, _⟩ := h; exact (Array.getElem?_eq_some_iff.1 h1).1

variable {P : Program} {T K E : TypeId}

theorem run_insert_tab {t : List (Int × α)} (hT : Tab V kd w r t) (hV : Stable r V) (ht : P.underlying T = some (.map K E)) (hK : P.underlying K = some (.int kd)) {k : Int} {v : Value} {x : α} (hv : V w v x)
    (hn : t.find? (fun p => k == p.1) = none) :
    ∃ w', (Instr.mapUpdate T (.map (some r)) (.int kd k) v).run P w = .ok () w' ∧ Tab V kd w' r (t ++ [(k, x)]) ∧ w.grownBy w' (some r) := by
  obtain ⟨es, c, h1, h2⟩ := hT
  rcases h2.find k 0 with ⟨_, hf⟩ | ⟨k', x', j, v', ha, _, _⟩
  · refine ⟨{ w with heap := w.heap.setIfInBounds r (.map (es.push { key := .int kd k, val := v, born := c }) (c + 1)) }, ?_, ?_, ?_⟩
    · unfold Instr.mapUpdate
      simp only [Sem.run_bind, run_underlying ht, Result.andThen, MapKept.run_getObj_map h1, MapKept.run_checkKey hK (k := .int kd k) (by simp [MapKept.IsKey]) false 9999, MapKept.run_findKey hK hf, MapKept.run_setObj_map _ h1]
    · obtain ⟨ha, hb⟩ := MapKept.heap_set (o' := .map (es.push { key := .int kd k, val := v, born := c }) (c + 1)) h1
      refine ⟨_, _, ha, ?_⟩
      simp only [Array.toList_push]
      have hk : ∀ i, i < w.heap.size → i ≠ r → (w.heap.setIfInBounds r (.map (es.push { key := .int kd k, val := v, born := c }) (c + 1)))[i]? = w.heap[i]? := fun i _ hne => hb i hne
      exact Match.snoc (h2.keep hV hk) rfl (hV _ _ _ _ hk hv)
    · exact ⟨rfl, rfl, rfl, by simp, fun i _ hne => (MapKept.heap_set h1).2 i (by simpa using hne)⟩
  · rw [hn] at ha
    cases ha

/-- the same where the walk stands at the operation itself -/
theorem upon_insert_tab {o : Oper} {a : Act} {K' : Act → World → Prop} {Q : Exit → Act → World → Prop} {wb : World} {t : List (Int × α)} {k : Int} {v : Value} {x : α}
    (hd : o.dst = none) (ht : P.underlying T = some (.map K E)) (hK : P.underlying K = some (.int kd)) (hT : Tab V kd wb r t) (hV : Stable r V)
    (hB : Below wb.heap.size wb w) (hv : V w v x) (hn : t.find? (fun p => k == p.1) = none)
    (h : ∀ w', Tab V kd w' r (t ++ [(k, x)]) → w.grownBy w' (some r) → K' a w') :
    Oper.upon P o a K' Q (((Instr.mapUpdate T (.map (some r)) (.int kd k) v).run P w).andThen fun _ w' => .ok .skip w') := by
  obtain ⟨w', hrun, h1, h2⟩ := run_insert_tab (hT.keep hV hB) hV ht hK hv hn
  rw [hrun]
  show K' (a.put o.dst undef) w'
  rw [hd]
  exact h w' h1 h2

theorem run_lookup_tab {t : List (Int × α)} (hT : Tab V kd w r t) (ht : P.underlying T = some (.map K E)) (hK : P.underlying K = some (.int kd)) {z : Value} (hz : (zeroValue E).run P w = .ok z w) (k : Int) :
    (t.find? (fun p => k == p.1) = none ∧ (Instr.lookup T (.map (some r)) (.int kd k) true).run P w = .ok (.tuple #[z, .bool false]) w) ∨
    ∃ k' x v, t.find? (fun p => k == p.1) = some (k', x) ∧ V w v x ∧ (Instr.lookup T (.map (some r)) (.int kd k) true).run P w = .ok (.tuple #[v, .bool true]) w := by
  obtain ⟨es, c, e1, e2⟩ := hT
  rcases e2.find k 0 with ⟨hf, hn⟩ | ⟨k', x, j, v, hf, hv, hn⟩
  · refine .inl ⟨hf, ?_⟩
    unfold Instr.lookup
    simp [Sem.run_bind, run_underlying ht, Result.andThen, MapKept.run_getObj_map e1, MapKept.run_checkKey hK (k := .int kd k) (by simp [MapKept.IsKey]) _ 9999, MapKept.run_findKey hK hn, hz]
  · refine .inr ⟨k', x, v, hf, hv, ?_⟩
    unfold Instr.lookup
    simp [Sem.run_bind, run_underlying ht, Result.andThen, MapKept.run_getObj_map e1, MapKept.run_checkKey hK (k := .int kd k) (by simp [MapKept.IsKey]) _ 9999, MapKept.run_findKey hK hn]

end

end Go.Proofs.YtjjaojnglnpgaaaGreatDoor

namespace Go.Proofs.YtjjaojnglnpgaaaGreatDoor
open Go.RowKit

def kindRows : List (Int × (List Int × Bool)) :=
  [(1, [2], true), (2, [3, 5], false), (3, [4], true), (4, [], false), (5, [201], true), (6, [200], false), (7, [202, 200], false), (8, [200, 5, 5], false), (9, [200, 5], false),
   (10, [200], false), (11, [200], false), (12, [25], false), (20, [], false), (21, [], false), (22, [], false), (23, [200], false), (24, [200, 200], false), (25, [200], true),
   (26, [200, 200], false), (27, [200, 200], false), (28, [200], false), (29, [], false)]
def kindRow (k : Nat) : Option (Int × (List Int × Bool)) := kindRows.find? fun p => (k : Int) == p.1

/-- a value that is a row: its kinds lie outside block r -/
def RowIn (r : Nat) (w : World) (v : Value) (x : List Int × Bool) : Prop := ∃ A c, v = .agg #[.slice A x.1.length c, .bool x.2] ∧ Rd (fun b => r < b) w A (x.1.map (.int .u8))
theorem RowIn.stable (r : Nat) : Stable r (RowIn r) := by
  rintro w w' v x hk ⟨A, c, rfl, h⟩
  refine ⟨A, c, rfl, ?_⟩
  have h2 : Rd (fun b => r < b ∧ b < w.heap.size) w A (x.1.map (.int .u8)) := h.mono fun b hlt hS => ⟨hS, hlt⟩
  exact (h2.keep fun b hb => hk b hb.2 (by omega)).mono fun b _ hS => hS.1

theorem rd_new {S : Nat → Prop} {w : World} {cs : List Value} {t : TypeId} (hS : S w.heap.size) : Rd S (w.alloc (.cells cs.toArray t)) (some ⟨w.heap.size, 0, none⟩) cs := by
  refine .inr ⟨_, _, rfl, hS, fun j u hu => ?_⟩
  rw [Nat.zero_add, World.cell?_alloc_new]
  simpa using hu

theorem one_any (A : Option Addr) (n c : Nat) (w : World) :
    Calls Tryz.prog 294 #[.slice A n c] w fun e w' => e = .returned (.agg #[.slice A n c, .bool false]) ∧ w.alloc (.cells #[.slice A n c, .bool false] 352) = w' := by
  go_enter Tryz.func294, Tryz.ntmps294
  go_wp2
  exact bodyPost_ret (v := .agg #[.slice A n c, .bool false]) (by simp [results, Tryz.results294, go_sem]) rfl ⟨rfl, rfl⟩

theorem many_any (k : Int) (w : World) :
    Calls Tryz.prog 295 #[.int .u8 k] w fun e w' => e = .returned (.agg #[.slice (some ⟨w.heap.size + 1, 0, none⟩) 1 1, .bool true]) ∧
      (w.alloc (.cells #[.slice (some ⟨w.heap.size + 1, 0, none⟩) 1 1, .bool true] 352)).alloc (.cells #[.int .u8 k] 216) = w' := by
  go_enter Tryz.func295, Tryz.ntmps295
  go_wp2
  exact bodyPost_ret (v := .agg #[.slice (some ⟨w.heap.size + 1, 0, none⟩) 1 1, .bool true]) (by simp [results, Tryz.results295, go_sem]) rfl ⟨rfl, rfl⟩
theorem row_many {r : Nat} {w : World} {o : Obj} {k : Int} {t : TypeId} (h : r < w.heap.size) : RowIn r ((w.alloc o).alloc (.cells #[.int .u8 k] t)) (.agg #[.slice (some ⟨w.heap.size + 1, 0, none⟩) 1 1, .bool true]) ([k], true) := by
  refine ⟨_, _, rfl, ?_⟩
  have := rd_new (S := fun b => r < b) (w := w.alloc o) (cs := [.int .u8 k]) (t := t) (by simp; omega)
  simpa using this
theorem row_one1 {r : Nat} {w : World} {o : Obj} {k : Int} {t : TypeId} (h : r < w.heap.size) : RowIn r ((w.alloc (.cells #[.int .u8 k] t)).alloc o) (.agg #[.slice (some ⟨w.heap.size, 0, none⟩) 1 1, .bool false]) ([k], false) :=
  ⟨_, _, rfl, (rd_new (S := fun b => r < b) (cs := [.int .u8 k]) (by omega)).alloc o⟩
theorem row_one2 {r : Nat} {w : World} {o : Obj} {k l : Int} {t : TypeId} (h : r < w.heap.size) : RowIn r ((w.alloc (.cells #[.int .u8 k, .int .u8 l] t)).alloc o) (.agg #[.slice (some ⟨w.heap.size, 0, none⟩) 2 2, .bool false]) ([k, l], false) :=
  ⟨_, _, rfl, (rd_new (S := fun b => r < b) (cs := [.int .u8 k, .int .u8 l]) (by omega)).alloc o⟩
theorem row_one3 {r : Nat} {w : World} {o : Obj} {k l m : Int} {t : TypeId} (h : r < w.heap.size) : RowIn r ((w.alloc (.cells #[.int .u8 k, .int .u8 l, .int .u8 m] t)).alloc o) (.agg #[.slice (some ⟨w.heap.size, 0, none⟩) 3 3, .bool false]) ([k, l, m], false) :=
  ⟨_, _, rfl, (rd_new (S := fun b => r < b) (cs := [.int .u8 k, .int .u8 l, .int .u8 m]) (by omega)).alloc o⟩
theorem row_nil {r : Nat} {w : World} {o : Obj} (_h : r < w.heap.size) : RowIn r (w.alloc o) (.agg #[.slice none 0 0, .bool false]) ([], false) := ⟨_, _, rfl, Rd.nil⟩

theorem tab_below {w0 wb W w1 : World} {r : Nat} (h0 : Below r w0 wb) (h : Below wb.heap.size wb W) (hr : r ≤ w0.heap.size) (hg : W.grownBy w1 (some r)) : Below r w0 w1 :=
  (h0.trans (h.mono (Nat.le_trans hr h0.size))).grown hg (Nat.le_trans hr (Nat.le_trans h0.size h.size)) (by rintro k ⟨⟩; exact Nat.le_refl _)

theorem upon_row_many {P : Program} {T K E : TypeId} {o : Oper} {a : Act} {K' : Act → World → Prop} {Q : Exit → Act → World → Prop} {w0 wb : World} {r : Nat} {t : List (Int × (List Int × Bool))} {k : Int} {o1 : Obj} {k1 : Int} {t1 : TypeId}
    (hd : o.dst = none) (ht : P.underlying T = some (.map K E)) (hK : P.underlying K = some (.int .u8)) (hT : Tab (RowIn r) .u8 wb r t) (HB : Below r w0 wb) (hr : r ≤ w0.heap.size) (hn : t.find? (fun p => k == p.1) = none)
    (h : ∀ w', Hid (Tab (RowIn r) .u8 w' r (t ++ [(k, ([k1], true))])) → Hid (Below r w0 w') → K' a w') :
    Oper.upon P o a K' Q (((Instr.mapUpdate T (.map (some r)) (.int .u8 k) (.agg #[.slice (some ⟨wb.heap.size + 1, 0, none⟩) 1 1, .bool true])).run P ((wb.alloc o1).alloc (.cells #[.int .u8 k1] t1))).andThen fun _ w' => .ok .skip w') :=
  upon_insert_tab hd ht hK hT (RowIn.stable r) (below2 _ _) (row_many hT.lt) hn fun w' h1 h2 => h w' (hide h1) (hide (tab_below HB (below2 _ _) hr h2))
theorem upon_row_one1 {P : Program} {T K E : TypeId} {o : Oper} {a : Act} {K' : Act → World → Prop} {Q : Exit → Act → World → Prop} {w0 wb : World} {r : Nat} {t : List (Int × (List Int × Bool))} {k : Int} {o1 : Obj} {k1 : Int} {t1 : TypeId}
    (hd : o.dst = none) (ht : P.underlying T = some (.map K E)) (hK : P.underlying K = some (.int .u8)) (hT : Tab (RowIn r) .u8 wb r t) (HB : Below r w0 wb) (hr : r ≤ w0.heap.size) (hn : t.find? (fun p => k == p.1) = none)
    (h : ∀ w', Hid (Tab (RowIn r) .u8 w' r (t ++ [(k, ([k1], false))])) → Hid (Below r w0 w') → K' a w') :
    Oper.upon P o a K' Q (((Instr.mapUpdate T (.map (some r)) (.int .u8 k) (.agg #[.slice (some ⟨wb.heap.size, 0, none⟩) 1 1, .bool false])).run P ((wb.alloc (.cells #[.int .u8 k1] t1)).alloc o1)).andThen fun _ w' => .ok .skip w') :=
  upon_insert_tab hd ht hK hT (RowIn.stable r) (below2 _ _) (row_one1 hT.lt) hn fun w' h1 h2 => h w' (hide h1) (hide (tab_below HB (below2 _ _) hr h2))
theorem upon_row_one2 {P : Program} {T K E : TypeId} {o : Oper} {a : Act} {K' : Act → World → Prop} {Q : Exit → Act → World → Prop} {w0 wb : World} {r : Nat} {t : List (Int × (List Int × Bool))} {k : Int} {o1 : Obj} {k1 k2 : Int} {t1 : TypeId}
    (hd : o.dst = none) (ht : P.underlying T = some (.map K E)) (hK : P.underlying K = some (.int .u8)) (hT : Tab (RowIn r) .u8 wb r t) (HB : Below r w0 wb) (hr : r ≤ w0.heap.size) (hn : t.find? (fun p => k == p.1) = none)
    (h : ∀ w', Hid (Tab (RowIn r) .u8 w' r (t ++ [(k, ([k1, k2], false))])) → Hid (Below r w0 w') → K' a w') :
    Oper.upon P o a K' Q (((Instr.mapUpdate T (.map (some r)) (.int .u8 k) (.agg #[.slice (some ⟨wb.heap.size, 0, none⟩) 2 2, .bool false])).run P ((wb.alloc (.cells #[.int .u8 k1, .int .u8 k2] t1)).alloc o1)).andThen fun _ w' => .ok .skip w') :=
  upon_insert_tab hd ht hK hT (RowIn.stable r) (below2 _ _) (row_one2 hT.lt) hn fun w' h1 h2 => h w' (hide h1) (hide (tab_below HB (below2 _ _) hr h2))
theorem upon_row_one3 {P : Program} {T K E : TypeId} {o : Oper} {a : Act} {K' : Act → World → Prop} {Q : Exit → Act → World → Prop} {w0 wb : World} {r : Nat} {t : List (Int × (List Int × Bool))} {k : Int} {o1 : Obj} {k1 k2 k3 : Int} {t1 : TypeId}
    (hd : o.dst = none) (ht : P.underlying T = some (.map K E)) (hK : P.underlying K = some (.int .u8)) (hT : Tab (RowIn r) .u8 wb r t) (HB : Below r w0 wb) (hr : r ≤ w0.heap.size) (hn : t.find? (fun p => k == p.1) = none)
    (h : ∀ w', Hid (Tab (RowIn r) .u8 w' r (t ++ [(k, ([k1, k2, k3], false))])) → Hid (Below r w0 w') → K' a w') :
    Oper.upon P o a K' Q (((Instr.mapUpdate T (.map (some r)) (.int .u8 k) (.agg #[.slice (some ⟨wb.heap.size, 0, none⟩) 3 3, .bool false])).run P ((wb.alloc (.cells #[.int .u8 k1, .int .u8 k2, .int .u8 k3] t1)).alloc o1)).andThen fun _ w' => .ok .skip w') :=
  upon_insert_tab hd ht hK hT (RowIn.stable r) (below2 _ _) (row_one3 hT.lt) hn fun w' h1 h2 => h w' (hide h1) (hide (tab_below HB (below2 _ _) hr h2))
theorem upon_row_nil {P : Program} {T K E : TypeId} {o : Oper} {a : Act} {K' : Act → World → Prop} {Q : Exit → Act → World → Prop} {w0 wb : World} {r : Nat} {t : List (Int × (List Int × Bool))} {k : Int} {o1 : Obj}
    (hd : o.dst = none) (ht : P.underlying T = some (.map K E)) (hK : P.underlying K = some (.int .u8)) (hT : Tab (RowIn r) .u8 wb r t) (HB : Below r w0 wb) (hr : r ≤ w0.heap.size) (hn : t.find? (fun p => k == p.1) = none)
    (h : ∀ w', Hid (Tab (RowIn r) .u8 w' r (t ++ [(k, ([], false))])) → Hid (Below r w0 w') → K' a w') :
    Oper.upon P o a K' Q (((Instr.mapUpdate T (.map (some r)) (.int .u8 k) (.agg #[.slice none 0 0, .bool false])).run P (wb.alloc o1)).andThen fun _ w' => .ok .skip w') :=
  upon_insert_tab hd ht hK hT (RowIn.stable r) (below_alloc _ _) (row_nil hT.lt) hn fun w' h1 h2 => h w' (hide h1) (hide (tab_below HB (below_alloc _ _) hr h2))

theorem two_set {w1 : World} {b : Nat} {x y u v : Value} {o : Obj} (h0 : w1.cell? ⟨b, 0, none⟩ = some x) (h1 : w1.cell? ⟨b, 1, none⟩ = some y) :
    (((w1.setCell ⟨b, 0, none⟩ u).setCell ⟨b, 1, none⟩ v).alloc o).cell? ⟨b, 0, none⟩ = some u ∧ (((w1.setCell ⟨b, 0, none⟩ u).setCell ⟨b, 1, none⟩ v).alloc o).cell? ⟨b, 1, none⟩ = some v := by
  have hb : b < w1.heap.size := block_lt_of_cell h0
  rw [World.cell?_alloc_lt _ _ _ (by simpa [World.setCell] using hb), World.cell?_alloc_lt _ _ _ (by simpa [World.setCell] using hb)]
  rw [World.cell?_setCell_other _ _ _ _ (by simp)]
  exact ⟨World.cell?_setCell_same _ _ _ h0, World.cell?_setCell_same _ _ _ (u := y) ((World.cell?_setCell_other _ _ _ _ (by simp)).trans h1)⟩

def RowsPost (k : Nat) (w : World) (e : Ending) (w' : World) : Prop :=
  Below w.heap.size w w' ∧ ((kindRow k = none ∧ e = .returned (.tuple #[.agg #[.slice none 0 0, .bool false], .bool false])) ∨
    ∃ k' ks all A c, kindRow k = some (k', ks, all) ∧ e = .returned (.tuple #[.agg #[.slice A ks.length c, .bool all], .bool true]) ∧ Rd (fun _ => True) w' A (ks.map (.int .u8)))

set_option maxRecDepth 100000 in
set_option maxHeartbeats 2000000 in
theorem rows_any (k : Nat) (w : World) : Calls Tryz.prog 283 #[.int .u8 k] w (RowsPost k w) := by
  have hmm := @run_makeMap Tryz.prog
  have T : Hid (Tab (RowIn (w.heap.size + 1)) .u8 ((w.alloc (.cells #[.slice none 0 0, .bool false] 352)).alloc (.map #[] 0)) (w.heap.size + 1) []) := hide (by
    have := Tab.new (V := RowIn (w.heap.size + 1)) (kd := .u8) (w.alloc (.cells #[.slice none 0 0, .bool false] 352))
    rw [show (w.alloc (.cells #[.slice none 0 0, .bool false] 352)).heap.size = w.heap.size + 1 from by simp] at this
    exact this)
  have HB : Hid (Below (w.heap.size + 1) (w.alloc (.cells #[.slice none 0 0, .bool false] 352)) ((w.alloc (.cells #[.slice none 0 0, .bool false] 352)).alloc (.map #[] 0))) := hide ((Below.refl _ _).alloc (by simp) _)
  have Hr : Hid (w.heap.size + 1 ≤ (w.alloc (.cells #[.slice none 0 0, .bool false] 352)).heap.size) := hide (by simp)
  go_enter Tryz.func283, Tryz.ntmps283
  go_wp2_with fail
  generalize (w.alloc (.cells #[.slice none 0 0, .bool false] 352)).alloc (.map #[] 0) = wb at T HB ⊢
  go_wp2_with (first
    | (go_at_call 294; refine (one_any _ _ _ _).mono ?_; rintro e w' ⟨rfl, rfl⟩)
    | (go_at_call 295; refine (many_any _ _).mono ?_; rintro e w' ⟨rfl, rfl⟩)
    | ((with_reducible refine upon_row_many ?_ Tryz.underlying363 Tryz.underlying216 T.out HB.out Hr.out ?_ ?_); exact rfl; exact rfl; clear T HB; intro w1 T HB)
    | ((with_reducible refine upon_row_one1 ?_ Tryz.underlying363 Tryz.underlying216 T.out HB.out Hr.out ?_ ?_); exact rfl; exact rfl; clear T HB; intro w1 T HB)
    | ((with_reducible refine upon_row_one2 ?_ Tryz.underlying363 Tryz.underlying216 T.out HB.out Hr.out ?_ ?_); exact rfl; exact rfl; clear T HB; intro w1 T HB)
    | ((with_reducible refine upon_row_one3 ?_ Tryz.underlying363 Tryz.underlying216 T.out HB.out Hr.out ?_ ?_); exact rfl; exact rfl; clear T HB; intro w1 T HB)
    | ((with_reducible refine upon_row_nil ?_ Tryz.underlying363 Tryz.underlying216 T.out HB.out Hr.out ?_ ?_); exact rfl; exact rfl; clear T HB; intro w1 T HB))
  have hT : Tab (RowIn (w.heap.size + 1)) .u8 w1 (w.heap.size + 1) kindRows := T.out
  clear T
  have c0 : w1.cell? ⟨w.heap.size, 0, none⟩ = some (.slice none 0 0) := (HB.out.cell (p := ⟨w.heap.size, 0, none⟩) (by simp)).trans (by simp)
  have c1 : w1.cell? ⟨w.heap.size, 1, none⟩ = some (.bool false) := (HB.out.cell (p := ⟨w.heap.size, 1, none⟩) (by simp)).trans (by simp)
  have f0 : w1.frozen? ⟨w.heap.size, 0, none⟩ = false := (HB.out.frozen (p := ⟨w.heap.size, 0, none⟩) (by simp)).trans (by unfold World.frozen?; rw [heap_alloc_new]; simp)
  have f1 : w1.frozen? ⟨w.heap.size, 1, none⟩ = false := (HB.out.frozen (p := ⟨w.heap.size, 1, none⟩) (by simp)).trans (by unfold World.frozen?; rw [heap_alloc_new]; simp)
  have hz : w.heap.size < w1.heap.size := Nat.lt_of_succ_lt hT.lt
  have HB' : Hid (Below w.heap.size w w1) := hide ((below_alloc w _).trans (HB.out.mono (Nat.le_succ _)))
  clear HB Hr
  have hzero : ∀ W : World, (zeroValue 352).run Tryz.prog W = .ok (.agg #[.slice none 0 0, .bool false]) W := fun _ => by kernel_rfl
  rcases run_lookup_tab hT Tryz.underlying363 Tryz.underlying216 (hzero w1) (k : Int) with ⟨hf, hrun⟩ | ⟨k', ⟨ks, all⟩, v, hf, ⟨A, c, rfl, hrd⟩, hrun⟩
  · have Hf := hide hf
    clear hf hT hzero
    rw [hrun]
    clear hrun
    go_wp2
    refine bodyPost_ret (v := .tuple #[.agg #[.slice none 0 0, .bool false], .bool false]) ?_ rfl ?_
    · obtain ⟨r0, r1⟩ := two_set (o := .cells #[.slice none 0 0, .bool false] 352) (u := .slice none 0 0) (v := .bool false) c0 c1
      simp [results, Tryz.results283, go_sem, r0, r1]
    exact ⟨((HB'.out.setCell (Nat.le_refl _) _).setCell (Nat.le_refl _) _).alloc (by simpa [World.setCell] using HB'.out.size) _, .inl ⟨Hf.out, rfl⟩⟩
  · have Hf := hide hf
    have Hrd := hide hrd
    clear hf hT hzero hrd
    rw [hrun]
    clear hrun
    go_wp2
    refine bodyPost_ret (v := .tuple #[.agg #[.slice A ks.length c, .bool all], .bool true]) ?_ rfl ?_
    · obtain ⟨r0, r1⟩ := two_set (o := .cells #[.slice A ks.length c, .bool all] 352) (u := .slice A ks.length c) (v := .bool all) c0 c1
      simp [results, Tryz.results283, go_sem, r0, r1]
    refine ⟨((HB'.out.setCell (Nat.le_refl _) _).setCell (Nat.le_refl _) _).alloc (by simpa [World.setCell] using HB'.out.size) _, .inr ⟨k', ks, all, A, c, Hf.out, rfl, ?_⟩⟩
    refine Rd.alloc ((Hrd.out.keep fun b hb => ?_).mono fun _ _ _ => trivial) _
    rw [Below.heap_setCell _ _ _ _ (by simp; omega), Below.heap_setCell _ _ _ _ (by simp; omega)]

end Go.Proofs.YtjjaojnglnpgaaaGreatDoor

namespace Go.Proofs.YtjjaojnglnpgaaaGreatDoor
open Go.RowKit

/-- the library's table of ASCII blanks holds what its text lays -/
def TabOk (w : World) : Prop := 5 < w.heap.size ∧ Lib.TabIs Tryz.prog w "strings.asciiSpace" .u8 Lib.asciiSpaceTab
theorem TabOk.below {w w' : World} (h : TabOk w) (hb : Below w.heap.size w w') : TabOk w' :=
  ⟨Nat.lt_of_lt_of_le h.1 hb.size, var?_below hb (by kernel_rfl) h.1 h.2⟩

def txt (l : List UInt8) : ByteArray := ⟨l.toArray⟩
def txts (l : List (List UInt8)) : List ByteArray := l.map txt
theorem mem_txts {l : List (List UInt8)} {s : ByteArray} : s ∈ txts l ↔ s.data.toList ∈ l := by
  unfold txts
  rw [List.mem_map]
  constructor
  · rintro ⟨x, hx, rfl⟩
    simpa [txt] using hx
  · intro h
    exact ⟨_, h, by simp [txt]⟩

def SplitPost (ws : List (List UInt8)) (w : World) (e : Ending) (w' : World) : Prop :=
  ∃ A c, e = .returned (.slice A (txts ws).length c) ∧ Rd (fun _ => True) w' A ((txts ws).map .string) ∧ Below w.heap.size w w'

theorem fields_any (s : List UInt8) (ws : List (List UInt8)) (w : World) (ht : TabOk w) (hf : Lib.fields s = ws) (hs : s.length < 4294967281) (ha : ∀ b ∈ s, b.toNat < 128) :
    Calls Tryz.prog 281 #[.string ⟨s.toArray⟩] w (SplitPost ws w) := by
  refine (Tryz.strings_Fields ⟨s.toArray⟩ w (by simpa [ByteArray.size] using hs) (fun j b hb => ha b (List.mem_of_getElem? hb)) ht.2).mono ?_
  rintro e w' ⟨rfl, rfl⟩
  have e1 : (Lib.fields (List.toArray s).toList) = ws := by simpa using hf
  simp only [e1]
  refine ⟨some ⟨w.heap.size, 0, none⟩, ws.length, by simp [txts], ?_, below_alloc _ _⟩
  have := rd_new (S := fun _ => True) (w := w) (cs := (txts ws).map .string) (t := 9) trivial
  simpa [txts, txt, Function.comp_def] using this

theorem words_any (w : World) (ht : TabOk w) : Calls Tryz.prog 257 #[] w (SplitPost words w) := by
  have H : Hid (TabOk w) := ht
  clear ht
  go_enter Tryz.func257, Tryz.ntmps257
  go_wp2_with (go_at_call 281; refine (fields_any _ words _ H.out (by decide +kernel) (by decide) (by decide)).mono ?_; rintro e w' ⟨A, c, rfl, hr, hb⟩; have Hr := hide hr; have Hb := hide hb; clear hr hb)
  go_ret
  exact ⟨A, c, rfl, Hr.out, Hb.out⟩

/-- the parts of LexName, as the program asks them -/
theorem lexName_iff {s : ByteArray} (h : 0 < s.size) : LexName s ↔ s.size ≤ 24 ∧ Letter (s[0]) ∧ s ∉ txts words ∧ ∀ c ∈ s.data.toList, Letter c ∨ Digit c := by
  unfold LexName
  rw [mem_txts]
  obtain ⟨⟨l⟩⟩ := s
  cases l with
  | nil => simp [ByteArray.size] at h
  | cons c l =>
    have : (⟨(c :: l).toArray⟩ : ByteArray)[0] = c := rfl
    rw [this]
    simp
theorem lexName_no {s : ByteArray} (h : ¬ 0 < s.size) : ¬ LexName s := by
  rintro ⟨_, ⟨c, l, hc, _⟩, _⟩
  apply h
  have : s.data.toList.length = s.size := by simp
  rw [hc] at this
  simp at this
  omega

set_option maxHeartbeats 1000000 in
theorem lexName_any (s : ByteArray) (w : World) (hs : s.size ≤ 9223372036854775807) (ht : TabOk w) : Calls Tryz.prog 219 #[.string s] w fun e w' => RetB (LexName s) e ∧ Below w.heap.size w w' := by
  have Ht : Hid (TabOk w) := ht
  clear ht
  have hz := hide (size_nil s)
  by_cases h0 : 0 < s.size
  · have hne : ¬ s.toList = [] := by rw [size_nil]; omega
    have hne2 : s.toList.isEmpty = false := by simpa using hne
    by_cases h1 : s.size ≤ 24
    · have Hiff := hide (lexName_iff h0)
      go_enter Tryz.func219, Tryz.ntmps219
      go_wp2_with (first
        | (go_at_call 255; refine (letter_any s[0] _).mono ?_; rintro e w1 ⟨⟨_ | _, rfl, hb⟩, rfl⟩ <;> (have Hb := hide hb; clear hb))
        | (go_at_call 257; refine (words_any _ Ht.out).mono ?_; rintro e w1 ⟨A, c, rfl, hr, hb⟩; have Hr := hide hr; have HB := hide hb; clear hr hb)
        | (go_at_call 256; refine (containsText_any (l := txts words) (x := s) Hr.out (by decide)).mono ?_; rintro e w2 ⟨⟨_ | _, rfl, hb⟩, rfl⟩ <;> (have Hc := hide hb; clear hb)))
      · go_ret
        exact ⟨RetB.no fun h => (by simpa using Hb.out : ¬ Letter s[0]) (Hiff.out.1 h).2.1, Below.refl _ _⟩
      · go_loop [24, 3] (fun i _ => ∃ k : Nat, k ≤ s.size ∧ i = .int .i64 k ∧ Hid (∀ j, (h : j < k) → (h' : j < s.size) → Letter (s[j]) ∨ Digit (s[j]))) (fun i _ => s.size - (intOf i).toNat)
        case atStart => exact ⟨0, Nat.zero_le _, rfl, hide (fun j h => absurd h (by omega))⟩
        case round =>
          obtain ⟨k, hk, rfl, hall⟩ := hrel
          by_cases hlt : k < s.size
          · go_wp2_with (go_at_call 258; refine (wordy_any s[k] _).mono ?_; rintro e w' ⟨⟨_ | _, rfl, hb⟩, rfl⟩ <;> (have Hd := hide hb; clear hb))
            · go_ret
              exact ⟨RetB.no fun h => (by simpa using Hd.out : ¬ (Letter s[k] ∨ Digit s[k])) ((Hiff.out.1 h).2.2.2 _ (mem_idx s k hlt)), HB.out⟩
            · go_round
              case rel => exact ⟨k + 1, by omega, by go_num, hide (all_step (P := fun c => Letter c ∨ Digit c) hall.out hlt (by simpa using Hd.out))⟩
              case measure => simp [intOf]; omega
          · have H := hide (all_done (P := fun c => Letter c ∨ Digit c) hall.out hlt)
            clear hall
            go_wp2_with fail
            go_ret
            exact ⟨RetB.yes (Hiff.out.2 ⟨h1, by simpa using Hb.out, by simpa using Hc.out, H.out⟩), HB.out⟩
      · go_ret
        exact ⟨RetB.no fun h => (Hiff.out.1 h).2.2.1 (by simpa using Hc.out), HB.out⟩
    · go_enter Tryz.func219, Tryz.ntmps219
      go_wp2_with fail
      go_ret
      exact ⟨RetB.no fun h => h1 h.1, Below.refl _ _⟩
  · have he : s.toList = [] := by rw [size_nil]; omega
    go_enter Tryz.func219, Tryz.ntmps219
    go_wp2_with fail
    go_ret
    exact ⟨RetB.no (lexName_no h0), Below.refl _ _⟩

end Go.Proofs.YtjjaojnglnpgaaaGreatDoor
