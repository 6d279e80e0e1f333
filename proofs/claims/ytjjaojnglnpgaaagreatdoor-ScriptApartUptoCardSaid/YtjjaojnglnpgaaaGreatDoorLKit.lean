/- What the functions that hold rows against each other tell: texts, numbers, nodes. -/
import Derived.Test.YtjjaojnglnpgaaaGreatDoorProg
import Derived.OwnWalk
import Derived.Laws.AppendOwn
import Derived.Laws.OwnMore
import Derived.Laws.IdiomStrings
import Derived.Test.YtjjaojnglnpgaaaGreatDoorLBase
import Derived.Test.YtjjaojnglnpgaaaGreatDoorLKeep

set_option linter.unusedVariables false
set_option linter.unusedSimpArgs false

namespace Go.Proofs.YtjjaojnglnpgaaaGreatDoor
open Go.RowKit

theorem eq_step {α : Type} {l m : List α} {k : Nat} (h : ∀ j, j < k → l[j]? = m[j]?) (hk : l[k]? = m[k]?) : ∀ j, j < k + 1 → l[j]? = m[j]? := by
  intro j hj
  rcases Nat.lt_or_ge j k with h1 | h1
  · exact h j h1
  · obtain rfl : j = k := by omega
    exact hk
theorem eq_done {α : Type} {l m : List α} {k : Nat} (h : ∀ j, j < k → l[j]? = m[j]?) (hl : l.length = m.length) (hk : ¬ k < l.length) : l = m := by
  apply List.ext_getElem? 
  intro j
  by_cases hj : j < k
  · exact h j hj
  · rw [List.getElem?_eq_none (by omega), List.getElem?_eq_none (by omega)]

theorem txt_eq {s t : ByteArray} : (s.toList == t.toList) = true ↔ s = t := by
  rw [beq_iff_eq, ByteArray.toList_eq, ByteArray.toList_eq]
  obtain ⟨⟨a⟩⟩ := s
  obtain ⟨⟨b⟩⟩ := t
  simp
theorem tl_eq {s t : ByteArray} : s.toList = t.toList ↔ s = t := by rw [← beq_iff_eq, txt_eq]
theorem no_of_idx {α : Type} {l m : List α} {k : Nat} {x y : α} (h1 : l[k]? = some x) (h2 : m[k]? = some y) (h : x ≠ y) : l ≠ m := by
  rintro rfl
  rw [h1] at h2
  exact h (by injection h2)
theorem txt_ne {s t : ByteArray} (h : (!s.toList == t.toList) = true) : s ≠ t := by
  rintro rfl
  simp at h
theorem txt_eq' {s t : ByteArray} (h : (!s.toList == t.toList) = false) : s = t := txt_eq.1 (by simpa using h)
theorem len_ne {α : Type} {l m : List α} (h : ¬ l.length = m.length) : l ≠ m := by rintro rfl; exact h rfl

set_option maxHeartbeats 400000 in
theorem sameTexts_any {S S' : Nat → Prop} {A A' : Option Addr} {c c' : Nat} {l m : List ByteArray} {w : World} (hl : StrsIn S w A l) (hm : StrsIn S' w A' m) :
    Calls Tryz.prog 65 #[.slice A l.length c, .slice A' m.length c'] w fun e w' => RetB (l = m) e ∧ ∃ n, w' = w.drewN n := by
  have hl3 := hl.2.2
  have hm3 := hm.2.2
  have Hl := hide hl.1
  have Hm := hide hm.1
  clear hl hm
  by_cases hn : l.length = m.length
  · have hd : ((l.length : Int) != (m.length : Int)) = false := by simp [hn]
    have Hn := hide hn
    clear hn
    go_enter Tryz.func65, Tryz.ntmps65
    go_wp2
    go_loopw [5] (fun i wr => ∃ k q : Nat, k ≤ l.length ∧ i = .int .i64 k ∧ wr = w.drewN q ∧ Hid (∀ j, j < k → l[j]? = m[j]?)) (fun i _ => l.length - (intOf i).toNat)
    case atStart => exact ⟨0, 0, Nat.zero_le _, rfl, rfl, hide (fun j h => absurd h (by omega))⟩
    case round =>
      obtain ⟨k, q, hk, rfl, rfl, hall⟩ := hrel
      by_cases hlt : k < l.length
      · obtain ⟨b, o, rfl, h1⟩ := Hl.out.at_ (j := k) (by simpa using hlt)
        obtain ⟨b', o', rfl, h2⟩ := Hm.out.at_ (j := k) (by have := Hn.out; simp; omega)
        simp only [List.getElem_map] at h1 h2
        have hlt2 : k < m.length := by have := Hn.out; omega
        have e1 : l[k]? = some l[k] := by simp [hlt]
        have e2 : m[k]? = some m[k] := by simp [hlt2]
        have E1 := hide e1
        have E2 := hide e2
        clear e1 e2
        generalize l[k] = s at h1 E1
        generalize m[k] = s' at h2 E2
        go_wp2
        go_quiet (fail)
        go_wp2
        · have ht : (!s.toList == s'.toList) = true := by assumption
          go_ret
          exact ⟨RetB.no (no_of_idx E1.out E2.out (txt_ne ht)), _, World.drewN_drewN _ _ _⟩
        · have ht : (!s.toList == s'.toList) = false := by assumption
          go_roundw
          case rel => exact ⟨k + 1, _, by omega, by go_num, rfl, hide (eq_step hall.out (by rw [E1.out, E2.out, txt_eq' ht]))⟩
          case measure => simp [intOf]; omega
      · go_wp2
        go_ret
        exact ⟨RetB.yes (eq_done hall.out Hn.out hlt), _, rfl⟩
  · have hd : ((l.length : Int) != (m.length : Int)) = true := by simp; omega
    have Hn := hide hn
    clear hn
    go_enter Tryz.func65, Tryz.ntmps65
    go_wp2
    go_ret
    exact ⟨RetB.no (len_ne Hn.out), 0, rfl⟩

set_option maxHeartbeats 400000 in
theorem sameInts_any {S S' : Nat → Prop} {A A' : Option Addr} {c c' : Nat} {l m : List Int} {w : World} (hl : IntsIn S w A l) (hm : IntsIn S' w A' m) :
    Calls Tryz.prog 207 #[.slice A l.length c, .slice A' m.length c'] w fun e w' => RetB (l = m) e ∧ ∃ n, w' = w.drewN n := by
  have hl3 := hl.2.2
  have hm3 := hm.2.2
  have Hl := hide hl.1
  have Hm := hide hm.1
  clear hl hm
  by_cases hn : l.length = m.length
  · have hd : ((l.length : Int) != (m.length : Int)) = false := by simp [hn]
    have Hn := hide hn
    clear hn
    go_enter Tryz.func207, Tryz.ntmps207
    go_wp2
    go_loopw [5] (fun i wr => ∃ k q : Nat, k ≤ l.length ∧ i = .int .i64 k ∧ wr = w.drewN q ∧ Hid (∀ j, j < k → l[j]? = m[j]?)) (fun i _ => l.length - (intOf i).toNat)
    case atStart => exact ⟨0, 0, Nat.zero_le _, rfl, rfl, hide (fun j h => absurd h (by omega))⟩
    case round =>
      obtain ⟨k, q, hk, rfl, rfl, hall⟩ := hrel
      by_cases hlt : k < l.length
      · obtain ⟨b, o, rfl, h1⟩ := Hl.out.at_ (j := k) (by simpa using hlt)
        obtain ⟨b', o', rfl, h2⟩ := Hm.out.at_ (j := k) (by have := Hn.out; simp; omega)
        simp only [List.getElem_map] at h1 h2
        have hlt2 : k < m.length := by have := Hn.out; omega
        have e1 : l[k]? = some l[k] := by simp [hlt]
        have e2 : m[k]? = some m[k] := by simp [hlt2]
        have E1 := hide e1
        have E2 := hide e2
        clear e1 e2
        generalize l[k] = s at h1 E1
        generalize m[k] = s' at h2 E2
        go_wp2
        go_quiet (fail)
        go_wp2
        · have ht : (s != s') = true := by assumption
          go_ret
          exact ⟨RetB.no (no_of_idx E1.out E2.out (by simpa using ht)), _, World.drewN_drewN _ _ _⟩
        · have ht : (s != s') = false := by assumption
          go_roundw
          case rel => exact ⟨k + 1, _, by omega, by go_num, rfl, hide (eq_step hall.out (by rw [E1.out, E2.out, (by simpa using ht : s = s')]))⟩
          case measure => simp [intOf]; omega
      · go_wp2
        go_ret
        exact ⟨RetB.yes (eq_done hall.out Hn.out hlt), _, rfl⟩
  · have hd : ((l.length : Int) != (m.length : Int)) = true := by simp; omega
    have Hn := hide hn
    clear hn
    go_enter Tryz.func207, Tryz.ntmps207
    go_wp2
    go_ret
    exact ⟨RetB.no (len_ne Hn.out), 0, rfl⟩

set_option maxHeartbeats 400000 in
theorem equalTexts_any {S S' : Nat → Prop} {A A' : Option Addr} {c c' : Nat} {l m : List ByteArray} {w : World} (hl : StrsIn S w A l) (hm : StrsIn S' w A' m) :
    Calls Tryz.prog 215 #[.slice A l.length c, .slice A' m.length c'] w fun e w' => RetB (l = m) e ∧ ∃ n, w' = w.drewN n := by
  have hl3 := hl.2.2
  have hm3 := hm.2.2
  have Hl := hide hl.1
  have Hm := hide hm.1
  clear hl hm
  by_cases hn : l.length = m.length
  · have hd : ((l.length : Int) != (m.length : Int)) = false := by simp [hn]
    have Hn := hide hn
    clear hn
    go_enter Tryz.func215, Tryz.ntmps215
    go_wp2
    go_loopw [13, 5] (fun i _ wr => ∃ k q : Nat, k ≤ l.length ∧ i = .int .i64 k ∧ wr = w.drewN q ∧ Hid (∀ j, j < k → l[j]? = m[j]?)) (fun i _ _ => l.length - (intOf i).toNat)
    case atStart => exact ⟨0, 0, Nat.zero_le _, rfl, rfl, hide (fun j h => absurd h (by omega))⟩
    case round =>
      obtain ⟨k, q, hk, rfl, rfl, hall⟩ := hrel
      by_cases hlt : k < l.length
      · obtain ⟨b, o, rfl, h1⟩ := Hl.out.at_ (j := k) (by simpa using hlt)
        obtain ⟨b', o', rfl, h2⟩ := Hm.out.at_ (j := k) (by have := Hn.out; simp; omega)
        simp only [List.getElem_map] at h1 h2
        have hlt2 : k < m.length := by have := Hn.out; omega
        have e1 : l[k]? = some l[k] := by simp [hlt]
        have e2 : m[k]? = some m[k] := by simp [hlt2]
        have E1 := hide e1
        have E2 := hide e2
        clear e1 e2
        generalize l[k] = s at h1 E1
        generalize m[k] = s' at h2 E2
        go_wp2
        go_quiet (fail)
        go_wp2
        · have ht : (!s.toList == s'.toList) = true := by assumption
          go_ret
          exact ⟨RetB.no (no_of_idx E1.out E2.out (txt_ne ht)), _, World.drewN_drewN _ _ _⟩
        · have ht : (!s.toList == s'.toList) = false := by assumption
          go_roundw
          case rel => exact ⟨k + 1, _, by omega, by go_num, rfl, hide (eq_step hall.out (by rw [E1.out, E2.out, txt_eq' ht]))⟩
          case measure => simp [intOf]; omega
      · go_wp2
        go_ret
        exact ⟨RetB.yes (eq_done hall.out Hn.out hlt), _, rfl⟩
  · have hd : ((l.length : Int) != (m.length : Int)) = true := by simp; omega
    have Hn := hide hn
    clear hn
    go_enter Tryz.func215, Tryz.ntmps215
    go_wp2
    go_ret
    exact ⟨RetB.no (len_ne Hn.out), 0, rfl⟩

set_option maxHeartbeats 400000 in
theorem equalInts_any {S S' : Nat → Prop} {A A' : Option Addr} {c c' : Nat} {l m : List Int} {w : World} (hl : IntsIn S w A l) (hm : IntsIn S' w A' m) :
    Calls Tryz.prog 223 #[.slice A l.length c, .slice A' m.length c'] w fun e w' => RetB (l = m) e ∧ ∃ n, w' = w.drewN n := by
  have hl3 := hl.2.2
  have hm3 := hm.2.2
  have Hl := hide hl.1
  have Hm := hide hm.1
  clear hl hm
  by_cases hn : l.length = m.length
  · have hd : ((l.length : Int) != (m.length : Int)) = false := by simp [hn]
    have Hn := hide hn
    clear hn
    go_enter Tryz.func223, Tryz.ntmps223
    go_wp2
    go_loopw [13, 5] (fun i _ wr => ∃ k q : Nat, k ≤ l.length ∧ i = .int .i64 k ∧ wr = w.drewN q ∧ Hid (∀ j, j < k → l[j]? = m[j]?)) (fun i _ _ => l.length - (intOf i).toNat)
    case atStart => exact ⟨0, 0, Nat.zero_le _, rfl, rfl, hide (fun j h => absurd h (by omega))⟩
    case round =>
      obtain ⟨k, q, hk, rfl, rfl, hall⟩ := hrel
      by_cases hlt : k < l.length
      · obtain ⟨b, o, rfl, h1⟩ := Hl.out.at_ (j := k) (by simpa using hlt)
        obtain ⟨b', o', rfl, h2⟩ := Hm.out.at_ (j := k) (by have := Hn.out; simp; omega)
        simp only [List.getElem_map] at h1 h2
        have hlt2 : k < m.length := by have := Hn.out; omega
        have e1 : l[k]? = some l[k] := by simp [hlt]
        have e2 : m[k]? = some m[k] := by simp [hlt2]
        have E1 := hide e1
        have E2 := hide e2
        clear e1 e2
        generalize l[k] = s at h1 E1
        generalize m[k] = s' at h2 E2
        go_wp2
        go_quiet (fail)
        go_wp2
        · have ht : (s != s') = true := by assumption
          go_ret
          exact ⟨RetB.no (no_of_idx E1.out E2.out (by simpa using ht)), _, World.drewN_drewN _ _ _⟩
        · have ht : (s != s') = false := by assumption
          go_roundw
          case rel => exact ⟨k + 1, _, by omega, by go_num, rfl, hide (eq_step hall.out (by rw [E1.out, E2.out, (by simpa using ht : s = s')]))⟩
          case measure => simp [intOf]; omega
      · go_wp2
        go_ret
        exact ⟨RetB.yes (eq_done hall.out Hn.out hlt), _, rfl⟩
  · have hd : ((l.length : Int) != (m.length : Int)) = true := by simp; omega
    have Hn := hide hn
    clear hn
    go_enter Tryz.func223, Tryz.ntmps223
    go_wp2
    go_ret
    exact ⟨RetB.no (len_ne Hn.out), 0, rfl⟩

end Go.Proofs.YtjjaojnglnpgaaaGreatDoor

namespace Go.Proofs.YtjjaojnglnpgaaaGreatDoor
open Go.RowKit

/-- block wb holds a writer that has written the bytes l; none of the blocks P is its -/
def Buf (P : Nat → Prop) (wb : Nat) (w : World) (l : List UInt8) : Prop :=
  ∃ v, w.cell? ⟨wb, 0, none⟩ = some v ∧ w.frozen? ⟨wb, 0, none⟩ = false ∧ ¬ P wb ∧ (∀ k, P k → k < w.heap.size) ∧ w.ownsRow 0 5 1 v l.length (bytesV l) ∧
    (∀ g, v.ownBlock = some g → g ≠ wb ∧ ¬ P g) ∧ (v = .slice none 0 0 ∨ l ≠ [])
abbrev lid : Nat := 1099511627776

theorem grownBy_setCell (w : World) (a : Addr) (u : Value) : w.grownBy (w.setCell a u) (some a.block) :=
  ⟨rfl, rfl, rfl, by simp [World.setCell], fun k _ hne => Below.heap_setCell w a u k (fun e => hne (by rw [e]))⟩
theorem bytesV_app (l m : List UInt8) : bytesV (l ++ m) = bytesV l ++ bytesV m := by simp [bytesV]
theorem bytesV_len (l : List UInt8) : (bytesV l).length = l.length := by simp [bytesV]
section
variable {P P' : Nat → Prop} {wb : Nat} {w : World} {l : List UInt8}
theorem Buf.lt (h : Buf P wb w l) : wb < w.heap.size := by
  obtain ⟨v, h0, _⟩ := h
  exact World.block_lt_of_cell? _ _ h0
theorem Buf.lts (h : Buf P wb w l) : ∀ k, P k → k < w.heap.size := by
  obtain ⟨v, _, _, _, h3, _⟩ := h
  exact h3
theorem Buf.mono (h : Buf P' wb w l) (hp : ∀ k, P k → P' k) : Buf P wb w l := by
  obtain ⟨v, h0, h1, h2, h3, h4, h5, h6⟩ := h
  exact ⟨v, h0, h1, fun a => h2 (hp _ a), fun k hk => h3 k (hp k hk), h4, fun g hg => ⟨(h5 g hg).1, fun a => (h5 g hg).2 (hp g a)⟩, h6⟩
theorem Buf.alloc (h : Buf P wb w l) (o : Obj) : Buf P wb (w.alloc o) l := by
  have hlt := h.lt
  obtain ⟨v, h0, h1, h2, h3, h4, h5, h6⟩ := h
  have hb := below_alloc w o
  exact ⟨v, (hb.cell (p := ⟨wb, 0, none⟩) hlt).trans h0, (hb.frozen (p := ⟨wb, 0, none⟩) hlt).trans h1, h2, fun k hk => Nat.lt_of_lt_of_le (h3 k hk) hb.size, h4.alloc o, h5, h6⟩
/-- a new block is protected too -/
theorem Buf.box (h : Buf P wb w l) (o : Obj) : Buf (fun k => P k ∨ k = w.heap.size) wb (w.alloc o) l := by
  have hlt := h.lt
  have ha := h.alloc o
  obtain ⟨v, h0, h1, h2, h3, h4, h5, h6⟩ := h
  obtain ⟨v', a0, a1, a2, a3, a4, a5, a6⟩ := ha
  have hv : v' = v := by
    have hb := (below_alloc w o).cell (p := ⟨wb, 0, none⟩) hlt
    rw [a0, h0] at hb
    injection hb
  subst hv
  refine ⟨v', a0, a1, fun e => e.elim a2 (fun e => by omega), fun k hk => hk.elim (a3 k) (fun e => by subst e; simp), a4, fun g hg => ⟨(a5 g hg).1, fun e => e.elim (a5 g hg).2 (fun e => ?_)⟩, a6⟩
  have := (h4.lt g hg).2
  omega
theorem Buf.drew (h : Buf P wb w l) : Buf P wb w.drew l := h
theorem Buf.drewN (h : Buf P wb w l) (n : Nat) : Buf P wb (w.drewN n) l := h
end

theorem Tryu8 : (Tryz.prog.info? 5).map (fun i => (i.zero, i.size, i.bytes)) = some (some (.int .u8 0), 1, 1) := by kernel_rfl

set_option maxHeartbeats 1000000 in
set_option maxRecDepth 1000000 in
theorem put_any {P : Nat → Prop} {wb : Nat} {w : World} {l news : List UInt8} {b o c : Nat} (h : Buf P wb w l) (hn : ∀ j u, (bytesV news)[j]? = some u → w.cell? ((⟨b, o, none⟩ : Addr).add j) = some u) (hlen : l.length + news.length ≤ lid) :
    Calls Tryz.prog 176 #[.pointer (some ⟨wb, 0, none⟩), .slice (some ⟨b, o, none⟩) news.length c] w fun e w' => e = .returned (.tuple #[]) ∧ Buf P wb w' (l ++ news) ∧ Keep P w w' := by
  have hlt := h.lt
  obtain ⟨v, h0, hf, hB, hP, hown, hne, hnil0⟩ := h
  obtain ⟨i0, hi, hz0, hz1, hz2⟩ := info_parts Tryu8
  have Hown := hide hown
  have Hn := hide hn
  obtain ⟨A, c0, rfl⟩ := own_shape hown
  have Hne := hide hne
  have Hnil := hide hnil0
  have HP := hide hP
  have HBn := hide hB
  have Hlo := hide hown.lt
  clear hown hn hne hnil0 hP hB
  go_enter Tryz.func176, Tryz.ntmps176
  go_wp2_with (at_builtin; refine wpList_append_own2 _ rfl _ _ 44 rfl 5 i0 (.int .u8 0) 1 1 Tryz.underlying44 hi hz0 hz1 hz2 rfl (by decide) _ l.length (bytesV l) rfl Hown.out ⟨b, o, none⟩ news.length c (bytesV news) rfl (by simp [bytesV]) Hn.out (by intro u hu; simp [bytesV] at hu; obtain ⟨x, _, rfl⟩ := hu; rfl) (by unfold maxLen; simp only [lid] at hlen; omega) (by simp only [lid] at hlen; omega) ?_)
  intro v' w1 hown' hgrow hnil hown2
  have k0 := hgrow.cell h0 (fun e => (Hne.out _ e.symm).1 rfl)
  have k1 := (World.frozen?_of_block (a := ⟨wb, 0, none⟩) (hgrow.block wb hlt (fun e => (Hne.out _ e.symm).1 rfl))).trans hf
  obtain ⟨A', c', rfl⟩ := own_shape hown'
  have Hgrow := hide hgrow
  have Hown' := hide hown'
  have Hnil' := hide hnil
  have Hown2 := hide hown2
  clear hown' hgrow hnil hown2
  go_wp2
  go_end0
  have hne' : (Value.slice A' (l.length + news.length) c').ownBlock ≠ some wb := by
    intro e
    by_cases h0' : l.length + news.length = 0
    · have hl : l = [] := List.eq_nil_of_length_eq_zero (by omega)
      have hn' : news = [] := List.eq_nil_of_length_eq_zero (by omega)
      have hv := Hnil.out.resolve_right (fun hn => hn hl)
      have h1 := Hnil'.out
      subst hl
      subst hn'
      simp only [Value.slice.injEq] at hv
      rw [h1.mpr ⟨⟨hv.1, rfl, hv.2.2⟩, rfl⟩] at e
      cases e
    · have hc := Hown'.out.cells e 0
      obtain ⟨x, hx⟩ : ∃ x, (bytesV l ++ bytesV news)[0]? = some (.int .u8 x) := by
        rw [← bytesV_app]
        cases hq : l ++ news with
        | nil => rw [← List.length_append, hq] at h0'; exact absurd rfl h0'
        | cons c r => exact ⟨_, rfl⟩
      have := hc _ hx
      rw [show ((⟨wb, 0, none⟩ : Addr).add 0) = ⟨wb, 0, none⟩ from rfl, k0] at this
      cases this
  have hown2 : ∀ g, (Value.slice A' (l.length + news.length) c').ownBlock = some g → g ≠ wb ∧ ¬ P g := by
    intro g hg
    refine ⟨fun e => hne' (by rw [hg, e]), fun hp => ?_⟩
    rcases Hown2.out with e | e
    · rw [hg] at e
      exact (Hne.out g e.symm).2 hp
    · rw [hg] at e
      injection e with e
      have := HP.out g hp
      omega
  have hB1 : Keep P w w1 := (Keep.refl P w).grown Hgrow.out HP.out (fun k hk => (Hne.out k hk).2)
  refine ⟨rfl, ⟨_, World.cell?_setCell_same _ _ _ k0, ?_, HBn.out, fun k hk => Nat.lt_of_lt_of_le (HP.out k hk) (hB1.setCell (a := ⟨wb, 0, none⟩) HBn.out _).size, ?_, hown2, ?_⟩, hB1.setCell HBn.out _⟩
  · rw [World.frozen?_setCell]; exact k1
  · rw [bytesV_app, List.length_append]
    exact Hown'.out.kept (grownBy_setCell _ _ _) (.inr hne')
  · by_cases h0' : l ++ news = []
    · have hl : l = [] := (List.append_eq_nil_iff.mp h0').1
      have hn' : news = [] := (List.append_eq_nil_iff.mp h0').2
      have hv := Hnil.out.resolve_right (fun hn => hn hl)
      have h1 := Hnil'.out
      subst hl
      subst hn'
      simp only [Value.slice.injEq] at hv
      exact .inl (h1.mpr ⟨⟨hv.1, rfl, hv.2.2⟩, rfl⟩)
    · exact .inr h0'

/-! ### a number -/
theorem byte_new (w : World) (e : TypeId) (x : UInt8) (c : Int) (hx : c = (x.toNat : Int)) :
    ∀ j u, (bytesV [x])[j]? = some u → (w.alloc (.cells #[.int .u8 c] e)).cell? ((⟨w.heap.size, 0, none⟩ : Addr).add j) = some u := by
  subst hx
  exact cell_one_new w (.int .u8 x.toNat) e
theorem num8_at (n : Int) (j : Nat) (hj : j < 8) : IntKind.u64.wrap n / 2 ^ (56 - 8 * j) % 256 = (((num8 n)[j]'hj).toNat : Int) := by
  have hw : IntKind.u64.wrap n = n % 18446744073709551616 := by simp [IntKind.wrap, IntKind.bits, IntKind.signed]
  rw [hw]
  match j, hj with
  | 0, _ => simp [num8]; omega
  | 1, _ => simp [num8]; omega
  | 2, _ => simp [num8]; omega
  | 3, _ => simp [num8]; omega
  | 4, _ => simp [num8]; omega
  | 5, _ => simp [num8]; omega
  | 6, _ => simp [num8]; omega
  | 7, _ => simp [num8]; omega
theorem num8_next (n : Int) (j : Nat) (hj : j < 8) : (num8 n).take (j + 1) = (num8 n).take j ++ [(num8 n)[j]'hj] := by
  rw [List.take_succ_eq_append_getElem]; rfl
set_option maxHeartbeats 1000000 in
set_option maxRecDepth 1000000 in
theorem number_put {P : Nat → Prop} {wb : Nat} {w : World} {l : List UInt8} {n : Int} (h : Buf P wb w l) (hn : is63 n) (hlen : l.length + 8 ≤ lid) :
    Calls Tryz.prog 178 #[.pointer (some ⟨wb, 0, none⟩), .int .i64 n] w fun e w' => e = .returned (.tuple #[]) ∧ Buf P wb w' (l ++ num8 n) ∧ Keep P w w' := by
  have H := hide h
  unfold is63 at hn
  clear h
  go_enter Tryz.func178, Tryz.ntmps178
  go_wp2_with fail
  go_loopw [4] (fun s wr => ∃ j : Nat, j ≤ 8 ∧ s = .int .i64 (56 - 8 * (j : Int)) ∧ Hid (Buf P wb wr (l ++ (num8 n).take j)) ∧ Hid (Keep P w wr)) (fun s _ => (intOf s + 8).toNat)
  case atStart => exact ⟨0, by omega, rfl, hide (by simpa using H.out), hide (Keep.refl _ _)⟩
  case round =>
    obtain ⟨j, hj, rfl, HB, HW⟩ := hrel
    by_cases hlt : j < 8
    · go_wp2_with (go_at_call 176; refine (put_any (news := [(num8 n)[j]'hlt]) (HB.out.alloc _) (byte_new _ _ _ _ (num8_at n j hlt)) (by simp [num8_len]; omega)).mono ?_; rintro e w1 ⟨rfl, hb, hB⟩; have HB1 := hide hb; have HW1 := hide (HW.out.trans (((Keep.refl _ _).alloc HB.out.lts _).trans hB)); clear hb hB)
      go_roundw
      case rel => exact ⟨j + 1, by omega, by go_num, hide (by rw [num8_next n j hlt, ← List.append_assoc]; exact HB1.out), HW1⟩
      case measure => simp [intOf]; omega
    · go_wp2_with fail
      go_end0
      have hj8 : j = 8 := by omega
      subst hj8
      exact ⟨rfl, by have := HB.out; rwa [List.take_of_length_le (by rw [num8_len]; omega)] at this, HW.out⟩

end Go.Proofs.YtjjaojnglnpgaaaGreatDoor

namespace Go.Proofs.YtjjaojnglnpgaaaGreatDoor
open Go.RowKit

set_option maxHeartbeats 400000 in
theorem sameBytes_any {S S' : Nat → Prop} {A A' : Option Addr} {c c' : Nat} {l m : List UInt8} {w : World} (hl : BytesIn S w A l) (hm : BytesIn S' w A' m) :
    Calls Tryz.prog 66 #[.slice A l.length c, .slice A' m.length c'] w fun e w' => RetB (l = m) e ∧ ∃ n, w' = w.drewN n := by
  have hl3 := hl.2
  have hm3 := hm.2
  have Hl := hide hl.1
  have Hm := hide hm.1
  clear hl hm
  by_cases hn : l.length = m.length
  · have hd : ((l.length : Int) != (m.length : Int)) = false := by simp [hn]
    have Hn := hide hn
    clear hn
    go_enter Tryz.func66, Tryz.ntmps66
    go_wp2
    go_loopw [5] (fun i wr => ∃ k q : Nat, k ≤ l.length ∧ i = .int .i64 k ∧ wr = w.drewN q ∧ Hid (∀ j, j < k → l[j]? = m[j]?)) (fun i _ => l.length - (intOf i).toNat)
    case atStart => exact ⟨0, 0, Nat.zero_le _, rfl, rfl, hide (fun j h => absurd h (by omega))⟩
    case round =>
      obtain ⟨k, q, hk, rfl, rfl, hall⟩ := hrel
      by_cases hlt : k < l.length
      · obtain ⟨b, o, rfl, h1⟩ := Hl.out.at_ (j := k) (by simpa [bytesV] using hlt)
        obtain ⟨b', o', rfl, h2⟩ := Hm.out.at_ (j := k) (by have := Hn.out; simp [bytesV]; omega)
        simp only [bytesV, List.getElem_map] at h1 h2
        have hlt2 : k < m.length := by have := Hn.out; omega
        have e1 : l[k]? = some l[k] := by simp [hlt]
        have e2 : m[k]? = some m[k] := by simp [hlt2]
        have E1 := hide e1
        have E2 := hide e2
        clear e1 e2
        generalize l[k] = s at h1 E1
        generalize m[k] = s' at h2 E2
        go_wp2
        go_quiet (fail)
        go_wp2
        · have ht : ((s.toNat : Int) != (s'.toNat : Int)) = true := by assumption
          go_ret
          exact ⟨RetB.no (no_of_idx E1.out E2.out (by intro e; subst e; simp at ht)), _, World.drewN_drewN _ _ _⟩
        · have ht : ((s.toNat : Int) != (s'.toNat : Int)) = false := by assumption
          go_roundw
          case rel => exact ⟨k + 1, _, by omega, by go_num, rfl, hide (eq_step hall.out (by rw [E1.out, E2.out, (UInt8.toNat_inj.mp (by simp at ht; omega) : s = s')]))⟩
          case measure => simp [intOf]; omega
      · go_wp2
        go_ret
        exact ⟨RetB.yes (eq_done hall.out Hn.out hlt), _, rfl⟩
  · have hd : ((l.length : Int) != (m.length : Int)) = true := by simp; omega
    have Hn := hide hn
    clear hn
    go_enter Tryz.func66, Tryz.ntmps66
    go_wp2
    go_ret
    exact ⟨RetB.no (len_ne Hn.out), 0, rfl⟩


set_option maxHeartbeats 1000000 in
set_option maxRecDepth 1000000 in
theorem copyBytes_any {S : Nat → Prop} {A : Option Addr} {c : Nat} {l : List UInt8} {w : World} (hb : BytesIn S w A l) (hlen : l.length ≤ lid) :
    Calls Tryz.prog 74 #[.slice A l.length c] w fun e w' => ∃ v, e = .returned v ∧ w'.ownsRow 0 5 1 v l.length (bytesV l) ∧ (∀ g, v.ownBlock = some g → w.heap.size ≤ g) ∧ Below w.heap.size w w' := by
  obtain ⟨i0, hi, hz0, hz1, hz2⟩ := info_parts Tryu8
  rcases A with _ | a
  · have hl : l = [] := by
      rcases hb.1 with h | ⟨b, o, h, _⟩
      · simpa [bytesV] using h
      · cases h
    subst hl
    go_enter Tryz.func74, Tryz.ntmps74
    go_wp2_with fail
    go_ret
    exact ⟨_, rfl, World.ownsRow_nil _ _ _ _, by simp [Value.ownBlock], Below.refl _ _⟩
  · have hc : ∀ j u, (bytesV l)[j]? = some u → w.cell? (a.add j) = some u := by
      rcases hb.1 with h | ⟨b, o, h, _, hc⟩
      · rw [h]; intro j u hu; simp at hu
      · injection h with h
        subst h
        intro j u hu
        rw [Addr.add_lit]
        exact hc j u hu
    have Hc := hide hc
    clear hc hb
    go_enter Tryz.func74, Tryz.ntmps74
    go_wp2_with (at_builtin; refine wpList_append_own2 _ rfl _ _ 44 rfl 5 i0 (.int .u8 0) 1 1 Tryz.underlying44 hi hz0 hz1 hz2 rfl (by decide) (.slice none 0 0) 0 [] rfl (World.ownsRow_nil _ _ _ _) a l.length c (bytesV l) rfl (by simp [bytesV]) Hc.out (by intro u hu; simp [bytesV] at hu; obtain ⟨x, _, rfl⟩ := hu; rfl) (by unfold maxLen; simp only [lid] at hlen; omega) (by simp only [lid] at hlen; omega) ?_; intro v' w1 hown hgrow hnil hwhere)
    go_ret
    refine ⟨_, rfl, by simpa using hown, fun g hg => ?_, ((Below.refl _ w).grown hgrow (Nat.le_refl _) (by simp [Value.ownBlock]))⟩
    change v'.ownBlock = some g at hg
    rcases hwhere with e | e
    · rw [hg] at e; simp [Value.ownBlock] at e
    · rw [hg] at e; injection e with e; omega

end Go.Proofs.YtjjaojnglnpgaaaGreatDoor
