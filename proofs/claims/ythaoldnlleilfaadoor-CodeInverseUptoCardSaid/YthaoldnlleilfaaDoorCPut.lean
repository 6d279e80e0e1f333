/- Put: a patch's bytes. Printed by gen_put.py. -/
import Derived.Test.YthaoldnlleilfaaDoorCWrit2
import Derived.Test.YthaoldnlleilfaaDoorCPatRight
import Derived.Test.YthaoldnlleilfaaDoorCSame
import Derived.Test.YthaoldnlleilfaaDoorCWrit

set_option linter.unusedVariables false
set_option linter.unusedSimpArgs false

namespace Go.Proofs.YthaoldnlleilfaaDoor
open Go.RowKit

theorem buf_new {w : World} {t : TypeId} : Buf (fun b => b < w.heap.size) w.heap.size (w.alloc (.cells #[.slice none 0 0] t)) [] :=
  ⟨.slice none 0 0, by rw [World.cell?_alloc_new]; rfl, by simp, Nat.lt_irrefl _, fun k hk => by simp; omega, World.ownsRow_nil _ _ _ _, by simp [Value.ownBlock], .inl rfl⟩
/-- the bytes that were written, behind the writer -/
theorem Buf.bytes {P : Nat → Prop} {wb : Nat} {w : World} {l : List UInt8} (h : Buf P wb w l) : ∃ A c, w.cell? ⟨wb, 0, none⟩ = some (.slice A l.length c) ∧ BytesIn (fun b => ¬ P b) w A l ∧ l.length ≤ c ∧ c ≤ 9223372036854775807 := by
  obtain ⟨v, h0, _, _, _, h4, h5, _⟩ := h
  rcases h4.2 with ⟨rfl, hn⟩ | ⟨g, cap, cur, rfl, hb, hgg, hn, hc, _⟩
  · have : l = [] := List.eq_nil_of_length_eq_zero hn
    subst this
    exact ⟨_, _, h0, ⟨.inl rfl, by simp⟩, Nat.le_refl _, by omega⟩
  · have hc' : cap ≤ 9223372036854775807 := by unfold maxLen at hc; omega
    refine ⟨_, _, h0, ⟨.inr ⟨g, 0, rfl, (h5 g rfl).2, fun j u hu => ?_⟩, Nat.le_trans hn hc'⟩, hn, hc'⟩
    have := h4.cells (g := g) rfl j u hu
    rwa [Addr.add_lit] at this

set_option maxHeartbeats 4000000 in
set_option maxRecDepth 1000000 in
theorem put_get {S : Nat → Prop} {x : Ph} {p : Pt} {w : World} (hp : PtIn S w x p) (htab : TabOk w) (hsum : p.edit.frm.size + p.edit.to.size ≤ 9223372036854775807) (hlen : (ptB p).length ≤ lid) :
    Calls Tryd.prog 8 #[.agg #[.int .u8 p.kind, .string p.file, .string p.text, .int .i64 p.hunk.at_, .slice x.h.oA p.hunk.old.length x.h.oc, .slice x.h.nA p.hunk.new.length x.h.nc, .int .u8 p.edit.kind, .slice x.e.pA p.edit.path.length x.e.pc, .int .i64 p.edit.at_, .int .i64 p.edit.far, .string p.edit.frm, .string p.edit.to, .slice x.e.oA p.edit.old.len x.e.oc, .slice x.e.nA p.edit.new.len x.e.nc]] w fun e w' => Below w.heap.size w w' ∧
      ((PtOk p ∧ ∃ A c, e = .returned (.tuple #[.slice A (ptB p).length c, .int .i64 0]) ∧ BytesIn (fun b => w.heap.size ≤ b) w' A (ptB p) ∧ (ptB p).length ≤ c ∧ c ≤ 9223372036854775807) ∨
       (¬ PtOk p ∧ e = .returned (.tuple #[.slice none 0 0, .int .i64 4]))) := by
  have Hp := hide hp
  have Htab := hide htab
  clear hp htab
  go_enter Tryd.func8, Tryd.ntmps8
  go_wp2_with (first
    | (go_at_call 9; (with_reducible refine (patchRight_any (Hp.out.below (below_alloc _ _)) (Htab.out.below (below_alloc _ _)) hsum).mono ?_); rintro e1 w1 ⟨⟨_ | _, rfl, hb⟩, hB⟩ <;> (have Hok := hide hb; have HB : Hid (Below w.heap.size w w1) := hide (blw_up (below_alloc _ _) hB); obtain ⟨hc1, hf1, hz1⟩ := bbox (N := w.heap.size) hB (by simp); clear hb hB))
    | (go_at_call 20; (refine (patch_put (S := fun b => S b ∧ b < w.heap.size) buf_new ((Hp.out.mono (S' := fun b => S b ∧ b < w.heap.size) fun b h1 h2 => ⟨h2, h1⟩).below (HB.out.trans ((below_alloc _ _).mono HB.out.size))) (fun b hb => Nat.lt_trans hb.2 hz1) (by simpa using hlen)).mono ?_); rintro e2 w2 ⟨rfl, hb, hB⟩; obtain ⟨A, c, q0, q1, q2, q3⟩ := hb.bytes; have Hq := hide q1; have HB2 : Hid (Below w.heap.size w w2) := hide (HB.out.trans (((below_alloc _ _).mono HB.out.size).trans (hB.below.mono HB.out.size))); clear hb hB q1))
  · go_ret2
    exact ⟨HB.out, .inr ⟨fun h => absurd (Hok.out.mpr h) (by decide), rfl⟩⟩
  · go_ret2
    exact ⟨HB2.out, .inl ⟨Hok.out.mp trivial, A, c, rfl, Hq.out.mono fun b _ hb => by have := HB.out.size; omega, q2, q3⟩⟩

end Go.Proofs.YthaoldnlleilfaaDoor

namespace Go.Proofs.YthaoldnlleilfaaDoor
open Go.RowKit

set_option maxHeartbeats 400000 in
theorem sameBytes_any {S S' : Nat → Prop} {A A' : Option Addr} {c c' : Nat} {l m : List UInt8} {w : World} (hl : BytesIn S w A l) (hm : BytesIn S' w A' m) :
    Calls Tryd.prog 10 #[.slice A l.length c, .slice A' m.length c'] w fun e w' => RetB (l = m) e ∧ ∃ n, w' = w.drewN n := by
  have hl3 := hl.2
  have hm3 := hm.2
  have Hl := hide hl.1
  have Hm := hide hm.1
  clear hl hm
  by_cases hn : l.length = m.length
  · have hd : ((l.length : Int) != (m.length : Int)) = false := by simp [hn]
    have Hn := hide hn
    clear hn
    go_enter Tryd.func10, Tryd.ntmps10
    go_wp2
    go_loopw [5] (fun i wr => ∃ k q : Nat, k ≤ l.length ∧ i = .int .i64 k ∧ wr = w.drewN q ∧ Hid (∀ j, j < k → l[j]? = m[j]?)) (fun i _ => l.length - (intOf i).toNat)
    case atStart => exact ⟨0, 0, Nat.zero_le _, rfl, rfl, hide (fun j h => absurd h (by omega))⟩
    case round =>
      obtain ⟨k, q, hk, rfl, rfl, hall⟩ := hrel
      by_cases hlt : k < l.length
      · obtain ⟨b, o, rfl, h1⟩ := Hl.out.at_ (j := k) (by simpa [bytesV] using hlt)
        obtain ⟨b', o', rfl, h2⟩ := Hm.out.at_ (j := k) (by have := Hn.out; simp [bytesV]; omega)
        simp only [bytesV, List.getElem_map] at h1 h2
        have hlt2 : k < m.length := by have := Hn.out; omega
        have e1 : l[k]? = some l[k] := by simp [hlt]
        have e2 : m[k]? = some m[k] := by simp [hlt2]
        have E1 := hide e1
        have E2 := hide e2
        clear e1 e2
        generalize l[k] = s at h1 E1
        generalize m[k] = s' at h2 E2
        go_wp2
        go_quiet (fail)
        go_wp2
        · have ht : ((s.toNat : Int) != (s'.toNat : Int)) = true := by assumption
          go_ret
          exact ⟨RetB.no (no_of_idx E1.out E2.out (by intro e; subst e; simp at ht)), _, World.drewN_drewN _ _ _⟩
        · have ht : ((s.toNat : Int) != (s'.toNat : Int)) = false := by assumption
          go_roundw
          case rel => exact ⟨k + 1, _, by omega, by go_num, rfl, hide (eq_step hall.out (by rw [E1.out, E2.out, (UInt8.toNat_inj.mp (by simp at ht; omega) : s = s')]))⟩
          case measure => simp [intOf]; omega
      · go_wp2
        go_ret
        exact ⟨RetB.yes (eq_done hall.out Hn.out hlt), _, rfl⟩
  · have hd : ((l.length : Int) != (m.length : Int)) = true := by simp; omega
    have Hn := hide hn
    clear hn
    go_enter Tryd.func10, Tryd.ntmps10
    go_wp2
    go_ret
    exact ⟨RetB.no (len_ne Hn.out), 0, rfl⟩


theorem pick_any (x n : Int) (w : World) (hx : is63 x) (hn : is63 n) : Calls Tryd.prog 12 #[.int .i64 x, .int .i64 n] w fun e w' => (∃ r : Int, e = .returned (.int .i64 r) ∧ 0 ≤ r ∧ (n < 1 → r = 0) ∧ (1 ≤ n → r < n)) ∧ w = w' := by
  unfold is63 at hx hn
  go_enter Tryd.func12, Tryd.ntmps12
  by_cases h1 : n < 1
  · go_wp2_with fail
    go_ret
    exact ⟨⟨0, rfl, by omega, fun _ => rfl, fun h => by omega⟩, rfl⟩
  · have hm1 := Int.tmod_lt_of_pos x (show 0 < n by omega)
    have hm2 := Int.lt_tmod_of_pos x (show 0 < n by omega)
    have h0 : ¬ n = 0 := by omega
    go_wp2_with fail
    all_goals (go_ret; exact ⟨⟨_, rfl, by omega, fun h => by omega, by omega⟩, rfl⟩)

set_option maxHeartbeats 1000000 in
set_option maxRecDepth 1000000 in
theorem copyBytes_any {S : Nat → Prop} {A : Option Addr} {c : Nat} {l : List UInt8} {w : World} (hb : BytesIn S w A l) (hlen : l.length ≤ lid) :
    Calls Tryd.prog 13 #[.slice A l.length c] w fun e w' => ∃ v, e = .returned v ∧ w'.ownsRow 0 5 1 v l.length (bytesV l) ∧ (∀ g, v.ownBlock = some g → w.heap.size ≤ g) ∧ Below w.heap.size w w' := by
  obtain ⟨i0, hi, hz0, hz1, hz2⟩ := info_parts Tryu8
  rcases A with _ | a
  · have hl : l = [] := by
      rcases hb.1 with h | ⟨b, o, h, _⟩
      · simpa [bytesV] using h
      · cases h
    subst hl
    go_enter Tryd.func13, Tryd.ntmps13
    go_wp2_with fail
    go_ret
    exact ⟨_, rfl, World.ownsRow_nil _ _ _ _, by simp [Value.ownBlock], Below.refl _ _⟩
  · have hc : ∀ j u, (bytesV l)[j]? = some u → w.cell? (a.add j) = some u := by
      rcases hb.1 with h | ⟨b, o, h, _, hc⟩
      · rw [h]; intro j u hu; simp at hu
      · injection h with h
        subst h
        intro j u hu
        rw [Addr.add_lit]
        exact hc j u hu
    have Hc := hide hc
    clear hc hb
    go_enter Tryd.func13, Tryd.ntmps13
    go_wp2_with (at_builtin; refine wpList_append_own2 _ rfl _ _ 33 rfl 5 i0 (.int .u8 0) 1 1 Tryd.underlying33 hi hz0 hz1 hz2 rfl (by decide) (.slice none 0 0) 0 [] rfl (World.ownsRow_nil _ _ _ _) a l.length c (bytesV l) rfl (by simp [bytesV]) Hc.out (by intro u hu; simp [bytesV] at hu; obtain ⟨x, _, rfl⟩ := hu; rfl) (by unfold maxLen; simp only [lid] at hlen; omega) (by simp only [lid] at hlen; omega) ?_; intro v' w1 hown hgrow hnil hwhere)
    go_ret
    refine ⟨_, rfl, by simpa using hown, fun g hg => ?_, ((Below.refl _ w).grown hgrow (Nat.le_refl _) (by simp [Value.ownBlock]))⟩
    change v'.ownBlock = some g at hg
    rcases hwhere with e | e
    · rw [hg] at e; simp [Value.ownBlock] at e
    · rw [hg] at e; injection e with e; omega

end Go.Proofs.YthaoldnlleilfaaDoor
