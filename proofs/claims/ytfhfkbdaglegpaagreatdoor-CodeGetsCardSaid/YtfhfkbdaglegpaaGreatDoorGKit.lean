/- The kit: are two rows of bytes the same; a number in a range; a copy of bytes. Printed by gen_kit.py. -/
import Derived.Test.YtfhfkbdaglegpaaGreatDoorGSame
import Derived.Test.YtfhfkbdaglegpaaGreatDoorGWrit

set_option linter.unusedVariables false
set_option linter.unusedSimpArgs false

namespace Go.Proofs.YtfhfkbdaglegpaaGreatDoor
open Go.RowKit

set_option maxHeartbeats 1000000 in
set_option maxRecDepth 1000000 in
theorem copyBytes_any {S : Nat → Prop} {A : Option Addr} {c : Nat} {l : List UInt8} {w : World} (hb : BytesIn S w A l) (hlen : l.length ≤ lid) :
    Calls Tryz.prog 22 #[.slice A l.length c] w fun e w' => ∃ v, e = .returned v ∧ w'.ownsRow 0 5 1 v l.length (bytesV l) ∧ (∀ g, v.ownBlock = some g → w.heap.size ≤ g) ∧ Below w.heap.size w w' := by
  obtain ⟨i0, hi, hz0, hz1, hz2⟩ := info_parts Tryu8
  rcases A with _ | a
  · have hl : l = [] := by
      rcases hb.1 with h | ⟨b, o, h, _⟩
      · simpa [bytesV] using h
      · cases h
    subst hl
    go_enter Tryz.func22, Tryz.ntmps22
    go_wp2_with fail
    go_ret
    exact ⟨_, rfl, World.ownsRow_nil _ _ _ _, by simp [Value.ownBlock], Below.refl _ _⟩
  · have hc : ∀ j u, (bytesV l)[j]? = some u → w.cell? (a.add j) = some u := by
      rcases hb.1 with h | ⟨b, o, h, _, hc⟩
      · rw [h]; intro j u hu; simp at hu
      · injection h with h
        subst h
        intro j u hu
        rw [Addr.add_lit]
        exact hc j u hu
    have Hc := hide hc
    clear hc hb
    go_enter Tryz.func22, Tryz.ntmps22
    go_wp2_with (at_builtin; refine wpList_append_own2 _ rfl _ _ 36 rfl 5 i0 (.int .u8 0) 1 1 Tryz.underlying36 hi hz0 hz1 hz2 rfl (by decide) (.slice none 0 0) 0 [] rfl (World.ownsRow_nil _ _ _ _) a l.length c (bytesV l) rfl (by simp [bytesV]) Hc.out (by intro u hu; simp [bytesV] at hu; obtain ⟨x, _, rfl⟩ := hu; rfl) (by unfold maxLen; simp only [lid] at hlen; omega) (by simp only [lid] at hlen; omega) ?_; intro v' w1 hown hgrow hnil hwhere)
    go_ret
    refine ⟨_, rfl, by simpa using hown, fun g hg => ?_, ((Below.refl _ w).grown hgrow (Nat.le_refl _) (by simp [Value.ownBlock]))⟩
    change v'.ownBlock = some g at hg
    rcases hwhere with e | e
    · rw [hg] at e; simp [Value.ownBlock] at e
    · rw [hg] at e; injection e with e; omega

end Go.Proofs.YtfhfkbdaglegpaaGreatDoor
