/- The kit: are two rows of bytes the same; a number in a range; a copy of bytes. Printed by gen_kit.py. -/
import Derived.Test.YtfhfkbdaglegpaaGreatDoorProg
import Derived.BigQuiet
import Derived.Deep.RegionWith
import Derived.Test.YtfhfkbdaglegpaaGreatDoorTSame
import Derived.Test.YtfhfkbdaglegpaaGreatDoorTWrit
import Derived.Test.YtfhfkbdaglegpaaGreatDoorTBase

set_option linter.unusedVariables false
set_option linter.unusedSimpArgs false

namespace Go.Proofs.YtfhfkbdaglegpaaGreatDoor
open Go.RowKit

set_option maxHeartbeats 400000 in
theorem sameBytes_any {S S' : Nat → Prop} {A A' : Option Addr} {c c' : Nat} {l m : List UInt8} {w : World} (hl : BytesIn S w A l) (hm : BytesIn S' w A' m) :
    Calls Tryz.prog 11 #[.slice A l.length c, .slice A' m.length c'] w fun e w' => RetB (l = m) e ∧ ∃ n, w' = w.drewN n := by
  have hl3 := hl.2
  have hm3 := hm.2
  have Hl := hide hl.1
  have Hm := hide hm.1
  clear hl hm
  by_cases hn : l.length = m.length
  · have hd : ((l.length : Int) != (m.length : Int)) = false := by simp [hn]
    have Hn := hide hn
    clear hn
    go_enter Tryz.func11, Tryz.ntmps11
    go_wp2
    go_loopw [5] (fun i wr => ∃ k q : Nat, k ≤ l.length ∧ i = .int .i64 k ∧ wr = w.drewN q ∧ Hid (∀ j, j < k → l[j]? = m[j]?)) (fun i _ => l.length - (intOf i).toNat)
    case atStart => exact ⟨0, 0, Nat.zero_le _, rfl, rfl, hide (fun j h => absurd h (by omega))⟩
    case round =>
      obtain ⟨k, q, hk, rfl, rfl, hall⟩ := hrel
      by_cases hlt : k < l.length
      · obtain ⟨b, o, rfl, h1⟩ := Hl.out.at_ (j := k) (by simpa [bytesV] using hlt)
        obtain ⟨b', o', rfl, h2⟩ := Hm.out.at_ (j := k) (by have := Hn.out; simp [bytesV]; omega)
        simp only [bytesV, List.getElem_map] at h1 h2
        have hlt2 : k < m.length := by have := Hn.out; omega
        have e1 : l[k]? = some l[k] := by simp [hlt]
        have e2 : m[k]? = some m[k] := by simp [hlt2]
        have E1 := hide e1
        have E2 := hide e2
        clear e1 e2
        generalize l[k] = s at h1 E1
        generalize m[k] = s' at h2 E2
        go_wp2
        go_quiet (fail)
        go_wp2
        · have ht : ((s.toNat : Int) != (s'.toNat : Int)) = true := by assumption
          go_ret
          exact ⟨RetB.no (no_of_idx E1.out E2.out (by intro e; subst e; simp at ht)), _, World.drewN_drewN _ _ _⟩
        · have ht : ((s.toNat : Int) != (s'.toNat : Int)) = false := by assumption
          go_roundw
          case rel => exact ⟨k + 1, _, by omega, by go_num, rfl, hide (eq_step hall.out (by rw [E1.out, E2.out, (UInt8.toNat_inj.mp (by simp at ht; omega) : s = s')]))⟩
          case measure => simp [intOf]; omega
      · go_wp2
        go_ret
        exact ⟨RetB.yes (eq_done hall.out Hn.out hlt), _, rfl⟩
  · have hd : ((l.length : Int) != (m.length : Int)) = true := by simp; omega
    have Hn := hide hn
    clear hn
    go_enter Tryz.func11, Tryz.ntmps11
    go_wp2
    go_ret
    exact ⟨RetB.no (len_ne Hn.out), 0, rfl⟩


set_option maxHeartbeats 1000000 in
set_option maxRecDepth 1000000 in
theorem copyBytes_any {S : Nat → Prop} {A : Option Addr} {c : Nat} {l : List UInt8} {w : World} (hb : BytesIn S w A l) (hlen : l.length ≤ lid) :
    Calls Tryz.prog 22 #[.slice A l.length c] w fun e w' => ∃ v, e = .returned v ∧ w'.ownsRow 0 5 1 v l.length (bytesV l) ∧ (∀ g, v.ownBlock = some g → w.heap.size ≤ g) ∧ Below w.heap.size w w' := by
  obtain ⟨i0, hi, hz0, hz1, hz2⟩ := info_parts Tryu8
  rcases A with _ | a
  · have hl : l = [] := by
      rcases hb.1 with h | ⟨b, o, h, _⟩
      · simpa [bytesV] using h
      · cases h
    subst hl
    go_enter Tryz.func22, Tryz.ntmps22
    go_wp2_with fail
    go_ret
    exact ⟨_, rfl, World.ownsRow_nil _ _ _ _, by simp [Value.ownBlock], Below.refl _ _⟩
  · have hc : ∀ j u, (bytesV l)[j]? = some u → w.cell? (a.add j) = some u := by
      rcases hb.1 with h | ⟨b, o, h, _, hc⟩
      · rw [h]; intro j u hu; simp at hu
      · injection h with h
        subst h
        intro j u hu
        rw [Addr.add_lit]
        exact hc j u hu
    have Hc := hide hc
    clear hc hb
    go_enter Tryz.func22, Tryz.ntmps22
    go_wp2_with (at_builtin; refine wpList_append_own2 _ rfl _ _ 36 rfl 5 i0 (.int .u8 0) 1 1 Tryz.underlying36 hi hz0 hz1 hz2 rfl (by decide) (.slice none 0 0) 0 [] rfl (World.ownsRow_nil _ _ _ _) a l.length c (bytesV l) rfl (by simp [bytesV]) Hc.out (by intro u hu; simp [bytesV] at hu; obtain ⟨x, _, rfl⟩ := hu; rfl) (by unfold maxLen; simp only [lid] at hlen; omega) (by simp only [lid] at hlen; omega) ?_; intro v' w1 hown hgrow hnil hwhere)
    go_ret
    refine ⟨_, rfl, by simpa using hown, fun g hg => ?_, ((Below.refl _ w).grown hgrow (Nat.le_refl _) (by simp [Value.ownBlock]))⟩
    change v'.ownBlock = some g at hg
    rcases hwhere with e | e
    · rw [hg] at e; simp [Value.ownBlock] at e
    · rw [hg] at e; injection e with e; omega

end Go.Proofs.YtfhfkbdaglegpaaGreatDoor

namespace Go.Proofs.YtfhfkbdaglegpaaGreatDoor
open Go.RowKit

def RetI (e : Ending) : Prop := ∃ r : Int, e = .returned (.int .i64 r) ∧ is63 r
theorem wrap_is (x : Int) : is63 (wrap64 x) := by unfold is63 wrap64; omega

/-- what texts count -/
def cnt : List ByteArray → Int → Int → Int
  | [], _, n => n
  | s :: r, m, n => if n ≤ m then cnt r m (wrap64 (n + wrap64 ((s.size : Int) / 8))) else n
theorem cnt_step {l : List ByteArray} {q : Nat} {m n r : Int} (hq : q < l.length) (h : cnt (l.drop q) m n = r) (hn : n ≤ m) : cnt (l.drop (q + 1)) m (wrap64 (n + wrap64 ((l[q].size : Int) / 8))) = r := by
  rw [List.drop_eq_getElem_cons hq] at h
  unfold cnt at h
  rwa [if_pos hn] at h
theorem cnt_stop {l : List ByteArray} {q : Nat} {m n r : Int} (h : cnt (l.drop q) m n = r) (hn : ¬ (q < l.length ∧ n ≤ m)) : n = r := by
  by_cases hq : q < l.length
  · rw [List.drop_eq_getElem_cons hq] at h
    unfold cnt at h
    rwa [if_neg (fun e => hn ⟨hq, e⟩)] at h
  · rw [List.drop_eq_nil_of_le (by omega)] at h
    exact h

set_option maxHeartbeats 1000000 in
set_option maxRecDepth 1000000 in
theorem textsOf_any {S : Nat → Prop} {A : Option Addr} {c : Nat} {l : List ByteArray} {w : World} {m : Int} (hl : StrsIn S w A l) :
    Calls Tryz.prog 24 #[.slice A l.length c, .int .i64 m] w fun e w' => e = .returned (.int .i64 (cnt l m l.length)) ∧ w = w' := by
  have Hl := hide hl
  have hlen : l.length ≤ 9223372036854775807 := hl.2.2
  clear hl
  go_enter Tryz.func24, Tryz.ntmps24
  go_wp2_with fail
  go_loopw [5, 6] (fun v i wr => ∃ (q : Nat) (n : Int), q ≤ l.length ∧ i = .int .i64 q ∧ v = .int .i64 n ∧ Hid (cnt (l.drop q) m n = cnt l m l.length) ∧ w = wr) (fun _ i _ => l.length - (intOf i).toNat)
  case atStart => exact ⟨0, l.length, Nat.zero_le _, rfl, rfl, hide rfl, rfl⟩
  case round =>
    obtain ⟨q, n, hq, rfl, rfl, Hn, rfl⟩ := hrel
    by_cases hlt : q < l.length
    · obtain ⟨b, o, rfl, hc⟩ := Hl.out.1.at_ (j := q) (by simpa using hlt)
      simp only [List.getElem_map] at hc
      by_cases hnm : n ≤ m
      · have Hs := hide (cnt_step hlt Hn.out hnm)
        go_wp2_with fail
        go_roundw
        case rel => exact ⟨q + 1, _, by omega, by go_num, rfl, Hs, (by first | rfl | trivial)⟩
        case measure => simp [intOf]; omega
      · have hs := hide (cnt_stop Hn.out (fun e => hnm e.2))
        go_wp2_with fail
        go_ret
        exact ⟨by rw [← hs.out]; rfl, rfl⟩
    · have hs := hide (cnt_stop Hn.out (fun e => hlt e.1))
      go_wp2_with fail
      go_ret
      exact ⟨by rw [← hs.out]; rfl, rfl⟩

set_option maxHeartbeats 2000000 in
set_option maxRecDepth 1000000 in
theorem nodesOf_upto (N : Nat) : ∀ (S : Nat → Prop) (k : Nat) (t : ByteArray) (n : Int) (A : Option Addr) (c : Nat) (ks : Fo) (m : Int) (w : World), ks.cnt < N → FoIn S w A ks → ks.len ≤ 9223372036854775807 → is63 m →
    Calls Tryz.prog 46 #[.agg #[.int .u8 k, .string t, .int .i64 n, .slice A ks.len c], .int .i64 m] w fun e w' => RetI e ∧ Below w.heap.size w w' := by
  induction N with
  | zero => intro S k t n A c ks m w h; omega
  | succ N ih =>
    intro S k t n A c ks m w hcnt hks hlen hm
    have Hks := hide hks
    have Hih := hide ih
    clear hks ih
    go_enter Tryz.func46, Tryz.ntmps46
    go_wp2_with fail
    go_loopw [5, 6] (fun v i wr => ∃ (q : Nat) (n : Int), q ≤ ks.len ∧ i = .int .i64 q ∧ v = .int .i64 n ∧ Hid (is63 n) ∧ Hid (Below w.heap.size w wr) ∧ w.heap.size < wr.heap.size ∧ wr.cell? ⟨w.heap.size, 3, none⟩ = some (.slice A ks.len c)) (fun _ i _ => ks.len - (intOf i).toNat)
    case atStart => exact ⟨0, _, Nat.zero_le _, rfl, rfl, hide (by first | exact wrap_is _ | (unfold is63; omega)), hide (below_alloc _ _), by simp, by simp⟩
    case round =>
      obtain ⟨q, n, hq, rfl, rfl, Hn, HB, hz, hc⟩ := hrel
      by_cases hlt : q < ks.len
      · obtain ⟨b, o, KA, c', k', t', n', ks', r, rfl, hd, c0, c1, c2, c3, e1, e2, e3, e4, e5, hks', hcn⟩ := (Hks.out.below HB.out).at_ hlt
        have Hks' := hide hks'
        clear hd e3 hks'
        go_wp2_with (go_at_call 46; (with_reducible refine (Hih.out S k' t' n' KA c' ks' _ _ (by omega) Hks'.out (by omega) (by first | exact wrap_is _ | (unfold is63; omega))).mono ?_); rintro e w2 ⟨⟨r2, rfl, hr2⟩, hB⟩; have HB2 := hide (HB.out.trans (hB.mono HB.out.size)); have hcell := (hB.cell (p := ⟨w.heap.size, 3, none⟩) hz).trans hc; have hz2 := Nat.lt_of_lt_of_le hz hB.size; clear hB)
        all_goals first
          | (go_ret; exact ⟨⟨_, rfl, Hn.out⟩, HB.out⟩)
          | (go_roundw
             case rel => exact ⟨q + 1, _, by omega, by go_num, rfl, hide (by first | exact wrap_is _ | (unfold is63; omega)), HB2, hz2, hcell⟩
             case measure => simp [intOf]; omega)
      · go_wp2_with fail
        all_goals (go_ret; exact ⟨⟨_, rfl, Hn.out⟩, HB.out⟩)

theorem nodesOf_any {S : Nat → Prop} {k : Nat} {t : ByteArray} {n : Int} {A : Option Addr} {c : Nat} {ks : Fo} {m : Int} {w : World} (h : FoIn S w A ks) (hl : ks.len ≤ 9223372036854775807) (hm : is63 m) :
    Calls Tryz.prog 46 #[.agg #[.int .u8 k, .string t, .int .i64 n, .slice A ks.len c], .int .i64 m] w fun e w' => RetI e ∧ Below w.heap.size w w' := nodesOf_upto (ks.cnt + 1) S k t n A c ks m w (by omega) h hl hm

set_option maxHeartbeats 4000000 in
set_option maxRecDepth 1000000 in
theorem editOf_any {S : Nat → Prop} {x : Eh} {e : Ed} {w : World} {m : Int} (he : EdIn S w x e) (hm : is63 m) :
    Calls Tryz.prog 25 #[.agg #[.int .u8 e.kind, .slice x.pA e.path.length x.pc, .int .i64 e.at_, .int .i64 e.far, .string e.frm, .string e.to, .slice x.oA e.old.len x.oc, .slice x.nA e.new.len x.nc], .int .i64 m] w fun e1 w' => RetI e1 ∧ Below w.heap.size w w' := by
  have Ho := hide he.old
  have Hn := hide he.new
  have hoc := he.oc
  have hnc := he.nc
  have hpc := he.pc
  clear he
  go_enter Tryz.func25, Tryz.ntmps25
  go_wp2_with fail
  go_loopw [5, 6] (fun v i wr => ∃ (q : Nat) (n : Int), q ≤ e.old.len ∧ i = .int .i64 q ∧ v = .int .i64 n ∧ Hid (is63 n) ∧ Hid (Below w.heap.size w wr) ∧ w.heap.size < wr.heap.size ∧ (∀ o, wr.cell? ⟨w.heap.size, o, none⟩ = (w.alloc (.cells #[.int .u8 e.kind, .slice x.pA e.path.length x.pc, .int .i64 e.at_, .int .i64 e.far, .string e.frm, .string e.to, .slice x.oA e.old.len x.oc, .slice x.nA e.new.len x.nc] 30)).cell? ⟨w.heap.size, o, none⟩)) (fun _ i _ => e.old.len - (intOf i).toNat)
  case atStart => exact ⟨0, _, Nat.zero_le _, rfl, rfl, hide (wrap_is _), hide (below_alloc _ _), by simp, fun o => rfl⟩
  case round =>
    obtain ⟨q, n, hq, rfl, rfl, Hn1, HB, hz, hc⟩ := hrel
    by_cases hlt : q < e.old.len
    · by_cases hnm : n ≤ m
      · skip
        obtain ⟨b, o, KA, c', k', t', n', ks', r, hA, hd, c0, c1, c2, c3, e1, e2, e3, e4, e5, hks', hcn⟩ := (Ho.out.below HB.out).at_ hlt
        have Hks' := hide hks'
        clear hd e3 hks'
        go_wp2_with (go_at_call 46; (with_reducible refine (nodesOf_any Hks'.out (by omega) (by first | exact wrap_is _ | (unfold is63; omega))).mono ?_); rintro e3 w2 ⟨⟨r2, rfl, hr2⟩, hB⟩; have HB3 := hide (HB.out.trans (hB.mono HB.out.size)); have hcell : ∀ o, w2.cell? ⟨w.heap.size, o, none⟩ = (w.alloc (.cells #[.int .u8 e.kind, .slice x.pA e.path.length x.pc, .int .i64 e.at_, .int .i64 e.far, .string e.frm, .string e.to, .slice x.oA e.old.len x.oc, .slice x.nA e.new.len x.nc] 30)).cell? ⟨w.heap.size, o, none⟩ := (fun o => (hB.cell (p := ⟨w.heap.size, o, none⟩) hz).trans (hc o)); have hz3 := Nat.lt_of_lt_of_le hz hB.size; clear hB)
        go_roundw
        case rel => exact ⟨_, .int .i64 ((q : Int) + 1), _, _, _, _, _, _, _, _, _, _, _, _, _, _, _, _, _, _, _, _, _, _, _, ⟨q + 1, wrap64 (n + r2), by omega, by go_num, rfl, hide (wrap_is _), HB3, hz3, hcell⟩, (by rw [hA])⟩
        case measure => simp [intOf]; omega
      · go_wp2_with fail
        go_loopw [5, 7] (fun v i wr => ∃ (q : Nat) (n : Int), q ≤ e.new.len ∧ i = .int .i64 q ∧ v = .int .i64 n ∧ Hid (is63 n) ∧ Hid (Below w.heap.size w wr) ∧ w.heap.size < wr.heap.size ∧ (∀ o, wr.cell? ⟨w.heap.size, o, none⟩ = (w.alloc (.cells #[.int .u8 e.kind, .slice x.pA e.path.length x.pc, .int .i64 e.at_, .int .i64 e.far, .string e.frm, .string e.to, .slice x.oA e.old.len x.oc, .slice x.nA e.new.len x.nc] 30)).cell? ⟨w.heap.size, o, none⟩)) (fun _ i _ => e.new.len - (intOf i).toNat)
        case atStart => exact ⟨0, _, Nat.zero_le _, rfl, rfl, Hn1, HB, hz, hc⟩
        case round =>
          clear HB hz hc Hn1
          obtain ⟨q, n, hq, rfl, rfl, Hn1, HB, hz, hc⟩ := hrel
          by_cases hlt : q < e.new.len
          · by_cases hnm : n ≤ m
            · skip
              obtain ⟨b, o, KA, c', k', t', n', ks', r, hA, hd, c0, c1, c2, c3, e1, e2, e3, e4, e5, hks', hcn⟩ := (Hn.out.below HB.out).at_ hlt
              have Hks' := hide hks'
              clear hd e3 hks'
              go_wp2_with (go_at_call 46; (with_reducible refine (nodesOf_any Hks'.out (by omega) (by first | exact wrap_is _ | (unfold is63; omega))).mono ?_); rintro e3 w2 ⟨⟨r2, rfl, hr2⟩, hB⟩; have HB3 := hide (HB.out.trans (hB.mono HB.out.size)); have hcell : ∀ o, w2.cell? ⟨w.heap.size, o, none⟩ = (w.alloc (.cells #[.int .u8 e.kind, .slice x.pA e.path.length x.pc, .int .i64 e.at_, .int .i64 e.far, .string e.frm, .string e.to, .slice x.oA e.old.len x.oc, .slice x.nA e.new.len x.nc] 30)).cell? ⟨w.heap.size, o, none⟩ := (fun o => (hB.cell (p := ⟨w.heap.size, o, none⟩) hz).trans (hc o)); have hz3 := Nat.lt_of_lt_of_le hz hB.size; clear hB)
              go_roundw
              case rel => exact ⟨_, .int .i64 ((q : Int) + 1), _, _, _, _, _, _, _, _, _, _, _, _, _, _, _, _, _, _, _, _, _, _, _, ⟨q + 1, wrap64 (n + r2), by omega, by go_num, rfl, hide (wrap_is _), HB3, hz3, hcell⟩, (by rw [hA])⟩
              case measure => simp [intOf]; omega
            · go_wp2_with fail
              all_goals (go_ret; exact ⟨⟨_, rfl, Hn1.out⟩, HB.out⟩)
          · go_wp2_with fail
            all_goals (go_ret; exact ⟨⟨_, rfl, Hn1.out⟩, HB.out⟩)
    · go_wp2_with fail
      go_loopw [5, 7] (fun v i wr => ∃ (q : Nat) (n : Int), q ≤ e.new.len ∧ i = .int .i64 q ∧ v = .int .i64 n ∧ Hid (is63 n) ∧ Hid (Below w.heap.size w wr) ∧ w.heap.size < wr.heap.size ∧ (∀ o, wr.cell? ⟨w.heap.size, o, none⟩ = (w.alloc (.cells #[.int .u8 e.kind, .slice x.pA e.path.length x.pc, .int .i64 e.at_, .int .i64 e.far, .string e.frm, .string e.to, .slice x.oA e.old.len x.oc, .slice x.nA e.new.len x.nc] 30)).cell? ⟨w.heap.size, o, none⟩)) (fun _ i _ => e.new.len - (intOf i).toNat)
      case atStart => exact ⟨0, _, Nat.zero_le _, rfl, rfl, Hn1, HB, hz, hc⟩
      case round =>
        clear HB hz hc Hn1
        obtain ⟨q, n, hq, rfl, rfl, Hn1, HB, hz, hc⟩ := hrel
        by_cases hlt : q < e.new.len
        · by_cases hnm : n ≤ m
          · skip
            obtain ⟨b, o, KA, c', k', t', n', ks', r, hA, hd, c0, c1, c2, c3, e1, e2, e3, e4, e5, hks', hcn⟩ := (Hn.out.below HB.out).at_ hlt
            have Hks' := hide hks'
            clear hd e3 hks'
            go_wp2_with (go_at_call 46; (with_reducible refine (nodesOf_any Hks'.out (by omega) (by first | exact wrap_is _ | (unfold is63; omega))).mono ?_); rintro e3 w2 ⟨⟨r2, rfl, hr2⟩, hB⟩; have HB3 := hide (HB.out.trans (hB.mono HB.out.size)); have hcell : ∀ o, w2.cell? ⟨w.heap.size, o, none⟩ = (w.alloc (.cells #[.int .u8 e.kind, .slice x.pA e.path.length x.pc, .int .i64 e.at_, .int .i64 e.far, .string e.frm, .string e.to, .slice x.oA e.old.len x.oc, .slice x.nA e.new.len x.nc] 30)).cell? ⟨w.heap.size, o, none⟩ := (fun o => (hB.cell (p := ⟨w.heap.size, o, none⟩) hz).trans (hc o)); have hz3 := Nat.lt_of_lt_of_le hz hB.size; clear hB)
            go_roundw
            case rel => exact ⟨_, .int .i64 ((q : Int) + 1), _, _, _, _, _, _, _, _, _, _, _, _, _, _, _, _, _, _, _, _, _, _, _, ⟨q + 1, wrap64 (n + r2), by omega, by go_num, rfl, hide (wrap_is _), HB3, hz3, hcell⟩, (by rw [hA])⟩
            case measure => simp [intOf]; omega
          · go_wp2_with fail
            all_goals (go_ret; exact ⟨⟨_, rfl, Hn1.out⟩, HB.out⟩)
        · go_wp2_with fail
          all_goals (go_ret; exact ⟨⟨_, rfl, Hn1.out⟩, HB.out⟩)

set_option maxHeartbeats 4000000 in
set_option maxRecDepth 1000000 in
theorem patchOf_any {S : Nat → Prop} {x : Ph} {p : Pt} {w : World} {m : Int} (hp : PtIn S w x p) (hm : is63 m) :
    Calls Tryz.prog 6 #[.agg #[.int .u8 p.kind, .string p.file, .string p.text, .int .i64 p.hunk.at_, .slice x.h.oA p.hunk.old.length x.h.oc, .slice x.h.nA p.hunk.new.length x.h.nc, .int .u8 p.edit.kind, .slice x.e.pA p.edit.path.length x.e.pc, .int .i64 p.edit.at_, .int .i64 p.edit.far, .string p.edit.frm, .string p.edit.to, .slice x.e.oA p.edit.old.len x.e.oc, .slice x.e.nA p.edit.new.len x.e.nc], .int .i64 m] w fun e1 w' => RetI e1 ∧ Below w.heap.size w w' := by
  have Hp := hide hp
  have Hm := hide hm
  clear hp hm
  go_enter Tryz.func6, Tryz.ntmps6
  go_wp2_with fail
  go_quiet ((go_at_call 24; first
    | ((with_reducible refine (textsOf_any (Hp.out.hunk.old.below (blw_drewN (below_alloc _ _) _)) ).mono ?_); rintro e2 w2 ⟨rfl, rfl⟩; exact ⟨rfl, _, rfl⟩)
    | ((with_reducible refine (textsOf_any (Hp.out.hunk.new.below (blw_drewN (below_alloc _ _) _)) ).mono ?_); rintro e3 w3 ⟨rfl, rfl⟩; exact ⟨rfl, _, rfl⟩)))
  go_wp2_with (go_at_call 25; (with_reducible refine (editOf_any (Hp.out.edit.below (blw_drewN (below_alloc _ _) _)) (wrap_is _)).mono ?_); rintro e4 w4 ⟨⟨r4, rfl, hr4⟩, hB⟩; have HB : Hid (Below w.heap.size w w4) := hide (blw_up (blw_drewN (below_alloc _ _) _) hB); clear hB)
  all_goals (go_ret; exact ⟨⟨_, rfl, wrap_is _⟩, (by first | exact HB.out | exact blw_drewN (below_alloc _ _) _)⟩)

end Go.Proofs.YtfhfkbdaglegpaaGreatDoor
