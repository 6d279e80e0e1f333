/- The kit's counters: they answer, and turn nothing. Printed by gen_count.py. -/
import Derived.Test.YtadilmijppdpoaaGreatDoorProg
import Derived.BigQuiet
import Derived.Deep.RegionWith
import Derived.Deep.RegionHeld
import Derived.Test.YtadilmijppdpoaaGreatDoorTBase

set_option linter.unusedVariables false
set_option linter.unusedSimpArgs false

namespace Go.Proofs.YtadilmijppdpoaaGreatDoor
open Go.RowKit

def RetI (e : Ending) : Prop := ∃ r : Int, e = .returned (.int .i64 r) ∧ is63 r
theorem wrap_is (x : Int) : is63 (wrap64 x) := by unfold is63 wrap64; omega

/-- what texts count -/
def cnt : List ByteArray → Int → Int → Int
  | [], _, n => n
  | s :: r, m, n => if n ≤ m then cnt r m (wrap64 (n + wrap64 ((s.size : Int) / 8))) else n
theorem cnt_is : ∀ (l : List ByteArray) (m n : Int), is63 n → is63 (cnt l m n) := by
  intro l
  induction l with
  | nil => intro m n h; exact h
  | cons s r ih =>
    intro m n h
    unfold cnt
    split
    · exact ih _ _ (wrap_is _)
    · exact h
theorem cnt_step {l : List ByteArray} {q : Nat} {m n r : Int} (hq : q < l.length) (h : cnt (l.drop q) m n = r) (hn : n ≤ m) : cnt (l.drop (q + 1)) m (wrap64 (n + wrap64 ((l[q].size : Int) / 8))) = r := by
  rw [List.drop_eq_getElem_cons hq] at h
  unfold cnt at h
  rwa [if_pos hn] at h
theorem cnt_stop {l : List ByteArray} {q : Nat} {m n r : Int} (h : cnt (l.drop q) m n = r) (hn : ¬ (q < l.length ∧ n ≤ m)) : n = r := by
  by_cases hq : q < l.length
  · rw [List.drop_eq_getElem_cons hq] at h
    unfold cnt at h
    rwa [if_neg (fun e => hn ⟨hq, e⟩)] at h
  · rw [List.drop_eq_nil_of_le (by omega)] at h
    exact h

set_option maxHeartbeats 1000000 in
set_option maxRecDepth 1000000 in
theorem textsOf_any {S : Nat → Prop} {A : Option Addr} {c : Nat} {l : List ByteArray} {w : World} {m : Int} (hl : StrsIn S w A l) :
    Calls Tryz.prog 25 #[.slice A l.length c, .int .i64 m] w fun e w' => e = .returned (.int .i64 (cnt l m l.length)) ∧ w = w' := by
  have Hl := hide hl
  have hlen : l.length ≤ 9223372036854775807 := hl.2.2
  clear hl
  go_enter Tryz.func25, Tryz.ntmps25
  go_wp2_with fail
  go_loopw [5, 6] (fun v i wr => ∃ (q : Nat) (n : Int), q ≤ l.length ∧ i = .int .i64 q ∧ v = .int .i64 n ∧ Hid (cnt (l.drop q) m n = cnt l m l.length) ∧ w = wr) (fun _ i _ => l.length - (intOf i).toNat)
  case atStart => exact ⟨0, l.length, Nat.zero_le _, rfl, rfl, hide rfl, rfl⟩
  case round =>
    obtain ⟨q, n, hq, rfl, rfl, Hn, rfl⟩ := hrel
    by_cases hlt : q < l.length
    · obtain ⟨b, o, rfl, hc⟩ := Hl.out.1.at_ (j := q) (by simpa using hlt)
      simp only [List.getElem_map] at hc
      by_cases hnm : n ≤ m
      · have Hs := hide (cnt_step hlt Hn.out hnm)
        go_wp2_with fail
        go_roundw
        case rel => exact ⟨q + 1, _, by omega, by go_num, rfl, Hs, (by first | rfl | trivial)⟩
        case measure => simp [intOf]; omega
      · have hs := hide (cnt_stop Hn.out (fun e => hnm e.2))
        go_wp2_with fail
        go_ret
        exact ⟨by rw [← hs.out]; rfl, rfl⟩
    · have hs := hide (cnt_stop Hn.out (fun e => hlt e.1))
      go_wp2_with fail
      go_ret
      exact ⟨by rw [← hs.out]; rfl, rfl⟩

set_option maxHeartbeats 2000000 in
set_option maxRecDepth 1000000 in
theorem nodesOf_upto (N : Nat) : ∀ (S : Nat → Prop) (k : Nat) (t : ByteArray) (n : Int) (A : Option Addr) (c : Nat) (ks : Fo) (m : Int) (w : World), ks.cnt < N → FoIn S w A ks → ks.len ≤ 9223372036854775807 → is63 m →
    Calls Tryz.prog 46 #[.agg #[.int .u8 k, .string t, .int .i64 n, .slice A ks.len c], .int .i64 m] w fun e w' => RetI e ∧ Below w.heap.size w w' := by
  induction N with
  | zero => intro S k t n A c ks m w h; omega
  | succ N ih =>
    intro S k t n A c ks m w hcnt hks hlen hm
    have Hks := hide hks
    have Hih := hide ih
    clear hks ih
    go_enter Tryz.func46, Tryz.ntmps46
    go_wp2_with fail
    go_loopw [5, 6] (fun v i wr => ∃ (q : Nat) (n : Int), q ≤ ks.len ∧ i = .int .i64 q ∧ v = .int .i64 n ∧ Hid (is63 n) ∧ Hid (Below w.heap.size w wr) ∧ w.heap.size < wr.heap.size ∧ wr.cell? ⟨w.heap.size, 3, none⟩ = some (.slice A ks.len c)) (fun _ i _ => ks.len - (intOf i).toNat)
    case atStart => exact ⟨0, _, Nat.zero_le _, rfl, rfl, hide (by first | exact wrap_is _ | (unfold is63; omega)), hide (below_alloc _ _), by simp, by simp⟩
    case round =>
      obtain ⟨q, n, hq, rfl, rfl, Hn, HB, hz, hc⟩ := hrel
      by_cases hlt : q < ks.len
      · obtain ⟨b, o, KA, c', k', t', n', ks', r, rfl, hd, c0, c1, c2, c3, e1, e2, e3, e4, e5, hks', hcn⟩ := (Hks.out.below HB.out).at_ hlt
        have Hks' := hide hks'
        clear hd e3 hks'
        go_wp2_with (go_at_call 46; (with_reducible refine (Hih.out S k' t' n' KA c' ks' _ _ (by omega) Hks'.out (by omega) (by first | exact wrap_is _ | (unfold is63; omega))).mono ?_); rintro e w2 ⟨⟨r2, rfl, hr2⟩, hB⟩; have HB2 := hide (HB.out.trans (hB.mono HB.out.size)); have hcell := (hB.cell (p := ⟨w.heap.size, 3, none⟩) hz).trans hc; have hz2 := Nat.lt_of_lt_of_le hz hB.size; clear hB)
        all_goals first
          | (go_ret; exact ⟨⟨_, rfl, Hn.out⟩, HB.out⟩)
          | (go_roundw
             case rel => exact ⟨q + 1, _, by omega, by go_num, rfl, hide (by first | exact wrap_is _ | (unfold is63; omega)), HB2, hz2, hcell⟩
             case measure => simp [intOf]; omega)
      · go_wp2_with fail
        all_goals (go_ret; exact ⟨⟨_, rfl, Hn.out⟩, HB.out⟩)

theorem nodesOf_any {S : Nat → Prop} {k : Nat} {t : ByteArray} {n : Int} {A : Option Addr} {c : Nat} {ks : Fo} {m : Int} {w : World} (h : FoIn S w A ks) (hl : ks.len ≤ 9223372036854775807) (hm : is63 m) :
    Calls Tryz.prog 46 #[.agg #[.int .u8 k, .string t, .int .i64 n, .slice A ks.len c], .int .i64 m] w fun e w' => RetI e ∧ Below w.heap.size w w' := nodesOf_upto (ks.cnt + 1) S k t n A c ks m w (by omega) h hl hm

set_option maxHeartbeats 4000000 in
set_option maxRecDepth 1000000 in
theorem editOf_any {S : Nat → Prop} {x : Eh} {e : Ed} {w : World} {m : Int} (he : EdIn S w x e) (hm : is63 m) :
    Calls Tryz.prog 26 #[.agg #[.int .u8 e.kind, .slice x.pA e.path.length x.pc, .int .i64 e.at_, .int .i64 e.far, .string e.frm, .string e.to, .slice x.oA e.old.len x.oc, .slice x.nA e.new.len x.nc], .int .i64 m] w fun e1 w' => RetI e1 ∧ Below w.heap.size w w' := by
  have Ho := hide he.old
  have Hn := hide he.new
  have hoc := he.oc
  have hnc := he.nc
  have hpc := he.pc
  clear he
  go_enter Tryz.func26, Tryz.ntmps26
  go_wp2_with fail
  go_loopw [5, 6] (fun v i wr => ∃ (q : Nat) (n : Int), q ≤ e.old.len ∧ i = .int .i64 q ∧ v = .int .i64 n ∧ Hid (is63 n) ∧ Hid (Below w.heap.size w wr) ∧ w.heap.size < wr.heap.size ∧ (∀ o, wr.cell? ⟨w.heap.size, o, none⟩ = (w.alloc (.cells #[.int .u8 e.kind, .slice x.pA e.path.length x.pc, .int .i64 e.at_, .int .i64 e.far, .string e.frm, .string e.to, .slice x.oA e.old.len x.oc, .slice x.nA e.new.len x.nc] 35)).cell? ⟨w.heap.size, o, none⟩)) (fun _ i _ => e.old.len - (intOf i).toNat)
  case atStart => exact ⟨0, _, Nat.zero_le _, rfl, rfl, hide (wrap_is _), hide (below_alloc _ _), by simp, fun o => rfl⟩
  case round =>
    obtain ⟨q, n, hq, rfl, rfl, Hn1, HB, hz, hc⟩ := hrel
    by_cases hlt : q < e.old.len
    · by_cases hnm : n ≤ m
      · skip
        obtain ⟨b, o, KA, c', k', t', n', ks', r, hA, hd, c0, c1, c2, c3, e1, e2, e3, e4, e5, hks', hcn⟩ := (Ho.out.below HB.out).at_ hlt
        have Hks' := hide hks'
        clear hd e3 hks'
        go_wp2_with (go_at_call 46; (with_reducible refine (nodesOf_any Hks'.out (by omega) (by first | exact wrap_is _ | (unfold is63; omega))).mono ?_); rintro e3 w2 ⟨⟨r2, rfl, hr2⟩, hB⟩; have HB3 := hide (HB.out.trans (hB.mono HB.out.size)); have hcell : ∀ o, w2.cell? ⟨w.heap.size, o, none⟩ = (w.alloc (.cells #[.int .u8 e.kind, .slice x.pA e.path.length x.pc, .int .i64 e.at_, .int .i64 e.far, .string e.frm, .string e.to, .slice x.oA e.old.len x.oc, .slice x.nA e.new.len x.nc] 35)).cell? ⟨w.heap.size, o, none⟩ := (fun o => (hB.cell (p := ⟨w.heap.size, o, none⟩) hz).trans (hc o)); have hz3 := Nat.lt_of_lt_of_le hz hB.size; clear hB)
        go_roundw
        case rel => exact ⟨_, .int .i64 ((q : Int) + 1), _, _, _, _, _, _, _, _, _, _, _, _, _, _, _, _, _, _, _, _, _, _, _, ⟨q + 1, wrap64 (n + r2), by omega, by go_num, rfl, hide (wrap_is _), HB3, hz3, hcell⟩, (by rw [hA])⟩
        case measure => simp [intOf]; omega
      · go_wp2_with fail
        go_loopw [5, 7] (fun v i wr => ∃ (q : Nat) (n : Int), q ≤ e.new.len ∧ i = .int .i64 q ∧ v = .int .i64 n ∧ Hid (is63 n) ∧ Hid (Below w.heap.size w wr) ∧ w.heap.size < wr.heap.size ∧ (∀ o, wr.cell? ⟨w.heap.size, o, none⟩ = (w.alloc (.cells #[.int .u8 e.kind, .slice x.pA e.path.length x.pc, .int .i64 e.at_, .int .i64 e.far, .string e.frm, .string e.to, .slice x.oA e.old.len x.oc, .slice x.nA e.new.len x.nc] 35)).cell? ⟨w.heap.size, o, none⟩)) (fun _ i _ => e.new.len - (intOf i).toNat)
        case atStart => exact ⟨0, _, Nat.zero_le _, rfl, rfl, Hn1, HB, hz, hc⟩
        case round =>
          clear HB hz hc Hn1
          obtain ⟨q, n, hq, rfl, rfl, Hn1, HB, hz, hc⟩ := hrel
          by_cases hlt : q < e.new.len
          · by_cases hnm : n ≤ m
            · skip
              obtain ⟨b, o, KA, c', k', t', n', ks', r, hA, hd, c0, c1, c2, c3, e1, e2, e3, e4, e5, hks', hcn⟩ := (Hn.out.below HB.out).at_ hlt
              have Hks' := hide hks'
              clear hd e3 hks'
              go_wp2_with (go_at_call 46; (with_reducible refine (nodesOf_any Hks'.out (by omega) (by first | exact wrap_is _ | (unfold is63; omega))).mono ?_); rintro e3 w2 ⟨⟨r2, rfl, hr2⟩, hB⟩; have HB3 := hide (HB.out.trans (hB.mono HB.out.size)); have hcell : ∀ o, w2.cell? ⟨w.heap.size, o, none⟩ = (w.alloc (.cells #[.int .u8 e.kind, .slice x.pA e.path.length x.pc, .int .i64 e.at_, .int .i64 e.far, .string e.frm, .string e.to, .slice x.oA e.old.len x.oc, .slice x.nA e.new.len x.nc] 35)).cell? ⟨w.heap.size, o, none⟩ := (fun o => (hB.cell (p := ⟨w.heap.size, o, none⟩) hz).trans (hc o)); have hz3 := Nat.lt_of_lt_of_le hz hB.size; clear hB)
              go_roundw
              case rel => exact ⟨_, .int .i64 ((q : Int) + 1), _, _, _, _, _, _, _, _, _, _, _, _, _, _, _, _, _, _, _, _, _, _, _, ⟨q + 1, wrap64 (n + r2), by omega, by go_num, rfl, hide (wrap_is _), HB3, hz3, hcell⟩, (by rw [hA])⟩
              case measure => simp [intOf]; omega
            · go_wp2_with fail
              all_goals (go_ret; exact ⟨⟨_, rfl, Hn1.out⟩, HB.out⟩)
          · go_wp2_with fail
            all_goals (go_ret; exact ⟨⟨_, rfl, Hn1.out⟩, HB.out⟩)
    · go_wp2_with fail
      go_loopw [5, 7] (fun v i wr => ∃ (q : Nat) (n : Int), q ≤ e.new.len ∧ i = .int .i64 q ∧ v = .int .i64 n ∧ Hid (is63 n) ∧ Hid (Below w.heap.size w wr) ∧ w.heap.size < wr.heap.size ∧ (∀ o, wr.cell? ⟨w.heap.size, o, none⟩ = (w.alloc (.cells #[.int .u8 e.kind, .slice x.pA e.path.length x.pc, .int .i64 e.at_, .int .i64 e.far, .string e.frm, .string e.to, .slice x.oA e.old.len x.oc, .slice x.nA e.new.len x.nc] 35)).cell? ⟨w.heap.size, o, none⟩)) (fun _ i _ => e.new.len - (intOf i).toNat)
      case atStart => exact ⟨0, _, Nat.zero_le _, rfl, rfl, Hn1, HB, hz, hc⟩
      case round =>
        clear HB hz hc Hn1
        obtain ⟨q, n, hq, rfl, rfl, Hn1, HB, hz, hc⟩ := hrel
        by_cases hlt : q < e.new.len
        · by_cases hnm : n ≤ m
          · skip
            obtain ⟨b, o, KA, c', k', t', n', ks', r, hA, hd, c0, c1, c2, c3, e1, e2, e3, e4, e5, hks', hcn⟩ := (Hn.out.below HB.out).at_ hlt
            have Hks' := hide hks'
            clear hd e3 hks'
            go_wp2_with (go_at_call 46; (with_reducible refine (nodesOf_any Hks'.out (by omega) (by first | exact wrap_is _ | (unfold is63; omega))).mono ?_); rintro e3 w2 ⟨⟨r2, rfl, hr2⟩, hB⟩; have HB3 := hide (HB.out.trans (hB.mono HB.out.size)); have hcell : ∀ o, w2.cell? ⟨w.heap.size, o, none⟩ = (w.alloc (.cells #[.int .u8 e.kind, .slice x.pA e.path.length x.pc, .int .i64 e.at_, .int .i64 e.far, .string e.frm, .string e.to, .slice x.oA e.old.len x.oc, .slice x.nA e.new.len x.nc] 35)).cell? ⟨w.heap.size, o, none⟩ := (fun o => (hB.cell (p := ⟨w.heap.size, o, none⟩) hz).trans (hc o)); have hz3 := Nat.lt_of_lt_of_le hz hB.size; clear hB)
            go_roundw
            case rel => exact ⟨_, .int .i64 ((q : Int) + 1), _, _, _, _, _, _, _, _, _, _, _, _, _, _, _, _, _, _, _, _, _, _, _, ⟨q + 1, wrap64 (n + r2), by omega, by go_num, rfl, hide (wrap_is _), HB3, hz3, hcell⟩, (by rw [hA])⟩
            case measure => simp [intOf]; omega
          · go_wp2_with fail
            all_goals (go_ret; exact ⟨⟨_, rfl, Hn1.out⟩, HB.out⟩)
        · go_wp2_with fail
          all_goals (go_ret; exact ⟨⟨_, rfl, Hn1.out⟩, HB.out⟩)

set_option maxHeartbeats 4000000 in
set_option maxRecDepth 1000000 in
theorem patchOf_any {S : Nat → Prop} {x : Ph} {p : Pt} {w : World} {m : Int} (hp : PtIn S w x p) (hm : is63 m) :
    Calls Tryz.prog 13 #[.agg #[.int .u8 p.kind, .string p.file, .string p.text, .int .i64 p.hunk.at_, .slice x.h.oA p.hunk.old.length x.h.oc, .slice x.h.nA p.hunk.new.length x.h.nc, .int .u8 p.edit.kind, .slice x.e.pA p.edit.path.length x.e.pc, .int .i64 p.edit.at_, .int .i64 p.edit.far, .string p.edit.frm, .string p.edit.to, .slice x.e.oA p.edit.old.len x.e.oc, .slice x.e.nA p.edit.new.len x.e.nc], .int .i64 m] w fun e1 w' => RetI e1 ∧ Below w.heap.size w w' := by
  have Hp := hide hp
  have Hm := hide hm
  clear hp hm
  go_enter Tryz.func13, Tryz.ntmps13
  go_wp2_with fail
  go_quiet ((go_at_call 25; first
    | ((with_reducible refine (textsOf_any (Hp.out.hunk.old.below (blw_drewN (below_alloc _ _) _)) ).mono ?_); rintro e2 w2 ⟨rfl, rfl⟩; exact ⟨rfl, _, rfl⟩)
    | ((with_reducible refine (textsOf_any (Hp.out.hunk.new.below (blw_drewN (below_alloc _ _) _)) ).mono ?_); rintro e3 w3 ⟨rfl, rfl⟩; exact ⟨rfl, _, rfl⟩)))
  go_wp2_with (go_at_call 26; (with_reducible refine (editOf_any (Hp.out.edit.below (blw_drewN (below_alloc _ _) _)) (wrap_is _)).mono ?_); rintro e4 w4 ⟨⟨r4, rfl, hr4⟩, hB⟩; have HB : Hid (Below w.heap.size w w4) := hide (blw_up (blw_drewN (below_alloc _ _) _) hB); clear hB)
  all_goals (go_ret; exact ⟨⟨_, rfl, wrap_is _⟩, (by first | exact HB.out | exact blw_drewN (below_alloc _ _) _)⟩)

end Go.Proofs.YtadilmijppdpoaaGreatDoor

namespace Go.Proofs.YtadilmijppdpoaaGreatDoor
open Go.RowKit

theorem wrap_i63 (x : Int) : is63 (IntKind.i64.wrap x) := by
  rw [IntKind.wrap_i64]
  unfold is63
  omega

set_option maxHeartbeats 4000000 in
set_option maxRecDepth 1000000 in
theorem namedOf_any {S : Nat → Prop} {A : Option Addr} {c : Nat} {l : List Nd} {w : World} {m : Int} (h : NdIn S w A l) (hm : is63 m) (hl : l.length ≤ 9223372036854775807) :
    Calls Tryz.prog 5 #[.slice A l.length c, .int .i64 m] w fun e w' => RetI e ∧ Below w.heap.size w w' := by
  have H := hide h
  clear h
  go_enter Tryz.func5, Tryz.ntmps5
  go_wp2_with fail
  go_loopw [5, 6] (fun v i wr => ∃ (q : Nat) (n : Int), q ≤ l.length ∧ i = .int .i64 q ∧ v = .int .i64 n ∧ Hid (is63 n) ∧ Hid (Below w.heap.size w wr)) (fun _ i _ => l.length - (intOf i).toNat)
  case atStart => exact ⟨0, 0, Nat.zero_le _, rfl, rfl, hide (by unfold is63; omega), hide (Below.refl _ _)⟩
  case round =>
    obtain ⟨q, n, hq, rfl, rfl, Hn, HB⟩ := hrel
    by_cases hlt : q < l.length
    · obtain ⟨b, o, x, d, rfl, _, ⟨c0, c1, c2, c3, c4, c5, c6, c7, c8, c9, c10, c11, c12, c13, c14⟩, hsz, hp⟩ := (H.out.below HB.out).at_ hlt
      have HP := hide hp
      clear hp
      by_cases hnm : n ≤ m
      · go_wp2_with fail
        have hkb : b < wr.heap.size := block_lt_of_cell c0
        go_region_held (fun w' => w'.cell? ⟨b, o + q * 15, none⟩ = some (.string d.name) ∧ w'.cell? ⟨b, o + q * 15 + 1, none⟩ = some (.int .u8 d.pt.kind) ∧ w'.cell? ⟨b, o + q * 15 + 2, none⟩ = some (.string d.pt.file) ∧ w'.cell? ⟨b, o + q * 15 + 3, none⟩ = some (.string d.pt.text) ∧ w'.cell? ⟨b, o + q * 15 + 4, none⟩ = some (.int .i64 d.pt.hunk.at_) ∧ w'.cell? ⟨b, o + q * 15 + 5, none⟩ = some (.slice x.h.oA d.pt.hunk.old.length x.h.oc) ∧ w'.cell? ⟨b, o + q * 15 + 6, none⟩ = some (.slice x.h.nA d.pt.hunk.new.length x.h.nc) ∧ w'.cell? ⟨b, o + q * 15 + 7, none⟩ = some (.int .u8 d.pt.edit.kind) ∧ w'.cell? ⟨b, o + q * 15 + 8, none⟩ = some (.slice x.e.pA d.pt.edit.path.length x.e.pc) ∧ w'.cell? ⟨b, o + q * 15 + 9, none⟩ = some (.int .i64 d.pt.edit.at_) ∧ w'.cell? ⟨b, o + q * 15 + 10, none⟩ = some (.int .i64 d.pt.edit.far) ∧ w'.cell? ⟨b, o + q * 15 + 11, none⟩ = some (.string d.pt.edit.frm) ∧ w'.cell? ⟨b, o + q * 15 + 12, none⟩ = some (.string d.pt.edit.to) ∧ w'.cell? ⟨b, o + q * 15 + 13, none⟩ = some (.slice x.e.oA d.pt.edit.old.len x.e.oc) ∧ w'.cell? ⟨b, o + q * 15 + 14, none⟩ = some (.slice x.e.nA d.pt.edit.new.len x.e.nc)) (go_keep) (first
          | (go_at_call 13; (with_reducible refine (patchOf_any (HP.out.below (w' := wr.drew) (blw_drewN (Below.refl _ _) 1)) (by first | exact wrap_is _ | exact wrap_i63 _)).mono ?_); rintro e4 w4 ⟨⟨r4, rfl, hr4⟩, hB⟩; have hcell : ∀ j, w4.cell? ⟨b, j, none⟩ = wr.cell? ⟨b, j, none⟩ := (fun j => (hB.cell (p := ⟨b, j, none⟩) hkb)); have HB4 : Hid (Below w.heap.size w w4) := hide (blw_up HB.out (blw_undrew hB)); clear hB))
        all_goals go_wp2_with fail
        go_roundw
        case rel => exact ⟨q + 1, _, by omega, by go_num, rfl, hide (by first | exact wrap_is _ | exact wrap_i63 _), HB4⟩
        case measure => simp [intOf]; omega
      · go_wp2_with fail
        go_ret
        exact ⟨⟨_, rfl, Hn.out⟩, HB.out⟩
    · go_wp2_with fail
      all_goals (go_ret; exact ⟨⟨_, rfl, Hn.out⟩, HB.out⟩)

end Go.Proofs.YtadilmijppdpoaaGreatDoor
