/- The kit's counters: they answer, and turn nothing. Printed by gen_count.py. -/
import Derived.Test.YthaoldnlleilfaaDoorProg
import Derived.BigQuiet
import Derived.Deep.RegionWith
import Derived.Test.YthaoldnlleilfaaDoorCBase

set_option linter.unusedVariables false
set_option linter.unusedSimpArgs false

namespace Go.Proofs.YthaoldnlleilfaaDoor
open Go.RowKit

def RetI (e : Ending) : Prop := ∃ r : Int, e = .returned (.int .i64 r) ∧ is63 r
theorem wrap_is (x : Int) : is63 (wrap64 x) := by unfold is63 wrap64; omega

/-- what texts count -/
def cnt : List ByteArray → Int → Int → Int
  | [], _, n => n
  | s :: r, m, n => if n ≤ m then cnt r m (wrap64 (n + wrap64 ((s.size : Int) / 8))) else n
theorem cnt_is : ∀ (l : List ByteArray) (m n : Int), is63 n → is63 (cnt l m n) := by
  intro l
  induction l with
  | nil => intro m n h; exact h
  | cons s r ih =>
    intro m n h
    unfold cnt
    split
    · exact ih _ _ (wrap_is _)
    · exact h
theorem cnt_step {l : List ByteArray} {q : Nat} {m n r : Int} (hq : q < l.length) (h : cnt (l.drop q) m n = r) (hn : n ≤ m) : cnt (l.drop (q + 1)) m (wrap64 (n + wrap64 ((l[q].size : Int) / 8))) = r := by
  rw [List.drop_eq_getElem_cons hq] at h
  unfold cnt at h
  rwa [if_pos hn] at h
theorem cnt_stop {l : List ByteArray} {q : Nat} {m n r : Int} (h : cnt (l.drop q) m n = r) (hn : ¬ (q < l.length ∧ n ≤ m)) : n = r := by
  by_cases hq : q < l.length
  · rw [List.drop_eq_getElem_cons hq] at h
    unfold cnt at h
    rwa [if_neg (fun e => hn ⟨hq, e⟩)] at h
  · rw [List.drop_eq_nil_of_le (by omega)] at h
    exact h

set_option maxHeartbeats 1000000 in
set_option maxRecDepth 1000000 in
theorem textsOf_any {S : Nat → Prop} {A : Option Addr} {c : Nat} {l : List ByteArray} {w : World} {m : Int} (hl : StrsIn S w A l) :
    Calls Tryd.prog 16 #[.slice A l.length c, .int .i64 m] w fun e w' => e = .returned (.int .i64 (cnt l m l.length)) ∧ w = w' := by
  have Hl := hide hl
  have hlen : l.length ≤ 9223372036854775807 := hl.2.2
  clear hl
  go_enter Tryd.func16, Tryd.ntmps16
  go_wp2_with fail
  go_loopw [5, 6] (fun v i wr => ∃ (q : Nat) (n : Int), q ≤ l.length ∧ i = .int .i64 q ∧ v = .int .i64 n ∧ Hid (cnt (l.drop q) m n = cnt l m l.length) ∧ w = wr) (fun _ i _ => l.length - (intOf i).toNat)
  case atStart => exact ⟨0, l.length, Nat.zero_le _, rfl, rfl, hide rfl, rfl⟩
  case round =>
    obtain ⟨q, n, hq, rfl, rfl, Hn, rfl⟩ := hrel
    by_cases hlt : q < l.length
    · obtain ⟨b, o, rfl, hc⟩ := Hl.out.1.at_ (j := q) (by simpa using hlt)
      simp only [List.getElem_map] at hc
      by_cases hnm : n ≤ m
      · have Hs := hide (cnt_step hlt Hn.out hnm)
        go_wp2_with fail
        go_roundw
        case rel => exact ⟨q + 1, _, by omega, by go_num, rfl, Hs, (by first | rfl | trivial)⟩
        case measure => simp [intOf]; omega
      · have hs := hide (cnt_stop Hn.out (fun e => hnm e.2))
        go_wp2_with fail
        go_ret
        exact ⟨by rw [← hs.out]; rfl, rfl⟩
    · have hs := hide (cnt_stop Hn.out (fun e => hlt e.1))
      go_wp2_with fail
      go_ret
      exact ⟨by rw [← hs.out]; rfl, rfl⟩

set_option maxHeartbeats 2000000 in
set_option maxRecDepth 1000000 in
theorem nodesOf_upto (N : Nat) : ∀ (S : Nat → Prop) (k : Nat) (t : ByteArray) (n : Int) (A : Option Addr) (c : Nat) (ks : Fo) (m : Int) (w : World), ks.cnt < N → FoIn S w A ks → ks.len ≤ 9223372036854775807 → is63 m →
    Calls Tryd.prog 32 #[.agg #[.int .u8 k, .string t, .int .i64 n, .slice A ks.len c], .int .i64 m] w fun e w' => RetI e ∧ Below w.heap.size w w' := by
  induction N with
  | zero => intro S k t n A c ks m w h; omega
  | succ N ih =>
    intro S k t n A c ks m w hcnt hks hlen hm
    have Hks := hide hks
    have Hih := hide ih
    clear hks ih
    go_enter Tryd.func32, Tryd.ntmps32
    go_wp2_with fail
    go_loopw [5, 6] (fun v i wr => ∃ (q : Nat) (n : Int), q ≤ ks.len ∧ i = .int .i64 q ∧ v = .int .i64 n ∧ Hid (is63 n) ∧ Hid (Below w.heap.size w wr) ∧ w.heap.size < wr.heap.size ∧ wr.cell? ⟨w.heap.size, 3, none⟩ = some (.slice A ks.len c)) (fun _ i _ => ks.len - (intOf i).toNat)
    case atStart => exact ⟨0, _, Nat.zero_le _, rfl, rfl, hide (by first | exact wrap_is _ | (unfold is63; omega)), hide (below_alloc _ _), by simp, by simp⟩
    case round =>
      obtain ⟨q, n, hq, rfl, rfl, Hn, HB, hz, hc⟩ := hrel
      by_cases hlt : q < ks.len
      · obtain ⟨b, o, KA, c', k', t', n', ks', r, rfl, hd, c0, c1, c2, c3, e1, e2, e3, e4, e5, hks', hcn⟩ := (Hks.out.below HB.out).at_ hlt
        have Hks' := hide hks'
        clear hd e3 hks'
        go_wp2_with (go_at_call 32; (with_reducible refine (Hih.out S k' t' n' KA c' ks' _ _ (by omega) Hks'.out (by omega) (by first | exact wrap_is _ | (unfold is63; omega))).mono ?_); rintro e w2 ⟨⟨r2, rfl, hr2⟩, hB⟩; have HB2 := hide (HB.out.trans (hB.mono HB.out.size)); have hcell := (hB.cell (p := ⟨w.heap.size, 3, none⟩) hz).trans hc; have hz2 := Nat.lt_of_lt_of_le hz hB.size; clear hB)
        all_goals first
          | (go_ret; exact ⟨⟨_, rfl, Hn.out⟩, HB.out⟩)
          | (go_roundw
             case rel => exact ⟨q + 1, _, by omega, by go_num, rfl, hide (by first | exact wrap_is _ | (unfold is63; omega)), HB2, hz2, hcell⟩
             case measure => simp [intOf]; omega)
      · go_wp2_with fail
        all_goals (go_ret; exact ⟨⟨_, rfl, Hn.out⟩, HB.out⟩)

theorem nodesOf_any {S : Nat → Prop} {k : Nat} {t : ByteArray} {n : Int} {A : Option Addr} {c : Nat} {ks : Fo} {m : Int} {w : World} (h : FoIn S w A ks) (hl : ks.len ≤ 9223372036854775807) (hm : is63 m) :
    Calls Tryd.prog 32 #[.agg #[.int .u8 k, .string t, .int .i64 n, .slice A ks.len c], .int .i64 m] w fun e w' => RetI e ∧ Below w.heap.size w w' := nodesOf_upto (ks.cnt + 1) S k t n A c ks m w (by omega) h hl hm

set_option maxHeartbeats 4000000 in
set_option maxRecDepth 1000000 in
theorem editOf_any {S : Nat → Prop} {x : Eh} {e : Ed} {w : World} {m : Int} (he : EdIn S w x e) (hm : is63 m) :
    Calls Tryd.prog 17 #[.agg #[.int .u8 e.kind, .slice x.pA e.path.length x.pc, .int .i64 e.at_, .int .i64 e.far, .string e.frm, .string e.to, .slice x.oA e.old.len x.oc, .slice x.nA e.new.len x.nc], .int .i64 m] w fun e1 w' => RetI e1 ∧ Below w.heap.size w w' := by
  have Ho := hide he.old
  have Hn := hide he.new
  have hoc := he.oc
  have hnc := he.nc
  have hpc := he.pc
  clear he
  go_enter Tryd.func17, Tryd.ntmps17
  go_wp2_with fail
  go_loopw [5, 6] (fun v i wr => ∃ (q : Nat) (n : Int), q ≤ e.old.len ∧ i = .int .i64 q ∧ v = .int .i64 n ∧ Hid (is63 n) ∧ Hid (Below w.heap.size w wr) ∧ w.heap.size < wr.heap.size ∧ (∀ o, wr.cell? ⟨w.heap.size, o, none⟩ = (w.alloc (.cells #[.int .u8 e.kind, .slice x.pA e.path.length x.pc, .int .i64 e.at_, .int .i64 e.far, .string e.frm, .string e.to, .slice x.oA e.old.len x.oc, .slice x.nA e.new.len x.nc] 30)).cell? ⟨w.heap.size, o, none⟩)) (fun _ i _ => e.old.len - (intOf i).toNat)
  case atStart => exact ⟨0, _, Nat.zero_le _, rfl, rfl, hide (wrap_is _), hide (below_alloc _ _), by simp, fun o => rfl⟩
  case round =>
    obtain ⟨q, n, hq, rfl, rfl, Hn1, HB, hz, hc⟩ := hrel
    by_cases hlt : q < e.old.len
    · by_cases hnm : n ≤ m
      · skip
        obtain ⟨b, o, KA, c', k', t', n', ks', r, hA, hd, c0, c1, c2, c3, e1, e2, e3, e4, e5, hks', hcn⟩ := (Ho.out.below HB.out).at_ hlt
        have Hks' := hide hks'
        clear hd e3 hks'
        go_wp2_with (go_at_call 32; (with_reducible refine (nodesOf_any Hks'.out (by omega) (by first | exact wrap_is _ | (unfold is63; omega))).mono ?_); rintro e3 w2 ⟨⟨r2, rfl, hr2⟩, hB⟩; have HB3 := hide (HB.out.trans (hB.mono HB.out.size)); have hcell : ∀ o, w2.cell? ⟨w.heap.size, o, none⟩ = (w.alloc (.cells #[.int .u8 e.kind, .slice x.pA e.path.length x.pc, .int .i64 e.at_, .int .i64 e.far, .string e.frm, .string e.to, .slice x.oA e.old.len x.oc, .slice x.nA e.new.len x.nc] 30)).cell? ⟨w.heap.size, o, none⟩ := (fun o => (hB.cell (p := ⟨w.heap.size, o, none⟩) hz).trans (hc o)); have hz3 := Nat.lt_of_lt_of_le hz hB.size; clear hB)
        go_roundw
        case rel => exact ⟨_, .int .i64 ((q : Int) + 1), _, _, _, _, _, _, _, _, _, _, _, _, _, _, _, _, _, _, _, _, _, _, _, ⟨q + 1, wrap64 (n + r2), by omega, by go_num, rfl, hide (wrap_is _), HB3, hz3, hcell⟩, (by rw [hA])⟩
        case measure => simp [intOf]; omega
      · go_wp2_with fail
        go_loopw [5, 7] (fun v i wr => ∃ (q : Nat) (n : Int), q ≤ e.new.len ∧ i = .int .i64 q ∧ v = .int .i64 n ∧ Hid (is63 n) ∧ Hid (Below w.heap.size w wr) ∧ w.heap.size < wr.heap.size ∧ (∀ o, wr.cell? ⟨w.heap.size, o, none⟩ = (w.alloc (.cells #[.int .u8 e.kind, .slice x.pA e.path.length x.pc, .int .i64 e.at_, .int .i64 e.far, .string e.frm, .string e.to, .slice x.oA e.old.len x.oc, .slice x.nA e.new.len x.nc] 30)).cell? ⟨w.heap.size, o, none⟩)) (fun _ i _ => e.new.len - (intOf i).toNat)
        case atStart => exact ⟨0, _, Nat.zero_le _, rfl, rfl, Hn1, HB, hz, hc⟩
        case round =>
          clear HB hz hc Hn1
          obtain ⟨q, n, hq, rfl, rfl, Hn1, HB, hz, hc⟩ := hrel
          by_cases hlt : q < e.new.len
          · by_cases hnm : n ≤ m
            · skip
              obtain ⟨b, o, KA, c', k', t', n', ks', r, hA, hd, c0, c1, c2, c3, e1, e2, e3, e4, e5, hks', hcn⟩ := (Hn.out.below HB.out).at_ hlt
              have Hks' := hide hks'
              clear hd e3 hks'
              go_wp2_with (go_at_call 32; (with_reducible refine (nodesOf_any Hks'.out (by omega) (by first | exact wrap_is _ | (unfold is63; omega))).mono ?_); rintro e3 w2 ⟨⟨r2, rfl, hr2⟩, hB⟩; have HB3 := hide (HB.out.trans (hB.mono HB.out.size)); have hcell : ∀ o, w2.cell? ⟨w.heap.size, o, none⟩ = (w.alloc (.cells #[.int .u8 e.kind, .slice x.pA e.path.length x.pc, .int .i64 e.at_, .int .i64 e.far, .string e.frm, .string e.to, .slice x.oA e.old.len x.oc, .slice x.nA e.new.len x.nc] 30)).cell? ⟨w.heap.size, o, none⟩ := (fun o => (hB.cell (p := ⟨w.heap.size, o, none⟩) hz).trans (hc o)); have hz3 := Nat.lt_of_lt_of_le hz hB.size; clear hB)
              go_roundw
              case rel => exact ⟨_, .int .i64 ((q : Int) + 1), _, _, _, _, _, _, _, _, _, _, _, _, _, _, _, _, _, _, _, _, _, _, _, ⟨q + 1, wrap64 (n + r2), by omega, by go_num, rfl, hide (wrap_is _), HB3, hz3, hcell⟩, (by rw [hA])⟩
              case measure => simp [intOf]; omega
            · go_wp2_with fail
              all_goals (go_ret; exact ⟨⟨_, rfl, Hn1.out⟩, HB.out⟩)
          · go_wp2_with fail
            all_goals (go_ret; exact ⟨⟨_, rfl, Hn1.out⟩, HB.out⟩)
    · go_wp2_with fail
      go_loopw [5, 7] (fun v i wr => ∃ (q : Nat) (n : Int), q ≤ e.new.len ∧ i = .int .i64 q ∧ v = .int .i64 n ∧ Hid (is63 n) ∧ Hid (Below w.heap.size w wr) ∧ w.heap.size < wr.heap.size ∧ (∀ o, wr.cell? ⟨w.heap.size, o, none⟩ = (w.alloc (.cells #[.int .u8 e.kind, .slice x.pA e.path.length x.pc, .int .i64 e.at_, .int .i64 e.far, .string e.frm, .string e.to, .slice x.oA e.old.len x.oc, .slice x.nA e.new.len x.nc] 30)).cell? ⟨w.heap.size, o, none⟩)) (fun _ i _ => e.new.len - (intOf i).toNat)
      case atStart => exact ⟨0, _, Nat.zero_le _, rfl, rfl, Hn1, HB, hz, hc⟩
      case round =>
        clear HB hz hc Hn1
        obtain ⟨q, n, hq, rfl, rfl, Hn1, HB, hz, hc⟩ := hrel
        by_cases hlt : q < e.new.len
        · by_cases hnm : n ≤ m
          · skip
            obtain ⟨b, o, KA, c', k', t', n', ks', r, hA, hd, c0, c1, c2, c3, e1, e2, e3, e4, e5, hks', hcn⟩ := (Hn.out.below HB.out).at_ hlt
            have Hks' := hide hks'
            clear hd e3 hks'
            go_wp2_with (go_at_call 32; (with_reducible refine (nodesOf_any Hks'.out (by omega) (by first | exact wrap_is _ | (unfold is63; omega))).mono ?_); rintro e3 w2 ⟨⟨r2, rfl, hr2⟩, hB⟩; have HB3 := hide (HB.out.trans (hB.mono HB.out.size)); have hcell : ∀ o, w2.cell? ⟨w.heap.size, o, none⟩ = (w.alloc (.cells #[.int .u8 e.kind, .slice x.pA e.path.length x.pc, .int .i64 e.at_, .int .i64 e.far, .string e.frm, .string e.to, .slice x.oA e.old.len x.oc, .slice x.nA e.new.len x.nc] 30)).cell? ⟨w.heap.size, o, none⟩ := (fun o => (hB.cell (p := ⟨w.heap.size, o, none⟩) hz).trans (hc o)); have hz3 := Nat.lt_of_lt_of_le hz hB.size; clear hB)
            go_roundw
            case rel => exact ⟨_, .int .i64 ((q : Int) + 1), _, _, _, _, _, _, _, _, _, _, _, _, _, _, _, _, _, _, _, _, _, _, _, ⟨q + 1, wrap64 (n + r2), by omega, by go_num, rfl, hide (wrap_is _), HB3, hz3, hcell⟩, (by rw [hA])⟩
            case measure => simp [intOf]; omega
          · go_wp2_with fail
            all_goals (go_ret; exact ⟨⟨_, rfl, Hn1.out⟩, HB.out⟩)
        · go_wp2_with fail
          all_goals (go_ret; exact ⟨⟨_, rfl, Hn1.out⟩, HB.out⟩)

set_option maxHeartbeats 4000000 in
set_option maxRecDepth 1000000 in
theorem patchOf_any {S : Nat → Prop} {x : Ph} {p : Pt} {w : World} {m : Int} (hp : PtIn S w x p) (hm : is63 m) :
    Calls Tryd.prog 6 #[.agg #[.int .u8 p.kind, .string p.file, .string p.text, .int .i64 p.hunk.at_, .slice x.h.oA p.hunk.old.length x.h.oc, .slice x.h.nA p.hunk.new.length x.h.nc, .int .u8 p.edit.kind, .slice x.e.pA p.edit.path.length x.e.pc, .int .i64 p.edit.at_, .int .i64 p.edit.far, .string p.edit.frm, .string p.edit.to, .slice x.e.oA p.edit.old.len x.e.oc, .slice x.e.nA p.edit.new.len x.e.nc], .int .i64 m] w fun e1 w' => RetI e1 ∧ Below w.heap.size w w' := by
  have Hp := hide hp
  have Hm := hide hm
  clear hp hm
  go_enter Tryd.func6, Tryd.ntmps6
  go_wp2_with fail
  go_quiet ((go_at_call 16; first
    | ((with_reducible refine (textsOf_any (Hp.out.hunk.old.below (blw_drewN (below_alloc _ _) _)) ).mono ?_); rintro e2 w2 ⟨rfl, rfl⟩; exact ⟨rfl, _, rfl⟩)
    | ((with_reducible refine (textsOf_any (Hp.out.hunk.new.below (blw_drewN (below_alloc _ _) _)) ).mono ?_); rintro e3 w3 ⟨rfl, rfl⟩; exact ⟨rfl, _, rfl⟩)))
  go_wp2_with (go_at_call 17; (with_reducible refine (editOf_any (Hp.out.edit.below (blw_drewN (below_alloc _ _) _)) (wrap_is _)).mono ?_); rintro e4 w4 ⟨⟨r4, rfl, hr4⟩, hB⟩; have HB : Hid (Below w.heap.size w w4) := hide (blw_up (blw_drewN (below_alloc _ _) _) hB); clear hB)
  all_goals (go_ret; exact ⟨⟨_, rfl, wrap_is _⟩, (by first | exact HB.out | exact blw_drewN (below_alloc _ _) _)⟩)

end Go.Proofs.YthaoldnlleilfaaDoor

namespace Go.Proofs.YthaoldnlleilfaaDoor
open Go.RowKit

theorem FoIn.fit {S : Nat → Prop} {w : World} : ∀ {f : Fo} {A : Option Addr}, FoIn S w A f → f.fit := by
  intro f
  induction f with
  | nil => intro A _; exact trivial
  | cons k t n ks r ihk ihr =>
    rintro A ⟨b, o, KA, c, rfl, hS, c0, c1, c2, c3, e1, e2, e3, e4, e5, hks, hr⟩
    exact ⟨e1, e2, e3, Nat.le_trans e4 e5, ihk hks, ihr hr⟩
theorem EdIn.fit {S : Nat → Prop} {w : World} {x : Eh} {e : Ed} (h : EdIn S w x e) : EdFit e :=
  ⟨h.kind, ⟨h.path.2.1, h.path.2.2⟩, h.at_, h.far, h.frm, h.to, ⟨h.old.fit, Nat.le_trans h.oc.1 h.oc.2⟩, ⟨h.new.fit, Nat.le_trans h.nc.1 h.nc.2⟩⟩
theorem PtIn.fit {S : Nat → Prop} {w : World} {x : Ph} {p : Pt} (h : PtIn S w x p) : PtFit p :=
  ⟨h.kind, h.file, h.text, ⟨h.hunk.at_, ⟨h.hunk.old.2.1, h.hunk.old.2.2⟩, ⟨h.hunk.new.2.1, h.hunk.new.2.2⟩⟩, h.edit.fit⟩
theorem edOk_sum {e : Ed} (h : EdOk e) : e.frm.size + e.to.size ≤ 48 := by
  have h0 : noTxt.size = 0 := rfl
  obtain ⟨_, h | h | h | h | h⟩ := h
  · obtain ⟨_, _, _, _, _, _, h1, h2, _⟩ := h
    have := h1.1
    have := h2.1
    omega
  · obtain ⟨_, _, h1, h2, _⟩ := h; rw [h1, h2]; omega
  · obtain ⟨_, _, h1, h2, _⟩ := h; rw [h1, h2]; omega
  · obtain ⟨_, _, _, h1, h2, _⟩ := h; rw [h1, h2]; omega
  · obtain ⟨_, h1, h2, _⟩ := h; rw [h1, h2]; omega
theorem ptOk_sum {p : Pt} (h : PtOk p) : p.edit.frm.size + p.edit.to.size ≤ 9223372036854775807 := by
  have h0 : Ed.zero.frm.size + Ed.zero.to.size = 0 := rfl
  obtain ⟨_, ⟨_, _, h1⟩ | ⟨_, _, h1, _⟩ | ⟨_, _, _, h1⟩⟩ := h
  · rw [h1, h0]; omega
  · rw [h1, h0]; omega
  · have := edOk_sum h1; omega
theorem ptB_pos (p : Pt) : 0 < (ptB p).length := by simp [ptB]

end Go.Proofs.YthaoldnlleilfaaDoor
