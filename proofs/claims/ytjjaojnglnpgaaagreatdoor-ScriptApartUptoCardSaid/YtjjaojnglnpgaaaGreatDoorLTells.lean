/- The kit's counters: they answer, and turn nothing. Printed by gen_count.py. -/
import Derived.Test.YtjjaojnglnpgaaaGreatDoorProg
import Derived.BigQuiet
import Derived.Deep.RegionWith
import Derived.Test.YtjjaojnglnpgaaaGreatDoorLBase
import Derived.Test.YtjjaojnglnpgaaaGreatDoorLTell
import Derived.Test.YtjjaojnglnpgaaaGreatDoorLScrLent

set_option linter.unusedVariables false
set_option linter.unusedSimpArgs false

namespace Go.Proofs.YtjjaojnglnpgaaaGreatDoor
open Go.RowKit

def RetI (e : Ending) : Prop := ∃ r : Int, e = .returned (.int .i64 r) ∧ is63 r
theorem wrap_is (x : Int) : is63 (wrap64 x) := by unfold is63 wrap64; omega

/-- what texts count -/
def cnt : List ByteArray → Int → Int → Int
  | [], _, n => n
  | s :: r, m, n => if n ≤ m then cnt r m (wrap64 (n + wrap64 ((s.size : Int) / 8))) else n
theorem cnt_is : ∀ (l : List ByteArray) (m n : Int), is63 n → is63 (cnt l m n) := by
  intro l
  induction l with
  | nil => intro m n h; exact h
  | cons s r ih =>
    intro m n h
    unfold cnt
    split
    · exact ih _ _ (wrap_is _)
    · exact h
theorem cnt_step {l : List ByteArray} {q : Nat} {m n r : Int} (hq : q < l.length) (h : cnt (l.drop q) m n = r) (hn : n ≤ m) : cnt (l.drop (q + 1)) m (wrap64 (n + wrap64 ((l[q].size : Int) / 8))) = r := by
  rw [List.drop_eq_getElem_cons hq] at h
  unfold cnt at h
  rwa [if_pos hn] at h
theorem cnt_stop {l : List ByteArray} {q : Nat} {m n r : Int} (h : cnt (l.drop q) m n = r) (hn : ¬ (q < l.length ∧ n ≤ m)) : n = r := by
  by_cases hq : q < l.length
  · rw [List.drop_eq_getElem_cons hq] at h
    unfold cnt at h
    rwa [if_neg (fun e => hn ⟨hq, e⟩)] at h
  · rw [List.drop_eq_nil_of_le (by omega)] at h
    exact h

set_option maxHeartbeats 1000000 in
set_option maxRecDepth 1000000 in
theorem textsOf_any {S : Nat → Prop} {A : Option Addr} {c : Nat} {l : List ByteArray} {w : World} {m : Int} (hl : StrsIn S w A l) :
    Calls Tryz.prog 18 #[.slice A l.length c, .int .i64 m] w fun e w' => e = .returned (.int .i64 (cnt l m l.length)) ∧ w = w' := by
  have Hl := hide hl
  have hlen : l.length ≤ 9223372036854775807 := hl.2.2
  clear hl
  go_enter Tryz.func18, Tryz.ntmps18
  go_wp2_with fail
  go_loopw [5, 6] (fun v i wr => ∃ (q : Nat) (n : Int), q ≤ l.length ∧ i = .int .i64 q ∧ v = .int .i64 n ∧ Hid (cnt (l.drop q) m n = cnt l m l.length) ∧ w = wr) (fun _ i _ => l.length - (intOf i).toNat)
  case atStart => exact ⟨0, l.length, Nat.zero_le _, rfl, rfl, hide rfl, rfl⟩
  case round =>
    obtain ⟨q, n, hq, rfl, rfl, Hn, rfl⟩ := hrel
    by_cases hlt : q < l.length
    · obtain ⟨b, o, rfl, hc⟩ := Hl.out.1.at_ (j := q) (by simpa using hlt)
      simp only [List.getElem_map] at hc
      by_cases hnm : n ≤ m
      · have Hs := hide (cnt_step hlt Hn.out hnm)
        go_wp2_with fail
        go_roundw
        case rel => exact ⟨q + 1, _, by omega, by go_num, rfl, Hs, (by first | rfl | trivial)⟩
        case measure => simp [intOf]; omega
      · have hs := hide (cnt_stop Hn.out (fun e => hnm e.2))
        go_wp2_with fail
        go_ret
        exact ⟨by rw [← hs.out]; rfl, rfl⟩
    · have hs := hide (cnt_stop Hn.out (fun e => hlt e.1))
      go_wp2_with fail
      go_ret
      exact ⟨by rw [← hs.out]; rfl, rfl⟩

set_option maxHeartbeats 2000000 in
set_option maxRecDepth 1000000 in
theorem nodesOf_upto (N : Nat) : ∀ (S : Nat → Prop) (k : Nat) (t : ByteArray) (n : Int) (A : Option Addr) (c : Nat) (ks : Fo) (m : Int) (w : World), ks.cnt < N → FoIn S w A ks → ks.len ≤ 9223372036854775807 → is63 m →
    Calls Tryz.prog 166 #[.agg #[.int .u8 k, .string t, .int .i64 n, .slice A ks.len c], .int .i64 m] w fun e w' => RetI e ∧ Below w.heap.size w w' := by
  induction N with
  | zero => intro S k t n A c ks m w h; omega
  | succ N ih =>
    intro S k t n A c ks m w hcnt hks hlen hm
    have Hks := hide hks
    have Hih := hide ih
    clear hks ih
    go_enter Tryz.func166, Tryz.ntmps166
    go_wp2_with fail
    go_loopw [5, 6] (fun v i wr => ∃ (q : Nat) (n : Int), q ≤ ks.len ∧ i = .int .i64 q ∧ v = .int .i64 n ∧ Hid (is63 n) ∧ Hid (Below w.heap.size w wr) ∧ w.heap.size < wr.heap.size ∧ wr.cell? ⟨w.heap.size, 3, none⟩ = some (.slice A ks.len c)) (fun _ i _ => ks.len - (intOf i).toNat)
    case atStart => exact ⟨0, _, Nat.zero_le _, rfl, rfl, hide (by first | exact wrap_is _ | (unfold is63; omega)), hide (below_alloc _ _), by simp, by simp⟩
    case round =>
      obtain ⟨q, n, hq, rfl, rfl, Hn, HB, hz, hc⟩ := hrel
      by_cases hlt : q < ks.len
      · obtain ⟨b, o, KA, c', k', t', n', ks', r, rfl, hd, c0, c1, c2, c3, e1, e2, e3, e4, e5, hks', hcn⟩ := (Hks.out.below HB.out).at_ hlt
        have Hks' := hide hks'
        clear hd e3 hks'
        go_wp2_with (go_at_call 166; (with_reducible refine (Hih.out S k' t' n' KA c' ks' _ _ (by omega) Hks'.out (by omega) (by first | exact wrap_is _ | (unfold is63; omega))).mono ?_); rintro e w2 ⟨⟨r2, rfl, hr2⟩, hB⟩; have HB2 := hide (HB.out.trans (hB.mono HB.out.size)); have hcell := (hB.cell (p := ⟨w.heap.size, 3, none⟩) hz).trans hc; have hz2 := Nat.lt_of_lt_of_le hz hB.size; clear hB)
        all_goals first
          | (go_ret; exact ⟨⟨_, rfl, Hn.out⟩, HB.out⟩)
          | (go_roundw
             case rel => exact ⟨q + 1, _, by omega, by go_num, rfl, hide (by first | exact wrap_is _ | (unfold is63; omega)), HB2, hz2, hcell⟩
             case measure => simp [intOf]; omega)
      · go_wp2_with fail
        all_goals (go_ret; exact ⟨⟨_, rfl, Hn.out⟩, HB.out⟩)

theorem nodesOf_any {S : Nat → Prop} {k : Nat} {t : ByteArray} {n : Int} {A : Option Addr} {c : Nat} {ks : Fo} {m : Int} {w : World} (h : FoIn S w A ks) (hl : ks.len ≤ 9223372036854775807) (hm : is63 m) :
    Calls Tryz.prog 166 #[.agg #[.int .u8 k, .string t, .int .i64 n, .slice A ks.len c], .int .i64 m] w fun e w' => RetI e ∧ Below w.heap.size w w' := nodesOf_upto (ks.cnt + 1) S k t n A c ks m w (by omega) h hl hm

set_option maxHeartbeats 4000000 in
set_option maxRecDepth 1000000 in
theorem editOf_any {S : Nat → Prop} {x : Eh} {e : Ed} {w : World} {m : Int} (he : EdIn S w x e) (hm : is63 m) :
    Calls Tryz.prog 101 #[.agg #[.int .u8 e.kind, .slice x.pA e.path.length x.pc, .int .i64 e.at_, .int .i64 e.far, .string e.frm, .string e.to, .slice x.oA e.old.len x.oc, .slice x.nA e.new.len x.nc], .int .i64 m] w fun e1 w' => RetI e1 ∧ Below w.heap.size w w' := by
  have Ho := hide he.old
  have Hn := hide he.new
  have hoc := he.oc
  have hnc := he.nc
  have hpc := he.pc
  clear he
  go_enter Tryz.func101, Tryz.ntmps101
  go_wp2_with fail
  go_loopw [5, 6] (fun v i wr => ∃ (q : Nat) (n : Int), q ≤ e.old.len ∧ i = .int .i64 q ∧ v = .int .i64 n ∧ Hid (is63 n) ∧ Hid (Below w.heap.size w wr) ∧ w.heap.size < wr.heap.size ∧ (∀ o, wr.cell? ⟨w.heap.size, o, none⟩ = (w.alloc (.cells #[.int .u8 e.kind, .slice x.pA e.path.length x.pc, .int .i64 e.at_, .int .i64 e.far, .string e.frm, .string e.to, .slice x.oA e.old.len x.oc, .slice x.nA e.new.len x.nc] 41)).cell? ⟨w.heap.size, o, none⟩)) (fun _ i _ => e.old.len - (intOf i).toNat)
  case atStart => exact ⟨0, _, Nat.zero_le _, rfl, rfl, hide (wrap_is _), hide (below_alloc _ _), by simp, fun o => rfl⟩
  case round =>
    obtain ⟨q, n, hq, rfl, rfl, Hn1, HB, hz, hc⟩ := hrel
    by_cases hlt : q < e.old.len
    · by_cases hnm : n ≤ m
      · skip
        obtain ⟨b, o, KA, c', k', t', n', ks', r, hA, hd, c0, c1, c2, c3, e1, e2, e3, e4, e5, hks', hcn⟩ := (Ho.out.below HB.out).at_ hlt
        have Hks' := hide hks'
        clear hd e3 hks'
        go_wp2_with (go_at_call 166; (with_reducible refine (nodesOf_any Hks'.out (by omega) (by first | exact wrap_is _ | (unfold is63; omega))).mono ?_); rintro e3 w2 ⟨⟨r2, rfl, hr2⟩, hB⟩; have HB3 := hide (HB.out.trans (hB.mono HB.out.size)); have hcell : ∀ o, w2.cell? ⟨w.heap.size, o, none⟩ = (w.alloc (.cells #[.int .u8 e.kind, .slice x.pA e.path.length x.pc, .int .i64 e.at_, .int .i64 e.far, .string e.frm, .string e.to, .slice x.oA e.old.len x.oc, .slice x.nA e.new.len x.nc] 41)).cell? ⟨w.heap.size, o, none⟩ := (fun o => (hB.cell (p := ⟨w.heap.size, o, none⟩) hz).trans (hc o)); have hz3 := Nat.lt_of_lt_of_le hz hB.size; clear hB)
        go_roundw
        case rel => exact ⟨_, .int .i64 ((q : Int) + 1), _, _, _, _, _, _, _, _, _, _, _, _, _, _, _, _, _, _, _, _, _, _, _, ⟨q + 1, wrap64 (n + r2), by omega, by go_num, rfl, hide (wrap_is _), HB3, hz3, hcell⟩, (by rw [hA])⟩
        case measure => simp [intOf]; omega
      · go_wp2_with fail
        go_loopw [5, 7] (fun v i wr => ∃ (q : Nat) (n : Int), q ≤ e.new.len ∧ i = .int .i64 q ∧ v = .int .i64 n ∧ Hid (is63 n) ∧ Hid (Below w.heap.size w wr) ∧ w.heap.size < wr.heap.size ∧ (∀ o, wr.cell? ⟨w.heap.size, o, none⟩ = (w.alloc (.cells #[.int .u8 e.kind, .slice x.pA e.path.length x.pc, .int .i64 e.at_, .int .i64 e.far, .string e.frm, .string e.to, .slice x.oA e.old.len x.oc, .slice x.nA e.new.len x.nc] 41)).cell? ⟨w.heap.size, o, none⟩)) (fun _ i _ => e.new.len - (intOf i).toNat)
        case atStart => exact ⟨0, _, Nat.zero_le _, rfl, rfl, Hn1, HB, hz, hc⟩
        case round =>
          clear HB hz hc Hn1
          obtain ⟨q, n, hq, rfl, rfl, Hn1, HB, hz, hc⟩ := hrel
          by_cases hlt : q < e.new.len
          · by_cases hnm : n ≤ m
            · skip
              obtain ⟨b, o, KA, c', k', t', n', ks', r, hA, hd, c0, c1, c2, c3, e1, e2, e3, e4, e5, hks', hcn⟩ := (Hn.out.below HB.out).at_ hlt
              have Hks' := hide hks'
              clear hd e3 hks'
              go_wp2_with (go_at_call 166; (with_reducible refine (nodesOf_any Hks'.out (by omega) (by first | exact wrap_is _ | (unfold is63; omega))).mono ?_); rintro e3 w2 ⟨⟨r2, rfl, hr2⟩, hB⟩; have HB3 := hide (HB.out.trans (hB.mono HB.out.size)); have hcell : ∀ o, w2.cell? ⟨w.heap.size, o, none⟩ = (w.alloc (.cells #[.int .u8 e.kind, .slice x.pA e.path.length x.pc, .int .i64 e.at_, .int .i64 e.far, .string e.frm, .string e.to, .slice x.oA e.old.len x.oc, .slice x.nA e.new.len x.nc] 41)).cell? ⟨w.heap.size, o, none⟩ := (fun o => (hB.cell (p := ⟨w.heap.size, o, none⟩) hz).trans (hc o)); have hz3 := Nat.lt_of_lt_of_le hz hB.size; clear hB)
              go_roundw
              case rel => exact ⟨_, .int .i64 ((q : Int) + 1), _, _, _, _, _, _, _, _, _, _, _, _, _, _, _, _, _, _, _, _, _, _, _, ⟨q + 1, wrap64 (n + r2), by omega, by go_num, rfl, hide (wrap_is _), HB3, hz3, hcell⟩, (by rw [hA])⟩
              case measure => simp [intOf]; omega
            · go_wp2_with fail
              all_goals (go_ret; exact ⟨⟨_, rfl, Hn1.out⟩, HB.out⟩)
          · go_wp2_with fail
            all_goals (go_ret; exact ⟨⟨_, rfl, Hn1.out⟩, HB.out⟩)
    · go_wp2_with fail
      go_loopw [5, 7] (fun v i wr => ∃ (q : Nat) (n : Int), q ≤ e.new.len ∧ i = .int .i64 q ∧ v = .int .i64 n ∧ Hid (is63 n) ∧ Hid (Below w.heap.size w wr) ∧ w.heap.size < wr.heap.size ∧ (∀ o, wr.cell? ⟨w.heap.size, o, none⟩ = (w.alloc (.cells #[.int .u8 e.kind, .slice x.pA e.path.length x.pc, .int .i64 e.at_, .int .i64 e.far, .string e.frm, .string e.to, .slice x.oA e.old.len x.oc, .slice x.nA e.new.len x.nc] 41)).cell? ⟨w.heap.size, o, none⟩)) (fun _ i _ => e.new.len - (intOf i).toNat)
      case atStart => exact ⟨0, _, Nat.zero_le _, rfl, rfl, Hn1, HB, hz, hc⟩
      case round =>
        clear HB hz hc Hn1
        obtain ⟨q, n, hq, rfl, rfl, Hn1, HB, hz, hc⟩ := hrel
        by_cases hlt : q < e.new.len
        · by_cases hnm : n ≤ m
          · skip
            obtain ⟨b, o, KA, c', k', t', n', ks', r, hA, hd, c0, c1, c2, c3, e1, e2, e3, e4, e5, hks', hcn⟩ := (Hn.out.below HB.out).at_ hlt
            have Hks' := hide hks'
            clear hd e3 hks'
            go_wp2_with (go_at_call 166; (with_reducible refine (nodesOf_any Hks'.out (by omega) (by first | exact wrap_is _ | (unfold is63; omega))).mono ?_); rintro e3 w2 ⟨⟨r2, rfl, hr2⟩, hB⟩; have HB3 := hide (HB.out.trans (hB.mono HB.out.size)); have hcell : ∀ o, w2.cell? ⟨w.heap.size, o, none⟩ = (w.alloc (.cells #[.int .u8 e.kind, .slice x.pA e.path.length x.pc, .int .i64 e.at_, .int .i64 e.far, .string e.frm, .string e.to, .slice x.oA e.old.len x.oc, .slice x.nA e.new.len x.nc] 41)).cell? ⟨w.heap.size, o, none⟩ := (fun o => (hB.cell (p := ⟨w.heap.size, o, none⟩) hz).trans (hc o)); have hz3 := Nat.lt_of_lt_of_le hz hB.size; clear hB)
            go_roundw
            case rel => exact ⟨_, .int .i64 ((q : Int) + 1), _, _, _, _, _, _, _, _, _, _, _, _, _, _, _, _, _, _, _, _, _, _, _, ⟨q + 1, wrap64 (n + r2), by omega, by go_num, rfl, hide (wrap_is _), HB3, hz3, hcell⟩, (by rw [hA])⟩
            case measure => simp [intOf]; omega
          · go_wp2_with fail
            all_goals (go_ret; exact ⟨⟨_, rfl, Hn1.out⟩, HB.out⟩)
        · go_wp2_with fail
          all_goals (go_ret; exact ⟨⟨_, rfl, Hn1.out⟩, HB.out⟩)

set_option maxHeartbeats 4000000 in
set_option maxRecDepth 1000000 in
theorem patchOf_any {S : Nat → Prop} {x : Ph} {p : Pt} {w : World} {m : Int} (hp : PtIn S w x p) (hm : is63 m) :
    Calls Tryz.prog 37 #[.agg #[.int .u8 p.kind, .string p.file, .string p.text, .int .i64 p.hunk.at_, .slice x.h.oA p.hunk.old.length x.h.oc, .slice x.h.nA p.hunk.new.length x.h.nc, .int .u8 p.edit.kind, .slice x.e.pA p.edit.path.length x.e.pc, .int .i64 p.edit.at_, .int .i64 p.edit.far, .string p.edit.frm, .string p.edit.to, .slice x.e.oA p.edit.old.len x.e.oc, .slice x.e.nA p.edit.new.len x.e.nc], .int .i64 m] w fun e1 w' => RetI e1 ∧ Below w.heap.size w w' := by
  have Hp := hide hp
  have Hm := hide hm
  clear hp hm
  go_enter Tryz.func37, Tryz.ntmps37
  go_wp2_with fail
  go_quiet ((go_at_call 18; first
    | ((with_reducible refine (textsOf_any (Hp.out.hunk.old.below (blw_drewN (below_alloc _ _) _)) ).mono ?_); rintro e2 w2 ⟨rfl, rfl⟩; exact ⟨rfl, _, rfl⟩)
    | ((with_reducible refine (textsOf_any (Hp.out.hunk.new.below (blw_drewN (below_alloc _ _) _)) ).mono ?_); rintro e3 w3 ⟨rfl, rfl⟩; exact ⟨rfl, _, rfl⟩)))
  go_wp2_with (go_at_call 101; (with_reducible refine (editOf_any (Hp.out.edit.below (blw_drewN (below_alloc _ _) _)) (wrap_is _)).mono ?_); rintro e4 w4 ⟨⟨r4, rfl, hr4⟩, hB⟩; have HB : Hid (Below w.heap.size w w4) := hide (blw_up (blw_drewN (below_alloc _ _) _) hB); clear hB)
  all_goals (go_ret; exact ⟨⟨_, rfl, wrap_is _⟩, (by first | exact HB.out | exact blw_drewN (below_alloc _ _) _)⟩)

end Go.Proofs.YtjjaojnglnpgaaaGreatDoor

namespace Go.Proofs.YtjjaojnglnpgaaaGreatDoor
open Go.RowKit

theorem LentAn.mono {S S' : Nat → Prop} {w : World} {x : Ah} {a : An} (h : LentAn S w x a) (hm : ∀ b, S b → S' b) : LentAn S' w x a := ⟨h.err, h.names.mono hm, h.text, h.bytes.mono hm⟩
set_option maxHeartbeats 8000000 in
set_option maxRecDepth 1000000 in
theorem scriptTells_of {S : Nat → Prop} {x : Ah} {a : An} {w : World} (h : AnIn S w x a) (ht : PowTab w) (hbk : a.bulk ≤ 1048576) (haw : (∀ W, Below w.heap.size w W → Calls Tryz.prog 9 #[] W fun e w' => e = .returned (.bool true) ∧ Below W.heap.size W w')) :
    Calls Tryz.prog 5 #[.agg #[.int .i64 a.err, .slice x.nA a.names.length x.nc, .string a.text, .slice x.bA a.bytes.length x.bc]] w fun e w' => e = .returned (.bool true) ∧ Below w.heap.size w w' := by
  obtain ⟨k1, k2, k3⟩ := sum_le_bulk a
  have hnl := names_len a.names
  have hbk2 : a.bulk ≤ 1099511627776 := by omega
  obtain ⟨W0, hW0⟩ : ∃ W0, W0 = w.alloc (.cells #[.int .i64 a.err, .slice x.nA a.names.length x.nc, .string a.text, .slice x.bA a.bytes.length x.bc] 53) := ⟨_, rfl⟩
  have hb0 : Below w.heap.size w W0 := by rw [hW0]; exact below_alloc _ _
  have hbc : ∀ j v, #[.int .i64 a.err, .slice x.nA a.names.length x.nc, .string a.text, .slice x.bA a.bytes.length x.bc][j]? = some v → ∀ W, Below W0.heap.size W0 W → W.cell? ⟨w.heap.size, j, none⟩ = some v := by
    intro j v hj W hB
    have h0 : W0.cell? ⟨w.heap.size, j, none⟩ = some v := by rw [hW0, Lib.cell_of_heap (heap_alloc_new w _)]; exact hj
    exact (World.cell?_of_block (hB.block _ (block_lt_of_cell h0))).trans h0
  have c0 := hbc 0 _ rfl
  have c1 := hbc 1 _ rfl
  have c2 := hbc 2 _ rfl
  have c3 := hbc 3 _ rfl
  clear hbc
  have Hp := hide (h.below hb0)
  have Htab := hide (ht.below hb0)
  have HAw0 : Hid (∀ W, Below W0.heap.size W0 W → Calls Tryz.prog 9 #[] W fun e w' => e = .returned (.bool true) ∧ Below W.heap.size W w') := hide fun W hB => haw W (hb0.trans (hB.mono hb0.size))
  have Hb0 := hide hb0
  have HW0 := hide hW0
  clear h ht hb0 hW0 haw
  go_enter Tryz.func5, Tryz.ntmps5
  go_upto_region 1 with fail
  change Code.wp _ _ _ _ (w.alloc (.cells #[.int .i64 a.err, .slice x.nA a.names.length x.nc, .string a.text, .slice x.bA a.bytes.length x.bc] 53))
  rw [← HW0.out]
  clear HW0
  have hr0 : Below W0.heap.size W0 W0 := Below.refl _ _
  have g0 := c0 W0 hr0
  have g1 := c1 W0 hr0
  have g2 := c2 W0 hr0
  have g3 := c3 W0 hr0
  go_quiet ((go_at_call 18; (with_reducible refine (textsOf_any (Hp.out.names.below (blw_drewN (Below.refl _ _) _))).mono ?_); rintro e2 w2 ⟨rfl, rfl⟩; exact ⟨rfl, _, rfl⟩))
  generalize decide (20000 < wrap64 ((a.text.size : Int) + (a.bytes.length : Int) + wrap64 (8 * cnt a.names 2500 (a.names.length : Int)))) = bb
  have hBq : Below W0.heap.size W0 (W0.drewN nq) := blw_drewN (Below.refl _ _) _
  clear g0 g1 g2 g3 hr0
  generalize W0.drewN nq = Wq at hBq ⊢
  rcases bb with _ | _
  · go_upto_region 3 with fail
    have g0 := c0 Wq hBq
    have g1 := c1 Wq hBq
    have g2 := c2 Wq hBq
    have g3 := c3 Wq hBq
    have Hp1 := hide (Hp.out.below hBq)
    have HBq := hide hBq
    clear hBq
    go_cut [3] (fun v wx => ∃ (N : Nat) (y : Ah), v = .pointer (some ⟨N, 0, none⟩) ∧ CellsL wx N [.int .i64 a.err, .slice y.nA a.names.length y.nc, .string a.text, .slice y.bA a.bytes.length y.bc] ∧ LentAn (fun _ => True) wx y a ∧ Below W0.heap.size W0 wx)
    case first =>
      go_wp2_with (go_at_call 19; (with_reducible refine (lentAnswer_any Hp1.out (by omega) (by omega)).mono ?_); rintro e2 w2 ⟨y, rfl, hL, hB2⟩; have HLt := hide (hL.mono (S' := fun _ => True) fun _ _ => trivial); have HB2 := hide (HBq.out.trans (hB2.mono HBq.out.size)); clear hL hB2)
      go_meet
      have hN : Below w2.heap.size w2 (w2.alloc (.cells #[.int .i64 a.err, .slice y.nA a.names.length y.nc, .string a.text, .slice y.bA a.bytes.length y.bc] 53)) := below_alloc _ _
      have hcn : CellsL (w2.alloc (.cells #[.int .i64 a.err, .slice y.nA a.names.length y.nc, .string a.text, .slice y.bA a.bytes.length y.bc] 53)) w2.heap.size [.int .i64 a.err, .slice y.nA a.names.length y.nc, .string a.text, .slice y.bA a.bytes.length y.bc] := fun j u hj => by rw [Lib.cell_of_heap (heap_alloc_new w2 _)]; simpa using hj
      exact ⟨_, y, rfl, hcn, HLt.out.below hN, HB2.out.trans (hN.mono HB2.out.size)⟩
    case rest =>
    obtain ⟨N, y, rfl, hC, hLt, hBc⟩ := hcut
    have hNl : N < wc.heap.size := block_lt_of_cell (hC 0 _ rfl)
    have hdc : ∀ j v, [.int .i64 a.err, .slice y.nA a.names.length y.nc, .string a.text, .slice y.bA a.bytes.length y.bc][j]? = some v → ∀ W, Below wc.heap.size wc W → W.cell? ⟨N, j, none⟩ = some v := fun j v hj W hB => (hB.cell (p := ⟨N, j, none⟩) hNl).trans (hC j v hj)
    have d0 := hdc 0 _ rfl
    have d1 := hdc 1 _ rfl
    have d2 := hdc 2 _ rfl
    have d3 := hdc 3 _ rfl
    replace c0 := fun (W : World) (h : Below wc.heap.size wc W) => c0 W (hBc.trans (h.mono hBc.size))
    replace c1 := fun (W : World) (h : Below wc.heap.size wc W) => c1 W (hBc.trans (h.mono hBc.size))
    replace c2 := fun (W : World) (h : Below wc.heap.size wc W) => c2 W (hBc.trans (h.mono hBc.size))
    replace c3 := fun (W : World) (h : Below wc.heap.size wc W) => c3 W (hBc.trans (h.mono hBc.size))
    clear hdc hC g0 g1 g2 g3
    have Hy := hide hLt.an
    have HLt := hide hLt
    have Hx := hide (Hp.out.below hBc)
    have HT := hide (Htab.out.below hBc)
    have HAw : Hid (∀ W, Below wc.heap.size wc W → Calls Tryz.prog 9 #[] W fun e w' => e = .returned (.bool true) ∧ Below W.heap.size W w') := hide fun W hB => HAw0.out W (hBc.trans (hB.mono hBc.size))
    have HBc := hide hBc
    clear hLt hBc Hp1 HBq
    go_upto_region 4 with fail
    have hr1 : Below wc.heap.size wc wc.drew := blw_drewN (Below.refl _ _) 1
    refine wp_region_held_drew (S := Below wc.heap.size wc) (by kernel_rfl) hr1 (fun hHeld => ?_)
    generalize wc.drew = wD at hHeld ⊢
    refine tk (v := ?_) 0 hHeld ?_ ?_
    rotate_left
    · intro w' hSw
      have d0' := d0 w' hSw
      have d1' := d1 w' hSw
      have d2' := d2 w' hSw
      have d3' := d3 w' hSw
      first | (go_simp; done) | (go_simp; with_reducible rfl)
    try simp only [List.set_cons_zero, List.set_cons_succ]
    refine tk (v := ?_) 2 hHeld ?_ ?_
    rotate_left
    · intro w' hSw
      have c0' := c0 w' hSw
      have c1' := c1 w' hSw
      have c2' := c2 w' hSw
      have c3' := c3 w' hSw
      first | (go_simp; done) | (go_simp; with_reducible rfl)
    try simp only [List.set_cons_zero, List.set_cons_succ]
    refine wpAnyH_ready (rs := [1]) (by kernel_rfl) (by simp) ?_
    refine AllReadyH.cons rfl (fun K hK => ?_) AllReadyH.nil
    go_simp
    go_wp2_with (go_at_call 20; (with_reducible refine (tell_any (Hy.out.below hHeld) (HT.out.below hHeld) hbk2).mono ?_); rintro e4 w4 ⟨rfl, hB4⟩)
    have hA1 := hHeld.trans (hB4.mono hHeld.size)
    refine hK.out _ _ hA1 (fun _ => ?_)
    clear hK K
    try simp only [Act.put, List.getElem_toArray, List.getElem_cons_zero, List.getElem_cons_succ, List.setIfInBounds_toArray, List.set_cons_zero, List.set_cons_succ]
    refine wpAnyH_ready (rs := [3]) (by kernel_rfl) (by simp) ?_
    refine AllReadyH.cons rfl (fun K hK => ?_) AllReadyH.nil
    go_simp
    go_wp2_with (go_at_call 21; (with_reducible refine (refTell_any (Hx.out.below hA1) (HT.out.below hA1) hbk2).mono ?_); rintro e5 w5 ⟨rfl, hB5⟩)
    have hA2 := hA1.trans (hB5.mono hA1.size)
    refine hK.out _ _ hA2 (fun _ => ?_)
    clear hK K
    try simp only [Act.put, List.getElem_toArray, List.getElem_cons_zero, List.getElem_cons_succ, List.setIfInBounds_toArray, List.set_cons_zero, List.set_cons_succ]
    refine tk (v := ?_) 4 hA2 ?_ ?_
    rotate_left
    · intro w' hSw
      first | (go_simp; done) | (go_simp; with_reducible rfl)
    try simp only [List.set_cons_zero, List.set_cons_succ]
    refine tk (v := ?_) 5 hA2 ?_ ?_
    rotate_left
    · intro w' hSw
      first | (go_simp; done) | (go_simp; with_reducible rfl)
    try simp only [List.set_cons_zero, List.set_cons_succ]
    refine tk (v := ?_) 6 hA2 ?_ ?_
    rotate_left
    · intro w' hSw
      have d0' := d0 w' hSw
      have d1' := d1 w' hSw
      have d2' := d2 w' hSw
      have d3' := d3 w' hSw
      first | (go_simp; done) | (go_simp; with_reducible rfl)
    try simp only [List.set_cons_zero, List.set_cons_succ]
    refine tk (v := ?_) 7 hA2 ?_ ?_
    rotate_left
    · intro w' hSw
      have c0' := c0 w' hSw
      have c1' := c1 w' hSw
      have c2' := c2 w' hSw
      have c3' := c3 w' hSw
      first | (go_simp; done) | (go_simp; with_reducible rfl)
    try simp only [List.set_cons_zero, List.set_cons_succ]
    refine wpAnyH_ready (rs := [8]) (by kernel_rfl) (by simp) ?_
    refine AllReadyH.cons rfl (fun K hK => ?_) AllReadyH.nil
    go_simp
    go_wp2_with (go_at_call 22; (with_reducible refine (keptAnswer_any (HLt.out.below hA2) (Hx.out.below hA2)).mono ?_); rintro e6 w6 ⟨rfl, hB6⟩)
    have hA3 := hA2.trans (hB6.mono hA2.size)
    refine hK.out _ _ hA3 (fun _ => ?_)
    clear hK K
    try simp only [Act.put, List.getElem_toArray, List.getElem_cons_zero, List.getElem_cons_succ, List.setIfInBounds_toArray, List.set_cons_zero, List.set_cons_succ]
    refine tk (v := ?_) 9 hA3 ?_ ?_
    rotate_left
    · intro w' hSw
      first | (go_simp; done) | (go_simp; with_reducible rfl)
    try simp only [List.set_cons_zero, List.set_cons_succ]
    refine tk (v := ?_) 10 hA3 ?_ ?_
    rotate_left
    · intro w' hSw
      first | (go_simp; done) | (go_simp; with_reducible rfl)
    try simp only [List.set_cons_zero, List.set_cons_succ]
    refine wpAnyH_ready (rs := [11]) (by kernel_rfl) (by simp) ?_
    refine AllReadyH.cons rfl (fun K hK => ?_) AllReadyH.nil
    go_simp
    go_wp2_with (go_at_call 9; (with_reducible refine (HAw.out _ hA3).mono ?_); rintro e7 w7 ⟨rfl, hB7⟩)
    have hA4 := hA3.trans (hB7.mono hA3.size)
    refine hK.out _ _ hA4 (fun _ => ?_)
    clear hK K
    try simp only [Act.put, List.getElem_toArray, List.getElem_cons_zero, List.getElem_cons_succ, List.setIfInBounds_toArray, List.set_cons_zero, List.set_cons_succ]
    refine tk (v := ?_) 12 hA4 ?_ ?_
    rotate_left
    · intro w' hSw
      first | (go_simp; done) | (go_simp; with_reducible rfl)
    try simp only [List.set_cons_zero, List.set_cons_succ]
    refine tk (v := ?_) 13 hA4 ?_ ?_
    rotate_left
    · intro w' hSw
      first | (go_simp; done) | (go_simp; with_reducible rfl)
    try simp only [List.set_cons_zero, List.set_cons_succ]
    refine wpAnyH_done (by kernel_rfl) ?_ _
    try simp only [Act.put, List.getElem_toArray, List.getElem_cons_zero, List.getElem_cons_succ, List.setIfInBounds_toArray, List.set_cons_zero, List.set_cons_succ]
    have HA4 := hide hA4
    go_wp2_with fail
    go_ret
    exact ⟨rfl, Hb0.out.trans ((HBc.out.trans (HA4.out.mono HBc.out.size)).mono Hb0.out.size)⟩
  · go_wp2_with (go_at_call 9; (with_reducible refine (HAw0.out _ hBq).mono ?_); rintro e2 w2 ⟨rfl, hB2⟩; have HB2 := hide (hBq.trans (hB2.mono hBq.size)); clear hB2)
    go_ret
    exact ⟨rfl, Hb0.out.trans (HB2.out.mono Hb0.out.size)⟩

end Go.Proofs.YtjjaojnglnpgaaaGreatDoor
