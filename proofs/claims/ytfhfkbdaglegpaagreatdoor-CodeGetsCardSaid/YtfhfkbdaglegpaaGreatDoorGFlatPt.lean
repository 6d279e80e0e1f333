/- Rows of Patches lie apart (kit.flatPatches). Printed by gen_flatk.py. -/
import Derived.Deep.RegionHeld3
import Derived.Deep.CutBlock
import Derived.Deep.DeepCutAuto
import Derived.BigQuiet
import Derived.Test.YtfhfkbdaglegpaaGreatDoorGFlatG

set_option linter.unusedVariables false
set_option linter.unusedSimpArgs false

namespace Go.Proofs.YtfhfkbdaglegpaaGreatDoor
open Go.RowKit

theorem InfoRPatches : (Tryz.prog.info? 49).map (fun i => (i.zero, i.size, i.bytes)) = some (some (.slice none 0 0), 1, 24) := by kernel_rfl
theorem InfoEPatches : (Tryz.prog.info? 32).map (fun i => (i.zero, i.size, i.bytes)) = some (some (.agg #[.int .u8 0, .string ByteArray.empty, .string ByteArray.empty, .int .i64 0, .slice none 0 0, .slice none 0 0, .int .u8 0, .slice none 0 0, .int .i64 0, .int .i64 0, .string ByteArray.empty, .string ByteArray.empty, .slice none 0 0, .slice none 0 0]), 14, 224) := by kernel_rfl

def mkP (j i : Nat) : List Value := [.int .u8 ((1000003 * ((j : Int) + 7) + (i : Int)) % 251), .string (mT (j : Int) (i : Int)), .string ⟨#[]⟩, .int .i64 0, .slice none 0 0, .slice none 0 0, .int .u8 0, .slice none 0 0, .int .i64 0, .int .i64 0, .string ⟨#[]⟩, .string ⟨#[]⟩, .slice none 0 0, .slice none 0 0]
theorem mkP_len (j i : Nat) : (mkP j i).length = 14 := rfl
theorem mkP_one (j i : Nat) : ∀ u ∈ mkP j i, u.oneCell' = true := by
  intro u hu
  simp only [mkP, List.mem_cons, List.not_mem_nil, or_false] at hu
  rcases hu with rfl | rfl | rfl | rfl | rfl | rfl | rfl | rfl | rfl | rfl | rfl | rfl | rfl | rfl <;> rfl
set_option maxHeartbeats 16000000 in
set_option maxRecDepth 1000000 in
theorem flatPatches_any {w : World} {B K LB c : Nat} {vs : Nat → Value} {ns : Nat → Nat} {T0 : Nat → Option Nat} (hR : RowsG 14 mkP 32 B K vs ns (fun _ => 0) T0 w) (hls : ∀ j, j < K → w.cell? ⟨LB, j, none⟩ = some (vs j)) (hT : T0 LB = none) (hn : ∀ j, j < K → ns j ≤ 1073741824) (hK : K ≤ 1073741824) (hB : B ≤ w.heap.size) (hLB : LB < w.heap.size) :
    Calls Tryz.prog 81 #[.slice (some ⟨LB, 0, none⟩) K c] w fun e w' => e = .returned (.bool true) ∧ Below B w w' ∧ ∀ b, b < w.heap.size → T0 b = none → w'.heap[b]? = w.heap[b]? := by
  obtain ⟨i1, hi1, hz11, hz12, hz13⟩ := info_parts InfoRPatches
  obtain ⟨i2, hi2, hz21, hz22, hz23⟩ := info_parts InfoEPatches
  have HF : Hid (FbG 14 mkP 32 w LB K B vs ns (fun _ => 0) T0 w) := hide ⟨hR, ⟨hLB, hT, fun _ _ _ => rfl⟩, Below.refl _ _⟩
  have Hls := hide hls
  have Hn := hide hn
  have hmk : Hid (∀ (a b : Nat) (W : World), a ≤ 1099511627776 → b ≤ 2199023255552 → Calls Tryz.prog 134 #[.int .i64 a, .int .i64 b] W fun e w' => e = .returned (.agg #[.int .u8 ((1000003 * ((a : Int) + 7) + (b : Int)) % 251), .string (mT (a : Int) (b : Int)), .string ⟨#[]⟩, .int .i64 0, .slice none 0 0, .slice none 0 0, .int .u8 0, .slice none 0 0, .int .i64 0, .int .i64 0, .string ⟨#[]⟩, .string ⟨#[]⟩, .slice none 0 0, .slice none 0 0]) ∧ Below W.heap.size W w') := hide fun a b W h1 h2 => markPatch_all (a : Int) (b : Int) ⟨by omega, by omega⟩ ⟨by omega, by omega⟩ W
  clear hR hls hn
  go_enter Tryz.func81, Tryz.ntmps81
  go_wp2_with fail
  -- the marks
  go_loopg [3] K (fun g k wr => ∃ q : Nat, q ≤ K ∧ g = K - q ∧ k = .int .i64 q ∧ Hid (FbG 14 mkP 32 w LB K B vs ns (fun j => if j < q then ns j else 0) T0 wr))
  case atStart => exact ⟨0, by omega, by omega, rfl, hide (HF.out.mono fun j _ => by simp)⟩
  case round =>
  clear HF
  obtain ⟨q, hq, hg, rfl, HF⟩ := hrel
  by_cases hlt : q < K
  · have hnq := Hn.out q hlt
    go_wp2_with fail
    go_loopg [4] (ns q) (fun g i wx => ∃ r : Nat, r ≤ ns q ∧ g = ns q - r ∧ i = .int .i64 r ∧ Hid (FbG 14 mkP 32 w LB K B vs ns (fun j => if j < q then ns j else if j = q then r else 0) T0 wx))
    case atStart => exact ⟨0, by omega, by omega, rfl, hide (HF.out.mono fun j _ => by by_cases h : j < q <;> simp [h])⟩
    case round =>
    clear HF
    obtain ⟨r, hr, hg2, rfl, HF⟩ := hrel
    by_cases hlt2 : r < ns q
    · obtain ⟨g0, c0, hv, hTg, hBg, hgl, hcs, hf, _⟩ := HF.out.1.at_ hlt hlt2 (by decide)
      obtain ⟨u0, hu0⟩ := hcs 0 (by decide)
      obtain ⟨u1, hu1⟩ := hcs 1 (by decide)
      obtain ⟨u2, hu2⟩ := hcs 2 (by decide)
      obtain ⟨u3, hu3⟩ := hcs 3 (by decide)
      obtain ⟨u4, hu4⟩ := hcs 4 (by decide)
      obtain ⟨u5, hu5⟩ := hcs 5 (by decide)
      obtain ⟨u6, hu6⟩ := hcs 6 (by decide)
      obtain ⟨u7, hu7⟩ := hcs 7 (by decide)
      obtain ⟨u8, hu8⟩ := hcs 8 (by decide)
      obtain ⟨u9, hu9⟩ := hcs 9 (by decide)
      obtain ⟨u10, hu10⟩ := hcs 10 (by decide)
      obtain ⟨u11, hu11⟩ := hcs 11 (by decide)
      obtain ⟨u12, hu12⟩ := hcs 12 (by decide)
      obtain ⟨u13, hu13⟩ := hcs 13 (by decide)
      simp only [Nat.add_zero] at hu0
      have hh := HF.out.head (Hls.out q hlt)
      rw [hv] at hh
      have hgL2 : LB ≠ g0 := fun e => by rw [← e, hT] at hTg; cases hTg
      have hgL : g0 ≠ LB := Ne.symm hgL2
      have hLw : LB < wr.drew.heap.size := World.block_lt_of_cell? _ _ hh
      have Hv := hide hv
      have HTg := hide hTg
      clear hv hTg hcs
      have HC : Hid (∀ W, Calls Tryz.prog 134 #[.int .i64 q, .int .i64 r] W fun e w' => e = .returned (.agg #[.int .u8 ((1000003 * ((q : Int) + 7) + (r : Int)) % 251), .string (mT (q : Int) (r : Int)), .string ⟨#[]⟩, .int .i64 0, .slice none 0 0, .slice none 0 0, .int .u8 0, .slice none 0 0, .int .i64 0, .int .i64 0, .string ⟨#[]⟩, .string ⟨#[]⟩, .slice none 0 0, .slice none 0 0]) ∧ Below W.heap.size W w') := hide fun W => hmk.out q r W (by omega) (by omega)
      have hgl : g0 < wr.drew.heap.size := hgl
      have hu0 : wr.drew.cell? ⟨g0, r * 14, none⟩ = some u0 := hu0
      have hu1 : wr.drew.cell? ⟨g0, r * 14 + 1, none⟩ = some u1 := hu1
      have hu2 : wr.drew.cell? ⟨g0, r * 14 + 2, none⟩ = some u2 := hu2
      have hu3 : wr.drew.cell? ⟨g0, r * 14 + 3, none⟩ = some u3 := hu3
      have hu4 : wr.drew.cell? ⟨g0, r * 14 + 4, none⟩ = some u4 := hu4
      have hu5 : wr.drew.cell? ⟨g0, r * 14 + 5, none⟩ = some u5 := hu5
      have hu6 : wr.drew.cell? ⟨g0, r * 14 + 6, none⟩ = some u6 := hu6
      have hu7 : wr.drew.cell? ⟨g0, r * 14 + 7, none⟩ = some u7 := hu7
      have hu8 : wr.drew.cell? ⟨g0, r * 14 + 8, none⟩ = some u8 := hu8
      have hu9 : wr.drew.cell? ⟨g0, r * 14 + 9, none⟩ = some u9 := hu9
      have hu10 : wr.drew.cell? ⟨g0, r * 14 + 10, none⟩ = some u10 := hu10
      have hu11 : wr.drew.cell? ⟨g0, r * 14 + 11, none⟩ = some u11 := hu11
      have hu12 : wr.drew.cell? ⟨g0, r * 14 + 12, none⟩ = some u12 := hu12
      have hu13 : wr.drew.cell? ⟨g0, r * 14 + 13, none⟩ = some u13 := hu13
      have hf : ∀ o, wr.drew.frozen? ⟨g0, o, none⟩ = false := hf
      go_upto_region 7 with fail
      go_region_held3 (fun w' => w'.cell? ⟨LB, q, none⟩ = some (.slice (some ⟨g0, 0, none⟩) (ns q) c0) ∧ True) (go_keep) (first | (go_at_call 134; (with_reducible refine (HC.out _).mono ?_); rintro e w1 ⟨rfl, hB1⟩; have hzL := (hB1.cell (p := ⟨LB, q, none⟩) hLw).trans hh; have hzf : ∀ o, w1.frozen? ⟨g0, o, none⟩ = false := fun o => (hB1.frozen (p := ⟨g0, o, none⟩) hgl).trans (hf o); have hz0 := (hB1.cell (p := ⟨g0, r * 14, none⟩) hgl).trans hu0; have hz1 := (hB1.cell (p := ⟨g0, r * 14 + 1, none⟩) hgl).trans hu1; have hz2 := (hB1.cell (p := ⟨g0, r * 14 + 2, none⟩) hgl).trans hu2; have hz3 := (hB1.cell (p := ⟨g0, r * 14 + 3, none⟩) hgl).trans hu3; have hz4 := (hB1.cell (p := ⟨g0, r * 14 + 4, none⟩) hgl).trans hu4; have hz5 := (hB1.cell (p := ⟨g0, r * 14 + 5, none⟩) hgl).trans hu5; have hz6 := (hB1.cell (p := ⟨g0, r * 14 + 6, none⟩) hgl).trans hu6; have hz7 := (hB1.cell (p := ⟨g0, r * 14 + 7, none⟩) hgl).trans hu7; have hz8 := (hB1.cell (p := ⟨g0, r * 14 + 8, none⟩) hgl).trans hu8; have hz9 := (hB1.cell (p := ⟨g0, r * 14 + 9, none⟩) hgl).trans hu9; have hz10 := (hB1.cell (p := ⟨g0, r * 14 + 10, none⟩) hgl).trans hu10; have hz11 := (hB1.cell (p := ⟨g0, r * 14 + 11, none⟩) hgl).trans hu11; have hz12 := (hB1.cell (p := ⟨g0, r * 14 + 12, none⟩) hgl).trans hu12; have hz13 := (hB1.cell (p := ⟨g0, r * 14 + 13, none⟩) hgl).trans hu13; have HB1 := hide hB1))
      go_wp2_with fail
      go_roundg (ns q - (r + 1))
      case measure => omega
      case rel =>
        refine ⟨r + 1, by omega, rfl, by go_num, hide ?_⟩
        refine FbG.mono (FbG.mark (HF.out.below hB (blw_undrew HB1.out)) hlt hlt2 (by simp) Hv.out HTg.out hBg rfl ?_) fun j _ => by by_cases h1 : j = q <;> simp [h1]
        first | rfl | (simp [World.setCells, mkP]; done)
    · obtain ⟨A, c0, hv⟩ := HF.out.1.shape hlt
      have hh := HF.out.head (Hls.out q hlt)
      rw [hv] at hh
      clear hv
      go_wp2_with fail
      go_roundg (K - (q + 1))
      case measure => omega
      case rel =>
        have hr2 : r = ns q := by omega
        exact ⟨q + 1, by omega, rfl, by go_num, hide (HF.out.mono fun j _ => by
          by_cases h1 : j < q
          · simp [h1, Nat.lt_succ_of_lt h1]
          · by_cases h2 : j = q
            · subst h2; simp [hr2]
            · have h3 : ¬ j < q + 1 := by omega
              simp [h1, h2, h3])⟩
  · have hqK : q = K := by omega
    subst hqK
    have hKm : (q : Int) ≤ 549755813888 := by omega
    -- the grown rows
    go_wp2_with (at_make; refine wpList_make_full _ rfl _ _ 50 rfl 0 49 i1 (.slice none 0 0) 1 Tryz.underlying50 hi1 hz11 hz12 _ _ _ _ q rfl rfl rfl rfl (by rw [hz13]; omega) (by unfold maxLen; omega) (Nat.zero_le _) ?_)
    intro w1 hown hgrow
    have HP0 : Hid (∀ xs, w1.ownsRow 0 49 1 (.slice (some ⟨wr.heap.size, 0, none⟩) q q) q xs → FgG 14 mkP 32 49 w LB wr.heap.size q B vs ns T0 T0 xs (fun j => j < 0) (fun j => ns j + 64) w1) := hide fun xs hx => by
      have hF := HF.out
      have hz := hF.2.2.size
      have hTG : T0 wr.heap.size = none := by
        cases h : T0 wr.heap.size with
        | none => rfl
        | some j => exact absurd (hF.1.lt wr.heap.size (by rw [h]; exact fun e => by cases e)).2 (Nat.lt_irrefl _)
      exact ⟨(hF.1.mono fun j hj => by simp [hj]).still ⟨hgrow.size, fun b hb _ => hgrow.block b hb (by simp)⟩, fun _ _ => rfl, hTG, hx, fun j hj => absurd hj (Nat.not_lt_zero _), fun b hb h0 => (hgrow.block b (Nat.lt_of_lt_of_le hb hz) (by simp)).trans (hF.2.1.2.2 b hb h0), hF.2.2.trans ((Below.refl _ _).grown hgrow (Nat.le_trans hB hz) (by simp)), Nat.le_trans hB hz, hB, hz, hLB, hT⟩
    have HP := hide (HP0.out _ hown)
    clear HP0 hown hgrow HF
    generalize wr.heap.size = GB at HP ⊢
    go_wp2_with fail
    go_loopg [6] q (fun g k wx => ∃ (s : Nat) (T : Nat → Option Nat) (xs : List Value), s ≤ q ∧ g = q - s ∧ k = .int .i64 s ∧ Hid (FgG 14 mkP 32 49 w LB GB q B vs ns T0 T xs (fun j => j < s) (fun j => ns j + 64) wx))
    case atStart => exact ⟨0, T0, _, by omega, by omega, rfl, HP⟩
    case round =>
    clear HP
    obtain ⟨s, T1, xs, hs, hg3, rfl, HP⟩ := hrel
    by_cases hlt : s < q
    · have hns := Hn.out s hlt
      obtain ⟨A, c0, hv⟩ := HP.out.rows.shape hlt
      have hh := HP.out.head (Hls.out s hlt)
      rw [hv] at hh
      have Hv := hide hv
      clear hv
      go_wp2_with fail
      go_loopg [7, 8] 64 (fun g v i wx => ∃ (r : Nat) (T : Nat → Option Nat), r ≤ 64 ∧ g = 64 - r ∧ i = .int .i64 r ∧ Hid (FgG 14 mkP 32 49 w LB GB q B vs ns T0 T xs (fun j => j < s) (fun j => ns j + 64) wx) ∧ Hid (wx.ownsRow B 32 14 v (ns s + r) (marksG mkP s (ns s + r)) ∧ ∀ g, v.ownBlock = some g → T g = some s))
      case atStart => exact ⟨0, T1, by omega, by omega, rfl, HP, hide (by rw [← Hv.out]; exact ⟨HP.out.rows.full hlt rfl, HP.out.rows.tag s hlt⟩)⟩
      case round =>
      clear HP hh
      obtain ⟨r, T2, hr, hg4, rfl, HP, HO⟩ := hrel
      by_cases hlt2 : r < 64
      · have hh := HP.out.head (Hls.out s hlt)
        rw [Hv.out] at hh
        have hz := HP.out.b.size
        have HC : Hid (∀ W, Calls Tryz.prog 134 #[.int .i64 s, .int .i64 ((ns s : Int) + r)] W fun e w' => e = .returned (.agg #[.int .u8 ((1000003 * ((s : Int) + 7) + (((ns s + r : Nat) : Int) : Int)) % 251), .string (mT (s : Int) (((ns s + r : Nat) : Int) : Int)), .string ⟨#[]⟩, .int .i64 0, .slice none 0 0, .slice none 0 0, .int .u8 0, .slice none 0 0, .int .i64 0, .int .i64 0, .string ⟨#[]⟩, .string ⟨#[]⟩, .slice none 0 0, .slice none 0 0]) ∧ Below W.heap.size W w') := hide fun W => hmk.out s (ns s + r) W (by omega) (by omega)
        simp only [Int.natCast_add] at HC
        go_wp2_with (first
          | (go_at_call 134; (with_reducible refine (HC.out _).mono ?_); rintro e w1 ⟨rfl, hB1⟩; have HP1 := hide (HP.out.below hB1); have HO1 := hide (own_bel HO.out.1 hB1); have hsz1 := hB1.size; clear hB1)
          | (at_builtin; refine wpList_row rfl _ _ 49 rfl B 32 Tryz.underlying49 InfoEPatches rfl (by decide) _ (ns s + r) (marksG mkP s (ns s + r)) rfl (HO1.out.alloc _) (some ⟨w1.heap.size, 0, none⟩) 1 1 (mkP s (ns s + r)) rfl (by simp) rfl (fun ad e => by injection e with e; subst e; exact cells_list_new w1 (mkP s (ns s + r)) _) (mkP_one _ _) (by unfold maxLen; omega) (by omega) (Nat.le_trans (Nat.le_trans hB (Nat.le_trans hz hsz1)) (by simp)) ?_))
        intro v1 w2 h1 hg1 hw1
        have HA := hide ((HP1.out.alloc _).append (by decide) hlt (fun j hj => by omega) (HO1.out.alloc _) HO.out.2 h1 hg1 hw1 (marksG_take mkP_len (by omega)) (by omega))
        have H1 := hide h1
        clear h1 hg1 hw1
        go_wp2
        go_roundg (64 - (r + 1))
        case measure => omega
        case rel => exact ⟨r + 1, _, by omega, rfl, by go_num, hide HA.out.1, hide ⟨by have := H1.out; rw [show ns s + (r + 1) = ns s + r + 1 from rfl, marksG_next]; exact this, HA.out.2⟩⟩
      · have hr64 : r = 64 := by omega
        subst hr64
        obtain ⟨⟨u, hu⟩, hf⟩ := HP.out.place hlt
        obtain ⟨A2, c2, rfl⟩ := own_shape HO.out.1
        go_wp2_with fail
        go_roundg (q - (s + 1))
        case measure => omega
        case rel => exact ⟨s + 1, T2, _, by omega, rfl, by go_num, hide (HP.out.put hlt (GsG.of_own (xs := []) mkP_len (by simpa using HO.out.1) (by omega) (by omega) HO.out.2) (fun j hj => by rcases Nat.lt_succ_iff_lt_or_eq.1 hj with h | h; exact .inr ⟨by omega, h, Nat.le_refl _⟩; exact .inl h))⟩
    · have hsq : s = q := by omega
      subst hsq
      -- what was written is there
      go_wp2_with fail
      go_loopg [9] s (fun g k wx => ∃ a : Nat, a ≤ s ∧ g = s - a ∧ k = .int .i64 a ∧ Hid (FgG 14 mkP 32 49 w LB GB s B vs ns T0 T1 xs (fun j => j < s) (fun j => ns j + 64) wx))
      case atStart => exact ⟨0, by omega, by omega, rfl, HP⟩
      case round =>
      clear HP
      obtain ⟨a, ha, hg5, rfl, HP⟩ := hrel
      by_cases hlt : a < s
      · have hna := Hn.out a hlt
        go_wp2_with fail
        go_loopg [10] (ns a + 64) (fun g i wx => ∃ r : Nat, r ≤ ns a + 64 ∧ g = ns a + 64 - r ∧ i = .int .i64 r ∧ Hid (FgG 14 mkP 32 49 w LB GB s B vs ns T0 T1 xs (fun j => j < s) (fun j => ns j + 64) wx))
        case atStart => exact ⟨0, by omega, by omega, rfl, HP⟩
        case round =>
        clear HP
        obtain ⟨r, hr, hg6, rfl, HP⟩ := hrel
        obtain ⟨g1, c1, hG, hc1, hc2, hm⟩ := HP.out.grown hlt hlt
        by_cases hlt2 : r < ns a + 64
        · have HC : Hid (∀ W, Calls Tryz.prog 134 #[.int .i64 a, .int .i64 r] W fun e w' => e = .returned (.agg #[.int .u8 ((1000003 * ((a : Int) + 7) + (r : Int)) % 251), .string (mT (a : Int) (r : Int)), .string ⟨#[]⟩, .int .i64 0, .slice none 0 0, .slice none 0 0, .int .u8 0, .slice none 0 0, .int .i64 0, .int .i64 0, .string ⟨#[]⟩, .string ⟨#[]⟩, .slice none 0 0, .slice none 0 0]) ∧ Below W.heap.size W w') := hide fun W => hmk.out a r W (by omega) (by omega)
          have x0 : wr.cell? ⟨g1, r * 14, none⟩ = some (.int .u8 ((1000003 * ((a : Int) + 7) + (r : Int)) % 251)) := by have := hm r hlt2 0 _ rfl; exact this
          have x1 : wr.cell? ⟨g1, r * 14 + 1, none⟩ = some (.string (mT (a : Int) (r : Int))) := by have := hm r hlt2 1 _ rfl; exact this
          have x2 : wr.cell? ⟨g1, r * 14 + 2, none⟩ = some (.string ⟨#[]⟩) := by have := hm r hlt2 2 _ rfl; exact this
          have x3 : wr.cell? ⟨g1, r * 14 + 3, none⟩ = some (.int .i64 0) := by have := hm r hlt2 3 _ rfl; exact this
          have x4 : wr.cell? ⟨g1, r * 14 + 4, none⟩ = some (.slice none 0 0) := by have := hm r hlt2 4 _ rfl; exact this
          have x5 : wr.cell? ⟨g1, r * 14 + 5, none⟩ = some (.slice none 0 0) := by have := hm r hlt2 5 _ rfl; exact this
          have x6 : wr.cell? ⟨g1, r * 14 + 6, none⟩ = some (.int .u8 0) := by have := hm r hlt2 6 _ rfl; exact this
          have x7 : wr.cell? ⟨g1, r * 14 + 7, none⟩ = some (.slice none 0 0) := by have := hm r hlt2 7 _ rfl; exact this
          have x8 : wr.cell? ⟨g1, r * 14 + 8, none⟩ = some (.int .i64 0) := by have := hm r hlt2 8 _ rfl; exact this
          have x9 : wr.cell? ⟨g1, r * 14 + 9, none⟩ = some (.int .i64 0) := by have := hm r hlt2 9 _ rfl; exact this
          have x10 : wr.cell? ⟨g1, r * 14 + 10, none⟩ = some (.string ⟨#[]⟩) := by have := hm r hlt2 10 _ rfl; exact this
          have x11 : wr.cell? ⟨g1, r * 14 + 11, none⟩ = some (.string ⟨#[]⟩) := by have := hm r hlt2 11 _ rfl; exact this
          have x12 : wr.cell? ⟨g1, r * 14 + 12, none⟩ = some (.slice none 0 0) := by have := hm r hlt2 12 _ rfl; exact this
          have x13 : wr.cell? ⟨g1, r * 14 + 13, none⟩ = some (.slice none 0 0) := by have := hm r hlt2 13 _ rfl; exact this
          clear hm
          have hh := HP.out.head (Hls.out a hlt)
          have hlow : ∀ {p : Addr} {v : Value}, wr.cell? p = some v → ∀ W, Below wr.heap.size wr W → W.cell? p = some v := fun h W hW => (World.cell?_of_block (hW.block _ (block_lt_of_cell h))).trans h
          by_cases hlt3 : r < ns a
          · obtain ⟨g0, c0, hv, _, _, _, _, _, hm0⟩ := HP.out.rows.at_ hlt hlt3 (by decide)
            have y0 : wr.cell? ⟨g0, r * 14, none⟩ = some (.int .u8 ((1000003 * ((a : Int) + 7) + (r : Int)) % 251)) := by have := hm0 hlt3 0 _ rfl; exact this
            have y1 : wr.cell? ⟨g0, r * 14 + 1, none⟩ = some (.string (mT (a : Int) (r : Int))) := by have := hm0 hlt3 1 _ rfl; exact this
            have y2 : wr.cell? ⟨g0, r * 14 + 2, none⟩ = some (.string ⟨#[]⟩) := by have := hm0 hlt3 2 _ rfl; exact this
            have y3 : wr.cell? ⟨g0, r * 14 + 3, none⟩ = some (.int .i64 0) := by have := hm0 hlt3 3 _ rfl; exact this
            have y4 : wr.cell? ⟨g0, r * 14 + 4, none⟩ = some (.slice none 0 0) := by have := hm0 hlt3 4 _ rfl; exact this
            have y5 : wr.cell? ⟨g0, r * 14 + 5, none⟩ = some (.slice none 0 0) := by have := hm0 hlt3 5 _ rfl; exact this
            have y6 : wr.cell? ⟨g0, r * 14 + 6, none⟩ = some (.int .u8 0) := by have := hm0 hlt3 6 _ rfl; exact this
            have y7 : wr.cell? ⟨g0, r * 14 + 7, none⟩ = some (.slice none 0 0) := by have := hm0 hlt3 7 _ rfl; exact this
            have y8 : wr.cell? ⟨g0, r * 14 + 8, none⟩ = some (.int .i64 0) := by have := hm0 hlt3 8 _ rfl; exact this
            have y9 : wr.cell? ⟨g0, r * 14 + 9, none⟩ = some (.int .i64 0) := by have := hm0 hlt3 9 _ rfl; exact this
            have y10 : wr.cell? ⟨g0, r * 14 + 10, none⟩ = some (.string ⟨#[]⟩) := by have := hm0 hlt3 10 _ rfl; exact this
            have y11 : wr.cell? ⟨g0, r * 14 + 11, none⟩ = some (.string ⟨#[]⟩) := by have := hm0 hlt3 11 _ rfl; exact this
            have y12 : wr.cell? ⟨g0, r * 14 + 12, none⟩ = some (.slice none 0 0) := by have := hm0 hlt3 12 _ rfl; exact this
            have y13 : wr.cell? ⟨g0, r * 14 + 13, none⟩ = some (.slice none 0 0) := by have := hm0 hlt3 13 _ rfl; exact this
            rw [hv] at hh
            clear hm0 hv
            go_wp2_with fail
            replace hh := hlow hh
            replace hG := hlow hG
            replace x0 := hlow x0
            replace y0 := hlow y0
            replace x1 := hlow x1
            replace y1 := hlow y1
            replace x2 := hlow x2
            replace y2 := hlow y2
            replace x3 := hlow x3
            replace y3 := hlow y3
            replace x4 := hlow x4
            replace y4 := hlow y4
            replace x5 := hlow x5
            replace y5 := hlow y5
            replace x6 := hlow x6
            replace y6 := hlow y6
            replace x7 := hlow x7
            replace y7 := hlow y7
            replace x8 := hlow x8
            replace y8 := hlow y8
            replace x9 := hlow x9
            replace y9 := hlow y9
            replace x10 := hlow x10
            replace y10 := hlow y10
            replace x11 := hlow x11
            replace y11 := hlow y11
            replace x12 := hlow x12
            replace y12 := hlow y12
            replace x13 := hlow x13
            replace y13 := hlow y13
            clear hlow
            have hd1 : Below wr.heap.size wr wr.drew := blw_drewN (Below.refl _ _) 1
            refine wp_region_held_drew (S := Below wr.heap.size wr) (by kernel_rfl) hd1 (fun hHeld => ?_)
            generalize wr.drew = wD at hHeld ⊢
            refine tk (v := ?_) 0 hHeld ?_ ?_
            rotate_left
            · intro w' hSw
              first | (go_simp; done) | (go_simp; with_reducible rfl)
            try simp only [List.set_cons_zero, List.set_cons_succ]
            refine tk (v := ?_) 1 hHeld ?_ ?_
            rotate_left
            · intro w' hSw
              first | (go_simp; done) | (go_simp; with_reducible rfl)
            try simp only [List.set_cons_zero, List.set_cons_succ]
            refine tk (v := ?_) 2 hHeld ?_ ?_
            rotate_left
            · intro w' hSw
              first | (go_simp; done) | (go_simp; with_reducible rfl)
            try simp only [List.set_cons_zero, List.set_cons_succ]
            refine tk (v := ?_) 3 hHeld ?_ ?_
            rotate_left
            · intro w' hSw
              have hG' := hG w' hSw
              first | (go_simp; done) | (go_simp; with_reducible rfl)
            try simp only [List.set_cons_zero, List.set_cons_succ]
            refine tk (v := ?_) 4 hHeld ?_ ?_
            rotate_left
            · intro w' hSw
              first | (go_simp; done) | (go_simp; with_reducible rfl)
            try simp only [List.set_cons_zero, List.set_cons_succ]
            refine tk (v := ?_) 5 hHeld ?_ ?_
            rotate_left
            · intro w' hSw
              first | (go_simp; done) | (go_simp; with_reducible rfl)
            try simp only [List.set_cons_zero, List.set_cons_succ]
            refine tk (v := ?_) 6 hHeld ?_ ?_
            rotate_left
            · intro w' hSw
              have x0' := x0 w' hSw
              have x1' := x1 w' hSw
              have x2' := x2 w' hSw
              have x3' := x3 w' hSw
              have x4' := x4 w' hSw
              have x5' := x5 w' hSw
              have x6' := x6 w' hSw
              have x7' := x7 w' hSw
              have x8' := x8 w' hSw
              have x9' := x9 w' hSw
              have x10' := x10 w' hSw
              have x11' := x11 w' hSw
              have x12' := x12 w' hSw
              have x13' := x13 w' hSw
              first | (go_simp; done) | (go_simp; with_reducible rfl)
            try simp only [List.set_cons_zero, List.set_cons_succ]
            refine tk (v := ?_) 7 hHeld ?_ ?_
            rotate_left
            · intro w' hSw
              first | (go_simp; done) | (go_simp; with_reducible rfl)
            try simp only [List.set_cons_zero, List.set_cons_succ]
            refine tk (v := ?_) 8 hHeld ?_ ?_
            rotate_left
            · intro w' hSw
              first | (go_simp; done) | (go_simp; with_reducible rfl)
            try simp only [List.set_cons_zero, List.set_cons_succ]
            refine wpAnyH_ready (rs := [9]) (by kernel_rfl) (by simp) ?_
            refine AllReadyH.cons rfl (fun K hK => ?_) AllReadyH.nil
            go_simp
            go_wp2_with (go_at_call 134; (with_reducible refine (HC.out _).mono ?_); rintro e8 w1 ⟨rfl, hB1⟩)
            have hH1 := hHeld.trans (hB1.mono hHeld.size)
            refine hK.out _ _ hH1 (fun _ => ?_)
            clear hK K
            try simp only [Act.put, List.getElem_toArray, List.getElem_cons_zero, List.getElem_cons_succ, List.setIfInBounds_toArray, List.set_cons_zero, List.set_cons_succ]
            refine wpAnyH_ready (rs := [10]) (by kernel_rfl) (by simp) ?_
            refine AllReadyH.cons rfl (fun K hK => ?_) AllReadyH.nil
            go_simp
            go_wp2_with (go_at_call 17; (with_reducible refine (sameMarkP _ (by omega) _ (mT_size _ _) _).mono ?_); rintro e9 w2 ⟨rfl, hB2⟩)
            have hH2 := hH1.trans (hB2.mono hH1.size)
            refine hK.out _ _ hH2 (fun _ => ?_)
            clear hK K
            try simp only [Act.put, List.getElem_toArray, List.getElem_cons_zero, List.getElem_cons_succ, List.setIfInBounds_toArray, List.set_cons_zero, List.set_cons_succ]
            refine tk (v := ?_) 11 hH2 ?_ ?_
            rotate_left
            · intro w' hSw
              first | (go_simp; done) | (go_simp; with_reducible rfl)
            try simp only [List.set_cons_zero, List.set_cons_succ]
            refine tk (v := ?_) 12 hH2 ?_ ?_
            rotate_left
            · intro w' hSw
              first | (go_simp; done) | (go_simp; with_reducible rfl)
            try simp only [List.set_cons_zero, List.set_cons_succ]
            refine tk (v := ?_) 13 hH2 ?_ ?_
            rotate_left
            · intro w' hSw
              first | (go_simp; done) | (go_simp; with_reducible rfl)
            try simp only [List.set_cons_zero, List.set_cons_succ]
            refine tk (v := ?_) 14 hH2 ?_ ?_
            rotate_left
            · intro w' hSw
              first | (go_simp; done) | (go_simp; with_reducible rfl)
            try simp only [List.set_cons_zero, List.set_cons_succ]
            refine tk (v := ?_) 15 hH2 ?_ ?_
            rotate_left
            · intro w' hSw
              first | (go_simp; done) | (go_simp; with_reducible rfl)
            try simp only [List.set_cons_zero, List.set_cons_succ]
            refine tk (v := ?_) 16 hH2 ?_ ?_
            rotate_left
            · intro w' hSw
              first | (go_simp; done) | (go_simp; with_reducible rfl)
            try simp only [List.set_cons_zero, List.set_cons_succ]
            refine tk (v := ?_) 17 hH2 ?_ ?_
            rotate_left
            · intro w' hSw
              have hh' := hh w' hSw
              first | (go_simp; done) | (go_simp; with_reducible rfl)
            try simp only [List.set_cons_zero, List.set_cons_succ]
            refine tk (v := ?_) 18 hH2 ?_ ?_
            rotate_left
            · intro w' hSw
              first | (go_simp; done) | (go_simp; with_reducible rfl)
            try simp only [List.set_cons_zero, List.set_cons_succ]
            refine tk (v := ?_) 19 hH2 ?_ ?_
            rotate_left
            · intro w' hSw
              first | (go_simp; done) | (go_simp; with_reducible rfl)
            try simp only [List.set_cons_zero, List.set_cons_succ]
            refine tk (v := ?_) 20 hH2 ?_ ?_
            rotate_left
            · intro w' hSw
              first | (go_simp; done) | (go_simp; with_reducible rfl)
            try simp only [List.set_cons_zero, List.set_cons_succ]
            refine tk (v := ?_) 21 hH2 ?_ ?_
            rotate_left
            · intro w' hSw
              first | (go_simp; done) | (go_simp; with_reducible rfl)
            try simp only [List.set_cons_zero, List.set_cons_succ]
            refine tk (v := ?_) 22 hH2 ?_ ?_
            rotate_left
            · intro w' hSw
              first | (go_simp; done) | (go_simp; with_reducible rfl)
            try simp only [List.set_cons_zero, List.set_cons_succ]
            refine tk (v := ?_) 23 hH2 ?_ ?_
            rotate_left
            · intro w' hSw
              first | (go_simp; done) | (go_simp; with_reducible rfl)
            try simp only [List.set_cons_zero, List.set_cons_succ]
            refine tk (v := ?_) 24 hH2 ?_ ?_
            rotate_left
            · intro w' hSw
              have hh' := hh w' hSw
              first | (go_simp; done) | (go_simp; with_reducible rfl)
            try simp only [List.set_cons_zero, List.set_cons_succ]
            refine tk (v := ?_) 25 hH2 ?_ ?_
            rotate_left
            · intro w' hSw
              first | (go_simp; done) | (go_simp; with_reducible rfl)
            try simp only [List.set_cons_zero, List.set_cons_succ]
            refine tk (v := ?_) 26 hH2 ?_ ?_
            rotate_left
            · intro w' hSw
              first | (go_simp; done) | (go_simp; with_reducible rfl)
            try simp only [List.set_cons_zero, List.set_cons_succ]
            refine tk (v := ?_) 27 hH2 ?_ ?_
            rotate_left
            · intro w' hSw
              have y0' := y0 w' hSw
              have y1' := y1 w' hSw
              have y2' := y2 w' hSw
              have y3' := y3 w' hSw
              have y4' := y4 w' hSw
              have y5' := y5 w' hSw
              have y6' := y6 w' hSw
              have y7' := y7 w' hSw
              have y8' := y8 w' hSw
              have y9' := y9 w' hSw
              have y10' := y10 w' hSw
              have y11' := y11 w' hSw
              have y12' := y12 w' hSw
              have y13' := y13 w' hSw
              first | (go_simp; done) | (go_simp; with_reducible rfl)
            try simp only [List.set_cons_zero, List.set_cons_succ]
            refine tk (v := ?_) 28 hH2 ?_ ?_
            rotate_left
            · intro w' hSw
              first | (go_simp; done) | (go_simp; with_reducible rfl)
            try simp only [List.set_cons_zero, List.set_cons_succ]
            refine tk (v := ?_) 29 hH2 ?_ ?_
            rotate_left
            · intro w' hSw
              first | (go_simp; done) | (go_simp; with_reducible rfl)
            try simp only [List.set_cons_zero, List.set_cons_succ]
            refine wpAnyH_ready (rs := [30]) (by kernel_rfl) (by simp) ?_
            refine AllReadyH.cons rfl (fun K hK => ?_) AllReadyH.nil
            go_simp
            go_wp2_with (go_at_call 134; (with_reducible refine (HC.out _).mono ?_); rintro e7 w3 ⟨rfl, hB3⟩)
            have hH3 := hH2.trans (hB3.mono hH2.size)
            refine hK.out _ _ hH3 (fun _ => ?_)
            clear hK K
            try simp only [Act.put, List.getElem_toArray, List.getElem_cons_zero, List.getElem_cons_succ, List.setIfInBounds_toArray, List.set_cons_zero, List.set_cons_succ]
            refine wpAnyH_ready (rs := [31]) (by kernel_rfl) (by simp) ?_
            refine AllReadyH.cons rfl (fun K hK => ?_) AllReadyH.nil
            go_simp
            go_wp2_with (go_at_call 17; (with_reducible refine (sameMarkP _ (by omega) _ (mT_size _ _) _).mono ?_); rintro e9 w4 ⟨rfl, hB4⟩)
            have hH4 := hH3.trans (hB4.mono hH3.size)
            refine hK.out _ _ hH4 (fun _ => ?_)
            clear hK K
            try simp only [Act.put, List.getElem_toArray, List.getElem_cons_zero, List.getElem_cons_succ, List.setIfInBounds_toArray, List.set_cons_zero, List.set_cons_succ]
            refine tk (v := ?_) 32 hH4 ?_ ?_
            rotate_left
            · intro w' hSw
              first | (go_simp; done) | (go_simp; with_reducible rfl)
            try simp only [List.set_cons_zero, List.set_cons_succ]
            refine tk (v := ?_) 33 hH4 ?_ ?_
            rotate_left
            · intro w' hSw
              first | (go_simp; done) | (go_simp; with_reducible rfl)
            try simp only [List.set_cons_zero, List.set_cons_succ]
            refine tk (v := ?_) 34 hH4 ?_ ?_
            rotate_left
            · intro w' hSw
              first | (go_simp; done) | (go_simp; with_reducible rfl)
            try simp only [List.set_cons_zero, List.set_cons_succ]
            refine wpAnyH_done (by kernel_rfl) ?_ _
            try simp only [Act.put, List.getElem_toArray, List.getElem_cons_zero, List.getElem_cons_succ, List.setIfInBounds_toArray, List.set_cons_zero, List.set_cons_succ]
            have HB9 := hide (HP.out.below hH4)
            go_wp2_with fail
            go_roundg (ns a + 64 - (r + 1))
            case measure => omega
            case rel => exact ⟨r + 1, by omega, rfl, by go_num, HB9⟩
          · obtain ⟨A, c0, hv⟩ := HP.out.rows.shape hlt
            rw [hv] at hh
            clear hv
            go_wp2_with fail
            replace hh := hlow hh
            replace hG := hlow hG
            replace x0 := hlow x0
            replace x1 := hlow x1
            replace x2 := hlow x2
            replace x3 := hlow x3
            replace x4 := hlow x4
            replace x5 := hlow x5
            replace x6 := hlow x6
            replace x7 := hlow x7
            replace x8 := hlow x8
            replace x9 := hlow x9
            replace x10 := hlow x10
            replace x11 := hlow x11
            replace x12 := hlow x12
            replace x13 := hlow x13
            clear hlow
            have hd1 : Below wr.heap.size wr wr.drew := blw_drewN (Below.refl _ _) 1
            refine wp_region_held_drew (S := Below wr.heap.size wr) (by kernel_rfl) hd1 (fun hHeld => ?_)
            generalize wr.drew = wD at hHeld ⊢
            refine tk (v := ?_) 0 hHeld ?_ ?_
            rotate_left
            · intro w' hSw
              first | (go_simp; done) | (go_simp; with_reducible rfl)
            try simp only [List.set_cons_zero, List.set_cons_succ]
            refine tk (v := ?_) 1 hHeld ?_ ?_
            rotate_left
            · intro w' hSw
              first | (go_simp; done) | (go_simp; with_reducible rfl)
            try simp only [List.set_cons_zero, List.set_cons_succ]
            refine tk (v := ?_) 2 hHeld ?_ ?_
            rotate_left
            · intro w' hSw
              first | (go_simp; done) | (go_simp; with_reducible rfl)
            try simp only [List.set_cons_zero, List.set_cons_succ]
            refine tk (v := ?_) 3 hHeld ?_ ?_
            rotate_left
            · intro w' hSw
              have hG' := hG w' hSw
              first | (go_simp; done) | (go_simp; with_reducible rfl)
            try simp only [List.set_cons_zero, List.set_cons_succ]
            refine tk (v := ?_) 4 hHeld ?_ ?_
            rotate_left
            · intro w' hSw
              first | (go_simp; done) | (go_simp; with_reducible rfl)
            try simp only [List.set_cons_zero, List.set_cons_succ]
            refine tk (v := ?_) 5 hHeld ?_ ?_
            rotate_left
            · intro w' hSw
              first | (go_simp; done) | (go_simp; with_reducible rfl)
            try simp only [List.set_cons_zero, List.set_cons_succ]
            refine tk (v := ?_) 6 hHeld ?_ ?_
            rotate_left
            · intro w' hSw
              have x0' := x0 w' hSw
              have x1' := x1 w' hSw
              have x2' := x2 w' hSw
              have x3' := x3 w' hSw
              have x4' := x4 w' hSw
              have x5' := x5 w' hSw
              have x6' := x6 w' hSw
              have x7' := x7 w' hSw
              have x8' := x8 w' hSw
              have x9' := x9 w' hSw
              have x10' := x10 w' hSw
              have x11' := x11 w' hSw
              have x12' := x12 w' hSw
              have x13' := x13 w' hSw
              first | (go_simp; done) | (go_simp; with_reducible rfl)
            try simp only [List.set_cons_zero, List.set_cons_succ]
            refine tk (v := ?_) 7 hHeld ?_ ?_
            rotate_left
            · intro w' hSw
              first | (go_simp; done) | (go_simp; with_reducible rfl)
            try simp only [List.set_cons_zero, List.set_cons_succ]
            refine tk (v := ?_) 8 hHeld ?_ ?_
            rotate_left
            · intro w' hSw
              first | (go_simp; done) | (go_simp; with_reducible rfl)
            try simp only [List.set_cons_zero, List.set_cons_succ]
            refine wpAnyH_ready (rs := [9]) (by kernel_rfl) (by simp) ?_
            refine AllReadyH.cons rfl (fun K hK => ?_) AllReadyH.nil
            go_simp
            go_wp2_with (go_at_call 134; (with_reducible refine (HC.out _).mono ?_); rintro e8 w1 ⟨rfl, hB1⟩)
            have hH1 := hHeld.trans (hB1.mono hHeld.size)
            refine hK.out _ _ hH1 (fun _ => ?_)
            clear hK K
            try simp only [Act.put, List.getElem_toArray, List.getElem_cons_zero, List.getElem_cons_succ, List.setIfInBounds_toArray, List.set_cons_zero, List.set_cons_succ]
            refine wpAnyH_ready (rs := [10]) (by kernel_rfl) (by simp) ?_
            refine AllReadyH.cons rfl (fun K hK => ?_) AllReadyH.nil
            go_simp
            go_wp2_with (go_at_call 17; (with_reducible refine (sameMarkP _ (by omega) _ (mT_size _ _) _).mono ?_); rintro e9 w2 ⟨rfl, hB2⟩)
            have hH2 := hH1.trans (hB2.mono hH1.size)
            refine hK.out _ _ hH2 (fun _ => ?_)
            clear hK K
            try simp only [Act.put, List.getElem_toArray, List.getElem_cons_zero, List.getElem_cons_succ, List.setIfInBounds_toArray, List.set_cons_zero, List.set_cons_succ]
            refine tk (v := ?_) 11 hH2 ?_ ?_
            rotate_left
            · intro w' hSw
              first | (go_simp; done) | (go_simp; with_reducible rfl)
            try simp only [List.set_cons_zero, List.set_cons_succ]
            refine tk (v := ?_) 12 hH2 ?_ ?_
            rotate_left
            · intro w' hSw
              first | (go_simp; done) | (go_simp; with_reducible rfl)
            try simp only [List.set_cons_zero, List.set_cons_succ]
            refine tk (v := ?_) 13 hH2 ?_ ?_
            rotate_left
            · intro w' hSw
              first | (go_simp; done) | (go_simp; with_reducible rfl)
            try simp only [List.set_cons_zero, List.set_cons_succ]
            refine tk (v := ?_) 14 hH2 ?_ ?_
            rotate_left
            · intro w' hSw
              first | (go_simp; done) | (go_simp; with_reducible rfl)
            try simp only [List.set_cons_zero, List.set_cons_succ]
            refine tk (v := ?_) 15 hH2 ?_ ?_
            rotate_left
            · intro w' hSw
              first | (go_simp; done) | (go_simp; with_reducible rfl)
            try simp only [List.set_cons_zero, List.set_cons_succ]
            refine tk (v := ?_) 16 hH2 ?_ ?_
            rotate_left
            · intro w' hSw
              first | (go_simp; done) | (go_simp; with_reducible rfl)
            try simp only [List.set_cons_zero, List.set_cons_succ]
            refine tk (v := ?_) 17 hH2 ?_ ?_
            rotate_left
            · intro w' hSw
              have hh' := hh w' hSw
              first | (go_simp; done) | (go_simp; with_reducible rfl)
            try simp only [List.set_cons_zero, List.set_cons_succ]
            refine tk (v := ?_) 18 hH2 ?_ ?_
            rotate_left
            · intro w' hSw
              first | (go_simp; done) | (go_simp; with_reducible rfl)
            try simp only [List.set_cons_zero, List.set_cons_succ]
            refine tk (v := ?_) 19 hH2 ?_ ?_
            rotate_left
            · intro w' hSw
              first | (go_simp; done) | (go_simp; with_reducible rfl)
            try simp only [List.set_cons_zero, List.set_cons_succ]
            refine tk (v := ?_) 20 hH2 ?_ ?_
            rotate_left
            · intro w' hSw
              first | (go_simp; done) | (go_simp; with_reducible rfl)
            try simp only [List.set_cons_zero, List.set_cons_succ]
            refine tn 21 hH2 ?_
            try simp only [List.set_cons_zero, List.set_cons_succ]
            refine tn 22 hH2 ?_
            try simp only [List.set_cons_zero, List.set_cons_succ]
            refine tn 23 hH2 ?_
            try simp only [List.set_cons_zero, List.set_cons_succ]
            refine tn 24 hH2 ?_
            try simp only [List.set_cons_zero, List.set_cons_succ]
            refine tn 25 hH2 ?_
            try simp only [List.set_cons_zero, List.set_cons_succ]
            refine tn 26 hH2 ?_
            try simp only [List.set_cons_zero, List.set_cons_succ]
            refine tn 27 hH2 ?_
            try simp only [List.set_cons_zero, List.set_cons_succ]
            refine tn 28 hH2 ?_
            try simp only [List.set_cons_zero, List.set_cons_succ]
            refine tn 29 hH2 ?_
            try simp only [List.set_cons_zero, List.set_cons_succ]
            refine tn 30 hH2 ?_
            try simp only [List.set_cons_zero, List.set_cons_succ]
            refine tn 31 hH2 ?_
            try simp only [List.set_cons_zero, List.set_cons_succ]
            refine tn 32 hH2 ?_
            try simp only [List.set_cons_zero, List.set_cons_succ]
            refine tk (v := ?_) 33 hH2 ?_ ?_
            rotate_left
            · intro w' hSw
              first | (go_simp; done) | (go_simp; with_reducible rfl)
            try simp only [List.set_cons_zero, List.set_cons_succ]
            refine tk (v := ?_) 34 hH2 ?_ ?_
            rotate_left
            · intro w' hSw
              first | (go_simp; done) | (go_simp; with_reducible rfl)
            try simp only [List.set_cons_zero, List.set_cons_succ]
            refine wpAnyH_done (by kernel_rfl) ?_ _
            try simp only [Act.put, List.getElem_toArray, List.getElem_cons_zero, List.getElem_cons_succ, List.setIfInBounds_toArray, List.set_cons_zero, List.set_cons_succ]
            have HB9 := hide (HP.out.below hH2)
            go_wp2_with fail
            go_roundg (ns a + 64 - (r + 1))
            case measure => omega
            case rel => exact ⟨r + 1, by omega, rfl, by go_num, HB9⟩
        · clear hm
          go_wp2_with fail
          go_roundg (s - (a + 1))
          case measure => omega
          case rel => exact ⟨a + 1, by omega, rfl, by go_num, HP⟩
      · have has : a = s := by omega
        subst has
        have HP4 := hide (HP.out.mono (J' := fun j => j < a) (p' := ns) (fun j hj => ⟨hj, by omega⟩))
        clear HP
        -- more is put behind each
        go_wp2_with fail
        go_loopg [11] a (fun g k wx => ∃ (b : Nat) (T : Nat → Option Nat) (xs : List Value), b ≤ a ∧ g = a - b ∧ k = .int .i64 b ∧ Hid (FgG 14 mkP 32 49 w LB GB a B vs ns T0 T xs (fun j => j < a) ns wx))
        case atStart => exact ⟨0, T1, xs, by omega, by omega, rfl, HP4⟩
        case round =>
        clear HP4
        obtain ⟨b, T2, xs2, hb, hg7, rfl, HP⟩ := hrel
        by_cases hlt : b < a
        · have hnb := Hn.out b hlt
          go_wp2_with (at_make; refine wpList_make_full _ rfl _ _ 49 rfl 0 32 i2 (.agg #[.int .u8 0, .string ByteArray.empty, .string ByteArray.empty, .int .i64 0, .slice none 0 0, .slice none 0 0, .int .u8 0, .slice none 0 0, .int .i64 0, .int .i64 0, .string ByteArray.empty, .string ByteArray.empty, .slice none 0 0, .slice none 0 0]) 14 Tryz.underlying49 hi2 hz21 hz22 _ _ _ _ 64 rfl rfl rfl rfl (by rw [hz23]; omega) (by unfold maxLen; omega) (Nat.zero_le _) ?_)
          intro w1 hown hgrow
          have hBw := Nat.le_trans hB HP.out.b.size
          have hM1 : T2 wr.heap.size = none := by
            cases h : T2 wr.heap.size with
            | none => rfl
            | some j => exact absurd (HP.out.rows.lt wr.heap.size (by rw [h]; exact fun e => by cases e)).2 (Nat.lt_irrefl _)
          have hM2 : wr.heap.size ≠ GB := by have := HP.out.gb; omega
          have hM3 : w.heap.size ≤ wr.heap.size := HP.out.b.size
          have HQ := hide (HP.out.still hgrow.size (fun k hk _ => hgrow.block k hk (by simp)) ((Below.refl _ _).grown hgrow hBw (by simp)))
          obtain ⟨ys0, HO⟩ : ∃ ys, Hid (w1.ownsRow 0 32 14 (.slice (some ⟨wr.heap.size, 0, none⟩) 64 64) 64 (marksG mkP (b + a) 0 ++ ys)) := ⟨_, hide (by rw [marksG_zero, List.nil_append]; exact hown)⟩
          clear hown hgrow HP
          generalize wr.heap.size = MB at HO hBw hM1 hM2 hM3 ⊢
          go_wp2_with fail
          go_loopg [13] 64 (fun g i wx => ∃ (r : Nat) (ys : List Value), r ≤ 64 ∧ g = 64 - r ∧ i = .int .i64 r ∧ Hid (FgG 14 mkP 32 49 w LB GB a B vs ns T0 T2 xs2 (fun j => j < a) ns wx) ∧ Hid (wx.ownsRow 0 32 14 (.slice (some ⟨MB, 0, none⟩) 64 64) 64 (marksG mkP (b + a) r ++ ys)))
          case atStart => exact ⟨0, _, by omega, by omega, rfl, HQ, HO⟩
          case round =>
          clear HQ HO
          obtain ⟨r, ys, hr, hg8, rfl, HP, HO⟩ := hrel
          by_cases hlt2 : r < 64
          · have HC : Hid (∀ W, Calls Tryz.prog 134 #[.int .i64 ((b : Int) + a), .int .i64 r] W fun e w' => e = .returned (.agg #[.int .u8 ((1000003 * ((((b + a : Nat) : Int) : Int) + 7) + (r : Int)) % 251), .string (mT (((b + a : Nat) : Int) : Int) (r : Int)), .string ⟨#[]⟩, .int .i64 0, .slice none 0 0, .slice none 0 0, .int .u8 0, .slice none 0 0, .int .i64 0, .int .i64 0, .string ⟨#[]⟩, .string ⟨#[]⟩, .slice none 0 0, .slice none 0 0]) ∧ Below W.heap.size W w') := hide fun W => hmk.out (b + a) r W (by omega) (by omega)
            simp only [Int.natCast_add] at HC
            have hl := HO.out.1
            go_wp2_with (go_at_call 134; (with_reducible refine (HC.out _).mono ?_); rintro e w1 ⟨rfl, hB1⟩; have HP1 := hide (HP.out.below hB1); have HO1 := hide (own_bel HO.out hB1); clear hB1; have hf1 := HO1.out.frozenAt; obtain ⟨u0, hu0⟩ : ∃ u, w1.cell? ⟨MB, r * 14, none⟩ = some u := ⟨_, by rw [HO1.out.cellAt _ (by omega)]; exact List.getElem?_eq_getElem (by rw [hl]; omega)⟩; obtain ⟨u1, hu1⟩ : ∃ u, w1.cell? ⟨MB, r * 14 + 1, none⟩ = some u := ⟨_, by rw [HO1.out.cellAt _ (by omega)]; exact List.getElem?_eq_getElem (by rw [hl]; omega)⟩; obtain ⟨u2, hu2⟩ : ∃ u, w1.cell? ⟨MB, r * 14 + 2, none⟩ = some u := ⟨_, by rw [HO1.out.cellAt _ (by omega)]; exact List.getElem?_eq_getElem (by rw [hl]; omega)⟩; obtain ⟨u3, hu3⟩ : ∃ u, w1.cell? ⟨MB, r * 14 + 3, none⟩ = some u := ⟨_, by rw [HO1.out.cellAt _ (by omega)]; exact List.getElem?_eq_getElem (by rw [hl]; omega)⟩; obtain ⟨u4, hu4⟩ : ∃ u, w1.cell? ⟨MB, r * 14 + 4, none⟩ = some u := ⟨_, by rw [HO1.out.cellAt _ (by omega)]; exact List.getElem?_eq_getElem (by rw [hl]; omega)⟩; obtain ⟨u5, hu5⟩ : ∃ u, w1.cell? ⟨MB, r * 14 + 5, none⟩ = some u := ⟨_, by rw [HO1.out.cellAt _ (by omega)]; exact List.getElem?_eq_getElem (by rw [hl]; omega)⟩; obtain ⟨u6, hu6⟩ : ∃ u, w1.cell? ⟨MB, r * 14 + 6, none⟩ = some u := ⟨_, by rw [HO1.out.cellAt _ (by omega)]; exact List.getElem?_eq_getElem (by rw [hl]; omega)⟩; obtain ⟨u7, hu7⟩ : ∃ u, w1.cell? ⟨MB, r * 14 + 7, none⟩ = some u := ⟨_, by rw [HO1.out.cellAt _ (by omega)]; exact List.getElem?_eq_getElem (by rw [hl]; omega)⟩; obtain ⟨u8, hu8⟩ : ∃ u, w1.cell? ⟨MB, r * 14 + 8, none⟩ = some u := ⟨_, by rw [HO1.out.cellAt _ (by omega)]; exact List.getElem?_eq_getElem (by rw [hl]; omega)⟩; obtain ⟨u9, hu9⟩ : ∃ u, w1.cell? ⟨MB, r * 14 + 9, none⟩ = some u := ⟨_, by rw [HO1.out.cellAt _ (by omega)]; exact List.getElem?_eq_getElem (by rw [hl]; omega)⟩; obtain ⟨u10, hu10⟩ : ∃ u, w1.cell? ⟨MB, r * 14 + 10, none⟩ = some u := ⟨_, by rw [HO1.out.cellAt _ (by omega)]; exact List.getElem?_eq_getElem (by rw [hl]; omega)⟩; obtain ⟨u11, hu11⟩ : ∃ u, w1.cell? ⟨MB, r * 14 + 11, none⟩ = some u := ⟨_, by rw [HO1.out.cellAt _ (by omega)]; exact List.getElem?_eq_getElem (by rw [hl]; omega)⟩; obtain ⟨u12, hu12⟩ : ∃ u, w1.cell? ⟨MB, r * 14 + 12, none⟩ = some u := ⟨_, by rw [HO1.out.cellAt _ (by omega)]; exact List.getElem?_eq_getElem (by rw [hl]; omega)⟩; obtain ⟨u13, hu13⟩ : ∃ u, w1.cell? ⟨MB, r * 14 + 13, none⟩ = some u := ⟨_, by rw [HO1.out.cellAt _ (by omega)]; exact List.getElem?_eq_getElem (by rw [hl]; omega)⟩; skip)
            go_roundg (64 - (r + 1))
            case measure => omega
            case rel =>
              have hom := own_mark mkP_len HO1.out hlt2 rfl rfl
              refine ⟨r + 1, ys.drop 14, by omega, rfl, by go_num, hide ?_, hide ?_⟩
              · have hst : FgG 14 mkP 32 49 w LB GB a B vs ns T0 T2 xs2 (fun j => j < a) ns (w1.setCells MB (r * 14) (mkP (b + a) r)) := by
                  refine HP1.out.still hom.2.size (fun k hk hk2 => heap_setCells _ _ _ _ ?_) (below_setCells hBw _ _ _)
                  rintro rfl
                  rcases hk2 with h | h | h
                  · exact h hM1
                  · omega
                  · exact hM2 h
                first | exact hst | (simpa [World.setCells, mkP] using hst)
              · first | exact hom.1 | (simpa [World.setCells, mkP] using hom.1)
          · obtain ⟨A, c0, hv⟩ := HP.out.rows.shape hlt
            have hh := HP.out.head (Hls.out b hlt)
            rw [hv] at hh
            have hfull := HP.out.rows.full hlt rfl
            have htag := HP.out.rows.tag b hlt
            rw [hv] at hfull htag
            have Hfull := hide hfull
            have Htag := hide htag
            clear hv hfull htag
            have hr64 : r = 64 := by omega
            subst hr64
            have HM := hide (own_all mkP_len HO.out)
            have hl := HM.out.1
            go_wp2_with (at_builtin; refine wpList_row rfl _ _ 49 rfl B 32 Tryz.underlying49 InfoEPatches rfl (by decide) _ (ns b) (marksG mkP b (ns b)) rfl Hfull.out (some ⟨MB, 0, none⟩) 64 64 (marksG mkP (b + a) 64) rfl (by simp) hl (fun ad e => by injection e with e; subst e; exact HM.out.cells rfl) (marksG_mem mkP_one) (by unfold maxLen; omega) (by omega) (Nat.le_trans hB HP.out.b.size) ?_)
            intro v1 w1 h1 hg1 hw1
            have HA := hide ((HP.out.mono (J' := fun j => j < a ∧ j ≠ b) (p' := ns) (fun j hj => ⟨hj.1, Nat.le_refl _⟩)).append (by decide) hlt (fun j hj => hj.2) Hfull.out Htag.out h1 hg1 hw1 (marksG_take mkP_len (Nat.le_refl _)) (Nat.le_refl _))
            obtain ⟨A2, c2, rfl⟩ := own_shape h1
            have H1 := hide h1
            clear h1 hg1 hw1 hh
            obtain ⟨⟨u, hu⟩, hf⟩ := HA.out.1.place hlt
            go_wp2
            go_roundg (a - (b + 1))
            case measure => omega
            case rel => exact ⟨b + 1, _, _, by omega, rfl, by go_num, hide (HA.out.1.put hlt (GsG.of_own (xs := marksG mkP (b + a) 64) mkP_len H1.out (by omega) (by omega) HA.out.2) (fun j hj => by by_cases h : j = b; exact .inl h; exact .inr ⟨h, ⟨hj, h⟩, Nat.le_refl _⟩))⟩
        · have hba : b = a := by omega
          subst hba
          -- and each is as it was
          go_wp2_with fail
          go_loopg [14] b (fun g k wx => ∃ d : Nat, d ≤ b ∧ g = b - d ∧ k = .int .i64 d ∧ Hid (FgG 14 mkP 32 49 w LB GB b B vs ns T0 T2 xs2 (fun j => j < b) ns wx))
          case atStart => exact ⟨0, by omega, by omega, rfl, HP⟩
          case round =>
          clear HP
          obtain ⟨d, hd, hg9, rfl, HP⟩ := hrel
          by_cases hlt : d < b
          · have hnd := Hn.out d hlt
            go_wp2_with fail
            go_loopg [15] (ns d) (fun g i wx => ∃ r : Nat, r ≤ ns d ∧ g = ns d - r ∧ i = .int .i64 r ∧ Hid (FgG 14 mkP 32 49 w LB GB b B vs ns T0 T2 xs2 (fun j => j < b) ns wx))
            case atStart => exact ⟨0, by omega, by omega, rfl, HP⟩
            case round =>
            clear HP
            obtain ⟨r, hr, hg10, rfl, HP⟩ := hrel
            obtain ⟨g1, c1, hG, hc1, hc2, hm⟩ := HP.out.grown hlt hlt
            have hh := HP.out.head (Hls.out d hlt)
            by_cases hlt2 : r < ns d
            · have HC : Hid (∀ W, Calls Tryz.prog 134 #[.int .i64 d, .int .i64 r] W fun e w' => e = .returned (.agg #[.int .u8 ((1000003 * ((d : Int) + 7) + (r : Int)) % 251), .string (mT (d : Int) (r : Int)), .string ⟨#[]⟩, .int .i64 0, .slice none 0 0, .slice none 0 0, .int .u8 0, .slice none 0 0, .int .i64 0, .int .i64 0, .string ⟨#[]⟩, .string ⟨#[]⟩, .slice none 0 0, .slice none 0 0]) ∧ Below W.heap.size W w') := hide fun W => hmk.out d r W (by omega) (by omega)
              have x0 : wr.cell? ⟨g1, r * 14, none⟩ = some (.int .u8 ((1000003 * ((d : Int) + 7) + (r : Int)) % 251)) := by have := hm r hlt2 0 _ rfl; exact this
              have x1 : wr.cell? ⟨g1, r * 14 + 1, none⟩ = some (.string (mT (d : Int) (r : Int))) := by have := hm r hlt2 1 _ rfl; exact this
              have x2 : wr.cell? ⟨g1, r * 14 + 2, none⟩ = some (.string ⟨#[]⟩) := by have := hm r hlt2 2 _ rfl; exact this
              have x3 : wr.cell? ⟨g1, r * 14 + 3, none⟩ = some (.int .i64 0) := by have := hm r hlt2 3 _ rfl; exact this
              have x4 : wr.cell? ⟨g1, r * 14 + 4, none⟩ = some (.slice none 0 0) := by have := hm r hlt2 4 _ rfl; exact this
              have x5 : wr.cell? ⟨g1, r * 14 + 5, none⟩ = some (.slice none 0 0) := by have := hm r hlt2 5 _ rfl; exact this
              have x6 : wr.cell? ⟨g1, r * 14 + 6, none⟩ = some (.int .u8 0) := by have := hm r hlt2 6 _ rfl; exact this
              have x7 : wr.cell? ⟨g1, r * 14 + 7, none⟩ = some (.slice none 0 0) := by have := hm r hlt2 7 _ rfl; exact this
              have x8 : wr.cell? ⟨g1, r * 14 + 8, none⟩ = some (.int .i64 0) := by have := hm r hlt2 8 _ rfl; exact this
              have x9 : wr.cell? ⟨g1, r * 14 + 9, none⟩ = some (.int .i64 0) := by have := hm r hlt2 9 _ rfl; exact this
              have x10 : wr.cell? ⟨g1, r * 14 + 10, none⟩ = some (.string ⟨#[]⟩) := by have := hm r hlt2 10 _ rfl; exact this
              have x11 : wr.cell? ⟨g1, r * 14 + 11, none⟩ = some (.string ⟨#[]⟩) := by have := hm r hlt2 11 _ rfl; exact this
              have x12 : wr.cell? ⟨g1, r * 14 + 12, none⟩ = some (.slice none 0 0) := by have := hm r hlt2 12 _ rfl; exact this
              have x13 : wr.cell? ⟨g1, r * 14 + 13, none⟩ = some (.slice none 0 0) := by have := hm r hlt2 13 _ rfl; exact this
              obtain ⟨g0, c0, hv, _, _, _, _, _, hm0⟩ := HP.out.rows.at_ hlt hlt2 (by decide)
              have y0 : wr.cell? ⟨g0, r * 14, none⟩ = some (.int .u8 ((1000003 * ((d : Int) + 7) + (r : Int)) % 251)) := by have := hm0 hlt2 0 _ rfl; exact this
              have y1 : wr.cell? ⟨g0, r * 14 + 1, none⟩ = some (.string (mT (d : Int) (r : Int))) := by have := hm0 hlt2 1 _ rfl; exact this
              have y2 : wr.cell? ⟨g0, r * 14 + 2, none⟩ = some (.string ⟨#[]⟩) := by have := hm0 hlt2 2 _ rfl; exact this
              have y3 : wr.cell? ⟨g0, r * 14 + 3, none⟩ = some (.int .i64 0) := by have := hm0 hlt2 3 _ rfl; exact this
              have y4 : wr.cell? ⟨g0, r * 14 + 4, none⟩ = some (.slice none 0 0) := by have := hm0 hlt2 4 _ rfl; exact this
              have y5 : wr.cell? ⟨g0, r * 14 + 5, none⟩ = some (.slice none 0 0) := by have := hm0 hlt2 5 _ rfl; exact this
              have y6 : wr.cell? ⟨g0, r * 14 + 6, none⟩ = some (.int .u8 0) := by have := hm0 hlt2 6 _ rfl; exact this
              have y7 : wr.cell? ⟨g0, r * 14 + 7, none⟩ = some (.slice none 0 0) := by have := hm0 hlt2 7 _ rfl; exact this
              have y8 : wr.cell? ⟨g0, r * 14 + 8, none⟩ = some (.int .i64 0) := by have := hm0 hlt2 8 _ rfl; exact this
              have y9 : wr.cell? ⟨g0, r * 14 + 9, none⟩ = some (.int .i64 0) := by have := hm0 hlt2 9 _ rfl; exact this
              have y10 : wr.cell? ⟨g0, r * 14 + 10, none⟩ = some (.string ⟨#[]⟩) := by have := hm0 hlt2 10 _ rfl; exact this
              have y11 : wr.cell? ⟨g0, r * 14 + 11, none⟩ = some (.string ⟨#[]⟩) := by have := hm0 hlt2 11 _ rfl; exact this
              have y12 : wr.cell? ⟨g0, r * 14 + 12, none⟩ = some (.slice none 0 0) := by have := hm0 hlt2 12 _ rfl; exact this
              have y13 : wr.cell? ⟨g0, r * 14 + 13, none⟩ = some (.slice none 0 0) := by have := hm0 hlt2 13 _ rfl; exact this
              have hlow : ∀ {p : Addr} {v : Value}, wr.cell? p = some v → ∀ W, Below wr.heap.size wr W → W.cell? p = some v := fun h W hW => (World.cell?_of_block (hW.block _ (block_lt_of_cell h))).trans h
              rw [hv] at hh
              have hr64 : (r : Int) < (ns d : Int) + 64 := by omega
              clear hm0 hv hm
              go_wp2_with fail
              replace hh := hlow hh
              replace hG := hlow hG
              replace x0 := hlow x0
              replace y0 := hlow y0
              replace x1 := hlow x1
              replace y1 := hlow y1
              replace x2 := hlow x2
              replace y2 := hlow y2
              replace x3 := hlow x3
              replace y3 := hlow y3
              replace x4 := hlow x4
              replace y4 := hlow y4
              replace x5 := hlow x5
              replace y5 := hlow y5
              replace x6 := hlow x6
              replace y6 := hlow y6
              replace x7 := hlow x7
              replace y7 := hlow y7
              replace x8 := hlow x8
              replace y8 := hlow y8
              replace x9 := hlow x9
              replace y9 := hlow y9
              replace x10 := hlow x10
              replace y10 := hlow y10
              replace x11 := hlow x11
              replace y11 := hlow y11
              replace x12 := hlow x12
              replace y12 := hlow y12
              replace x13 := hlow x13
              replace y13 := hlow y13
              clear hlow
              have hd1 : Below wr.heap.size wr wr.drew := blw_drewN (Below.refl _ _) 1
              refine wp_region_held_drew (S := Below wr.heap.size wr) (by kernel_rfl) hd1 (fun hHeld => ?_)
              generalize wr.drew = wD at hHeld ⊢
              refine tk (v := ?_) 0 hHeld ?_ ?_
              rotate_left
              · intro w' hSw
                first | (go_simp; done) | (go_simp; with_reducible rfl)
              try simp only [List.set_cons_zero, List.set_cons_succ]
              refine tk (v := ?_) 1 hHeld ?_ ?_
              rotate_left
              · intro w' hSw
                first | (go_simp; done) | (go_simp; with_reducible rfl)
              try simp only [List.set_cons_zero, List.set_cons_succ]
              refine tk (v := ?_) 2 hHeld ?_ ?_
              rotate_left
              · intro w' hSw
                first | (go_simp; done) | (go_simp; with_reducible rfl)
              try simp only [List.set_cons_zero, List.set_cons_succ]
              refine tk (v := ?_) 3 hHeld ?_ ?_
              rotate_left
              · intro w' hSw
                have hh' := hh w' hSw
                first | (go_simp; done) | (go_simp; with_reducible rfl)
              try simp only [List.set_cons_zero, List.set_cons_succ]
              refine tk (v := ?_) 4 hHeld ?_ ?_
              rotate_left
              · intro w' hSw
                first | (go_simp; done) | (go_simp; with_reducible rfl)
              try simp only [List.set_cons_zero, List.set_cons_succ]
              refine tk (v := ?_) 5 hHeld ?_ ?_
              rotate_left
              · intro w' hSw
                first | (go_simp; done) | (go_simp; with_reducible rfl)
              try simp only [List.set_cons_zero, List.set_cons_succ]
              refine tk (v := ?_) 6 hHeld ?_ ?_
              rotate_left
              · intro w' hSw
                have y0' := y0 w' hSw
                have y1' := y1 w' hSw
                have y2' := y2 w' hSw
                have y3' := y3 w' hSw
                have y4' := y4 w' hSw
                have y5' := y5 w' hSw
                have y6' := y6 w' hSw
                have y7' := y7 w' hSw
                have y8' := y8 w' hSw
                have y9' := y9 w' hSw
                have y10' := y10 w' hSw
                have y11' := y11 w' hSw
                have y12' := y12 w' hSw
                have y13' := y13 w' hSw
                first | (go_simp; done) | (go_simp; with_reducible rfl)
              try simp only [List.set_cons_zero, List.set_cons_succ]
              refine tk (v := ?_) 7 hHeld ?_ ?_
              rotate_left
              · intro w' hSw
                first | (go_simp; done) | (go_simp; with_reducible rfl)
              try simp only [List.set_cons_zero, List.set_cons_succ]
              refine tk (v := ?_) 8 hHeld ?_ ?_
              rotate_left
              · intro w' hSw
                first | (go_simp; done) | (go_simp; with_reducible rfl)
              try simp only [List.set_cons_zero, List.set_cons_succ]
              refine wpAnyH_ready (rs := [9]) (by kernel_rfl) (by simp) ?_
              refine AllReadyH.cons rfl (fun K hK => ?_) AllReadyH.nil
              go_simp
              go_wp2_with (go_at_call 134; (with_reducible refine (HC.out _).mono ?_); rintro e8 w1 ⟨rfl, hB1⟩)
              have hH1 := hHeld.trans (hB1.mono hHeld.size)
              refine hK.out _ _ hH1 (fun _ => ?_)
              clear hK K
              try simp only [Act.put, List.getElem_toArray, List.getElem_cons_zero, List.getElem_cons_succ, List.setIfInBounds_toArray, List.set_cons_zero, List.set_cons_succ]
              refine wpAnyH_ready (rs := [10]) (by kernel_rfl) (by simp) ?_
              refine AllReadyH.cons rfl (fun K hK => ?_) AllReadyH.nil
              go_simp
              go_wp2_with (go_at_call 17; (with_reducible refine (sameMarkP _ (by omega) _ (mT_size _ _) _).mono ?_); rintro e9 w2 ⟨rfl, hB2⟩)
              have hH2 := hH1.trans (hB2.mono hH1.size)
              refine hK.out _ _ hH2 (fun _ => ?_)
              clear hK K
              try simp only [Act.put, List.getElem_toArray, List.getElem_cons_zero, List.getElem_cons_succ, List.setIfInBounds_toArray, List.set_cons_zero, List.set_cons_succ]
              refine tk (v := ?_) 11 hH2 ?_ ?_
              rotate_left
              · intro w' hSw
                first | (go_simp; done) | (go_simp; with_reducible rfl)
              try simp only [List.set_cons_zero, List.set_cons_succ]
              refine tk (v := ?_) 12 hH2 ?_ ?_
              rotate_left
              · intro w' hSw
                first | (go_simp; done) | (go_simp; with_reducible rfl)
              try simp only [List.set_cons_zero, List.set_cons_succ]
              refine tk (v := ?_) 13 hH2 ?_ ?_
              rotate_left
              · intro w' hSw
                first | (go_simp; done) | (go_simp; with_reducible rfl)
              try simp only [List.set_cons_zero, List.set_cons_succ]
              refine tk (v := ?_) 14 hH2 ?_ ?_
              rotate_left
              · intro w' hSw
                first | (go_simp; done) | (go_simp; with_reducible rfl)
              try simp only [List.set_cons_zero, List.set_cons_succ]
              refine tk (v := ?_) 15 hH2 ?_ ?_
              rotate_left
              · intro w' hSw
                first | (go_simp; done) | (go_simp; with_reducible rfl)
              try simp only [List.set_cons_zero, List.set_cons_succ]
              refine tk (v := ?_) 16 hH2 ?_ ?_
              rotate_left
              · intro w' hSw
                have hG' := hG w' hSw
                first | (go_simp; done) | (go_simp; with_reducible rfl)
              try simp only [List.set_cons_zero, List.set_cons_succ]
              refine tk (v := ?_) 17 hH2 ?_ ?_
              rotate_left
              · intro w' hSw
                first | (go_simp; done) | (go_simp; with_reducible rfl)
              try simp only [List.set_cons_zero, List.set_cons_succ]
              refine tk (v := ?_) 18 hH2 ?_ ?_
              rotate_left
              · intro w' hSw
                first | (go_simp; done) | (go_simp; with_reducible rfl)
              try simp only [List.set_cons_zero, List.set_cons_succ]
              refine tk (v := ?_) 19 hH2 ?_ ?_
              rotate_left
              · intro w' hSw
                have x0' := x0 w' hSw
                have x1' := x1 w' hSw
                have x2' := x2 w' hSw
                have x3' := x3 w' hSw
                have x4' := x4 w' hSw
                have x5' := x5 w' hSw
                have x6' := x6 w' hSw
                have x7' := x7 w' hSw
                have x8' := x8 w' hSw
                have x9' := x9 w' hSw
                have x10' := x10 w' hSw
                have x11' := x11 w' hSw
                have x12' := x12 w' hSw
                have x13' := x13 w' hSw
                first | (go_simp; done) | (go_simp; with_reducible rfl)
              try simp only [List.set_cons_zero, List.set_cons_succ]
              refine tk (v := ?_) 20 hH2 ?_ ?_
              rotate_left
              · intro w' hSw
                first | (go_simp; done) | (go_simp; with_reducible rfl)
              try simp only [List.set_cons_zero, List.set_cons_succ]
              refine tk (v := ?_) 21 hH2 ?_ ?_
              rotate_left
              · intro w' hSw
                first | (go_simp; done) | (go_simp; with_reducible rfl)
              try simp only [List.set_cons_zero, List.set_cons_succ]
              refine wpAnyH_ready (rs := [22]) (by kernel_rfl) (by simp) ?_
              refine AllReadyH.cons rfl (fun K hK => ?_) AllReadyH.nil
              go_simp
              go_wp2_with (go_at_call 134; (with_reducible refine (HC.out _).mono ?_); rintro e7 w3 ⟨rfl, hB3⟩)
              have hH3 := hH2.trans (hB3.mono hH2.size)
              refine hK.out _ _ hH3 (fun _ => ?_)
              clear hK K
              try simp only [Act.put, List.getElem_toArray, List.getElem_cons_zero, List.getElem_cons_succ, List.setIfInBounds_toArray, List.set_cons_zero, List.set_cons_succ]
              refine wpAnyH_ready (rs := [23]) (by kernel_rfl) (by simp) ?_
              refine AllReadyH.cons rfl (fun K hK => ?_) AllReadyH.nil
              go_simp
              go_wp2_with (go_at_call 17; (with_reducible refine (sameMarkP _ (by omega) _ (mT_size _ _) _).mono ?_); rintro e9 w4 ⟨rfl, hB4⟩)
              have hH4 := hH3.trans (hB4.mono hH3.size)
              refine hK.out _ _ hH4 (fun _ => ?_)
              clear hK K
              try simp only [Act.put, List.getElem_toArray, List.getElem_cons_zero, List.getElem_cons_succ, List.setIfInBounds_toArray, List.set_cons_zero, List.set_cons_succ]
              refine tk (v := ?_) 24 hH4 ?_ ?_
              rotate_left
              · intro w' hSw
                first | (go_simp; done) | (go_simp; with_reducible rfl)
              try simp only [List.set_cons_zero, List.set_cons_succ]
              refine tk (v := ?_) 25 hH4 ?_ ?_
              rotate_left
              · intro w' hSw
                first | (go_simp; done) | (go_simp; with_reducible rfl)
              try simp only [List.set_cons_zero, List.set_cons_succ]
              refine wpAnyH_done (by kernel_rfl) ?_ _
              try simp only [Act.put, List.getElem_toArray, List.getElem_cons_zero, List.getElem_cons_succ, List.setIfInBounds_toArray, List.set_cons_zero, List.set_cons_succ]
              have HB9 := hide (HP.out.below hH4)
              go_wp2_with fail
              go_roundg (ns d - (r + 1))
              case measure => omega
              case rel => exact ⟨r + 1, by omega, rfl, by go_num, HB9⟩
            · obtain ⟨A, c0, hv⟩ := HP.out.rows.shape hlt
              rw [hv] at hh
              clear hv hm
              go_wp2_with fail
              go_roundg (b - (d + 1))
              case measure => omega
              case rel => exact ⟨d + 1, by omega, rfl, by go_num, HP⟩
          · go_wp2_with fail
            go_ret
            exact ⟨rfl, HP.out.b, HP.out.ls⟩

end Go.Proofs.YtfhfkbdaglegpaaGreatDoor
