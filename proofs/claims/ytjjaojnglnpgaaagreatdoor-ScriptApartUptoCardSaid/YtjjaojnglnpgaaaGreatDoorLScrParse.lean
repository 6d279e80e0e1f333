/- script.parse: a line's command. Printed by gen_scrparse.py. -/
import Derived.Shelf.Abstract
import Derived.Deep.DeepCutAuto
import Derived.Test.YtjjaojnglnpgaaaGreatDoorLRest

set_option linter.unusedVariables false
set_option linter.unusedSimpArgs false

namespace Go.Proofs.YtjjaojnglnpgaaaGreatDoor
open Go.RowKit

def MaxOkS (w : World) : Prop := 0 < w.heap.size ∧ ∃ m : Int, w.cell? ⟨0, 0, none⟩ = some (.int .i64 m)
theorem MaxOkS.below {w w' : World} (h : MaxOkS w) (hb : Below w.heap.size w w') : MaxOkS w' := by
  obtain ⟨h1, m, h2⟩ := h
  exact ⟨Nat.lt_of_lt_of_le h1 hb.size, m, (hb.cell (p := ⟨_, 0, none⟩) h1).trans h2⟩
/-- strings.Split, by one byte -/
theorem split_any (c : UInt8) {s : ByteArray} {w : World} (hs : s.size < 4294967281) (hm : MaxOkS w) :
    Calls Tryz.prog 26 #[.string s, .string ⟨#[c]⟩] w fun e w' => e = .returned (.slice (some ⟨w.heap.size, 0, none⟩) (wordsOf c s).length (wordsOf c s).length) ∧ w' = w.alloc (.cells ((wordsOf c s).map .string).toArray 9) := by
  obtain ⟨_, m, hm⟩ := hm
  have h1 := Tryz.strings_Split s ⟨#[c]⟩ m w hs hm (Nat.le_refl 1)
  rw [← wordsOf_len] at h1
  exact h1
theorem wordsOf_max {c : UInt8} {s : ByteArray} (hs : s.size ≤ 1099511627) : (wordsOf c s).length ≤ 1099511628 := by
  rw [wordsOf_len]
  have := Lib.countB_le ⟨#[c]⟩ (Nat.le_refl 1) s.size s (Nat.le_refl _)
  omega
/-- a line under its block, kept -/
theorem LnIn.kept {D : Nat → Prop} {N : Nat} {w w' : World} {l : List ByteArray} {vs : List Value} (h : LnIn D N w l vs) (hk : ∀ b, b = N ∨ D b → w'.heap[b]? = w.heap[b]?) : LnIn D N w' l vs := by
  obtain ⟨⟨⟨A, c, h1, h2, h3⟩, h4, h5⟩, h6, h7, h8⟩ := h
  have hc : ∀ o, w'.cell? ⟨N, o, none⟩ = w.cell? ⟨N, o, none⟩ := fun o => World.cell?_of_block (hk N (.inl rfl))
  have hf : ∀ o, w'.frozen? ⟨N, o, none⟩ = w.frozen? ⟨N, o, none⟩ := fun o => World.frozen?_of_block (hk N (.inl rfl))
  exact ⟨⟨⟨A, c, (hc 0).trans h1, h2.keep (fun b hb => hk b (.inr hb)), h3⟩, (hf 0).trans h4, h5⟩, h6, fun j u hj => (hc (1 + j)).trans (h7 j u hj), fun o => (hf o).trans (h8 o)⟩
/-- every way answers as it should -/
theorem ways_ok : ∀ p ∈ kwL, (p.1 = 2 → RestOk 106 restRecord) → RestOk (wayFn p.1) (restOf p.1) := by
  intro p hp hrec
  simp only [kwL, List.mem_cons, List.not_mem_nil, or_false] at hp
  rcases hp with rfl | rfl | rfl | rfl | rfl | rfl | rfl | rfl | rfl
  · exact restAlone_ok
  · exact hrec rfl
  · exact restPull_ok
  · exact restUnpull_ok
  · exact restMerge_ok
  · exact restCheckout_ok
  · exact restAlone_ok
  · exact restAlone_ok
  · exact restLoad_ok
theorem ways_enter : ∀ p ∈ kwL, Enters Tryz.prog (wayFn p.1) := by
  intro p hp
  simp only [kwL, List.mem_cons, List.not_mem_nil, or_false] at hp
  rcases hp with rfl | rfl | rfl | rfl | rfl | rfl | rfl | rfl | rfl
  · exact enters_of Tryz.func105 (by kernel_rfl) rfl
  · exact enters_of Tryz.func106 (by kernel_rfl) rfl
  · exact enters_of Tryz.func107 (by kernel_rfl) rfl
  · exact enters_of Tryz.func108 (by kernel_rfl) rfl
  · exact enters_of Tryz.func109 (by kernel_rfl) rfl
  · exact enters_of Tryz.func110 (by kernel_rfl) rfl
  · exact enters_of Tryz.func105 (by kernel_rfl) rfl
  · exact enters_of Tryz.func105 (by kernel_rfl) rfl
  · exact enters_of Tryz.func111 (by kernel_rfl) rfl
theorem kw_lt {k : Nat} {s : ByteArray} (h : (k, s) ∈ kwL) : k < 256 := by
  simp only [kwL, List.mem_cons, List.not_mem_nil, or_false, Prod.mk.injEq] at h
  omega
theorem cell_set_ne {w : World} {a b : Addr} {u v : Value} (h : w.cell? b = some v) (hne : a ≠ b) : (w.setCell a u).cell? b = some v := (World.cell?_setCell_other _ _ _ _ hne).trans h
set_option maxHeartbeats 16000000 in
set_option maxRecDepth 1000000 in
theorem parse_any {w : World} {s : ByteArray} (hs : s.size ≤ 1099511627) (hmx : MaxOkS w) (htab : TabOk w) (hrec : ∀ r, wordsOf 32 s = kwRecord :: r → RestOk 106 restRecord) :
    Calls Tryz.prog 34 #[.string s] w (ParsePost w s) := by
  have hmf : ∀ (fn : Fn) (first cap : Array Value) (w : World), (Instr.makeFunc fn first cap).run Tryz.prog w = .ok (.func fn first cap) w := fun _ _ _ _ => rfl
  go_enter_defers Tryz.func34, Tryz.ntmps34
  go_wp2_with (first
    | (go_at_call 26; (with_reducible refine (split_any 32 (by omega) ((hmx.below (below_alloc _ _)).below (below_alloc _ _))).mono ?_); rintro e1 w1 ⟨rfl, rfl⟩))
  obtain ⟨hA, hL, hz⟩ := start_at w (wordsOf 32 s) (Nat.le_trans (wordsOf_max hs) (by decide))
  show Calls Tryz.prog 76 _ (startW w (wordsOf 32 s)) _
  have hall : ∀ x ∈ wordsOf 32 s, x.size ≤ 1099511627776 := fun x hx => Nat.le_trans (wordsOf_le hx).1 (by omega)
  generalize startW w (wordsOf 32 s) = W0 at hA hL hz ⊢
  rcases hws : wordsOf 32 s with _ | ⟨first, r⟩
  · exact absurd hws (wordsOf_ne 32 s)
  rw [hws] at hL hall
  have Hws := hide hws
  have HA := hide hA
  have HL := hide hL
  have Hz := hide hz
  have Hall := hide hall
  clear hws hA hL hz hall
  go_wp2_with (first
    | (go_at_call 76; (with_reducible refine (wtake_cons HL.out.wd).mono ?_); rintro e1 w1 ⟨rfl, h1, u, hu⟩; have HL1 := hide (HL.out.take hu h1); have HA1 : Hid (ParseAt w w1) := hide (HA.out.keep (by rw [hu]; exact (Keep.refl _ W0).setCell (by show ¬ w.heap.size + 1 + 1 + 1 < _; omega) u)); have Hz1 : Hid (w1.heap.size = w.heap.size + 1 + 1 + 1 + 1) := hide (by rw [hu]; simpa using Hz.out); clear h1 hu)
    | (go_at_call 40; (with_reducible refine (ways_any _).mono ?_); rintro e2 w2 ⟨rfl, hT, hB⟩; have HT := hide hT; have HB2 := hide hB; clear hT hB)
    | (at_range; refine wpList_range_own _ rfl _ 100 rfl 32 98 ckey Tryz.underlying100 wayR _ 9 waysD rfl HT.out ?_; intro w3 hrg hg3 hs3; have HR := hide hrg; have HG3 := hide hg3; have HS3 := hide hs3; clear hrg hg3 hs3))
  go_frame
  have HA3 : Hid (ParseAt w w3) := hide ((HA1.out.keep (Keep.of_below HB2.out fun k hk => by have := Hz1.out; omega)).keep (Keep.grown (Keep.refl _ _) HG3.out (fun k hk => by have := Hz1.out; have := HB2.out.size; omega) (fun k hk => by cases hk)))
  have HL3 : Hid (LnIn (fun b => b = w.heap.size + 1 + 1) (w.heap.size + 1 + 1 + 1) w3 r zeroVs) := hide ((HL1.out.below HB2.out).kept fun b hb => HG3.out.block b (by have := Hz1.out; have := HB2.out.size; omega) (by simp))
  have HF : Hid (∀ p ∈ kwL, Maps.has waysD (.int .u8 p.1) = false → p.2 ≠ first) := hide (fun p hp h => by rw [waysD_has hp] at h; cases h)
  have HZ3 : Hid (w1.heap.size = w.heap.size + 1 + 1 + 1 + 1) := Hz1
  have hz4 : w1.heap.size < w2.heap.size := HT.out.lt
  have hz5 : w2.heap.size < w3.heap.size := by have := HS3.out; omega
  clear HA1 HL1 HB2 HG3 HT HS3 Hz1 HL HA
  generalize w1.heap.size = b1 at HZ3 hz4 HR ⊢
  generalize w2.heap.size = r0 at hz4 hz5 HR ⊢
  go_loopg [] (Maps.size waysD) (fun g wr => ∃ left : Lit → Bool, Hid (wr.ranges Tryz.prog 32 wayR b1 r0 9 waysD left g) ∧ Hid (LnIn (fun b => b = w.heap.size + 1 + 1) (w.heap.size + 1 + 1 + 1) wr r zeroVs) ∧ Hid (ParseAt w wr) ∧ r0 < wr.heap.size ∧ Hid (∀ p ∈ kwL, left (.int .u8 p.1) = false → p.2 ≠ first))
  case atStart => exact ⟨_, HR, HL3, HA3, hz5, HF⟩
  case round =>
    clear HR HL3 HA3 HF hz5
    obtain ⟨left, HR, HL3, HA3, hz5, HF⟩ := hrel
    go_wp2_with (at_next; refine wpList_next_ranges _ rfl _ rfl 32 ckey wayR (Value.int .u8) (fun p : { p : Nat × ByteArray // p ∈ kwL } => .agg #[.string p.1.2, .func (.func (wayFn p.1.1)) #[] #[]]) (fun key kl h => (Maps.keyOf_int_inv Tryz.underlying32 h).imp fun _ h => h.1) (fun v y hv => wayR_inv hv) b1 r0 9 waysD left _ rfl HR.out ?_ ?_)
    · intro hc0 hl0
      have hno : lineOf (wordsOf 32 s) = none := by
        rw [Hws.out]
        have hk : kindOf first = none := by
          rcases hk : kindOf first with _ | k
          · rfl
          · exact absurd rfl (HF.out _ (kindOf_some hk) (hl0 _))
        rcases r with _ | ⟨repo, r⟩
        · rfl
        · simp [lineOf, hk]
      have Hno := hide hno
      clear hno hl0
      go_wp2_with (first
        | (refine wpList_load_mid rfl _ _ rfl w.heap.size 0 rfl zeroL _ HA3.out.cr Tryz.underlying46 rfl info20 ?_)
        | (refine wpList_store_mid rfl _ _ _ rfl w.heap.size 0 zeroL.toArray rfl rfl HA3.out.ct info20 zero_one ?_; obtain ⟨V, hV, hV1, hV2, hV3, hV4, hV5⟩ := HA3.out.stored zeroL rfl; rw [← hV]; have HV3 := hide hV3; have HV5 := hide hV5; clear hV hV3 hV4 hV5))
      refine parse_ends rfl rfl rfl hV1 HV3.out ⟨HV5.out.setCell (p := ⟨w.heap.size + 1, 0, none⟩) (Nat.le_succ _) _, fun _ => rfl, fun c hc => by rw [Hno.out] at hc; cases hc⟩
    · intro x a b hmem kl y ps w4 cnt4 hkey hlk hv hat hrg4 hlt hg4 hs4 hen
      obtain ⟨x', hx', rfl, _⟩ := Maps.keyOf_int_inv Tryz.underlying32 hkey
      injection hx' with _ hx'
      subst hx'
      have hy := hv.symm.trans (wayR_mk (p := (a, b)) hmem)
      injection hy with hy
      injection hy with hy _
      subst hy
      have hxa : x = (a : Int) := waysD_at (p := (a, b)) hmem hat
      subst hxa
      have hz3 := HZ3.out
      have HL4 : Hid (LnIn (fun b => b = w.heap.size + 1 + 1) (w.heap.size + 1 + 1 + 1) w4 r zeroVs) := hide (HL3.out.kept fun b hb => hg4.block b (by omega) (by intro e; injection e with e; omega))
      have HA4 : Hid (ParseAt w w4) := hide (HA3.out.keep (Keep.grown (Keep.refl _ _) hg4 (fun k hk => by omega) (fun k hk => by injection hk with hk; omega)))
      have HR4 := hide hrg4
      have Hmem := hide hmem
      have HS4 := hide hs4
      clear hkey hlk hv hat hrg4 hmem HR HL3 HA3 hz3 hg4 hs4
      by_cases hbf : b = first
      · subst hbf
        have HL5 : Hid (LnIn (fun b => b = w.heap.size + 1 + 1) (w.heap.size + 1 + 1 + 1) (w4.alloc (.cells #[.string b, .func (.func (wayFn a)) #[] #[]] 98)) r zeroVs) := hide (HL4.out.below (below_alloc _ _))
        have HA5 : Hid (ParseAt w (w4.alloc (.cells #[.string b, .func (.func (wayFn a)) #[] #[]] 98))) := hide (HA4.out.keep (Keep.of_below (below_alloc _ _) fun k hk => by have := HA4.out.size; omega))
        have HC5 : Hid ((w4.alloc (.cells #[.string b, .func (.func (wayFn a)) #[] #[]] 98)).cell? ⟨w4.heap.size, 1, none⟩ = some (.func (.func (wayFn a)) #[] #[])) := hide (by rw [Lib.cell_of_heap (heap_alloc_new _ _)]; rfl)
        have HZ5 : Hid ((w4.alloc (.cells #[.string b, .func (.func (wayFn a)) #[] #[]] 98)).heap.size = w4.heap.size + 1) := hide (by simp)
        go_upto_region 8 with fail
        generalize w4.alloc (.cells #[.string b, .func (.func (wayFn a)) #[] #[]] 98) = W5 at HL5 HA5 HC5 HZ5 ⊢
        have hz6 : w.heap.size + 1 + 1 + 1 < w4.heap.size := HL4.out.lt
        have hka : a < 256 := kw_lt Hmem.out
        have hkind : kindOf b = some a := kindOf_of Hmem.out
        have HK := hide hkind
        obtain ⟨x1, hc1⟩ := HL5.out.cellAt 1 (by decide)
        have hf1 := HL5.out.free 1
        have HL6 := hide (HL5.out.put (j := 0) (by decide) (.int .u8 a))
        have HA6 : Hid (ParseAt w (W5.setCell ⟨w.heap.size + 1 + 1 + 1, 1, none⟩ (.int .u8 a))) := hide (HA5.out.keep ((Keep.refl _ _).setCell (by show ¬ w.heap.size + 1 + 1 + 1 < _; omega) _))
        have HC6 : Hid ((W5.setCell ⟨w.heap.size + 1 + 1 + 1, 1, none⟩ (.int .u8 a)).cell? ⟨w4.heap.size, 1, none⟩ = some (.func (.func (wayFn a)) #[] #[])) := hide (cell_set_ne HC5.out (by intro e; injection e with e; omega))
        have hent : ∀ args W, (callFunc (wayFn a) args).run Tryz.prog W = .ok (.enter (wayFn a) args) W := ways_enter (a, b) Hmem.out
        clear hkind HR4 HL4 HA4 HF HA5 HC5
        by_cases hw : ∃ repo r2, r = repo :: r2 ∧ isWord repo = true
        · obtain ⟨repo, r2, rfl, hw⟩ := hw
          have hrs : repo.size ≤ 1099511627776 := Hall.out repo (by simp)
          have hrec2 : a = 2 → RestOk 106 restRecord := fun e => hrec (repo :: r2) (by rw [Hws.out, kw_uniq (k := 2) (s := b) (t := kwRecord) (e ▸ Hmem.out) (by simp [kwL])])
          have HR8 : Hid (∀ {W : World}, LnIn (fun b => b = w.heap.size + 1 + 1) (w.heap.size + 1 + 1 + 1) W r2 (cmdVs ⟨a, repo, noTxt, noTxt, noTxt, Pt.zero, []⟩ Ph.zero none 0) → TabFar (w.heap.size + 1 + 1 + 1) W → Calls Tryz.prog (wayFn a) #[.pointer (some ⟨w.heap.size + 1 + 1 + 1, 0, none⟩)] W (RestPost (fun b => b = w.heap.size + 1 + 1) (w.heap.size + 1 + 1 + 1) W (restOf a ⟨a, repo, noTxt, noTxt, noTxt, Pt.zero, []⟩ r2))) :=
            hide fun h1 h2 => (ways_ok (a, b) Hmem.out hrec2) hka hrs h1 h2 (fun x hx => Hall.out x (by simp [hx]))
          clear hrec2
          rcases hro : restOf a ⟨a, repo, noTxt, noTxt, noTxt, Pt.zero, []⟩ r2 with _ | ⟨c, r3⟩
          · have hno : lineOf (wordsOf 32 s) = none := by
              rw [Hws.out]
              rw [lineOf_eq, HK.out]
              simp only [Option.bind_some, hw, if_true, hro]
            have Hno := hide hno
            clear hno
            go_wp2_with (first
              | (go_at_call 77; (with_reducible refine (wword_yes HL6.out.wd hw).mono ?_); rintro e7 w7 ⟨rfl, h1, u, hu⟩; have h2 := HL6.out.take hu h1; obtain ⟨x2, hc2⟩ := h2.cellAt 2 (by decide); have hf2 := h2.free 2; have hS7 : SideN (w.heap.size + 1 + 1 + 1) (W5.setCell ⟨w.heap.size + 1 + 1 + 1, 1, none⟩ (.int .u8 a)) w7 := (by rw [hu]; exact (Keep.refl _ _).setCell (fun hk => hk.2 rfl) u); have hcw : w7.cell? ⟨w4.heap.size, 1, none⟩ = some (.func (.func (wayFn a)) #[] #[]) := (hS7.cell (a := ⟨w4.heap.size, 1, none⟩) ⟨by have := HZ5.out; simp; omega, by show ¬ w4.heap.size = _; omega⟩).trans HC6.out; have hcw2 := cell_set_ne (a := ⟨w.heap.size + 1 + 1 + 1, 2, none⟩) (u := .string repo) hcw (by intro e; injection e with e; omega); have H8 := hide (h2.put (j := 1) (by decide) (.string repo)); have HA8 : Hid (ParseAt w (w7.setCell ⟨w.heap.size + 1 + 1 + 1, 2, none⟩ (.string repo))) := hide ((HA6.out.keep (hS7.mono fun k hk => by have := HA6.out.size; exact ⟨by omega, by omega⟩)).keep ((Keep.refl _ _).setCell (by show ¬ w.heap.size + 1 + 1 + 1 < _; omega) _)); have HT8 : Hid (TabFar (w.heap.size + 1 + 1 + 1) (w7.setCell ⟨w.heap.size + 1 + 1 + 1, 2, none⟩ (.string repo))) := hide ⟨w, htab, HA8.out.below, by omega⟩; clear h1 h2 hu hS7)
              | (go_at_fn (wayFn a); (with_reducible refine (HR8.out H8.out HT8.out).mono ?_); rintro e9 w9 ⟨hS9, hN9, hY9⟩; have hp9 := hN9 hro; subst hp9; have HA9 : Hid (ParseAt w w9) := hide (HA8.out.keep (hS9.mono fun k hk => by have := HA8.out.size; have := H8.out.lt; exact ⟨by omega, by omega⟩)); clear hS9 hN9 hY9))
            exact HA9.out.fell rfl rfl Hno.out
          · have Hro := hide hro
            clear hro
            rcases r3 with _ | ⟨y3, r3⟩
            · have hyes : lineOf (wordsOf 32 s) = some c := by
                rw [Hws.out]
                rw [lineOf_eq, HK.out]
                simp only [Option.bind_some, hw, if_true, Hro.out]
              have Hyes := hide hyes
              clear hyes
              go_wp2_with (first
                | (go_at_call 77; (with_reducible refine (wword_yes HL6.out.wd hw).mono ?_); rintro e7 w7 ⟨rfl, h1, u, hu⟩; have h2 := HL6.out.take hu h1; obtain ⟨x2, hc2⟩ := h2.cellAt 2 (by decide); have hf2 := h2.free 2; have hS7 : SideN (w.heap.size + 1 + 1 + 1) (W5.setCell ⟨w.heap.size + 1 + 1 + 1, 1, none⟩ (.int .u8 a)) w7 := (by rw [hu]; exact (Keep.refl _ _).setCell (fun hk => hk.2 rfl) u); have hcw : w7.cell? ⟨w4.heap.size, 1, none⟩ = some (.func (.func (wayFn a)) #[] #[]) := (hS7.cell (a := ⟨w4.heap.size, 1, none⟩) ⟨by have := HZ5.out; simp; omega, by show ¬ w4.heap.size = _; omega⟩).trans HC6.out; have hcw2 := cell_set_ne (a := ⟨w.heap.size + 1 + 1 + 1, 2, none⟩) (u := .string repo) hcw (by intro e; injection e with e; omega); have H8 := hide (h2.put (j := 1) (by decide) (.string repo)); have HA8 : Hid (ParseAt w (w7.setCell ⟨w.heap.size + 1 + 1 + 1, 2, none⟩ (.string repo))) := hide ((HA6.out.keep (hS7.mono fun k hk => by have := HA6.out.size; exact ⟨by omega, by omega⟩)).keep ((Keep.refl _ _).setCell (by show ¬ w.heap.size + 1 + 1 + 1 < _; omega) _)); have HT8 : Hid (TabFar (w.heap.size + 1 + 1 + 1) (w7.setCell ⟨w.heap.size + 1 + 1 + 1, 2, none⟩ (.string repo))) := hide ⟨w, htab, HA8.out.below, by omega⟩; clear h1 h2 hu hS7)
                | (go_at_fn (wayFn a); (with_reducible refine (HR8.out H8.out HT8.out).mono ?_); rintro e9 w9 ⟨hS9, hN9, hY9⟩; obtain ⟨hp9, x9, A9, n9, hL9, hC9⟩ := hY9 c [] Hro.out; subst hp9; obtain ⟨Aw, cw, hcw9, _⟩ := hL9.wd.at_; have hcw9 : w9.cell? ⟨w.heap.size + 1 + 1 + 1, 0, none⟩ = some (.slice Aw 0 cw) := hcw9; have HL9 := hide hL9; have HC9 := hide hC9; have hz9 := H8.out.lt; have HA9 : Hid (ParseAt w w9) := hide (HA8.out.keep (hS9.mono fun k hk => by have := HA8.out.size; have := H8.out.lt; exact ⟨by omega, by omega⟩)); clear hS9 hN9 hY9 hL9 hC9)
                | (go_at_call 78; (with_reducible refine (smust_yes rfl _).mono ?_); rintro e10 w10 ⟨rfl, rfl⟩)
                | (refine wpList_load_mid rfl _ _ rfl (w.heap.size + 1 + 1 + 1) 1 rfl (cmdVs c x9 A9 n9) _ HL9.out.cells Tryz.underlying46 rfl info20 ?_)
                | (refine wpList_store_mid rfl _ _ _ rfl w.heap.size 0 (cmdVs c x9 A9 n9).toArray rfl rfl HA9.out.ct info20 (cmd_one c x9 A9 n9) ?_; obtain ⟨V, hV, hV1, hV2, hV3, hV4, hV5⟩ := HA9.out.stored (cmdVs c x9 A9 n9) rfl; rw [← hV]; have HV3 := hide hV3; have HV4 := hide hV4; have HV5 := hide hV5; clear hV hV3 hV4 hV5))
              refine parse_ends rfl rfl rfl hV1 HV3.out ⟨HV5.out.setCell (p := ⟨w.heap.size + 1, 0, none⟩) (Nat.le_succ _) _, fun h => by (rw [Hyes.out] at h; cases h), fun c' hc => ?_⟩
              rw [Hyes.out] at hc
              injection hc with hc
              subst hc
              have h9 : w.heap.size + 1 + 1 + 1 < (w7.setCell ⟨w.heap.size + 1 + 1 + 1, 2, none⟩ (.string repo)).heap.size := H8.out.lt
              exact ⟨x9, A9, n9, rfl, ((HC9.out.keep fun g hg => HV4.out.block g (by show ¬ g = w.heap.size; omega)).setLow (a := ⟨w.heap.size + 1, 0, none⟩) (by show w.heap.size + 1 < _; omega) _).mono (by omega)⟩
            · have hno : lineOf (wordsOf 32 s) = none := by
                rw [Hws.out]
                rw [lineOf_eq, HK.out]
                simp only [Option.bind_some, hw, if_true, Hro.out]
              have Hno := hide hno
              have hb0 : (((r3.length : Int) + 1) == 0) = false := by rw [beq_eq_false_iff_ne]; omega
              clear hno
              go_wp2_with (first
                | (go_at_call 77; (with_reducible refine (wword_yes HL6.out.wd hw).mono ?_); rintro e7 w7 ⟨rfl, h1, u, hu⟩; have h2 := HL6.out.take hu h1; obtain ⟨x2, hc2⟩ := h2.cellAt 2 (by decide); have hf2 := h2.free 2; have hS7 : SideN (w.heap.size + 1 + 1 + 1) (W5.setCell ⟨w.heap.size + 1 + 1 + 1, 1, none⟩ (.int .u8 a)) w7 := (by rw [hu]; exact (Keep.refl _ _).setCell (fun hk => hk.2 rfl) u); have hcw : w7.cell? ⟨w4.heap.size, 1, none⟩ = some (.func (.func (wayFn a)) #[] #[]) := (hS7.cell (a := ⟨w4.heap.size, 1, none⟩) ⟨by have := HZ5.out; simp; omega, by show ¬ w4.heap.size = _; omega⟩).trans HC6.out; have hcw2 := cell_set_ne (a := ⟨w.heap.size + 1 + 1 + 1, 2, none⟩) (u := .string repo) hcw (by intro e; injection e with e; omega); have H8 := hide (h2.put (j := 1) (by decide) (.string repo)); have HA8 : Hid (ParseAt w (w7.setCell ⟨w.heap.size + 1 + 1 + 1, 2, none⟩ (.string repo))) := hide ((HA6.out.keep (hS7.mono fun k hk => by have := HA6.out.size; exact ⟨by omega, by omega⟩)).keep ((Keep.refl _ _).setCell (by show ¬ w.heap.size + 1 + 1 + 1 < _; omega) _)); have HT8 : Hid (TabFar (w.heap.size + 1 + 1 + 1) (w7.setCell ⟨w.heap.size + 1 + 1 + 1, 2, none⟩ (.string repo))) := hide ⟨w, htab, HA8.out.below, by omega⟩; clear h1 h2 hu hS7)
                | (go_at_fn (wayFn a); (with_reducible refine (HR8.out H8.out HT8.out).mono ?_); rintro e9 w9 ⟨hS9, hN9, hY9⟩; obtain ⟨hp9, x9, A9, n9, hL9, hC9⟩ := hY9 c (y3 :: r3) Hro.out; subst hp9; obtain ⟨Aw, cw, hcw9, _⟩ := hL9.wd.at_; have hcw9 : w9.cell? ⟨w.heap.size + 1 + 1 + 1, 0, none⟩ = some (.slice Aw (r3.length + 1) cw) := hcw9; have HA9 : Hid (ParseAt w w9) := hide (HA8.out.keep (hS9.mono fun k hk => by have := HA8.out.size; have := H8.out.lt; exact ⟨by omega, by omega⟩)); clear hS9 hN9 hY9 hL9 hC9)
                | (go_at_call 78; (with_reducible refine (smust_no (by first | rfl | exact hb0 | simp_all) _).mono ?_); rintro e10 w10 ⟨rfl, rfl⟩))
              exact HA9.out.fell rfl rfl Hno.out
        · have hstop : ∀ s r', r = s :: r' → isWord s = false := fun s r' e => by
            rcases hx : isWord s with _ | _
            · rfl
            · exact absurd ⟨s, r', e, hx⟩ hw
          have hno : lineOf (wordsOf 32 s) = none := by
            rw [Hws.out]
            rcases r with _ | ⟨repo, r⟩
            · rfl
            · simp [lineOf, HK.out, hstop repo r rfl]
          have Hno := hide hno
          have Hstop := hide hstop
          clear hw hno hstop
          go_wp2_with (go_at_call 77; (with_reducible refine (wword_stop HL6.out.wd Hstop.out).mono ?_); rintro e7 w7 ⟨rfl, hS7⟩; have HA7 : Hid (ParseAt w w7) := hide (HA6.out.keep (hS7.mono fun k hk => by have := HA6.out.size; have := HL6.out.lt; exact ⟨by omega, by omega⟩)); clear hS7)
          exact HA7.out.fell rfl rfl Hno.out
      · have e2 : (b.toList == first.toList) = false := by
          rw [beq_eq_false_iff_ne]
          exact fun e => hbf (tl_eq.1 e)
        have HF2 : Hid (∀ p ∈ kwL, (left (.int .u8 p.1) && !(Lit.int .u8 p.1).sameKey (.int .u8 (a : Int))) = false → p.2 ≠ first) := hide fun p hp h => by
          rw [Bool.and_eq_false_iff] at h
          rcases h with h | h
          · exact HF.out p hp h
          · have hpa : p.1 = a := by
              simp only [Bool.not_eq_false', Lit.sameKey] at h
              simp at h
              omega
            intro e
            exact hbf ((kw_uniq Hmem.out (by rw [← hpa]; exact hp)).trans e)
        clear hbf
        go_wp2_with fail
        go_roundg cnt4
        case measure => exact hlt
        case rel => exact ⟨_, hide (HR4.out.alloc _), hide (HL4.out.below (below_alloc _ _)), hide (HA4.out.keep (Keep.of_below (below_alloc _ _) fun k hk => by have := HA4.out.size; omega)), by have := HS4.out; simp; omega, HF2⟩

end Go.Proofs.YtjjaojnglnpgaaaGreatDoor
