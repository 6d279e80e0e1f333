/- The reader of bytes: rows of numbers and of texts. Printed by gen_read3.py. -/
import Derived.Test.YthaoldnlleilfaaDoorCRead

set_option linter.unusedVariables false
set_option linter.unusedSimpArgs false

namespace Go.Proofs.YthaoldnlleilfaaDoor
open Go.RowKit

theorem own_side {rb e size n : Nat} {w w' : World} {v : Value} {xs : List Value} (h : w.ownsRow 0 e size v n xs) (hne : ∀ g, v.ownBlock = some g → g ≠ rb) (hs : Side rb w w') : w'.ownsRow 0 e size v n xs := by
  refine ⟨h.1, ?_⟩
  rcases h.2 with hn | ⟨g, cap, cur, rfl, hb, hgg, rest⟩
  · exact .inl hn
  · refine .inr ⟨g, cap, cur, rfl, hb, ?_, rest⟩
    rw [hs.block g ⟨(Array.getElem?_eq_some_iff.1 hgg).1, hne g rfl⟩]
    exact hgg
/-- the cells of a row that the call made -/
theorem own_rd {S : Nat → Prop} {e n : Nat} {w : World} {v : Value} {xs : List Value} (h : w.ownsRow 0 e 1 v n xs) (hne : ∀ g, v.ownBlock = some g → S g) : ∃ A c, v = .slice A n c ∧ Rd S w A xs ∧ n ≤ c ∧ c ≤ 9223372036854775807 := by
  rcases h.2 with ⟨rfl, rfl⟩ | ⟨g, cap, cur, rfl, hb, hgg, hn, hc, _⟩
  · have : xs = [] := List.eq_nil_of_length_eq_zero (by simpa using h.1)
    subst this
    exact ⟨_, _, rfl, .inl rfl, Nat.le_refl _, by omega⟩
  · refine ⟨_, _, rfl, .inr ⟨g, 0, rfl, hne g rfl, fun j u hu => ?_⟩, hn, by unfold maxLen at hc; omega⟩
    have := h.cells (g := g) rfl j u hu
    rwa [Addr.add_lit] at this
theorem grown_side {rb : Nat} {w w' : World} {row : Option Nat} (hg : w.grownBy w' row) (hr : ∀ k, row = some k → k ≠ rb) (W : World) (hW : Side rb W w) (hnew : ∀ k, row = some k → W.heap.size ≤ k) : Side rb W w' :=
  Keep.grown hW hg (fun k hk => hk.1) (fun k hk hp => absurd hp.1 (by have := hnew k hk; omega))
theorem rdr_grown {D : Nat → Prop} {rb d : Nat} {W w w' : World} {l : List UInt8} {row : Option Nat} (h : Rdr (fun b => D b ∧ b < W.heap.size) rb w l d) (hg : w.grownBy w' row) (hrb : rb < W.heap.size) (hW : W.heap.size ≤ w.heap.size) (hr : ∀ k, row = some k → W.heap.size ≤ k) :
    Rdr (fun b => D b ∧ b < W.heap.size) rb w' l d :=
  h.keep fun b hb => hg.block b (Nat.lt_of_lt_of_le (hb.elim (fun h => h.2) (fun e => e ▸ hrb)) hW) (fun e => by
    have h1 := hr b e.symm
    have h2 : b < W.heap.size := hb.elim (fun h => h.2) (fun e => e ▸ hrb)
    omega)
/-- what the bytes tell: a row, or none -/
def RowAt {α : Type} (enc : α → List UInt8) (fit : α → Prop) (l : List UInt8) : Prop := ∃ (m : List α) (l' : List UInt8), (∀ a ∈ m, fit a) ∧ m.length ≤ max63 ∧ l = rowB enc m ++ l'
theorem row_short {α : Type} {enc : α → List UInt8} {fit : α → Prop} {l : List UInt8} (h : l.length < 8) : ¬ RowAt enc fit l := by
  rintro ⟨m, l', _, _, rfl⟩
  unfold rowB at h
  rw [List.length_append, List.length_append, num8_len] at h
  omega
theorem row_guard {α : Type} {enc : α → List UInt8} {fit : α → Prop} (h8 : ∀ a, 8 ≤ (enc a).length) {n : Int} {l1 : List UInt8} (hn : is63 n) (h : ¬ (0 ≤ n ∧ n ≤ (l1.length : Int) / 8)) : ¬ RowAt enc fit (num8 n ++ l1) := by
  rintro ⟨m, l', hf, hm, he⟩
  unfold rowB at he
  rw [List.append_assoc] at he
  obtain ⟨e1, e2⟩ := num8_split hn (is63_nat hm) he
  have := flat_len8 h8 m
  rw [e2, List.length_append] at h
  refine h ⟨by omega, ?_⟩
  omega
theorem row_next {α : Type} {enc : α → List UInt8} {fit : α → Prop} (hs : ∀ a b x y, fit a → fit b → enc a ++ x = enc b ++ y → a = b ∧ x = y) {n : Int} {xs : List α} {l1 lq : List UInt8} (hn : is63 n) (hx : ∀ a ∈ xs, fit a)
    (he : l1 = (xs.map enc).flatten ++ lq) (hlt : (xs.length : Int) < n) (hno : ¬ ∃ a l', fit a ∧ lq = enc a ++ l') : ¬ RowAt enc fit (num8 n ++ l1) := by
  rintro ⟨m, l', hf, hm, h⟩
  unfold rowB at h
  rw [List.append_assoc] at h
  obtain ⟨e1, e2⟩ := num8_split hn (is63_nat hm) h
  rw [he] at e2
  have hle : xs.length < m.length := by omega
  obtain ⟨_, e4⟩ := flat_behind hs hx hf (by omega) e2
  rw [List.drop_eq_getElem_cons hle] at e4
  rw [List.map_cons, List.flatten_cons, List.append_assoc] at e4
  exact hno ⟨m[xs.length], _, hf _ (List.getElem_mem hle), e4⟩
theorem num8_none {l : List UInt8} (h : l.length < 8) : ¬ ∃ (n : Int) (l' : List UInt8), is63 n ∧ l = num8 n ++ l' := by
  rintro ⟨n, l', _, rfl⟩
  rw [List.length_append, num8_len] at h
  omega

theorem InfosomeInt : (Tryd.prog.info? 3).map (fun i => (i.zero, i.size, i.bytes)) = some (some (.int .i64 0), 1, 8) := by kernel_rfl
set_option maxHeartbeats 2000000 in
set_option maxRecDepth 1000000 in
theorem someInt_get {D : Nat → Prop} {rb d : Nat} {w : World} {l : List UInt8} (h : Rdr D rb w l d) (hl : l.length ≤ lid) :
    Calls Tryd.prog 57 #[.pointer (some ⟨rb, 0, none⟩), .func (.func 35) #[.pointer (some ⟨rb, 0, none⟩)] #[]] w fun e w' =>
      (∃ xs l' A c, l = pathB xs ++ l' ∧ (∀ a ∈ xs, is63 a) ∧ e = .returned (.slice A xs.length c) ∧ IntsIn (fun b => w.heap.size ≤ b) w' A xs ∧ xs.length ≤ c ∧ c ≤ 9223372036854775807 ∧ Rdr D rb w' l' d ∧ Side rb w w') ∨
      (¬ RowAt num8 (is63) l ∧ e = oops ∧ Side rb w w') := by
  have hrb := h.lt
  have Hoff := hide h.off
  have H := hide h.old
  obtain ⟨i0, hi, hz0, hz1, hz2⟩ := info_parts InfosomeInt
  clear h
  by_cases h8 : l.length < 8
  · go_enter Tryd.func57, Tryd.ntmps57
    go_wp2_with (go_at_call 35; (with_reducible refine (number_no H.out h8).mono ?_); rintro e w1 ⟨rfl, hs⟩; exact ⟨rfl, .inr ⟨row_short h8, rfl, hs⟩⟩)
  obtain ⟨n, l1, rfl, hn⟩ := num8_exists (l := l) (by omega)
  have Hn := hide hn
  unfold is63 at hn
  have hl1 : 8 + l1.length ≤ 1099511627776 := by rw [List.length_append, num8_len] at hl; exact hl
  have hq8 : wrap64 ((l1.length : Int) / 8) = (l1.length : Int) / 8 := by unfold wrap64; omega
  by_cases hok : 0 ≤ n ∧ n ≤ (l1.length : Int) / 8
  · obtain ⟨ha, hb⟩ := hok
    clear hl h8
    go_enter Tryd.func57, Tryd.ntmps57
    go_wp2_with (first
      | (go_at_call 35; (with_reducible refine (number_yes (n := n) (l' := l1) H.out Hn.out).mono ?_); rintro e w1 ⟨rfl, hr, hs⟩; obtain ⟨A1, c1, q0⟩ := hr.slice; have Hr := hide hr; have Hs := hide hs; clear hr hs)
      | (go_at_call 38; refine (must_yes (by first | rfl | (simp; omega)) _).mono ?_; rintro e w2 ⟨rfl, rfl⟩))
    have hw1 := Hs.out.size
    go_loopw [24, 6] (fun i v wr => ∃ (xs : List Int) (lq : List UInt8), i = .int .i64 xs.length ∧ (xs.length : Int) ≤ n ∧ Hid (l1 = (xs.map num8).flatten ++ lq) ∧ Hid (∀ a ∈ xs, is63 a) ∧ Hid (wr.ownsRow 0 3 1 v xs.length (xs.map (.int .i64))) ∧ Hid (∀ g, v.ownBlock = some g → w.heap.size ≤ g) ∧
        Hid (Rdr (fun b => D b ∧ b < w.heap.size) rb wr lq d) ∧ Hid (Side rb w wr)) (fun i _ _ => (n - intOf i).toNat)
    case atStart => exact ⟨[], l1, rfl, ha, hide rfl, hide (by simp), hide (World.ownsRow_nil _ _ _ _), hide (by simp [Value.ownBlock]), Hr, Hs⟩
    case round =>
      obtain ⟨xs, lq, rfl, hle, He, Hf, Ho, Hg, Hq, HS⟩ := hrel
      have hfl := flat_len8 (enc := num8) (fun a => Nat.le_of_eq (num8_len a).symm) xs
      have hlq : (xs.map num8).flatten.length + lq.length = l1.length := by rw [He.out, List.length_append]
      have hxl : 8 * xs.length ≤ l1.length := by omega
      have hwr := HS.out.size
      by_cases hlt : (xs.length : Int) < n
      · go_wp2_with (first
          | (go_at_call 35; (refine (number_get Hq.out).mono ?_); rintro e w3 (⟨a, l2, he2, ha2, rfl, hr2, hs2⟩ | ⟨hno, rfl, hs2⟩))
          | (at_builtin; refine wpList_append_own2 _ rfl _ _ 27 rfl 3 i0 (.int .i64 0) 1 8 Tryd.underlying27 hi hz0 hz1 hz2 rfl (by decide) _ xs.length (xs.map (.int .i64)) rfl ((own_side Ho.out (fun g hg => by have := Hg.out g hg; omega) hs2).alloc _) ⟨w3.heap.size, 0, none⟩ 1 1 [.int .i64 a] rfl rfl (cell_one_new _ _ _) (by intro u hu; simp at hu; subst hu; rfl) (by unfold maxLen; omega) (by omega) ?_; intro v' w4 hown hgrow hnil hwhere))
        · have hS3 : Side rb w w3 := Side.trans HS.out hs2
          have hsz := hS3.size
          refine ⟨⟨xs ++ [a], l2, by simp, by simp; omega, hide ?_, hide ?_, hide ?_, hide ?_, hide ?_, hide ?_⟩, by simp [intOf]; omega⟩
          · rw [He.out, he2]; simp
          · intro b hb
            rcases List.mem_append.mp hb with hb | hb
            · exact Hf.out b hb
            · rw [List.mem_singleton] at hb; rw [hb]; exact ha2
          · simpa using hown
          · intro g hg
            rcases hwhere with e | e
            · exact Hg.out g (e ▸ hg)
            · rw [hg] at e; injection e with e; simp at e; omega
          · exact rdr_grown (hr2.alloc _) hgrow hrb (by simp; omega) (fun k hk => Hg.out k hk)
          · exact Keep.grown (Side.alloc hS3 _) hgrow (fun k hk => hk.1) (fun k hk hp => absurd hp.1 (by have := Hg.out k hk; omega))
        · exact ⟨rfl, .inr ⟨row_next (fun _ _ _ _ ha hb h => num8_split ha hb h) Hn.out Hf.out He.out hlt (num8_none hno), rfl, Side.trans HS.out hs2⟩⟩
      · go_wp2_with fail
        obtain ⟨A2, c2, rfl, hrd, hc2, hc3⟩ := own_rd (S := fun b => w.heap.size ≤ b) Ho.out Hg.out
        go_ret
        have hnn : n = (xs.length : Int) := by omega
        refine .inl ⟨xs, lq, ?_, Hf.out, _, _, rfl, ⟨hrd, fun a ha => Hf.out a ha, by omega⟩, hc2, hc3, Hq.out.back Hoff.out, HS.out⟩
        rw [He.out, hnn, ← List.append_assoc]; rfl
  · go_enter Tryd.func57, Tryd.ntmps57
    go_wp2_with (first
      | (go_at_call 35; (with_reducible refine (number_yes (n := n) (l' := l1) H.out Hn.out).mono ?_); rintro e w1 ⟨rfl, hr, hs⟩; obtain ⟨A1, c1, q0⟩ := hr.slice; have Hr := hide hr; have Hs := hide hs; clear hr hs)
      | (go_at_call 38; refine (must_no (by first | rfl | (simp; omega)) _).mono ?_; rintro e w2 ⟨rfl, rfl⟩))
    all_goals exact ⟨rfl, .inr ⟨row_guard (fun a => Nat.le_of_eq (num8_len a).symm) Hn.out hok, rfl, Hs.out⟩⟩

theorem InfosomeStr : (Tryd.prog.info? 9).map (fun i => (i.zero, i.size, i.bytes)) = some (some (.string ByteArray.empty), 1, 16) := by kernel_rfl
set_option maxHeartbeats 2000000 in
set_option maxRecDepth 1000000 in
theorem someStr_get {D : Nat → Prop} {rb d : Nat} {w : World} {l : List UInt8} (h : Rdr D rb w l d) (hl : l.length ≤ lid) :
    Calls Tryd.prog 36 #[.pointer (some ⟨rb, 0, none⟩), .func (.func 34) #[.pointer (some ⟨rb, 0, none⟩)] #[]] w fun e w' =>
      (∃ xs l' A c, l = txtsB xs ++ l' ∧ (∀ a ∈ xs, (fun s => s.size ≤ max63) a) ∧ e = .returned (.slice A xs.length c) ∧ StrsIn (fun b => w.heap.size ≤ b) w' A xs ∧ xs.length ≤ c ∧ c ≤ 9223372036854775807 ∧ Rdr D rb w' l' d ∧ Side rb w w') ∨
      (¬ RowAt txtB ((fun s => s.size ≤ max63)) l ∧ e = oops ∧ Side rb w w') := by
  have hrb := h.lt
  have Hoff := hide h.off
  have H := hide h.old
  obtain ⟨i0, hi, hz0, hz1, hz2⟩ := info_parts InfosomeStr
  clear h
  by_cases h8 : l.length < 8
  · go_enter Tryd.func36, Tryd.ntmps36
    go_wp2_with (go_at_call 35; (with_reducible refine (number_no H.out h8).mono ?_); rintro e w1 ⟨rfl, hs⟩; exact ⟨rfl, .inr ⟨row_short h8, rfl, hs⟩⟩)
  obtain ⟨n, l1, rfl, hn⟩ := num8_exists (l := l) (by omega)
  have Hn := hide hn
  unfold is63 at hn
  have hl1 : 8 + l1.length ≤ 1099511627776 := by rw [List.length_append, num8_len] at hl; exact hl
  have hq8 : wrap64 ((l1.length : Int) / 8) = (l1.length : Int) / 8 := by unfold wrap64; omega
  by_cases hok : 0 ≤ n ∧ n ≤ (l1.length : Int) / 8
  · obtain ⟨ha, hb⟩ := hok
    clear hl h8
    go_enter Tryd.func36, Tryd.ntmps36
    go_wp2_with (first
      | (go_at_call 35; (with_reducible refine (number_yes (n := n) (l' := l1) H.out Hn.out).mono ?_); rintro e w1 ⟨rfl, hr, hs⟩; obtain ⟨A1, c1, q0⟩ := hr.slice; have Hr := hide hr; have Hs := hide hs; clear hr hs)
      | (go_at_call 38; refine (must_yes (by first | rfl | (simp; omega)) _).mono ?_; rintro e w2 ⟨rfl, rfl⟩))
    have hw1 := Hs.out.size
    go_loopw [24, 6] (fun i v wr => ∃ (xs : List ByteArray) (lq : List UInt8), i = .int .i64 xs.length ∧ (xs.length : Int) ≤ n ∧ Hid (l1 = (xs.map txtB).flatten ++ lq) ∧ Hid (∀ a ∈ xs, (fun s => s.size ≤ max63) a) ∧ Hid (wr.ownsRow 0 9 1 v xs.length (xs.map (.string))) ∧ Hid (∀ g, v.ownBlock = some g → w.heap.size ≤ g) ∧
        Hid (Rdr (fun b => D b ∧ b < w.heap.size) rb wr lq d) ∧ Hid (Side rb w wr)) (fun i _ _ => (n - intOf i).toNat)
    case atStart => exact ⟨[], l1, rfl, ha, hide rfl, hide (by simp), hide (World.ownsRow_nil _ _ _ _), hide (by simp [Value.ownBlock]), Hr, Hs⟩
    case round =>
      obtain ⟨xs, lq, rfl, hle, He, Hf, Ho, Hg, Hq, HS⟩ := hrel
      have hfl := flat_len8 (enc := txtB) (fun a => by rw [txtB_len]; omega) xs
      have hlq : (xs.map txtB).flatten.length + lq.length = l1.length := by rw [He.out, List.length_append]
      have hxl : 8 * xs.length ≤ l1.length := by omega
      have hwr := HS.out.size
      by_cases hlt : (xs.length : Int) < n
      · go_wp2_with (first
          | (go_at_call 34; (refine (text_get Hq.out (show _ ≤ 9223372036854775807 by omega)).mono ?_); rintro e w3 (⟨a, l2, he2, ha2, rfl, hr2, hs2⟩ | ⟨hno, rfl, hs2⟩))
          | (at_builtin; refine wpList_append_own2 _ rfl _ _ 23 rfl 9 i0 (.string ByteArray.empty) 1 16 Tryd.underlying23 hi hz0 hz1 hz2 rfl (by decide) _ xs.length (xs.map (.string)) rfl ((own_side Ho.out (fun g hg => by have := Hg.out g hg; omega) hs2).alloc _) ⟨w3.heap.size, 0, none⟩ 1 1 [.string a] rfl rfl (cell_one_new _ _ _) (by intro u hu; simp at hu; subst hu; rfl) (by unfold maxLen; omega) (by omega) ?_; intro v' w4 hown hgrow hnil hwhere))
        · have hS3 : Side rb w w3 := Side.trans HS.out hs2
          have hsz := hS3.size
          refine ⟨⟨xs ++ [a], l2, by simp, by simp; omega, hide ?_, hide ?_, hide ?_, hide ?_, hide ?_, hide ?_⟩, by simp [intOf]; omega⟩
          · rw [He.out, he2]; simp
          · intro b hb
            rcases List.mem_append.mp hb with hb | hb
            · exact Hf.out b hb
            · rw [List.mem_singleton] at hb; rw [hb]; exact ha2
          · simpa using hown
          · intro g hg
            rcases hwhere with e | e
            · exact Hg.out g (e ▸ hg)
            · rw [hg] at e; injection e with e; simp at e; omega
          · exact rdr_grown (hr2.alloc _) hgrow hrb (by simp; omega) (fun k hk => Hg.out k hk)
          · exact Keep.grown (Side.alloc hS3 _) hgrow (fun k hk => hk.1) (fun k hk hp => absurd hp.1 (by have := Hg.out k hk; omega))
        · exact ⟨rfl, .inr ⟨row_next (fun _ _ _ _ ha hb h => txtB_split ha hb h) Hn.out Hf.out He.out hlt hno, rfl, Side.trans HS.out hs2⟩⟩
      · go_wp2_with fail
        obtain ⟨A2, c2, rfl, hrd, hc2, hc3⟩ := own_rd (S := fun b => w.heap.size ≤ b) Ho.out Hg.out
        go_ret
        have hnn : n = (xs.length : Int) := by omega
        refine .inl ⟨xs, lq, ?_, Hf.out, _, _, rfl, ⟨hrd, fun a ha => Hf.out a ha, by omega⟩, hc2, hc3, Hq.out.back Hoff.out, HS.out⟩
        rw [He.out, hnn, ← List.append_assoc]; rfl
  · go_enter Tryd.func36, Tryd.ntmps36
    go_wp2_with (first
      | (go_at_call 35; (with_reducible refine (number_yes (n := n) (l' := l1) H.out Hn.out).mono ?_); rintro e w1 ⟨rfl, hr, hs⟩; obtain ⟨A1, c1, q0⟩ := hr.slice; have Hr := hide hr; have Hs := hide hs; clear hr hs)
      | (go_at_call 38; refine (must_no (by first | rfl | (simp; omega)) _).mono ?_; rintro e w2 ⟨rfl, rfl⟩))
    all_goals exact ⟨rfl, .inr ⟨row_guard (fun a => by rw [txtB_len]; omega) Hn.out hok, rfl, Hs.out⟩⟩

end Go.Proofs.YthaoldnlleilfaaDoor
