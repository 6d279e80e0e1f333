/- The document's bytes (ref24): number, text, rows. Printed by gen_ref24.py. -/
import Derived.Lib.AppendStr
import Derived.Deep.CutBlock
import Derived.Deep.DeepCutAuto
import Derived.Test.YtfhfkbdaglegpaaGreatDoorTKeep
import Derived.Test.YtfhfkbdaglegpaaGreatDoorTBase
import Derived.Test.YtfhfkbdaglegpaaGreatDoorTRef19

set_option linter.unusedVariables false
set_option linter.unusedSimpArgs false

namespace Go.Proofs.YtfhfkbdaglegpaaGreatDoor
open Go.RowKit

theorem Tryu8b : (Tryz.prog.info? 5).map (fun i => (i.zero, i.size, i.bytes)) = some (some (.int .u8 0), 1, 1) := by kernel_rfl
abbrev lidB : Nat := 1099511627776
/-- a row of bytes of the call's own -/
def Own8 (B : Nat) (w : World) (v : Value) (l : List UInt8) : Prop := w.ownsRow B 5 1 v l.length (bytesV l)
section
variable {B : Nat} {w w' : World} {v : Value} {l : List UInt8}
theorem bytesV_app8 (l m : List UInt8) : bytesV (l ++ m) = bytesV l ++ bytesV m := by simp [bytesV]
theorem own_same8 {base size n : Nat} {e : TypeId} {xs : List Value} (h : w.ownsRow base e size v n xs) (hb : ∀ g, v.ownBlock = some g → w'.heap[g]? = w.heap[g]?) : w'.ownsRow base e size v n xs := by
  refine ⟨h.1, ?_⟩
  rcases h.2 with hn | ⟨g, cap, cur, rfl, hbg, hg, hr⟩
  · exact .inl hn
  · exact .inr ⟨g, cap, cur, rfl, hbg, (hb g rfl).trans hg, hr⟩
theorem Own8.below (h : Own8 B w v l) (hB : Below w.heap.size w w') : Own8 B w' v l := own_same8 h fun g hg => hB.block g (World.ownsRow.lt h g hg).2
theorem Own8.lit {x : UInt8} {c : Int} (w : World) (hc : c = (x.toNat : Int)) : Own8 w.heap.size (w.alloc (.cells #[.int .u8 c] 5)) (.slice (some ⟨w.heap.size, 0, none⟩) 1 1) [x] := by
  subst hc
  exact World.ownsRow_lit w #[.int .u8 x.toNat] 1 (Nat.le_refl _) (by decide) rfl
theorem Own8.nil (B : Nat) (w : World) : Own8 B w (.slice none 0 0) [] := World.ownsRow_nil _ _ _ _
theorem Own8.cells (h : Own8 B w v l) : ∃ A c, v = .slice A l.length c ∧ (A = none → l.length = 0) ∧ ∀ ad, A = some ad → ∀ j u, (bytesV l)[j]? = some u → w.cell? (ad.add j) = some u := by
  have h0 := h
  rcases h.2 with ⟨rfl, hn⟩ | ⟨g, cap, cur, rfl, hbg, hg, hr⟩
  · exact ⟨none, 0, by rw [hn], fun _ => hn, fun ad e => by cases e⟩
  · refine ⟨some ⟨g, 0, none⟩, cap, rfl, fun e => by (cases e), fun ad e => ?_⟩
    injection e with e
    subst e
    exact World.ownsRow.cells h0 rfl
theorem Own8.bytes {S : Nat → Prop} (h : Own8 B w v l) (hS : ∀ b, B ≤ b → S b) : ∃ A c, v = .slice A l.length c ∧ BytesIn S w A l ∧ l.length ≤ c ∧ c ≤ 9223372036854775807 := by
  have h0 := h
  rcases h.2 with ⟨rfl, hn⟩ | ⟨g, cap, cur, rfl, hbg, hg, hnc, hcm, hr⟩
  · have : l = [] := List.eq_nil_of_length_eq_zero hn
    subst this
    exact ⟨none, 0, rfl, ⟨.inl rfl, by simp⟩, Nat.le_refl _, by omega⟩
  · refine ⟨_, cap, rfl, ⟨.inr ⟨g, 0, rfl, hS g hbg, fun j u hu => ?_⟩, by unfold maxLen at hcm; omega⟩, hnc, by unfold maxLen at hcm; omega⟩
    have := World.ownsRow.cells h0 (g := g) rfl j u hu
    rwa [Addr.add_lit] at this

/-- one own row behind another, in a walk -/
theorem wpList_own8 {ops : Array Oper} {rest : List Oper} {o : Oper} {a : Act} {K0 : Exit → Act → World → Prop} (hgd : o.guard = none) (s x : Operand)
    (ho : o.op = .call { callee := .builtin .append, args := #[s, x], argTypes := #[36, 36] })
    (B B2 : Nat) (v v2 : Value) (l l2 : List UInt8) (hs : a.eval s = v) (hown : Own8 B w v l) (hx : a.eval x = v2) (h2 : Own8 B2 w v2 l2) (hlen : l.length + l2.length ≤ lidB) (hB : B ≤ w.heap.size)
    (h : ∀ v' w', Own8 B w' v' (l ++ l2) → Below B w w' → wpList Tryz.prog ops K0 rest (a.put o.dst v') w') : wpList Tryz.prog ops K0 (o :: rest) a w := by
  obtain ⟨A, c, rfl, hA, hc⟩ := h2.cells
  refine wpList_row hgd s x 36 ho B 5 Tryz.underlying36 Tryu8b rfl (by decide) v l.length (bytesV l) hs hown A l2.length c (bytesV l2) hx hA (by simp [bytesV]) hc (by intro u hu; simp [bytesV] at hu; obtain ⟨y, _, rfl⟩ := hu; rfl) (by unfold maxLen; simp only [lidB] at hlen; omega) (by simp only [lidB] at hlen; omega) hB fun v' w' h3 hg _ => h v' w' ?_ ((Below.refl _ _).grown hg hB fun k hk => (World.ownsRow.lt hown k hk).1)
  unfold Own8
  rw [bytesV_app8, List.length_append]
  exact h3
theorem wpList_own8s {ops : Array Oper} {rest : List Oper} {o : Oper} {a : Act} {K0 : Exit → Act → World → Prop} (hgd : o.guard = none) (s x : Operand)
    (ho : o.op = .call { callee := .builtin .append, args := #[s, x], argTypes := #[36, 9] })
    (B : Nat) (v : Value) (l : List UInt8) (t : ByteArray) (hs : a.eval s = v) (hown : Own8 B w v l) (hx : a.eval x = .string t) (hlen : l.length + t.size ≤ lidB) (hB : B ≤ w.heap.size)
    (h : ∀ v' w', Own8 B w' v' (l ++ t.data.toList) → Below B w w' → wpList Tryz.prog ops K0 rest (a.put o.dst v') w') : wpList Tryz.prog ops K0 (o :: rest) a w := by
  obtain ⟨i0, hi, hz0, hz1, hz2⟩ := info_parts Tryu8b
  refine Lib.wpList_append_own_string w hgd s x 36 9 ho B 5 i0 Tryz.underlying36 Tryz.underlying9 hi hz0 hz1 hz2 v l.length (bytesV l) hs hown t hx (by unfold maxLen; simp only [lidB] at hlen; omega) (by simp only [lidB] at hlen; omega) hB fun v' w' h3 hg _ => h v' w' ?_ ((Below.refl _ _).grown hg hB fun k hk => (World.ownsRow.lt hown k hk).1)
  unfold Own8
  have e : t.data.toList.length = t.size := by simp
  rw [bytesV_app8, List.length_append, e]
  exact h3
end

/-! ### number, text -/
theorem num8_byte (n : Int) (j : Nat) (hj : j < 8) : IntKind.u64.wrap n / 2 ^ (8 * (7 - j)) % 256 = (((num8 n)[j]'hj).toNat : Int) := by
  have hw : IntKind.u64.wrap n = n % 18446744073709551616 := by simp [IntKind.wrap, IntKind.bits, IntKind.signed]
  rw [hw]
  match j, hj with
  | 0, _ => simp [num8]; omega
  | 1, _ => simp [num8]; omega
  | 2, _ => simp [num8]; omega
  | 3, _ => simp [num8]; omega
  | 4, _ => simp [num8]; omega
  | 5, _ => simp [num8]; omega
  | 6, _ => simp [num8]; omega
  | 7, _ => simp [num8]; omega
theorem num8_len8 (n : Int) : (num8 n).length = 8 := rfl
theorem num8_more (n : Int) (j : Nat) (hj : j < 8) : (num8 n).take (j + 1) = (num8 n).take j ++ [(num8 n)[j]'hj] := by
  rw [List.take_succ_eq_append_getElem]; rfl
set_option maxHeartbeats 1000000 in
set_option maxRecDepth 1000000 in
theorem number24_any {w : World} {n : Int} (hn : isInt64 n) : Calls Tryz.prog 32 #[.int .i64 n] w fun e w' => ∃ v, e = .returned v ∧ Own8 w.heap.size w' v (num8 n) ∧ Below w.heap.size w w' := by
  unfold isInt64 at hn
  go_enter Tryz.func32, Tryz.ntmps32
  go_wp2_with fail
  go_loopw [3, 4] (fun v s wr => ∃ j : Nat, j ≤ 8 ∧ s = .int .i64 (7 - (j : Int)) ∧ Hid (Own8 w.heap.size wr v ((num8 n).take j)) ∧ Hid (Below w.heap.size w wr)) (fun _ s _ => (intOf s + 1).toNat)
  case atStart => exact ⟨0, by omega, rfl, hide (by simpa using Own8.nil _ _), hide (Below.refl _ _)⟩
  case round =>
    obtain ⟨j, hj, rfl, HO, HW⟩ := hrel
    by_cases hlt : j < 8
    · have hz := HW.out.size
      go_wp2_with (at_builtin; refine wpList_own8 rfl _ _ rfl w.heap.size wr.heap.size _ _ _ [(num8 n)[j]'hlt] rfl (HO.out.below (below_alloc _ _)) rfl (Own8.lit wr (num8_byte n j hlt)) (by simp [num8_len8, lidB]; omega) (by simp; omega) ?_)
      intro v1 w1 h1 hB1
      have H1 := hide h1
      have HB1 := hide ((HW.out.trans ((below_alloc _ _).mono hz)).trans hB1)
      clear h1 hB1
      go_wp2
      go_roundw
      case rel => exact ⟨j + 1, by omega, by go_num, hide (by rw [num8_more n j hlt]; exact H1.out), HB1⟩
      case measure => simp [intOf]; omega
    · go_wp2_with fail
      go_ret
      have hj8 : j = 8 := by omega
      subst hj8
      exact ⟨_, rfl, by have := HO.out; rwa [List.take_of_length_le (by simp [num8])] at this, HW.out⟩

set_option maxHeartbeats 1000000 in
set_option maxRecDepth 1000000 in
theorem text24_any {w : World} {s : ByteArray} (hs : s.size ≤ 9223372036854775807) (hlen : (txtB s).length ≤ lidB) : Calls Tryz.prog 31 #[.string s] w fun e w' => ∃ v, e = .returned v ∧ Own8 w.heap.size w' v (txtB s) ∧ Below w.heap.size w w' := by
  have hl : 8 + s.size ≤ lidB := by
    have e : s.data.toList.length = s.size := by simp
    simp only [txtB, List.length_append, num8_len8, e] at hlen
    exact hlen
  go_enter Tryz.func31, Tryz.ntmps31
  go_wp2_with (first
    | (go_at_call 32; refine (number24_any (n := s.size) (by unfold isInt64; omega)).mono ?_; rintro e w1 ⟨v1, rfl, h1, hB1⟩; have H1 := hide h1; have HB1 := hide hB1; clear h1 hB1)
    | (at_builtin; refine wpList_own8s rfl _ _ rfl w.heap.size _ _ s rfl H1.out rfl (by rw [num8_len8]; exact hl) HB1.out.size ?_))
  intro v2 w2 h2 hB2
  have H2 := hide h2
  have HB2 := hide (HB1.out.trans hB2)
  clear h2 hB2
  go_wp2
  go_ret
  exact ⟨_, rfl, H2.out, HB2.out⟩

theorem flat_take8 {α : Type} (enc : α → List UInt8) (l : List α) (q : Nat) (hq : q < l.length) : ((l.take (q + 1)).map enc).flatten = ((l.take q).map enc).flatten ++ enc l[q] := by
  rw [List.take_succ_eq_append_getElem hq]
  simp only [List.map_append, List.flatten_append, List.map_cons, List.map_nil, List.flatten_cons, List.flatten_nil, List.append_nil]
theorem flat_part8 {α : Type} (enc : α → List UInt8) (l : List α) (q : Nat) (hq : q < l.length) : (((l.take q).map enc).flatten).length + (enc l[q]).length ≤ ((l.map enc).flatten).length := by
  have h : ((l.take (q + 1)).map enc).flatten.length ≤ ((l.map enc).flatten).length := by
    conv => rhs; rw [← List.take_append_drop (q + 1) l]
    rw [List.map_append, List.flatten_append, List.length_append]; omega
  rw [flat_take8 enc l q hq, List.length_append] at h
  exact h

set_option maxHeartbeats 1000000 in
set_option maxRecDepth 1000000 in
theorem texts24_any {S : Nat → Prop} {w : World} {A : Option Addr} {c : Nat} {xs : List ByteArray} (hx : StrsIn S w A xs) (hlen : (txtsB xs).length ≤ lidB) :
    Calls Tryz.prog 33 #[.slice A xs.length c] w fun e w' => ∃ v, e = .returned v ∧ Own8 w.heap.size w' v (txtsB xs) ∧ Below w.heap.size w w' := by
  have Hx := hide hx
  have hxl : xs.length ≤ 9223372036854775807 := hx.2.2
  have Hlen := hide hlen
  clear hx hlen
  go_enter Tryz.func33, Tryz.ntmps33
  go_wp2_with (go_at_call 32; refine (number24_any (n := xs.length) (by unfold isInt64; omega)).mono ?_; rintro e w1 ⟨v1, rfl, h1, hB1⟩; have H1 := hide h1; have HB1 := hide hB1; clear h1 hB1)
  go_loopw [3, 4] (fun v i wr => ∃ q : Nat, q ≤ xs.length ∧ i = .int .i64 q ∧ Hid (Own8 w.heap.size wr v (num8 xs.length ++ ((xs.take q).map txtB).flatten)) ∧ Hid (Below w.heap.size w wr)) (fun _ i _ => xs.length - (intOf i).toNat)
  case atStart => exact ⟨0, Nat.zero_le _, rfl, hide (by simpa using H1.out), HB1⟩
  case round =>
    obtain ⟨q, hq, rfl, HO, HW⟩ := hrel
    by_cases hlt : q < xs.length
    · have hz := HW.out.size
      obtain ⟨b, o, rfl, hc⟩ := (Hx.out.below HW.out).1.at_ (j := q) (by simpa using hlt)
      simp only [List.getElem_map] at hc
      have Hone := hide (Hx.out.2.1 xs[q] (List.getElem_mem hlt))
      have Hl1 : Hid ((num8 xs.length ++ ((xs.take q).map txtB).flatten).length + (txtB xs[q]).length ≤ lidB) := by
        have h1 := Hlen.out
        have h2 := flat_part8 txtB xs q hlt
        simp only [txtsB, List.length_append] at h1
        refine hide ?_
        simp only [List.length_append]
        omega
      go_wp2_with (first
        | (go_at_call 31; refine (text24_any Hone.out (by have := Hl1.out; omega)).mono ?_; rintro e w2 ⟨v2, rfl, h2, hB2⟩; have H2 := hide h2; have HB2 := hide hB2; clear h2 hB2)
        | (at_builtin; refine wpList_own8 rfl _ _ rfl w.heap.size wr.heap.size _ _ _ (txtB xs[q]) rfl (HO.out.below HB2.out) rfl H2.out Hl1.out (Nat.le_trans hz HB2.out.size) ?_))
      intro v3 w3 h3 hB3
      have H3 := hide h3
      have HB3 := hide ((HW.out.trans (HB2.out.mono hz)).trans hB3)
      clear h3 hB3
      go_wp2
      go_roundw
      case rel => exact ⟨q + 1, by omega, by go_num, hide (by rw [flat_take8 txtB xs q hlt]; have := H3.out; simpa [List.append_assoc] using this), HB3⟩
      case measure => simp [intOf]; omega
    · go_wp2_with fail
      go_ret
      have hq8 : q = xs.length := by omega
      subst hq8
      exact ⟨_, rfl, by have := HO.out; rwa [List.take_length] at this, HW.out⟩

set_option maxHeartbeats 1000000 in
set_option maxRecDepth 1000000 in
theorem path24_any {S : Nat → Prop} {w : World} {A : Option Addr} {c : Nat} {xs : List Int} (hx : IntsIn S w A xs) (hlen : (pathB xs).length ≤ lidB) :
    Calls Tryz.prog 62 #[.slice A xs.length c] w fun e w' => ∃ v, e = .returned v ∧ Own8 w.heap.size w' v (pathB xs) ∧ Below w.heap.size w w' := by
  have Hx := hide hx
  have hxl : xs.length ≤ 9223372036854775807 := hx.2.2
  have Hlen := hide hlen
  clear hx hlen
  go_enter Tryz.func62, Tryz.ntmps62
  go_wp2_with (go_at_call 32; refine (number24_any (n := xs.length) (by unfold isInt64; omega)).mono ?_; rintro e w1 ⟨v1, rfl, h1, hB1⟩; have H1 := hide h1; have HB1 := hide hB1; clear h1 hB1)
  go_loopw [3, 4] (fun v i wr => ∃ q : Nat, q ≤ xs.length ∧ i = .int .i64 q ∧ Hid (Own8 w.heap.size wr v (num8 xs.length ++ ((xs.take q).map num8).flatten)) ∧ Hid (Below w.heap.size w wr)) (fun _ i _ => xs.length - (intOf i).toNat)
  case atStart => exact ⟨0, Nat.zero_le _, rfl, hide (by simpa using H1.out), HB1⟩
  case round =>
    obtain ⟨q, hq, rfl, HO, HW⟩ := hrel
    by_cases hlt : q < xs.length
    · have hz := HW.out.size
      obtain ⟨b, o, rfl, hc⟩ := (Hx.out.below HW.out).1.at_ (j := q) (by simpa using hlt)
      simp only [List.getElem_map] at hc
      have Hone := hide (Hx.out.2.1 xs[q] (List.getElem_mem hlt))
      have Hl1 : Hid ((num8 xs.length ++ ((xs.take q).map num8).flatten).length + (num8 xs[q]).length ≤ lidB) := by
        have h1 := Hlen.out
        have h2 := flat_part8 num8 xs q hlt
        simp only [pathB, List.length_append] at h1
        refine hide ?_
        simp only [List.length_append]
        omega
      go_wp2_with (first
        | (go_at_call 32; refine (number24_any Hone.out).mono ?_; rintro e w2 ⟨v2, rfl, h2, hB2⟩; have H2 := hide h2; have HB2 := hide hB2; clear h2 hB2)
        | (at_builtin; refine wpList_own8 rfl _ _ rfl w.heap.size wr.heap.size _ _ _ (num8 xs[q]) rfl (HO.out.below HB2.out) rfl H2.out Hl1.out (Nat.le_trans hz HB2.out.size) ?_))
      intro v3 w3 h3 hB3
      have H3 := hide h3
      have HB3 := hide ((HW.out.trans (HB2.out.mono hz)).trans hB3)
      clear h3 hB3
      go_wp2
      go_roundw
      case rel => exact ⟨q + 1, by omega, by go_num, hide (by rw [flat_take8 num8 xs q hlt]; have := H3.out; simpa [List.append_assoc] using this), HB3⟩
      case measure => simp [intOf]; omega
    · go_wp2_with fail
      go_ret
      have hq8 : q = xs.length := by omega
      subst hq8
      exact ⟨_, rfl, by have := HO.out; rwa [List.take_length] at this, HW.out⟩

end Go.Proofs.YtfhfkbdaglegpaaGreatDoor

namespace Go.Proofs.YtfhfkbdaglegpaaGreatDoor
open Go.RowKit

theorem foB_next8 {f : Fo} {i k : Nat} {t : ByteArray} {n : Int} {ks r : Fo} (h : f.drop i = .cons k t n ks r) : foB (f.take (i + 1)) = foB (f.take i) ++ nodeB k t n ks := by
  have h2 : f.take (i + 1) = (f.take i).app (.cons k t n ks .nil) := by
    induction i generalizing f with
    | zero => cases f with
      | nil => cases h
      | cons => cases h; rfl
    | succ i ih => cases f with
      | nil => cases h
      | cons k' t' n' ks' r' => simp only [Fo.take, Fo.app]; rw [ih h]
  rw [h2, foB_app, foB_cons]; simp [foB]
theorem foB_part8 {f : Fo} {i k : Nat} {t : ByteArray} {n : Int} {ks r : Fo} (h : f.drop i = .cons k t n ks r) : (foB (f.take i)).length + (nodeB k t n ks).length ≤ (foB f).length := by
  have h1 := congrArg (fun x => (foB x).length) (Fo.take_drop i f)
  simp only [foB_app, h, foB_cons, List.length_append] at h1
  omega
theorem fo_take_all8 (f : Fo) : f.take f.len = f := by
  have := Fo.take_drop f.len f
  rwa [Fo.drop_len f _ (Nat.le_refl _), Fo.app_nil] at this
theorem u8_of8 (k : Nat) (hk : k < 256) : (k : Int) = ((UInt8.ofNat k).toNat : Int) := by simp; omega

set_option maxHeartbeats 2000000 in
set_option maxRecDepth 1000000 in
theorem nodes24_upto (N : Nat) : ∀ (S : Nat → Prop) (w : World) (A : Option Addr) (c : Nat) (f : Fo), f.cnt < N → FoIn S w A f → f.len ≤ 9223372036854775807 → (nodesB f).length ≤ lidB →
    Calls Tryz.prog 63 #[.slice A f.len c] w fun e w' => ∃ v, e = .returned v ∧ Own8 w.heap.size w' v (nodesB f) ∧ Below w.heap.size w w' := by
  induction N with
  | zero => intro S w A c f h; omega
  | succ N ih =>
    intro S w A c f hcnt hf hfl hlen
    have Hf := hide hf
    have Hlen := hide hlen
    have Hih := hide ih
    clear hf hlen ih
    go_enter Tryz.func63, Tryz.ntmps63
    go_wp2_with (go_at_call 32; refine (number24_any (n := f.len) (by unfold isInt64; omega)).mono ?_; rintro e w1 ⟨v1, rfl, h1, hB1⟩; have H1 := hide h1; have HB1 := hide hB1; clear h1 hB1)
    go_loopw [3, 4] (fun v i wr => ∃ q : Nat, q ≤ f.len ∧ i = .int .i64 q ∧ Hid (Own8 w.heap.size wr v (num8 f.len ++ foB (f.take q))) ∧ Hid (Below w.heap.size w wr)) (fun _ i _ => f.len - (intOf i).toNat)
    case atStart => exact ⟨0, Nat.zero_le _, rfl, hide (by have := H1.out; cases f <;> simpa [Fo.take, foB] using this), HB1⟩
    case round =>
      obtain ⟨q, hq, rfl, HO, HW⟩ := hrel
      by_cases hlt : q < f.len
      · obtain ⟨b, o, KA, c', k, t, n, ks, r, rfl, hd, c0, c1, c2, c3, e1, e2, e3, e4, e5, hks, hc⟩ := Hf.out.at_ hlt
        have hlow : ∀ {p : Addr} {v : Value}, w.cell? p = some v → ∀ W, Below w.heap.size w W → W.cell? p = some v := fun h W hW => (World.cell?_of_block (hW.block _ (block_lt_of_cell h))).trans h
        replace c0 := hlow c0
        replace c1 := hlow c1
        replace c2 := hlow c2
        replace c3 := hlow c3
        clear hlow
        have Hd := hide hd
        have He := hide e3
        have Hks := hide hks
        have HL : Hid ((num8 f.len ++ foB (f.take q)).length + (1 + (txtB t).length + 8 + (nodesB ks).length) ≤ lidB) := by
          have h1 := Hlen.out
          have h2 := foB_part8 hd
          simp only [nodesB, nodeB, List.length_append, List.length_cons, num8_len8] at h1 h2
          refine hide ?_
          simp only [nodesB, List.length_append, num8_len8]
          omega
        have hW0 := HW.out
        clear hd e3 hks HW
        go_wp2_with (at_builtin; refine wpList_own8 rfl _ _ rfl w.heap.size wr.heap.size _ _ _ [UInt8.ofNat k] rfl (HO.out.below (below_alloc _ _)) rfl (Own8.lit wr (u8_of8 k e1)) (by have := HL.out; (try simp only [List.length_append, List.length_cons, List.length_nil, num8_len8] at this ⊢); omega) (Nat.le_trans hW0.size (below_alloc _ _).size) ?_)
        intro v1 w1 h1 hB1
        have H1 := hide h1
        have hW1 : Below w.heap.size w w1 := (hW0.trans ((below_alloc _ _).mono hW0.size)).trans hB1
        clear h1 hB1
        go_wp2_with (first
          | (go_at_call 31; (with_reducible refine (text24_any e2 (by have := HL.out; (try simp only [List.length_append, List.length_cons, List.length_nil, num8_len8] at this ⊢); omega)).mono ?_); rintro e2 c2 ⟨u2, rfl, g2, k2⟩; have G2 := hide g2; have K2 := hide k2; clear g2 k2)
          | (at_builtin; refine wpList_own8 rfl _ _ rfl w.heap.size w1.heap.size _ _ _ (txtB t) rfl (H1.out.below K2.out) rfl G2.out (by have := HL.out; (try simp only [List.length_append, List.length_cons, List.length_nil, num8_len8] at this ⊢); omega) (Nat.le_trans hW1.size K2.out.size) ?_))
        intro v2 w2 h2 hB2
        have H2 := hide h2
        have hW2 : Below w.heap.size w w2 := (hW1.trans (K2.out.mono hW1.size)).trans hB2
        clear h2 hB2
        go_wp2_with (first
          | (go_at_call 32; (with_reducible refine (number24_any He.out).mono ?_); rintro e3 c3 ⟨u3, rfl, g3, k3⟩; have G3 := hide g3; have K3 := hide k3; clear g3 k3)
          | (at_builtin; refine wpList_own8 rfl _ _ rfl w.heap.size w2.heap.size _ _ _ (num8 n) rfl (H2.out.below K3.out) rfl G3.out (by have := HL.out; (try simp only [List.length_append, List.length_cons, List.length_nil, num8_len8] at this ⊢); omega) (Nat.le_trans hW2.size K3.out.size) ?_))
        intro v3 w3 h3 hB3
        have H3 := hide h3
        have hW3 : Below w.heap.size w w3 := (hW2.trans (K3.out.mono hW2.size)).trans hB3
        clear h3 hB3
        go_wp2_with (first
          | (go_at_call 63; (with_reducible refine (Hih.out S w3 KA c' ks (by omega) (Hks.out.below hW3) (by omega) (by have := HL.out; (try simp only [List.length_append, List.length_cons, List.length_nil, num8_len8] at this ⊢); omega)).mono ?_); rintro e4 c4 ⟨u4, rfl, g4, k4⟩; have G4 := hide g4; have K4 := hide k4; clear g4 k4)
          | (at_builtin; refine wpList_own8 rfl _ _ rfl w.heap.size w3.heap.size _ _ _ (nodesB ks) rfl (H3.out.below K4.out) rfl G4.out (by have := HL.out; (try simp only [List.length_append, List.length_cons, List.length_nil, num8_len8] at this ⊢); omega) (Nat.le_trans hW3.size K4.out.size) ?_))
        intro v4 w4 h4 hB4
        have H4 := hide h4
        have hW4 : Below w.heap.size w w4 := (hW3.trans (K4.out.mono hW3.size)).trans hB4
        clear h4 hB4
        go_wp2
        have hW4' := hide hW4
        go_roundw
        case rel => exact ⟨q + 1, by omega, by go_num, hide (by rw [foB_next8 Hd.out]; have := H4.out; simpa [nodeB, List.append_assoc] using this), hide hW4⟩
        case measure => simp [intOf]; omega
      · go_wp2_with fail
        go_ret
        have hq8 : q = f.len := by omega
        subst hq8
        exact ⟨_, rfl, by have := HO.out; rwa [fo_take_all8] at this, HW.out⟩
theorem nodes24_any {S : Nat → Prop} {w : World} {A : Option Addr} {c : Nat} {f : Fo} (hf : FoIn S w A f) (hfl : f.len ≤ 9223372036854775807) (hlen : (nodesB f).length ≤ lidB) :
    Calls Tryz.prog 63 #[.slice A f.len c] w fun e w' => ∃ v, e = .returned v ∧ Own8 w.heap.size w' v (nodesB f) ∧ Below w.heap.size w w' :=
  nodes24_upto (f.cnt + 1) S w A c f (by omega) hf hfl hlen

end Go.Proofs.YtfhfkbdaglegpaaGreatDoor

namespace Go.Proofs.YtfhfkbdaglegpaaGreatDoor
open Go.RowKit

theorem Own8.mono {B B' : Nat} {w : World} {v : Value} {l : List UInt8} (h : Own8 B w v l) (hB : B' ≤ B) : Own8 B' w v l := by
  refine ⟨h.1, ?_⟩
  rcases h.2 with hn | ⟨g, cap, cur, rfl, hbg, hr⟩
  · exact .inl hn
  · exact .inr ⟨g, cap, cur, rfl, Nat.le_trans hB hbg, hr⟩
theorem step_own8 {ops : Array Oper} {o : Oper} {a : Act} {w : World} {K : Act → World → Prop} {Q : Exit → Act → World → Prop} {E : Prop}
    (hg : o.guard = none) (s x : Operand) (hop : o.op = Op.call { callee := Callee.builtin Builtin.append, args := #[s, x], argTypes := #[36, 36] }) (B B2 : Nat) (v v2 : Value) (l l2 : List UInt8)
    (h1 : a.eval s = v) (hown : Own8 B w v l) (h2 : a.eval x = v2) (hown2 : Own8 B2 w v2 l2) (hlen : l.length + l2.length ≤ lidB) (hB : B ≤ w.heap.size)
    (hK : ∀ v' w', Own8 B w' v' (l ++ l2) → Below B w w' → K (a.put o.dst v') w') :
    if Region.wanted o (yielded ops a.tmps) = true then Oper.wp Tryz.prog o a w K Q else E := by
  have hw : Region.wanted o (yielded ops a.tmps) = true := by simp [Region.wanted, hg]
  rw [if_pos hw]
  obtain ⟨A, c, rfl, hA, hc⟩ := hown2.cells
  obtain ⟨v', w', hrun, h3, hBl⟩ := row_step (P := Tryz.prog) (us := bytesV l2) (cB := c) Tryz.underlying36 Tryu8b rfl (by decide) hown hA (by simp [bytesV]) (by intro u hu; simp [bytesV] at hu; obtain ⟨y, _, rfl⟩ := hu; rfl) hc hB (by unfold maxLen; simp only [lidB] at hlen; omega) (by simp only [lidB] at hlen; omega) o.type
  unfold Oper.wp
  simp [execOp, hop, resolve, invoke, builtin, h1, h2, hrun, Result.andThen]
  refine hK _ _ ?_ hBl
  unfold Own8
  rw [bytesV_app8, List.length_append]
  exact h3

set_option maxHeartbeats 4000000 in
set_option maxRecDepth 1000000 in
theorem edit24_any {S : Nat → Prop} {w : World} {x : Eh} {e : Ed} (he : EdIn S w x e) (hlen : (edB e).length ≤ lidB) :
    Calls Tryz.prog 34 #[.agg #[.int .u8 e.kind, .slice x.pA e.path.length x.pc, .int .i64 e.at_, .int .i64 e.far, .string e.frm, .string e.to, .slice x.oA e.old.len x.oc, .slice x.nA e.new.len x.nc]] w fun e1 w' => ∃ v, e1 = .returned v ∧ Own8 w.heap.size w' v (edB e) ∧ Below w.heap.size w w' := by
  have hk := he.kind
  have HL : Hid (1 + (pathB e.path).length + 8 + 8 + (txtB e.frm).length + (txtB e.to).length + (nodesB e.old).length + (nodesB e.new).length ≤ lidB) := by
    refine hide ?_
    simp only [edB, List.length_cons, List.length_append, num8_len8] at hlen
    omega
  have hfrm := he.frm
  have hto := he.to
  have hol := Nat.le_trans he.oc.1 he.oc.2
  have hnl := Nat.le_trans he.nc.1 he.nc.2
  have Hlen := hide hlen
  clear hlen
  obtain ⟨W0, hW0⟩ : ∃ W0, W0 = w.alloc (.cells #[.int .u8 e.kind, .slice x.pA e.path.length x.pc, .int .i64 e.at_, .int .i64 e.far, .string e.frm, .string e.to, .slice x.oA e.old.len x.oc, .slice x.nA e.new.len x.nc] 30) := ⟨_, rfl⟩
  have hb0 : Below w.heap.size w W0 := by rw [hW0]; exact below_alloc _ _
  have hbc : ∀ j v, #[.int .u8 e.kind, .slice x.pA e.path.length x.pc, .int .i64 e.at_, .int .i64 e.far, .string e.frm, .string e.to, .slice x.oA e.old.len x.oc, .slice x.nA e.new.len x.nc][j]? = some v → ∀ W, Below W0.heap.size W0 W → W.cell? ⟨w.heap.size, j, none⟩ = some v := by
    intro j v hj W hB
    have h0 : W0.cell? ⟨w.heap.size, j, none⟩ = some v := by rw [hW0, Lib.cell_of_heap (heap_alloc_new w _)]; exact hj
    exact (World.cell?_of_block (hB.block _ (block_lt_of_cell h0))).trans h0
  have c0 := hbc 0 _ rfl
  have c1 := hbc 1 _ rfl
  have c2 := hbc 2 _ rfl
  have c3 := hbc 3 _ rfl
  have c4 := hbc 4 _ rfl
  have c5 := hbc 5 _ rfl
  have c6 := hbc 6 _ rfl
  have c7 := hbc 7 _ rfl
  clear hbc
  have He := hide (he.below hb0)
  have Hb0 := hide hb0
  clear he hb0
  have HW0 := hide hW0
  clear hW0
  go_enter Tryz.func34, Tryz.ntmps34
  go_upto_region 1 with fail
  change Code.wp _ _ _ _ (w.alloc (.cells #[.int .u8 e.kind, .slice x.pA e.path.length x.pc, .int .i64 e.at_, .int .i64 e.far, .string e.frm, .string e.to, .slice x.oA e.old.len x.oc, .slice x.nA e.new.len x.nc] 30))
  rw [← HW0.out]
  clear HW0
  go_cut [3] (fun v wx => Own8 W0.heap.size wx v ([UInt8.ofNat e.kind] ++ pathB e.path) ∧ Below W0.heap.size W0 wx)
  case first =>
    have hd1 : Below W0.heap.size W0 W0.drew := blw_drewN (Below.refl _ _) 1
    refine wp_region_held_drew (S := Below W0.heap.size W0) (by kernel_rfl) hd1 (fun hHeld => ?_)
    generalize W0.drew = wD at hHeld ⊢
    refine tk (v := ?_) 0 hHeld ?_ ?_
    rotate_left
    · intro w' hSw
      first | (go_simp; done) | (go_simp; with_reducible rfl)
    try simp only [List.set_cons_zero, List.set_cons_succ]
    refine tk (v := ?_) 1 hHeld ?_ ?_
    rotate_left
    · intro w' hSw
      first | (go_simp; done) | (go_simp; with_reducible rfl)
    try simp only [List.set_cons_zero, List.set_cons_succ]
    refine tk (v := ?_) 3 hHeld ?_ ?_
    rotate_left
    · intro w' hSw
      first | (go_simp; done) | (go_simp; with_reducible rfl)
    try simp only [List.set_cons_zero, List.set_cons_succ]
    refine tk (v := ?_) 4 hHeld ?_ ?_
    rotate_left
    · intro w' hSw
      first | (go_simp; done) | (go_simp; with_reducible rfl)
    try simp only [List.set_cons_zero, List.set_cons_succ]
    refine wpAnyH_ready (rs := [2, 5]) (by kernel_rfl) (by simp) ?_
    refine AllReadyH.cons rfl (fun K hK => ?_) (AllReadyH.cons rfl (fun K hK => ?_) AllReadyH.nil)
    · go_simp
      have hA1 : Below W0.heap.size W0 (wD.alloc (.cells #[.int .u8 e.kind] 5)) := blw_up hHeld (below_alloc _ _)
      refine hK.out _ _ hA1 (fun _ => ?_)
      clear hK K
      try simp only [Act.put, List.getElem_toArray, List.getElem_cons_zero, List.getElem_cons_succ, List.setIfInBounds_toArray, List.set_cons_zero, List.set_cons_succ]
      refine wpAnyH_ready (rs := [5]) (by kernel_rfl) (by simp) ?_
      refine AllReadyH.cons rfl (fun K hK => ?_) AllReadyH.nil
      go_simp
      go_wp2_with (go_at_call 62; (with_reducible refine (path24_any (He.out.path.below hA1) (by have := HL.out; (try simp only [List.length_append, List.length_cons, List.length_nil, num8_len8] at this ⊢); omega)).mono ?_); rintro e2 w2 ⟨v2, rfl, h2, hB2⟩)
      have hA2 := hA1.trans (hB2.mono hA1.size)
      refine hK.out _ _ hA2 (fun _ => ?_)
      clear hK K
      try simp only [Act.put, List.getElem_toArray, List.getElem_cons_zero, List.getElem_cons_succ, List.setIfInBounds_toArray, List.set_cons_zero, List.set_cons_succ]
      refine wpAnyH_ready (rs := [6]) (by kernel_rfl) (by simp) ?_
      refine AllReadyH.cons rfl (fun K hK => ?_) AllReadyH.nil
      refine step_own8 rfl _ _ rfl W0.heap.size _ _ _ [UInt8.ofNat e.kind] (pathB e.path) rfl ((Own8.lit wD (u8_of8 _ hk)).mono hHeld.size |>.below hB2) rfl h2 (by have := HL.out; (try simp only [List.length_append, List.length_cons, List.length_nil, num8_len8] at this ⊢); omega) hA2.size ?_
      intro v3 w3 h3 hB3
      have hA3 := hA2.trans hB3
      refine hK.out _ _ hA3 (fun _ => ?_)
      clear hK K
      try simp only [Act.put, List.getElem_toArray, List.getElem_cons_zero, List.getElem_cons_succ, List.setIfInBounds_toArray, List.set_cons_zero, List.set_cons_succ]
      refine tk (v := ?_) 7 hA3 ?_ ?_
      rotate_left
      · intro w' hSw
        first | (go_simp; done) | (go_simp; with_reducible rfl)
      try simp only [List.set_cons_zero, List.set_cons_succ]
      refine wpAnyH_done (by kernel_rfl) ?_ _
      have H3 := hide h3
      have HA3 := hide hA3
      try simp only [Act.put, List.getElem_toArray, List.getElem_cons_zero, List.getElem_cons_succ, List.setIfInBounds_toArray, List.set_cons_zero, List.set_cons_succ]
      go_wp2_with fail
      go_meet
      exact ⟨H3.out, HA3.out⟩
    · go_simp
      go_wp2_with (go_at_call 62; (with_reducible refine (path24_any (He.out.path.below hHeld) (by have := HL.out; (try simp only [List.length_append, List.length_cons, List.length_nil, num8_len8] at this ⊢); omega)).mono ?_); rintro e2 w2 ⟨v2, rfl, h2, hB2⟩)
      have hA1 := hHeld.trans (hB2.mono hHeld.size)
      refine hK.out _ _ hA1 (fun _ => ?_)
      clear hK K
      try simp only [Act.put, List.getElem_toArray, List.getElem_cons_zero, List.getElem_cons_succ, List.setIfInBounds_toArray, List.set_cons_zero, List.set_cons_succ]
      refine wpAnyH_ready (rs := [2]) (by kernel_rfl) (by simp) ?_
      refine AllReadyH.cons rfl (fun K hK => ?_) AllReadyH.nil
      go_simp
      have hA2 : Below W0.heap.size W0 (w2.alloc (.cells #[.int .u8 e.kind] 5)) := blw_up hA1 (below_alloc _ _)
      refine hK.out _ _ hA2 (fun _ => ?_)
      clear hK K
      try simp only [Act.put, List.getElem_toArray, List.getElem_cons_zero, List.getElem_cons_succ, List.setIfInBounds_toArray, List.set_cons_zero, List.set_cons_succ]
      refine wpAnyH_ready (rs := [6]) (by kernel_rfl) (by simp) ?_
      refine AllReadyH.cons rfl (fun K hK => ?_) AllReadyH.nil
      refine step_own8 rfl _ _ rfl W0.heap.size _ _ _ [UInt8.ofNat e.kind] (pathB e.path) rfl ((Own8.lit w2 (u8_of8 _ hk)).mono hA1.size) rfl (h2.below (below_alloc _ _)) (by have := HL.out; (try simp only [List.length_append, List.length_cons, List.length_nil, num8_len8] at this ⊢); omega) hA2.size ?_
      intro v3 w3 h3 hB3
      have hA3 := hA2.trans hB3
      refine hK.out _ _ hA3 (fun _ => ?_)
      clear hK K
      try simp only [Act.put, List.getElem_toArray, List.getElem_cons_zero, List.getElem_cons_succ, List.setIfInBounds_toArray, List.set_cons_zero, List.set_cons_succ]
      refine tk (v := ?_) 7 hA3 ?_ ?_
      rotate_left
      · intro w' hSw
        first | (go_simp; done) | (go_simp; with_reducible rfl)
      try simp only [List.set_cons_zero, List.set_cons_succ]
      refine wpAnyH_done (by kernel_rfl) ?_ _
      have H3 := hide h3
      have HA3 := hide hA3
      try simp only [Act.put, List.getElem_toArray, List.getElem_cons_zero, List.getElem_cons_succ, List.setIfInBounds_toArray, List.set_cons_zero, List.set_cons_succ]
      go_wp2_with fail
      go_meet
      exact ⟨H3.out, HA3.out⟩
  case rest =>
  obtain ⟨h1, hW1⟩ := hcut
  have h1w : ∃ w1, w1 = wc := ⟨_, rfl⟩
  obtain ⟨w1, rfl⟩ := h1w
  have H1 := hide h1
  clear h1
  go_wp2_with (first
    | (go_at_call 32; (with_reducible refine (number24_any He.out.at_).mono ?_); rintro e2 c2 ⟨u2, rfl, g2, k2⟩; have G2 := hide g2; have K2 := hide k2; clear g2 k2)
    | (at_builtin; refine wpList_own8 rfl _ _ rfl W0.heap.size w1.heap.size _ _ _ (num8 e.at_) rfl (H1.out.below K2.out) rfl G2.out (by have := HL.out; (try simp only [List.length_append, List.length_cons, List.length_nil, num8_len8] at this ⊢); omega) (Nat.le_trans hW1.size K2.out.size) ?_))
  intro v2 w2 h2 hB2
  have H2 := hide h2
  have hW2 : Below W0.heap.size W0 w2 := (hW1.trans (K2.out.mono hW1.size)).trans hB2
  clear h2 hB2
  go_wp2_with (first
    | (go_at_call 32; (with_reducible refine (number24_any He.out.far).mono ?_); rintro e3 c3 ⟨u3, rfl, g3, k3⟩; have G3 := hide g3; have K3 := hide k3; clear g3 k3)
    | (at_builtin; refine wpList_own8 rfl _ _ rfl W0.heap.size w2.heap.size _ _ _ (num8 e.far) rfl (H2.out.below K3.out) rfl G3.out (by have := HL.out; (try simp only [List.length_append, List.length_cons, List.length_nil, num8_len8] at this ⊢); omega) (Nat.le_trans hW2.size K3.out.size) ?_))
  intro v3 w3 h3 hB3
  have H3 := hide h3
  have hW3 : Below W0.heap.size W0 w3 := (hW2.trans (K3.out.mono hW2.size)).trans hB3
  clear h3 hB3
  go_wp2_with (first
    | (go_at_call 31; (with_reducible refine (text24_any hfrm (by have := HL.out; (try simp only [List.length_append, List.length_cons, List.length_nil, num8_len8] at this ⊢); omega)).mono ?_); rintro e4 c4 ⟨u4, rfl, g4, k4⟩; have G4 := hide g4; have K4 := hide k4; clear g4 k4)
    | (at_builtin; refine wpList_own8 rfl _ _ rfl W0.heap.size w3.heap.size _ _ _ (txtB e.frm) rfl (H3.out.below K4.out) rfl G4.out (by have := HL.out; (try simp only [List.length_append, List.length_cons, List.length_nil, num8_len8] at this ⊢); omega) (Nat.le_trans hW3.size K4.out.size) ?_))
  intro v4 w4 h4 hB4
  have H4 := hide h4
  have hW4 : Below W0.heap.size W0 w4 := (hW3.trans (K4.out.mono hW3.size)).trans hB4
  clear h4 hB4
  go_wp2_with (first
    | (go_at_call 31; (with_reducible refine (text24_any hto (by have := HL.out; (try simp only [List.length_append, List.length_cons, List.length_nil, num8_len8] at this ⊢); omega)).mono ?_); rintro e5 c5 ⟨u5, rfl, g5, k5⟩; have G5 := hide g5; have K5 := hide k5; clear g5 k5)
    | (at_builtin; refine wpList_own8 rfl _ _ rfl W0.heap.size w4.heap.size _ _ _ (txtB e.to) rfl (H4.out.below K5.out) rfl G5.out (by have := HL.out; (try simp only [List.length_append, List.length_cons, List.length_nil, num8_len8] at this ⊢); omega) (Nat.le_trans hW4.size K5.out.size) ?_))
  intro v5 w5 h5 hB5
  have H5 := hide h5
  have hW5 : Below W0.heap.size W0 w5 := (hW4.trans (K5.out.mono hW4.size)).trans hB5
  clear h5 hB5
  go_wp2_with (first
    | (go_at_call 63; (with_reducible refine (nodes24_any (He.out.old.below hW5) hol (by have := HL.out; (try simp only [List.length_append, List.length_cons, List.length_nil, num8_len8] at this ⊢); omega)).mono ?_); rintro e6 c6 ⟨u6, rfl, g6, k6⟩; have G6 := hide g6; have K6 := hide k6; clear g6 k6)
    | (at_builtin; refine wpList_own8 rfl _ _ rfl W0.heap.size w5.heap.size _ _ _ (nodesB e.old) rfl (H5.out.below K6.out) rfl G6.out (by have := HL.out; (try simp only [List.length_append, List.length_cons, List.length_nil, num8_len8] at this ⊢); omega) (Nat.le_trans hW5.size K6.out.size) ?_))
  intro v6 w6 h6 hB6
  have H6 := hide h6
  have hW6 : Below W0.heap.size W0 w6 := (hW5.trans (K6.out.mono hW5.size)).trans hB6
  clear h6 hB6
  go_wp2_with (first
    | (go_at_call 63; (with_reducible refine (nodes24_any (He.out.new.below hW6) hnl (by have := HL.out; (try simp only [List.length_append, List.length_cons, List.length_nil, num8_len8] at this ⊢); omega)).mono ?_); rintro e7 c7 ⟨u7, rfl, g7, k7⟩; have G7 := hide g7; have K7 := hide k7; clear g7 k7)
    | (at_builtin; refine wpList_own8 rfl _ _ rfl W0.heap.size w6.heap.size _ _ _ (nodesB e.new) rfl (H6.out.below K7.out) rfl G7.out (by have := HL.out; (try simp only [List.length_append, List.length_cons, List.length_nil, num8_len8] at this ⊢); omega) (Nat.le_trans hW6.size K7.out.size) ?_))
  intro v7 w7 h7 hB7
  have H7 := hide h7
  have hW7 : Below W0.heap.size W0 w7 := (hW6.trans (K7.out.mono hW6.size)).trans hB7
  clear h7 hB7
  go_wp2
  have HW7 := hide hW7
  go_ret
  refine ⟨_, rfl, ?_, Hb0.out.trans (HW7.out.mono Hb0.out.size)⟩
  have := H7.out.mono Hb0.out.size
  simpa [edB, List.append_assoc] using this

end Go.Proofs.YtfhfkbdaglegpaaGreatDoor
