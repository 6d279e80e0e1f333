/- An answer's line: script.Tell. Printed by gen_scrtell.py. -/
import Derived.Deep.RegionHeld
import Derived.Lib.AppendIntMem
import Derived.Shelf.Strconv.Itoa3
import Derived.Deep.Cut
import Derived.Deep.CutRange
import Derived.Deep.CutBlock
import Derived.Deep.DeepCutAuto
import Derived.BigQuiet
import Derived.Lib.ItoaLen
import Derived.Test.YtjjaojnglnpgaaaGreatDoorLHex
import Derived.Test.YtjjaojnglnpgaaaGreatDoorLKeep
import Derived.Test.YtjjaojnglnpgaaaGreatDoorLLent

set_option linter.unusedVariables false
set_option linter.unusedSimpArgs false

namespace Go.Proofs.YtjjaojnglnpgaaaGreatDoor
open Go.RowKit

/-- where an answer's rows lie -/
structure Ah where
  nA : Option Addr
  nc : Nat
  bA : Option Addr
  bc : Nat
structure AnIn (S : Nat → Prop) (w : World) (x : Ah) (a : An) : Prop where
  err : isInt64 a.err
  names : StrsIn S w x.nA a.names
  text : a.text.size ≤ 9223372036854775807
  bytes : BytesIn S w x.bA a.bytes
  nc : a.names.length ≤ x.nc ∧ x.nc ≤ 9223372036854775807
  bc : a.bytes.length ≤ x.bc ∧ x.bc ≤ 9223372036854775807
theorem AnIn.below {S : Nat → Prop} {w w' : World} {x : Ah} {a : An} (h : AnIn S w x a) (hB : Below w.heap.size w w') : AnIn S w' x a := ⟨h.err, h.names.below hB, h.text, h.bytes.below hB, h.nc, h.bc⟩
theorem own_keep {w w' : World} {B e k n : Nat} {v : Value} {xs : List Value} (h : w.ownsRow B e k v n xs) (hb : Below w.heap.size w w') : w'.ownsRow B e k v n xs :=
  ⟨h.1, h.2.imp id fun ⟨g, cap, cur, e1, hB, hg, hr⟩ => ⟨g, cap, cur, e1, hB, (hb.block g (Array.getElem?_eq_some_iff.1 hg).1).trans hg, hr⟩⟩
def PowTab (w : World) : Prop := 4 < w.heap.size ∧ Lib.TabIs Tryz.prog w "internal/strconv.uint64pow10" .u64 Lib.pow10Tab
theorem PowTab.below {w w' : World} (h : PowTab w) (hb : Below w.heap.size w w') : PowTab w' := ⟨Nat.lt_of_lt_of_le h.1 hb.size, var?_below hb (by kernel_rfl) h.1 h.2⟩
theorem below_growT (w : World) (k : Nat) (os : Array Obj) : Below w.heap.size w (Go.Sort.grow (w.drewN k) os) := by
  exact ⟨rfl, rfl, rfl, by show w.heap.size ≤ (w.heap ++ os).size; simp, fun i hi => Lib.heap_grow_old w k os i hi⟩
def listOf (s : ByteArray) : List UInt8 := s.data.toList
theorem joined_any {w : World} {B n c : Nat} {A : Option Addr} {ws : List ByteArray} (ho : w.ownsRow B 9 1 (.slice A n c) n (ws.map .string)) (hn : ws.length = n) (h0 : 0 < n) (h1 : n ≤ 140737488355328) (hl : (Lib.join (ws.map (·.data.toList)) [32]).length ≤ 140737488355328) :
    Calls Tryz.prog 47 #[.slice A n c] w fun e w' => e = .returned (.string ⟨(Lib.join (ws.map (·.data.toList)) [32]).toArray⟩) ∧ Below w.heap.size w w' := by
  subst hn
  obtain ⟨g, rfl⟩ : ∃ g, A = some ⟨g, 0, none⟩ := by
    rcases ho.2 with ⟨_, e⟩ | ⟨g, cap, cur, e, _⟩
    · omega
    · injection e with e; exact ⟨g, e⟩
  have hg := (ho.lt g rfl).2
  have hc : ∀ (j : Nat) x, ws[j]? = some x → w.cell? ⟨g, 0 + j, none⟩ = some (.string x) := fun j x hx => by
    have hj := (List.getElem?_eq_some_iff.1 hx).1
    rw [Nat.zero_add, ho.cellAt j (by omega), List.getElem?_map, hx]
    rfl
  have hcap : ws.length ≤ c := by
    rcases ho.2 with ⟨e, _⟩ | ⟨g, cap, cur, e, _, _, h, _⟩
    · cases e
    · injection e with _ _ e; omega
  have HJ := hide (Tryz.strings_Join g 0 c ws ⟨#[32]⟩ w hc hg h1 hcap hl)
  clear hc ho
  go_enter Tryz.func47, Tryz.ntmps47
  go_wp2_with (go_at_call 23; (with_reducible refine HJ.out.mono ?_); rintro e1 w1 ⟨rfl, hB⟩; have HB := hide hB; clear hB)
  go_ret
  exact ⟨rfl, HB.out⟩
theorem spelled_n {S : Nat → Prop} {w : World} {A : Option Addr} {n c : Nat} {l : List UInt8} (hb : BytesIn S w A l) (hn : l.length = n) (hl : n ≤ 1099511627776) :
    Calls Tryz.prog 46 #[.slice A n c] w fun e w' => e = .returned (.string ⟨(hexL l).toArray⟩) ∧ Below w.heap.size w w' := by
  subst hn
  exact spelled_any hb hl
theorem text_bytes (w : World) (s : ByteArray) (e : TypeId) (cap : Nat) (m : Nat × Nat) (h : s.size ≤ 9223372036854775807 := by omega) : BytesIn (fun _ => True) (w.alloc (.cells (bytesRow s cap) e m)).drew (some ⟨w.heap.size, 0, none⟩) s.data.toList := by
  show BytesIn (fun _ => True) (w.alloc (.cells (bytesRow s cap) e m)) (some ⟨w.heap.size, 0, none⟩) s.data.toList
  refine ⟨.inr ⟨w.heap.size, 0, rfl, trivial, fun j u hu => ?_⟩, by simpa using h⟩
  have hj : j < s.data.size := by
    have := (List.getElem?_eq_some_iff.1 hu).1
    simpa [bytesV] using this
  rw [Nat.zero_add, World.cell?_alloc_mark, bytesRow_at s cap j hj]
  simp only [bytesV, List.getElem?_map, Option.map_eq_some_iff] at hu
  obtain ⟨a, ha, rfl⟩ := hu
  rw [Array.getElem?_toList, Array.getElem?_eq_getElem hj] at ha
  injection ha with ha
  rw [ha]
theorem InfoStrT : (Tryz.prog.info? 9).map (fun i => (i.zero, i.size, i.bytes)) = some (some (.string ByteArray.empty), 1, 16) := by kernel_rfl
def wOk : ByteArray := ⟨#[111, 107]⟩
def wNames : ByteArray := ⟨#[110, 97, 109, 101, 115]⟩
def wText : ByteArray := ⟨#[116, 101, 120, 116]⟩
def wBytes : ByteArray := ⟨#[98, 121, 116, 101, 115]⟩
def hexS (l : List UInt8) : ByteArray := ⟨(hexL l).toArray⟩
def An.wsN (a : An) : List ByteArray := wOk :: (if a.names = [] then [] else wNames :: a.names)
def An.wsT (a : An) : List ByteArray := a.wsN ++ (if a.text.size = 0 then [] else [wText, hexS a.text.data.toList])
def An.ws (a : An) : List ByteArray := a.wsT ++ (if a.bytes = [] then [] else [wBytes, hexS a.bytes])
theorem An.ws_line (a : An) (h : a.err = 0) : Lib.join (a.ws.map (·.data.toList)) [32] = a.line := by
  rw [An.line, An.parts, if_pos h]
  congr 1
  unfold An.ws An.wsT An.wsN An.partN An.partT An.partB
  by_cases h1 : a.names = [] <;> by_cases h2 : a.text.size = 0 <;> by_cases h3 : a.bytes = [] <;> simp [h1, h2, h3, wOk, wNames, wText, wBytes, hexS, kwOk, kwNames, kwText, kwBytes]

theorem sum_le_bulk (a : An) : (a.names.map fun s => s.size + 1).sum ≤ a.bulk ∧ a.text.size ≤ a.bulk ∧ a.bytes.length ≤ a.bulk := by unfold An.bulk; omega
theorem flat_words : ∀ (l : List ByteArray), ((l.map (·.data.toList)).flatMap (fun y => 32 :: y)).length = (l.map fun s => s.size + 1).sum
  | [] => rfl
  | s :: l => by
    have := flat_words l
    have e : s.data.toList.length = s.size := by simp
    simp only [List.map_cons, List.flatMap_cons, List.length_append, List.length_cons, List.sum_cons, e] at this ⊢
    omega
theorem An.line_len (a : An) (h : a.err = 0) : a.line.length ≤ 2 * a.bulk + 100 := by
  rw [a.line_ok h]
  obtain ⟨h1, h2, h3⟩ := sum_le_bulk a
  have hb : a.bulk = (a.names.map fun s => s.size + 1).sum + a.text.size + a.bytes.length := rfl
  have e1 : (a.partN.flatMap (fun y => 32 :: y)).length ≤ 6 + (a.names.map fun s => s.size + 1).sum := by
    unfold An.partN
    split
    · simp
    · rw [List.flatMap_cons, List.length_append, flat_words]
      simp [kwNames]
  have e2 : (a.partT.flatMap (fun y => 32 :: y)).length ≤ 10 + 2 * a.text.size := by
    unfold An.partT
    split
    · simp
    · have := hexL_len a.text.data.toList
      have e : a.text.data.toList.length = a.text.size := by simp
      simp [kwText]
      omega
  have e3 : (a.partB.flatMap (fun y => 32 :: y)).length ≤ 10 + 2 * a.bytes.length := by
    unfold An.partB
    split
    · simp
    · have := hexL_len a.bytes
      simp [kwBytes]
      omega
  simp only [List.length_append]
  have : kwOk.length = 2 := rfl
  omega
theorem names_len (l : List ByteArray) : l.length ≤ (l.map fun s => s.size + 1).sum := by
  induction l with
  | nil => simp
  | cons s l ih => simp only [List.length_cons, List.map_cons, List.sum_cons]; omega
set_option maxHeartbeats 8000000 in
set_option maxRecDepth 1000000 in
theorem tell_ok {S : Nat → Prop} {w : World} {x : Ah} {a : An} (h : AnIn S w x a) (he : a.err = 0) (hbk : a.bulk ≤ 1099511627776) :
    Calls Tryz.prog 20 #[.agg #[.int .i64 0, .slice x.nA a.names.length x.nc, .string a.text, .slice x.bA a.bytes.length x.bc]] w fun e w' => e = .returned (.string ⟨a.line.toArray⟩) ∧ Below w.heap.size w w' := by
  obtain ⟨k1, k2, k3⟩ := sum_le_bulk a
  have hnl := names_len a.names
  have hll := a.line_len he
  have hwl : a.ws.length ≤ a.names.length + 6 := by
    unfold An.ws An.wsT An.wsN
    by_cases h1 : a.names = [] <;> by_cases h2 : a.text.size = 0 <;> by_cases h3 : a.bytes = [] <;> simp [h1, h2, h3] <;> omega
  have hwn : a.wsN.length ≤ a.names.length + 2 := by
    unfold An.wsN
    by_cases h1 : a.names = [] <;> simp [h1] <;> omega
  have hwt : a.wsT.length ≤ a.names.length + 4 := by
    unfold An.wsT
    by_cases h2 : a.text.size = 0 <;> simp [h2] <;> omega
  have H := hide h
  clear h
  have Hline := hide (a.ws_line he)
  clear he
  go_enter Tryz.func20, Tryz.ntmps20
  go_upto_if 16 with fail
  obtain ⟨W1, hW1⟩ : ∃ W1, W1 = (w.alloc (.cells #[.int .i64 0, .slice x.nA a.names.length x.nc, .string a.text, .slice x.bA a.bytes.length x.bc] 53)).alloc (.cells #[.string wOk] 9) := ⟨_, rfl⟩
  have hB1 : Below w.heap.size w W1 := by rw [hW1]; exact below2 _ _
  have hs1 : W1.heap.size = w.heap.size + 2 := by rw [hW1]; simp
  have hx0 : W1.heap[w.heap.size]? = some (.cells #[.int .i64 0, .slice x.nA a.names.length x.nc, .string a.text, .slice x.bA a.bytes.length x.bc] 53) := by rw [hW1, heap_alloc_old _ _ (by simp)]; exact heap_alloc_new w _
  have HO1 : Hid (W1.ownsRow (w.heap.size + 1) 9 1 (.slice (some ⟨w.heap.size + 1, 0, none⟩) 1 1) 1 [.string wOk]) := hide ⟨rfl, .inr ⟨w.heap.size + 1, 1, #[.string wOk], rfl, Nat.le_refl _, by rw [hW1]; have := heap_alloc_new (w.alloc (.cells #[.int .i64 0, .slice x.nA a.names.length x.nc, .string a.text, .slice x.bA a.bytes.length x.bc] 53)) (.cells #[.string wOk] 9); simpa using this, Nat.le_refl _, by decide, rfl, rfl⟩⟩
  rw [show (w.alloc (.cells #[.int .i64 0, .slice x.nA a.names.length x.nc, .string a.text, .slice x.bA a.bytes.length x.bc] 53)).alloc (.cells #[.string { data := #[111, 107] }] 9) = W1 from hW1.symm]
  have a0 : ∀ W, Below (w.heap.size + 1) W1 W → W.cell? ⟨w.heap.size, 1, none⟩ = some (.slice x.nA a.names.length x.nc) := fun W hW => by rw [Lib.cell_of_heap ((hW.block _ (Nat.lt_succ_self _)).trans hx0)]; rfl
  have a1 : ∀ W, Below (w.heap.size + 1) W1 W → W.cell? ⟨w.heap.size, 2, none⟩ = some (.string a.text) := fun W hW => by rw [Lib.cell_of_heap ((hW.block _ (Nat.lt_succ_self _)).trans hx0)]; rfl
  have a2 : ∀ W, Below (w.heap.size + 1) W1 W → W.cell? ⟨w.heap.size, 3, none⟩ = some (.slice x.bA a.bytes.length x.bc) := fun W hW => by rw [Lib.cell_of_heap ((hW.block _ (Nat.lt_succ_self _)).trans hx0)]; rfl
  have hW11 : Below (w.heap.size + 1) W1 W1 := Below.refl _ _
  clear hW1 hx0
  go_cut [3, 16] from 16 to 22 (fun v b wx => b = .bool (decide ((0 : Int) < (a.names.length : Int))) ∧ wx.ownsRow (w.heap.size + 1) 9 1 v a.wsN.length (a.wsN.map .string) ∧ Below (w.heap.size + 1) W1 wx)
  case first =>
    by_cases hn : a.names = []
    · have hn0 : a.names.length = 0 := by rw [hn]; rfl
      go_wp2_with fail
      go_meet
      exact ⟨by simp [hn0], by have := HO1.out; simpa [An.wsN, hn] using this, Below.refl _ _⟩
    · have hn0 : ¬ a.names.length = 0 := fun e => hn (List.length_eq_zero_iff.1 e)
      have hgt : (0 : Int) < (a.names.length : Int) := by omega
      have hgt2 : 0 < a.names.length := by omega
      go_upto_region 5 with fail
      have hd1 : Below (w.heap.size + 1) W1 W1.drew := hW11.drew
      have HOD : Hid (W1.drew.ownsRow (w.heap.size + 1) 9 1 (.slice (some ⟨w.heap.size + 1, 0, none⟩) 1 1) 1 [.string wOk]) := HO1
      refine wp_region_held_drew (S := Below (w.heap.size + 1) W1) (by kernel_rfl) hd1 (fun hHeld => ?_)
      generalize W1.drew = wD at hHeld HOD ⊢
      have hsD := hHeld.size
      refine tk (v := ?_) 0 hHeld ?_ ?_
      rotate_left
      · intro w' hSw
        first | (go_simp; done) | (go_simp; with_reducible rfl)
      try simp only [List.set_cons_zero, List.set_cons_succ]
      refine tk (v := ?_) 3 hHeld ?_ ?_
      rotate_left
      · intro w' hSw
        first | (go_simp; done) | (go_simp; with_reducible rfl)
      try simp only [List.set_cons_zero, List.set_cons_succ]
      refine tk (v := ?_) 4 hHeld ?_ ?_
      rotate_left
      · intro w' hSw
        have b0 := a0 w' hSw
        first | (go_simp; done) | (go_simp; with_reducible rfl)
      try simp only [List.set_cons_zero, List.set_cons_succ]
      refine wpAnyH_ready (rs := [1]) (by kernel_rfl) (by simp) ?_
      refine AllReadyH.cons rfl (fun K hK => ?_) AllReadyH.nil
      go_simp
      go_wp2_with fail
      have hH2 : Below (w.heap.size + 1) W1 (wD.alloc (.cells #[.string wNames] 9)) := hHeld.alloc (by omega) _
      refine hK.out _ _ hH2 (fun _ => ?_)
      clear hK K
      try simp only [Act.put, List.getElem_toArray, List.getElem_cons_zero, List.getElem_cons_succ, List.setIfInBounds_toArray, List.set_cons_zero, List.set_cons_succ]
      obtain ⟨v', w5, hrun, hown, hB5⟩ := row_step (P := Tryz.prog) (T := 34) (us := [.string wNames]) (B := some ⟨wD.heap.size, 0, none⟩) (m := 1) (cB := 1) Tryz.underlying34 InfoStrT rfl (by decide) (HOD.out.alloc (.cells #[.string wNames] 9)) (fun e => by cases e) rfl (by intro u hu; simp at hu; subst hu; rfl) (fun ad e => by injection e with e; subst e; intro j u hu; rw [Addr.add_lit, Nat.zero_add, Lib.cell_of_heap (heap_alloc_new wD _)]; simpa using hu) (by simp; omega) (by decide) (by decide) 34
      refine wpAnyH_ready (rs := [2]) (by kernel_rfl) (by simp) ?_
      refine AllReadyH.cons rfl (fun K hK => ?_) AllReadyH.nil
      refine step_append_ran (v1 := .slice (some ⟨w.heap.size + 1, 0, none⟩) 1 1) (v2 := .slice (some ⟨wD.heap.size, 0, none⟩) 1 1) rfl _ _ _ rfl (by rfl) (by rfl) hrun ?_
      have hH3 := hH2.trans hB5
      refine hK.out _ _ hH3 (fun hHeld3 => ?_)
      clear hK K
      try simp only [Act.put, List.getElem_toArray, List.getElem_cons_zero, List.getElem_cons_succ, List.setIfInBounds_toArray, List.set_cons_zero, List.set_cons_succ]
      have hs5 := hH3.size
      have hnm := (H.out.below (hB1.trans (hH3.mono (Nat.le_succ _)))).names
      obtain ⟨v6, w6, hrun6, hown6, hB6⟩ := row_step (P := Tryz.prog) (T := 34) (us := a.names.map .string) (B := x.nA) (m := a.names.length) (cB := x.nc) Tryz.underlying34 InfoStrT rfl (by decide) hown (rd_none hnm.1) (by simp) (one_cells _ (fun _ => rfl)) (rd_add hnm.1) (by omega) (by unfold maxLen; omega) (by omega) 34
      refine wpAnyH_ready (rs := [5]) (by kernel_rfl) (by simp) ?_
      refine AllReadyH.cons rfl (fun K hK => ?_) AllReadyH.nil
      refine step_append_ran (v1 := v') (v2 := .slice x.nA a.names.length x.nc) rfl _ _ _ rfl (by rfl) (by rfl) hrun6 ?_
      have hH6 := hH3.trans hB6
      refine hK.out _ _ hH6 (fun hHeld6 => ?_)
      clear hK K
      try simp only [Act.put, List.getElem_toArray, List.getElem_cons_zero, List.getElem_cons_succ, List.setIfInBounds_toArray, List.set_cons_zero, List.set_cons_succ]
      refine tk (v := ?_) 6 hHeld6 ?_ ?_
      rotate_left
      · intro w' hSw
        first | (go_simp; done) | (go_simp; with_reducible rfl)
      try simp only [List.set_cons_zero, List.set_cons_succ]
      refine wpAnyH_done (by kernel_rfl) ?_ _
      try simp only [Act.put, List.getElem_toArray, List.getElem_cons_zero, List.getElem_cons_succ, List.setIfInBounds_toArray, List.set_cons_zero, List.set_cons_succ]
      have HO6 := hide hown6
      have HB6 := hide hH6
      clear hrun hown hB5 hH2 hH3 hHeld hHeld3 hHeld6 hrun6 hown6 hB6 hH6
      go_wp2_with fail
      go_meet
      refine ⟨by simp; omega, ?_, HB6.out⟩
      have h := HO6.out
      have e : a.wsN = wOk :: wNames :: a.names := by rw [An.wsN, if_neg hn]
      rw [e]
      have el : (wOk :: wNames :: a.names).length = 1 + 1 + a.names.length := by simp; omega
      rw [el]
      simpa using h
  case rest =>
  obtain ⟨hu16, hO, hBc⟩ := hcut
  clear hu16
  obtain ⟨Av, cv, rfl⟩ := own_shape hO
  have HO := hide hO
  clear hO HO1
  go_upto_if 25 with fail
  go_cut [3, 25] from 25 to 32 (fun v b wx => wx.ownsRow (w.heap.size + 1) 9 1 v a.wsT.length (a.wsT.map .string) ∧ Below (w.heap.size + 1) W1 wx)
  case first =>
    by_cases ht : a.text.size = 0
    · have hte : a.text.toList.isEmpty = true := by rw [List.isEmpty_iff]; exact (size_nil _).2 (by omega)
      go_wp2_with fail
      · exact absurd ‹(!a.text.toList.isEmpty) = true› (by simp [hte])
      · go_meet
        exact ⟨by have := HO.out; simpa [An.wsT, ht] using this, hBc⟩
    · have hte : a.text.toList.isEmpty = false := by rw [Bool.eq_false_iff, ne_eq, List.isEmpty_iff, size_nil]; omega
      have hcv := fun w' : World => run_bytes_of_string (P := Tryz.prog) w' 9 44 5 a.text Tryz.underlying9 Tryz.underlying44 Tryz.underlying5
      have hsc := hBc.size
      have Htl : Hid (a.text.data.toList.length = a.text.size) := hide (by simp)
      have Htx : Hid (a.text.size ≤ 9223372036854775807) := hide (by omega)
      go_wp2_with (first
        | (go_at_call 46; (with_reducible refine (spelled_n (l := a.text.data.toList) (text_bytes wc a.text _ _ _ Htx.out) Htl.out (by omega)).mono ?_); rintro e1 w1 ⟨rfl, hb1⟩; have HBa : Hid (Below wc.heap.size wc w1) := hide (((below_alloc wc _).drew).trans (hb1.mono (by simp))); have HO2 := hide (own_keep HO.out HBa.out); have hs1 := HBa.out.size; clear hb1)
        | (at_builtin; refine wpList_row rfl _ _ 34 rfl (w.heap.size + 1) 9 Tryz.underlying34 InfoStrT rfl (by decide) _ a.wsN.length (a.wsN.map .string) rfl (HO2.out.alloc _) (some ⟨w1.heap.size, 0, none⟩) 2 2 [.string wText, .string (hexS a.text.data.toList)] rfl (by simp) rfl (fun ad e => by injection e with e; subst e; intro j u hu; rw [Addr.add_lit, Nat.zero_add, Lib.cell_of_heap (heap_alloc_new w1 _)]; simpa [wText, wBytes, hexS] using hu) (by intro u hu; simp at hu; rcases hu with rfl | rfl <;> rfl) (by unfold maxLen; omega) (by omega) (by simp; omega) ?_))
      intro v1 w2 h1 hg1 hw1
      have HB2 : Hid (Below (w.heap.size + 1) W1 w2) := hide (((hBc.trans (HBa.out.mono (by omega))).alloc (by omega) _).grown hg1 (by simp; omega) fun k hk => (HO2.out.lt k hk).1)
      have H1 := hide h1
      clear h1 hg1 hw1
      go_wp2_with fail
      go_meet
      refine ⟨?_, HB2.out⟩
      have e : a.wsT = a.wsN ++ [wText, hexS a.text.data.toList] := by rw [An.wsT, if_neg ht]
      rw [e, List.length_append, List.map_append]
      exact H1.out
      exact absurd ‹(!a.text.toList.isEmpty) = false› (by simp [hte])
  case rest =>
  clear HO hBc
  obtain ⟨hO, hBc⟩ := hcut
  obtain ⟨Av, cv, rfl⟩ := own_shape hO
  have HO := hide hO
  clear hO
  go_upto_if 36 with fail
  go_cut [3, 36] from 36 to 42 (fun v b wx => wx.ownsRow (w.heap.size + 1) 9 1 v a.ws.length (a.ws.map .string) ∧ Below (w.heap.size + 1) W1 wx)
  case first =>
    by_cases hb : a.bytes = []
    · have hb0 : a.bytes.length = 0 := by rw [hb]; rfl
      go_wp2_with fail
      go_meet
      exact ⟨by have := HO.out; simpa [An.ws, hb] using this, hBc⟩
    · have hb0 : 0 < a.bytes.length := List.length_pos_iff.2 hb
      have hsc := hBc.size
      have hby := (H.out.below (hB1.trans (hBc.mono (Nat.le_succ _)))).bytes
      have Hby := hide hby
      clear hby
      go_wp2_with (first
        | (go_at_call 46; (with_reducible refine (spelled_any Hby.out (by omega)).mono ?_); rintro e1 w1 ⟨rfl, hb1⟩; have HO2 := hide (own_keep HO.out hb1); have hs1 := hb1.size; have HBa := hide hb1; clear hb1)
        | (at_builtin; refine wpList_row rfl _ _ 34 rfl (w.heap.size + 1) 9 Tryz.underlying34 InfoStrT rfl (by decide) _ a.wsT.length (a.wsT.map .string) rfl (HO2.out.alloc _) (some ⟨w1.heap.size, 0, none⟩) 2 2 [.string wBytes, .string (hexS a.bytes)] rfl (by simp) rfl (fun ad e => by injection e with e; subst e; intro j u hu; rw [Addr.add_lit, Nat.zero_add, Lib.cell_of_heap (heap_alloc_new w1 _)]; simpa [wText, wBytes, hexS] using hu) (by intro u hu; simp at hu; rcases hu with rfl | rfl <;> rfl) (by unfold maxLen; omega) (by omega) (by simp; omega) ?_))
      intro v1 w2 h1 hg1 hw1
      have HB2 : Hid (Below (w.heap.size + 1) W1 w2) := hide (((hBc.trans (HBa.out.mono (by omega))).alloc (by omega) _).grown hg1 (by simp; omega) fun k hk => (HO2.out.lt k hk).1)
      have H1 := hide h1
      clear h1 hg1 hw1
      go_wp2_with fail
      go_meet
      refine ⟨?_, HB2.out⟩
      have e : a.ws = a.wsT ++ [wBytes, hexS a.bytes] := by rw [An.ws, if_neg hb]
      rw [e, List.length_append, List.map_append]
      exact H1.out
  case rest =>
  clear HO hBc
  obtain ⟨hO, hBc⟩ := hcut
  obtain ⟨Av, cv, rfl⟩ := own_shape hO
  have HO := hide hO
  clear hO
  have hwT : 0 < a.ws.length := by unfold An.ws An.wsT An.wsN; simp
  go_wp2_with (go_at_call 47; (with_reducible refine (joined_any HO.out rfl hwT (by omega) (by rw [Hline.out]; omega)).mono ?_); rintro e1 w1 ⟨rfl, hb1⟩; have HBz := hide hb1; clear hb1)
  go_ret
  exact ⟨by rw [Hline.out]; rfl, (hB1.trans (hBc.mono (Nat.le_succ _))).trans (HBz.out.mono (by have := hB1.size; have := hBc.size; omega))⟩

end Go.Proofs.YtjjaojnglnpgaaaGreatDoor

namespace Go.Proofs.YtjjaojnglnpgaaaGreatDoor
open Go.RowKit

theorem PowTab.tab {w : World} (h : PowTab w) : Lib.TabIs Tryz.prog w "internal/strconv.uint64pow10" .u64 Lib.pow10Tab := h.2
theorem own_two (w : World) (a b : ByteArray) : (w.alloc (.cells #[.string a, .string b] 9)).ownsRow 0 9 1 (.slice (some ⟨w.heap.size, 0, none⟩) 2 2) 2 ([a, b].map .string) :=
  ⟨rfl, .inr ⟨w.heap.size, 2, #[.string a, .string b], rfl, Nat.zero_le _, heap_alloc_new w _, Nat.le_refl _, by decide, rfl, rfl⟩⟩
abbrev itoaT (n : Int) : ByteArray := ⟨(Lib.itoa n).toArray⟩
abbrev wError : ByteArray := ⟨#[101, 114, 114, 111, 114]⟩
theorem An.err_line (a : An) (h : ¬ a.err = 0) : Lib.join ([wError, itoaT a.err].map (·.data.toList)) [32] = a.line := by
  rw [An.line, An.parts, if_neg h]
  simp [wError, itoaT, kwError]
theorem An.err_len (a : An) (h : ¬ a.err = 0) (hi : isInt64 a.err) : a.line.length ≤ 40 := by
  rw [An.line_err a h]
  have := Lib.itoa_length_le a.err hi.1 hi.2
  simp [kwError]
  omega
set_option maxHeartbeats 8000000 in
set_option maxRecDepth 1000000 in
theorem tell_err {S : Nat → Prop} {w : World} {x : Ah} {a : An} (h : AnIn S w x a) (he : ¬ a.err = 0) (ht : PowTab w) :
    Calls Tryz.prog 20 #[.agg #[.int .i64 a.err, .slice x.nA a.names.length x.nc, .string a.text, .slice x.bA a.bytes.length x.bc]] w fun e w' => e = .returned (.string ⟨a.line.toArray⟩) ∧ Below w.heap.size w w' := by
  have Hln := hide (a.err_len he h.err)
  have Hline := hide (a.err_line he)
  have Hi : Hid (-9223372036854775808 ≤ a.err ∧ a.err ≤ 9223372036854775807) := hide h.err
  have HT := hide (PowTab.below ht (below_alloc w (.cells #[.int .i64 a.err, .slice x.nA a.names.length x.nc, .string a.text, .slice x.bA a.bytes.length x.bc] 53)))
  clear h ht
  go_enter Tryz.func20, Tryz.ntmps20
  go_wp2_with (first
    | (go_at_call 55; (with_reducible refine (Tryz.strconv_Itoa a.err Hi.out.1 Hi.out.2 _ (PowTab.tab HT.out)).mono ?_); rintro e1 w1 ⟨rfl, k1, os, rfl⟩; have hg := below_growT (w.alloc (.cells #[.int .i64 a.err, .slice x.nA a.names.length x.nc, .string a.text, .slice x.bA a.bytes.length x.bc] 53)) k1 os; generalize Go.Sort.grow ((w.alloc (.cells #[.int .i64 a.err, .slice x.nA a.names.length x.nc, .string a.text, .slice x.bA a.bytes.length x.bc] 53)).drewN k1) os = w1 at hg; have HB1 : Hid (Below w.heap.size w w1) := hide ((below_alloc w _).trans (hg.mono (by simp))); clear hg)
    | (go_at_call 47; (with_reducible refine (joined_any (B := 0) (ws := [wError, itoaT a.err]) (own_two w1 wError (itoaT a.err)) rfl (Nat.succ_pos _) (by simp) (by have := Hln.out; rw [Hline.out]; omega)).mono ?_); rintro e2 w2 ⟨rfl, hb2⟩; have HB2 : Hid (Below w.heap.size w w2) := hide ((HB1.out.trans ((below_alloc w1 _).mono HB1.out.size)).trans (hb2.mono (by have := HB1.out.size; simp; omega))); clear hb2))
  go_ret
  exact ⟨congrArg (fun l : List UInt8 => Ending.returned (.string ⟨l.toArray⟩)) Hline.out, HB2.out⟩
theorem tell_any {S : Nat → Prop} {w : World} {x : Ah} {a : An} (h : AnIn S w x a) (ht : PowTab w) (hbk : a.bulk ≤ 1099511627776) :
    Calls Tryz.prog 20 #[.agg #[.int .i64 a.err, .slice x.nA a.names.length x.nc, .string a.text, .slice x.bA a.bytes.length x.bc]] w fun e w' => e = .returned (.string ⟨a.line.toArray⟩) ∧ Below w.heap.size w w' := by
  by_cases he : a.err = 0
  · rw [he]
    exact tell_ok h he hbk
  · exact tell_err h he ht

end Go.Proofs.YtjjaojnglnpgaaaGreatDoor

namespace Go.Proofs.YtjjaojnglnpgaaaGreatDoor
open Go.RowKit

theorem refHex_n {S : Nat → Prop} {w : World} {A : Option Addr} {n c : Nat} {l : List UInt8} (hb : BytesIn S w A l) (hn : l.length = n) (hl : n ≤ 1099511627776) :
    Calls Tryz.prog 49 #[.slice A n c] w fun e w' => e = .returned (.string ⟨(hexL l).toArray⟩) ∧ Below w.heap.size w w' := by
  subst hn
  exact refHex_any hb hl
abbrev strOf (l : List UInt8) : ByteArray := ⟨l.toArray⟩
theorem strOf_app (l : List UInt8) (s : ByteArray) : strOf l ++ s = strOf (l ++ s.data.toList) := by
  apply ByteArray.ext
  rw [ByteArray.data_append]
  apply Array.ext'
  simp
def flatW (l : List ByteArray) : List UInt8 := l.flatMap fun s => 32 :: s.data.toList
theorem flatW_next (l : List ByteArray) (s : ByteArray) : flatW (l ++ [s]) = flatW l ++ 32 :: s.data.toList := by simp [flatW]
theorem flatW_map (l : List ByteArray) : (l.map (·.data.toList)).flatMap (fun y => 32 :: y) = flatW l := by simp [flatW, List.flatMap_map]
theorem flatW_len : ∀ l : List ByteArray, (flatW l).length = (l.map fun s => s.size + 1).sum
  | [] => rfl
  | s :: l => by
    have := flatW_len l
    simp only [flatW, List.flatMap_cons, List.length_append, List.length_cons, List.map_cons, List.sum_cons] at this ⊢
    have e : s.data.toList.length = s.size := by simp
    omega
theorem flatW_take (l : List ByteArray) (q : Nat) : (flatW (l.take q)).length ≤ (l.map fun s => s.size + 1).sum := by
  rw [← flatW_len l]
  have : flatW l = flatW (l.take q) ++ flatW (l.drop q) := by
    unfold flatW
    rw [← List.flatMap_append, List.take_append_drop]
  rw [this, List.length_append]
  omega
def An.p0 (a : An) : List UInt8 := kwOk ++ (if a.names = [] then [] else 32 :: kwNames)
def An.p1 (a : An) : List UInt8 := a.p0 ++ flatW a.names
def An.p2 (a : An) : List UInt8 := a.p1 ++ (if a.text.size = 0 then [] else 32 :: kwText ++ 32 :: hexL a.text.data.toList)
def An.p3 (a : An) : List UInt8 := a.p2 ++ (if a.bytes = [] then [] else 32 :: kwBytes ++ 32 :: hexL a.bytes)
theorem An.p3_line (a : An) (h : a.err = 0) : a.p3 = a.line := by
  rw [a.line_ok h]
  unfold An.p3 An.p2 An.p1 An.p0 An.partN An.partT An.partB
  by_cases h1 : a.names = [] <;> by_cases h2 : a.text.size = 0 <;> by_cases h3 : a.bytes = [] <;> simp [h1, h2, h3, flatW, List.flatMap_map]
theorem An.p0_len (a : An) : a.p0.length ≤ 20 := by
  unfold An.p0
  split <;> simp [kwOk, kwNames]
theorem An.p2_len (a : An) : a.p2.length ≤ 40 + 3 * a.bulk := by
  obtain ⟨h1, h2, h3⟩ := sum_le_bulk a
  have := a.p0_len
  have := flatW_len a.names
  have := hexL_len a.text.data.toList
  have e : a.text.data.toList.length = a.text.size := by simp
  unfold An.p2 An.p1
  split <;> simp [kwText] <;> omega
set_option maxHeartbeats 8000000 in
set_option maxRecDepth 1000000 in
theorem refTell_ok {S : Nat → Prop} {w : World} {nA bA : Option Addr} {nc bc : Nat} {a : An} (h : AnIn S w ⟨nA, nc, bA, bc⟩ a) (he : a.err = 0) (hbk : a.bulk ≤ 1099511627776) :
    Calls Tryz.prog 21 #[.agg #[.int .i64 0, .slice nA a.names.length nc, .string a.text, .slice bA a.bytes.length bc]] w fun e w' => e = .returned (.string ⟨a.line.toArray⟩) ∧ Below w.heap.size w w' := by
  obtain ⟨k1, k2, k3⟩ := sum_le_bulk a
  have hnl := names_len a.names
  have Hline := hide (a.p3_line he)
  have H := hide h
  clear he h
  have hp0 := a.p0_len
  have hp2 := a.p2_len
  have hfn := flatW_len a.names
  have hhx : (hexL a.text.data.toList).length ≤ 2 * a.text.size + 1 := by
    have := hexL_len a.text.data.toList
    have e : a.text.data.toList.length = a.text.size := by simp
    omega
  have hhb := hexL_len a.bytes
  go_enter Tryz.func21, Tryz.ntmps21
  go_upto_if 15 with fail
  obtain ⟨W1, hW1⟩ : ∃ W1, W1 = w.alloc (.cells #[.int .i64 0, .slice nA a.names.length nc, .string a.text, .slice bA a.bytes.length bc] 53) := ⟨_, rfl⟩
  have hB1 : Below w.heap.size w W1 := by rw [hW1]; exact below_alloc _ _
  have Hs1 : Hid (W1.heap.size = w.heap.size + 1) := hide (by rw [hW1]; simp)
  have hx0 : W1.heap[w.heap.size]? = some (.cells #[.int .i64 0, .slice nA a.names.length nc, .string a.text, .slice bA a.bytes.length bc] 53) := by rw [hW1]; exact heap_alloc_new w _
  rw [show w.alloc (.cells #[.int .i64 0, .slice nA a.names.length nc, .string a.text, .slice bA a.bytes.length bc] 53) = W1 from hW1.symm]
  have a0 : ∀ W, Below (w.heap.size + 1) W1 W → W.cell? ⟨w.heap.size, 1, none⟩ = some (.slice nA a.names.length nc) := fun W hW => by rw [Lib.cell_of_heap ((hW.block _ (Nat.lt_succ_self _)).trans hx0)]; rfl
  have a1 : ∀ W, Below (w.heap.size + 1) W1 W → W.cell? ⟨w.heap.size, 2, none⟩ = some (.string a.text) := fun W hW => by rw [Lib.cell_of_heap ((hW.block _ (Nat.lt_succ_self _)).trans hx0)]; rfl
  have a2 : ∀ W, Below (w.heap.size + 1) W1 W → W.cell? ⟨w.heap.size, 3, none⟩ = some (.slice bA a.bytes.length bc) := fun W hW => by rw [Lib.cell_of_heap ((hW.block _ (Nat.lt_succ_self _)).trans hx0)]; rfl
  have hW11 : Below (w.heap.size + 1) W1 W1 := Below.refl _ _
  have c0 := a0 W1 hW11
  clear hW1 hx0
  go_cut [3, 15] from 15 to 17 (fun v b wx => v = .string (strOf a.p0) ∧ wx = W1)
  case first =>
    by_cases hn : a.names = []
    · have hn0 : a.names.length = 0 := by rw [hn]; rfl
      go_wp2_with fail
      go_meet
      exact ⟨by simp [An.p0, hn, strOf, kwOk], rfl⟩
    · have hn0 : ¬ a.names.length = 0 := fun e => hn (List.length_eq_zero_iff.1 e)
      have hgt : (0 : Int) < (a.names.length : Int) := by omega
      have hgt2 : 0 < a.names.length := by omega
      go_wp2_with fail
      go_meet
      exact ⟨by simp [An.p0, hn, strOf, kwOk, kwNames]; rfl, rfl⟩
  case rest =>
  obtain ⟨rfl, e2⟩ := hcut
  subst e2
  go_wp2_with fail
  go_loopg [4, 3] a.names.length (fun g i v wr => ∃ q : Nat, q ≤ a.names.length ∧ g = a.names.length - q ∧ i = .int .i64 q ∧ v = .string (strOf (a.p0 ++ flatW (a.names.take q))) ∧ wr = wc)
  case atStart => exact ⟨0, by omega, by omega, rfl, by simp [flatW], rfl⟩
  case round =>
    obtain ⟨q, hq, hg, rfl, rfl, e3⟩ := hrel
    subst e3
    by_cases hlt : q < a.names.length
    · have hnm := (H.out.names.below hB1).1
      obtain ⟨b, o, rfl, hc⟩ := hnm.at_ (j := q) (by simp; omega)
      simp only [List.getElem_map] at hc
      have hbl := block_lt_of_cell hc
      have hf1 := flatW_take a.names q
      have hf2 : (flatW (a.names.take q)).length + 1 + (a.names[q]).size ≤ (a.names.map fun s => s.size + 1).sum := by
        have := flatW_take a.names (q + 1)
        rw [List.take_succ_eq_append_getElem hlt, flatW_next, List.length_append, List.length_cons] at this
        have e : (a.names[q]).data.toList.length = (a.names[q]).size := by simp
        omega
      have hqi : (q : Int) < (a.names.length : Int) := by omega
      go_wp2_with fail
      go_roundg (a.names.length - (q + 1))
      case measure => omega
      case rel =>
        refine ⟨q + 1, by omega, rfl, by go_num, ?_, rfl⟩
        rw [List.take_succ_eq_append_getElem hlt, flatW_next]
        show Value.string (strOf _ ++ strOf [32] ++ a.names[q]) = _
        rw [strOf_app, strOf_app]
        simp
    · have hql : q = a.names.length := by omega
      subst hql
      rw [List.take_length]
      clear c0 hlt hg hq
      go_upto_if 35 with fail
      go_cut [3, 35] from 35 to 42 (fun v b wx => v = .string (strOf a.p2) ∧ Below (w.heap.size + 1) wr wx)
      case first =>
        by_cases ht : a.text.size = 0
        · have hte : a.text.toList.isEmpty = true := by rw [List.isEmpty_iff]; exact (size_nil _).2 (by omega)
          go_wp2_with fail
          · exact absurd ‹(!a.text.toList.isEmpty) = true› (by simp [hte])
          · go_meet
            exact ⟨by simp [An.p2, An.p1, ht], hW11⟩
        · have hte : a.text.toList.isEmpty = false := by rw [Bool.eq_false_iff, ne_eq, List.isEmpty_iff, size_nil]; omega
          have hcv := fun w' : World => run_bytes_of_string (P := Tryz.prog) w' 9 44 5 a.text Tryz.underlying9 Tryz.underlying44 Tryz.underlying5
          have Htl : Hid (a.text.data.toList.length = a.text.size) := hide (by simp)
          have Htx : Hid (a.text.size ≤ 9223372036854775807) := hide (by omega)
          go_wp2_with (go_at_call 49; (with_reducible refine (refHex_n (l := a.text.data.toList) (text_bytes wr a.text _ _ _ Htx.out) Htl.out (by omega)).mono ?_); rintro e1 w1 ⟨rfl, hb1⟩; have HBa : Hid (Below wr.heap.size wr w1) := hide (((below_alloc wr _).drew).trans (hb1.mono (by simp))); clear hb1)
          go_meet
          refine ⟨?_, HBa.out.mono (by have := Hs1.out; omega)⟩
          show Value.string (strOf _ ++ strOf [32, 116, 101, 120, 116, 32] ++ strOf _) = _
          rw [strOf_app, strOf_app]
          simp [An.p2, An.p1, ht, kwText]
          exact absurd ‹(!a.text.toList.isEmpty) = false› (by simp [hte])
      case rest =>
      obtain ⟨rfl, hBc⟩ := hcut
      go_upto_if 46 with fail
      go_cut [3, 46] from 46 to 52 (fun v b wx => v = .string (strOf a.p3) ∧ Below (w.heap.size + 1) wr wx)
      case first =>
        by_cases hb : a.bytes = []
        · have hb0 : a.bytes.length = 0 := by rw [hb]; rfl
          go_wp2_with fail
          go_meet
          exact ⟨by simp [An.p3, hb], hBc⟩
        · have hb0 : 0 < a.bytes.length := List.length_pos_iff.2 hb
          have hby := (H.out.below (hB1.trans (hBc.mono (Nat.le_succ _)))).bytes
          have Hby := hide hby
          clear hby
          go_wp2_with (go_at_call 49; (with_reducible refine (refHex_any Hby.out (by omega)).mono ?_); rintro e1 w1 ⟨rfl, hb1⟩; have HBa := hide hb1; clear hb1)
          go_meet
          refine ⟨?_, hBc.trans (HBa.out.mono (by have := hBc.size; have := Hs1.out; omega))⟩
          show Value.string (strOf _ ++ strOf [32, 98, 121, 116, 101, 115, 32] ++ strOf _) = _
          rw [strOf_app, strOf_app]
          simp [An.p3, hb, kwBytes]
      case rest =>
      clear hBc
      obtain ⟨rfl, hBc⟩ := hcut
      go_wp2_with fail
      go_ret
      exact ⟨by rw [← Hline.out]; rfl, hB1.trans (hBc.mono (Nat.le_succ _))⟩

set_option maxHeartbeats 8000000 in
set_option maxRecDepth 1000000 in
theorem refTell_err {S : Nat → Prop} {w : World} {nA bA : Option Addr} {nc bc : Nat} {a : An} (h : AnIn S w ⟨nA, nc, bA, bc⟩ a) (he : ¬ a.err = 0) (ht : PowTab w) :
    Calls Tryz.prog 21 #[.agg #[.int .i64 a.err, .slice nA a.names.length nc, .string a.text, .slice bA a.bytes.length bc]] w fun e w' => e = .returned (.string ⟨a.line.toArray⟩) ∧ Below w.heap.size w w' := by
  have Hln := hide (a.line_err he)
  have hil := Lib.itoa_length_le a.err h.err.1 h.err.2
  have Hi : Hid (-9223372036854775808 ≤ a.err ∧ a.err ≤ 9223372036854775807) := hide h.err
  have HT := hide (PowTab.below ht (below_alloc w (.cells #[.int .i64 a.err, .slice nA a.names.length nc, .string a.text, .slice bA a.bytes.length bc] 53)))
  clear h ht
  go_enter Tryz.func21, Tryz.ntmps21
  go_wp2_with (go_at_call 55; (with_reducible refine (Tryz.strconv_Itoa a.err Hi.out.1 Hi.out.2 _ (PowTab.tab HT.out)).mono ?_); rintro e1 w1 ⟨rfl, k1, os, rfl⟩; have hg := below_growT (w.alloc (.cells #[.int .i64 a.err, .slice nA a.names.length nc, .string a.text, .slice bA a.bytes.length bc] 53)) k1 os; generalize Go.Sort.grow ((w.alloc (.cells #[.int .i64 a.err, .slice nA a.names.length nc, .string a.text, .slice bA a.bytes.length bc] 53)).drewN k1) os = w1 at hg; have HB1 : Hid (Below w.heap.size w w1) := hide ((below_alloc w _).trans (hg.mono (by simp))); clear hg)
  go_ret
  refine ⟨?_, HB1.out⟩
  rw [Hln.out]
  show Ending.returned (Value.string (strOf [101, 114, 114, 111, 114, 32] ++ strOf _)) = _
  rw [strOf_app]
  simp [kwError]
theorem refTell_any {S : Nat → Prop} {w : World} {x : Ah} {a : An} (h : AnIn S w x a) (ht : PowTab w) (hbk : a.bulk ≤ 1099511627776) :
    Calls Tryz.prog 21 #[.agg #[.int .i64 a.err, .slice x.nA a.names.length x.nc, .string a.text, .slice x.bA a.bytes.length x.bc]] w fun e w' => e = .returned (.string ⟨a.line.toArray⟩) ∧ Below w.heap.size w w' := by
  obtain ⟨nA, nc, bA, bc⟩ := x
  by_cases he : a.err = 0
  · rw [he]
    exact refTell_ok h he hbk
  · exact refTell_err h he ht

end Go.Proofs.YtjjaojnglnpgaaaGreatDoor
