/- Numbers put into a line. -/
import Derived.Test.YtadilmijppdpoaaGreatDoorShelf
import Derived.Lib.AppendIntMem
import Derived.WalkSmall
import Derived.Laws.AppendOwn
import Derived.Test.YtadilmijppdpoaaGreatDoorTBuild
import Derived.Test.YtadilmijppdpoaaGreatDoorTBase
import Derived.Test.YtadilmijppdpoaaGreatDoorTTabs

set_option linter.unusedVariables false
set_option linter.unusedSimpArgs false

namespace Go.Proofs.YtadilmijppdpoaaGreatDoor
open Go.RowKit

theorem below_grow (w : World) (k : Nat) (os : Array Obj) : Below w.heap.size w (Go.Sort.grow (w.drewN k) os) :=
  ⟨rfl, rfl, rfl, by show w.heap.size ≤ (w.heap ++ os).size; simp, fun i hi => Lib.heap_grow_old w k os i hi⟩
theorem kept_below {w w' : World} (b : Nat) (h : Below w.heap.size w w') : Lib.OthersKept 5 (some b) w w' := fun k _ hk _ _ => (h.block k (Array.getElem?_eq_some_iff.1 hk).1).trans hk
theorem IsLine.below {B b : Nat} {bs : List Value} {w w' : World} (h : IsLine B b bs w) (hb : Below w.heap.size w w') : IsLine B b bs w' := by
  have key : ∀ p, LineAt B b p bs w → LineAt B b p bs w' := by
    rintro p ⟨hB, v, hbk, hown, hne⟩
    refine ⟨hB, v, (hb.block b (Array.getElem?_eq_some_iff.1 hbk).1).trans hbk, ⟨hown.1, ?_⟩, hne⟩
    rcases hown.2 with ⟨rfl, h0⟩ | ⟨g, cap, cur, rfl, hbg, hg, hr⟩
    · exact .inl ⟨rfl, h0⟩
    · exact .inr ⟨g, cap, cur, rfl, hbg, (hb.block g (Array.getElem?_eq_some_iff.1 hg).1).trans hg, hr⟩
  exact h.elim (fun h => .inl (key _ h)) (fun h => .inr (key _ h))
/-- the table of tens lies there -/
def TabP (B : Nat) (w : World) : Prop := 0 < B ∧ Lib.TabIs Tryz.prog w "internal/strconv.uint64pow10" .u64 Lib.pow10Tab
theorem TabP.below {B : Nat} {w w' : World} (h : TabP B w) (hb : Below B w w') : TabP B w' := ⟨h.1, var?_below hb (by kernel_rfl) h.1 h.2⟩
/-- a row of numbers that the call does not write to -/
def IntRow (w : World) (A : Option Addr) (ns : List Int) : Prop :=
  (∀ n ∈ ns, isInt64 n) ∧ (ns = [] ∨ ∃ k o cs fz, A = some ⟨k, o, none⟩ ∧ w.heap[k]? = some (.cells cs 3 fz) ∧ ∀ j u, ns[j]? = some u → cs[o + j]? = some (.int .i64 u))
theorem IntRow.kept {w w' : World} {A : Option Addr} {ns : List Int} {b : Nat} (h : IntRow w A ns) (hk : Lib.OthersKept 5 (some b) w w') (hb : ∀ k o, A = some ⟨k, o, none⟩ → k ≠ b) : IntRow w' A ns := by
  refine ⟨h.1, ?_⟩
  rcases h.2 with h | ⟨k, o, cs, fz, rfl, h1, h2⟩
  · exact .inl h
  · exact .inr ⟨k, o, cs, fz, rfl, hk k _ h1 (fun e => hb k o rfl (Option.some.inj e)) (fun c fz' e => by injection e with _ e2 _; exact absurd e2 (by decide)), h2⟩
theorem IntRow.at_ {w : World} {A : Option Addr} {ns : List Int} (h : IntRow w A ns) {j : Nat} (hj : j < ns.length) : ∃ k o, A = some ⟨k, o, none⟩ ∧ w.cell? ⟨k, o + j, none⟩ = some (.int .i64 ns[j]) := by
  rcases h.2 with rfl | ⟨k, o, cs, fz, rfl, h1, h2⟩
  · simp at hj
  · exact ⟨k, o, rfl, by rw [Lib.cell_of_heap h1]; exact h2 j _ (List.getElem?_eq_getElem hj)⟩
/-- a word alone, in a new row -/
theorem one_row (w : World) (s : ByteArray) : StrRow (w.alloc (.cells #[.string s] 9)) (some ⟨w.heap.size, 0, none⟩) [s] :=
  .inr ⟨w.heap.size, 0, _, _, rfl, heap_alloc_new w _, fun j u hu => by
    cases j with
    | zero => simp at hu; subst hu; rfl
    | succ j => simp at hu⟩
abbrev itoaS (n : Int) : ByteArray := ⟨(Lib.itoa n).toArray⟩
theorem itoaS_list (n : Int) : (itoaS n).data.toList = Lib.itoa n := by simp [itoaS]

theorem line_put_n {B b c n : Nat} {l : List UInt8} {A : Option Addr} {ws : List ByteArray} {w : World} (h : IsLine B b (Lib.byteCells l) w) (hA : StrRow w A ws) (hn : ws.length = n) (hb : ∀ k o, A = some ⟨k, o, none⟩ → k ≠ b) (hlen : l.length + roomB ws ≤ 140737488355328) (hBw : B ≤ w.heap.size) (hws : n ≤ 9223372036854775807) :
    Calls Tryz.prog 60 #[.pointer (some ⟨b, 0, none⟩), .slice A n c] w fun e w' => e = .returned (.tuple #[]) ∧ IsLine B b (Lib.byteCells (putsB l ws)) w' ∧ Below B w w' ∧ Lib.OthersKept 5 (some b) w w' := by
  subst hn
  exact line_put h hA hb hlen hBw hws

set_option maxHeartbeats 2000000 in
set_option maxRecDepth 1000000 in
theorem line_numbers {B b c : Nat} {l : List UInt8} {A : Option Addr} {ns : List Int} {w : World} (h : IsLine B b (Lib.byteCells l) w) (hA : IntRow w A ns) (hb : ∀ k o, A = some ⟨k, o, none⟩ → k ≠ b) (htab : TabP B w)
    (hlen : l.length + roomB (ns.map itoaS) ≤ 140737488355328) (hBw : B ≤ w.heap.size) (hbl : b < w.heap.size) (hns : ns.length ≤ 9223372036854775807) :
    Calls Tryz.prog 61 #[.pointer (some ⟨b, 0, none⟩), .slice A ns.length c] w fun e w' => e = .returned (.tuple #[]) ∧ IsLine B b (Lib.byteCells (putsB l (ns.map itoaS))) w' ∧ Below B w w' ∧ Lib.OthersKept 5 (some b) w w' := by
  have H := hide h
  have HA := hide hA
  have Hb := hide hb
  have HT := hide htab
  clear h hA hb htab
  go_enter Tryz.func61, Tryz.ntmps61
  go_wp2_with fail
  go_loopw [8, 5] (fun i _ wr => ∃ q : Nat, q ≤ ns.length ∧ i = .int .i64 q ∧ Hid (IsLine B b (Lib.byteCells (putsB l ((ns.take q).map itoaS))) wr) ∧ Hid (Below B w wr) ∧ Hid (Lib.OthersKept 5 (some b) w wr)) (fun i _ _ => ns.length - (intOf i).toNat)
  case atStart => exact ⟨0, Nat.zero_le _, rfl, H, hide (Below.refl _ _), hide (Lib.OthersKept.refl _ _ _)⟩
  case round =>
    obtain ⟨q, hq, rfl, HL, HB, HK⟩ := hrel
    by_cases hlt : q < ns.length
    · obtain ⟨k, o, rfl, hc⟩ := (HA.out.kept HK.out Hb.out).at_ hlt
      have hlt' : q < (ns.map itoaS).length := by simpa using hlt
      have hr := room_take hlt'
      have hl1 := putsB_len ((ns.map itoaS).take q) l
      have hnx := puts_next (l := l) hlt'
      rw [List.getElem_map] at hr hnx
      rw [← List.map_take] at hr hl1 hnx
      rw [← List.map_take] at hnx
      have hin := HA.out.1 ns[q] (List.getElem_mem hlt)
      have Hnx := hide hnx
      clear hnx
      have hBr := Nat.le_trans hBw HB.out.size
      have hbr := Nat.lt_of_lt_of_le hbl HB.out.size
      generalize putsB l ((ns.take q).map itoaS) = M at HL hl1 Hnx
      generalize ns[q] = s at hc hr Hnx hin
      have Hin : Hid (-9223372036854775808 ≤ s ∧ s ≤ 9223372036854775807) := hide hin
      clear hin
      have HT2 : Hid (Lib.TabIs Tryz.prog wr "internal/strconv.uint64pow10" .u64 Lib.pow10Tab) := hide (HT.out.below HB.out).2
      go_wp2_with (first
        | (go_at_call 20; (with_reducible refine (Tryz.strconv_Itoa s Hin.out.1 Hin.out.2 _ HT2.out).mono ?_); rintro e1 w1 ⟨rfl, k1, os, rfl⟩; have hg := below_grow wr k1 os; generalize Go.Sort.grow (wr.drewN k1) os = w1 at hg; have hs1 := hg.size; have HL1 := hide (HL.out.below hg); have HB1 := hide (HB.out.trans (hg.mono hBr)); have HK1 := hide (HK.out.trans (kept_below b hg)); clear hg)
        | (go_at_call 60; (with_reducible refine (line_put_n (n := 1) (l := M) (ws := [itoaS s]) (HL1.out.below (below_alloc _ _)) (one_row _ _) rfl (by intro k o e; injection e with e; injection e with e1 _; omega) (by simp [roomB]; omega) (by simp; omega) (by simp)).mono ?_); rintro e2 w2 ⟨rfl, h2, hb2, hk2⟩; have H2 := hide h2; have HB2 := hide ((HB1.out.alloc (Nat.le_trans hBr hs1) _).trans hb2); have HK2 := hide ((HK1.out.alloc _).trans hk2); clear h2 hb2 hk2))
      go_roundw
      case rel => exact ⟨q + 1, by omega, by go_num, hide (by rw [Hnx.out]; exact H2.out), HB2, HK2⟩
      case measure => simp [intOf]; omega
    · have hqe : q = ns.length := by omega
      go_wp2_with fail
      go_end0
      subst hqe
      exact ⟨rfl, by have := HL.out; rwa [List.take_length] at this, HB.out, HK.out⟩

end Go.Proofs.YtadilmijppdpoaaGreatDoor

namespace Go.Proofs.YtadilmijppdpoaaGreatDoor
open Go.RowKit

theorem ownsRow_below {B : Nat} {e : TypeId} {size n : Nat} {w w' : World} {v : Value} {xs : List Value} (h : w.ownsRow B e size v n xs) (hb : Below w.heap.size w w') : w'.ownsRow B e size v n xs := by
  refine ⟨h.1, ?_⟩
  rcases h.2 with ⟨rfl, h0⟩ | ⟨g, cap, cur, rfl, hbg, hg, hr⟩
  · exact .inl ⟨rfl, h0⟩
  · exact .inr ⟨g, cap, cur, rfl, hbg, (hb.block g (Array.getElem?_eq_some_iff.1 hg).1).trans hg, hr⟩
theorem lp_s : (Tryz.prog.info? 9).map (fun i => (i.zero, i.size, i.bytes)) = some (some (.string ByteArray.empty), 1, 16) := by kernel_rfl
theorem lp_ss : Tryz.prog.underlying 28 = some (.slice 9) := by kernel_rfl

set_option maxHeartbeats 2000000 in
set_option maxRecDepth 1000000 in
theorem path_nil {c : Nat} {A : Option Addr} {w : World} : Calls Tryz.prog 62 #[.slice A 0 c] w fun e w' => e = .returned (.string ⟨#[45]⟩) ∧ Below w.heap.size w w' := by
  go_enter Tryz.func62, Tryz.ntmps62
  go_wp2_with fail
  go_loopw [8, 3] (fun i v wr => i = .int .i64 0 ∧ v = .slice none 0 0 ∧ wr = w) (fun _ _ _ => 0)
  case atStart => exact ⟨rfl, rfl, rfl⟩
  case round =>
    obtain ⟨rfl, rfl, rfl⟩ := hrel
    go_wp2_with fail
    go_ret
    exact ⟨rfl, Below.refl _ _⟩

set_option maxHeartbeats 2000000 in
set_option maxRecDepth 1000000 in
theorem path_some {S : Nat → Prop} {c : Nat} {A : Option Addr} {p : List Int} {w : World} (h : IntsIn S w A p) (hp : 0 < p.length) (hp2 : p.length ≤ 549755813888) (htab : TabP w.heap.size w)
    (hlen : (Lib.join (p.map Lib.itoa) [46]).length ≤ 140737488355328) :
    Calls Tryz.prog 62 #[.slice A p.length c] w fun e w' => e = .returned (.string ⟨(Lib.join (p.map Lib.itoa) [46]).toArray⟩) ∧ Below w.heap.size w w' := by
  have H := hide h
  have HT := hide htab
  obtain ⟨i0, hi, hz0, hz1, hz2⟩ := info_parts lp_s
  have Hlen := hide hlen
  clear h htab hlen
  go_enter Tryz.func62, Tryz.ntmps62
  go_wp2_with fail
  go_loopw [8, 3] (fun i v wr => ∃ q : Nat, q ≤ p.length ∧ i = .int .i64 q ∧ Hid (wr.ownsRow w.heap.size 9 1 v q ((p.take q).map fun n => .string (itoaS n))) ∧ Hid (Below w.heap.size w wr)) (fun i _ _ => p.length - (intOf i).toNat)
  case atStart => exact ⟨0, Nat.zero_le _, rfl, hide (World.ownsRow_nil _ _ _ _), hide (Below.refl _ _)⟩
  case round =>
    obtain ⟨q, hq, rfl, HO, HB⟩ := hrel
    by_cases hlt : q < p.length
    · obtain ⟨b, o, rfl, hc⟩ := (H.out.below HB.out).1.at_ (j := q) (by simpa using hlt)
      simp only [List.getElem_map] at hc
      have hin := H.out.2.1 p[q] (List.getElem_mem hlt)
      have htk : p.take (q + 1) = p.take q ++ [p[q]] := by rw [List.take_succ_eq_append_getElem hlt]
      have Htk := hide htk
      clear htk
      generalize p[q] = s at hc hin Htk
      have Hin : Hid (-9223372036854775808 ≤ s ∧ s ≤ 9223372036854775807) := hide hin
      clear hin
      have HT2 : Hid (Lib.TabIs Tryz.prog wr "internal/strconv.uint64pow10" .u64 Lib.pow10Tab) := hide (HT.out.below HB.out).2
      go_wp2_with (first
        | (go_at_call 20; (with_reducible refine (Tryz.strconv_Itoa s Hin.out.1 Hin.out.2 _ HT2.out).mono ?_); rintro e1 w1 ⟨rfl, k1, os, rfl⟩; have hg := below_grow wr k1 os; generalize Go.Sort.grow (wr.drewN k1) os = w1 at hg; have hs1 := hg.size; have HO1 := hide (ownsRow_below HO.out hg); have HB1 : Hid (Below w.heap.size w w1) := hide (blw_up HB.out hg); have hsb := HB1.out.size; clear hg)
        | (at_builtin; refine wpList_append_own _ rfl _ _ 28 rfl w.heap.size 9 i0 (.string ByteArray.empty) 1 16 lp_ss hi hz0 hz1 hz2 rfl (by decide) _ _ _ rfl (HO1.out.alloc _) ⟨w1.heap.size, 0, none⟩ 1 1 [.string (itoaS s)] rfl rfl (cell_one_new _ _ _) (by intro u hu; simp at hu; subst hu; rfl) ?c3 ?c4 ?c5 ?_))
      case c3 => unfold maxLen; omega
      case c4 => omega
      case c5 => simp; omega
      intro v' w2 hown' hgrow _
      have HB2 : Hid (Below w.heap.size w w2) := hide ((HB1.out.alloc hsb _).grown hgrow (by simp; omega) (fun k hk => (HO1.out.lt k hk).1))
      have HO2 := hide hown'
      clear hown' hgrow
      go_wp2_with fail
      go_roundw
      case rel => exact ⟨q + 1, by omega, by go_num, hide (by have h5 := HO2.out; rw [← List.map_take] at h5; rw [Htk.out, List.map_append]; exact h5), HB2⟩
      case measure => simp [intOf]; omega
    · have hqe : q = p.length := by omega
      subst hqe
      have HO' := hide HO.out
      obtain ⟨g, cap, cur, rfl, hbg, hg, hnc, hcm, _⟩ : ∃ g cap cur, u3 = .slice (some ⟨g, 0, none⟩) p.length cap ∧ w.heap.size ≤ g ∧ wr.heap[g]? = some (.cells cur 9 (0, 0)) ∧ p.length ≤ cap ∧ cap ≤ maxLen ∧ True := by
        rcases HO.out.2 with ⟨_, hz⟩ | ⟨g, cap, cur, hv, h1, h2, h3, h4, _⟩
        · omega
        · exact ⟨g, cap, cur, hv, h1, h2, h3, h4, trivial⟩
      have hne : ((p.length : Int) == 0) = false := by rw [beq_eq_false_iff_ne]; omega
      have hne2 : ¬ p.length = 0 := by omega
      have Hcells : Hid (∀ (j : Nat) x, (p.map itoaS)[j]? = some x → wr.cell? ⟨g, 0 + j, none⟩ = some (.string x)) := hide (by
        intro j x hx
        have := HO'.out.cells (g := g) rfl j (.string x) (by
          rw [List.take_length, List.getElem?_map]
          rw [List.getElem?_map] at hx
          cases hh : p[j]? with
          | none => simp [hh] at hx
          | some y => simp [hh] at hx ⊢; exact hx)
        rwa [Addr.add_lit] at this)
      have hl : (p.map itoaS).length = p.length := by simp
      have hj : (p.map itoaS).map (·.data.toList) = p.map Lib.itoa := by simp [itoaS]
      have HJ : Hid (Calls Tryz.prog 89 #[.slice (some ⟨g, 0, none⟩) p.length cap, .string ⟨#[46]⟩] wr fun e w' => e = .returned (.string ⟨(Lib.join (p.map Lib.itoa) [46]).toArray⟩) ∧ Below wr.heap.size wr w') := hide (by
        have h1 := Tryz.strings_Join g 0 cap (p.map itoaS) ⟨#[46]⟩ wr Hcells.out (Array.getElem?_eq_some_iff.1 hg).1 (by rw [hl]; omega) (by rw [hl]; exact hnc) (by rw [hj]; exact Hlen.out)
        rw [hl, hj] at h1
        exact h1)
      go_wp2_with (go_at_call 89; (with_reducible refine HJ.out.mono ?_); rintro e3 w3 ⟨rfl, hB3⟩; have HB3 : Hid (Below w.heap.size w w3) := hide (blw_up HB.out hB3); clear hB3)
      go_ret
      exact ⟨rfl, HB3.out⟩

end Go.Proofs.YtadilmijppdpoaaGreatDoor

namespace Go.Proofs.YtadilmijppdpoaaGreatDoor
open Go.RowKit

abbrev EqV : World → Value → Value → Prop := fun _ v x => v = x
theorem eqv_stable (r : Nat) : Stable r EqV := fun _ _ _ _ _ h => h

section
variable {P : Program} {T K E : TypeId} {kd : IntKind} {w w0 wb : World} {r : Nat}
theorem upon_insert_val {o : Oper} {a : Act} {K' : Act → World → Prop} {Q : Exit → Act → World → Prop} {t : List (Int × Value)} {k : Int} {v : Value}
    (hd : o.dst = none) (ht : P.underlying T = some (.map K E)) (hK : P.underlying K = some (.int kd)) (hT : Tab EqV kd wb r t) (HB : Below r w0 wb) (hr : r ≤ w0.heap.size) (hn : t.find? (fun p => k == p.1) = none)
    (h : ∀ w', Hid (Tab EqV kd w' r (t ++ [(k, v)])) → Hid (Below r w0 w') → K' a w') :
    Oper.upon P o a K' Q (((Instr.mapUpdate T (.map (some r)) (.int kd k) v).run P wb).andThen fun _ w' => .ok .skip w') :=
  upon_insert_tab hd ht hK hT (eqv_stable r) (Below.refl _ _) rfl hn fun w' h1 h2 => h w' (hide h1) (hide (HB.grown h2 (Nat.le_trans hr HB.size) (by rintro k ⟨⟩; exact Nat.le_refl _)))
theorem run_lookup_val {t : List (Int × Value)} (hT : Tab EqV kd w r t) (ht : P.underlying T = some (.map K E)) (hK : P.underlying K = some (.int kd)) {k k' : Int} {v : Value} (hf : t.find? (fun p => k == p.1) = some (k', v)) :
    (Instr.lookup T (.map (some r)) (.int kd k) false).run P w = .ok v w := by
  obtain ⟨es, c, e1, e2⟩ := hT
  rcases e2.find k 0 with ⟨hn, _⟩ | ⟨k'', x, j, v', hf', hv, hn⟩
  · rw [hn] at hf; cases hf
  · rw [hf'] at hf
    injection hf with hf
    injection hf with _ hf
    subst hf
    have hv' : v' = x := hv
    subst hv'
    unfold Instr.lookup
    simp [Sem.run_bind, run_underlying ht, Result.andThen, MapKept.run_getObj_map e1, MapKept.run_checkKey hK (k := .int kd k) (by simp [MapKept.IsKey]) _ 9999, MapKept.run_findKey hK hn]
end

abbrev dotS (p : List Int) : ByteArray := ⟨(dotW p).toArray⟩
theorem path_any {S : Nat → Prop} {c : Nat} {A : Option Addr} {p : List Int} {w : World} (h : IntsIn S w A p) (hp2 : p.length ≤ 549755813888) (htab : TabP w.heap.size w) (hlen : (dotW p).length ≤ 140737488355328) :
    Calls Tryz.prog 62 #[.slice A p.length c] w fun e w' => e = .returned (.string (dotS p)) ∧ Below w.heap.size w w' := by
  by_cases hp : p = []
  · subst hp
    exact path_nil
  · have e : dotW p = Lib.join (p.map Lib.itoa) [46] := by unfold dotW; rw [if_neg hp]
    have := path_some (c := c) h (List.length_pos_iff.2 hp) hp2 htab (by rw [← e]; exact hlen)
    unfold dotS
    rw [e]
    exact this

def wayRows : List (Int × Value) := [(1, .func (.func 33) #[] #[]), (2, .func (.func 34) #[] #[]), (3, .func (.func 35) #[] #[]), (4, .func (.func 36) #[] #[])]

set_option maxHeartbeats 1000000 in
set_option maxRecDepth 1000000 in
theorem ways_any (w : World) : Calls Tryz.prog 17 #[] w fun e w' => e = .returned (.map (some w.heap.size)) ∧ Tab EqV .u8 w' w.heap.size wayRows ∧ Below w.heap.size w w' := by
  have hmm := @run_makeMap Tryz.prog
  have T : Hid (Tab EqV .u8 (w.alloc (.map #[] 0)) w.heap.size []) := hide (Tab.new w)
  have HB : Hid (Below w.heap.size w (w.alloc (.map #[] 0))) := hide (below_alloc w _)
  go_enter Tryz.func17, Tryz.ntmps17
  go_wp2_with fail
  generalize w.alloc (.map #[] 0) = wb at T HB ⊢
  go_wp2_with (first
    | ((with_reducible refine upon_insert_val ?_ Tryz.underlying61 Tryz.underlying27 T.out HB.out (Nat.le_refl _) ?_ ?_); exact rfl; exact rfl; clear T HB; intro w1 T HB))
  go_ret
  exact ⟨rfl, T.out, HB.out⟩

end Go.Proofs.YtadilmijppdpoaaGreatDoor

namespace Go.Proofs.YtadilmijppdpoaaGreatDoor
open Go.RowKit

theorem two_row (w : World) (ob : Obj) (s t : ByteArray) : StrRow ((w.alloc ob).alloc (.cells #[.string s, .string t] 9)) (some ⟨w.heap.size + 1, 0, none⟩) [s, t] :=
  .inr ⟨w.heap.size + 1, 0, _, _, rfl, (by have := heap_alloc_new (w.alloc ob) (.cells #[.string s, .string t] 9); simpa using this), fun j u hu => by
    rw [Nat.zero_add]
    have : (#[.string s, .string t] : Array Value)[j]? = ([s, t].map Value.string)[j]? := by simp
    rw [this, List.getElem?_map, hu]; rfl⟩
theorem box_kept {w w1 : World} {b : Nat} {cs ds : Array Value} {u : TypeId} (h : Lib.OthersKept 5 (some b) ((w.alloc (.cells cs 37)).alloc (.cells ds u)) w1) (hb : w.heap.size ≠ b) :
    w1.heap[w.heap.size]? = ((w.alloc (.cells cs 37)).alloc (.cells ds u)).heap[w.heap.size]? := by
  have e : ((w.alloc (.cells cs 37)).alloc (.cells ds u)).heap[w.heap.size]? = some (.cells cs 37) := by
    rw [Below.heap_alloc _ _ _ (by simp)]
    exact heap_alloc_new w _
  rw [e]
  exact h _ _ e (fun e => hb (Option.some.inj e)) (fun c fz e => by injection e with _ e2 _; exact absurd e2 (by decide))
theorem line_numbers_n {B b c n : Nat} {l : List UInt8} {A : Option Addr} {ns : List Int} {w : World} (h : IsLine B b (Lib.byteCells l) w) (hA : IntRow w A ns) (hn : ns.length = n) (hb : ∀ k o, A = some ⟨k, o, none⟩ → k ≠ b) (htab : TabP B w)
    (hlen : l.length + roomB (ns.map itoaS) ≤ 140737488355328) (hBw : B ≤ w.heap.size) (hbl : b < w.heap.size) (hns : n ≤ 9223372036854775807) :
    Calls Tryz.prog 61 #[.pointer (some ⟨b, 0, none⟩), .slice A n c] w fun e w' => e = .returned (.tuple #[]) ∧ IsLine B b (Lib.byteCells (putsB l (ns.map itoaS))) w' ∧ Below B w w' ∧ Lib.OthersKept 5 (some b) w w' := by
  subst hn
  exact line_numbers h hA hb htab hlen hBw hbl hns
theorem num_row1 (w : World) (a0 : Int) (h : ∀ n ∈ [a0], isInt64 n) : IntRow (w.alloc (.cells #[.int .i64 a0] 3)) (some ⟨w.heap.size, 0, none⟩) [a0] :=
  ⟨h, .inr ⟨w.heap.size, 0, _, _, rfl, heap_alloc_new w _, fun j u hu => by
    rw [Nat.zero_add]
    have : (#[.int .i64 a0] : Array Value)[j]? = ([a0].map (fun n => Value.int .i64 n))[j]? := by simp
    rw [this, List.getElem?_map, hu]; rfl⟩⟩
theorem num_row3 (w : World) (a0 a1 a2 : Int) (h : ∀ n ∈ [a0, a1, a2], isInt64 n) : IntRow (w.alloc (.cells #[.int .i64 a0, .int .i64 a1, .int .i64 a2] 3)) (some ⟨w.heap.size, 0, none⟩) [a0, a1, a2] :=
  ⟨h, .inr ⟨w.heap.size, 0, _, _, rfl, heap_alloc_new w _, fun j u hu => by
    rw [Nat.zero_add]
    have : (#[.int .i64 a0, .int .i64 a1, .int .i64 a2] : Array Value)[j]? = ([a0, a1, a2].map (fun n => Value.int .i64 n))[j]? := by simp
    rw [this, List.getElem?_map, hu]; rfl⟩⟩

set_option maxHeartbeats 2000000 in
set_option maxRecDepth 1000000 in
theorem line_add {S : Nat → Prop} {B b : Nat} {x : Ph} {p : Pt} {w : World} (h : IsLine B b (Lib.byteCells []) w) (hp : PtIn S w x p) (htab : TabP B w) (hBw : B ≤ w.heap.size) (hbl : b < w.heap.size)
    (hlen : roomB ([⟨#[97, 100, 100]⟩, p.file] ++ ([p.text.size] : List Int).map itoaS) ≤ 140737488355328) :
    Calls Tryz.prog 33 #[.pointer (some ⟨b, 0, none⟩), .agg #[.int .u8 p.kind, .string p.file, .string p.text, .int .i64 p.hunk.at_, .slice x.h.oA p.hunk.old.length x.h.oc, .slice x.h.nA p.hunk.new.length x.h.nc, .int .u8 p.edit.kind, .slice x.e.pA p.edit.path.length x.e.pc, .int .i64 p.edit.at_, .int .i64 p.edit.far, .string p.edit.frm, .string p.edit.to, .slice x.e.oA p.edit.old.len x.e.oc, .slice x.e.nA p.edit.new.len x.e.nc]] w fun e w' => e = .returned (.tuple #[]) ∧ IsLine B b (Lib.byteCells (putsB (putsB [] [⟨#[97, 100, 100]⟩, p.file]) (([p.text.size] : List Int).map itoaS))) w' ∧ Below B w w' ∧ Lib.OthersKept 5 (some b) w w' := by
  have H := hide h
  have Hp := hide hp
  have HT := hide htab
  have hr : roomB [⟨#[97, 100, 100]⟩, p.file] + roomB (([p.text.size] : List Int).map itoaS) ≤ 140737488355328 := by
    have e : roomB ([⟨#[97, 100, 100]⟩, p.file] ++ ([p.text.size] : List Int).map itoaS) = roomB [⟨#[97, 100, 100]⟩, p.file] + roomB (([p.text.size] : List Int).map itoaS) := by simp only [roomB, List.map_append, List.sum_append]
    omega
  have hl2 := putsB_len [⟨#[97, 100, 100]⟩, p.file] []
  have Hns : Hid (∀ n ∈ ([p.text.size] : List Int), isInt64 n) := hide (by
    have h1 := hp.text
    have h2 := hp.hunk.at_
    have h3 := hp.hunk.oc
    have h4 := hp.hunk.nc
    have h5 := hp.hunk.old.2.2
    have h6 := hp.hunk.new.2.2
    unfold isInt64 at h2 ⊢
    intro n hn
    simp only [List.mem_cons, List.not_mem_nil, or_false] at hn
    rcases hn with rfl <;> omega)
  have Hr := hide hr
  have Hl2 := hide hl2
  clear h hp htab hlen hr hl2
  go_enter Tryz.func33, Tryz.ntmps33
  go_wp2_with (first
    | (go_at_call 60; (with_reducible refine (line_put_n (n := 2) (l := []) (ws := [⟨#[97, 100, 100]⟩, p.file]) (H.out.below (below2 _ _)) (two_row _ _ _ _) rfl (by intro k o e; injection e with e; injection e with e1 _; omega) (by have := Hr.out; simp only [List.length_nil]; omega) (by simp; omega) (by simp)).mono ?_); rintro e1 w1 ⟨rfl, h1, hb1, hk1⟩; have H1 := hide h1; have HB1 : Hid (Below B w w1) := hide ((Below.alloc (Below.alloc (Below.refl _ _) hBw _) (by simp; omega) _).trans hb1); have HK1 : Hid (Lib.OthersKept 5 (some b) w w1) := hide (((Lib.OthersKept.refl _ _ w).alloc _ |>.alloc _).trans hk1); have hbox : ∀ o, w1.cell? ⟨w.heap.size, o, none⟩ = ((w.alloc (.cells #[.int .u8 p.kind, .string p.file, .string p.text, .int .i64 p.hunk.at_, .slice x.h.oA p.hunk.old.length x.h.oc, .slice x.h.nA p.hunk.new.length x.h.nc, .int .u8 p.edit.kind, .slice x.e.pA p.edit.path.length x.e.pc, .int .i64 p.edit.at_, .int .i64 p.edit.far, .string p.edit.frm, .string p.edit.to, .slice x.e.oA p.edit.old.len x.e.oc, .slice x.e.nA p.edit.new.len x.e.nc] 37)).alloc (.cells #[.string ⟨#[97, 100, 100]⟩, .string p.file] 9)).cell? ⟨w.heap.size, o, none⟩ := (fun o => World.cell?_of_block (a := ⟨w.heap.size, o, none⟩) (box_kept hk1 (by omega))); have hs1 := HB1.out.size; have hbl1 := Nat.lt_of_lt_of_le hbl hs1; have HT1 := hide (HT.out.below HB1.out); clear h1 hb1 hk1)
    | (go_at_call 61; (with_reducible refine (line_numbers_n (n := 1) (l := putsB [] [⟨#[97, 100, 100]⟩, p.file]) (ns := [p.text.size]) (H1.out.below (below_alloc _ _)) (num_row1 _ _ Hns.out) rfl (by intro k o e; injection e with e; injection e with e1 _; omega) (HT1.out.below (Below.alloc (Below.refl _ _) (Nat.le_trans hBw hs1) _)) (by have := Hr.out; have := Hl2.out; simp only [List.length_nil] at this; omega) (by simp; omega) (by simp; omega) (by simp)).mono ?_); rintro e2 w2 ⟨rfl, h2, hb2, hk2⟩; have H2 := hide h2; have HB2 := hide ((HB1.out.alloc (Nat.le_trans hBw hs1) _).trans hb2); have HK2 := hide ((HK1.out.alloc _).trans hk2); clear h2 hb2 hk2))
  go_end0
  exact ⟨rfl, H2.out, HB2.out, HK2.out⟩

set_option maxHeartbeats 2000000 in
set_option maxRecDepth 1000000 in
theorem line_remove {S : Nat → Prop} {B b : Nat} {x : Ph} {p : Pt} {w : World} (h : IsLine B b (Lib.byteCells []) w) (hp : PtIn S w x p) (htab : TabP B w) (hBw : B ≤ w.heap.size) (hbl : b < w.heap.size)
    (hlen : roomB ([⟨#[114, 101, 109, 111, 118, 101]⟩, p.file] ++ ([p.text.size] : List Int).map itoaS) ≤ 140737488355328) :
    Calls Tryz.prog 34 #[.pointer (some ⟨b, 0, none⟩), .agg #[.int .u8 p.kind, .string p.file, .string p.text, .int .i64 p.hunk.at_, .slice x.h.oA p.hunk.old.length x.h.oc, .slice x.h.nA p.hunk.new.length x.h.nc, .int .u8 p.edit.kind, .slice x.e.pA p.edit.path.length x.e.pc, .int .i64 p.edit.at_, .int .i64 p.edit.far, .string p.edit.frm, .string p.edit.to, .slice x.e.oA p.edit.old.len x.e.oc, .slice x.e.nA p.edit.new.len x.e.nc]] w fun e w' => e = .returned (.tuple #[]) ∧ IsLine B b (Lib.byteCells (putsB (putsB [] [⟨#[114, 101, 109, 111, 118, 101]⟩, p.file]) (([p.text.size] : List Int).map itoaS))) w' ∧ Below B w w' ∧ Lib.OthersKept 5 (some b) w w' := by
  have H := hide h
  have Hp := hide hp
  have HT := hide htab
  have hr : roomB [⟨#[114, 101, 109, 111, 118, 101]⟩, p.file] + roomB (([p.text.size] : List Int).map itoaS) ≤ 140737488355328 := by
    have e : roomB ([⟨#[114, 101, 109, 111, 118, 101]⟩, p.file] ++ ([p.text.size] : List Int).map itoaS) = roomB [⟨#[114, 101, 109, 111, 118, 101]⟩, p.file] + roomB (([p.text.size] : List Int).map itoaS) := by simp only [roomB, List.map_append, List.sum_append]
    omega
  have hl2 := putsB_len [⟨#[114, 101, 109, 111, 118, 101]⟩, p.file] []
  have Hns : Hid (∀ n ∈ ([p.text.size] : List Int), isInt64 n) := hide (by
    have h1 := hp.text
    have h2 := hp.hunk.at_
    have h3 := hp.hunk.oc
    have h4 := hp.hunk.nc
    have h5 := hp.hunk.old.2.2
    have h6 := hp.hunk.new.2.2
    unfold isInt64 at h2 ⊢
    intro n hn
    simp only [List.mem_cons, List.not_mem_nil, or_false] at hn
    rcases hn with rfl <;> omega)
  have Hr := hide hr
  have Hl2 := hide hl2
  clear h hp htab hlen hr hl2
  go_enter Tryz.func34, Tryz.ntmps34
  go_wp2_with (first
    | (go_at_call 60; (with_reducible refine (line_put_n (n := 2) (l := []) (ws := [⟨#[114, 101, 109, 111, 118, 101]⟩, p.file]) (H.out.below (below2 _ _)) (two_row _ _ _ _) rfl (by intro k o e; injection e with e; injection e with e1 _; omega) (by have := Hr.out; simp only [List.length_nil]; omega) (by simp; omega) (by simp)).mono ?_); rintro e1 w1 ⟨rfl, h1, hb1, hk1⟩; have H1 := hide h1; have HB1 : Hid (Below B w w1) := hide ((Below.alloc (Below.alloc (Below.refl _ _) hBw _) (by simp; omega) _).trans hb1); have HK1 : Hid (Lib.OthersKept 5 (some b) w w1) := hide (((Lib.OthersKept.refl _ _ w).alloc _ |>.alloc _).trans hk1); have hbox : ∀ o, w1.cell? ⟨w.heap.size, o, none⟩ = ((w.alloc (.cells #[.int .u8 p.kind, .string p.file, .string p.text, .int .i64 p.hunk.at_, .slice x.h.oA p.hunk.old.length x.h.oc, .slice x.h.nA p.hunk.new.length x.h.nc, .int .u8 p.edit.kind, .slice x.e.pA p.edit.path.length x.e.pc, .int .i64 p.edit.at_, .int .i64 p.edit.far, .string p.edit.frm, .string p.edit.to, .slice x.e.oA p.edit.old.len x.e.oc, .slice x.e.nA p.edit.new.len x.e.nc] 37)).alloc (.cells #[.string ⟨#[114, 101, 109, 111, 118, 101]⟩, .string p.file] 9)).cell? ⟨w.heap.size, o, none⟩ := (fun o => World.cell?_of_block (a := ⟨w.heap.size, o, none⟩) (box_kept hk1 (by omega))); have hs1 := HB1.out.size; have hbl1 := Nat.lt_of_lt_of_le hbl hs1; have HT1 := hide (HT.out.below HB1.out); clear h1 hb1 hk1)
    | (go_at_call 61; (with_reducible refine (line_numbers_n (n := 1) (l := putsB [] [⟨#[114, 101, 109, 111, 118, 101]⟩, p.file]) (ns := [p.text.size]) (H1.out.below (below_alloc _ _)) (num_row1 _ _ Hns.out) rfl (by intro k o e; injection e with e; injection e with e1 _; omega) (HT1.out.below (Below.alloc (Below.refl _ _) (Nat.le_trans hBw hs1) _)) (by have := Hr.out; have := Hl2.out; simp only [List.length_nil] at this; omega) (by simp; omega) (by simp; omega) (by simp)).mono ?_); rintro e2 w2 ⟨rfl, h2, hb2, hk2⟩; have H2 := hide h2; have HB2 := hide ((HB1.out.alloc (Nat.le_trans hBw hs1) _).trans hb2); have HK2 := hide ((HK1.out.alloc _).trans hk2); clear h2 hb2 hk2))
  go_end0
  exact ⟨rfl, H2.out, HB2.out, HK2.out⟩

set_option maxHeartbeats 2000000 in
set_option maxRecDepth 1000000 in
theorem line_lines {S : Nat → Prop} {B b : Nat} {x : Ph} {p : Pt} {w : World} (h : IsLine B b (Lib.byteCells []) w) (hp : PtIn S w x p) (htab : TabP B w) (hBw : B ≤ w.heap.size) (hbl : b < w.heap.size)
    (hlen : roomB ([⟨#[108, 105, 110, 101, 115]⟩, p.file] ++ ([p.hunk.at_, p.hunk.old.length, p.hunk.new.length] : List Int).map itoaS) ≤ 140737488355328) :
    Calls Tryz.prog 35 #[.pointer (some ⟨b, 0, none⟩), .agg #[.int .u8 p.kind, .string p.file, .string p.text, .int .i64 p.hunk.at_, .slice x.h.oA p.hunk.old.length x.h.oc, .slice x.h.nA p.hunk.new.length x.h.nc, .int .u8 p.edit.kind, .slice x.e.pA p.edit.path.length x.e.pc, .int .i64 p.edit.at_, .int .i64 p.edit.far, .string p.edit.frm, .string p.edit.to, .slice x.e.oA p.edit.old.len x.e.oc, .slice x.e.nA p.edit.new.len x.e.nc]] w fun e w' => e = .returned (.tuple #[]) ∧ IsLine B b (Lib.byteCells (putsB (putsB [] [⟨#[108, 105, 110, 101, 115]⟩, p.file]) (([p.hunk.at_, p.hunk.old.length, p.hunk.new.length] : List Int).map itoaS))) w' ∧ Below B w w' ∧ Lib.OthersKept 5 (some b) w w' := by
  have H := hide h
  have Hp := hide hp
  have HT := hide htab
  have hr : roomB [⟨#[108, 105, 110, 101, 115]⟩, p.file] + roomB (([p.hunk.at_, p.hunk.old.length, p.hunk.new.length] : List Int).map itoaS) ≤ 140737488355328 := by
    have e : roomB ([⟨#[108, 105, 110, 101, 115]⟩, p.file] ++ ([p.hunk.at_, p.hunk.old.length, p.hunk.new.length] : List Int).map itoaS) = roomB [⟨#[108, 105, 110, 101, 115]⟩, p.file] + roomB (([p.hunk.at_, p.hunk.old.length, p.hunk.new.length] : List Int).map itoaS) := by simp only [roomB, List.map_append, List.sum_append]
    omega
  have hl2 := putsB_len [⟨#[108, 105, 110, 101, 115]⟩, p.file] []
  have Hns : Hid (∀ n ∈ ([p.hunk.at_, p.hunk.old.length, p.hunk.new.length] : List Int), isInt64 n) := hide (by
    have h1 := hp.text
    have h2 := hp.hunk.at_
    have h3 := hp.hunk.oc
    have h4 := hp.hunk.nc
    have h5 := hp.hunk.old.2.2
    have h6 := hp.hunk.new.2.2
    unfold isInt64 at h2 ⊢
    intro n hn
    simp only [List.mem_cons, List.not_mem_nil, or_false] at hn
    rcases hn with rfl | rfl | rfl <;> omega)
  have Hr := hide hr
  have Hl2 := hide hl2
  clear h hp htab hlen hr hl2
  go_enter Tryz.func35, Tryz.ntmps35
  go_wp2_with (first
    | (go_at_call 60; (with_reducible refine (line_put_n (n := 2) (l := []) (ws := [⟨#[108, 105, 110, 101, 115]⟩, p.file]) (H.out.below (below2 _ _)) (two_row _ _ _ _) rfl (by intro k o e; injection e with e; injection e with e1 _; omega) (by have := Hr.out; simp only [List.length_nil]; omega) (by simp; omega) (by simp)).mono ?_); rintro e1 w1 ⟨rfl, h1, hb1, hk1⟩; have H1 := hide h1; have HB1 : Hid (Below B w w1) := hide ((Below.alloc (Below.alloc (Below.refl _ _) hBw _) (by simp; omega) _).trans hb1); have HK1 : Hid (Lib.OthersKept 5 (some b) w w1) := hide (((Lib.OthersKept.refl _ _ w).alloc _ |>.alloc _).trans hk1); have hbox : ∀ o, w1.cell? ⟨w.heap.size, o, none⟩ = ((w.alloc (.cells #[.int .u8 p.kind, .string p.file, .string p.text, .int .i64 p.hunk.at_, .slice x.h.oA p.hunk.old.length x.h.oc, .slice x.h.nA p.hunk.new.length x.h.nc, .int .u8 p.edit.kind, .slice x.e.pA p.edit.path.length x.e.pc, .int .i64 p.edit.at_, .int .i64 p.edit.far, .string p.edit.frm, .string p.edit.to, .slice x.e.oA p.edit.old.len x.e.oc, .slice x.e.nA p.edit.new.len x.e.nc] 37)).alloc (.cells #[.string ⟨#[108, 105, 110, 101, 115]⟩, .string p.file] 9)).cell? ⟨w.heap.size, o, none⟩ := (fun o => World.cell?_of_block (a := ⟨w.heap.size, o, none⟩) (box_kept hk1 (by omega))); have hs1 := HB1.out.size; have hbl1 := Nat.lt_of_lt_of_le hbl hs1; have HT1 := hide (HT.out.below HB1.out); clear h1 hb1 hk1)
    | (go_at_call 61; (with_reducible refine (line_numbers_n (n := 3) (l := putsB [] [⟨#[108, 105, 110, 101, 115]⟩, p.file]) (ns := [p.hunk.at_, p.hunk.old.length, p.hunk.new.length]) (H1.out.below (below_alloc _ _)) (num_row3 _ _ _ _ Hns.out) rfl (by intro k o e; injection e with e; injection e with e1 _; omega) (HT1.out.below (Below.alloc (Below.refl _ _) (Nat.le_trans hBw hs1) _)) (by have := Hr.out; have := Hl2.out; simp only [List.length_nil] at this; omega) (by simp; omega) (by simp; omega) (by simp)).mono ?_); rintro e2 w2 ⟨rfl, h2, hb2, hk2⟩; have H2 := hide h2; have HB2 := hide ((HB1.out.alloc (Nat.le_trans hBw hs1) _).trans hb2); have HK2 := hide ((HK1.out.alloc _).trans hk2); clear h2 hb2 hk2))
  go_end0
  exact ⟨rfl, H2.out, HB2.out, HK2.out⟩

end Go.Proofs.YtadilmijppdpoaaGreatDoor
