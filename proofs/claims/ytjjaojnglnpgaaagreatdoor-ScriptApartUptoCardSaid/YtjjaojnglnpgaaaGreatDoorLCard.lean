/- The arguments' readings: an answer. Printed by gen_scrcard.py. -/
import Derived.Test.YtjjaojnglnpgaaaGreatDoorLOpen
import Derived.Test.YtjjaojnglnpgaaaGreatDoorLTell

set_option linter.unusedVariables false
set_option linter.unusedSimpArgs false

namespace Go.Proofs.YtjjaojnglnpgaaaGreatDoor
open Go.RowKit Go.ChangeShapes Go.WideShapes

theorem bulk_strs2 {H : Type} : ∀ ss : List ByteArray, (ss.map fun s => s.size + 1).sum = Rows.uptoBulkAll (H := H) (strs ss)
  | [] => rfl
  | s :: ss => by
    have h := bulk_strs2 (H := H) ss
    have e : strs (H := H) (s :: ss) = .lit (.string s.data.toList) :: strs ss := rfl
    rw [e]
    simp only [Rows.uptoBulkAll, bulk_str, List.map_cons, List.sum_cons, h]
section
variable {P : Program} {H : Type} {enc : TypeId × Value → H} {w : World} {spare : Nat → Bool} {held : Bool} {t e : TypeId} {fuel : Nat} {cs : List Value} {x : DataW H × List MemPlace}
theorem strs_in2 (ht : P.underlying t = some (.slice e)) (he : P.underlying e = some .string) (hc : P.cellsOf e = 1) (h : DataW.trod enc P w 0 spare held fuel t cs = some x) :
    ∃ A l c, cs = [.slice A l.length c] ∧ StrsIn (fun _ => True) w A l ∧ l.length ≤ c ∧ c ≤ 9223372036854775807 ∧ (l.map fun s => s.size + 1).sum ≤ Rows.uptoBulk x.1 := by
  have h8 : ∀ n : Int, (num8 n).length = 8 := fun n => rfl
  rcases open_strings ht he hc h with ⟨rfl, rfl⟩ | ⟨a, len, cap, ss, rfl, _, hl, hm, hss, rfl, hcell, hsz⟩
  · exact ⟨none, [], 0, rfl, ⟨.inl rfl, by simp, by simp⟩, by simp, by simp, by simp⟩
  · have hle : len ≤ ss.length := by rw [hss]; split <;> omega
    have hlen : (ss.take len).length = len := by simp; omega
    have hm' : cap ≤ 9223372036854775807 := by unfold maxLen at hm; omega
    refine ⟨some a, ss.take len, cap, by rw [hlen], ⟨row_rd ?_, ?_, by omega⟩, by omega, hm', ?_⟩
    · intro i u hu
      have hi : i < len := by have := (List.getElem?_eq_some_iff.1 hu).1; simp at this; omega
      have h1 := hcell i (by omega)
      rw [h1]
      have h2 : ss[i]? = some ss[i] := by simp [show i < ss.length by omega]
      rw [List.getElem?_map, List.getElem?_take, if_pos hi, h2] at hu
      injection hu with hu
      rw [← hu, List.getD, h2]
      rfl
    · intro s hs
      have := hsz s (List.mem_of_mem_take hs)
      unfold maxLen at this
      omega
    · have h1 := bulk_strs2 (H := H) (ss.take len)
      have h2 := bulk_slice (H := H) (strs (ss.take len)) (strs (ss.drop len))
      exact Nat.le_trans (Nat.le_of_eq h1) (Nat.le_of_succ_le h2)
theorem bytes_in2 (ht : P.underlying t = some (.slice e)) (he : P.underlying e = some (.int .u8)) (hc : P.cellsOf e = 1) (h : DataW.trod enc P w 0 spare held fuel t cs = some x) :
    ∃ A l c, cs = [.slice A l.length c] ∧ BytesIn (fun _ => True) w A l ∧ l.length ≤ c ∧ c ≤ 9223372036854775807 ∧ l.length ≤ Rows.uptoBulk x.1 := by
  rcases open_ints ht he hc h with ⟨rfl, rfl⟩ | ⟨a, len, cap, ss, rfl, _, hl, hm, hss, rfl, hcell, hsz⟩
  · exact ⟨none, [], 0, rfl, ⟨.inl rfl, by simp⟩, by simp, by simp, by simp⟩
  · have hle : len ≤ ss.length := by rw [hss]; split <;> omega
    have hm' : cap ≤ 9223372036854775807 := by unfold maxLen at hm; omega
    have hlen : ((ss.take len).map fun z => UInt8.ofNat z.toNat).length = len := by simp; omega
    refine ⟨some a, (ss.take len).map fun z => UInt8.ofNat z.toNat, cap, by rw [hlen], ⟨row_rd ?_, by omega⟩, by omega, hm', by
      have h1 := bulk_lits (H := H) (k := .u8) (ss.take len)
      have h2 := bulk_slice (H := H) (lits .u8 (ss.take len)) (lits .u8 (ss.drop len))
      exact Nat.le_trans (Nat.le_trans (Nat.le_of_eq (List.length_map _)) h1) (Nat.le_of_succ_le h2)⟩
    intro i u hu
    have hi : i < len := by have := (List.getElem?_eq_some_iff.1 hu).1; simp [bytesV] at this; omega
    have h1 := hcell i (by omega)
    rw [h1]
    have h2 : ss[i]? = some ss[i] := by simp [show i < ss.length by omega]
    obtain ⟨z, hz, hz2⟩ := wf_u8 (hsz ss[i] (List.getElem_mem _))
    simp only [bytesV, List.map_map, List.getElem?_map, List.getElem?_take, if_pos hi, h2, Option.map_some, Option.some.injEq, Function.comp] at hu
    rw [← hu, List.getD, h2]
    have h6 : ((UInt8.ofNat ss[i].toNat).toNat : Int) = ss[i] := by
      rw [hz, Int.toNat_natCast, UInt8.toNat_ofNat']
      omega
    simp only [Option.getD_some, h6]

end
theorem u_err : Tryz.prog.underlying 24 = some (.int .i64) := by kernel_rfl
theorem c_err : Tryz.prog.cellsOf 24 = 1 := by kernel_rfl
theorem c_byt : Tryz.prog.cellsOf 44 = 1 := by kernel_rfl
theorem c_ans : Tryz.prog.cellsOf 53 = 4 := by kernel_rfl
section
variable {H : Type} {enc : TypeId × Value → H} {w : World} {spare : Nat → Bool} {held : Bool}
theorem an_in {m : Nat} {cs : List Value} {x : DataW H × List MemPlace} (h : DataW.trod enc Tryz.prog w 0 spare held m 53 cs = some x) :
    ∃ (xx : Ah) (a : An), cs = [.int .i64 a.err, .slice xx.nA a.names.length xx.nc, .string a.text, .slice xx.bA a.bytes.length xx.bc] ∧ AnIn (fun _ => True) w xx a ∧ a.bulk ≤ Rows.uptoBulk x.1 := by
  obtain ⟨xs, n, rfl, rfl, hl, hlen, hf⟩ := DataW.trod_struct Tryz.underlying53 h
  rw [c_ans] at hl
  obtain ⟨c0, c1, c2, c3, rfl⟩ := list4 hl
  obtain ⟨y0, y1, y2, y3, rfl⟩ := list4 hlen
  have f0 : DataW.trod enc Tryz.prog w 0 spare held n 24 (List.take (Tryz.prog.cellsOf 24) (List.drop 0 [c0, c1, c2, c3])) = some y0 := hf 0 _ rfl
  rw [c_err] at f0
  have f0 : DataW.trod enc Tryz.prog w 0 spare held n 24 [c0] = some y0 := f0
  have f1 : DataW.trod enc Tryz.prog w 0 spare held n 34 (List.take (Tryz.prog.cellsOf 34) (List.drop 1 [c0, c1, c2, c3])) = some y1 := hf 1 _ rfl
  rw [c_strs] at f1
  have f1 : DataW.trod enc Tryz.prog w 0 spare held n 34 [c1] = some y1 := f1
  have f2 : DataW.trod enc Tryz.prog w 0 spare held n 9 (List.take (Tryz.prog.cellsOf 9) (List.drop 2 [c0, c1, c2, c3])) = some y2 := hf 2 _ rfl
  rw [c_str] at f2
  have f2 : DataW.trod enc Tryz.prog w 0 spare held n 9 [c2] = some y2 := f2
  have f3 : DataW.trod enc Tryz.prog w 0 spare held n 44 (List.take (Tryz.prog.cellsOf 44) (List.drop 3 [c0, c1, c2, c3])) = some y3 := hf 3 _ rfl
  rw [c_byt] at f3
  have f3 : DataW.trod enc Tryz.prog w 0 spare held n 44 [c3] = some y3 := f3
  obtain ⟨k, e0, hx0, w0⟩ := DataW.trod_int u_err f0
  obtain ⟨A1, l1, k1, e1, g1, g2, g3, g4⟩ := strs_in2 u_strs u_str c_str f1
  obtain ⟨tx, e2, hx2, w2⟩ := DataW.trod_string u_str f2
  obtain ⟨A3, l3, k3, e3, i1, i2, i3, i4⟩ := bytes_in2 u_bytes u_u8 c_u8 f3
  injection e0 with e0
  injection e1 with e1
  injection e2 with e2
  injection e3 with e3
  subst e0 e1 e2 e3 hx0 hx2
  refine ⟨⟨A1, k1, A3, k3⟩, ⟨k, l1, tx, l3⟩, rfl, ⟨wf_i64 w0, g1, sz63 w2, i1, ⟨g2, g3⟩, ⟨i2, i3⟩⟩, ?_⟩
  simp only [An.bulk, List.map_cons, List.map_nil, Rows.uptoBulk, Rows.uptoBulkAll, bulk_str] at g4 i4 ⊢
  have htx : tx.data.toList.length = tx.size := rfl
  omega
end

end Go.Proofs.YtjjaojnglnpgaaaGreatDoor
