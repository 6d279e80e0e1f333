/- The arguments' readings say what lies in memory. -/
import Derived.Test.YtfhfkbdaglegpaaGreatDoorRows
import Derived.ChangeSlices
import Derived.SliceStrings
import Derived.Test.YtfhfkbdaglegpaaGreatDoorGBase

set_option linter.unusedVariables false
set_option linter.unusedSimpArgs false

namespace Go.Proofs.YtfhfkbdaglegpaaGreatDoor
open Go.RowKit Go.ChangeShapes Go.WideShapes

theorem u8_min : IntKind.u8.min = 0 := by rfl
theorem u8_max : IntKind.u8.max = 255 := by rfl
theorem wf_u8 {n : Int} (h : (Lit.int .u8 n).wf = true) : ∃ k : Nat, n = (k : Int) ∧ k < 256 := by
  simp only [Lit.wf, Bool.and_eq_true, decide_eq_true_eq, IntKind.has, u8_min, u8_max] at h
  exact ⟨n.toNat, by omega, by omega⟩
theorem row_rd {w : World} {a : Addr} {vs : List Value} (h : ∀ (i : Nat) u, vs[i]? = some u → w.cell? (a.add i) = some u) : Rd (fun _ => True) w (some a) vs := by
  rcases vs with _ | ⟨v, vs⟩
  · exact .inl rfl
  · have h0 : w.cell? a = some v := by have := h 0 v rfl; simpa [Addr.add] using this
    obtain ⟨b, o, sp⟩ := a
    cases sp with
    | some k => exfalso; unfold World.cell? at h0; split at h0 <;> simp at h0
    | none => exact .inr ⟨b, o, rfl, trivial, fun j u hu => by have := h j u hu; rwa [Addr.add_lit] at this⟩

section
variable {P : Program} {H : Type} {enc : TypeId × Value → H} {w : World} {spare : Nat → Bool} {held : Bool} {t e : TypeId} {fuel : Nat} {cs : List Value} {x : DataW H × List MemPlace}
theorem bytes_in (ht : P.underlying t = some (.slice e)) (he : P.underlying e = some (.int .u8)) (hc : P.cellsOf e = 1) (h : DataW.trod enc P w 0 spare held fuel t cs = some x) :
    ∃ A l c, cs = [.slice A l.length c] ∧ BytesIn (fun _ => True) w A l ∧ l.length ≤ c ∧ c ≤ 9223372036854775807 ∧ (A = none → l.length = 0 ∧ c = 0) := by
  rcases open_ints ht he hc h with ⟨rfl, rfl⟩ | ⟨a, len, cap, ss, rfl, _, hl, hm, hss, rfl, hcell, hsz⟩
  · exact ⟨none, [], 0, rfl, ⟨.inl rfl, by simp⟩, by simp, by simp, by simp⟩
  · have hle : len ≤ ss.length := by rw [hss]; split <;> omega
    have hm' : cap ≤ 9223372036854775807 := by unfold maxLen at hm; omega
    have hlen : ((ss.take len).map fun z => UInt8.ofNat z.toNat).length = len := by simp; omega
    refine ⟨some a, (ss.take len).map fun z => UInt8.ofNat z.toNat, cap, by rw [hlen], ⟨row_rd ?_, by omega⟩, by omega, hm', by simp⟩
    intro i u hu
    have hi : i < len := by have := (List.getElem?_eq_some_iff.1 hu).1; simp [bytesV] at this; omega
    have h1 := hcell i (by omega)
    rw [h1]
    have h2 : ss[i]? = some ss[i] := by simp [show i < ss.length by omega]
    obtain ⟨z, hz, hz2⟩ := wf_u8 (hsz ss[i] (List.getElem_mem _))
    simp only [bytesV, List.map_map, List.getElem?_map, List.getElem?_take, if_pos hi, h2, Option.map_some, Option.some.injEq, Function.comp] at hu
    rw [← hu, List.getD, h2]
    have h6 : ((UInt8.ofNat ss[i].toNat).toNat : Int) = ss[i] := by
      rw [hz, Int.toNat_natCast, UInt8.toNat_ofNat']
      omega
    simp only [Option.getD_some, h6]
end

end Go.Proofs.YtfhfkbdaglegpaaGreatDoor

namespace Go.Proofs.YtfhfkbdaglegpaaGreatDoor
open Go.RowKit Go.ChangeShapes Go.WideShapes

theorem c_u8 : Tryz.prog.cellsOf 5 = 1 := by kernel_rfl
theorem u_u8 : Tryz.prog.underlying 5 = some (.int .u8) := by kernel_rfl
theorem u_bytes : Tryz.prog.underlying 36 = some (.slice 5) := by kernel_rfl

section
variable {H : Type} {enc : TypeId × Value → H} {w : World} {spare : Nat → Bool} {held : Bool}
theorem nodes_len (f : Fo) : (nodesB f).length = 8 + (foB f).length := by
  have h8 : ∀ n : Int, (num8 n).length = 8 := fun n => rfl
  simp only [nodesB, List.length_append, h8]
theorem foB_size (k : Nat) (t : ByteArray) (n : Int) (ks r : Fo) : (foB (.cons k t n ks r)).length = 25 + t.size + (foB ks).length + (foB r).length := by
  have h8 : ∀ n : Int, (num8 n).length = 8 := fun n => rfl
  have hs : t.data.toList.length = t.size := rfl
  simp only [foB, txtB, List.length_cons, List.length_append, h8, hs]
  omega

end

end Go.Proofs.YtfhfkbdaglegpaaGreatDoor

namespace Go.Proofs.YtfhfkbdaglegpaaGreatDoor
open Go.RowKit Go.ChangeShapes Go.WideShapes

section
variable {H : Type} {enc : TypeId × Value → H} {w : World} {spare : Nat → Bool} {held : Bool}
theorem n8 : ∀ n : Int, (num8 n).length = 8 := fun n => rfl
theorem txt_len (t : ByteArray) : (txtB t).length = 8 + t.size := by
  have hs : t.data.toList.length = t.size := rfl
  simp only [txtB, List.length_append, n8, hs]
end

end Go.Proofs.YtfhfkbdaglegpaaGreatDoor

namespace Go.Proofs.YtfhfkbdaglegpaaGreatDoor
open Go.RowKit Go.ChangeShapes Go.WideShapes

section
variable {H : Type} {enc : TypeId × Value → H} {w : World} {spare : Nat → Bool} {held : Bool}
end

end Go.Proofs.YtfhfkbdaglegpaaGreatDoor

namespace Go.Proofs.YtfhfkbdaglegpaaGreatDoor
open Go.RowKit Go.ChangeShapes Go.WideShapes

/-- how much a patch holds in all, whatever its kind -/
def ptAll (p : Pt) : Nat := p.file.size + p.text.size + (txtsB p.hunk.old).length + (txtsB p.hunk.new).length + (edB p.edit).length
section
variable {H : Type} {enc : TypeId × Value → H} {w : World} {spare : Nat → Bool} {held : Bool}
end
theorem foB_cnt : ∀ f : Fo, 25 * f.cnt ≤ (foB f).length
  | .nil => by simp [Fo.cnt, foB]
  | .cons k t n ks r => by
    have h1 := foB_cnt ks
    have h2 := foB_cnt r
    rw [foB_size, Fo.cnt]
    omega
theorem txtsB_rows : ∀ l : List ByteArray, 8 * l.length + 8 ≤ (txtsB l).length := by
  intro l
  have h : ∀ l : List ByteArray, 8 * l.length ≤ ((l.map txtB).flatten).length := by
    intro l
    induction l with
    | nil => simp
    | cons s r ih => simp only [List.map_cons, List.flatten_cons, List.length_append, List.length_cons, txt_len]; omega
  have := h l
  simp only [txtsB, List.length_append, n8]
  omega
theorem pathB_rows : ∀ l : List Int, (pathB l).length = 8 + 8 * l.length := by
  intro l
  have h : ∀ l : List Int, ((l.map num8).flatten).length = 8 * l.length := by
    intro l
    induction l with
    | nil => simp
    | cons s r ih => simp only [List.map_cons, List.flatten_cons, List.length_append, List.length_cons, n8, ih]; omega
  simp only [pathB, List.length_append, n8, h]
theorem pt_small {p : Pt} {M : Nat} (h : ptAll p ≤ M) : p.hunk.old.length ≤ M ∧ p.hunk.new.length ≤ M ∧ p.edit.path.length ≤ M ∧ p.edit.old.cnt ≤ M ∧ p.edit.new.cnt ≤ M := by
  have h1 := txtsB_rows p.hunk.old
  have h2 := txtsB_rows p.hunk.new
  have h3 := pathB_rows p.edit.path
  have h4 := foB_cnt p.edit.old
  have h5 := foB_cnt p.edit.new
  have h6 := nodes_len p.edit.old
  have h7 := nodes_len p.edit.new
  have h8 : (edB p.edit).length = 1 + (pathB p.edit.path).length + 16 + (8 + p.edit.frm.size) + (8 + p.edit.to.size) + (nodesB p.edit.old).length + (nodesB p.edit.new).length := by
    simp only [edB, List.length_cons, List.length_append, n8, txt_len]
    omega
  unfold ptAll at h
  refine ⟨?_, ?_, ?_, ?_, ?_⟩ <;> omega

end Go.Proofs.YtfhfkbdaglegpaaGreatDoor
