/- The arguments' readings say what lies in memory. -/
import Derived.Test.YtjjaojnglnpgaaaGreatDoorRows
import Derived.ChangeSlices
import Derived.SliceStrings
import Derived.Test.YtjjaojnglnpgaaaGreatDoorLBase

set_option linter.unusedVariables false
set_option linter.unusedSimpArgs false

namespace Go.Proofs.YtjjaojnglnpgaaaGreatDoor
open Go.RowKit Go.ChangeShapes Go.WideShapes

theorem bulk_one {H : Type} (d : DataW H) : 1 ≤ Rows.uptoBulk d := by
  cases d with
  | lit l => cases l <;> simp [Rows.uptoBulk]
  | nil => simp [Rows.uptoBulk]
  | ptr d => simp [Rows.uptoBulk]
  | slice elems spare => simp [Rows.uptoBulk]
  | agg parts => simp [Rows.uptoBulk]
  | iface t d => simp [Rows.uptoBulk]
  | map entries => simp [Rows.uptoBulk]
  | held h => simp [Rows.uptoBulk]
theorem bulk_str {H : Type} (s : ByteArray) : Rows.uptoBulk (DataW.lit (H := H) (.string s.data.toList)) = s.size + 1 := by
  have : s.data.toList.length = s.size := rfl
  simp [Rows.uptoBulk, this]
theorem bulk_slice {H : Type} (es sp : List (DataW H)) : Rows.uptoBulkAll es + 1 ≤ Rows.uptoBulk (.slice es sp) := by
  simp only [Rows.uptoBulk]
  omega
theorem bulk_strs {H : Type} : ∀ ss : List ByteArray, 8 * ss.length + ((ss.map txtB).flatten).length ≤ 16 * Rows.uptoBulkAll (H := H) (strs ss)
  | [] => Nat.zero_le _
  | s :: ss => by
    have h := bulk_strs (H := H) ss
    have e : strs (H := H) (s :: ss) = .lit (.string s.data.toList) :: strs ss := rfl
    have h8 : ∀ n : Int, (num8 n).length = 8 := fun n => rfl
    have hs : s.data.toList.length = s.size := rfl
    rw [e]
    simp only [Rows.uptoBulkAll, bulk_str, List.length_cons, List.map_cons, List.flatten_cons, List.length_append, txtB, h8, hs]
    omega
theorem bulk_lits {H : Type} {k : IntKind} : ∀ zs : List Int, zs.length ≤ Rows.uptoBulkAll (H := H) (lits k zs)
  | [] => Nat.zero_le _
  | z :: zs => by
    have h := bulk_lits (H := H) (k := k) zs
    have e : lits (H := H) k (z :: zs) = .lit (.int k z) :: lits k zs := rfl
    have := bulk_one (H := H) (.lit (.int k z))
    rw [e]
    simp only [Rows.uptoBulkAll, List.length_cons]
    omega
theorem path_len (l : List Int) : (pathB l).length = 8 + 8 * l.length := by
  have h8 : ∀ n : Int, (num8 n).length = 8 := fun n => rfl
  have : ∀ l : List Int, ((l.map num8).flatten).length = 8 * l.length := by
    intro l
    induction l with
    | nil => rfl
    | cons z l ih => simp only [List.map_cons, List.flatten_cons, List.length_append, h8, ih, List.length_cons]; omega
  simp only [pathB, List.length_append, h8, this]

theorem i64_min : IntKind.i64.min = -9223372036854775808 := by rfl
theorem i64_max : IntKind.i64.max = 9223372036854775807 := by rfl
theorem u8_min : IntKind.u8.min = 0 := by rfl
theorem u8_max : IntKind.u8.max = 255 := by rfl
theorem wf_u8 {n : Int} (h : (Lit.int .u8 n).wf = true) : ∃ k : Nat, n = (k : Int) ∧ k < 256 := by
  simp only [Lit.wf, Bool.and_eq_true, decide_eq_true_eq, IntKind.has, u8_min, u8_max] at h
  exact ⟨n.toNat, by omega, by omega⟩
theorem wf_i64 {n : Int} (h : (Lit.int .i64 n).wf = true) : isInt64 n := by
  simp only [Lit.wf, Bool.and_eq_true, decide_eq_true_eq, IntKind.has, i64_min, i64_max] at h
  exact h
theorem sz63 {n : Nat} (h : n ≤ maxLen) : n ≤ 9223372036854775807 := by unfold maxLen at h; omega

theorem row_rd {w : World} {a : Addr} {vs : List Value} (h : ∀ (i : Nat) u, vs[i]? = some u → w.cell? (a.add i) = some u) : Rd (fun _ => True) w (some a) vs := by
  rcases vs with _ | ⟨v, vs⟩
  · exact .inl rfl
  · have h0 : w.cell? a = some v := by have := h 0 v rfl; simpa [Addr.add] using this
    obtain ⟨b, o, sp⟩ := a
    cases sp with
    | some k => exfalso; unfold World.cell? at h0; split at h0 <;> simp at h0
    | none => exact .inr ⟨b, o, rfl, trivial, fun j u hu => by have := h j u hu; rwa [Addr.add_lit] at this⟩

section
variable {P : Program} {H : Type} {enc : TypeId × Value → H} {w : World} {spare : Nat → Bool} {held : Bool} {t e : TypeId} {fuel : Nat} {cs : List Value} {x : DataW H × List MemPlace}
theorem strs_in (ht : P.underlying t = some (.slice e)) (he : P.underlying e = some .string) (hc : P.cellsOf e = 1) (h : DataW.trod enc P w 0 spare held fuel t cs = some x) :
    ∃ A l c, cs = [.slice A l.length c] ∧ StrsIn (fun _ => True) w A l ∧ l.length ≤ c ∧ c ≤ 9223372036854775807 ∧ (txtsB l).length ≤ 16 * Rows.uptoBulk x.1 := by
  have h8 : ∀ n : Int, (num8 n).length = 8 := fun n => rfl
  rcases open_strings ht he hc h with ⟨rfl, rfl⟩ | ⟨a, len, cap, ss, rfl, _, hl, hm, hss, rfl, hcell, hsz⟩
  · exact ⟨none, [], 0, rfl, ⟨.inl rfl, by simp, by simp⟩, by simp, by simp, by simp [txtsB, h8, Rows.uptoBulk]⟩
  · have hle : len ≤ ss.length := by rw [hss]; split <;> omega
    have hlen : (ss.take len).length = len := by simp; omega
    have hm' : cap ≤ 9223372036854775807 := by unfold maxLen at hm; omega
    refine ⟨some a, ss.take len, cap, by rw [hlen], ⟨row_rd ?_, ?_, by omega⟩, by omega, hm', ?_⟩
    · intro i u hu
      have hi : i < len := by have := (List.getElem?_eq_some_iff.1 hu).1; simp at this; omega
      have h1 := hcell i (by omega)
      rw [h1]
      have h2 : ss[i]? = some ss[i] := by simp [show i < ss.length by omega]
      rw [List.getElem?_map, List.getElem?_take, if_pos hi, h2] at hu
      injection hu with hu
      rw [← hu, List.getD, h2]
      rfl
    · intro s hs
      have := hsz s (List.mem_of_mem_take hs)
      unfold maxLen at this
      omega
    · have h1 := bulk_strs (H := H) (ss.take len)
      have h2 := bulk_slice (H := H) (strs (ss.take len)) (strs (ss.drop len))
      simp only [txtsB, List.length_append, h8]
      omega
theorem ints_in (ht : P.underlying t = some (.slice e)) (he : P.underlying e = some (.int .i64)) (hc : P.cellsOf e = 1) (h : DataW.trod enc P w 0 spare held fuel t cs = some x) :
    ∃ A l c, cs = [.slice A l.length c] ∧ IntsIn (fun _ => True) w A l ∧ l.length ≤ c ∧ c ≤ 9223372036854775807 ∧ (pathB l).length ≤ 16 * Rows.uptoBulk x.1 := by
  rcases open_ints ht he hc h with ⟨rfl, rfl⟩ | ⟨a, len, cap, ss, rfl, _, hl, hm, hss, rfl, hcell, hsz⟩
  · exact ⟨none, [], 0, rfl, ⟨.inl rfl, by simp, by simp⟩, by simp, by simp, by simp [path_len, Rows.uptoBulk]⟩
  · have hle : len ≤ ss.length := by rw [hss]; split <;> omega
    have hlen : (ss.take len).length = len := by simp; omega
    have hm' : cap ≤ 9223372036854775807 := by unfold maxLen at hm; omega
    refine ⟨some a, ss.take len, cap, by rw [hlen], ⟨row_rd ?_, ?_, by omega⟩, by omega, hm', ?_⟩
    · intro i u hu
      have hi : i < len := by have := (List.getElem?_eq_some_iff.1 hu).1; simp at this; omega
      have h1 := hcell i (by omega)
      rw [h1]
      have h2 : ss[i]? = some ss[i] := by simp [show i < ss.length by omega]
      rw [List.getElem?_map, List.getElem?_take, if_pos hi, h2] at hu
      injection hu with hu
      rw [← hu, List.getD, h2]
      rfl
    · intro s hs
      exact wf_i64 (hsz s (List.mem_of_mem_take hs))
    · have h1 := bulk_lits (H := H) (k := .i64) (ss.take len)
      have h2 := bulk_slice (H := H) (lits .i64 (ss.take len)) (lits .i64 (ss.drop len))
      rw [path_len]
      dsimp only
      omega
theorem bytes_in (ht : P.underlying t = some (.slice e)) (he : P.underlying e = some (.int .u8)) (hc : P.cellsOf e = 1) (h : DataW.trod enc P w 0 spare held fuel t cs = some x) :
    ∃ A l c, cs = [.slice A l.length c] ∧ BytesIn (fun _ => True) w A l ∧ l.length ≤ c ∧ c ≤ 9223372036854775807 ∧ (A = none → l.length = 0 ∧ c = 0) := by
  rcases open_ints ht he hc h with ⟨rfl, rfl⟩ | ⟨a, len, cap, ss, rfl, _, hl, hm, hss, rfl, hcell, hsz⟩
  · exact ⟨none, [], 0, rfl, ⟨.inl rfl, by simp⟩, by simp, by simp, by simp⟩
  · have hle : len ≤ ss.length := by rw [hss]; split <;> omega
    have hm' : cap ≤ 9223372036854775807 := by unfold maxLen at hm; omega
    have hlen : ((ss.take len).map fun z => UInt8.ofNat z.toNat).length = len := by simp; omega
    refine ⟨some a, (ss.take len).map fun z => UInt8.ofNat z.toNat, cap, by rw [hlen], ⟨row_rd ?_, by omega⟩, by omega, hm', by simp⟩
    intro i u hu
    have hi : i < len := by have := (List.getElem?_eq_some_iff.1 hu).1; simp [bytesV] at this; omega
    have h1 := hcell i (by omega)
    rw [h1]
    have h2 : ss[i]? = some ss[i] := by simp [show i < ss.length by omega]
    obtain ⟨z, hz, hz2⟩ := wf_u8 (hsz ss[i] (List.getElem_mem _))
    simp only [bytesV, List.map_map, List.getElem?_map, List.getElem?_take, if_pos hi, h2, Option.map_some, Option.some.injEq, Function.comp] at hu
    rw [← hu, List.getD, h2]
    have h6 : ((UInt8.ofNat ss[i].toNat).toNat : Int) = ss[i] := by
      rw [hz, Int.toNat_natCast, UInt8.toNat_ofNat']
      omega
    simp only [Option.getD_some, h6]
end

end Go.Proofs.YtjjaojnglnpgaaaGreatDoor

namespace Go.Proofs.YtjjaojnglnpgaaaGreatDoor
open Go.RowKit Go.ChangeShapes Go.WideShapes

theorem tsz (t : ByteArray) : t.data.toList.length = t.size := rfl
theorem list3 {α : Type} {l : List α} (h : l.length = 3) : ∃ a0 a1 a2, l = [a0, a1, a2] := by
  match l, h with
  | [a0, a1, a2], _ => exact ⟨a0, a1, a2, rfl⟩
theorem list4 {α : Type} {l : List α} (h : l.length = 4) : ∃ a0 a1 a2 a3, l = [a0, a1, a2, a3] := by
  match l, h with
  | [a0, a1, a2, a3], _ => exact ⟨a0, a1, a2, a3, rfl⟩
theorem list5 {α : Type} {l : List α} (h : l.length = 5) : ∃ a0 a1 a2 a3 a4, l = [a0, a1, a2, a3, a4] := by
  match l, h with
  | [a0, a1, a2, a3, a4], _ => exact ⟨a0, a1, a2, a3, a4, rfl⟩
theorem list8 {α : Type} {l : List α} (h : l.length = 8) : ∃ a0 a1 a2 a3 a4 a5 a6 a7, l = [a0, a1, a2, a3, a4, a5, a6, a7] := by
  match l, h with
  | [a0, a1, a2, a3, a4, a5, a6, a7], _ => exact ⟨a0, a1, a2, a3, a4, a5, a6, a7, rfl⟩
theorem list14 {α : Type} {l : List α} (h : l.length = 14) : ∃ a0 a1 a2 a3 a4 a5 a6 a7 a8 a9 a10 a11 a12 a13, l = [a0, a1, a2, a3, a4, a5, a6, a7, a8, a9, a10, a11, a12, a13] := by
  match l, h with
  | [a0, a1, a2, a3, a4, a5, a6, a7, a8, a9, a10, a11, a12, a13], _ => exact ⟨a0, a1, a2, a3, a4, a5, a6, a7, a8, a9, a10, a11, a12, a13, rfl⟩
theorem c_node : Tryz.prog.cellsOf 218 = 4 := by kernel_rfl
theorem c_nk : Tryz.prog.cellsOf 216 = 1 := by kernel_rfl
theorem c_str : Tryz.prog.cellsOf 9 = 1 := by kernel_rfl
theorem c_i64 : Tryz.prog.cellsOf 2 = 1 := by kernel_rfl
theorem c_int : Tryz.prog.cellsOf 3 = 1 := by kernel_rfl
theorem c_nodes : Tryz.prog.cellsOf 39 = 1 := by kernel_rfl
theorem c_strs : Tryz.prog.cellsOf 34 = 1 := by kernel_rfl
theorem c_ints : Tryz.prog.cellsOf 38 = 1 := by kernel_rfl
theorem c_ek : Tryz.prog.cellsOf 37 = 1 := by kernel_rfl
theorem c_pk : Tryz.prog.cellsOf 33 = 1 := by kernel_rfl
theorem c_hunk : Tryz.prog.cellsOf 36 = 3 := by kernel_rfl
theorem c_edit : Tryz.prog.cellsOf 41 = 8 := by kernel_rfl
theorem c_patch : Tryz.prog.cellsOf 43 = 14 := by kernel_rfl
theorem c_u8 : Tryz.prog.cellsOf 5 = 1 := by kernel_rfl
theorem u_nk : Tryz.prog.underlying 216 = some (.int .u8) := by kernel_rfl
theorem u_ek : Tryz.prog.underlying 37 = some (.int .u8) := by kernel_rfl
theorem u_pk : Tryz.prog.underlying 33 = some (.int .u8) := by kernel_rfl
theorem u_str : Tryz.prog.underlying 9 = some .string := by kernel_rfl
theorem u_i64 : Tryz.prog.underlying 2 = some (.int .i64) := by kernel_rfl
theorem u_int : Tryz.prog.underlying 3 = some (.int .i64) := by kernel_rfl
theorem u_u8 : Tryz.prog.underlying 5 = some (.int .u8) := by kernel_rfl
theorem u_nodes : Tryz.prog.underlying 39 = some (.slice 218) := by kernel_rfl
theorem u_strs : Tryz.prog.underlying 34 = some (.slice 9) := by kernel_rfl
theorem u_ints : Tryz.prog.underlying 38 = some (.slice 3) := by kernel_rfl
theorem u_bytes : Tryz.prog.underlying 44 = some (.slice 5) := by kernel_rfl

section
variable {H : Type} {enc : TypeId × Value → H} {w : World} {spare : Nat → Bool} {held : Bool}
/-- what the reading of a row of nodes says -/
def FoGoal (w : World) (cs : List Value) (x : DataW H × List MemPlace) : Prop :=
  ∃ A f c, cs = [.slice A f.len c] ∧ FoIn (fun _ => True) w A f ∧ f.len ≤ c ∧ c ≤ 9223372036854775807 ∧ (nodesB f).length ≤ 40 * Rows.uptoBulk x.1

theorem nodes_len (f : Fo) : (nodesB f).length = 8 + (foB f).length := by
  have h8 : ∀ n : Int, (num8 n).length = 8 := fun n => rfl
  simp only [nodesB, List.length_append, h8]
theorem foB_size (k : Nat) (t : ByteArray) (n : Int) (ks r : Fo) : (foB (.cons k t n ks r)).length = 25 + t.size + (foB ks).length + (foB r).length := by
  have h8 : ∀ n : Int, (num8 n).length = 8 := fun n => rfl
  have hs : t.data.toList.length = t.size := rfl
  simp only [foB, txtB, List.length_cons, List.length_append, h8, hs]
  omega

theorem node_in {m : Nat} (ih : ∀ m', m' < m → ∀ {cs : List Value} {x : DataW H × List MemPlace}, DataW.trod enc Tryz.prog w 0 spare held m' 39 cs = some x → FoGoal w cs x)
    {cs : List Value} {x : DataW H × List MemPlace} (h : DataW.trod enc Tryz.prog w 0 spare held m 218 cs = some x) :
    ∃ k t n KA f c, cs = [.int .u8 (k : Nat), .string t, .int .i64 n, .slice KA f.len c] ∧ k < 256 ∧ t.size ≤ 9223372036854775807 ∧ isInt64 n ∧ f.len ≤ c ∧ c ≤ 9223372036854775807 ∧
      FoIn (fun _ => True) w KA f ∧ 25 + t.size + (foB f).length ≤ 40 * Rows.uptoBulk x.1 := by
  obtain ⟨xs, n, rfl, rfl, hl, hlen, hf⟩ := DataW.trod_struct Tryz.underlying218 h
  rw [c_node] at hl
  obtain ⟨c0, c1, c2, c3, rfl⟩ := list4 hl
  obtain ⟨y0, y1, y2, y3, rfl⟩ := list4 hlen
  have f0 : DataW.trod enc Tryz.prog w 0 spare held n 216 (List.take (Tryz.prog.cellsOf 216) (List.drop 0 [c0, c1, c2, c3])) = some y0 := hf 0 _ rfl
  rw [c_nk] at f0
  have f0 : DataW.trod enc Tryz.prog w 0 spare held n 216 [c0] = some y0 := f0
  have f1 : DataW.trod enc Tryz.prog w 0 spare held n 9 (List.take (Tryz.prog.cellsOf 9) (List.drop 1 [c0, c1, c2, c3])) = some y1 := hf 1 _ rfl
  rw [c_str] at f1
  have f1 : DataW.trod enc Tryz.prog w 0 spare held n 9 [c1] = some y1 := f1
  have f2 : DataW.trod enc Tryz.prog w 0 spare held n 2 (List.take (Tryz.prog.cellsOf 2) (List.drop 2 [c0, c1, c2, c3])) = some y2 := hf 2 _ rfl
  rw [c_i64] at f2
  have f2 : DataW.trod enc Tryz.prog w 0 spare held n 2 [c2] = some y2 := f2
  have f3 : DataW.trod enc Tryz.prog w 0 spare held n 39 (List.take (Tryz.prog.cellsOf 39) (List.drop 3 [c0, c1, c2, c3])) = some y3 := hf 3 _ rfl
  rw [c_nodes] at f3
  have f3 : DataW.trod enc Tryz.prog w 0 spare held n 39 [c3] = some y3 := f3
  obtain ⟨k, e0, hx0, w0⟩ := DataW.trod_int u_nk f0
  obtain ⟨t, e1, hx1, w1⟩ := DataW.trod_string u_str f1
  obtain ⟨i, e2, hx2, w2⟩ := DataW.trod_int u_i64 f2
  obtain ⟨KA, f, c, e3, hin, hc, hc2, hB⟩ := ih n (Nat.lt_succ_self n) f3
  obtain ⟨k', rfl, hk⟩ := wf_u8 w0
  injection e0 with e0
  injection e1 with e1
  injection e2 with e2
  injection e3 with e3
  subst e0 e1 e2 e3 hx0 hx1 hx2
  refine ⟨k', t, i, KA, f, c, rfl, hk, sz63 w1, wf_i64 w2, hc, hc2, hin, ?_⟩
  rw [nodes_len] at hB
  have h1 := bulk_one (H := H) (.lit (.int .u8 (k' : Int)))
  have h2 := bulk_one (H := H) (.lit (.int .i64 i))
  simp only [List.map_cons, List.map_nil, Rows.uptoBulk, Rows.uptoBulkAll, tsz] at h1 h2 ⊢
  omega

theorem fo_in : ∀ (m : Nat) {cs : List Value} {x : DataW H × List MemPlace}, DataW.trod enc Tryz.prog w 0 spare held m 39 cs = some x → FoGoal w cs x := by
  intro m
  induction m using Nat.strongRecOn with
  | ind m ih =>
    intro cs x h
    have h8 : ∀ n : Int, (num8 n).length = 8 := fun n => rfl
    rcases DataW.trod_slice u_nodes h with ⟨rfl, rfl⟩ | ⟨a, len, cap, elems, rest, n, rfl, rfl, rfl, hb, hl, hm, hlen, hel, _, _⟩
    · exact ⟨none, .nil, 0, rfl, trivial, Nat.le_refl _, by omega, by simp [nodesB, foB, h8, Rows.uptoBulk]⟩
    · simp only [c_node] at hel
      have key : ∀ i, i < len → ∃ cs' y, elems[i]? = some y ∧ w.cells? 0 (a.add (i * 4)) 4 = some cs' ∧ DataW.trod enc Tryz.prog w 0 spare held n 218 cs' = some y := by
        intro i hi
        have h1 := hel i hi
        rw [List.getElem?_eq_getElem (by omega)] at h1
        obtain ⟨cs', h2, h3⟩ := Option.bind_eq_some_iff.1 h1
        exact ⟨cs', _, List.getElem?_eq_getElem (by omega), h2, h3⟩
      have hcap := sz63 hm
      by_cases h0 : len = 0
      · subst h0
        have : elems = [] := List.eq_nil_of_length_eq_zero hlen
        subst this
        exact ⟨some a, .nil, cap, rfl, trivial, Nat.zero_le _, hcap, by have := bulk_one (H := H) (.slice (List.map (·.1) ([] : List (DataW H × List MemPlace))) (rest.map (·.1))); simp only [nodesB, foB, List.length_append, h8, List.length_nil] at this ⊢; omega⟩
      · obtain ⟨b, o, rfl⟩ : ∃ b o, a = ⟨b, o, none⟩ := by
          obtain ⟨cs', y, _, h2, h3⟩ := key 0 (by omega)
          obtain ⟨k, t, nn, KA, f, c, rfl, _⟩ := node_in (fun m' hm' => ih m' (by omega)) h3
          obtain ⟨_, _, hc⟩ := World.cells?_some h2
          have hc0 := hc 0 (by omega)
          obtain ⟨b, o, sp⟩ := a
          cases sp with
          | none => exact ⟨b, o, rfl⟩
          | some q => exfalso; simp [Addr.add] at hc0; unfold World.cell? at hc0; split at hc0 <;> simp at hc0
        have main : ∀ j, j ≤ len → ∃ f : Fo, f.len = j ∧ FoIn (fun _ => True) w (some ⟨b, o + (len - j) * 4, none⟩) f ∧ (foB f).length ≤ 40 * Rows.uptoBulkAll ((elems.drop (len - j)).map (·.1)) := by
          intro j
          induction j with
          | zero => intro _; exact ⟨.nil, rfl, trivial, by simp [foB]⟩
          | succ j ihj =>
            intro hj
            obtain ⟨r, hr1, hr2, hr3⟩ := ihj (by omega)
            obtain ⟨cs', y, hy, h2, h3⟩ := key (len - (j + 1)) (by omega)
            obtain ⟨k, t, nn, KA, f, c, rfl, hk, ht, hn, hc, hc2, hin, hB⟩ := node_in (fun m' hm' => ih m' (by omega)) h3
            obtain ⟨_, _, hcell⟩ := World.cells?_some h2
            have g0 := hcell 0 (by omega)
            have g1 := hcell 1 (by omega)
            have g2 := hcell 2 (by omega)
            have g3 := hcell 3 (by omega)
            rw [Addr.add_lit, Addr.add_lit] at g0 g1 g2 g3
            have e4 : o + (len - (j + 1)) * 4 + 4 = o + (len - j) * 4 := by omega
            refine ⟨.cons k t nn f r, by simp [Fo.len, hr1], ⟨b, o + (len - (j + 1)) * 4, KA, c, rfl, trivial, by simpa using g0, by simpa using g1, by simpa using g2, by simpa using g3, hk, ht, hn, hc, hc2, hin, by rw [e4]; exact hr2⟩, ?_⟩
            have e5 : elems.drop (len - (j + 1)) = y :: elems.drop (len - j) := by
              obtain ⟨hlt, rfl⟩ := List.getElem?_eq_some_iff.1 hy
              rw [List.drop_eq_getElem_cons hlt, show len - (j + 1) + 1 = len - j by omega]
            rw [e5, foB_size]
            simp only [List.map_cons, Rows.uptoBulkAll]
            omega
        obtain ⟨f, h1, h2, h3⟩ := main len (Nat.le_refl _)
        simp only [Nat.sub_self, Nat.zero_mul, Nat.add_zero, List.drop_zero] at h2 h3
        refine ⟨some ⟨b, o, none⟩, f, cap, by rw [h1], h2, by omega, hcap, ?_⟩
        have := bulk_slice (H := H) (elems.map (·.1)) (rest.map (·.1))
        rw [nodes_len]
        simp only at this ⊢
        omega
end

end Go.Proofs.YtjjaojnglnpgaaaGreatDoor
