/- The commands of lines: plain data. -/
import Derived.Test.YtjjaojnglnpgaaaGreatDoorLRest
import Derived.Test.YtjjaojnglnpgaaaGreatDoorLScrParse

set_option linter.unusedVariables false
set_option linter.unusedSimpArgs false

namespace Go.Proofs.YtjjaojnglnpgaaaGreatDoor

/-- the commands of lines; or the line at which there is none -/
noncomputable def rowsOf : Nat → List ByteArray → Except Nat (List Cmd)
  | _, [] => .ok []
  | i, t :: r => if t.size = 0 then rowsOf (i + 1) r else match lineOf (wordsOf 32 t) with
    | none => .error (i + 1)
    | some c => match rowsOf (i + 1) r with
      | .error e => .error e
      | .ok l => .ok (c :: l)
/-- these commands, and then .. -/
def before (l : List Cmd) : Except Nat (List Cmd) → Except Nat (List Cmd)
  | .error e => .error e
  | .ok r => .ok (l ++ r)
theorem before_nil (x : Except Nat (List Cmd)) : before [] x = x := by cases x <;> rfl
theorem rowsOf_skip {i : Nat} {t : ByteArray} {r : List ByteArray} (h : t.size = 0) : rowsOf i (t :: r) = rowsOf (i + 1) r := by rw [rowsOf, if_pos h]
theorem rowsOf_none {i : Nat} {t : ByteArray} {r : List ByteArray} (h : ¬ t.size = 0) (hl : lineOf (wordsOf 32 t) = none) : rowsOf i (t :: r) = .error (i + 1) := by rw [rowsOf, if_neg h, hl]
theorem rowsOf_some {i : Nat} {t : ByteArray} {r : List ByteArray} {c : Cmd} (h : ¬ t.size = 0) (hl : lineOf (wordsOf 32 t) = some c) : rowsOf i (t :: r) = before [c] (rowsOf (i + 1) r) := by
  rw [rowsOf, if_neg h, hl]
  cases rowsOf (i + 1) r <;> rfl
theorem before_before (l m : List Cmd) (x : Except Nat (List Cmd)) : before l (before m x) = before (l ++ m) x := by cases x <;> simp [before]


end Go.Proofs.YtjjaojnglnpgaaaGreatDoor

namespace Go.Proofs.YtjjaojnglnpgaaaGreatDoor
open Go.RowKit

theorem new_range (w : World) (cs : List Value) (t : TypeId) : (w.alloc (.cells cs.toArray t)).rangeAt w.heap.size 0 cs := fun j v hv => by
  rw [Lib.cell_of_heap (heap_alloc_new w _), Nat.zero_add]
  simpa using hv
theorem HkO.inn {S : Nat → Prop} {w : World} {x : Hh} {h : Hk} {L : List Nat} (a : HkO w x h L) (b : HkIn S w x h) : HkIn (fun g => g ∈ L) w x h := by
  obtain ⟨L1, L2, ⟨h1, rfl⟩, ⟨h2, rfl⟩, rfl⟩ := a
  exact ⟨b.at_, ⟨own_rows h1 fun g hg => List.mem_append_left _ hg, b.old.2⟩, ⟨own_rows h2 fun g hg => List.mem_append_right _ hg, b.new.2⟩, b.oc, b.nc⟩
theorem EdO.inn {S : Nat → Prop} {w : World} {x : Eh} {e : Ed} {L : List Nat} (a : EdO w x e L) (b : EdIn S w x e) : EdIn (fun g => g ∈ L) w x e := by
  obtain ⟨L1, L2, L3, ⟨h1, rfl⟩, h2, h3, rfl⟩ := a
  exact ⟨b.kind, ⟨own_rows h1 fun g hg => List.mem_append_left _ hg, b.path.2⟩, b.at_, b.far, b.frm, b.to, h2.fo fun g hg => by simp [hg], h3.fo fun g hg => by simp [hg], b.pc, b.oc, b.nc⟩
theorem PtO.inn {S : Nat → Prop} {w : World} {x : Ph} {p : Pt} {L : List Nat} (a : PtO w x p L) (b : PtIn S w x p) : PtIn (fun g => g ∈ L) w x p := by
  obtain ⟨L1, L2, h1, h2, rfl⟩ := a
  have i1 := h1.inn b.hunk
  have i2 := h2.inn b.edit
  exact ⟨b.kind, b.file, b.text, i1.mono fun g _ hg => List.mem_append_left _ hg, i2.mono fun g _ hg => List.mem_append_right _ hg⟩
theorem CmdO.inn {S : Nat → Prop} {w : World} {c : Cmd} {x : Ph} {A : Option Addr} {n : Nat} {L : List Nat} (a : CmdO w c x A n L) (b : CmdIn S w c x A n) : CmdIn (fun g => g ∈ L) w c x A n := by
  obtain ⟨L1, L2, h1, ⟨h2, rfl⟩, rfl⟩ := a
  exact ⟨b.kind, b.repo, b.frm, b.name, b.file, (h1.inn b.patch).mono fun g _ hg => List.mem_append_left _ hg, ⟨own_rows h2 fun g hg => List.mem_append_right _ hg, b.bytes.2⟩, b.cap⟩

/-- a command where it lies -/
structure CIt where
  c : Cmd
  x : Ph
  A : Option Addr
  n : Nat
def CIt.cells (it : CIt) : List Value := cmdVs it.c it.x it.A it.n
def CIt.ok (w : World) (it : CIt) (L : List Nat) : Prop := CmdO w it.c it.x it.A it.n L ∧ CmdIn (fun g => g ∈ L) w it.c it.x it.A it.n
def CmdsO (w : World) : List CIt → List Nat → Prop
  | [], L => L = []
  | it :: r, L => ∃ L1 L2, it.ok w L1 ∧ CmdsO w r L2 ∧ L = L1 ++ L2
section
variable {w w' : World} {l : List CIt} {it : CIt} {L L1 : List Nat}
theorem CIt.ok.keep (h : it.ok w L) (hk : ∀ b ∈ L, w'.heap[b]? = w.heap[b]?) : it.ok w' L := ⟨h.1.keep hk, h.2.keep hk⟩
theorem CmdsO.keep : ∀ {l : List CIt} {L : List Nat}, CmdsO w l L → (∀ b ∈ L, w'.heap[b]? = w.heap[b]?) → CmdsO w' l L
  | [], _, h, _ => h
  | _ :: _, _, ⟨L1, L2, h1, h2, e⟩, hk => by
    subst e
    exact ⟨L1, L2, h1.keep fun b hb => hk b (by simp [hb]), h2.keep fun b hb => hk b (by simp [hb]), rfl⟩
theorem CmdsO.lt : ∀ {l : List CIt} {L : List Nat}, CmdsO w l L → ∀ b ∈ L, b < w.heap.size
  | [], _, h, b, hb => by rw [show _ = [] from h] at hb; cases hb
  | _ :: _, _, ⟨L1, L2, h1, h2, e⟩, b, hb => by
    subst e
    rcases List.mem_append.1 hb with hb | hb
    · exact h1.1.lt b hb
    · exact h2.lt b hb
theorem CmdsO.snoc : ∀ {l : List CIt} {L : List Nat}, CmdsO w l L → it.ok w L1 → CmdsO w (l ++ [it]) (L ++ L1)
  | [], _, h, h1 => by
    rw [show _ = [] from h]
    exact ⟨L1, [], h1, rfl, by simp⟩
  | _ :: _, _, ⟨M1, M2, h1, h2, e⟩, h3 => by
    subst e
    exact ⟨M1, M2 ++ L1, h1, h2.snoc h3, by simp⟩
end
/-- the row v holds the commands l; all of it is its own -/
def RowC (M : Nat) (w : World) (v : Value) (l : List CIt) : Prop :=
  w.ownsRow M 46 20 v l.length (l.flatMap CIt.cells) ∧ ∃ L, CmdsO w l L ∧ (ob v ++ L).Nodup ∧ ∀ b ∈ L, M ≤ b
theorem RowC.nil (M : Nat) (w : World) : RowC M w (.slice none 0 0) [] := ⟨World.ownsRow_nil _ _ _ _, [], rfl, by simp [ob, Value.ownBlock], fun b hb => by cases hb⟩
theorem own_upto {w w' : World} {B e size n : Nat} {v : Value} {xs : List Value} (h : w.ownsRow B e size v n xs) (hk : ∀ b ∈ ob v, w'.heap[b]? = w.heap[b]?) : w'.ownsRow B e size v n xs :=
  ⟨h.1, by
    rcases h.2 with hn | ⟨g, cap, cur, rfl, hb, hgg, rest⟩
    · exact .inl hn
    · exact .inr ⟨g, cap, cur, rfl, hb, (hk g (mem_ob.2 rfl)).trans hgg, rest⟩⟩
theorem own_blocks {w : World} {B e size n : Nat} {v : Value} {xs : List Value} (h : w.ownsRow B e size v n xs) : ∀ b ∈ ob v, B ≤ b ∧ b < w.heap.size := fun b hb => h.lt b (mem_ob.1 hb)
theorem RowC.below {M : Nat} {w w' : World} {v : Value} {l : List CIt} (h : RowC M w v l) (hb : Below w.heap.size w w') : RowC M w' v l := by
  obtain ⟨h1, L, h2, h3, h4⟩ := h
  exact ⟨own_upto h1 fun b hb' => hb.block b (own_blocks h1 b hb').2, L, h2.keep fun b hb' => hb.block b (h2.lt b hb'), h3, h4⟩
theorem RowC.keep {M : Nat} {w w' : World} {v : Value} {l : List CIt} (h : RowC M w v l) (hk : ∀ b, M ≤ b → w'.heap[b]? = w.heap[b]?) : RowC M w' v l := by
  obtain ⟨h1, L, h2, h3, h4⟩ := h
  exact ⟨own_upto h1 fun b hb' => hk b (own_blocks h1 b hb').1, L, h2.keep fun b hb' => hk b (h4 b hb'), h3, h4⟩
theorem RowC.mono {M M' : Nat} {w : World} {v : Value} {l : List CIt} (h : RowC M w v l) (hm : M' ≤ M) : RowC M' w v l := by
  obtain ⟨⟨h0, h1⟩, L, h2, h3, h4⟩ := h
  exact ⟨⟨h0, h1.imp id fun ⟨g, cap, cur, e1, hB, rest⟩ => ⟨g, cap, cur, e1, Nat.le_trans hm hB, rest⟩⟩, L, h2, h3, fun b hb => Nat.le_trans hm (h4 b hb)⟩
theorem set_two {w : World} {b : Nat} {x y u v : Value} (h0 : w.cell? ⟨b, 0, none⟩ = some x) (h1 : w.cell? ⟨b, 1, none⟩ = some y) :
    ((w.setCell ⟨b, 0, none⟩ u).setCell ⟨b, 1, none⟩ v).cell? ⟨b, 0, none⟩ = some u ∧ ((w.setCell ⟨b, 0, none⟩ u).setCell ⟨b, 1, none⟩ v).cell? ⟨b, 1, none⟩ = some v := by
  constructor
  · rw [World.cell?_setCell_other _ _ _ _ (by simp)]
    exact World.cell?_setCell_same _ _ _ h0
  · have h2 : (w.setCell ⟨b, 0, none⟩ u).cell? ⟨b, 1, none⟩ = some y := (World.cell?_setCell_other _ _ _ _ (by simp)).trans h1
    exact World.cell?_setCell_same _ _ _ h2
theorem ob_same (A : Option Addr) (n m c : Nat) : ob (.slice A n c) = ob (.slice A m c) := by cases A <;> rfl
theorem RowC.next {M : Nat} {w w3 w4 : World} {v v' : Value} {l : List CIt} {it : CIt} {L1 : List Nat} (h : RowC M w v l) (hb : Below w.heap.size w w3) (hM : M ≤ w.heap.size) (hi : it.ok w3 L1) (hn : L1.Nodup) (hl : ∀ b ∈ L1, w.heap.size ≤ b)
    (ho : w4.ownsRow M 46 20 v' (l.length + 1) (l.flatMap CIt.cells ++ it.cells)) (hg : w3.grownBy w4 v.ownBlock) (hw : Went w3 w4 v v' l.length 1) : RowC M w4 v' (l ++ [it]) := by
  obtain ⟨h1, L, h2, h3, h4⟩ := h
  have hL := h2.lt
  have hv : ∀ b ∈ ob v, b < w.heap.size := fun b hb' => (own_blocks h1 b hb').2
  have h2' : CmdsO w3 l L := h2.keep fun b hb' => hb.block b (hL b hb')
  obtain ⟨n1, n2, n3⟩ := List.nodup_append.1 h3
  have hdis : ∀ b, b ∈ L → b ∉ ob v := fun b hb1 hb2 => n3 b hb2 b hb1 rfl
  have hk : ∀ b, b < w3.heap.size → b ∉ ob v → w4.heap[b]? = w3.heap[b]? := fun b hb1 hb2 => hg.block b hb1 (by intro e; exact hb2 (mem_ob.2 e.symm))
  have h5 : CmdsO w4 (l ++ [it]) (L ++ L1) := (h2'.snoc hi).keep fun b hb' => by
    rcases List.mem_append.1 hb' with hb' | hb'
    · exact hk b (Nat.lt_of_lt_of_le (hL b hb') hb.size) (hdis b hb')
    · exact hk b (hi.1.lt b hb') (fun h => by have := hv b h; have := hl b hb'; omega)
  have n4 : (L ++ L1).Nodup := nodup_ranges n2 hn hL hl
  have hob : ob v' = ob v ∨ ob v' = [w3.heap.size] := by
    rcases hw with ⟨A, c, e1, e2⟩ | ⟨h, _⟩
    · rw [e1, e2]
      exact .inl (ob_same _ _ _ _)
    · exact .inr (by unfold ob; rw [h]; rfl)
  refine ⟨by rw [List.length_append, List.flatMap_append, List.flatMap_singleton]; exact ho, L ++ L1, h5, List.nodup_append.2 ⟨ob_nodup _, n4, fun a ha b hb' e => ?_⟩, fun b hb' => ?_⟩
  · subst e
    have hlt : a < w3.heap.size := by
      rcases List.mem_append.1 hb' with h | h
      · exact Nat.lt_of_lt_of_le (hL a h) hb.size
      · exact hi.1.lt a h
    rcases hob with e | e
    · rw [e] at ha
      rcases List.mem_append.1 hb' with h | h
      · exact hdis a h ha
      · have := hv a ha
        have := hl a h
        omega
    · rw [e, List.mem_singleton] at ha
      omega
  · rcases List.mem_append.1 hb' with h | h
    · exact h4 b h
    · exact Nat.le_trans hM (hl b h)

theorem cmd_ones (c : Cmd) (x : Ph) (A : Option Addr) (n : Nat) : ∀ v ∈ cmdVs c x A n, v.oneCell' = true := by
  intro v hv
  simp only [cmdVs, List.mem_cons, List.not_mem_nil, or_false] at hv
  rcases hv with rfl | rfl | rfl | rfl | rfl | rfl | rfl | rfl | rfl | rfl | rfl | rfl | rfl | rfl | rfl | rfl | rfl | rfl | rfl | rfl <;> rfl
theorem InfoCmd : (Tryz.prog.info? 46).map (fun i => (i.zero, i.size, i.bytes)) = some (some (.agg zeroL.toArray), 20, 320) := by kernel_rfl
theorem new_there (w : World) (cs : List Value) (t : TypeId) : (w.alloc (.cells cs.toArray t)).there w.heap.size 0 cs.length := fun j hj => by
  have hv : cs[j]? = some (cs[j]'hj) := List.getElem?_eq_getElem hj
  refine ⟨?_, by unfold World.frozen?; rw [heap_alloc_new]; rfl⟩
  rw [new_range w cs t j _ hv]
  rfl
theorem new_store (w : World) (t : TypeId) (zs cs : List Value) (hl : cs.length = zs.length) : ∃ V, V = (w.alloc (.cells zs.toArray t)).setCells w.heap.size 0 cs.toArray.toList ∧ V.rangeAt w.heap.size 0 cs ∧ Below w.heap.size w V ∧ V.heap.size = w.heap.size + 1 :=
  ⟨_, rfl, World.rangeAt_setCells_same _ _ 0 cs (by rw [hl]; exact new_there w zs t), (below_alloc w _).trans (Keep.below (keep_setCells w.heap.size (P := fun k => k < w.heap.size) (Nat.lt_irrefl _) cs 0 _)), by rw [size_setCells]; simp⟩
/-- what Parse answers -/
def ScriptPost (w : World) (s : ByteArray) (e : Ending) (w' : World) : Prop :=
  Below w.heap.size w w' ∧ (262144 < s.size → e = .returned (.tuple #[.slice none 0 0, .agg #[.int .i64 3, .int .i64 0]])) ∧
    (s.size ≤ 262144 → (∀ i, rowsOf 0 (wordsOf 10 s) = .error i → e = .returned (.tuple #[.slice none 0 0, .agg #[.int .i64 210, .int .i64 i]])) ∧
      ∀ cs, rowsOf 0 (wordsOf 10 s) = .ok cs → ∃ l v, l.map (·.c) = cs ∧ e = .returned (.tuple #[v, .agg #[.int .i64 0, .int .i64 0]]) ∧ RowC w.heap.size w' v l)

end Go.Proofs.YtjjaojnglnpgaaaGreatDoor
