/- Commands in a row of their own. -/
import Derived.Test.YtjjaojnglnpgaaaGreatDoorKScrParse

set_option linter.unusedVariables false
set_option linter.unusedSimpArgs false

namespace Go.Proofs.YtjjaojnglnpgaaaGreatDoor
open Go.RowKit

theorem new_range (w : World) (cs : List Value) (t : TypeId) : (w.alloc (.cells cs.toArray t)).rangeAt w.heap.size 0 cs := fun j v hv => by
  rw [Lib.cell_of_heap (heap_alloc_new w _), Nat.zero_add]
  simpa using hv
theorem HkO.inn {S : Nat → Prop} {w : World} {x : Hh} {h : Hk} {L : List Nat} (a : HkO w x h L) (b : HkIn S w x h) : HkIn (fun g => g ∈ L) w x h := by
  obtain ⟨L1, L2, ⟨h1, rfl⟩, ⟨h2, rfl⟩, rfl⟩ := a
  exact ⟨b.at_, ⟨own_rows h1 fun g hg => List.mem_append_left _ hg, b.old.2⟩, ⟨own_rows h2 fun g hg => List.mem_append_right _ hg, b.new.2⟩, b.oc, b.nc⟩
theorem EdO.inn {S : Nat → Prop} {w : World} {x : Eh} {e : Ed} {L : List Nat} (a : EdO w x e L) (b : EdIn S w x e) : EdIn (fun g => g ∈ L) w x e := by
  obtain ⟨L1, L2, L3, ⟨h1, rfl⟩, h2, h3, rfl⟩ := a
  exact ⟨b.kind, ⟨own_rows h1 fun g hg => List.mem_append_left _ hg, b.path.2⟩, b.at_, b.far, b.frm, b.to, h2.fo fun g hg => by simp [hg], h3.fo fun g hg => by simp [hg], b.pc, b.oc, b.nc⟩
theorem PtO.inn {S : Nat → Prop} {w : World} {x : Ph} {p : Pt} {L : List Nat} (a : PtO w x p L) (b : PtIn S w x p) : PtIn (fun g => g ∈ L) w x p := by
  obtain ⟨L1, L2, h1, h2, rfl⟩ := a
  have i1 := h1.inn b.hunk
  have i2 := h2.inn b.edit
  exact ⟨b.kind, b.file, b.text, i1.mono fun g _ hg => List.mem_append_left _ hg, i2.mono fun g _ hg => List.mem_append_right _ hg⟩
theorem CmdO.inn {S : Nat → Prop} {w : World} {c : Cmd} {x : Ph} {A : Option Addr} {n : Nat} {L : List Nat} (a : CmdO w c x A n L) (b : CmdIn S w c x A n) : CmdIn (fun g => g ∈ L) w c x A n := by
  obtain ⟨L1, L2, h1, ⟨h2, rfl⟩, rfl⟩ := a
  exact ⟨b.kind, b.repo, b.frm, b.name, b.file, (h1.inn b.patch).mono fun g _ hg => List.mem_append_left _ hg, ⟨own_rows h2 fun g hg => List.mem_append_right _ hg, b.bytes.2⟩, b.cap⟩

/-- a command where it lies -/
structure CIt where
  c : Cmd
  x : Ph
  A : Option Addr
  n : Nat
def CIt.cells (it : CIt) : List Value := cmdVs it.c it.x it.A it.n
def CIt.ok (w : World) (it : CIt) (L : List Nat) : Prop := CmdO w it.c it.x it.A it.n L ∧ CmdIn (fun g => g ∈ L) w it.c it.x it.A it.n
def CmdsO (w : World) : List CIt → List Nat → Prop
  | [], L => L = []
  | it :: r, L => ∃ L1 L2, it.ok w L1 ∧ CmdsO w r L2 ∧ L = L1 ++ L2
section
variable {w w' : World} {l : List CIt} {it : CIt} {L L1 : List Nat}
theorem CIt.ok.keep (h : it.ok w L) (hk : ∀ b ∈ L, w'.heap[b]? = w.heap[b]?) : it.ok w' L := ⟨h.1.keep hk, h.2.keep hk⟩
theorem CmdsO.keep : ∀ {l : List CIt} {L : List Nat}, CmdsO w l L → (∀ b ∈ L, w'.heap[b]? = w.heap[b]?) → CmdsO w' l L
  | [], _, h, _ => h
  | _ :: _, _, ⟨L1, L2, h1, h2, e⟩, hk => by
    subst e
    exact ⟨L1, L2, h1.keep fun b hb => hk b (by simp [hb]), h2.keep fun b hb => hk b (by simp [hb]), rfl⟩
theorem CmdsO.lt : ∀ {l : List CIt} {L : List Nat}, CmdsO w l L → ∀ b ∈ L, b < w.heap.size
  | [], _, h, b, hb => by rw [show _ = [] from h] at hb; cases hb
  | _ :: _, _, ⟨L1, L2, h1, h2, e⟩, b, hb => by
    subst e
    rcases List.mem_append.1 hb with hb | hb
    · exact h1.1.lt b hb
    · exact h2.lt b hb
theorem CmdsO.snoc : ∀ {l : List CIt} {L : List Nat}, CmdsO w l L → it.ok w L1 → CmdsO w (l ++ [it]) (L ++ L1)
  | [], _, h, h1 => by
    rw [show _ = [] from h]
    exact ⟨L1, [], h1, rfl, by simp⟩
  | _ :: _, _, ⟨M1, M2, h1, h2, e⟩, h3 => by
    subst e
    exact ⟨M1, M2 ++ L1, h1, h2.snoc h3, by simp⟩
end
/-- the row v holds the commands l; all of it is its own -/
def RowC (M : Nat) (w : World) (v : Value) (l : List CIt) : Prop :=
  w.ownsRow M 46 20 v l.length (l.flatMap CIt.cells) ∧ ∃ L, CmdsO w l L ∧ (ob v ++ L).Nodup ∧ ∀ b ∈ L, M ≤ b
theorem RowC.nil (M : Nat) (w : World) : RowC M w (.slice none 0 0) [] := ⟨World.ownsRow_nil _ _ _ _, [], rfl, by simp [ob, Value.ownBlock], fun b hb => by cases hb⟩
theorem own_upto {w w' : World} {B e size n : Nat} {v : Value} {xs : List Value} (h : w.ownsRow B e size v n xs) (hk : ∀ b ∈ ob v, w'.heap[b]? = w.heap[b]?) : w'.ownsRow B e size v n xs :=
  ⟨h.1, by
    rcases h.2 with hn | ⟨g, cap, cur, rfl, hb, hgg, rest⟩
    · exact .inl hn
    · exact .inr ⟨g, cap, cur, rfl, hb, (hk g (mem_ob.2 rfl)).trans hgg, rest⟩⟩
theorem own_blocks {w : World} {B e size n : Nat} {v : Value} {xs : List Value} (h : w.ownsRow B e size v n xs) : ∀ b ∈ ob v, B ≤ b ∧ b < w.heap.size := fun b hb => h.lt b (mem_ob.1 hb)
theorem RowC.below {M : Nat} {w w' : World} {v : Value} {l : List CIt} (h : RowC M w v l) (hb : Below w.heap.size w w') : RowC M w' v l := by
  obtain ⟨h1, L, h2, h3, h4⟩ := h
  exact ⟨own_upto h1 fun b hb' => hb.block b (own_blocks h1 b hb').2, L, h2.keep fun b hb' => hb.block b (h2.lt b hb'), h3, h4⟩
theorem RowC.keep {M : Nat} {w w' : World} {v : Value} {l : List CIt} (h : RowC M w v l) (hk : ∀ b, M ≤ b → w'.heap[b]? = w.heap[b]?) : RowC M w' v l := by
  obtain ⟨h1, L, h2, h3, h4⟩ := h
  exact ⟨own_upto h1 fun b hb' => hk b (own_blocks h1 b hb').1, L, h2.keep fun b hb' => hk b (h4 b hb'), h3, h4⟩
theorem RowC.mono {M M' : Nat} {w : World} {v : Value} {l : List CIt} (h : RowC M w v l) (hm : M' ≤ M) : RowC M' w v l := by
  obtain ⟨⟨h0, h1⟩, L, h2, h3, h4⟩ := h
  exact ⟨⟨h0, h1.imp id fun ⟨g, cap, cur, e1, hB, rest⟩ => ⟨g, cap, cur, e1, Nat.le_trans hm hB, rest⟩⟩, L, h2, h3, fun b hb => Nat.le_trans hm (h4 b hb)⟩
theorem set_two {w : World} {b : Nat} {x y u v : Value} (h0 : w.cell? ⟨b, 0, none⟩ = some x) (h1 : w.cell? ⟨b, 1, none⟩ = some y) :
    ((w.setCell ⟨b, 0, none⟩ u).setCell ⟨b, 1, none⟩ v).cell? ⟨b, 0, none⟩ = some u ∧ ((w.setCell ⟨b, 0, none⟩ u).setCell ⟨b, 1, none⟩ v).cell? ⟨b, 1, none⟩ = some v := by
  constructor
  · rw [World.cell?_setCell_other _ _ _ _ (by simp)]
    exact World.cell?_setCell_same _ _ _ h0
  · have h2 : (w.setCell ⟨b, 0, none⟩ u).cell? ⟨b, 1, none⟩ = some y := (World.cell?_setCell_other _ _ _ _ (by simp)).trans h1
    exact World.cell?_setCell_same _ _ _ h2
theorem ob_same (A : Option Addr) (n m c : Nat) : ob (.slice A n c) = ob (.slice A m c) := by cases A <;> rfl
theorem RowC.next {M : Nat} {w w3 w4 : World} {v v' : Value} {l : List CIt} {it : CIt} {L1 : List Nat} (h : RowC M w v l) (hb : Below w.heap.size w w3) (hM : M ≤ w.heap.size) (hi : it.ok w3 L1) (hn : L1.Nodup) (hl : ∀ b ∈ L1, w.heap.size ≤ b)
    (ho : w4.ownsRow M 46 20 v' (l.length + 1) (l.flatMap CIt.cells ++ it.cells)) (hg : w3.grownBy w4 v.ownBlock) (hw : Went w3 w4 v v' l.length 1) : RowC M w4 v' (l ++ [it]) := by
  obtain ⟨h1, L, h2, h3, h4⟩ := h
  have hL := h2.lt
  have hv : ∀ b ∈ ob v, b < w.heap.size := fun b hb' => (own_blocks h1 b hb').2
  have h2' : CmdsO w3 l L := h2.keep fun b hb' => hb.block b (hL b hb')
  obtain ⟨n1, n2, n3⟩ := List.nodup_append.1 h3
  have hdis : ∀ b, b ∈ L → b ∉ ob v := fun b hb1 hb2 => n3 b hb2 b hb1 rfl
  have hk : ∀ b, b < w3.heap.size → b ∉ ob v → w4.heap[b]? = w3.heap[b]? := fun b hb1 hb2 => hg.block b hb1 (by intro e; exact hb2 (mem_ob.2 e.symm))
  have h5 : CmdsO w4 (l ++ [it]) (L ++ L1) := (h2'.snoc hi).keep fun b hb' => by
    rcases List.mem_append.1 hb' with hb' | hb'
    · exact hk b (Nat.lt_of_lt_of_le (hL b hb') hb.size) (hdis b hb')
    · exact hk b (hi.1.lt b hb') (fun h => by have := hv b h; have := hl b hb'; omega)
  have n4 : (L ++ L1).Nodup := nodup_ranges n2 hn hL hl
  have hob : ob v' = ob v ∨ ob v' = [w3.heap.size] := by
    rcases hw with ⟨A, c, e1, e2⟩ | ⟨h, _⟩
    · rw [e1, e2]
      exact .inl (ob_same _ _ _ _)
    · exact .inr (by unfold ob; rw [h]; rfl)
  refine ⟨by rw [List.length_append, List.flatMap_append, List.flatMap_singleton]; exact ho, L ++ L1, h5, List.nodup_append.2 ⟨ob_nodup _, n4, fun a ha b hb' e => ?_⟩, fun b hb' => ?_⟩
  · subst e
    have hlt : a < w3.heap.size := by
      rcases List.mem_append.1 hb' with h | h
      · exact Nat.lt_of_lt_of_le (hL a h) hb.size
      · exact hi.1.lt a h
    rcases hob with e | e
    · rw [e] at ha
      rcases List.mem_append.1 hb' with h | h
      · exact hdis a h ha
      · have := hv a ha
        have := hl a h
        omega
    · rw [e, List.mem_singleton] at ha
      omega
  · rcases List.mem_append.1 hb' with h | h
    · exact h4 b h
    · exact Nat.le_trans hM (hl b h)

theorem cmd_ones (c : Cmd) (x : Ph) (A : Option Addr) (n : Nat) : ∀ v ∈ cmdVs c x A n, v.oneCell' = true := by
  intro v hv
  simp only [cmdVs, List.mem_cons, List.not_mem_nil, or_false] at hv
  rcases hv with rfl | rfl | rfl | rfl | rfl | rfl | rfl | rfl | rfl | rfl | rfl | rfl | rfl | rfl | rfl | rfl | rfl | rfl | rfl | rfl <;> rfl
theorem InfoCmd : (Tryz.prog.info? 46).map (fun i => (i.zero, i.size, i.bytes)) = some (some (.agg zeroL.toArray), 20, 320) := by kernel_rfl
theorem new_there (w : World) (cs : List Value) (t : TypeId) : (w.alloc (.cells cs.toArray t)).there w.heap.size 0 cs.length := fun j hj => by
  have hv : cs[j]? = some (cs[j]'hj) := List.getElem?_eq_getElem hj
  refine ⟨?_, by unfold World.frozen?; rw [heap_alloc_new]; rfl⟩
  rw [new_range w cs t j _ hv]
  rfl
theorem new_store (w : World) (t : TypeId) (zs cs : List Value) (hl : cs.length = zs.length) : ∃ V, V = (w.alloc (.cells zs.toArray t)).setCells w.heap.size 0 cs.toArray.toList ∧ V.rangeAt w.heap.size 0 cs ∧ Below w.heap.size w V ∧ V.heap.size = w.heap.size + 1 :=
  ⟨_, rfl, World.rangeAt_setCells_same _ _ 0 cs (by rw [hl]; exact new_there w zs t), (below_alloc w _).trans (Keep.below (keep_setCells w.heap.size (P := fun k => k < w.heap.size) (Nat.lt_irrefl _) cs 0 _)), by rw [size_setCells]; simp⟩
/-- the commands of lines; or the line at which there is none -/
noncomputable def rowsOf : Nat → List ByteArray → Except Nat (List Cmd)
  | _, [] => .ok []
  | i, t :: r => if t.size = 0 then rowsOf (i + 1) r else match lineOf (wordsOf 32 t) with
    | none => .error (i + 1)
    | some c => match rowsOf (i + 1) r with
      | .error e => .error e
      | .ok l => .ok (c :: l)
/-- these commands, and then .. -/
def before (l : List Cmd) : Except Nat (List Cmd) → Except Nat (List Cmd)
  | .error e => .error e
  | .ok r => .ok (l ++ r)
theorem before_nil (x : Except Nat (List Cmd)) : before [] x = x := by cases x <;> rfl
theorem rowsOf_skip {i : Nat} {t : ByteArray} {r : List ByteArray} (h : t.size = 0) : rowsOf i (t :: r) = rowsOf (i + 1) r := by rw [rowsOf, if_pos h]
theorem rowsOf_none {i : Nat} {t : ByteArray} {r : List ByteArray} (h : ¬ t.size = 0) (hl : lineOf (wordsOf 32 t) = none) : rowsOf i (t :: r) = .error (i + 1) := by rw [rowsOf, if_neg h, hl]
theorem rowsOf_some {i : Nat} {t : ByteArray} {r : List ByteArray} {c : Cmd} (h : ¬ t.size = 0) (hl : lineOf (wordsOf 32 t) = some c) : rowsOf i (t :: r) = before [c] (rowsOf (i + 1) r) := by
  rw [rowsOf, if_neg h, hl]
  cases rowsOf (i + 1) r <;> rfl
theorem before_before (l m : List Cmd) (x : Except Nat (List Cmd)) : before l (before m x) = before (l ++ m) x := by cases x <;> simp [before]
/-- what Parse answers -/
def ScriptPost (w : World) (s : ByteArray) (e : Ending) (w' : World) : Prop :=
  Below w.heap.size w w' ∧ (262144 < s.size → e = .returned (.tuple #[.slice none 0 0, .agg #[.int .i64 3, .int .i64 0]])) ∧
    (s.size ≤ 262144 → (∀ i, rowsOf 0 (wordsOf 10 s) = .error i → e = .returned (.tuple #[.slice none 0 0, .agg #[.int .i64 210, .int .i64 i]])) ∧
      ∀ cs, rowsOf 0 (wordsOf 10 s) = .ok cs → ∃ l v, l.map (·.c) = cs ∧ e = .returned (.tuple #[v, .agg #[.int .i64 0, .int .i64 0]]) ∧ RowC w.heap.size w' v l)

end Go.Proofs.YtjjaojnglnpgaaaGreatDoor

namespace Go.Proofs.YtjjaojnglnpgaaaGreatDoor
open Go.RowKit

set_option maxHeartbeats 16000000 in
set_option maxRecDepth 1000000 in
theorem script_any {w : World} {s : ByteArray} (hs63 : s.size ≤ 9223372036854775807) (hmx : MaxOkS w) (htab : TabOk w) (hrec : ∀ t ∈ wordsOf 10 s, ∀ r, wordsOf 32 t = kwRecord :: r → RestOk 106 restRecord) : Calls Tryz.prog 10 #[.string s] w (ScriptPost w s) := by
  by_cases hbig : 262144 < s.size
  · have hbi : (262144 : Int) < (s.size : Int) := by omega
    go_enter Tryz.func10, Tryz.ntmps10
    go_wp2_with fail
    refine bodyPost_ret (v := .tuple #[.slice none 0 0, .agg #[.int .i64 3, .int .i64 0]]) ?_ rfl ⟨below_alloc _ _, fun _ => rfl, fun h => absurd h (by omega)⟩
    simp [results, Tryz.results10, go_sem]
  have hs : s.size ≤ 262144 := by omega
  have hbi : ¬ (262144 : Int) < (s.size : Int) := by omega
  have hlen := wordsOf_max (c := 10) (s := s) (by omega)
  obtain ⟨n, hn⟩ : ∃ n, n = (wordsOf 10 s).length := ⟨_, rfl⟩
  have hn2 : n ≤ 262145 := by
    rw [hn, wordsOf_len]
    have := Lib.countB_le ⟨#[10]⟩ (Nat.le_refl 1) s.size s (Nat.le_refl _)
    omega
  clear hlen
  go_enter Tryz.func10, Tryz.ntmps10
  go_wp2_with (go_at_call 26; (with_reducible refine (split_any 10 (by omega) (hmx.below (below_alloc _ _))).mono ?_); rintro e1 w1 ⟨rfl, rfl⟩)
  clear hn2 hn
  have hws2 : (wordsOf 10 s).length ≤ 262145 := by
    rw [wordsOf_len]
    have := Lib.countB_le ⟨#[10]⟩ (Nat.le_refl 1) s.size s (Nat.le_refl _)
    omega
  have hall : ∀ x ∈ wordsOf 10 s, x.size ≤ 262144 := fun x hx => Nat.le_trans (wordsOf_le hx).1 hs
  obtain ⟨o1, ho1⟩ : ∃ o1, o1 = Obj.cells #[.int .i64 0, .int .i64 0] 26 := ⟨_, rfl⟩
  obtain ⟨o2, ho2⟩ : ∃ o2, o2 = Obj.cells ((wordsOf 10 s).map .string).toArray 9 := ⟨_, rfl⟩
  rw [← ho1, ← ho2]
  have hb1 := below_alloc w o1
  have hb2 := below_alloc (w.alloc o1) o2
  have z1 : (w.alloc o1).heap.size = w.heap.size + 1 := by simp
  have hz2 : ((w.alloc o1).alloc o2).heap.size = w.heap.size + 1 + 1 := by simp
  have hB2 : Below w.heap.size w ((w.alloc o1).alloc o2) := hb1.trans (hb2.mono (by omega))
  have hF : ((w.alloc o1).alloc o2).heap[w.heap.size]? = some o1 := (hb2.block _ (by omega)).trans (heap_alloc_new w o1)
  have hR : ((w.alloc o1).alloc o2).heap[w.heap.size + 1]? = some o2 := by have := heap_alloc_new (w.alloc o1) o2; rwa [z1] at this
  generalize (w.alloc o1).alloc o2 = W2 at hz2 hB2 hF hR ⊢
  clear hb1 hb2 z1
  subst ho1 ho2
  have hrd : Rd (fun b => b = w.heap.size + 1) W2 (some ⟨w.heap.size + 1, 0, none⟩) ((wordsOf 10 s).map .string) := .inr ⟨_, 0, rfl, rfl, fun j u hu => by rw [Nat.zero_add, Lib.cell_of_heap hR]; simpa using hu⟩
  have HF := hide hF
  have HRd := hide hrd
  have HB2 := hide hB2
  have hmx2 := hmx.below hB2
  have htab2 := htab.below hB2
  have Hmx := hide hmx2
  have Htab := hide htab2
  clear hF hR hrd hB2 hmx htab hmx2 htab2
  generalize hws : wordsOf 10 s = ws at hws2 hall HRd hrec ⊢
  have Hrec := hide hrec
  clear hrec
  have Hws := hide hws
  have Hall := hide hall
  clear hws hall
  go_loopg [4, 16] ws.length (fun g v i wr => ∃ (q m : Nat) (l : List CIt), q ≤ ws.length ∧ g = ws.length - q ∧ i = .int .i64 q ∧ m ≤ q ∧ Hid (m = l.length) ∧ Hid (RowC W2.heap.size wr v l) ∧ Hid (rowsOf 0 ws = before (l.map (·.c)) (rowsOf q (ws.drop q))) ∧ Hid (Below W2.heap.size W2 wr))
  case atStart => exact ⟨0, 0, [], by omega, by omega, rfl, by omega, hide rfl, hide (RowC.nil _ _), hide (by rw [List.map_nil, before_nil, List.drop_zero]), hide (Below.refl _ _)⟩
  case round =>
    obtain ⟨q, m, l, hq, hg, rfl, hm, Hm, HC, HP, HB⟩ := hrel
    have hzr := HB.out.size
    have hfr : wr.heap[w.heap.size]? = some (.cells #[.int .i64 0, .int .i64 0] 26) := (HB.out.block _ (by omega)).trans HF.out
    have fc0 : wr.cell? ⟨w.heap.size, 0, none⟩ = some (.int .i64 0) := by rw [Lib.cell_of_heap hfr]; rfl
    have fc1 : wr.cell? ⟨w.heap.size, 1, none⟩ = some (.int .i64 0) := by rw [Lib.cell_of_heap hfr]; rfl
    have ff0 : wr.frozen? ⟨w.heap.size, 0, none⟩ = false := by unfold World.frozen?; rw [hfr]; rfl
    have ff1 : wr.frozen? ⟨w.heap.size, 1, none⟩ = false := by unfold World.frozen?; rw [hfr]; rfl
    have hBw : Hid (Below w.heap.size w wr) := hide (HB2.out.trans (HB.out.mono (by omega)))
    clear hfr
    by_cases hlt : q < ws.length
    · have hcw : wr.cell? ⟨w.heap.size + 1, q, none⟩ = some (.string ws[q]) := by
        obtain ⟨b, o, e, hc⟩ := HRd.out.at_ (j := q) (by simpa using hlt)
        injection e with e
        injection e with e1 e2
        subst e1 e2
        rw [Nat.zero_add] at hc
        rw [HB.out.cell (p := ⟨w.heap.size + 1, q, none⟩) (by show w.heap.size + 1 < _; omega), hc]
        simp
      have htm : ws[q] ∈ ws := List.getElem_mem hlt
      have hdr : ws.drop q = ws[q] :: ws.drop (q + 1) := List.drop_eq_getElem_cons hlt
      rw [hdr] at HP
      generalize ws[q] = t at hcw htm HP
      have HP1 : Hid (rowsOf 0 ws = before (l.map (·.c)) (rowsOf q (t :: ws.drop (q + 1)))) := HP
      have htz := Hall.out t htm
      by_cases h0 : t.size = 0
      · have ht0 : t = ⟨#[]⟩ := by
          apply ByteArray.ext
          exact Array.eq_empty_of_size_eq_zero h0
        have HP2 : Hid (rowsOf 0 ws = before (l.map (·.c)) (rowsOf (q + 1) (ws.drop (q + 1)))) := hide (by rw [HP1.out, rowsOf_skip h0])
        subst ht0
        go_wp2_with fail
        go_roundg (ws.length - (q + 1))
        case measure => omega
        case rel => exact ⟨q + 1, m, l, by omega, rfl, by go_num, by omega, Hm, HC, HP2, HB⟩
      · have hne : t.toList.isEmpty = false := by rw [Bool.eq_false_iff, ne_eq, List.isEmpty_iff, size_nil]; omega
        have HPa : Hid (Calls Tryz.prog 34 #[.string t] wr (ParsePost wr t)) := hide (parse_any (by omega) (Hmx.out.below HB.out) (Htab.out.below HB.out) (Hrec.out t htm))
        rcases hl : lineOf (wordsOf 32 t) with _ | c
        · have HX : Hid (rowsOf 0 ws = .error (q + 1)) := hide (by rw [HP1.out, rowsOf_none h0 hl]; rfl)
          have Hl := hide hl
          clear hl
          go_wp2_with (first
            | (go_at_call 34; (with_reducible refine HPa.out.mono ?_); rintro e1 w1 ⟨hB1, hn1, _⟩; have he1 := hn1 Hl.out; subst he1; have gl0 : w.heap.size < w1.heap.size := Nat.lt_of_lt_of_le (by omega) hB1.size; have HB1 := hide hB1; clear hB1 hn1)
            | (refine wpList_store_mid rfl _ _ _ rfl w1.heap.size 0 zeroL.toArray rfl rfl (new_there w1 zeroL _) info20 zero_one ?_; obtain ⟨V, hV, hV1, hV2, hV3⟩ := new_store w1 46 zeroL (zeroL) rfl; rw [← hV]; have gc0 := (hV2.cell (p := ⟨w.heap.size, 0, none⟩) gl0).trans ((HB1.out.cell (p := ⟨w.heap.size, 0, none⟩) (by show w.heap.size < _; omega)).trans fc0); have gc1 := (hV2.cell (p := ⟨w.heap.size, 1, none⟩) gl0).trans ((HB1.out.cell (p := ⟨w.heap.size, 1, none⟩) (by show w.heap.size < _; omega)).trans fc1); have gf0 := (hV2.frozen (p := ⟨w.heap.size, 0, none⟩) gl0).trans ((HB1.out.frozen (p := ⟨w.heap.size, 0, none⟩) (by show w.heap.size < _; omega)).trans ff0); have gf1 := (hV2.frozen (p := ⟨w.heap.size, 1, none⟩) gl0).trans ((HB1.out.frozen (p := ⟨w.heap.size, 1, none⟩) (by show w.heap.size < _; omega)).trans ff1); have HV1 := hide hV1; have HV2 := hide hV2; have HV3 := hide hV3; clear hV hV1 hV2 hV3))
          refine bodyPost_ret (v := .tuple #[.slice none 0 0, .agg #[.int .i64 210, .int .i64 ((q : Int) + 1)]]) ?_ rfl ?_
          · obtain ⟨r0, r1⟩ := set_two (u := .int .i64 210) (v := .int .i64 ((q : Int) + 1)) gc0 gc1
            simp [results, Tryz.results10, go_sem, r0, r1]
          have hb4 : Below w.heap.size w V := (hBw.out.trans (HB1.out.mono (by omega))).trans (HV2.out.mono (by omega))
          refine ⟨(hb4.setCell (p := ⟨w.heap.size, 0, none⟩) (Nat.le_refl _) _).setCell (p := ⟨w.heap.size, 1, none⟩) (Nat.le_refl _) _, fun h => absurd h (by omega), fun _ => ⟨fun i hi => ?_, fun cs hcs => ?_⟩⟩
          · rw [Hws.out, HX.out] at hi
            injection hi with hi
            subst hi
            rfl
          · rw [Hws.out, HX.out] at hcs
            cases hcs
        · have HX : Hid (rowsOf 0 ws = before ((l.map (·.c)) ++ [c]) (rowsOf (q + 1) (ws.drop (q + 1)))) := hide (by rw [HP1.out, rowsOf_some h0 hl, before_before])
          have Hl := hide hl
          have HOm : Hid (wr.ownsRow W2.heap.size 46 20 _ m (l.flatMap CIt.cells)) := hide (by rw [Hm.out]; exact HC.out.1)
          clear hl
          go_wp2_with (first
            | (go_at_call 34; (with_reducible refine HPa.out.mono ?_); rintro e1 w1 ⟨hB1, _, hy1⟩; obtain ⟨x, A, k, he1, hC1⟩ := hy1 c Hl.out; subst he1; have gl0 : w.heap.size < w1.heap.size := Nat.lt_of_lt_of_le (by omega) hB1.size; have HB1 := hide hB1; have HC1 := hide hC1; clear hB1 hy1 hC1)
            | (refine wpList_store_mid rfl _ _ _ rfl w1.heap.size 0 (cmdVs c x A k).toArray rfl rfl (new_there w1 zeroL _) info20 (cmd_one c x A k) ?_; obtain ⟨V, hV, hV1, hV2, hV3⟩ := new_store w1 46 zeroL (cmdVs c x A k) rfl; rw [← hV]; have gc0 := (hV2.cell (p := ⟨w.heap.size, 0, none⟩) gl0).trans ((HB1.out.cell (p := ⟨w.heap.size, 0, none⟩) (by show w.heap.size < _; omega)).trans fc0); have gc1 := (hV2.cell (p := ⟨w.heap.size, 1, none⟩) gl0).trans ((HB1.out.cell (p := ⟨w.heap.size, 1, none⟩) (by show w.heap.size < _; omega)).trans fc1); have gf0 := (hV2.frozen (p := ⟨w.heap.size, 0, none⟩) gl0).trans ((HB1.out.frozen (p := ⟨w.heap.size, 0, none⟩) (by show w.heap.size < _; omega)).trans ff0); have gf1 := (hV2.frozen (p := ⟨w.heap.size, 1, none⟩) gl0).trans ((HB1.out.frozen (p := ⟨w.heap.size, 1, none⟩) (by show w.heap.size < _; omega)).trans ff1); have HV1 := hide hV1; have HV2 := hide hV2; have HV3 := hide hV3; clear hV hV1 hV2 hV3)
            | (refine wpList_load_mid rfl _ _ rfl w1.heap.size 0 rfl (cmdVs c x A k) _ HV1.out Tryz.underlying46 rfl info20 ?_)
            | (at_builtin; refine wpList_row rfl _ _ 23 rfl W2.heap.size 46 Tryz.underlying23 InfoCmd rfl (by decide) _ m (l.flatMap CIt.cells) rfl (own_upto HOm.out (fun b hb => ((HB1.out.trans (HV2.out.mono HB1.out.size)).trans ((below_alloc V _).mono (by have := HV3.out; have := HB1.out.size; omega))).block b (own_blocks HOm.out b hb).2)) (some ⟨V.heap.size, 0, none⟩) 1 1 (cmdVs c x A k) rfl (by simp) rfl (fun ad e => by injection e with e; subst e; intro j u hu; rw [Addr.add_lit, Nat.zero_add, Lib.cell_of_heap (heap_alloc_new V _)]; simpa using hu) (cmd_ones c x A k) (by unfold maxLen; omega) (by omega) (by have := HV3.out; have := HB1.out.size; have := HB.out.size; simp; omega) ?_; intro v1 w4 h4 hg4 hw4; have H4 := hide h4; have HG4 := hide hg4; have HW4 := hide hw4; clear h4 hg4 hw4))
          have hz1 := HB1.out.size
          have hz3 := HV3.out
          obtain ⟨hin, L1, hO, hnd, hge⟩ := HC1.out
          have hBV : Below w1.heap.size w1 (V.alloc (.cells (cmdVs c x A k).toArray 46)) := HV2.out.trans ((below_alloc V _).mono (by omega))
          have hok : CIt.ok (V.alloc (.cells (cmdVs c x A k).toArray 46)) ⟨c, x, A, k⟩ L1 := CIt.ok.keep (w := w1) ⟨hO, hO.inn hin⟩ fun b hb => hBV.block b (hO.lt b hb)
          have hBA : Below wr.heap.size wr (V.alloc (.cells (cmdVs c x A k).toArray 46)) := HB1.out.trans (hBV.mono hz1)
          have hown : w4.ownsRow W2.heap.size 46 20 v1 (l.length + 1) (l.flatMap CIt.cells ++ CIt.cells ⟨c, x, A, k⟩) := by rw [← Hm.out]; exact H4.out
          have hW : Went (V.alloc (.cells (cmdVs c x A k).toArray 46)) w4 u4 v1 l.length 1 := by rw [← Hm.out]; exact HW4.out
          have HCN := hide (HC.out.next hBA HB.out.size hok hnd hge hown HG4.out hW)
          have HBN : Hid (Below W2.heap.size W2 w4) := hide ((HB.out.trans (hBA.mono HB.out.size)).grown HG4.out (by have := hBA.size; omega) fun j hj => (own_blocks HC.out.1 j (mem_ob.2 hj)).1)
          clear hin hO hnd hge hok hBA hown hW hBV
          go_roundg (ws.length - (q + 1))
          case measure => omega
          case rel => exact ⟨q + 1, m + 1, l ++ [⟨c, x, A, k⟩], by omega, rfl, by go_num, by omega, hide (by simp [Hm.out]), HCN, hide (by rw [HX.out, List.map_append]; rfl), HBN⟩
    · have hq2 : q = ws.length := by omega
      have hX : rowsOf 0 ws = .ok (l.map (·.c)) := by
        rw [HP.out, hq2, List.drop_length]
        simp [rowsOf, before]
      have HX := hide hX
      clear hX
      obtain ⟨r0, r1⟩ := set_two (u := .int .i64 0) (v := .int .i64 0) fc0 fc1
      go_wp2_with fail
      refine bodyPost_ret (v := .tuple #[u4, .agg #[.int .i64 0, .int .i64 0]]) ?_ rfl ?_
      · simp [results, Tryz.results10, go_sem, r0, r1]
      refine ⟨(hBw.out.setCell (p := ⟨w.heap.size, 0, none⟩) (Nat.le_refl _) _).setCell (p := ⟨w.heap.size, 1, none⟩) (Nat.le_refl _) _, fun h => absurd h (by omega), fun _ => ⟨fun i hi => ?_, fun cs hcs => ?_⟩⟩
      · rw [Hws.out, HX.out] at hi
        cases hi
      · rw [Hws.out, HX.out] at hcs
        injection hcs with hcs
        refine ⟨l, u4, hcs, rfl, ((HC.out.keep fun b hb => ?_).mono (by omega))⟩
        rw [Below.heap_setCell _ _ _ _ (by show b ≠ w.heap.size; omega), Below.heap_setCell _ _ _ _ (by show b ≠ w.heap.size; omega)]

end Go.Proofs.YtjjaojnglnpgaaaGreatDoor
