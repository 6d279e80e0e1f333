/- Plain data and plain functions: what a node, a hunk, an edit and a patch are, when they are right, and which bytes they have. Nothing here speaks of the program. -/
import Derived.WalkKit
import Derived.WalkLawsBesides
import Derived.WalkSpells
import Derived.BigQuiet
import Derived.Deep.QuietTactic
import Derived.Deep.RegionHeld
import Derived.KernelRfl

set_option linter.unusedVariables false
set_option linter.unusedSimpArgs false

namespace Go.Proofs.YtjjaojnglnpgaaaGreatDoor

/-- A row of nodes: the first one (kind, text, number, kids), and the rest. -/
inductive Fo where
  | nil
  | cons (kind : Nat) (text : ByteArray) (num : Int) (kids rest : Fo)

namespace Fo
def len : Fo → Nat
  | nil => 0
  | cons _ _ _ _ r => r.len + 1
def drop : Nat → Fo → Fo
  | 0, f => f
  | _ + 1, nil => nil
  | i + 1, cons _ _ _ _ r => drop i r
def take : Nat → Fo → Fo
  | 0, _ => nil
  | _ + 1, nil => nil
  | i + 1, cons k t n ks r => cons k t n ks (take i r)
def app : Fo → Fo → Fo
  | nil, g => g
  | cons k t n ks r, g => cons k t n ks (app r g)
/-- nodes, and each eight bytes of a text one -/
def size : Fo → Nat
  | nil => 0
  | cons _ t _ ks r => 1 + t.size / 8 + ks.size + r.size
def wf : Fo → Prop
  | nil => True
  | cons k _ n ks r => k < 256 ∧ -9223372036854775808 ≤ n ∧ n ≤ 9223372036854775807 ∧ ks.wf ∧ r.wf
end Fo

structure Hk where
  at_ : Int
  old : List ByteArray
  new : List ByteArray

structure Ed where
  kind : Nat
  path : List Int
  at_ : Int
  far : Int
  frm : ByteArray
  to : ByteArray
  old : Fo
  new : Fo

structure Pt where
  kind : Nat
  file : ByteArray
  text : ByteArray
  hunk : Hk
  edit : Ed

def noTxt : ByteArray := ⟨#[]⟩
def Hk.zero : Hk := ⟨0, [], []⟩
def Ed.zero : Ed := ⟨0, [], 0, 0, noTxt, noTxt, .nil, .nil⟩
def Pt.zero : Pt := ⟨0, noTxt, noTxt, Hk.zero, Ed.zero⟩

/-! ### when they are right -/

def Letter (c : UInt8) : Prop := (97 ≤ c.toNat ∧ c.toNat ≤ 122) ∨ (65 ≤ c.toNat ∧ c.toNat ≤ 90) ∨ c.toNat = 95
def Digit (c : UInt8) : Prop := 48 ≤ c.toNat ∧ c.toNat ≤ 57
def FileChar (c : UInt8) : Prop := (97 ≤ c.toNat ∧ c.toNat ≤ 122) ∨ (65 ≤ c.toNat ∧ c.toNat ≤ 90) ∨ Digit c ∨ c.toNat = 46 ∨ c.toNat = 95
/-- func var if else while return print true false len read -/
def words : List (List UInt8) :=
  [[102, 117, 110, 99], [118, 97, 114], [105, 102], [101, 108, 115, 101], [119, 104, 105, 108, 101], [114, 101, 116, 117, 114, 110], [112, 114, 105, 110, 116],
   [116, 114, 117, 101], [102, 97, 108, 115, 101], [108, 101, 110], [114, 101, 97, 100]]
def FileName (s : ByteArray) : Prop := 1 ≤ s.size ∧ s.size ≤ 24 ∧ ∀ c ∈ s.data.toList, FileChar c
def LexName (s : ByteArray) : Prop :=
  s.size ≤ 24 ∧ (∃ c l, s.data.toList = c :: l ∧ Letter c) ∧ s.data.toList ∉ words ∧ ∀ c ∈ s.data.toList, Letter c ∨ Digit c

/-- A line: not empty, no byte 10 but at its end; the last one of a row may have none. -/
def LineIn (last : Bool) (s : List UInt8) : Prop := s ≠ [] ∧ (∀ i, i + 1 < s.length → s[i]? ≠ some 10) ∧ (last = true ∨ s.getLast? = some 10)
def LinesOk : List ByteArray → Prop
  | [] => True
  | s :: l => LineIn l.isEmpty s.data.toList ∧ LinesOk l
def HkOk (h : Hk) : Prop := 0 ≤ h.at_ ∧ h.at_ ≤ 1099511627776 ∧ LinesOk h.old ∧ LinesOk h.new ∧ h.old ≠ h.new

def Expr (k : Nat) : Prop := 20 ≤ k ∧ k ≤ 29
def Stmt (k : Nat) : Prop := (6 ≤ k ∧ k ≤ 12) ∨ k = 5
/-- how many kids; none: any number -/
def many (k : Nat) : Option Nat :=
  if k = 1 ∨ k = 3 ∨ k = 5 ∨ k = 25 then none
  else if k = 2 ∨ k = 7 ∨ k = 9 ∨ k = 24 ∨ k = 26 ∨ k = 27 then some 2
  else if k = 8 then some 3
  else if k = 6 ∨ k = 10 ∨ k = 11 ∨ k = 23 ∨ k = 28 ∨ k = 12 then some 1
  else some 0
def FitsIn (p k i : Nat) : Prop :=
  (∀ n, many p = some n → i < n) ∧
  (if p = 1 then k = 2
   else if p = 2 then (i = 0 ∧ k = 3) ∨ (i = 1 ∧ k = 5)
   else if p = 3 then k = 4
   else if p = 5 then Stmt k
   else if p = 7 then (i = 0 ∧ (k = 22 ∨ k = 26)) ∨ (i = 1 ∧ Expr k)
   else if p = 8 ∨ p = 9 then (i = 0 ∧ Expr k) ∨ (0 < i ∧ k = 5)
   else if p = 12 then k = 25
   else Expr k)
def Named (k : Nat) : Prop := k = 2 ∨ k = 4 ∨ k = 6 ∨ k = 22 ∨ k = 25
instance (k : Nat) : Decidable (Named k) := by unfold Named; infer_instance
/-- || && == != < <= > >= + - * / % -/
def binaries : List (List UInt8) := [[124, 124], [38, 38], [61, 61], [33, 61], [60], [60, 61], [62], [62, 61], [43], [45], [42], [47], [37]]
def TextOk (k : Nat) (t : ByteArray) : Prop :=
  if Named k then LexName t
  else if k = 23 then t.data.toList = [45] ∨ t.data.toList = [33]
  else if k = 24 then t.data.toList ∈ binaries
  else t.data.toList = []
def Known (k : Nat) : Prop := (1 ≤ k ∧ k ≤ 12) ∨ Expr k
def NumOk (k : Nat) (n : Int) : Prop := n = 0 ∨ (k = 20 ∧ 0 < n) ∨ (k = 21 ∧ n = 1)
def HeadOk (k : Nat) (t : ByteArray) (n : Int) (cnt : Nat) : Prop := Known k ∧ NumOk k n ∧ TextOk k t ∧ ∀ m, many k = some m → cnt = m
/-- a Set sets a name, or something indexed of a name -/
def SetOk (k : Nat) (kids : Fo) : Prop := k = 7 → match kids with
  | .cons 26 _ _ (.cons j _ _ _ _) _ => j = 22
  | _ => True
/-- the nodes of a row, from the place i on, in a node of kind p: so deep at most -/
def FoOk (m p i : Nat) : Fo → Prop
  | .nil => True
  | .cons k t n ks r => FitsIn p k i ∧ 1 ≤ m ∧ HeadOk k t n ks.len ∧ FoOk (m - 1) k 0 ks ∧ SetOk k ks ∧ FoOk m p (i + 1) r
/-- a node alone -/
def NodeOk (m k : Nat) (t : ByteArray) (n : Int) (ks : Fo) : Prop := 1 ≤ m ∧ HeadOk k t n ks.len ∧ FoOk (m - 1) k 0 ks ∧ SetOk k ks
/-- one right node -/
def PartOk : Fo → Prop
  | .cons k t n ks .nil => NodeOk 40 k t n ks
  | _ => False
def Number (n : Int) : Prop := 0 ≤ n ∧ n ≤ 1073741824
def EdOk (e : Ed) : Prop :=
  (∀ n ∈ e.path, Number n) ∧
  ((e.kind = 1 ∧ e.at_ = 0 ∧ e.far = 0 ∧ e.old = .nil ∧ e.new = .nil ∧ e.path ≠ [] ∧ LexName e.frm ∧ LexName e.to ∧ e.frm ≠ e.to) ∨
   (e.kind = 2 ∧ e.far = 0 ∧ e.frm = noTxt ∧ e.to = noTxt ∧ e.old = .nil ∧ Number e.at_ ∧ PartOk e.new) ∨
   (e.kind = 3 ∧ e.far = 0 ∧ e.frm = noTxt ∧ e.to = noTxt ∧ e.new = .nil ∧ Number e.at_ ∧ PartOk e.old) ∨
   (e.kind = 4 ∧ e.at_ = 0 ∧ e.far = 0 ∧ e.frm = noTxt ∧ e.to = noTxt ∧ e.path ≠ [] ∧ PartOk e.old ∧ PartOk e.new ∧ e.old ≠ e.new) ∨
   (e.kind = 5 ∧ e.frm = noTxt ∧ e.to = noTxt ∧ e.new = .nil ∧ Number e.at_ ∧ Number e.far ∧ e.at_ ≠ e.far ∧ PartOk e.old))
def PtOk (p : Pt) : Prop :=
  FileName p.file ∧
  (((p.kind = 1 ∨ p.kind = 2) ∧ p.hunk = Hk.zero ∧ p.edit = Ed.zero) ∨
   (p.kind = 3 ∧ p.text = noTxt ∧ p.edit = Ed.zero ∧ HkOk p.hunk) ∨
   (p.kind = 4 ∧ p.text = noTxt ∧ p.hunk = Hk.zero ∧ EdOk p.edit))

/-! ### their bytes -/

/-- eight bytes, the highest first -/
def num8 (n : Int) : List UInt8 :=
  let u := (n % 18446744073709551616).toNat
  [UInt8.ofNat (u / 72057594037927936), UInt8.ofNat (u / 281474976710656), UInt8.ofNat (u / 1099511627776), UInt8.ofNat (u / 4294967296),
   UInt8.ofNat (u / 16777216), UInt8.ofNat (u / 65536), UInt8.ofNat (u / 256), UInt8.ofNat u]
def txtB (s : ByteArray) : List UInt8 := num8 s.size ++ s.data.toList
def txtsB (l : List ByteArray) : List UInt8 := num8 l.length ++ (l.map txtB).flatten
def pathB (l : List Int) : List UInt8 := num8 l.length ++ (l.map num8).flatten
/-- nodes, without their number ahead -/
def foB : Fo → List UInt8
  | .nil => []
  | .cons k t n ks r => UInt8.ofNat k :: (txtB t ++ (num8 n ++ (num8 ks.len ++ foB ks))) ++ foB r
def nodesB (f : Fo) : List UInt8 := num8 f.len ++ foB f
def edB (e : Ed) : List UInt8 :=
  UInt8.ofNat e.kind :: (pathB e.path ++ (num8 e.at_ ++ (num8 e.far ++ (txtB e.frm ++ (txtB e.to ++ (nodesB e.old ++ nodesB e.new))))))
def ptB (p : Pt) : List UInt8 :=
  UInt8.ofNat p.kind :: (txtB p.file ++
    (if p.kind = 3 then num8 p.hunk.at_ ++ (txtsB p.hunk.old ++ txtsB p.hunk.new) else if p.kind = 4 then edB p.edit else txtB p.text))

end Go.Proofs.YtjjaojnglnpgaaaGreatDoor

namespace Go.Proofs.YtjjaojnglnpgaaaGreatDoor
open Go.RowKit

theorem hide {p : Prop} (h : p) : Hid p := h

/-- the call hands back a truth value that says P -/
def RetB (P : Prop) (e : Ending) : Prop := ∃ b : Bool, e = .returned (.bool b) ∧ (b = true ↔ P)
theorem RetB.mk {P : Prop} {b : Bool} (h : b = true ↔ P) : RetB P (.returned (.bool b)) := ⟨b, rfl, h⟩
theorem RetB.yes {P : Prop} (h : P) : RetB P (.returned (.bool true)) := ⟨true, rfl, by simp [h]⟩
theorem RetB.no {P : Prop} (h : ¬ P) : RetB P (.returned (.bool false)) := ⟨false, rfl, by simp [h]⟩
theorem RetB.iff {P Q : Prop} {e : Ending} (h : RetB P e) (hpq : P ↔ Q) : RetB Q e := let ⟨b, he, hb⟩ := h; ⟨b, he, hb.trans hpq⟩

theorem mem_idx (s : ByteArray) (k : Nat) (h : k < s.size) : s[k] ∈ s.data.toList := by
  have : s[k] = s.data[k]'(by simpa using h) := rfl
  rw [this]; simp
theorem all_idx {s : ByteArray} {P : UInt8 → Prop} (h : ∀ j, (h' : j < s.size) → P (s[j])) : ∀ c ∈ s.data.toList, P c := by
  intro c hc
  obtain ⟨j, hj, rfl⟩ := List.getElem_of_mem hc
  exact h j (by simpa using hj)

theorem size_nil (s : ByteArray) : s.toList = [] ↔ ¬ 1 ≤ s.size := by
  rw [ByteArray.toList_eq s]
  obtain ⟨⟨l⟩⟩ := s
  show l = [] ↔ ¬ 1 ≤ l.length
  cases l <;> simp

/-! ### rows of cells -/

/-- the cells from the address on hold xs; S: the blocks that are read -/
def Rd (S : Nat → Prop) (w : World) (A : Option Addr) (xs : List Value) : Prop :=
  xs = [] ∨ ∃ b o, A = some ⟨b, o, none⟩ ∧ S b ∧ ∀ j u, xs[j]? = some u → w.cell? ⟨b, o + j, none⟩ = some u

section
variable {S S' : Nat → Prop} {w w' : World} {A : Option Addr} {xs : List Value} {B : Nat}
theorem Rd.keep (h : Rd S w A xs) (hk : ∀ b, S b → w'.heap[b]? = w.heap[b]?) : Rd S w' A xs := by
  rcases h with h | ⟨b, o, rfl, hS, hc⟩
  · exact .inl h
  · exact .inr ⟨b, o, rfl, hS, fun j u hu => (World.cell?_of_block (hk b hS)).trans (hc j u hu)⟩
theorem Rd.mono (h : Rd S w A xs) (hm : ∀ b, b < w.heap.size → S b → S' b) : Rd S' w A xs := by
  rcases h with h | ⟨b, o, rfl, hS, hc⟩
  · exact .inl h
  · rcases xs with _ | ⟨x, xs⟩
    · exact .inl rfl
    · exact .inr ⟨b, o, rfl, hm b (block_lt_of_cell (hc 0 x rfl)) hS, hc⟩
/-- blocks that are read lie in the heap: so nothing new can touch them -/
theorem Rd.below (h : Rd S w A xs) (hb : Below w.heap.size w w') : Rd S w' A xs := by
  rcases h with h | ⟨b, o, rfl, hS, hc⟩
  · exact .inl h
  · exact .inr ⟨b, o, rfl, hS, fun j u hu => (hb.cell (p := ⟨b, o + j, none⟩) (block_lt_of_cell (hc j u hu))).trans (hc j u hu)⟩
theorem Rd.at_ (h : Rd S w A xs) {j : Nat} (hj : j < xs.length) : ∃ b o, A = some ⟨b, o, none⟩ ∧ w.cell? ⟨b, o + j, none⟩ = some xs[j] := by
  rcases h with h | ⟨b, o, rfl, hS, hc⟩
  · subst h; simp at hj
  · exact ⟨b, o, rfl, hc j _ (by simp [hj])⟩
theorem Rd.nil : Rd S w A [] := .inl rfl
theorem below_alloc (w : World) (o : Obj) : Below w.heap.size w (w.alloc o) := (Below.refl _ _).alloc (Nat.le_refl _) _
theorem bcell {W w1 : World} (hb : Below W.heap.size W w1) : (∀ b o, b < W.heap.size → w1.cell? ⟨b, o, none⟩ = W.cell? ⟨b, o, none⟩) ∧ (∀ b o, b < W.heap.size → w1.frozen? ⟨b, o, none⟩ = W.frozen? ⟨b, o, none⟩) :=
  ⟨fun b o h => hb.cell (p := ⟨b, o, none⟩) h, fun b o h => hb.frozen (p := ⟨b, o, none⟩) h⟩
end
theorem below_drewN {B : Nat} {a w : World} (h : Below B a w) (n : Nat) : Below B a (w.drewN n) := ⟨h.os, h.tape, h.output, h.size, h.block⟩
theorem below2 {w : World} (o o' : Obj) : Below w.heap.size w ((w.alloc o).alloc o') := ((Below.refl _ _).alloc (Nat.le_refl _) _).alloc (by simp) _
theorem blw_up {w w1 w2 : World} (h : Below w.heap.size w w1) (h2 : Below w1.heap.size w1 w2) : Below w.heap.size w w2 := h.trans (h2.mono h.size)
theorem blw_up2 {w w2 : World} {o o' : Obj} (h : Below ((w.alloc o).alloc o').heap.size ((w.alloc o).alloc o') w2) : Below w.heap.size w w2 := blw_up (below2 o o') h
theorem blw_undrew {w W : World} (h : Below w.drew.heap.size w.drew W) : Below w.heap.size w W := ⟨h.os, h.tape, h.output, h.size, h.block⟩

theorem below4 {w : World} (a b c d : Obj) : Below w.heap.size w ((((w.alloc a).alloc b).alloc c).alloc d) :=
  ((((Below.refl _ _).alloc (Nat.le_refl _) _).alloc (by simp) _).alloc (by simp; omega) _).alloc (by simp; omega) _
theorem below4d {w : World} (a b c d : Obj) : Below w.heap.size w (((((w.alloc a).alloc b).alloc c).alloc d).drew) :=
  (((((Below.refl _ _).alloc (Nat.le_refl _) _).alloc (by simp) _).alloc (by simp; omega) _).alloc (by simp; omega) _).drew
theorem blw_drewN {w W : World} (h : Below w.heap.size w W) (q : Nat) : Below w.heap.size w (W.drewN q) := below_drewN h q

section
variable {S S' : Nat → Prop} {w w' : World} {A : Option Addr} {xs : List Value} {B : Nat}
theorem Rd.alloc (h : Rd S w A xs) (o : Obj) : Rd S (w.alloc o) A xs := h.below (below_alloc w o)
theorem Rd.drew (h : Rd S w A xs) : Rd S w.drew A xs := h
theorem Rd.drewN (h : Rd S w A xs) (n : Nat) : Rd S (w.drewN n) A xs := h
end

def isInt64 (n : Int) : Prop := -9223372036854775808 ≤ n ∧ n ≤ 9223372036854775807

def StrsIn (S : Nat → Prop) (w : World) (A : Option Addr) (l : List ByteArray) : Prop :=
  Rd S w A (l.map .string) ∧ (∀ s ∈ l, s.size ≤ 9223372036854775807) ∧ l.length ≤ 9223372036854775807
def IntsIn (S : Nat → Prop) (w : World) (A : Option Addr) (l : List Int) : Prop :=
  Rd S w A (l.map (.int .i64)) ∧ (∀ n ∈ l, isInt64 n) ∧ l.length ≤ 9223372036854775807
def bytesV (l : List UInt8) : List Value := l.map fun c => .int .u8 c.toNat
def BytesIn (S : Nat → Prop) (w : World) (A : Option Addr) (l : List UInt8) : Prop :=
  Rd S w A (bytesV l) ∧ l.length ≤ 9223372036854775807

/-- the nodes lie one behind the other from the address on -/
def FoIn (S : Nat → Prop) (w : World) : Option Addr → Fo → Prop
  | _, .nil => True
  | A, .cons k t n ks r => ∃ b o KA c, A = some ⟨b, o, none⟩ ∧ S b ∧ w.cell? ⟨b, o, none⟩ = some (.int .u8 k) ∧ w.cell? ⟨b, o + 1, none⟩ = some (.string t) ∧
      w.cell? ⟨b, o + 2, none⟩ = some (.int .i64 n) ∧ w.cell? ⟨b, o + 3, none⟩ = some (.slice KA ks.len c) ∧
      k < 256 ∧ t.size ≤ 9223372036854775807 ∧ isInt64 n ∧ ks.len ≤ c ∧ c ≤ 9223372036854775807 ∧ FoIn S w KA ks ∧ FoIn S w (some ⟨b, o + 4, none⟩) r

/-! ### nodes -/

def Fo.cnt : Fo → Nat
  | .nil => 0
  | .cons _ _ _ ks r => 1 + ks.cnt + r.cnt
theorem Fo.drop_succ {f : Fo} {i k : Nat} {t : ByteArray} {n : Int} {ks r : Fo} (h : f.drop i = .cons k t n ks r) : f.drop (i + 1) = r := by
  induction i generalizing f with
  | zero => cases f with
    | nil => cases h
    | cons => cases h; rfl
  | succ i ih => cases f with
    | nil => cases h
    | cons => exact ih h
theorem Fo.drop_len : ∀ (f : Fo) (i : Nat), f.len ≤ i → f.drop i = .nil := by
  intro f
  induction f with
  | nil => intro i _; cases i <;> rfl
  | cons k t n ks r _ ih => intro i hi; cases i with
    | zero => simp [Fo.len] at hi
    | succ i => exact ih i (by simp [Fo.len] at hi; omega)
theorem Fo.len_drop : ∀ (f : Fo) (i : Nat), (f.drop i).len = f.len - i := by
  intro f
  induction f with
  | nil => intro i; cases i <;> simp [Fo.drop, Fo.len]
  | cons k t n ks r _ ih => intro i; cases i with
    | zero => simp [Fo.drop]
    | succ i => simp [Fo.drop, Fo.len, ih i]
theorem Fo.len_le_cnt : ∀ f : Fo, f.len ≤ f.cnt := by
  intro f
  induction f with
  | nil => simp [Fo.len, Fo.cnt]
  | cons k t n ks r _ ih => simp [Fo.len, Fo.cnt]; omega

section
variable {S S' : Nat → Prop} {w w' : World} {B : Nat}
theorem FoIn.keep : ∀ {f : Fo} {A : Option Addr}, FoIn S w A f → (∀ b, S b → w'.heap[b]? = w.heap[b]?) → FoIn S w' A f := by
  intro f
  induction f with
  | nil => intro A _ _; exact trivial
  | cons k t n ks r ihk ihr =>
    rintro A ⟨b, o, KA, c, rfl, hS, c0, c1, c2, c3, e1, e2, e3, e4, e5, hks, hr⟩ hk
    have hb := hk b hS
    exact ⟨b, o, KA, c, rfl, hS, (World.cell?_of_block hb).trans c0, (World.cell?_of_block hb).trans c1, (World.cell?_of_block hb).trans c2, (World.cell?_of_block hb).trans c3, e1, e2, e3, e4, e5, ihk hks hk, ihr hr hk⟩
theorem FoIn.mono : ∀ {f : Fo} {A : Option Addr}, FoIn S w A f → (∀ b, b < w.heap.size → S b → S' b) → FoIn S' w A f := by
  intro f
  induction f with
  | nil => intro A _ _; exact trivial
  | cons k t n ks r ihk ihr =>
    rintro A ⟨b, o, KA, c, rfl, hS, c0, c1, c2, c3, e1, e2, e3, e4, e5, hks, hr⟩ hm
    exact ⟨b, o, KA, c, rfl, hm b (block_lt_of_cell c0) hS, c0, c1, c2, c3, e1, e2, e3, e4, e5, ihk hks hm, ihr hr hm⟩
theorem FoIn.below : ∀ {f : Fo} {A : Option Addr}, FoIn S w A f → Below w.heap.size w w' → FoIn S w' A f := by
  intro f A h hb
  have h2 : FoIn (fun b => S b ∧ b < w.heap.size) w A f := h.mono fun b hlt hS => ⟨hS, hlt⟩
  exact (h2.keep (w' := w') fun b hS => hb.block b hS.2).mono fun b _ hS => hS.1
theorem FoIn.alloc {f : Fo} {A : Option Addr} (h : FoIn S w A f) (o : Obj) : FoIn S (w.alloc o) A f := h.below (below_alloc w o)
theorem FoIn.drewN {f : Fo} {A : Option Addr} (h : FoIn S w A f) (q : Nat) : FoIn S (w.drewN q) A f := h.below (below_drewN (Below.refl _ _) q)
/-- the node at a place -/
theorem FoIn.at_ : ∀ {f : Fo} {A : Option Addr} {i : Nat}, FoIn S w A f → i < f.len → ∃ b o KA c k t n ks r, A = some ⟨b, o, none⟩ ∧ f.drop i = .cons k t n ks r ∧
    w.cell? ⟨b, o + i * 4, none⟩ = some (.int .u8 k) ∧ w.cell? ⟨b, o + i * 4 + 1, none⟩ = some (.string t) ∧
    w.cell? ⟨b, o + i * 4 + 2, none⟩ = some (.int .i64 n) ∧ w.cell? ⟨b, o + i * 4 + 3, none⟩ = some (.slice KA ks.len c) ∧
    k < 256 ∧ t.size ≤ 9223372036854775807 ∧ isInt64 n ∧ ks.len ≤ c ∧ c ≤ 9223372036854775807 ∧ FoIn S w KA ks ∧ ks.cnt < f.cnt := by
  intro f
  induction f with
  | nil => intro A i _ h; simp [Fo.len] at h
  | cons k t n ks r ihk ihr =>
    rintro A i ⟨b, o, KA, c, rfl, hS, c0, c1, c2, c3, e1, e2, e3, e4, e5, hks, hr⟩ hi
    cases i with
    | zero => exact ⟨b, o, KA, c, k, t, n, ks, r, rfl, rfl, by simpa using c0, by simpa using c1, by simpa using c2, by simpa using c3, e1, e2, e3, e4, e5, hks, by simp [Fo.cnt]; omega⟩
    | succ i =>
      obtain ⟨b', o', KA', c', k', t', n', ks', r', hA, hd, d0, d1, d2, d3, f1, f2, f3, f4, f5, hks', hcnt⟩ := ihr hr (by simpa [Fo.len] using hi)
      injection hA with hA
      injection hA with h1 h2
      subst h1
      subst h2
      have ho : o + 4 + i * 4 = o + (i + 1) * 4 := by omega
      rw [ho] at d0 d1 d2 d3
      exact ⟨b, o, KA', c', k', t', n', ks', r', rfl, hd, d0, d1, d2, d3, f1, f2, f3, f4, f5, hks', by simp [Fo.cnt]; omega⟩
end

end Go.Proofs.YtjjaojnglnpgaaaGreatDoor

namespace Go.Proofs.YtjjaojnglnpgaaaGreatDoor

def is63 (n : Int) : Prop := -9223372036854775808 ≤ n ∧ n ≤ 9223372036854775807
abbrev max63 : Nat := 9223372036854775807
/-- nothing in it is too large for the machine -/
def Fo.fit : Fo → Prop
  | .nil => True
  | .cons k t n ks r => k < 256 ∧ t.size ≤ max63 ∧ is63 n ∧ ks.len ≤ max63 ∧ ks.fit ∧ r.fit
/-- how deep a row is -/
def Fo.high : Fo → Nat
  | .nil => 0
  | .cons _ _ _ ks r => max (ks.high + 1) r.high

theorem num8_len (n : Int) : (num8 n).length = 8 := rfl
theorem u8_ofNat_toNat (n : Nat) : (UInt8.ofNat n).toNat = n % 256 := by simp
theorem num8_nat {a b : Nat} (ha : a < 18446744073709551616) (hb : b < 18446744073709551616)
    (h0 : a / 72057594037927936 % 256 = b / 72057594037927936 % 256) (h1 : a / 281474976710656 % 256 = b / 281474976710656 % 256) (h2 : a / 1099511627776 % 256 = b / 1099511627776 % 256) (h3 : a / 4294967296 % 256 = b / 4294967296 % 256)
    (h4 : a / 16777216 % 256 = b / 16777216 % 256) (h5 : a / 65536 % 256 = b / 65536 % 256) (h6 : a / 256 % 256 = b / 256 % 256) (h7 : a % 256 = b % 256) : a = b := by
  omega
theorem num8_inj {a b : Int} (ha : is63 a) (hb : is63 b) (h : num8 a = num8 b) : a = b := by
  have hp : (a % 18446744073709551616).toNat = (b % 18446744073709551616).toNat := by
    simp only [num8, List.cons.injEq, and_true] at h
    obtain ⟨h0, h1, h2, h3, h4, h5, h6, h7⟩ := h
    have k0 := congrArg UInt8.toNat h0
    have k1 := congrArg UInt8.toNat h1
    have k2 := congrArg UInt8.toNat h2
    have k3 := congrArg UInt8.toNat h3
    have k4 := congrArg UInt8.toNat h4
    have k5 := congrArg UInt8.toNat h5
    have k6 := congrArg UInt8.toNat h6
    have k7 := congrArg UInt8.toNat h7
    simp only [u8_ofNat_toNat] at k0 k1 k2 k3 k4 k5 k6 k7
    exact num8_nat (by omega) (by omega) k0 k1 k2 k3 k4 k5 k6 k7
  unfold is63 at ha hb
  omega
theorem num8_split {a b : Int} {x y : List UInt8} (ha : is63 a) (hb : is63 b) (h : num8 a ++ x = num8 b ++ y) : a = b ∧ x = y := by
  obtain ⟨h1, h2⟩ := List.append_inj h rfl
  exact ⟨num8_inj ha hb h1, h2⟩
theorem is63_nat {n : Nat} (h : n ≤ max63) : is63 n := by unfold is63; simp only [max63] at h; omega
theorem ba_ext {s t : ByteArray} (h : s.data.toList = t.data.toList) : s = t := by
  obtain ⟨⟨a⟩⟩ := s
  obtain ⟨⟨b⟩⟩ := t
  simp at h
  subst h
  rfl
theorem txtB_split {s t : ByteArray} {x y : List UInt8} (hs : s.size ≤ max63) (ht : t.size ≤ max63) (h : txtB s ++ x = txtB t ++ y) : s = t ∧ x = y := by
  unfold txtB at h
  rw [List.append_assoc, List.append_assoc] at h
  obtain ⟨h1, h2⟩ := num8_split (is63_nat hs) (is63_nat ht) h
  have hl : s.data.toList.length = t.data.toList.length := by
    have e1 : s.data.toList.length = s.size := by simp
    have e2 : t.data.toList.length = t.size := by simp
    omega
  obtain ⟨h3, h4⟩ := List.append_inj h2 hl
  exact ⟨ba_ext h3, h4⟩

/-- a row of things, each with its bytes -/
def rowB {α : Type} (enc : α → List UInt8) (l : List α) : List UInt8 := num8 l.length ++ (l.map enc).flatten
theorem flat_split {α : Type} {enc : α → List UInt8} {fit : α → Prop} (hs : ∀ a b x y, fit a → fit b → enc a ++ x = enc b ++ y → a = b ∧ x = y) :
    ∀ {l m : List α} {x y : List UInt8}, (∀ a ∈ l, fit a) → (∀ a ∈ m, fit a) → l.length = m.length → (l.map enc).flatten ++ x = (m.map enc).flatten ++ y → l = m ∧ x = y := by
  intro l
  induction l with
  | nil => intro m x y _ _ hlen h; cases m with
    | nil => exact ⟨rfl, h⟩
    | cons => simp at hlen
  | cons a l ih => intro m x y hl hm hlen h; cases m with
    | nil => simp at hlen
    | cons b m =>
      simp only [List.map_cons, List.flatten_cons, List.append_assoc] at h
      obtain ⟨e1, h1⟩ := hs a b _ _ (hl a (by simp)) (hm b (by simp)) h
      obtain ⟨e2, h2⟩ := ih (fun c hc => hl c (List.mem_cons_of_mem _ hc)) (fun c hc => hm c (List.mem_cons_of_mem _ hc)) (by simpa using hlen) h1
      exact ⟨by rw [e1, e2], h2⟩
theorem rowB_split {α : Type} {enc : α → List UInt8} {fit : α → Prop} (hs : ∀ a b x y, fit a → fit b → enc a ++ x = enc b ++ y → a = b ∧ x = y)
    {l m : List α} {x y : List UInt8} (hl : (∀ a ∈ l, fit a) ∧ l.length ≤ max63) (hm : (∀ a ∈ m, fit a) ∧ m.length ≤ max63) (h : rowB enc l ++ x = rowB enc m ++ y) : l = m ∧ x = y := by
  unfold rowB at h
  rw [List.append_assoc, List.append_assoc] at h
  obtain ⟨h1, h2⟩ := num8_split (is63_nat hl.2) (is63_nat hm.2) h
  exact flat_split hs hl.1 hm.1 (by omega) h2
theorem txtsB_row (l : List ByteArray) : txtsB l = rowB txtB l := rfl
theorem pathB_row (l : List Int) : pathB l = rowB num8 l := rfl
def StrsFit (l : List ByteArray) : Prop := (∀ s ∈ l, s.size ≤ max63) ∧ l.length ≤ max63
def IntsFit (l : List Int) : Prop := (∀ n ∈ l, is63 n) ∧ l.length ≤ max63
theorem txtsB_split {l m : List ByteArray} {x y : List UInt8} (hl : StrsFit l) (hm : StrsFit m) (h : txtsB l ++ x = txtsB m ++ y) : l = m ∧ x = y :=
  rowB_split (enc := txtB) (fit := fun s => s.size ≤ max63) (fun _ _ _ _ ha hb h => txtB_split ha hb h) hl hm h
theorem pathB_split {l m : List Int} {x y : List UInt8} (hl : IntsFit l) (hm : IntsFit m) (h : pathB l ++ x = pathB m ++ y) : l = m ∧ x = y :=
  rowB_split (enc := num8) (fit := is63) (fun _ _ _ _ ha hb h => num8_split ha hb h) hl hm h

theorem kind_inj {j k : Nat} (hj : j < 256) (hk : k < 256) (h : UInt8.ofNat j = UInt8.ofNat k) : j = k := by
  have := congrArg UInt8.toNat h
  simp only [u8_ofNat_toNat] at this
  omega
/-- the bytes of one node -/
def nodeB (k : Nat) (t : ByteArray) (n : Int) (ks : Fo) : List UInt8 := UInt8.ofNat k :: (txtB t ++ (num8 n ++ nodesB ks))
theorem foB_cons (k : Nat) (t : ByteArray) (n : Int) (ks r : Fo) : foB (.cons k t n ks r) = nodeB k t n ks ++ foB r := rfl
theorem foB_split : ∀ {f g : Fo} {x y : List UInt8}, f.fit → g.fit → f.len = g.len → foB f ++ x = foB g ++ y → f = g ∧ x = y := by
  intro f
  induction f with
  | nil => intro g x y _ _ hlen h; cases g with
    | nil => exact ⟨rfl, h⟩
    | cons => simp [Fo.len] at hlen
  | cons k t n ks r ihk ihr => intro g x y hf hg hlen h; cases g with
    | nil => simp [Fo.len] at hlen
    | cons k' t' n' ks' r' =>
      obtain ⟨f1, f2, f3, f4, f5, f6⟩ := hf
      obtain ⟨g1, g2, g3, g4, g5, g6⟩ := hg
      simp only [foB, List.cons_append, List.append_assoc, List.cons.injEq] at h
      obtain ⟨h0, h⟩ := h
      have e0 := kind_inj f1 g1 h0
      obtain ⟨e1, h1⟩ := txtB_split f2 g2 h
      obtain ⟨e2, h2⟩ := num8_split f3 g3 h1
      obtain ⟨hl, h3⟩ := num8_split (is63_nat f4) (is63_nat g4) h2
      obtain ⟨e3, h4⟩ := ihk f5 g5 (by omega) h3
      obtain ⟨e4, h5⟩ := ihr f6 g6 (by simpa [Fo.len] using hlen) h4
      exact ⟨by rw [e0, e1, e2, e3, e4], h5⟩
def NodesFit (f : Fo) : Prop := f.fit ∧ f.len ≤ max63
theorem nodesB_split {f g : Fo} {x y : List UInt8} (hf : NodesFit f) (hg : NodesFit g) (h : nodesB f ++ x = nodesB g ++ y) : f = g ∧ x = y := by
  unfold nodesB at h
  rw [List.append_assoc, List.append_assoc] at h
  obtain ⟨h1, h2⟩ := num8_split (is63_nat hf.2) (is63_nat hg.2) h
  exact foB_split hf.1 hg.1 (by omega) h2
def NodeFit (k : Nat) (t : ByteArray) (n : Int) (ks : Fo) : Prop := k < 256 ∧ t.size ≤ max63 ∧ is63 n ∧ NodesFit ks

structure EdFit (e : Ed) : Prop where
  kind : e.kind < 256
  path : IntsFit e.path
  at_ : is63 e.at_
  far : is63 e.far
  frm : e.frm.size ≤ max63
  to : e.to.size ≤ max63
  old : NodesFit e.old
  new : NodesFit e.new
theorem edB_split {d e : Ed} {x y : List UInt8} (hd : EdFit d) (he : EdFit e) (h : edB d ++ x = edB e ++ y) : d = e ∧ x = y := by
  unfold edB at h
  simp only [List.cons_append, List.append_assoc, List.cons.injEq] at h
  obtain ⟨h0, h⟩ := h
  have a0 := kind_inj hd.kind he.kind h0
  obtain ⟨a1, h⟩ := pathB_split hd.path he.path h
  obtain ⟨a2, h⟩ := num8_split hd.at_ he.at_ h
  obtain ⟨a3, h⟩ := num8_split hd.far he.far h
  obtain ⟨a4, h⟩ := txtB_split hd.frm he.frm h
  obtain ⟨a5, h⟩ := txtB_split hd.to he.to h
  obtain ⟨a6, h⟩ := nodesB_split hd.old he.old h
  obtain ⟨a7, h9⟩ := nodesB_split hd.new he.new h
  clear h
  cases d
  cases e
  simp only at a0 a1 a2 a3 a4 a5 a6 a7
  exact ⟨by rw [a0, a1, a2, a3, a4, a5, a6, a7], h9⟩

structure HkFit (h : Hk) : Prop where
  at_ : is63 h.at_
  old : StrsFit h.old
  new : StrsFit h.new
structure PtFit (p : Pt) : Prop where
  kind : p.kind < 256
  file : p.file.size ≤ max63
  text : p.text.size ≤ max63
  hunk : HkFit p.hunk
  edit : EdFit p.edit
/-- only the part that the kind names is there -/
def Bare (p : Pt) : Prop := if p.kind = 3 then p.text = noTxt ∧ p.edit = Ed.zero else if p.kind = 4 then p.text = noTxt ∧ p.hunk = Hk.zero else p.hunk = Hk.zero ∧ p.edit = Ed.zero
theorem PtOk.bare {p : Pt} (h : PtOk p) : Bare p := by
  unfold Bare
  obtain ⟨_, ⟨h1 | h1, h2, h3⟩ | ⟨h1, h2, h3, _⟩ | ⟨h1, h2, h3, _⟩⟩ := h <;> simp [*]
theorem ptB_split {p q : Pt} {x y : List UInt8} (hp : PtFit p) (hq : PtFit q) (bp : Bare p) (bq : Bare q) (h : ptB p ++ x = ptB q ++ y) : p = q ∧ x = y := by
  unfold ptB at h
  simp only [List.cons_append, List.append_assoc, List.cons.injEq] at h
  obtain ⟨h0, h⟩ := h
  have a0 := kind_inj hp.kind hq.kind h0
  obtain ⟨a1, g⟩ := txtB_split hp.file hq.file h
  clear h
  unfold Bare at bp bq
  obtain ⟨pk, pf, pt, ph, pe⟩ := p
  obtain ⟨qk, qf, qt, qh, qe⟩ := q
  obtain ⟨_, _, p3, p4, p5⟩ := hp
  obtain ⟨_, _, q3, q4, q5⟩ := hq
  simp only at *
  subst a0
  subst a1
  by_cases h3 : pk = 3
  · simp only [h3, if_true] at g bp bq
    rw [List.append_assoc, List.append_assoc, List.append_assoc, List.append_assoc] at g
    obtain ⟨b1, g1⟩ := num8_split p4.at_ q4.at_ g
    obtain ⟨b2, g2⟩ := txtsB_split p4.old q4.old g1
    obtain ⟨b3, g3⟩ := txtsB_split p4.new q4.new g2
    obtain ⟨c1, c2⟩ := bp
    obtain ⟨c3, c4⟩ := bq
    have e : ph = qh := by
      cases ph
      cases qh
      simp only at b1 b2 b3
      rw [b1, b2, b3]
    exact ⟨by rw [c1, c2, c3, c4, e], g3⟩
  · by_cases h4 : pk = 4
    · rw [if_neg h3, if_pos h4] at bp bq
      rw [if_neg h3, if_pos h4, if_neg h3, if_pos h4] at g
      obtain ⟨b1, g1⟩ := edB_split p5 q5 g
      obtain ⟨c1, c2⟩ := bp
      obtain ⟨c3, c4⟩ := bq
      exact ⟨by rw [c1, c2, c3, c4, b1], g1⟩
    · rw [if_neg h3, if_neg h4] at bp bq
      rw [if_neg h3, if_neg h4, if_neg h3, if_neg h4] at g
      obtain ⟨b1, g1⟩ := txtB_split p3 q3 g
      obtain ⟨c1, c2⟩ := bp
      obtain ⟨c3, c4⟩ := bq
      exact ⟨by rw [c1, c2, c3, c4, b1], g1⟩

/-! ### the pieces of a row of nodes -/
theorem Fo.len_app : ∀ f g : Fo, (f.app g).len = f.len + g.len := by
  intro f
  induction f with
  | nil => intro g; simp [Fo.app, Fo.len]
  | cons k t n ks r _ ih => intro g; simp [Fo.app, Fo.len, ih g]; omega
theorem foB_app : ∀ f g : Fo, foB (f.app g) = foB f ++ foB g := by
  intro f
  induction f with
  | nil => intro g; rfl
  | cons k t n ks r _ ih => intro g; simp [Fo.app, foB, ih g]
theorem Fo.app_nil : ∀ f : Fo, f.app .nil = f := by
  intro f
  induction f with
  | nil => rfl
  | cons k t n ks r _ ih => simp [Fo.app, ih]
theorem Fo.app_assoc : ∀ f g h : Fo, (f.app g).app h = f.app (g.app h) := by
  intro f g h
  induction f with
  | nil => rfl
  | cons k t n ks r _ ih => simp [Fo.app, ih]
theorem Fo.take_drop : ∀ (i : Nat) (f : Fo), (f.take i).app (f.drop i) = f := by
  intro i
  induction i with
  | zero => intro f; cases f <;> rfl
  | succ i ih => intro f; cases f with
    | nil => rfl
    | cons k t n ks r => simp [Fo.take, Fo.drop, Fo.app, ih r]
theorem Fo.len_take : ∀ (i : Nat) (f : Fo), i ≤ f.len → (f.take i).len = i := by
  intro i
  induction i with
  | zero => intro f _; cases f <;> rfl
  | succ i ih => intro f h; cases f with
    | nil => simp [Fo.len] at h
    | cons k t n ks r => simp [Fo.take, Fo.len, ih r (by simpa [Fo.len] using h)]
theorem Fo.fit_app : ∀ {f g : Fo}, (f.app g).fit ↔ f.fit ∧ g.fit := by
  intro f g
  induction f with
  | nil => simp [Fo.app, Fo.fit]
  | cons k t n ks r _ ih => simp [Fo.app, Fo.fit, ih]; grind
theorem Fo.high_app : ∀ {f g : Fo}, (f.app g).high = max f.high g.high := by
  intro f g
  induction f with
  | nil => simp [Fo.app, Fo.high]
  | cons k t n ks r _ ih => simp [Fo.app, Fo.high, ih, Nat.max_assoc]
theorem Fo.fit_take {f : Fo} (i : Nat) (h : f.fit) : (f.take i).fit ∧ (f.drop i).fit := by
  rw [← Fo.take_drop i f] at h
  exact Fo.fit_app.mp h
/-- If so many nodes of a row were read, the rest of the row stands there. -/
theorem foB_behind {f g : Fo} {x y : List UInt8} (hf : f.fit) (hg : g.fit) (hle : f.len ≤ g.len) (h : foB f ++ x = foB g ++ y) : f = g.take f.len ∧ x = foB (g.drop f.len) ++ y := by
  rw [← Fo.take_drop f.len g, foB_app, List.append_assoc] at h
  have := Fo.fit_take f.len hg
  exact foB_split hf this.1 (Fo.len_take _ _ hle).symm h
theorem flat_behind {α : Type} {enc : α → List UInt8} {fit : α → Prop} (hs : ∀ a b x y, fit a → fit b → enc a ++ x = enc b ++ y → a = b ∧ x = y)
    {l m : List α} {x y : List UInt8} (hl : ∀ a ∈ l, fit a) (hm : ∀ a ∈ m, fit a) (hle : l.length ≤ m.length) (h : (l.map enc).flatten ++ x = (m.map enc).flatten ++ y) :
    l = m.take l.length ∧ x = ((m.drop l.length).map enc).flatten ++ y := by
  rw [← List.take_append_drop l.length m, List.map_append, List.flatten_append, List.append_assoc] at h
  exact flat_split hs hl (fun a ha => hm a (List.mem_of_mem_take ha)) (by simp; omega) h

/-! ### how long -/
theorem txtB_len (s : ByteArray) : (txtB s).length = 8 + s.size := by
  have e1 : s.data.toList.length = s.size := by simp
  unfold txtB
  rw [List.length_append, num8_len, e1]
theorem flat_len8 {α : Type} {enc : α → List UInt8} (h8 : ∀ a, 8 ≤ (enc a).length) (l : List α) : 8 * l.length ≤ (l.map enc).flatten.length := by
  induction l with
  | nil => simp
  | cons a l ih => simp only [List.map_cons, List.flatten_cons, List.length_append, List.length_cons]; have := h8 a; omega
theorem foB_len : ∀ f : Fo, 8 * f.len ≤ (foB f).length := by
  intro f
  induction f with
  | nil => simp [Fo.len]
  | cons k t n ks r _ ih => simp [Fo.len, foB, txtB_len, num8_len]; omega

end Go.Proofs.YtjjaojnglnpgaaaGreatDoor

namespace Go.Proofs.YtjjaojnglnpgaaaGreatDoor
open Go.RowKit

/-- where the rows of a hunk, an edit, a patch lie, and how much room they have -/
structure Hh where
  oA : Option Addr
  oc : Nat
  nA : Option Addr
  nc : Nat
structure Eh where
  pA : Option Addr
  pc : Nat
  oA : Option Addr
  oc : Nat
  nA : Option Addr
  nc : Nat
structure Ph where
  h : Hh
  e : Eh

structure HkIn (S : Nat → Prop) (w : World) (x : Hh) (h : Hk) : Prop where
  at_ : isInt64 h.at_
  old : StrsIn S w x.oA h.old
  new : StrsIn S w x.nA h.new
  oc : h.old.length ≤ x.oc ∧ x.oc ≤ 9223372036854775807
  nc : h.new.length ≤ x.nc ∧ x.nc ≤ 9223372036854775807
structure EdIn (S : Nat → Prop) (w : World) (x : Eh) (e : Ed) : Prop where
  kind : e.kind < 256
  path : IntsIn S w x.pA e.path
  at_ : isInt64 e.at_
  far : isInt64 e.far
  frm : e.frm.size ≤ 9223372036854775807
  to : e.to.size ≤ 9223372036854775807
  old : FoIn S w x.oA e.old
  new : FoIn S w x.nA e.new
  pc : e.path.length ≤ x.pc ∧ x.pc ≤ 9223372036854775807
  oc : e.old.len ≤ x.oc ∧ x.oc ≤ 9223372036854775807
  nc : e.new.len ≤ x.nc ∧ x.nc ≤ 9223372036854775807
structure PtIn (S : Nat → Prop) (w : World) (x : Ph) (p : Pt) : Prop where
  kind : p.kind < 256
  file : p.file.size ≤ 9223372036854775807
  text : p.text.size ≤ 9223372036854775807
  hunk : HkIn S w x.h p.hunk
  edit : EdIn S w x.e p.edit

section
variable {S S' : Nat → Prop} {w w' : World} {A : Option Addr}
theorem StrsIn.keep {l : List ByteArray} (h : StrsIn S w A l) (hk : ∀ b, S b → w'.heap[b]? = w.heap[b]?) : StrsIn S w' A l := ⟨h.1.keep hk, h.2⟩
theorem StrsIn.mono {l : List ByteArray} (h : StrsIn S w A l) (hm : ∀ b, b < w.heap.size → S b → S' b) : StrsIn S' w A l := ⟨h.1.mono hm, h.2⟩
theorem StrsIn.below {l : List ByteArray} (h : StrsIn S w A l) (hb : Below w.heap.size w w') : StrsIn S w' A l := ⟨h.1.below hb, h.2⟩
theorem IntsIn.keep {l : List Int} (h : IntsIn S w A l) (hk : ∀ b, S b → w'.heap[b]? = w.heap[b]?) : IntsIn S w' A l := ⟨h.1.keep hk, h.2⟩
theorem IntsIn.mono {l : List Int} (h : IntsIn S w A l) (hm : ∀ b, b < w.heap.size → S b → S' b) : IntsIn S' w A l := ⟨h.1.mono hm, h.2⟩
theorem IntsIn.below {l : List Int} (h : IntsIn S w A l) (hb : Below w.heap.size w w') : IntsIn S w' A l := ⟨h.1.below hb, h.2⟩
theorem BytesIn.keep {l : List UInt8} (h : BytesIn S w A l) (hk : ∀ b, S b → w'.heap[b]? = w.heap[b]?) : BytesIn S w' A l := ⟨h.1.keep hk, h.2⟩
theorem BytesIn.mono {l : List UInt8} (h : BytesIn S w A l) (hm : ∀ b, b < w.heap.size → S b → S' b) : BytesIn S' w A l := ⟨h.1.mono hm, h.2⟩
theorem BytesIn.below {l : List UInt8} (h : BytesIn S w A l) (hb : Below w.heap.size w w') : BytesIn S w' A l := ⟨h.1.below hb, h.2⟩
theorem HkIn.keep {x : Hh} {h : Hk} (a : HkIn S w x h) (hk : ∀ b, S b → w'.heap[b]? = w.heap[b]?) : HkIn S w' x h := ⟨a.at_, a.old.keep hk, a.new.keep hk, a.oc, a.nc⟩
theorem HkIn.mono {x : Hh} {h : Hk} (a : HkIn S w x h) (hm : ∀ b, b < w.heap.size → S b → S' b) : HkIn S' w x h := ⟨a.at_, a.old.mono hm, a.new.mono hm, a.oc, a.nc⟩
theorem HkIn.below {x : Hh} {h : Hk} (a : HkIn S w x h) (hb : Below w.heap.size w w') : HkIn S w' x h := ⟨a.at_, a.old.below hb, a.new.below hb, a.oc, a.nc⟩
theorem EdIn.keep {x : Eh} {e : Ed} (a : EdIn S w x e) (hk : ∀ b, S b → w'.heap[b]? = w.heap[b]?) : EdIn S w' x e := ⟨a.kind, a.path.keep hk, a.at_, a.far, a.frm, a.to, a.old.keep hk, a.new.keep hk, a.pc, a.oc, a.nc⟩
theorem EdIn.mono {x : Eh} {e : Ed} (a : EdIn S w x e) (hm : ∀ b, b < w.heap.size → S b → S' b) : EdIn S' w x e := ⟨a.kind, a.path.mono hm, a.at_, a.far, a.frm, a.to, a.old.mono hm, a.new.mono hm, a.pc, a.oc, a.nc⟩
theorem EdIn.below {x : Eh} {e : Ed} (a : EdIn S w x e) (hb : Below w.heap.size w w') : EdIn S w' x e := ⟨a.kind, a.path.below hb, a.at_, a.far, a.frm, a.to, a.old.below hb, a.new.below hb, a.pc, a.oc, a.nc⟩
theorem PtIn.keep {x : Ph} {p : Pt} (a : PtIn S w x p) (hk : ∀ b, S b → w'.heap[b]? = w.heap[b]?) : PtIn S w' x p := ⟨a.kind, a.file, a.text, a.hunk.keep hk, a.edit.keep hk⟩
theorem PtIn.mono {x : Ph} {p : Pt} (a : PtIn S w x p) (hm : ∀ b, b < w.heap.size → S b → S' b) : PtIn S' w x p := ⟨a.kind, a.file, a.text, a.hunk.mono hm, a.edit.mono hm⟩
theorem PtIn.below {x : Ph} {p : Pt} (a : PtIn S w x p) (hb : Below w.heap.size w w') : PtIn S w' x p := ⟨a.kind, a.file, a.text, a.hunk.below hb, a.edit.below hb⟩
end

theorem Hk.eq_iff {a b : Hk} : a = b ↔ a.at_ = b.at_ ∧ a.old = b.old ∧ a.new = b.new := by cases a; cases b; simp
theorem Ed.eq_iff {a b : Ed} : a = b ↔ a.kind = b.kind ∧ a.path = b.path ∧ a.at_ = b.at_ ∧ a.far = b.far ∧ a.frm = b.frm ∧ a.to = b.to ∧ a.old = b.old ∧ a.new = b.new := by cases a; cases b; simp
theorem Pt.eq_iff {a b : Pt} : a = b ↔ a.kind = b.kind ∧ a.file = b.file ∧ a.text = b.text ∧ a.hunk = b.hunk ∧ a.edit = b.edit := by cases a; cases b; simp
theorem Pt.eq_all {a b : Pt} : a = b ↔ a.kind = b.kind ∧ a.file = b.file ∧ a.text = b.text ∧ a.hunk.at_ = b.hunk.at_ ∧ a.hunk.old = b.hunk.old ∧ a.hunk.new = b.hunk.new ∧
    a.edit.kind = b.edit.kind ∧ a.edit.path = b.edit.path ∧ a.edit.at_ = b.edit.at_ ∧ a.edit.far = b.edit.far ∧ a.edit.frm = b.edit.frm ∧ a.edit.to = b.edit.to ∧ a.edit.old = b.edit.old ∧ a.edit.new = b.edit.new := by
  rw [Pt.eq_iff, Hk.eq_iff, Ed.eq_iff]; grind

end Go.Proofs.YtjjaojnglnpgaaaGreatDoor

namespace Go.Proofs.YtjjaojnglnpgaaaGreatDoor
open Go.RowKit

/-- the first n cells of a block are there -/
def Has (w : World) (N n : Nat) : Prop := ∀ j, j < n → ∃ v, w.cell? ⟨N, j, none⟩ = some v
theorem Has.set {w : World} {N n : Nat} (h : Has w N n) (a : Addr) (u : Value) : Has (w.setCell a u) N n := by
  intro j hj
  obtain ⟨v, hv⟩ := h j hj
  by_cases e : a = ⟨N, j, none⟩
  · subst e; exact ⟨u, World.cell?_setCell_same _ _ _ hv⟩
  · exact ⟨v, (World.cell?_setCell_other _ _ _ _ e).trans hv⟩
theorem Has.of_eq {w w' : World} {N n : Nat} (h : Has w N n) (he : ∀ o, w'.cell? ⟨N, o, none⟩ = w.cell? ⟨N, o, none⟩) : Has w' N n := fun j hj => by
  obtain ⟨v, hv⟩ := h j hj
  exact ⟨v, (he j).trans hv⟩
theorem Has.new (w : World) (cs : Array Value) (t : TypeId) (n : Nat) (hn : n ≤ cs.size) : Has (w.alloc (.cells cs t)) w.heap.size n := fun j hj =>
  ⟨cs[j], by rw [World.cell?_alloc_new, Array.getElem?_eq_getElem (by omega)]⟩
theorem cell_set_at {w : World} {N n j : Nat} {v : Value} (h : Has w N n) (hj : j < n) : (w.setCell ⟨N, j, none⟩ v).cell? ⟨N, j, none⟩ = some v := by
  obtain ⟨u, hu⟩ := h j hj
  exact World.cell?_setCell_same _ _ _ hu
theorem Has.new2 (w : World) (a : Obj) (cs : Array Value) (t : TypeId) (n : Nat) (hn : n ≤ cs.size) : Has ((w.alloc a).alloc (.cells cs t)).drew (w.heap.size + 1) n := by
  have h := Has.new (w.alloc a) cs t n hn
  rw [show (w.alloc a).heap.size = w.heap.size + 1 by simp] at h
  exact h

end Go.Proofs.YtjjaojnglnpgaaaGreatDoor

namespace Go.Proofs.YtjjaojnglnpgaaaGreatDoor
open Go.RowKit

theorem FoIn.fit {S : Nat → Prop} {w : World} : ∀ {f : Fo} {A : Option Addr}, FoIn S w A f → f.fit := by
  intro f
  induction f with
  | nil => intro A _; exact trivial
  | cons k t n ks r ihk ihr =>
    rintro A ⟨b, o, KA, c, rfl, hS, c0, c1, c2, c3, e1, e2, e3, e4, e5, hks, hr⟩
    exact ⟨e1, e2, e3, Nat.le_trans e4 e5, ihk hks, ihr hr⟩
theorem EdIn.fit {S : Nat → Prop} {w : World} {x : Eh} {e : Ed} (h : EdIn S w x e) : EdFit e :=
  ⟨h.kind, ⟨h.path.2.1, h.path.2.2⟩, h.at_, h.far, h.frm, h.to, ⟨h.old.fit, Nat.le_trans h.oc.1 h.oc.2⟩, ⟨h.new.fit, Nat.le_trans h.nc.1 h.nc.2⟩⟩
theorem PtIn.fit {S : Nat → Prop} {w : World} {x : Ph} {p : Pt} (h : PtIn S w x p) : PtFit p :=
  ⟨h.kind, h.file, h.text, ⟨h.hunk.at_, ⟨h.hunk.old.2.1, h.hunk.old.2.2⟩, ⟨h.hunk.new.2.1, h.hunk.new.2.2⟩⟩, h.edit.fit⟩
theorem edOk_sum {e : Ed} (h : EdOk e) : e.frm.size + e.to.size ≤ 48 := by
  have h0 : noTxt.size = 0 := rfl
  obtain ⟨_, h | h | h | h | h⟩ := h
  · obtain ⟨_, _, _, _, _, _, h1, h2, _⟩ := h
    have := h1.1
    have := h2.1
    omega
  · obtain ⟨_, _, h1, h2, _⟩ := h; rw [h1, h2]; omega
  · obtain ⟨_, _, h1, h2, _⟩ := h; rw [h1, h2]; omega
  · obtain ⟨_, _, _, h1, h2, _⟩ := h; rw [h1, h2]; omega
  · obtain ⟨_, h1, h2, _⟩ := h; rw [h1, h2]; omega
theorem ptOk_sum {p : Pt} (h : PtOk p) : p.edit.frm.size + p.edit.to.size ≤ 9223372036854775807 := by
  have h0 : Ed.zero.frm.size + Ed.zero.to.size = 0 := rfl
  obtain ⟨_, ⟨_, _, h1⟩ | ⟨_, _, h1, _⟩ | ⟨_, _, _, h1⟩⟩ := h
  · rw [h1, h0]; omega
  · rw [h1, h0]; omega
  · have := edOk_sum h1; omega
theorem ptB_pos (p : Pt) : 0 < (ptB p).length := by simp [ptB]

end Go.Proofs.YtjjaojnglnpgaaaGreatDoor

namespace Go.Proofs.YtjjaojnglnpgaaaGreatDoor
open Go.RowKit

section
variable {P : Program} {ops : Array Oper} {Q : Exit → Act → World → Prop} {md : Region.Mode} {S : World → Prop} {oi : Oper} {fuel n : Nat} {listed : Array Bool} {L : List Value} {df : List Deferred} {w : World}
theorem tk (i : Nat) {v : Value} (hS : S w) (hy : ∀ w, S w → (execOp (Act.mk L.toArray df).eval oi).run P w = .ok (.value v) w)
    (h : wpAnyH P md ops Q S fuel (listed.setIfInBounds i true) ⟨(L.set n v).toArray, df⟩ w)
    (hi : ops[i]? = some oi := by rfl) (hd : oi.dst = some n := by rfl) (hw : Region.wanted oi (yielded ops L.toArray) = true := by rfl)
    (hs : Region.noSelect ops = true := by kernel_rfl) (hf : Region.free md ops listed i = true := by kernel_rfl) (hr : (Region.ready md ops listed).contains i = true := by kernel_rfl)
    (hQ : ∀ c a w, Q (.panic c) (a.put oi.dst v) w → Q (.panic c) a w := by exact fun _ _ _ h => h) : wpAnyH P md ops Q S (fuel + 1) listed ⟨L.toArray, df⟩ w :=
  wpAnyH_take hi hs hf hr hQ (.inl ⟨hw, hy⟩) hS (by
    have e : (Act.mk L.toArray df).put oi.dst v = ⟨(L.set n v).toArray, df⟩ := by rw [hd]; simp [Act.put]
    rw [e]; exact h)
/-- an operation whose guard is not met -/
theorem tn (i : Nat) (hS : S w)
    (h : wpAnyH P md ops Q S fuel (listed.setIfInBounds i true) ⟨(L.set n undef).toArray, df⟩ w)
    (hi : ops[i]? = some oi := by rfl) (hd : oi.dst = some n := by rfl) (hw : Region.wanted oi (yielded ops L.toArray) = false := by rfl)
    (hs : Region.noSelect ops = true := by kernel_rfl) (hf : Region.free md ops listed i = true := by kernel_rfl) (hr : (Region.ready md ops listed).contains i = true := by kernel_rfl)
    (hQ : ∀ c a w, Q (.panic c) (a.put oi.dst undef) w → Q (.panic c) a w := by exact fun _ _ _ h => h) : wpAnyH P md ops Q S (fuel + 1) listed ⟨L.toArray, df⟩ w :=
  wpAnyH_take hi hs hf hr hQ (.inr ⟨hw, rfl⟩) hS (by
    have e : (Act.mk L.toArray df).put oi.dst undef = ⟨(L.set n undef).toArray, df⟩ := by rw [hd]; simp [Act.put]
    rw [e]; exact h)
end

end Go.Proofs.YtjjaojnglnpgaaaGreatDoor
