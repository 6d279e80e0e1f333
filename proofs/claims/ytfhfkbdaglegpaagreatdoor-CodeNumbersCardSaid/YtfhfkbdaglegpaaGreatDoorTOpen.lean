/- The arguments' readings say what lies in memory. -/
import Derived.Test.YtfhfkbdaglegpaaGreatDoorRows
import Derived.ChangeSlices
import Derived.SliceStrings
import Derived.Test.YtfhfkbdaglegpaaGreatDoorTBase

set_option linter.unusedVariables false
set_option linter.unusedSimpArgs false

namespace Go.Proofs.YtfhfkbdaglegpaaGreatDoor
open Go.RowKit Go.ChangeShapes Go.WideShapes

section
variable {P : Program} {H : Type} {enc : TypeId × Value → H} {w : World} {spare : Nat → Bool} {held : Bool} {t e : TypeId} {fuel : Nat} {cs : List Value} {x : DataW H × List MemPlace}
end

end Go.Proofs.YtfhfkbdaglegpaaGreatDoor

namespace Go.Proofs.YtfhfkbdaglegpaaGreatDoor
open Go.RowKit Go.ChangeShapes Go.WideShapes

theorem c_u8 : Tryz.prog.cellsOf 5 = 1 := by kernel_rfl
theorem u_u8 : Tryz.prog.underlying 5 = some (.int .u8) := by kernel_rfl
section
variable {H : Type} {enc : TypeId × Value → H} {w : World} {spare : Nat → Bool} {held : Bool}
theorem nodes_len (f : Fo) : (nodesB f).length = 8 + (foB f).length := by
  have h8 : ∀ n : Int, (num8 n).length = 8 := fun n => rfl
  simp only [nodesB, List.length_append, h8]
theorem foB_size (k : Nat) (t : ByteArray) (n : Int) (ks r : Fo) : (foB (.cons k t n ks r)).length = 25 + t.size + (foB ks).length + (foB r).length := by
  have h8 : ∀ n : Int, (num8 n).length = 8 := fun n => rfl
  have hs : t.data.toList.length = t.size := rfl
  simp only [foB, txtB, List.length_cons, List.length_append, h8, hs]
  omega

end

end Go.Proofs.YtfhfkbdaglegpaaGreatDoor

namespace Go.Proofs.YtfhfkbdaglegpaaGreatDoor
open Go.RowKit Go.ChangeShapes Go.WideShapes

section
variable {H : Type} {enc : TypeId × Value → H} {w : World} {spare : Nat → Bool} {held : Bool}
theorem n8 : ∀ n : Int, (num8 n).length = 8 := fun n => rfl
theorem txt_len (t : ByteArray) : (txtB t).length = 8 + t.size := by
  have hs : t.data.toList.length = t.size := rfl
  simp only [txtB, List.length_append, n8, hs]
end

end Go.Proofs.YtfhfkbdaglegpaaGreatDoor

namespace Go.Proofs.YtfhfkbdaglegpaaGreatDoor
open Go.RowKit Go.ChangeShapes Go.WideShapes

section
variable {H : Type} {enc : TypeId × Value → H} {w : World} {spare : Nat → Bool} {held : Bool}
end

end Go.Proofs.YtfhfkbdaglegpaaGreatDoor

namespace Go.Proofs.YtfhfkbdaglegpaaGreatDoor
open Go.RowKit Go.ChangeShapes Go.WideShapes

section
variable {H : Type} {enc : TypeId × Value → H} {w : World} {spare : Nat → Bool} {held : Bool}
end
theorem pathB_rows : ∀ l : List Int, (pathB l).length = 8 + 8 * l.length := by
  intro l
  have h : ∀ l : List Int, ((l.map num8).flatten).length = 8 * l.length := by
    intro l
    induction l with
    | nil => simp
    | cons s r ih => simp only [List.map_cons, List.flatten_cons, List.length_append, List.length_cons, n8, ih]; omega
  simp only [pathB, List.length_append, n8, h]
end Go.Proofs.YtfhfkbdaglegpaaGreatDoor
