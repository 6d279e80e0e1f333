/- Part 10 of what scriptBack_cardUpto rests on. -/
import Derived.Test.YtjjaojnglnpgaaaGreatDoorRows
import Derived.Test.YtjjaojnglnpgaaaGreatDoorTie
import Derived.ProofKit
import Derived.Lib.LaidTab
import Derived.LaidLaws
import Derived.Deep.DeepLaidRun
import Derived.Test.YtjjaojnglnpgaaaGreatDoorProg
import Derived.Test.YtjjaojnglnpgaaaGreatDoorY01
import Derived.Test.YtjjaojnglnpgaaaGreatDoorY03
import Derived.Test.YtjjaojnglnpgaaaGreatDoorY00
set_option linter.unusedVariables false
set_option linter.unusedSimpArgs false
set_option maxHeartbeats 16000000
set_option maxRecDepth 1000000
namespace Go.Proofs.YtjjaojnglnpgaaaGreatDoor
section
open Go.RowKit
theorem uX:ownKnob Tryz.prog.godebug=none:=by kernel_rfl
def Gn:DataW Unit→List Value
 | .lit (.int k n)=>[.int k n]
 | .agg l=>l.flatMap fun | .lit (.int k n)=>[Value.int k n]|_=>[]
 | _=>[]
def flat:DataW Unit→Array Value
 | .agg l=>(l.flatMap Gn).toArray
 | _=>#[]
noncomputable def laidWorld(os:Os):World :=
 let N:=(World.settled Tryz.prog os).heap.size
 let w0:=World.holding Tryz.prog os ⟨#[
  .cells #[.int .u16 9,.int .u16 13,.int .u16 1,.int .u16 32,.int .u16 133,.int .u16 101,.int .u16 160,.int .u16 5760,.int .u16 5600,.int .u16 8192,.int .u16 8202,.int .u16 1,.int .u16 8232,.int .u16 8233,.int .u16 1,.int .u16 8239,.int .u16 8287,.int .u16 48,.int .u16 12288,.int .u16 12288,.int .u16 1] 381,
  .cells #[.slice (some ⟨N,0,none⟩) 7 7,.slice none 0 0,.int .i64 2] 378],#[],[]⟩
 let put (h:Array Obj) (g:Nat) (cs:Array Value):Array Obj:=h.modify g fun
  | .cells _ t frozen=> .cells cs t frozen
  | o=>o
 let h1:=put w0.heap 5 (flat Rows.laid_strings_asciiSpace)
 let h2:=put h1 8 #[.pointer (some ⟨N+1,0,none⟩)]
 let h3:=put h2 6 (flat Rows.laid_math_bits_deBruijn32tab)
 let h4:=put h3 7 (flat Rows.laid_math_bits_deBruijn64tab)
 let h5:=put h4 4 (flat Rows.laid_internal_strconv_uint64pow10)
 let h6:=put h5 3 (flat Rows.laid_unicode_utf8_acceptRanges)
 let h7:=put h6 2 (flat Rows.laid_unicode_utf8_first)
 {w0 with heap:=h7}
theorem laid_met (os : Os) (args : Array Value) : laidMet Tryz.prog [("math/bits.deBruijn32tab", Rows.laid_math_bits_deBruijn32tab), ("math/bits.deBruijn64tab", Rows.laid_math_bits_deBruijn64tab), ("internal/strconv.uint64pow10", Rows.laid_internal_strconv_uint64pow10), ("unicode/utf8.acceptRanges", Rows.laid_unicode_utf8_acceptRanges), ("unicode.White_Space", Rows.laid_unicode_White_Space), ("strings.asciiSpace", Rows.laid_strings_asciiSpace), ("unicode/utf8.first", Rows.laid_unicode_utf8_first)] ((laidWorld os).forCall (fun _ _ => 0) ⟨#[], args, []⟩).memory :=
 laidMet_of_run3 12 (by kernel_rfl) (by kernel_rfl) (by kernel_rfl)
end
end Go.Proofs.YtjjaojnglnpgaaaGreatDoor
