/- Part 36 of what scriptBack_cardUpto rests on. -/
import Derived.BigRegion
import Derived.Test.YtjjaojnglnpgaaaGreatDoorY14
import Derived.Test.YtjjaojnglnpgaaaGreatDoorY00
set_option linter.unusedVariables false
set_option linter.unusedSimpArgs false
set_option maxHeartbeats 16000000
set_option maxRecDepth 1000000
namespace Go.Proofs.YtjjaojnglnpgaaaGreatDoor
section
open Go.RowKit
abbrev BB:List Value:=[.int .u8 0,.string {data:=#[]},.string {data:=#[]},.int .i64 0,.slice none 0 0,.slice none 0 0,.int .u8 0,.slice none 0 0,.int .i64 0,.int .i64 0,.string {data:=#[]},.string {data:=#[]},.slice none 0 0,.slice none 0 0]
theorem rE(w:World):Calls Tryz.prog 43 #[.agg BB.toArray] w fun e w'=>e = .returned (.bool true)∧Below w.heap.size w w':=by
 have hB:=az w (.cells BB.toArray 43);have HB:=hide hB;clear hB;go_enter Tryz.func43,Tryz.ntmps43
 go_wp2_with fail
 go_region
 all_goals go_wp2_with fail
 all_goals go_ret
 all_goals refine⟨rfl,?_⟩
 all_goals exact((HB.out.alloc HB.out.size _).alloc (aI HB.out.size (by simp)) _).drew
end
end Go.Proofs.YtjjaojnglnpgaaaGreatDoor
