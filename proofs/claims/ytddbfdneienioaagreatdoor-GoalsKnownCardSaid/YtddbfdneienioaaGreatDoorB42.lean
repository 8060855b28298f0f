/-
  Steps to a law of this program: SK23J4.
  Conditions: none.
-/
import Derived.Test.YtddbfdneienioaaGreatDoorB40
import Derived.Test.YtddbfdneienioaaGreatDoorB41
set_option linter.unusedVariables false
set_option linter.unusedSimpArgs false
set_option linter.unusedSectionVars false
namespace Go.Abs
noncomputable section
open Go.Proofs

def k23T4 : List (FuncId × List (List AV × AV)) := (38, k23R38p0) :: (40, k23R40p0) :: (75, k23R75p0) :: (102, k23R102p0) :: k23T3
theorem k23T4_ok : TabHolds Tryz.prog k23T4 := (tab_cons k23T3_ok k23R38p0_ok (tab_cons k23T3_ok k23R40p0_ok (tab_cons k23T3_ok k23R75p0_ok (tab_cons k23T3_ok k23R102p0_ok k23T3_ok))))
end
end Go.Abs
