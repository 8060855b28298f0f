/-
  Steps to a law of this program: SK23J3.
  Conditions: none.
-/
import Derived.Test.YtddbfdneienioaaGreatDoorB36
import Derived.Test.YtddbfdneienioaaGreatDoorB37
import Derived.Test.YtddbfdneienioaaGreatDoorB38
set_option linter.unusedVariables false
set_option linter.unusedSimpArgs false
set_option linter.unusedSectionVars false
namespace Go.Abs
noncomputable section
open Go.Proofs

def k23T3 : List (FuncId × List (List AV × AV)) := (54, k23R54p0 ++ k23R54p1) :: (114, k23R114p0 ++ k23R114p1) :: (226, k23R226p0) :: k23T2
theorem k23T3_ok : TabHolds Tryz.prog k23T3 := (tab_cons k23T2_ok (allTrue_app k23R54p0_ok k23R54p1_ok) (tab_cons k23T2_ok (allTrue_app k23R114p0_ok k23R114p1_ok) (tab_cons k23T2_ok k23R226p0_ok k23T2_ok)))
end
end Go.Abs
