/-
  Steps to a law of this program: SK13J5, SK13L6P0, SK13J6, SK13W.
  Conditions: none.
-/
import Derived.Test.YtffhpdhdncapiaaGreatDoorB35
import Derived.Test.YtffhpdhdncapiaaGreatDoorB36
import Derived.Test.YtffhpdhdncapiaaGreatDoorB44
import Derived.Test.YtffhpdhdncapiaaGreatDoorB50
set_option linter.unusedVariables false
set_option linter.unusedSimpArgs false
set_option linter.unusedSectionVars false
namespace Go.Abs
noncomputable section
open Go.Proofs

def k13T5 : List (FuncId × List (List AV × AV)) := (5, k13R5p0) :: (7, k13R7p0) :: (9, k13R9p0 ++ k13R9p1 ++ [(k13X9x41920A, k13X9x41920R)] ++ [(k13X9x85230A, k13X9x85230R)] ++ [(k13X9x135432A, k13X9x135432R)]) :: k13T4
theorem k13T5_ok : TabHolds Tryz.prog k13T5 := (tab_cons k13T4_ok k13R5p0_ok (tab_cons k13T4_ok k13R7p0_ok (tab_cons_sem (sem_app (sem_app (sem_app (sem_all k13T4_ok (allTrue_app k13R9p0_ok k13R9p1_ok)) (sem_one k13X9x41920)) (sem_one k13X9x85230)) (sem_one k13X9x135432)) k13T4_ok)))
end
end Go.Abs

namespace Go.Abs
noncomputable section
open Go.Proofs
set_option maxRecDepth 1000000

def k13R10p0 : List (List AV × AV) := [
  ([], (.bool true))]
theorem k13R10p0_ok : allTrue (kIs k13T5 [] 100000 10) k13R10p0 = true := by decide +kernel
end
end Go.Abs

namespace Go.Abs
noncomputable section
open Go.Proofs

def k13T6 : List (FuncId × List (List AV × AV)) := (10, k13R10p0) :: k13T5
theorem k13T6_ok : TabHolds Tryz.prog k13T6 := (tab_cons k13T5_ok k13R10p0_ok k13T5_ok)
end
end Go.Abs

namespace Go.Abs
noncomputable section
open Go.Proofs
set_option maxRecDepth 1000000

theorem k13Law_ok : kIs k13T6 [] 100000 3 ([], .bool true) = true := by decide +kernel
theorem walkKnown_pure : PureSem Tryz.prog 3 [] (.bool true) := kIs_ok k13T6_ok k13Law_ok
end
end Go.Abs
