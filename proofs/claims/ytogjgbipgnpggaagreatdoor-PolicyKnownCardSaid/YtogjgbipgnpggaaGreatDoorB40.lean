/-
  Steps to a law of this program: SK17L8P0, SK17J8, SK17W.
  Conditions: none.
-/
import Derived.Test.YtogjgbipgnpggaaGreatDoorB39
set_option linter.unusedVariables false
set_option linter.unusedSimpArgs false
set_option linter.unusedSectionVars false
namespace Go.Abs
noncomputable section
open Go.Proofs
set_option maxRecDepth 1000000

def k17R28p0 : List (List AV × AV) := [
  ([],(.bool true))]
theorem k17R28p0_ok : allTrue (kIs k17T7 [] 100000 28) k17R28p0 = true := by decide +kernel
end
end Go.Abs

namespace Go.Abs
noncomputable section
open Go.Proofs

def k17T8 : List (FuncId × List (List AV × AV)) := (28, k17R28p0) :: k17T7
theorem k17T8_ok : TabHolds Tryz.prog k17T8 := (tab_cons k17T7_ok k17R28p0_ok k17T7_ok)
end
end Go.Abs

namespace Go.Abs
noncomputable section
open Go.Proofs
set_option maxRecDepth 1000000

theorem k17Law_ok : kIs k17T8 [] 100000 5 ([], .bool true) = true := by decide +kernel
theorem policyKnown_pure : PureSem Tryz.prog 5 [] (.bool true) := kIs_ok k17T8_ok k17Law_ok
end
end Go.Abs
