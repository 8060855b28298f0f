/-
  Steps to a law of this program: SK16W.
  Conditions: none.
-/
import Derived.Test.YtogjgbipgnpggaaGreatDoorB34
set_option linter.unusedVariables false
set_option linter.unusedSimpArgs false
set_option linter.unusedSectionVars false
namespace Go.Abs
noncomputable section
open Go.Proofs
set_option maxRecDepth 1000000

theorem k16Law_ok : kIs k16T3 [] 100000 4 ([], .bool true) = true := by decide +kernel
theorem reachKnown_pure : PureSem Tryz.prog 4 [] (.bool true) := kIs_ok k16T3_ok k16Law_ok
end
end Go.Abs
