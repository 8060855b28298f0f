/-
  Steps to a law of this program: SK12b.
  Conditions: none.
-/
import Derived.Test.YtigpcilohipjhaaGreatDoorB29
set_option linter.unusedVariables false
set_option linter.unusedSimpArgs false
set_option linter.unusedSectionVars false
namespace Go.Abs
noncomputable section
open Go.Proofs
set_option maxRecDepth 1000000

theorem k12Law_ok : kIs k12T3 100000 3 ([], .bool true) = true := by decide +kernel
theorem chainKnown_pure : PureSem Tryz.prog 3 [] (.bool true) := kIs_ok k12T3_ok k12Law_ok
end
end Go.Abs
