/-
  Steps to a law of this program: SKt7.
  Conditions: none.
-/
import Derived.Test.YtpdnijifmebnbaaGreatDoorB24
set_option linter.unusedVariables false
set_option linter.unusedSimpArgs false
set_option linter.unusedSectionVars false
namespace Go.Abs
noncomputable section
open Go.Proofs
set_option maxRecDepth 1000000
def tp7:List (Nat × Nat):=[(7,1),(1,3),(1,5),(12,1),(11,2),(14,3),(1,20),(6,25),(11,20),(16,25),(11,50),(31,50),(1,100),(21,100),(41,100),(61,100),(81,100)]
theorem gbH:wj (kIs [] [] 100000 101) (tp7.map fun p=>([.str (qt p.1 p.2)],.tup [.int .i64 ((p.1:Nat):Int),.int .i64 ((p.2:Nat):Int),.bool true]))=true:=by decide +kernel
theorem zbK:wj (kIs [] [] 100000 61) (tp7.map fun p=>([.str (qt p.1 p.2)],.bool true))=true:=by decide +kernel
end
end Go.Abs
