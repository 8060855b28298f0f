/-
  Steps to a law of this program: SKt6.
  Conditions: none.
-/
import Derived.Test.YtpdnijifmebnbaaGreatDoorB24
set_option linter.unusedVariables false
set_option linter.unusedSimpArgs false
set_option linter.unusedSectionVars false
namespace Go.Abs
noncomputable section
open Go.Proofs
set_option maxRecDepth 1000000
def tp6:List (Nat × Nat):=[(6,1),(9,2),(3,4),(11,1),(19,1),(13,3),(9,10),(4,25),(9,50),(14,25),(24,25),(29,50),(49,50),(19,100),(39,100),(59,100),(79,100),(99,100)]
theorem zbI:wj (kIs [] [] 100000 101) (tp6.map fun p=>([.str (qt p.1 p.2)],.tup [.int .i64 ((p.1:Nat):Int),.int .i64 ((p.2:Nat):Int),.bool true]))=true:=by decide +kernel
theorem ybK:wj (kIs [] [] 100000 61) (tp6.map fun p=>([.str (qt p.1 p.2)],.bool true))=true:=by decide +kernel
end
end Go.Abs
