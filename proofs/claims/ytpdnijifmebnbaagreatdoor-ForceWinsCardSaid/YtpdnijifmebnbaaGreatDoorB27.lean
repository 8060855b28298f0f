/-
  Steps to a law of this program: SKt2.
  Conditions: none.
-/
import Derived.Test.YtpdnijifmebnbaaGreatDoorB24
set_option linter.unusedVariables false
set_option linter.unusedSimpArgs false
set_option linter.unusedSectionVars false
namespace Go.Abs
noncomputable section
open Go.Proofs
set_option maxRecDepth 1000000
def tp2:List (Nat × Nat):=[(2,1),(1,2),(5,3),(4,5),(15,1),(17,2),(19,3),(9,20),(9,25),(19,20),(19,25),(19,50),(39,50),(9,100),(29,100),(49,100),(69,100),(89,100)]
theorem vbI:wj (kIs [] [] 100000 101) (tp2.map fun p=>([.str (qt p.1 p.2)],.tup [.int .i64 ((p.1:Nat):Int),.int .i64 ((p.2:Nat):Int),.bool true]))=true:=by decide +kernel
theorem ubK:wj (kIs [] [] 100000 61) (tp2.map fun p=>([.str (qt p.1 p.2)],.bool true))=true:=by decide +kernel
end
end Go.Abs
