/-
  Steps to a law of this program: SKt3.
  Conditions: none.
-/
import Derived.Test.YtpdnijifmebnbaaGreatDoorB24
set_option linter.unusedVariables false
set_option linter.unusedSimpArgs false
set_option linter.unusedSectionVars false
namespace Go.Abs
noncomputable section
open Go.Proofs
set_option maxRecDepth 1000000
def tp3:List (Nat × Nat):=[(3,1),(3,2),(7,3),(1,6),(16,1),(19,2),(1,10),(1,25),(1,50),(11,25),(21,25),(21,50),(41,50),(11,100),(31,100),(51,100),(71,100),(91,100)]
theorem wbI:wj (kIs [] [] 100000 101) (tp3.map fun p=>([.str (qt p.1 p.2)],.tup [.int .i64 ((p.1:Nat):Int),.int .i64 ((p.2:Nat):Int),.bool true]))=true:=by decide +kernel
theorem vbK:wj (kIs [] [] 100000 61) (tp3.map fun p=>([.str (qt p.1 p.2)],.bool true))=true:=by decide +kernel
end
end Go.Abs
