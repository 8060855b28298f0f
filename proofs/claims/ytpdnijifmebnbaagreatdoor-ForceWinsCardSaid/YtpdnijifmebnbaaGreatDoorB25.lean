/-
  Steps to a law of this program: SKt0.
  Conditions: none.
-/
import Derived.Test.YtpdnijifmebnbaaGreatDoorB24
set_option linter.unusedVariables false
set_option linter.unusedSimpArgs false
set_option linter.unusedSectionVars false
namespace Go.Abs
noncomputable section
open Go.Proofs
set_option maxRecDepth 1000000
def tp0:List (Nat × Nat):=[(0,1),(8,1),(2,3),(2,5),(13,1),(13,2),(16,3),(3,20),(7,25),(13,20),(17,25),(13,50),(33,50),(3,100),(23,100),(43,100),(63,100),(83,100)]
theorem jbI:wj (kIs [] [] 100000 101) (tp0.map fun p=>([.str (qt p.1 p.2)],.tup [.int .i64 ((p.1:Nat):Int),.int .i64 ((p.2:Nat):Int),.bool true]))=true:=by decide +kernel
theorem qbK:wj (kIs [] [] 100000 61) (tp0.map fun p=>([.str (qt p.1 p.2)],.bool true))=true:=by decide +kernel
end
end Go.Abs
