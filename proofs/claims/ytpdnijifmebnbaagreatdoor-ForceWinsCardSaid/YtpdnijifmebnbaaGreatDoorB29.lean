/-
  Steps to a law of this program: SKt4.
  Conditions: none.
-/
import Derived.Test.YtpdnijifmebnbaaGreatDoorB24
set_option linter.unusedVariables false
set_option linter.unusedSimpArgs false
set_option linter.unusedSectionVars false
namespace Go.Abs
noncomputable section
open Go.Proofs
set_option maxRecDepth 1000000
def tp4:List (Nat × Nat):=[(4,1),(5,2),(8,3),(5,6),(17,1),(10,3),(3,10),(2,25),(3,50),(12,25),(22,25),(23,50),(43,50),(13,100),(33,100),(53,100),(73,100),(93,100)]
theorem xbI:wj (kIs [] [] 100000 101) (tp4.map fun p=>([.str (qt p.1 p.2)],.tup [.int .i64 ((p.1:Nat):Int),.int .i64 ((p.2:Nat):Int),.bool true]))=true:=by decide +kernel
theorem wbK:wj (kIs [] [] 100000 61) (tp4.map fun p=>([.str (qt p.1 p.2)],.bool true))=true:=by decide +kernel
end
end Go.Abs
