/-
  Steps to a law of this program: SKt1.
  Conditions: none.
-/
import Derived.Test.YtpdnijifmebnbaaGreatDoorB24
set_option linter.unusedVariables false
set_option linter.unusedSimpArgs false
set_option linter.unusedSectionVars false
namespace Go.Abs
noncomputable section
open Go.Proofs
set_option maxRecDepth 1000000
def tp1:List (Nat × Nat):=[(1,1),(9,1),(4,3),(3,5),(14,1),(15,2),(17,3),(7,20),(8,25),(17,20),(18,25),(17,50),(37,50),(7,100),(27,100),(47,100),(67,100),(87,100)]
theorem ubI:wj (kIs [] [] 100000 101) (tp1.map fun p=>([.str (qt p.1 p.2)],.tup [.int .i64 ((p.1:Nat):Int),.int .i64 ((p.2:Nat):Int),.bool true]))=true:=by decide +kernel
theorem jbK:wj (kIs [] [] 100000 61) (tp1.map fun p=>([.str (qt p.1 p.2)],.bool true))=true:=by decide +kernel
end
end Go.Abs
