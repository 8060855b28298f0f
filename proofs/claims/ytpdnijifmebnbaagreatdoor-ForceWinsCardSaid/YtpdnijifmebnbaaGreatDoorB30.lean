/-
  Steps to a law of this program: SKt5.
  Conditions: none.
-/
import Derived.Test.YtpdnijifmebnbaaGreatDoorB24
set_option linter.unusedVariables false
set_option linter.unusedSimpArgs false
set_option linter.unusedSectionVars false
namespace Go.Abs
noncomputable section
open Go.Proofs
set_option maxRecDepth 1000000
def tp5:List (Nat × Nat):=[(5,1),(7,2),(1,4),(10,1),(18,1),(11,3),(7,10),(3,25),(7,50),(13,25),(23,25),(27,50),(47,50),(17,100),(37,100),(57,100),(77,100),(97,100)]
theorem ybI:wj (kIs [] [] 100000 101) (tp5.map fun p=>([.str (qt p.1 p.2)],.tup [.int .i64 ((p.1:Nat):Int),.int .i64 ((p.2:Nat):Int),.bool true]))=true:=by decide +kernel
theorem xbK:wj (kIs [] [] 100000 61) (tp5.map fun p=>([.str (qt p.1 p.2)],.bool true))=true:=by decide +kernel
end
end Go.Abs
