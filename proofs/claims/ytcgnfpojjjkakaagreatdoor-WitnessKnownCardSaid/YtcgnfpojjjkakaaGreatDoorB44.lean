/-
  Steps to a law of this program: SK29L6P0.
  Conditions: none.
-/
import Derived.Test.YtcgnfpojjjkakaaGreatDoorB43
set_option linter.unusedVariables false
set_option linter.unusedSimpArgs false
set_option linter.unusedSectionVars false
namespace Go.Abs
noncomputable section
open Go.Proofs
abbrev kp44 (n : Int) : AV := .int .i64 n
abbrev ke44 : AV := .str []
abbrev kz44 : AV := .str [48]
abbrev ko44 : AV := .str [49]
abbrev kh44 : AV := .str [49, 47, 50]
set_option maxRecDepth 1000000

def k29R20p1 : List (List AV × AV) := [
([.agg [.vs [[kp44 (0)],[kp44 (0)],[kp44 (0)]] (some 3),.vs [[.vs [[ke44,kz44,.vs [[kp44 (0),.str [57,57,47,49,48,48]],[kp44 (1),.str [49,47,49,48,48]]] (some 2)]] (some 1)],[.vs [[ke44,kz44,.vs [[kp44 (1),ko44]] (some 1)]] (some 1)],[.vs [[ke44,kz44,.vs [[kp44 (2),ko44]] (some 1)]] (some 1)]] (some 3)],kp44 (0),.int .u64 (2),.str [50,47,51]],(.tup [.nils,kp44 (6)]))]
theorem k29R20p1_ok : allTrue (kIs k29T5 [40] 100000 20) k29R20p1 = true := by decide +kernel
end
end Go.Abs
