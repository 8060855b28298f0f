/-
  Steps to a law of this program: SK20L5P1.
  Conditions: none.
-/
import Derived.Test.YtddbfdneienioaaGreatDoorB46
set_option linter.unusedVariables false
set_option linter.unusedSimpArgs false
set_option linter.unusedSectionVars false
namespace Go.Abs
noncomputable section
open Go.Proofs
abbrev kp48 (n : Int) : AV := .int .i64 n
abbrev ke48 : AV := .str []
abbrev kz48 : AV := .str [48]
abbrev ko48 : AV := .str [49]
abbrev kh48 : AV := .str [49, 47, 50]
set_option maxRecDepth 1000000

def k20R29p3 : List (List AV × AV) := [
([.agg [.vs [[kp48 (0)],[kp48 (0)],[kp48 (0)],[kp48 (0)],[kp48 (0)]] (some 5),.vs [[.vs [[ke48,.str [55],.vs [[kp48 (1),kh48],[kp48 (3),kh48]] (some 2)]] (some 1)],[.vs [[ke48,ko48,.vs [[kp48 (2),ko48]] (some 1)]] (some 1)],[.vs [[ke48,.str [50],.vs [[kp48 (1),.str [49,47,51]],[kp48 (2),.str [50,47,51]]] (some 2)],[ke48,.str [57],.vs [[kp48 (3),ko48]] (some 1)]] (some 2)],[.vs [[ke48,kh48,.vs [[kp48 (3),ko48]] (some 1)]] (some 1)],[.vs [[ke48,.str [49,48,48],.vs [[kp48 (0),.str [49,47,49,48]],[kp48 (4),.str [57,47,49,48]]] (some 2)]] (some 1)]] (some 5)],.bool false],(.ifc 999999 (.tup [.vs [[kh48],[kh48],[kh48],[kh48],[kh48]] (some 5),.vs [[kp48 (0)],[kp48 (0)],[kp48 (1)],[kp48 (0)],[kp48 (0)]] none,kp48 (0)])))]
theorem k20R29p3_ok : allTrue (kIs k20T4 [] 100000 29) k20R29p3 = true := by decide +kernel
end
end Go.Abs
