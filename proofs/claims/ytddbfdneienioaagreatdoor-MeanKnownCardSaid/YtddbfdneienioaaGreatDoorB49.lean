/-
  Steps to a law of this program: SK20L5P2.
  Conditions: none.
-/
import Derived.Test.YtddbfdneienioaaGreatDoorB46
set_option linter.unusedVariables false
set_option linter.unusedSimpArgs false
set_option linter.unusedSectionVars false
namespace Go.Abs
noncomputable section
open Go.Proofs
abbrev kp49 (n : Int) : AV := .int .i64 n
abbrev ke49 : AV := .str []
abbrev kz49 : AV := .str [48]
abbrev ko49 : AV := .str [49]
abbrev kh49 : AV := .str [49, 47, 50]
set_option maxRecDepth 1000000

def k20R29p1 : List (List AV × AV) := [
([.agg [.vs [[kp49 (0)],[kp49 (0)],[kp49 (0)],[kp49 (0)]] (some 4),.vs [[.vs [[ke49,.str [51],.vs [[kp49 (1),ko49]] (some 1)],[ke49,kz49,.vs [[kp49 (2),ko49]] (some 1)],[ke49,ko49,.vs [[kp49 (0),ko49]] (some 1)]] (some 3)],[.vs [[ke49,ko49,.vs [[kp49 (1),ko49]] (some 1)]] (some 1)],[.vs [[ke49,.str [50],.vs [[kp49 (3),ko49]] (some 1)]] (some 1)],[.vs [[ke49,kz49,.vs [[kp49 (2),ko49]] (some 1)],[ke49,.str [53],.vs [[kp49 (0),kh49],[kp49 (1),kh49]] (some 2)]] (some 2)]] (some 4)],.bool false],(.ifc 999999 (.tup [.vs [[ko49],[ko49],[ko49],[ko49]] (some 4),.vs [[kp49 (1)],[kp49 (0)],[kp49 (0)],[kp49 (0)]] none,kp49 (0)]))),
([.agg [.vs [[kp49 (0)],[kp49 (0)],[kp49 (0)],[kp49 (0)],[kp49 (1)]] (some 5),.vs [[.vs [[ke49,.str [55],.vs [[kp49 (1),kh49],[kp49 (3),kh49]] (some 2)]] (some 1)],[.vs [[ke49,ko49,.vs [[kp49 (2),ko49]] (some 1)]] (some 1)],[.vs [[ke49,.str [50],.vs [[kp49 (1),.str [49,47,51]],[kp49 (2),.str [50,47,51]]] (some 2)],[ke49,.str [57],.vs [[kp49 (3),ko49]] (some 1)]] (some 2)],[.vs [[ke49,kh49,.vs [[kp49 (3),ko49]] (some 1)]] (some 1)],[.vs [[ke49,.str [49,48,48],.vs [[kp49 (0),.str [49,47,49,48]],[kp49 (4),.str [57,47,49,48]]] (some 2)]] (some 1)]] (some 5)],.bool true],(.tup [.nils,.nils,kp49 (111)])),
([.agg [.nils,.nils],.bool false],(.tup [.nils,.nils,kp49 (110)]))]
theorem k20R29p1_ok : allTrue (kIs k20T4 [] 100000 29) k20R29p1 = true := by decide +kernel
end
end Go.Abs
