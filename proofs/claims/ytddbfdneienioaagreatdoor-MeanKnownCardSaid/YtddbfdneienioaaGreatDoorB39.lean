/-
  Steps to a law of this program: SK20L3P2.
  Conditions: none.
-/
import Derived.Test.YtddbfdneienioaaGreatDoorB37
set_option linter.unusedVariables false
set_option linter.unusedSimpArgs false
set_option linter.unusedSectionVars false
namespace Go.Abs
noncomputable section
open Go.Proofs
abbrev kp39 (n : Int) : AV := .int .i64 n
abbrev ke39 : AV := .str []
abbrev kz39 : AV := .str [48]
abbrev ko39 : AV := .str [49]
abbrev kh39 : AV := .str [49, 47, 50]
abbrev kq39x0 : AV := .vs [[.vs [[ko39],[.str [45,49]],[kz39],[kz39]] (some 4)],[.vs [[kz39],[ko39],[kz39],[kz39]] (some 4)],[.vs [[kz39],[kz39],[ko39],[.str [45,49]]] (some 4)],[.vs [[.str [45,49,47,50]],[.str [45,49,47,50]],[kz39],[ko39]] (some 4)]] none
abbrev kq39x1 : AV := .vs [[.vs [[ko39],[.str [45,49]],[kz39],[kz39]] (some 4)],[.vs [[kz39],[ko39],[kz39],[kz39]] (some 4)],[.vs [[kz39],[kz39],[ko39],[kz39]] (some 4)],[.vs [[kz39],[kz39],[kz39],[ko39]] (some 4)]] none
set_option maxRecDepth 1000000

def k20R226p1 : List (List AV × AV) := [
([.vs [[.vs [[ko39],[kz39],[kz39],[kz39]] (some 4)],[.vs [[kz39],[ko39],[kz39],[kz39]] (some 4)],[.vs [[kz39],[kz39],[ko39],[kz39]] (some 4)],[.vs [[kz39],[kz39],[kz39],[ko39]] (some 4)]] none,.vs [[kz39],[ko39],[kz39],[kz39]] none],(.ifc 999999 (.tup [.vs [[kz39],[ko39],[kz39],[kz39]] none,kp39 (0)]))),
([.vs [[.vs [[ko39],[kz39],[kz39],[kz39]] (some 4)],[.vs [[kz39],[ko39],[kz39],[kz39]] (some 4)],[.vs [[kz39],[kz39],[ko39],[ko39]] (some 4)],[.vs [[kz39],[kz39],[.str [45,49]],[ko39]] (some 4)]] none,.vs [[kz39],[kz39],[ko39],[kz39]] none],(.ifc 999999 (.tup [.vs [[kz39],[kz39],[kh39],[kh39]] none,kp39 (0)]))),
([kq39x1,.vs [[kz39],[ko39],[ko39],[ko39]] none],(.ifc 999999 (.tup [.vs [[ko39],[ko39],[ko39],[ko39]] none,kp39 (0)]))),
([.vs [[.vs [[ko39],[.str [45,49]],[kz39],[kz39]] (some 4)],[.vs [[kz39],[ko39],[kz39],[kz39]] (some 4)],[.vs [[kz39],[kz39],[ko39],[kz39]] (some 4)],[.vs [[kz39],[kz39],[.str [45,49]],[ko39]] (some 4)]] none,.vs [[.str [50]],[kz39],[kz39],[.str [45,49]]] none],(.ifc 999999 (.tup [.vs [[.str [50]],[kz39],[kz39],[.str [45,49]]] none,kp39 (0)]))),
([kq39x1,.vs [[kz39],[kz39],[.str [45,49,47,50]],[.str [45,49,47,50]]] none],(.ifc 999999 (.tup [.vs [[kz39],[kz39],[.str [45,49,47,50]],[.str [45,49,47,50]]] none,kp39 (0)]))),
([kq39x0,.vs [[kz39],[ko39],[kz39],[kz39]] none],(.ifc 999999 (.tup [.vs [[ko39],[ko39],[ko39],[ko39]] none,kp39 (0)]))),
([kq39x0,.vs [[.str [50]],[kz39],[ko39],[.str [52]]] none],(.ifc 999999 (.tup [.vs [[.str [50]],[kz39],[.str [54]],[.str [53]]] none,kp39 (0)]))),
([kq39x0,.vs [[kz39],[kz39],[kz39],[kz39]] none],(.ifc 999999 (.tup [.vs [[kz39],[kz39],[kz39],[kz39]] none,kp39 (0)])))]
theorem k20R226p1_ok : allTrue (kIs k20T2 [] 100000 226) k20R226p1 = true := by decide +kernel
end
end Go.Abs
