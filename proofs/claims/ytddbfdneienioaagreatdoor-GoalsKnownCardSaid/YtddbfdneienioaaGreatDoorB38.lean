/-
  Steps to a law of this program: SK23L3P2.
  Conditions: none.
-/
import Derived.Test.YtddbfdneienioaaGreatDoorB35
set_option linter.unusedVariables false
set_option linter.unusedSimpArgs false
set_option linter.unusedSectionVars false
namespace Go.Abs
noncomputable section
open Go.Proofs
abbrev kp38 (n : Int) : AV := .int .i64 n
abbrev ke38 : AV := .str []
abbrev kz38 : AV := .str [48]
abbrev ko38 : AV := .str [49]
abbrev kh38 : AV := .str [49, 47, 50]
abbrev kq38x0 : AV := .vs [[.vs [[ko38],[ko38]] none],[.vs [[.str [45,49]],[kz38]] none],[.vs [[kz38],[.str [45,49,47,50]]] none]] none
set_option maxRecDepth 1000000

def k23R114p1 : List (List AV × AV) := [
([.agg [kq38x0,.vs [[ko38],[.str [45,49]],[kz38]] none,.vs [[kz38],[kz38]] none]],(.tup [kp38 (1),kz38,kp38 (0)])),
([.agg [kq38x0,.vs [[ko38],[kz38],[kz38]] none,.vs [[kz38],[kz38]] none]],(.tup [kp38 (1),kz38,kp38 (0)])),
([.agg [kq38x0,.vs [[ko38],[kz38],[.str [45,49,47,50]]] none,.vs [[kz38],[kz38]] none]],(.tup [kp38 (1),kz38,kp38 (0)])),
([.agg [kq38x0,.vs [[ko38],[.str [45,49,47,49,48,48]],[.str [45,49,47,50]]] none,.vs [[kz38],[kz38]] none]],(.tup [kp38 (3),ke38,kp38 (0)]))]
theorem k23R114p1_ok : allTrue (kIs k23T2 [40] 100000 114) k23R114p1 = true := by decide +kernel
def k23R226p0 : List (List AV × AV) := [
([.vs [[.vs [[ko38]] (some 1)]] none,.vs [[ko38]] none],(.ifc 999999 (.tup [.vs [[ko38]] none,kp38 (0)]))),
([.vs [[.vs [[ko38]] (some 1)]] none,.vs [[kh38]] none],(.ifc 999999 (.tup [.vs [[kh38]] none,kp38 (0)]))),
([.vs [[.vs [[ko38],[kz38]] (some 2)],[.vs [[.str [45,49]],[ko38]] (some 2)]] none,.vs [[ko38],[kz38]] none],(.ifc 999999 (.tup [.vs [[ko38],[ko38]] none,kp38 (0)]))),
([.vs [[.vs [[ko38],[.str [45,49]]] (some 2)],[.vs [[kz38],[ko38]] (some 2)]] none,.vs [[kz38],[ko38]] none],(.ifc 999999 (.tup [.vs [[ko38],[ko38]] none,kp38 (0)]))),
([.vs [[.vs [[ko38]] (some 1)]] none,.vs [[.str [49,47,52]]] none],(.ifc 999999 (.tup [.vs [[.str [49,47,52]]] none,kp38 (0)]))),
([.vs [[.vs [[ko38]] (some 1)]] none,.vs [[.str [49,47,51]]] none],(.ifc 999999 (.tup [.vs [[.str [49,47,51]]] none,kp38 (0)])))]
theorem k23R226p0_ok : allTrue (kIs k23T2 [40] 100000 226) k23R226p0 = true := by decide +kernel
end
end Go.Abs
