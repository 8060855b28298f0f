/-
  Steps to a law of this program: SK20L3P0.
  Conditions: none.
-/
import Derived.Test.YtddbfdneienioaaGreatDoorB37
set_option linter.unusedVariables false
set_option linter.unusedSimpArgs false
set_option linter.unusedSectionVars false
namespace Go.Abs
noncomputable section
open Go.Proofs
abbrev kp38 (n : Int) : AV := .int .i64 n
abbrev ke38 : AV := .str []
abbrev kz38 : AV := .str [48]
abbrev ko38 : AV := .str [49]
abbrev kh38 : AV := .str [49, 47, 50]
abbrev kq38x0 : AV := .vs [[.str [49,49,47,50]],[.str [49,49,47,50]],[.str [49,49,47,50]],[.str [49,49,47,50]],[.str [49,49,47,50]],[.str [49,49,47,50]],[.str [49,49,47,50]],[.str [49,49,47,50]],[.str [49,49,47,50]],[.str [49,49,47,50]],[.str [49,49,47,50]],[.str [49,49,47,50]]] none
set_option maxRecDepth 1000000

def k20R226p0 : List (List AV × AV) := [
([.vs [[.vs [[ko38],[kz38],[kz38],[kz38],[kz38],[kz38],[kz38],[kz38],[kz38],[kz38],[kz38],[kz38]] (some 12)],[.vs [[kz38],[ko38],[kz38],[kz38],[kz38],[kz38],[kz38],[kz38],[kz38],[kz38],[kz38],[kz38]] (some 12)],[.vs [[kz38],[kz38],[ko38],[kz38],[kz38],[kz38],[kz38],[kz38],[kz38],[kz38],[kz38],[kz38]] (some 12)],[.vs [[kz38],[kz38],[kz38],[ko38],[kz38],[kz38],[kz38],[kz38],[kz38],[kz38],[kz38],[kz38]] (some 12)],[.vs [[kz38],[kz38],[kz38],[kz38],[ko38],[kz38],[kz38],[kz38],[kz38],[kz38],[kz38],[kz38]] (some 12)],[.vs [[kz38],[kz38],[kz38],[kz38],[kz38],[ko38],[kz38],[kz38],[kz38],[kz38],[kz38],[kz38]] (some 12)],[.vs [[kz38],[kz38],[kz38],[kz38],[kz38],[kz38],[ko38],[kz38],[kz38],[kz38],[kz38],[kz38]] (some 12)],[.vs [[kz38],[kz38],[kz38],[kz38],[kz38],[kz38],[kz38],[ko38],[kz38],[kz38],[kz38],[kz38]] (some 12)],[.vs [[kz38],[kz38],[kz38],[kz38],[kz38],[kz38],[kz38],[kz38],[ko38],[kz38],[kz38],[kz38]] (some 12)],[.vs [[kz38],[kz38],[kz38],[kz38],[kz38],[kz38],[kz38],[kz38],[kz38],[ko38],[kz38],[kz38]] (some 12)],[.vs [[kz38],[kz38],[kz38],[kz38],[kz38],[kz38],[kz38],[kz38],[kz38],[kz38],[ko38],[kz38]] (some 12)],[.vs [[kz38],[kz38],[kz38],[kz38],[kz38],[kz38],[kz38],[kz38],[kz38],[kz38],[kz38],[ko38]] (some 12)]] none,kq38x0],(.ifc 999999 (.tup [kq38x0,kp38 (0)])))]
theorem k20R226p0_ok : allTrue (kIs k20T2 [] 100000 226) k20R226p0 = true := by decide +kernel
end
end Go.Abs
