/-
  Steps to a law of this program: SK23L3P1.
  Conditions: none.
-/
import Derived.Test.YtddbfdneienioaaGreatDoorB35
set_option linter.unusedVariables false
set_option linter.unusedSimpArgs false
set_option linter.unusedSectionVars false
namespace Go.Abs
noncomputable section
open Go.Proofs
abbrev kp37 (n : Int) : AV := .int .i64 n
abbrev ke37 : AV := .str []
abbrev kz37 : AV := .str [48]
abbrev ko37 : AV := .str [49]
abbrev kh37 : AV := .str [49, 47, 50]
abbrev kq37x0 : AV := .vs [[.vs [[ko37],[ko37],[.str [45,49]],[kz37]] none],[.vs [[.str [45,49]],[kz37],[ko37],[ko37]] none],[.vs [[kz37],[.str [45,49]],[kz37],[kz37]] none],[.vs [[kz37],[kz37],[kz37],[.str [45,49]]] none]] none
abbrev kq37x1 : AV := .vs [[.vs [[ko37],[ko37]] none],[.vs [[.str [45,49]],[kz37]] none],[.vs [[kz37],[.str [45,49,47,50]]] none]] none
set_option maxRecDepth 1000000

def k23R114p0 : List (List AV × AV) := [
([.agg [kq37x1,.vs [[ko37],[.str [45,49,47,50]],[.str [45,49,47,52]]] none,.vs [[kz37],[kz37]] none]],(.tup [kp37 (1),kz37,kp37 (0)])),
([.agg [kq37x1,.vs [[ko37],[.str [45,49,47,50]],[.str [45,49,47,51]]] none,.vs [[kz37],[kz37]] none]],(.tup [kp37 (3),ke37,kp37 (0)])),
([.agg [kq37x0,.vs [[ko37],[kz37],[.str [45,49,47,51]],[.str [45,50,47,51]]] none,.vs [[kz37],[kz37],[kz37],[kz37]] none]],(.tup [kp37 (1),kz37,kp37 (0)])),
([.agg [kq37x0,.vs [[kz37],[ko37],[.str [45,49,47,51]],[.str [45,51,47,52]]] none,.vs [[kz37],[kz37],[kz37],[kz37]] none]],(.tup [kp37 (3),ke37,kp37 (0)]))]
theorem k23R114p0_ok : allTrue (kIs k23T2 [40] 100000 114) k23R114p0 = true := by decide +kernel
def k23R54p1 : List (List AV × AV) := [
([.agg [.vs [[kp37 (0)],[kp37 (0)],[kp37 (0)],[kp37 (0)]] none,.vs [[.vs [[ke37,kz37,.vs [[kp37 (1),kh37],[kp37 (2),.str [49,47,51]],[kp37 (3),.str [49,47,54]]] none]] none],[.vs [[ke37,kz37,.vs [[kp37 (1),ko37]] none]] none],[.vs [[ke37,kz37,.vs [[kp37 (2),ko37]] none]] none],[.vs [[ke37,kz37,.vs [[kp37 (3),ko37]] none]] none]] (some 4)]],(kp37 (0)))]
theorem k23R54p1_ok : allTrue (kIs k23T2 [40] 100000 54) k23R54p1 = true := by decide +kernel
end
end Go.Abs
