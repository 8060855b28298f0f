/-
  Steps to a law of this program: SK29L3P0, SK29J3.
  Conditions: none.
-/
import Derived.Test.YtcgnfpojjjkakaaGreatDoorB39
set_option linter.unusedVariables false
set_option linter.unusedSimpArgs false
set_option linter.unusedSectionVars false
namespace Go.Abs
noncomputable section
open Go.Proofs
abbrev kp40 (n : Int) : AV := .int .i64 n
abbrev ke40 : AV := .str []
abbrev kz40 : AV := .str [48]
abbrev ko40 : AV := .str [49]
abbrev kh40 : AV := .str [49, 47, 50]
abbrev kq40x0 : AV := .vs [[ke40,kz40,.vs [[kp40 (2),ko40]] (some 1)]] (some 1)
abbrev kq40x1 : AV := .vs [[ke40,kz40,.vs [[kp40 (0),kh40],[kp40 (1),.str [49,47,52]],[kp40 (2),.str [49,47,52]]] (some 3)]] (some 1)
abbrev kq40x2 : AV := .vs [[ke40,kz40,.vs [[kp40 (4),ko40]] (some 1)]] (some 1)
set_option maxRecDepth 1000000

def k29R147p0 : List (List AV × AV) := [
([.vs [[.vs [[kh40]] (some 1)]] none,.vs [[.str [49,47,52]]] none],(.ifc 999999 (.tup [.vs [[kh40]] none,kp40 (0)]))),
([.vs [[.vs [[.str [49,47,49,48,48]]] (some 1)]] none,.vs [[.str [49,47,49,48,48]]] none],(.ifc 999999 (.tup [.vs [[ko40]] none,kp40 (0)]))),
([.vs [[.vs [[ko40],[.str [45,49,47,51]],[.str [45,49,47,51]],[.str [45,49,47,51]]] (some 4)],[.vs [[kz40],[ko40],[.str [45,49]],[kz40]] (some 4)],[.vs [[kz40],[kz40],[ko40],[kz40]] (some 4)],[.vs [[kz40],[kz40],[kz40],[ko40]] (some 4)]] none,.vs [[kz40],[kz40],[ko40],[ko40]] none],(.ifc 999999 (.tup [.vs [[ko40],[ko40],[ko40],[ko40]] none,kp40 (0)]))),
([.vs [[.vs [[ko40]] (some 1)]] none,.vs [[ko40]] none],(.ifc 999999 (.tup [.vs [[ko40]] none,kp40 (0)]))),
([.vs [[.vs [[ko40],[.str [45,49,47,51]]] (some 2)],[.vs [[kz40],[ko40]] (some 2)]] none,.vs [[kz40],[ko40]] none],(.ifc 999999 (.tup [.vs [[.str [49,47,51]],[ko40]] none,kp40 (0)]))),
([.vs [[.vs [[ko40],[.str [45,49]]] (some 2)],[.vs [[kz40],[ko40]] (some 2)]] none,.vs [[kz40],[ko40]] none],(.ifc 999999 (.tup [.vs [[ko40],[ko40]] none,kp40 (0)]))),
([.vs [[.vs [[ko40],[kz40]] (some 2)],[.vs [[kz40],[ko40]] (some 2)]] none,.vs [[ko40],[ko40]] none],(.ifc 999999 (.tup [.vs [[ko40],[ko40]] none,kp40 (0)]))),
([.vs [[.vs [[ko40],[.str [45,49,47,51]],[.str [45,49,47,51]]] (some 3)],[.vs [[kz40],[ko40],[.str [45,49]]] (some 3)],[.vs [[kz40],[kz40],[ko40]] (some 3)]] none,.vs [[kz40],[kz40],[ko40]] none],(.ifc 999999 (.tup [.vs [[.str [50,47,51]],[ko40],[ko40]] none,kp40 (0)])))]
theorem k29R147p0_ok : allTrue (kIs k29T2 [40] 100000 147) k29R147p0 = true := by decide +kernel
def k29R34p0 : List (List AV × AV) := [
([.agg [.vs [[kp40 (0)],[kp40 (0)],[kp40 (0)]] (some 3),.vs [[kq40x1],[.vs [[ke40,kz40,.vs [[kp40 (1),ko40]] (some 1)]] (some 1)],[kq40x0]] (some 3)]],(kp40 (0))),
([.agg [.vs [[kp40 (0)],[kp40 (0)],[kp40 (0)]] (some 3),.vs [[kq40x1],[.vs [[ke40,kz40,.vs [[kp40 (1),ko40]] (some 1)],[ke40,kz40,.vs [[kp40 (2),ko40]] (some 1)]] none],[kq40x0]] (some 3)]],(kp40 (0))),
([.agg [.nils,.nils]],(kp40 (110))),
([.agg [.vs [[kp40 (0)],[kp40 (0)],[kp40 (0)]] (some 3),.vs [[.vs [[ke40,kz40,.vs [[kp40 (0),.str [57,57,47,49,48,48]],[kp40 (1),.str [49,47,49,48,48]]] (some 2)]] (some 1)],[.vs [[ke40,kz40,.vs [[kp40 (1),ko40]] (some 1)]] (some 1)],[kq40x0]] (some 3)]],(kp40 (0))),
([.agg [.vs [[kp40 (0)],[kp40 (0)],[kp40 (0)],[kp40 (0)],[kp40 (0)]] (some 5),.vs [[.vs [[ke40,kz40,.vs [[kp40 (1),.str [49,47,51]],[kp40 (2),.str [49,47,51]],[kp40 (3),.str [49,47,51]]] (some 3)]] (some 1)],[kq40x0],[kq40x2],[kq40x2],[kq40x2]] (some 5)]],(kp40 (0)))]
theorem k29R34p0_ok : allTrue (kIs k29T2 [40] 100000 34) k29R34p0 = true := by decide +kernel
end
end Go.Abs

namespace Go.Abs
noncomputable section
open Go.Proofs

def k29T3 : List (FuncId × List (List AV × AV)) := (34, k29R34p0) :: (147, k29R147p0) :: k29T2
theorem k29T3_ok : TabHolds Tryz.prog k29T3 := (tab_cons k29T2_ok k29R34p0_ok (tab_cons k29T2_ok k29R147p0_ok k29T2_ok))
end
end Go.Abs
