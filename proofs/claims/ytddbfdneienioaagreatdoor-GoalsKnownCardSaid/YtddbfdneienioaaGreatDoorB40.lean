/-
  Steps to a law of this program: SK23L4P0.
  Conditions: none.
-/
import Derived.Test.YtddbfdneienioaaGreatDoorB39
set_option linter.unusedVariables false
set_option linter.unusedSimpArgs false
set_option linter.unusedSectionVars false
namespace Go.Abs
noncomputable section
open Go.Proofs
abbrev kp40 (n : Int) : AV := .int .i64 n
abbrev ke40 : AV := .str []
abbrev kz40 : AV := .str [48]
abbrev ko40 : AV := .str [49]
abbrev kh40 : AV := .str [49, 47, 50]
abbrev kq40x0 : AV := .agg [.vs [[kp40 (0)],[kp40 (0)],[kp40 (0)],[kp40 (0)]] (some 4),.vs [[.vs [[ke40,kz40,.vs [[kp40 (1),ko40]] (some 1)],[ke40,kz40,.vs [[kp40 (2),kh40],[kp40 (3),kh40]] (some 2)]] (some 2)],[.vs [[ke40,kz40,.vs [[kp40 (1),ko40]] (some 1)]] (some 1)],[.vs [[ke40,kz40,.vs [[kp40 (2),ko40]] (some 1)]] (some 1)],[.vs [[ke40,kz40,.vs [[kp40 (3),ko40]] (some 1)]] (some 1)]] (some 4)]
abbrev kq40x1 : AV := .vs [[ke40,kz40,.vs [[kp40 (1),ko40]] none]] none
abbrev kq40x2 : AV := .vs [[ke40,kz40,.vs [[kp40 (2),ko40]] none]] none
abbrev kq40x3 : AV := .vs [[kp40 (0)],[kp40 (0)],[kp40 (0)],[kp40 (0)]] none
abbrev kq40x4 : AV := .vs [[ke40,kz40,.vs [[kp40 (3),ko40]] none]] none
abbrev kq40x5 : AV := .agg [kq40x3,.vs [[.vs [[ke40,kz40,.vs [[kp40 (1),kh40],[kp40 (2),.str [49,47,52]],[kp40 (3),.str [49,47,52]]] none]] none],[kq40x1],[kq40x2],[kq40x4]] (some 4)]
abbrev kq40x6 : AV := .agg [kq40x3,.vs [[.vs [[ke40,kz40,.vs [[kp40 (1),kh40],[kp40 (2),.str [49,47,51]],[kp40 (3),.str [49,47,54]]] none]] none],[kq40x1],[kq40x2],[kq40x4]] (some 4)]
abbrev kq40x7 : AV := .ifc 999999 (.tup [.vs [[kz40],[kz40],[ko40],[kz40]] (some 4),kp40 (0)])
abbrev kq40x8 : AV := .ifc 999999 (.tup [.vs [[kz40],[ko40],[kz40],[kz40]] (some 4),kp40 (0)])
abbrev kq40x9 : AV := .vs [[ke40,kz40,.vs [[kp40 (0),ko40]] none]] none
abbrev kq40x10 : AV := .agg [kq40x3,.vs [[.vs [[ke40,kz40,.vs [[kp40 (2),kh40],[kp40 (3),kh40]] none]] none],[kq40x1],[kq40x2],[kq40x4]] (some 4)]
set_option maxRecDepth 1000000

def k23R75p0 : List (List AV × AV) := [
([.agg [kq40x3,.vs [[kq40x1],[kq40x1],[kq40x2],[kq40x4]] (some 4)],.int .u64 (2)],(.ifc 999999 (.tup [.vs [[ko40],[ko40],[kz40],[kz40]] (some 4),kp40 (0)]))),
([.agg [kq40x3,.vs [[kq40x1],[kq40x1],[kq40x2],[kq40x4]] (some 4)],.int .u64 (4)],(kq40x7)),
([kq40x10,.int .u64 (2)],(kq40x8)),
([kq40x10,.int .u64 (4)],(.ifc 999999 (.tup [.vs [[kh40],[kz40],[ko40],[kz40]] (some 4),kp40 (0)]))),
([.agg [kq40x3,.vs [[kq40x4],[kq40x1],[kq40x2],[kq40x9]] (some 4)],.int .u64 (2)],(kq40x8)),
([.agg [kq40x3,.vs [[kq40x4],[kq40x1],[kq40x2],[kq40x9]] (some 4)],.int .u64 (4)],(kq40x7)),
([.agg [kq40x3,.vs [[kq40x1],[kq40x1],[kq40x2],[kq40x9]] (some 4)],.int .u64 (2)],(.ifc 999999 (.tup [.vs [[ko40],[ko40],[kz40],[ko40]] (some 4),kp40 (0)]))),
([.agg [kq40x3,.vs [[kq40x1],[kq40x1],[kq40x2],[kq40x9]] (some 4)],.int .u64 (4)],(kq40x7)),
([.agg [kq40x3,.vs [[kq40x4],[kq40x1],[kq40x2],[kq40x2]] (some 4)],.int .u64 (2)],(kq40x8)),
([.agg [kq40x3,.vs [[kq40x4],[kq40x1],[kq40x2],[kq40x2]] (some 4)],.int .u64 (4)],(.ifc 999999 (.tup [.vs [[ko40],[kz40],[ko40],[ko40]] (some 4),kp40 (0)]))),
([.agg [kq40x3,.vs [[kq40x1],[kq40x1],[kq40x2],[kq40x2]] (some 4)],.int .u64 (2)],(.ifc 999999 (.tup [.vs [[ko40],[ko40],[kz40],[kz40]] (some 4),kp40 (0)]))),
([.agg [kq40x3,.vs [[kq40x1],[kq40x1],[kq40x2],[kq40x2]] (some 4)],.int .u64 (4)],(.ifc 999999 (.tup [.vs [[kz40],[kz40],[ko40],[ko40]] (some 4),kp40 (0)]))),
([kq40x5,.int .u64 (2)],(.ifc 999999 (.tup [.vs [[kh40],[ko40],[kz40],[kz40]] (some 4),kp40 (0)]))),
([kq40x5,.int .u64 (4)],(.ifc 999999 (.tup [.vs [[.str [49,47,52]],[kz40],[ko40],[kz40]] (some 4),kp40 (0)]))),
([kq40x6,.int .u64 (2)],(.ifc 999999 (.tup [.vs [[kh40],[ko40],[kz40],[kz40]] (some 4),kp40 (0)]))),
([kq40x6,.int .u64 (4)],(.ifc 999999 (.tup [.vs [[.str [49,47,51]],[kz40],[ko40],[kz40]] (some 4),kp40 (0)])))]
theorem k23R75p0_ok : allTrue (kIs k23T3 [40] 100000 75) k23R75p0 = true := by decide +kernel
def k23R40p0 : List (List AV × AV) := [
([kq40x0,.vs [[.int .u64 (2)],[.int .u64 (4)]] (some 2)],(kp40 (0))),
([kq40x0,.vs [[.int .u64 (1)]] (some 1)],(kp40 (230))),
([kq40x0,.nils],(kp40 (230))),
([kq40x0,.vs [[.int .u64 (2)],[.int .u64 (6)]] (some 2)],(kp40 (230))),
([kq40x0,.vs [[.int .u64 (0)],[.int .u64 (0)],[.int .u64 (0)],[.int .u64 (0)]] (some 4)],(kp40 (230))),
([kq40x0,.vs [[.int .u64 (0)],[.int .u64 (0)],[.int .u64 (0)]] (some 3)],(kp40 (0))),
([kq40x0,.vs [[.int .u64 (16)]] (some 1)],(kp40 (230))),
([.agg [.vs [[kp40 (0)],[kp40 (1)],[kp40 (0)],[kp40 (0)]] (some 4),.vs [[.vs [[ke40,kz40,.vs [[kp40 (1),ko40]] (some 1)],[ke40,kz40,.vs [[kp40 (2),kh40],[kp40 (3),kh40]] (some 2)]] (some 2)],[.vs [[ke40,kz40,.vs [[kp40 (1),ko40]] (some 1)]] (some 1)],[.vs [[ke40,kz40,.vs [[kp40 (2),ko40]] (some 1)]] (some 1)],[.vs [[ke40,kz40,.vs [[kp40 (3),ko40]] (some 1)]] (some 1)]] (some 4)],.nils],(kp40 (111))),
([.agg [.nils,.nils],.nils],(kp40 (110)))]
theorem k23R40p0_ok : allTrue (kIs k23T3 [40] 100000 40) k23R40p0 = true := by decide +kernel
end
end Go.Abs
