/-
  Steps to a law of this program: SK29L4P0.
  Conditions: none.
-/
import Derived.Test.YtcgnfpojjjkakaaGreatDoorB40
set_option linter.unusedVariables false
set_option linter.unusedSimpArgs false
set_option linter.unusedSectionVars false
namespace Go.Abs
noncomputable section
open Go.Proofs
abbrev kp41 (n : Int) : AV := .int .i64 n
abbrev ke41 : AV := .str []
abbrev kz41 : AV := .str [48]
abbrev ko41 : AV := .str [49]
abbrev kh41 : AV := .str [49, 47, 50]
abbrev kq41x0 : AV := .agg [.vs [[kp41 (0)],[kp41 (0)],[kp41 (0)],[kp41 (0)],[kp41 (0)]] (some 5),.vs [[.vs [[ke41,kz41,.vs [[kp41 (1),.str [49,47,51]],[kp41 (2),.str [49,47,51]],[kp41 (3),.str [49,47,51]]] (some 3)]] (some 1)],[.vs [[ke41,kz41,.vs [[kp41 (2),ko41]] (some 1)]] (some 1)],[.vs [[ke41,kz41,.vs [[kp41 (4),ko41]] (some 1)]] (some 1)],[.vs [[ke41,kz41,.vs [[kp41 (4),ko41]] (some 1)]] (some 1)],[.vs [[ke41,kz41,.vs [[kp41 (4),ko41]] (some 1)]] (some 1)]] (some 5)]
abbrev kq41x1 : AV := .agg [.vs [[kp41 (0)],[kp41 (0)],[kp41 (0)]] (some 3),.vs [[.vs [[ke41,kz41,.vs [[kp41 (0),kh41],[kp41 (1),.str [49,47,52]],[kp41 (2),.str [49,47,52]]] (some 3)]] (some 1)],[.vs [[ke41,kz41,.vs [[kp41 (1),ko41]] (some 1)]] (some 1)],[.vs [[ke41,kz41,.vs [[kp41 (2),ko41]] (some 1)]] (some 1)]] (some 3)]
abbrev kq41x2 : AV := .ifc 999999 (.tup [.vs [[kz41],[kz41],[kz41],[kz41],[kz41]] (some 5),kp41 (0)])
abbrev kq41x3 : AV := .ifc 999999 (.tup [.vs [[kz41],[kz41],[kz41],[kz41],[ko41]] (some 5),kp41 (0)])
abbrev kq41x4 : AV := .ifc 999999 (.tup [.vs [[kz41],[kz41],[kz41]] (some 3),kp41 (0)])
set_option maxRecDepth 1000000

def k29R94p0 : List (List AV × AV) := [
([kq41x1,.int .u64 (7),.int .u64 (2)],(.ifc 999999 (.tup [.vs [[kh41],[ko41],[kz41]] (some 3),kp41 (0)]))),
([kq41x1,.int .u64 (1),.int .u64 (0)],(kq41x4)),
([kq41x1,.int .u64 (2),.int .u64 (2)],(.ifc 999999 (.tup [.vs [[kz41],[ko41],[kz41]] (some 3),kp41 (0)]))),
([kq41x1,.int .u64 (4),.int .u64 (0)],(kq41x4)),
([kq41x1,.int .u64 (3),.int .u64 (2)],(.ifc 999999 (.tup [.vs [[kh41],[ko41],[kz41]] (some 3),kp41 (0)]))),
([kq41x1,.int .u64 (5),.int .u64 (0)],(kq41x4)),
([kq41x1,.int .u64 (6),.int .u64 (2)],(.ifc 999999 (.tup [.vs [[kz41],[ko41],[kz41]] (some 3),kp41 (0)]))),
([.agg [.vs [[kp41 (0)],[kp41 (0)],[kp41 (0)]] (some 3),.vs [[.vs [[ke41,kz41,.vs [[kp41 (0),.str [57,57,47,49,48,48]],[kp41 (1),.str [49,47,49,48,48]]] (some 2)]] (some 1)],[.vs [[ke41,kz41,.vs [[kp41 (1),ko41]] (some 1)]] (some 1)],[.vs [[ke41,kz41,.vs [[kp41 (2),ko41]] (some 1)]] (some 1)]] (some 3)],.int .u64 (7),.int .u64 (2)],(.ifc 999999 (.tup [.vs [[ko41],[ko41],[kz41]] (some 3),kp41 (0)]))),
([kq41x0,.int .u64 (31),.int .u64 (16)],(.ifc 999999 (.tup [.vs [[ko41],[ko41],[ko41],[ko41],[ko41]] (some 5),kp41 (0)]))),
([kq41x0,.int .u64 (1),.int .u64 (0)],(kq41x2)),
([kq41x0,.int .u64 (2),.int .u64 (0)],(kq41x2)),
([kq41x0,.int .u64 (4),.int .u64 (0)],(kq41x2)),
([kq41x0,.int .u64 (8),.int .u64 (0)],(kq41x2)),
([kq41x0,.int .u64 (16),.int .u64 (16)],(kq41x3)),
([kq41x0,.int .u64 (3),.int .u64 (0)],(kq41x2)),
([kq41x0,.int .u64 (5),.int .u64 (0)],(kq41x2)),
([kq41x0,.int .u64 (6),.int .u64 (0)],(kq41x2)),
([kq41x0,.int .u64 (9),.int .u64 (0)],(kq41x2)),
([kq41x0,.int .u64 (10),.int .u64 (0)],(kq41x2)),
([kq41x0,.int .u64 (12),.int .u64 (0)],(kq41x2)),
([kq41x0,.int .u64 (17),.int .u64 (16)],(kq41x3)),
([kq41x0,.int .u64 (18),.int .u64 (16)],(kq41x3)),
([kq41x0,.int .u64 (20),.int .u64 (16)],(.ifc 999999 (.tup [.vs [[kz41],[kz41],[ko41],[kz41],[ko41]] (some 5),kp41 (0)]))),
([kq41x0,.int .u64 (24),.int .u64 (16)],(.ifc 999999 (.tup [.vs [[kz41],[kz41],[kz41],[ko41],[ko41]] (some 5),kp41 (0)]))),
([kq41x0,.int .u64 (7),.int .u64 (0)],(kq41x2)),
([kq41x0,.int .u64 (11),.int .u64 (0)],(kq41x2)),
([kq41x0,.int .u64 (13),.int .u64 (0)],(kq41x2)),
([kq41x0,.int .u64 (14),.int .u64 (0)],(kq41x2))]
theorem k29R94p0_ok : allTrue (kIs k29T3 [40] 100000 94) k29R94p0 = true := by decide +kernel
end
end Go.Abs
