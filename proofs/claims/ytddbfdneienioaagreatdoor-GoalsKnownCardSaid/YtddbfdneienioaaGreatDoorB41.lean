/-
  Steps to a law of this program: SK23L4P1.
  Conditions: none.
-/
import Derived.Test.YtddbfdneienioaaGreatDoorB39
set_option linter.unusedVariables false
set_option linter.unusedSimpArgs false
set_option linter.unusedSectionVars false
namespace Go.Abs
noncomputable section
open Go.Proofs
abbrev kp41 (n : Int) : AV := .int .i64 n
abbrev ke41 : AV := .str []
abbrev kz41 : AV := .str [48]
abbrev ko41 : AV := .str [49]
abbrev kh41 : AV := .str [49, 47, 50]
abbrev kq41x0 : AV := .agg [.vs [[kp41 (0)],[kp41 (0)],[kp41 (0)],[kp41 (0)]] (some 4),.vs [[.vs [[ke41,kz41,.vs [[kp41 (1),ko41]] (some 1)],[ke41,kz41,.vs [[kp41 (2),kh41],[kp41 (3),kh41]] (some 2)]] (some 2)],[.vs [[ke41,kz41,.vs [[kp41 (1),ko41]] (some 1)]] (some 1)],[.vs [[ke41,kz41,.vs [[kp41 (2),ko41]] (some 1)]] (some 1)],[.vs [[ke41,kz41,.vs [[kp41 (3),ko41]] (some 1)]] (some 1)]] (some 4)]
abbrev kq41x1 : AV := .agg [.vs [[kp41 (0)],[kp41 (0)],[kp41 (0)],[kp41 (0)]] (some 4),.vs [[.vs [[ke41,kz41,.vs [[kp41 (3),ko41]] (some 1)],[ke41,kz41,.vs [[kp41 (1),ko41]] (some 1)]] (some 2)],[.vs [[ke41,kz41,.vs [[kp41 (1),ko41]] (some 1)]] (some 1)],[.vs [[ke41,kz41,.vs [[kp41 (2),ko41]] (some 1)]] (some 1)],[.vs [[ke41,kz41,.vs [[kp41 (0),ko41]] (some 1)],[ke41,kz41,.vs [[kp41 (2),ko41]] (some 1)]] (some 2)]] (some 4)]
abbrev kq41x2 : AV := .agg [.vs [[kp41 (0)],[kp41 (0)],[kp41 (0)],[kp41 (0)]] (some 4),.vs [[.vs [[ke41,kz41,.vs [[kp41 (1),ko41]] (some 1)],[ke41,kz41,.vs [[kp41 (2),kh41],[kp41 (3),kh41]] (some 2)],[ke41,kz41,.vs [[kp41 (1),kh41],[kp41 (2),.str [49,47,52]],[kp41 (3),.str [49,47,52]]] (some 3)]] none],[.vs [[ke41,kz41,.vs [[kp41 (1),ko41]] (some 1)]] (some 1)],[.vs [[ke41,kz41,.vs [[kp41 (2),ko41]] (some 1)]] (some 1)],[.vs [[ke41,kz41,.vs [[kp41 (3),ko41]] (some 1)]] (some 1)]] (some 4)]
abbrev kq41x3 : AV := .agg [.vs [[kp41 (0)],[kp41 (0)],[kp41 (0)],[kp41 (0)]] (some 4),.vs [[.vs [[ke41,kz41,.vs [[kp41 (1),ko41]] (some 1)],[ke41,kz41,.vs [[kp41 (2),kh41],[kp41 (3),kh41]] (some 2)],[ke41,kz41,.vs [[kp41 (1),kh41],[kp41 (2),.str [49,47,51]],[kp41 (3),.str [49,47,54]]] (some 3)]] none],[.vs [[ke41,kz41,.vs [[kp41 (1),ko41]] (some 1)]] (some 1)],[.vs [[ke41,kz41,.vs [[kp41 (2),ko41]] (some 1)]] (some 1)],[.vs [[ke41,kz41,.vs [[kp41 (3),ko41]] (some 1)]] (some 1)]] (some 4)]
abbrev kq41x4 : AV := .vs [[kp41 (0)],[kp41 (0)],[kp41 (0)],[kp41 (0)]] none
abbrev kq41x5 : AV := .vs [[ke41,kz41,.vs [[kp41 (1),ko41]] none]] none
abbrev kq41x6 : AV := .vs [[ke41,kz41,.vs [[kp41 (2),ko41]] none]] none
abbrev kq41x7 : AV := .vs [[.int .u64 (2)],[.int .u64 (4)]] (some 2)
abbrev kq41x8 : AV := .ifc 999999 (.tup [.agg [kq41x4,.vs [[.vs [[ke41,kz41,.vs [[kp41 (2),kh41],[kp41 (3),kh41]] none]] none],[kq41x5],[kq41x6],[.vs [[ke41,kz41,.vs [[kp41 (3),ko41]] none]] none]] (some 4)],kp41 (0)])
abbrev kq41x9 : AV := .ifc 999999 (.tup [.agg [kq41x4,.vs [[kq41x5],[kq41x5],[kq41x6],[.vs [[ke41,kz41,.vs [[kp41 (3),ko41]] none]] none]] (some 4)],kp41 (0)])
abbrev kq41x10 : AV := .vs [[ke41,kz41,.vs [[kp41 (1),ko41]] (some 1)],[ke41,kz41,.vs [[kp41 (2),ko41]] (some 1)],[ke41,kz41,.vs [[kp41 (3),ko41]] (some 1)]] (some 3)
abbrev kq41x11 : AV := .vs [[kp41 (1)],[kp41 (0)],[kp41 (0)],[kp41 (0)]] none
abbrev kq41x12 : AV := .vs [[ke41,kz41,.vs [[kp41 (3),ko41]] none]] none
set_option maxRecDepth 1000000

def k23R38p0 : List (List AV × AV) := [
([kq41x0,kp41 (0),kq41x7,.vs [[kh41],[.str [49,47,52]]] (some 2)],(.tup [.bool true,kp41 (0)])),
([kq41x0,kp41 (0),kq41x7,.vs [[kh41],[.str [49,47,51]]] (some 2)],(.tup [.bool false,kp41 (0)])),
([kq41x0,kp41 (-1),kq41x7,.nils],(.tup [.bool false,kp41 (2)])),
([kq41x0,kp41 (0),kq41x7,.vs [[ko41]] (some 1)],(.tup [.bool false,kp41 (2)])),
([kq41x0,kp41 (0),kq41x7,.vs [[.str [50]],[.str [120]]] (some 2)],(.tup [.bool false,kp41 (5)])),
([kq41x0,kp41 (0),kq41x7,.vs [[.str [50]],[kz41]] (some 2)],(.tup [.bool false,kp41 (2)])),
([kq41x0,kp41 (0),kq41x7,.vs [[kz41],[.str [49,47,49,48,48,48,48]]] (some 2)],(.tup [.bool false,kp41 (2)])),
([.agg [.vs [[kp41 (0)],[kp41 (0)],[kp41 (0)],[kp41 (0)],[kp41 (0)],[kp41 (0)]] none,.vs [[.vs [[ke41,kz41,.vs [[kp41 (1),ko41]] (some 1)],[ke41,kz41,.vs [[kp41 (2),kh41],[kp41 (3),kh41]] (some 2)]] (some 2)],[.vs [[ke41,kz41,.vs [[kp41 (1),ko41]] (some 1)]] (some 1)],[.vs [[ke41,kz41,.vs [[kp41 (2),ko41]] (some 1)]] (some 1)],[.vs [[ke41,kz41,.vs [[kp41 (3),ko41]] (some 1)]] (some 1)],[kq41x10],[kq41x10]] none],kp41 (0),kq41x7,.vs [[kz41],[kz41]] (some 2)],(.tup [.bool false,kp41 (6)])),
([kq41x1,kp41 (0),kq41x7,.vs [[.str [49,47,51]],[.str [50,47,51]]] (some 2)],(.tup [.bool true,kp41 (0)])),
([kq41x1,kp41 (3),kq41x7,.vs [[.str [49,47,51]],[.str [51,47,52]]] (some 2)],(.tup [.bool false,kp41 (0)])),
([kq41x0,kp41 (0),kq41x7,.vs [[ko41],[kz41]] (some 2)],(.tup [.bool true,kp41 (0)])),
([kq41x0,kp41 (0),kq41x7,.vs [[kz41],[kz41]] (some 2)],(.tup [.bool true,kp41 (0)])),
([kq41x0,kp41 (0),kq41x7,.vs [[kz41],[kh41]] (some 2)],(.tup [.bool true,kp41 (0)])),
([kq41x0,kp41 (0),kq41x7,.vs [[.str [49,47,49,48,48]],[kh41]] (some 2)],(.tup [.bool false,kp41 (0)]))]
theorem k23R38p0_ok : allTrue (kIs k23T3 [40] 100000 38) k23R38p0 = true := by decide +kernel
def k23R102p0 : List (List AV × AV) := [
([kq41x0,kq41x4],(kq41x9)),
([kq41x0,kq41x11],(kq41x8)),
([kq41x1,kq41x4],(.ifc 999999 (.tup [.agg [kq41x4,.vs [[kq41x12],[kq41x5],[kq41x6],[.vs [[ke41,kz41,.vs [[kp41 (0),ko41]] none]] none]] (some 4)],kp41 (0)]))),
([kq41x1,kq41x11],(.ifc 999999 (.tup [.agg [kq41x4,.vs [[kq41x5],[kq41x5],[kq41x6],[.vs [[ke41,kz41,.vs [[kp41 (0),ko41]] none]] none]] (some 4)],kp41 (0)]))),
([kq41x1,.vs [[kp41 (0)],[kp41 (0)],[kp41 (0)],[kp41 (1)]] none],(.ifc 999999 (.tup [.agg [kq41x4,.vs [[kq41x12],[kq41x5],[kq41x6],[kq41x6]] (some 4)],kp41 (0)]))),
([kq41x1,.vs [[kp41 (1)],[kp41 (0)],[kp41 (0)],[kp41 (1)]] none],(.ifc 999999 (.tup [.agg [kq41x4,.vs [[kq41x5],[kq41x5],[kq41x6],[kq41x6]] (some 4)],kp41 (0)]))),
([kq41x2,kq41x4],(kq41x9)),
([kq41x2,kq41x11],(kq41x8)),
([kq41x2,.vs [[kp41 (2)],[kp41 (0)],[kp41 (0)],[kp41 (0)]] none],(.ifc 999999 (.tup [.agg [kq41x4,.vs [[.vs [[ke41,kz41,.vs [[kp41 (1),kh41],[kp41 (2),.str [49,47,52]],[kp41 (3),.str [49,47,52]]] none]] none],[kq41x5],[kq41x6],[kq41x12]] (some 4)],kp41 (0)]))),
([kq41x3,kq41x4],(kq41x9)),
([kq41x3,kq41x11],(kq41x8)),
([kq41x3,.vs [[kp41 (2)],[kp41 (0)],[kp41 (0)],[kp41 (0)]] none],(.ifc 999999 (.tup [.agg [kq41x4,.vs [[.vs [[ke41,kz41,.vs [[kp41 (1),kh41],[kp41 (2),.str [49,47,51]],[kp41 (3),.str [49,47,54]]] none]] none],[kq41x5],[kq41x6],[kq41x12]] (some 4)],kp41 (0)])))]
theorem k23R102p0_ok : allTrue (kIs k23T3 [40] 100000 102) k23R102p0 = true := by decide +kernel
end
end Go.Abs
