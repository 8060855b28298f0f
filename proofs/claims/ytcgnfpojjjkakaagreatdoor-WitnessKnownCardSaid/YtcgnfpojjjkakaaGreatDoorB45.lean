/-
  Steps to a law of this program: SK29L6P1, SK29J6.
  Conditions: none.
-/
import Derived.Test.YtcgnfpojjjkakaaGreatDoorB43
import Derived.Test.YtcgnfpojjjkakaaGreatDoorB44
set_option linter.unusedVariables false
set_option linter.unusedSimpArgs false
set_option linter.unusedSectionVars false
namespace Go.Abs
noncomputable section
open Go.Proofs
abbrev kp45 (n : Int) : AV := .int .i64 n
abbrev ke45 : AV := .str []
abbrev kz45 : AV := .str [48]
abbrev ko45 : AV := .str [49]
abbrev kh45 : AV := .str [49, 47, 50]
abbrev kq45x0 : AV := .agg [.vs [[kp45 (0)],[kp45 (0)],[kp45 (0)]] (some 3),.vs [[.vs [[ke45,kz45,.vs [[kp45 (0),kh45],[kp45 (1),.str [49,47,52]],[kp45 (2),.str [49,47,52]]] (some 3)]] (some 1)],[.vs [[ke45,kz45,.vs [[kp45 (1),ko45]] (some 1)]] (some 1)],[.vs [[ke45,kz45,.vs [[kp45 (2),ko45]] (some 1)]] (some 1)]] (some 3)]
abbrev kq45x1 : AV := .vs [[kp45 (0)],[kp45 (0)],[kp45 (0)]] (some 3)
abbrev kq45x2 : AV := .vs [[kp45 (0)],[kp45 (0)]] (some 2)
abbrev kq45x3 : AV := .vs [[ke45,kz45,.vs [[kp45 (4),ko45]] (some 1)]] (some 1)
set_option maxRecDepth 1000000

def k29R20p0 : List (List AV × AV) := [
([kq45x0,kp45 (0),.int .u64 (2),.str [49,47,52]],(.ifc 999999 (.tup [.vs [[.vs [[kp45 (0)],[kp45 (1)]] none,.vs [[kp45 (0)]] (some 1)],[.vs [[kp45 (0)],[kp45 (0)],[kp45 (1)]] none,kq45x2]] none,kp45 (0)]))),
([kq45x0,kp45 (1),.int .u64 (2),kz45],(.ifc 999999 (.tup [.vs [[.vs [[kp45 (1)]] (some 1),.vs [] (some 0)]] none,kp45 (0)]))),
([kq45x0,kp45 (0),.int .u64 (2),kh45],(.tup [.nils,kp45 (4)])),
([kq45x0,kp45 (0),.int .u64 (2),.str [49,47,53]],(.ifc 999999 (.tup [.vs [[.vs [[kp45 (0)],[kp45 (1)]] none,.vs [[kp45 (0)]] (some 1)]] none,kp45 (0)]))),
([kq45x0,kp45 (0),.int .u64 (2),.str [55,47,49,54]],(.ifc 999999 (.tup [.vs [[.vs [[kp45 (0)],[kp45 (1)]] none,.vs [[kp45 (0)]] (some 1)],[.vs [[kp45 (0)],[kp45 (0)],[kp45 (1)]] none,kq45x2],[.vs [[kp45 (0)],[kp45 (0)],[kp45 (0)],[kp45 (1)]] none,kq45x1],[.vs [[kp45 (0)],[kp45 (0)],[kp45 (0)],[kp45 (0)],[kp45 (1)]] none,.vs [[kp45 (0)],[kp45 (0)],[kp45 (0)],[kp45 (0)]] (some 4)]] none,kp45 (0)]))),
([kq45x0,kp45 (2),.int .u64 (2),kz45],(.tup [.nils,kp45 (4)])),
([kq45x0,kp45 (3),.int .u64 (2),kz45],(.tup [.nils,kp45 (2)])),
([kq45x0,kp45 (0),.int .u64 (8),kz45],(.tup [.nils,kp45 (2)])),
([kq45x0,kp45 (0),.int .u64 (2),.str [120]],(.tup [.nils,kp45 (5)])),
([kq45x0,kp45 (0),.int .u64 (2),.str [45,49]],(.tup [.nils,kp45 (2)])),
([kq45x0,kp45 (0),.int .u64 (2),.str [50]],(.tup [.nils,kp45 (2)])),
([kq45x0,kp45 (0),.int .u64 (2),.str [49,47,49,48,48,48,48]],(.tup [.nils,kp45 (2)])),
([.agg [.nils,.nils],kp45 (9),.int .u64 (99),.str [120]],(.tup [.nils,kp45 (110)]))]
theorem k29R20p0_ok : allTrue (kIs k29T5 [40] 100000 20) k29R20p0 = true := by decide +kernel
def k29R20p2 : List (List AV × AV) := [
([.agg [kq45x1,.vs [[.vs [[ke45,kz45,.vs [[kp45 (0),.str [57,57,47,49,48,48]],[kp45 (1),.str [49,47,49,48,48]]] (some 2)]] (some 1)],[.vs [[ke45,kz45,.vs [[kp45 (1),ko45]] (some 1)]] (some 1)],[.vs [[ke45,kz45,.vs [[kp45 (2),ko45]] (some 1)]] (some 1)]] (some 3)],kp45 (0),.int .u64 (2),.str [49,47,53,48]],(.ifc 999999 (.tup [.vs [[.vs [[kp45 (0)],[kp45 (1)]] none,.vs [[kp45 (0)]] (some 1)],[.vs [[kp45 (0)],[kp45 (0)],[kp45 (1)]] none,kq45x2],[.vs [[kp45 (0)],[kp45 (0)],[kp45 (0)],[kp45 (1)]] none,kq45x1]] none,kp45 (0)]))),
([.agg [.vs [[kp45 (0)],[kp45 (0)],[kp45 (0)],[kp45 (0)],[kp45 (0)]] (some 5),.vs [[.vs [[ke45,kz45,.vs [[kp45 (1),.str [49,47,51]],[kp45 (2),.str [49,47,51]],[kp45 (3),.str [49,47,51]]] (some 3)]] (some 1)],[.vs [[ke45,kz45,.vs [[kp45 (2),ko45]] (some 1)]] (some 1)],[kq45x3],[kq45x3],[kq45x3]] (some 5)],kp45 (0),.int .u64 (16),.str [57,47,49,48]],(.ifc 999999 (.tup [.vs [[.vs [[kp45 (0)],[kp45 (2)],[kp45 (4)]] none,kq45x2],[.vs [[kp45 (0)],[kp45 (3)],[kp45 (4)]] none,kq45x2],[.vs [[kp45 (0)],[kp45 (1)],[kp45 (2)],[kp45 (4)]] none,kq45x1]] none,kp45 (0)])))]
theorem k29R20p2_ok : allTrue (kIs k29T5 [40] 100000 20) k29R20p2 = true := by decide +kernel
end
end Go.Abs

namespace Go.Abs
noncomputable section
open Go.Proofs

def k29T6 : List (FuncId × List (List AV × AV)) := (20, k29R20p0 ++ k29R20p1 ++ k29R20p2) :: k29T5
theorem k29T6_ok : TabHolds Tryz.prog k29T6 := (tab_cons k29T5_ok (allTrue_app (allTrue_app k29R20p0_ok k29R20p1_ok) k29R20p2_ok) k29T5_ok)
end
end Go.Abs
