/-
  Steps to a law of this program: SK29L4P1, SK29J4.
  Conditions: none.
-/
import Derived.Test.YtcgnfpojjjkakaaGreatDoorB40
import Derived.Test.YtcgnfpojjjkakaaGreatDoorB41
set_option linter.unusedVariables false
set_option linter.unusedSimpArgs false
set_option linter.unusedSectionVars false
namespace Go.Abs
noncomputable section
open Go.Proofs
abbrev kp42 (n : Int) : AV := .int .i64 n
abbrev ke42 : AV := .str []
abbrev kz42 : AV := .str [48]
abbrev ko42 : AV := .str [49]
abbrev kh42 : AV := .str [49, 47, 50]
abbrev kq42x0 : AV := .agg [.vs [[kp42 (0)],[kp42 (0)],[kp42 (0)],[kp42 (0)],[kp42 (0)]] (some 5),.vs [[.vs [[ke42,kz42,.vs [[kp42 (1),.str [49,47,51]],[kp42 (2),.str [49,47,51]],[kp42 (3),.str [49,47,51]]] (some 3)]] (some 1)],[.vs [[ke42,kz42,.vs [[kp42 (2),ko42]] (some 1)]] (some 1)],[.vs [[ke42,kz42,.vs [[kp42 (4),ko42]] (some 1)]] (some 1)],[.vs [[ke42,kz42,.vs [[kp42 (4),ko42]] (some 1)]] (some 1)],[.vs [[ke42,kz42,.vs [[kp42 (4),ko42]] (some 1)]] (some 1)]] (some 5)]
set_option maxRecDepth 1000000

def k29R94p1 : List (List AV × AV) := [
([kq42x0,.int .u64 (19),.int .u64 (16)],(.ifc 999999 (.tup [.vs [[kz42],[kz42],[kz42],[kz42],[ko42]] (some 5),kp42 (0)]))),
([kq42x0,.int .u64 (21),.int .u64 (16)],(.ifc 999999 (.tup [.vs [[.str [49,47,51]],[kz42],[ko42],[kz42],[ko42]] (some 5),kp42 (0)]))),
([kq42x0,.int .u64 (22),.int .u64 (16)],(.ifc 999999 (.tup [.vs [[kz42],[ko42],[ko42],[kz42],[ko42]] (some 5),kp42 (0)]))),
([kq42x0,.int .u64 (25),.int .u64 (16)],(.ifc 999999 (.tup [.vs [[.str [49,47,51]],[kz42],[kz42],[ko42],[ko42]] (some 5),kp42 (0)]))),
([kq42x0,.int .u64 (26),.int .u64 (16)],(.ifc 999999 (.tup [.vs [[kz42],[kz42],[kz42],[ko42],[ko42]] (some 5),kp42 (0)]))),
([kq42x0,.int .u64 (28),.int .u64 (16)],(.ifc 999999 (.tup [.vs [[kz42],[kz42],[ko42],[ko42],[ko42]] (some 5),kp42 (0)]))),
([kq42x0,.int .u64 (15),.int .u64 (0)],(.ifc 999999 (.tup [.vs [[kz42],[kz42],[kz42],[kz42],[kz42]] (some 5),kp42 (0)]))),
([kq42x0,.int .u64 (23),.int .u64 (16)],(.ifc 999999 (.tup [.vs [[.str [50,47,51]],[ko42],[ko42],[kz42],[ko42]] (some 5),kp42 (0)])))]
theorem k29R94p1_ok : allTrue (kIs k29T3 [40] 100000 94) k29R94p1 = true := by decide +kernel
end
end Go.Abs

namespace Go.Abs
noncomputable section
open Go.Proofs

def k29T4 : List (FuncId × List (List AV × AV)) := (94, k29R94p0 ++ k29R94p1) :: k29T3
theorem k29T4_ok : TabHolds Tryz.prog k29T4 := (tab_cons k29T3_ok (allTrue_app k29R94p0_ok k29R94p1_ok) k29T3_ok)
end
end Go.Abs
