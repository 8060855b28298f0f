/-
  Steps to a law of this program: SK41L5P2, SK41J5.
  Conditions: none.
-/
import Derived.Test.YtcgnfpojjjkakaaGreatDoorB38
import Derived.Test.YtcgnfpojjjkakaaGreatDoorB39
import Derived.Test.YtcgnfpojjjkakaaGreatDoorB40
set_option linter.unusedVariables false
set_option linter.unusedSimpArgs false
set_option linter.unusedSectionVars false
namespace Go.Abs
noncomputable section
open Go.Proofs
abbrev kp41 (n : Int) : AV := .int .i64 n
abbrev ke41 : AV := .str []
abbrev kz41 : AV := .str [48]
abbrev ko41 : AV := .str [49]
abbrev kh41 : AV := .str [49, 47, 50]
abbrev kq41x0 : AV := .vs [[.bool false,.vs [[.int .u32 (1)]] none,.bool false,.vs [[.int .u32 (1)]] none]] (some 1)
abbrev kq41x1 : AV := .vs [[.int .u32 (1)]] none
abbrev kq41x2 : AV := .agg [.vs [[.bool false,kq41x1,.bool false,kq41x1],[.bool true,kq41x1,.bool false,kq41x1]] (some 2),kq41x0]
abbrev kq41x3 : AV := .agg [.vs [[.bool false,.vs [[.int .u32 (2)]] none,.bool false,kq41x1]] (some 1),kq41x0]
abbrev kq41x4 : AV := .agg [.vs [[.bool true,kq41x1,.bool false,kq41x1]] (some 1),kq41x0]
abbrev kq41x5 : AV := .agg [.vs [[.bool false,.vs [] none,.bool false,kq41x1],[.bool false,kq41x1,.bool false,kq41x1]] (some 2),kq41x0]
abbrev kq41x6 : AV := .agg [.vs [[.bool false,.nils,.bool false,kq41x1],[.bool false,kq41x1,.bool false,kq41x1]] (some 2),kq41x0]
set_option maxRecDepth 1000000

def k41R39p0 : List (List AV × AV) := [
([.agg [.vs [] (some 0),kq41x0],.agg [kq41x0,kq41x0]],(.agg [kq41x0,kq41x0])),
([.agg [.vs [] (some 0),kq41x0],kq41x5],(kq41x6)),
([kq41x6,kq41x2],(.agg [kq41x0,kq41x0])),
([.agg [.vs [] (some 0),kq41x0],kq41x2],(kq41x2)),
([kq41x2,kq41x5],(.agg [kq41x0,kq41x0])),
([.agg [.vs [] (some 0),kq41x0],kq41x3],(kq41x3)),
([kq41x3,kq41x4],(.agg [kq41x0,kq41x0])),
([.agg [.vs [] (some 0),kq41x0],kq41x4],(kq41x4)),
([kq41x4,.agg [kq41x0,kq41x0]],(.agg [.nils,kq41x0])),
([.agg [.nils,kq41x0],.agg [kq41x0,kq41x0]],(.agg [kq41x0,kq41x0])),
([kq41x4,kq41x3],(.agg [kq41x0,kq41x0]))]
theorem k41R39p0_ok : allTrue (kIs k41T4 [] 100000 39) k41R39p0 = true := by decide +kernel
end
end Go.Abs

namespace Go.Abs
noncomputable section
open Go.Proofs

def k41T5 : List (FuncId × List (List AV × AV)) := (38, k41R38p0) :: (39, k41R39p0) :: (40, k41R40p0 ++ k41R40p1) :: (135, k41R135p0) :: (137, k41R137p0) :: k41T4
theorem k41T5_ok : TabHolds Tryz.prog k41T5 := (tab_cons k41T4_ok k41R38p0_ok (tab_cons k41T4_ok k41R39p0_ok (tab_cons k41T4_ok (allTrue_app k41R40p0_ok k41R40p1_ok) (tab_cons k41T4_ok k41R135p0_ok (tab_cons k41T4_ok k41R137p0_ok k41T4_ok)))))
end
end Go.Abs
