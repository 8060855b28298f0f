/-
  Steps to a law of this program: SK29L5P0, SK29J5.
  Conditions: none.
-/
import Derived.Test.YtcgnfpojjjkakaaGreatDoorB42
set_option linter.unusedVariables false
set_option linter.unusedSimpArgs false
set_option linter.unusedSectionVars false
namespace Go.Abs
noncomputable section
open Go.Proofs
abbrev kp43 (n : Int) : AV := .int .i64 n
abbrev ke43 : AV := .str []
abbrev kz43 : AV := .str [48]
abbrev ko43 : AV := .str [49]
abbrev kh43 : AV := .str [49, 47, 50]
abbrev kq43x0 : AV := .agg [.vs [[kp43 (0)],[kp43 (0)],[kp43 (0)]] (some 3),.vs [[.vs [[ke43,kz43,.vs [[kp43 (0),kh43],[kp43 (1),.str [49,47,52]],[kp43 (2),.str [49,47,52]]] (some 3)]] (some 1)],[.vs [[ke43,kz43,.vs [[kp43 (1),ko43]] (some 1)]] (some 1)],[.vs [[ke43,kz43,.vs [[kp43 (2),ko43]] (some 1)]] (some 1)]] (some 3)]
abbrev kq43x1 : AV := .agg [.vs [[kp43 (0)],[kp43 (0)],[kp43 (0)],[kp43 (0)],[kp43 (0)]] (some 5),.vs [[.vs [[ke43,kz43,.vs [[kp43 (1),.str [49,47,51]],[kp43 (2),.str [49,47,51]],[kp43 (3),.str [49,47,51]]] (some 3)]] (some 1)],[.vs [[ke43,kz43,.vs [[kp43 (2),ko43]] (some 1)]] (some 1)],[.vs [[ke43,kz43,.vs [[kp43 (4),ko43]] (some 1)]] (some 1)],[.vs [[ke43,kz43,.vs [[kp43 (4),ko43]] (some 1)]] (some 1)],[.vs [[ke43,kz43,.vs [[kp43 (4),ko43]] (some 1)]] (some 1)]] (some 5)]
set_option maxRecDepth 1000000

def k29R21p0 : List (List AV × AV) := [
([kq43x0,kp43 (0),.int .u64 (2),.str [49,47,52]],(.tup [.int .u64 (3),kp43 (0)])),
([kq43x0,kp43 (0),.int .u64 (2),kh43],(.tup [.int .u64 (0),kp43 (4)])),
([kq43x0,kp43 (1),.int .u64 (2),kh43],(.tup [.int .u64 (2),kp43 (0)])),
([.agg [.vs [[kp43 (0)],[kp43 (0)],[kp43 (0)]] (some 3),.vs [[.vs [[ke43,kz43,.vs [[kp43 (0),kh43],[kp43 (1),.str [49,47,52]],[kp43 (2),.str [49,47,52]]] (some 3)]] (some 1)],[.vs [[ke43,kz43,.vs [[kp43 (1),ko43]] (some 1)],[ke43,kz43,.vs [[kp43 (2),ko43]] (some 1)]] none],[.vs [[ke43,kz43,.vs [[kp43 (2),ko43]] (some 1)]] (some 1)]] (some 3)],kp43 (9),.int .u64 (99),.str [120]],(.tup [.int .u64 (0),kp43 (111)])),
([kq43x1,kp43 (0),.int .u64 (16),.str [49,47,51]],(.tup [.int .u64 (23),kp43 (0)]))]
theorem k29R21p0_ok : allTrue (kIs k29T4 [40] 100000 21) k29R21p0 = true := by decide +kernel
def k29R55p0 : List (List AV × AV) := [
([kq43x0,.int .u64 (2)],(.tup [.vs [[kh43],[ko43],[kz43]] (some 3),kp43 (0)])),
([.agg [.vs [[kp43 (0)],[kp43 (0)],[kp43 (0)]] (some 3),.vs [[.vs [[ke43,kz43,.vs [[kp43 (0),.str [57,57,47,49,48,48]],[kp43 (1),.str [49,47,49,48,48]]] (some 2)]] (some 1)],[.vs [[ke43,kz43,.vs [[kp43 (1),ko43]] (some 1)]] (some 1)],[.vs [[ke43,kz43,.vs [[kp43 (2),ko43]] (some 1)]] (some 1)]] (some 3)],.int .u64 (2)],(.tup [.vs [[ko43],[ko43],[kz43]] (some 3),kp43 (0)])),
([kq43x1,.int .u64 (16)],(.tup [.vs [[ko43],[ko43],[ko43],[ko43],[ko43]] (some 5),kp43 (0)]))]
theorem k29R55p0_ok : allTrue (kIs k29T4 [40] 100000 55) k29R55p0 = true := by decide +kernel
end
end Go.Abs

namespace Go.Abs
noncomputable section
open Go.Proofs

def k29T5 : List (FuncId × List (List AV × AV)) := (21, k29R21p0) :: (55, k29R55p0) :: k29T4
theorem k29T5_ok : TabHolds Tryz.prog k29T5 := (tab_cons k29T4_ok k29R21p0_ok (tab_cons k29T4_ok k29R55p0_ok k29T4_ok))
end
end Go.Abs
