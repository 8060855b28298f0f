/-
  Steps to a law of this program: SK29L1P3, SK29J1, SK29L2P0, SK29J2.
  Conditions: none.
-/
import Derived.Test.YtcgnfpojjjkakaaGreatDoorB35
import Derived.Test.YtcgnfpojjjkakaaGreatDoorB36
import Derived.Test.YtcgnfpojjjkakaaGreatDoorB37
import Derived.Test.YtcgnfpojjjkakaaGreatDoorB38
set_option linter.unusedVariables false
set_option linter.unusedSimpArgs false
set_option linter.unusedSectionVars false
namespace Go.Abs
noncomputable section
open Go.Proofs
abbrev kp39 (n : Int) : AV := .int .i64 n
abbrev ke39 : AV := .str []
abbrev kz39 : AV := .str [48]
abbrev ko39 : AV := .str [49]
abbrev kh39 : AV := .str [49, 47, 50]
abbrev kq39x0 : AV := .vs [[.int .u32 (1)]] none
abbrev kq39x1 : AV := .vs [[ke39,kz39,.vs [[kp39 (2),ko39]] (some 1)]] (some 1)
abbrev kq39x2 : AV := .vs [[ke39,kz39,.vs [[kp39 (4),ko39]] (some 1)]] (some 1)
set_option maxRecDepth 1000000

def k29R82p0 : List (List AV × AV) := [
([kz39],(.bool true)),
([kh39],(.bool true)),
([.str [49,47,52]],(.bool true)),
([ko39],(.bool true)),
([.str [49,47,53]],(.bool true)),
([.str [55,47,49,54]],(.bool true)),
([.str [45,49]],(.bool true)),
([.str [50]],(.bool true)),
([.str [49,47,49,48,48,48,48]],(.bool false)),
([.str [57,57,47,49,48,48]],(.bool true)),
([.str [49,47,49,48,48]],(.bool true)),
([.str [50,47,51]],(.bool true)),
([.str [49,47,53,48]],(.bool true)),
([.str [49,47,51]],(.bool true)),
([.str [57,47,49,48]],(.bool true))]
theorem k29R82p0_ok : allTrue (kIs k29T0 [40] 100000 82) k29R82p0 = true := by decide +kernel
def k29R24p0 : List (List AV × AV) := [
([.str [49,47,52]],(kp39 (0))),
([kh39],(kp39 (0))),
([kz39],(kp39 (0))),
([.str [49,47,53]],(kp39 (0))),
([.str [55,47,49,54]],(kp39 (0))),
([.str [120]],(kp39 (5))),
([.str [45,49]],(kp39 (0))),
([.str [50]],(kp39 (0))),
([.str [49,47,49,48,48,48,48]],(kp39 (0))),
([.str [50,47,51]],(kp39 (0))),
([.str [49,47,49,48,48]],(kp39 (0))),
([.str [49,47,53,48]],(kp39 (0))),
([.str [57,47,49,48]],(kp39 (0))),
([ko39],(kp39 (0))),
([.str [45,49,47,51]],(kp39 (0))),
([.str [49,47,51]],(kp39 (0)))]
theorem k29R24p0_ok : allTrue (kIs k29T0 [40] 100000 24) k29R24p0 = true := by decide +kernel
def k29R214p0 : List (List AV × AV) := [
([kz39],(.tup [kz39,ko39,kp39 (0)])),
([kh39],(.tup [ko39,.str [50],kp39 (0)])),
([.str [49,47,52]],(.tup [ko39,.str [52],kp39 (0)])),
([ko39],(.tup [ko39,ko39,kp39 (0)])),
([.str [57,57,47,49,48,48]],(.tup [.str [57,57],.str [49,48,48],kp39 (0)])),
([.str [49,47,49,48,48]],(.tup [ko39,.str [49,48,48],kp39 (0)])),
([.str [49,47,51]],(.tup [ko39,.str [51],kp39 (0)]))]
theorem k29R214p0_ok : allTrue (kIs k29T0 [40] 100000 214) k29R214p0 = true := by decide +kernel
end
end Go.Abs

namespace Go.Abs
noncomputable section
open Go.Proofs

def k29T1 : List (FuncId × List (List AV × AV)) := (24, k29R24p0) :: (59, k29R59p0) :: (72, k29R72p0) :: (82, k29R82p0) :: (153, k29R153p0 ++ k29R153p1 ++ k29R153p2) :: (214, k29R214p0) :: k29T0
theorem k29T1_ok : TabHolds Tryz.prog k29T1 := (tab_cons k29T0_ok k29R24p0_ok (tab_cons k29T0_ok k29R59p0_ok (tab_cons k29T0_ok k29R72p0_ok (tab_cons k29T0_ok k29R82p0_ok (tab_cons k29T0_ok (allTrue_app (allTrue_app k29R153p0_ok k29R153p1_ok) k29R153p2_ok) (tab_cons k29T0_ok k29R214p0_ok k29T0_ok))))))
end
end Go.Abs

namespace Go.Abs
noncomputable section
open Go.Proofs
set_option maxRecDepth 1000000

def k29R57p0 : List (List AV × AV) := [
([.agg [.vs [[kp39 (0)],[kp39 (0)],[kp39 (0)]] (some 3),.vs [[.vs [[ke39,kz39,.vs [[kp39 (0),kh39],[kp39 (1),.str [49,47,52]],[kp39 (2),.str [49,47,52]]] (some 3)]] (some 1)],[.vs [[ke39,kz39,.vs [[kp39 (1),ko39]] (some 1)]] (some 1)],[kq39x1]] (some 3)],.int .u64 (2)],(.vs [[.bool false,kq39x0,.bool false,.vs [[.int .u32 (4)]] none,kp39 (1)],[.bool false,kq39x0,.bool false,kq39x0,kp39 (0)],[.bool false,.nils,.bool false,kq39x0,kp39 (0)]] (some 3))),
([.agg [.vs [[kp39 (0)],[kp39 (0)],[kp39 (0)]] (some 3),.vs [[.vs [[ke39,kz39,.vs [[kp39 (0),.str [57,57,47,49,48,48]],[kp39 (1),.str [49,47,49,48,48]]] (some 2)]] (some 1)],[.vs [[ke39,kz39,.vs [[kp39 (1),ko39]] (some 1)]] (some 1)],[kq39x1]] (some 3)],.int .u64 (2)],(.vs [[.bool false,kq39x0,.bool false,.vs [[.int .u32 (100)]] none,kp39 (1)],[.bool false,kq39x0,.bool false,kq39x0,kp39 (0)],[.bool false,.nils,.bool false,kq39x0,kp39 (0)]] (some 3))),
([.agg [.vs [[kp39 (0)],[kp39 (0)],[kp39 (0)],[kp39 (0)],[kp39 (0)]] (some 5),.vs [[.vs [[ke39,kz39,.vs [[kp39 (1),.str [49,47,51]],[kp39 (2),.str [49,47,51]],[kp39 (3),.str [49,47,51]]] (some 3)]] (some 1)],[kq39x1],[kq39x2],[kq39x2],[kq39x2]] (some 5)],.int .u64 (16)],(.vs [[.bool false,kq39x0,.bool false,.vs [[.int .u32 (3)]] none,kp39 (2)],[.bool false,kq39x0,.bool false,kq39x0,kp39 (2)],[.bool false,kq39x0,.bool false,kq39x0,kp39 (1)],[.bool false,kq39x0,.bool false,kq39x0,kp39 (1)],[.bool false,kq39x0,.bool false,kq39x0,kp39 (0)]] (some 5)))]
theorem k29R57p0_ok : allTrue (kIs k29T1 [40] 100000 57) k29R57p0 = true := by decide +kernel
def k29R184p0 : List (List AV × AV) := [
([.vs [[.vs [[kh39]] (some 1)]] none],(kp39 (0))),
([.vs [[.vs [[.str [49,47,49,48,48]]] (some 1)]] none],(kp39 (0))),
([.vs [[.vs [[ko39],[.str [45,49,47,51]],[.str [45,49,47,51]],[.str [45,49,47,51]]] (some 4)],[.vs [[kz39],[ko39],[.str [45,49]],[kz39]] (some 4)],[.vs [[kz39],[kz39],[ko39],[kz39]] (some 4)],[.vs [[kz39],[kz39],[kz39],[ko39]] (some 4)]] none],(kp39 (0))),
([.vs [[.vs [[ko39]] (some 1)]] none],(kp39 (0))),
([.vs [[.vs [[ko39],[.str [45,49,47,51]]] (some 2)],[.vs [[kz39],[ko39]] (some 2)]] none],(kp39 (0))),
([.vs [[.vs [[ko39],[.str [45,49]]] (some 2)],[.vs [[kz39],[ko39]] (some 2)]] none],(kp39 (0))),
([.vs [[.vs [[ko39],[kz39]] (some 2)],[.vs [[kz39],[ko39]] (some 2)]] none],(kp39 (0))),
([.vs [[.vs [[ko39],[.str [45,49,47,51]],[.str [45,49,47,51]]] (some 3)],[.vs [[kz39],[ko39],[.str [45,49]]] (some 3)],[.vs [[kz39],[kz39],[ko39]] (some 3)]] none],(kp39 (0)))]
theorem k29R184p0_ok : allTrue (kIs k29T1 [40] 100000 184) k29R184p0 = true := by decide +kernel
def k29R171p0 : List (List AV × AV) := [
([kz39],(.tup [kp39 (0),kp39 (1),.bool true])),
([kh39],(.tup [kp39 (1),kp39 (2),.bool true])),
([.str [49,47,52]],(.tup [kp39 (1),kp39 (4),.bool true])),
([ko39],(.tup [kp39 (1),kp39 (1),.bool true])),
([.str [57,57,47,49,48,48]],(.tup [kp39 (99),kp39 (100),.bool true])),
([.str [49,47,49,48,48]],(.tup [kp39 (1),kp39 (100),.bool true])),
([.str [49,47,51]],(.tup [kp39 (1),kp39 (3),.bool true]))]
theorem k29R171p0_ok : allTrue (kIs k29T1 [40] 100000 171) k29R171p0 = true := by decide +kernel
end
end Go.Abs

namespace Go.Abs
noncomputable section
open Go.Proofs

def k29T2 : List (FuncId × List (List AV × AV)) := (57, k29R57p0) :: (171, k29R171p0) :: (184, k29R184p0) :: k29T1
theorem k29T2_ok : TabHolds Tryz.prog k29T2 := (tab_cons k29T1_ok k29R57p0_ok (tab_cons k29T1_ok k29R171p0_ok (tab_cons k29T1_ok k29R184p0_ok k29T1_ok)))
end
end Go.Abs
