/-
  Steps to a law of this program: SK20J0, SK20L1P0, SK20L1P1, SK20J1, SK20L2P0, SK20J2.
  Conditions: none.
-/
import Derived.Test.YtddbfdneienioaaGreatDoorB36
import Derived.Test.YtddbfdneienioaaGreatDoorB34
import Derived.Test.YtddbfdneienioaaGreatDoorB35
set_option linter.unusedVariables false
set_option linter.unusedSimpArgs false
set_option linter.unusedSectionVars false
namespace Go.Abs
noncomputable section
open Go.Proofs
abbrev kp37 (n : Int) : AV := .int .i64 n
abbrev ke37 : AV := .str []
abbrev kz37 : AV := .str [48]
abbrev ko37 : AV := .str [49]
abbrev kh37 : AV := .str [49, 47, 50]
abbrev kq37x0 : AV := .vs [[kz37],[ko37],[kz37],[kz37]] (some 4)
abbrev kq37x1 : AV := .vs [[kz37],[kz37],[kz37],[ko37],[kz37]] (some 5)
abbrev kq37x2 : AV := .vs [[.str [45,49,47,49,48]],[kz37],[kz37],[kz37],[.str [49,47,49,48]]] (some 5)
abbrev kq37x3 : AV := .vs [[ko37],[.str [45,49,47,50]],[kz37],[.str [45,49,47,50]],[kz37]] (some 5)
abbrev kq37x4 : AV := .vs [[kz37],[kz37],[ko37],[kz37]] (some 4)

def k20T0 : List (FuncId × List (List AV × AV)) := (25, k20R25p0) :: (26, k20R26p0) :: (27, k20R27p0) :: (48, k20R48p0) :: (49, k20R49p0) :: (79, k20R79p0) :: (162, k20R162p0) :: (191, k20R191p0) :: (354, k20R354p0) :: (373, k20R373p0 ++ k20R373p1 ++ k20R373p2 ++ k20R373p3) :: (395, k20R395p0) :: []
theorem k20T0_ok : TabHolds Tryz.prog k20T0 := (tab_cons tab_nil k20R25p0_ok (tab_cons tab_nil k20R26p0_ok (tab_cons tab_nil k20R27p0_ok (tab_cons tab_nil k20R48p0_ok (tab_cons tab_nil k20R49p0_ok (tab_cons tab_nil k20R79p0_ok (tab_cons tab_nil k20R162p0_ok (tab_cons tab_nil k20R191p0_ok (tab_cons tab_nil k20R354p0_ok (tab_cons tab_nil (allTrue_app (allTrue_app (allTrue_app k20R373p0_ok k20R373p1_ok) k20R373p2_ok) k20R373p3_ok) (tab_cons tab_nil k20R395p0_ok tab_nil)))))))))))
end
end Go.Abs

namespace Go.Abs
noncomputable section
open Go.Proofs
set_option maxRecDepth 1000000

def k20R44p0 : List (List AV × AV) := [
([ko37],(kp37 (0))),
([.str [45,49]],(kp37 (0))),
([kz37],(kp37 (0))),
([.str [49,49,47,50]],(kp37 (0))),
([.str [50]],(kp37 (0))),
([.str [45,49,47,50]],(kp37 (0))),
([.str [52]],(kp37 (0))),
([.str [49,47,51]],(kp37 (0))),
([.str [45,49,47,49,48]],(kp37 (0))),
([.str [49,47,49,48]],(kp37 (0))),
([.str [55,47,52]],(kp37 (0))),
([kh37],(kp37 (0))),
([.str [45,49,47,51]],(kp37 (0))),
([.str [52,55,47,56]],(kp37 (0))),
([.str [49,47,52]],(kp37 (0))),
([.str [55,57,49,47,56]],(kp37 (0))),
([.str [57,47,49,54]],(kp37 (0))),
([.str [49,51,47,50]],(kp37 (0))),
([.str [49,55,47,50]],(kp37 (0))),
([.str [49,57,57,47,50]],(kp37 (0)))]
theorem k20R44p0_ok : allTrue (kIs k20T0 [] 100000 44) k20R44p0 = true := by decide +kernel
end
end Go.Abs

namespace Go.Abs
noncomputable section
open Go.Proofs
set_option maxRecDepth 1000000

def k20R353p0 : List (List AV × AV) := [
([kz37],(.tup [kz37,ko37,kp37 (0)])),
([ko37],(.tup [ko37,ko37,kp37 (0)])),
([.str [50]],(.tup [.str [50],ko37,kp37 (0)])),
([.str [51]],(.tup [.str [51],ko37,kp37 (0)])),
([.str [52]],(.tup [.str [52],ko37,kp37 (0)])),
([.str [53]],(.tup [.str [53],ko37,kp37 (0)])),
([.str [54]],(.tup [.str [54],ko37,kp37 (0)])),
([.str [55]],(.tup [.str [55],ko37,kp37 (0)])),
([.str [56]],(.tup [.str [56],ko37,kp37 (0)])),
([.str [57]],(.tup [.str [57],ko37,kp37 (0)])),
([.str [49,48]],(.tup [.str [49,48],ko37,kp37 (0)])),
([.str [49,49]],(.tup [.str [49,49],ko37,kp37 (0)])),
([kh37],(.tup [ko37,.str [50],kp37 (0)])),
([.str [49,48,48]],(.tup [.str [49,48,48],ko37,kp37 (0)])),
([.str [49,47,51]],(.tup [ko37,.str [51],kp37 (0)])),
([.str [50,47,51]],(.tup [.str [50],.str [51],kp37 (0)])),
([.str [49,47,49,48]],(.tup [ko37,.str [49,48],kp37 (0)])),
([.str [57,47,49,48]],(.tup [.str [57],.str [49,48],kp37 (0)]))]
theorem k20R353p0_ok : allTrue (kIs k20T0 [] 100000 353) k20R353p0 = true := by decide +kernel
def k20R129p0 : List (List AV × AV) := [
([kz37],(.bool true)),
([ko37],(.bool true)),
([.str [50]],(.bool true)),
([.str [51]],(.bool true)),
([.str [52]],(.bool true)),
([.str [53]],(.bool true)),
([.str [54]],(.bool true)),
([.str [55]],(.bool true)),
([.str [56]],(.bool true)),
([.str [57]],(.bool true)),
([.str [49,48]],(.bool true)),
([.str [49,49]],(.bool true)),
([kh37],(.bool true)),
([.str [49,48,48]],(.bool true)),
([.str [49,47,51]],(.bool true)),
([.str [50,47,51]],(.bool true)),
([.str [49,47,49,48]],(.bool true)),
([.str [57,47,49,48]],(.bool true))]
theorem k20R129p0_ok : allTrue (kIs k20T0 [] 100000 129) k20R129p0 = true := by decide +kernel
end
end Go.Abs

namespace Go.Abs
noncomputable section
open Go.Proofs

def k20T1 : List (FuncId × List (List AV × AV)) := (44, k20R44p0) :: (129, k20R129p0) :: (353, k20R353p0) :: k20T0
theorem k20T1_ok : TabHolds Tryz.prog k20T1 := (tab_cons k20T0_ok k20R44p0_ok (tab_cons k20T0_ok k20R129p0_ok (tab_cons k20T0_ok k20R353p0_ok k20T0_ok)))
end
end Go.Abs

namespace Go.Abs
noncomputable section
open Go.Proofs
set_option maxRecDepth 1000000

def k20R305p0 : List (List AV × AV) := [
([.vs [[.vs [[ko37],[ko37],[ko37],[ko37],[ko37],[ko37],[ko37],[ko37],[ko37],[ko37],[ko37],[ko37]] (some 12)],[.vs [[.str [45,49]],[ko37],[kz37],[kz37],[kz37],[kz37],[kz37],[kz37],[kz37],[kz37],[kz37],[kz37]] (some 12)],[.vs [[kz37],[.str [45,49]],[ko37],[kz37],[kz37],[kz37],[kz37],[kz37],[kz37],[kz37],[kz37],[kz37]] (some 12)],[.vs [[kz37],[kz37],[.str [45,49]],[ko37],[kz37],[kz37],[kz37],[kz37],[kz37],[kz37],[kz37],[kz37]] (some 12)],[.vs [[kz37],[kz37],[kz37],[.str [45,49]],[ko37],[kz37],[kz37],[kz37],[kz37],[kz37],[kz37],[kz37]] (some 12)],[.vs [[kz37],[kz37],[kz37],[kz37],[.str [45,49]],[ko37],[kz37],[kz37],[kz37],[kz37],[kz37],[kz37]] (some 12)],[.vs [[kz37],[kz37],[kz37],[kz37],[kz37],[.str [45,49]],[ko37],[kz37],[kz37],[kz37],[kz37],[kz37]] (some 12)],[.vs [[kz37],[kz37],[kz37],[kz37],[kz37],[kz37],[.str [45,49]],[ko37],[kz37],[kz37],[kz37],[kz37]] (some 12)],[.vs [[kz37],[kz37],[kz37],[kz37],[kz37],[kz37],[kz37],[.str [45,49]],[ko37],[kz37],[kz37],[kz37]] (some 12)],[.vs [[kz37],[kz37],[kz37],[kz37],[kz37],[kz37],[kz37],[kz37],[.str [45,49]],[ko37],[kz37],[kz37]] (some 12)],[.vs [[kz37],[kz37],[kz37],[kz37],[kz37],[kz37],[kz37],[kz37],[kz37],[.str [45,49]],[ko37],[kz37]] (some 12)],[.vs [[kz37],[kz37],[kz37],[kz37],[kz37],[kz37],[kz37],[kz37],[kz37],[kz37],[.str [45,49]],[ko37]] (some 12)]] none],(kp37 (0))),
([.vs [[.vs [[ko37],[kz37],[kz37],[kz37],[kz37],[kz37],[kz37],[kz37],[kz37],[kz37],[kz37],[kz37]] (some 12)],[.vs [[kz37],[ko37],[kz37],[kz37],[kz37],[kz37],[kz37],[kz37],[kz37],[kz37],[kz37],[kz37]] (some 12)],[.vs [[kz37],[kz37],[ko37],[kz37],[kz37],[kz37],[kz37],[kz37],[kz37],[kz37],[kz37],[kz37]] (some 12)],[.vs [[kz37],[kz37],[kz37],[ko37],[kz37],[kz37],[kz37],[kz37],[kz37],[kz37],[kz37],[kz37]] (some 12)],[.vs [[kz37],[kz37],[kz37],[kz37],[ko37],[kz37],[kz37],[kz37],[kz37],[kz37],[kz37],[kz37]] (some 12)],[.vs [[kz37],[kz37],[kz37],[kz37],[kz37],[ko37],[kz37],[kz37],[kz37],[kz37],[kz37],[kz37]] (some 12)],[.vs [[kz37],[kz37],[kz37],[kz37],[kz37],[kz37],[ko37],[kz37],[kz37],[kz37],[kz37],[kz37]] (some 12)],[.vs [[kz37],[kz37],[kz37],[kz37],[kz37],[kz37],[kz37],[ko37],[kz37],[kz37],[kz37],[kz37]] (some 12)],[.vs [[kz37],[kz37],[kz37],[kz37],[kz37],[kz37],[kz37],[kz37],[ko37],[kz37],[kz37],[kz37]] (some 12)],[.vs [[kz37],[kz37],[kz37],[kz37],[kz37],[kz37],[kz37],[kz37],[kz37],[ko37],[kz37],[kz37]] (some 12)],[.vs [[kz37],[kz37],[kz37],[kz37],[kz37],[kz37],[kz37],[kz37],[kz37],[kz37],[ko37],[kz37]] (some 12)],[.vs [[kz37],[kz37],[kz37],[kz37],[kz37],[kz37],[kz37],[kz37],[kz37],[kz37],[kz37],[ko37]] (some 12)]] none],(kp37 (0))),
([.vs [[.vs [[ko37],[kz37],[kz37],[kz37]] (some 4)],[kq37x0],[kq37x4],[.vs [[kz37],[kz37],[kz37],[ko37]] (some 4)]] none],(kp37 (0))),
([.vs [[.vs [[ko37],[kz37],[kz37],[kz37]] (some 4)],[kq37x0],[.vs [[kz37],[kz37],[ko37],[ko37]] (some 4)],[.vs [[kz37],[kz37],[.str [45,49]],[ko37]] (some 4)]] none],(kp37 (0))),
([.vs [[.vs [[ko37],[.str [45,49]],[kz37],[kz37]] (some 4)],[kq37x0],[kq37x4],[.vs [[kz37],[kz37],[kz37],[ko37]] (some 4)]] none],(kp37 (0))),
([.vs [[.vs [[ko37],[.str [45,49]],[kz37],[kz37]] (some 4)],[kq37x0],[kq37x4],[.vs [[kz37],[kz37],[.str [45,49]],[ko37]] (some 4)]] none],(kp37 (0))),
([.vs [[.vs [[ko37],[.str [45,49]],[kz37],[kz37]] (some 4)],[kq37x0],[.vs [[kz37],[kz37],[ko37],[.str [45,49]]] (some 4)],[.vs [[.str [45,49,47,50]],[.str [45,49,47,50]],[kz37],[ko37]] (some 4)]] none],(kp37 (0))),
([.vs [[.vs [[ko37],[kz37],[.str [45,49]],[kz37]] (some 4)],[kq37x0],[.vs [[kz37],[kz37],[ko37],[.str [45,49]]] (some 4)],[.vs [[.str [45,49,47,50]],[.str [45,49,47,50]],[kz37],[ko37]] (some 4)]] none],(kp37 (0))),
([.vs [[.vs [[ko37],[kz37],[.str [45,49]],[kz37]] (some 4)],[kq37x0],[kq37x4],[.vs [[kz37],[kz37],[kz37],[ko37]] (some 4)]] none],(kp37 (0))),
([.vs [[.vs [[ko37],[kz37],[.str [45,49]],[kz37]] (some 4)],[kq37x0],[kq37x4],[.vs [[kz37],[kz37],[.str [45,49]],[ko37]] (some 4)]] none],(kp37 (0))),
([.vs [[.vs [[ko37],[kz37],[kz37],[kz37],[kz37]] (some 5)],[.vs [[kz37],[ko37],[ko37],[kz37],[kz37]] (some 5)],[.vs [[kz37],[.str [45,49]],[.str [49,47,51]],[kz37],[kz37]] (some 5)],[kq37x1],[.vs [[kz37],[kz37],[kz37],[kz37],[ko37]] (some 5)]] none],(kp37 (0))),
([.vs [[.vs [[ko37],[kz37],[kz37],[kz37],[kz37]] (some 5)],[.vs [[kz37],[ko37],[kz37],[kz37],[kz37]] (some 5)],[.vs [[kz37],[kz37],[ko37],[kz37],[kz37]] (some 5)],[kq37x1],[.vs [[kz37],[kz37],[kz37],[kz37],[ko37]] (some 5)]] none],(kp37 (0))),
([.vs [[kq37x3],[.vs [[kz37],[ko37],[kz37],[kz37],[kz37]] (some 5)],[.vs [[kz37],[kz37],[ko37],[kz37],[kz37]] (some 5)],[kq37x1],[kq37x2]] none],(kp37 (0))),
([.vs [[kq37x3],[.vs [[kz37],[ko37],[kz37],[kz37],[kz37]] (some 5)],[.vs [[kz37],[.str [45,49,47,51]],[.str [49,47,51]],[kz37],[kz37]] (some 5)],[kq37x1],[kq37x2]] none],(kp37 (0))),
([.vs [[kq37x3],[.vs [[kz37],[ko37],[.str [45,49]],[kz37],[kz37]] (some 5)],[.vs [[kz37],[kz37],[ko37],[.str [45,49]],[kz37]] (some 5)],[kq37x1],[kq37x2]] none],(kp37 (0)))]
theorem k20R305p0_ok : allTrue (kIs k20T1 [] 100000 305) k20R305p0 = true := by decide +kernel
def k20R294p0 : List (List AV × AV) := [
([kz37],(.tup [kp37 (0),kp37 (1),.bool true])),
([ko37],(.tup [kp37 (1),kp37 (1),.bool true])),
([.str [50]],(.tup [kp37 (2),kp37 (1),.bool true])),
([.str [51]],(.tup [kp37 (3),kp37 (1),.bool true])),
([.str [52]],(.tup [kp37 (4),kp37 (1),.bool true])),
([.str [53]],(.tup [kp37 (5),kp37 (1),.bool true])),
([.str [54]],(.tup [kp37 (6),kp37 (1),.bool true])),
([.str [55]],(.tup [kp37 (7),kp37 (1),.bool true])),
([.str [56]],(.tup [kp37 (8),kp37 (1),.bool true])),
([.str [57]],(.tup [kp37 (9),kp37 (1),.bool true])),
([.str [49,48]],(.tup [kp37 (10),kp37 (1),.bool true])),
([.str [49,49]],(.tup [kp37 (11),kp37 (1),.bool true])),
([kh37],(.tup [kp37 (1),kp37 (2),.bool true])),
([.str [49,48,48]],(.tup [kp37 (100),kp37 (1),.bool true])),
([.str [49,47,51]],(.tup [kp37 (1),kp37 (3),.bool true])),
([.str [50,47,51]],(.tup [kp37 (2),kp37 (3),.bool true])),
([.str [49,47,49,48]],(.tup [kp37 (1),kp37 (10),.bool true])),
([.str [57,47,49,48]],(.tup [kp37 (9),kp37 (10),.bool true]))]
theorem k20R294p0_ok : allTrue (kIs k20T1 [] 100000 294) k20R294p0 = true := by decide +kernel
end
end Go.Abs

namespace Go.Abs
noncomputable section
open Go.Proofs

def k20T2 : List (FuncId × List (List AV × AV)) := (294, k20R294p0) :: (305, k20R305p0) :: k20T1
theorem k20T2_ok : TabHolds Tryz.prog k20T2 := (tab_cons k20T1_ok k20R294p0_ok (tab_cons k20T1_ok k20R305p0_ok k20T1_ok))
end
end Go.Abs
