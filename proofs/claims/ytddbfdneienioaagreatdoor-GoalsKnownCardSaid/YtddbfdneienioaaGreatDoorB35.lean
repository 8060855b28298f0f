/-
  Steps to a law of this program: SK23L1P1, SK23J1, SK23L2P0, SK23J2.
  Conditions: none.
-/
import Derived.Test.YtddbfdneienioaaGreatDoorB33
import Derived.Test.YtddbfdneienioaaGreatDoorB34
set_option linter.unusedVariables false
set_option linter.unusedSimpArgs false
set_option linter.unusedSectionVars false
namespace Go.Abs
noncomputable section
open Go.Proofs
abbrev kp35 (n : Int) : AV := .int .i64 n
abbrev ke35 : AV := .str []
abbrev kz35 : AV := .str [48]
abbrev ko35 : AV := .str [49]
abbrev kh35 : AV := .str [49, 47, 50]
abbrev kq35x0 : AV := .vs [[.int .u32 (1)]] none
abbrev kq35x1 : AV := .vs [[.bool false,.vs [] none,.bool false,kq35x0],[.bool false,.vs [] none,.bool false,kq35x0]] (some 2)
abbrev kq35x2 : AV := .agg [.bool false,.vs [] none,.bool false,kq35x0]
set_option maxRecDepth 1000000

def k23R129p0 : List (List AV × AV) := [
([kz35],(.bool true)),
([ko35],(.bool true)),
([kh35],(.bool true)),
([.str [51]],(.bool true)),
([.str [49,47,52]],(.bool true)),
([.str [49,47,51]],(.bool true)),
([.str [50]],(.bool true)),
([.str [49,47,49,48,48,48,48]],(.bool false)),
([.str [45,49]],(.bool true)),
([.str [50,47,51]],(.bool true)),
([.str [51,47,52]],(.bool true)),
([.str [57,57,57,57]],(.bool true)),
([.str [49,47,54]],(.bool true)),
([.str [49,47,49,48,48]],(.bool true))]
theorem k23R129p0_ok : allTrue (kIs k23T0 [40] 100000 129) k23R129p0 = true := by decide +kernel
end
end Go.Abs

namespace Go.Abs
noncomputable section
open Go.Proofs

def k23T1 : List (FuncId × List (List AV × AV)) := (44, k23R44p0) :: (115, k23R115p0) :: (127, k23R127p0) :: (129, k23R129p0) :: (134, k23R134p0) :: (353, k23R353p0) :: k23T0
theorem k23T1_ok : TabHolds Tryz.prog k23T1 := (tab_cons k23T0_ok k23R44p0_ok (tab_cons k23T0_ok k23R115p0_ok (tab_cons k23T0_ok k23R127p0_ok (tab_cons k23T0_ok k23R129p0_ok (tab_cons k23T0_ok k23R134p0_ok (tab_cons k23T0_ok k23R353p0_ok k23T0_ok))))))
end
end Go.Abs

namespace Go.Abs
noncomputable section
open Go.Proofs
set_option maxRecDepth 1000000

def k23R305p0 : List (List AV × AV) := [
([.vs [[.vs [[ko35]] (some 1)]] none],(kp35 (0))),
([.vs [[.vs [[ko35],[kz35]] (some 2)],[.vs [[.str [45,49]],[ko35]] (some 2)]] none],(kp35 (0))),
([.vs [[.vs [[ko35],[.str [45,49]]] (some 2)],[.vs [[kz35],[ko35]] (some 2)]] none],(kp35 (0)))]
theorem k23R305p0_ok : allTrue (kIs k23T1 [40] 100000 305) k23R305p0 = true := by decide +kernel
def k23R294p0 : List (List AV × AV) := [
([kz35],(.tup [kp35 (0),kp35 (1),.bool true])),
([ko35],(.tup [kp35 (1),kp35 (1),.bool true])),
([kh35],(.tup [kp35 (1),kp35 (2),.bool true])),
([.str [49,47,52]],(.tup [kp35 (1),kp35 (4),.bool true])),
([.str [49,47,51]],(.tup [kp35 (1),kp35 (3),.bool true])),
([.str [49,47,54]],(.tup [kp35 (1),kp35 (6),.bool true]))]
theorem k23R294p0_ok : allTrue (kIs k23T1 [40] 100000 294) k23R294p0 = true := by decide +kernel
def k23R185p0 : List (List AV × AV) := [
([kq35x1,.vs [[.bool false,kq35x0,.bool false,.vs [[.int .u32 (2)]] none],[.bool false,kq35x0,.bool false,.vs [[.int .u32 (2)]] none]] none],(kq35x2)),
([.vs [[.bool false,.vs [] none,.bool false,kq35x0],[.bool false,.vs [] none,.bool false,kq35x0],[.bool false,.vs [] none,.bool false,kq35x0],[.bool false,.vs [] none,.bool false,kq35x0]] (some 4),.vs [[.bool false,.vs [[.int .u32 (2)]] none,.bool false,.vs [[.int .u32 (3)]] none],[.bool false,kq35x0,.bool false,.vs [[.int .u32 (3)]] none],[.bool false,.nils,.bool false,kq35x0],[.bool false,.vs [[.int .u32 (2)]] none,.bool false,.vs [[.int .u32 (3)]] none]] none],(kq35x2)),
([kq35x1,.vs [[.bool false,kq35x0,.bool false,kq35x0],[.bool false,.nils,.bool false,kq35x0]] none],(kq35x2)),
([kq35x1,.vs [[.bool false,.nils,.bool false,kq35x0],[.bool false,.nils,.bool false,kq35x0]] none],(kq35x2)),
([kq35x1,.vs [[.bool false,.nils,.bool false,kq35x0],[.bool false,kq35x0,.bool false,kq35x0]] none],(kq35x2))]
theorem k23R185p0_ok : allTrue (kIs k23T1 [40] 100000 185) k23R185p0 = true := by decide +kernel
end
end Go.Abs

namespace Go.Abs
noncomputable section
open Go.Proofs

def k23T2 : List (FuncId × List (List AV × AV)) := (185, k23R185p0) :: (294, k23R294p0) :: (305, k23R305p0) :: k23T1
theorem k23T2_ok : TabHolds Tryz.prog k23T2 := (tab_cons k23T1_ok k23R185p0_ok (tab_cons k23T1_ok k23R294p0_ok (tab_cons k23T1_ok k23R305p0_ok k23T1_ok)))
end
end Go.Abs
