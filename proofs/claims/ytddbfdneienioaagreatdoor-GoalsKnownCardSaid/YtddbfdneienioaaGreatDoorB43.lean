/-
  Steps to a law of this program: SK23L5P0, SK23J5, SK23L6P0, SK23J6, SK23L7P0, SK23J7, SK23W.
  Conditions: none.
-/
import Derived.Test.YtddbfdneienioaaGreatDoorB42
set_option linter.unusedVariables false
set_option linter.unusedSimpArgs false
set_option linter.unusedSectionVars false
namespace Go.Abs
noncomputable section
open Go.Proofs
abbrev kp43 (n : Int) : AV := .int .i64 n
abbrev ke43 : AV := .str []
abbrev kz43 : AV := .str [48]
abbrev ko43 : AV := .str [49]
abbrev kh43 : AV := .str [49, 47, 50]
abbrev kq43x0 : AV := .agg [.vs [[kp43 (0)],[kp43 (0)],[kp43 (0)],[kp43 (0)]] (some 4),.vs [[.vs [[ke43,kz43,.vs [[kp43 (1),ko43]] (some 1)],[ke43,kz43,.vs [[kp43 (2),kh43],[kp43 (3),kh43]] (some 2)]] (some 2)],[.vs [[ke43,kz43,.vs [[kp43 (1),ko43]] (some 1)]] (some 1)],[.vs [[ke43,kz43,.vs [[kp43 (2),ko43]] (some 1)]] (some 1)],[.vs [[ke43,kz43,.vs [[kp43 (3),ko43]] (some 1)]] (some 1)]] (some 4)]
abbrev kq43x1 : AV := .agg [.vs [[kp43 (0)],[kp43 (0)],[kp43 (0)],[kp43 (0)]] (some 4),.vs [[.vs [[ke43,kz43,.vs [[kp43 (3),ko43]] (some 1)],[ke43,kz43,.vs [[kp43 (1),ko43]] (some 1)]] (some 2)],[.vs [[ke43,kz43,.vs [[kp43 (1),ko43]] (some 1)]] (some 1)],[.vs [[ke43,kz43,.vs [[kp43 (2),ko43]] (some 1)]] (some 1)],[.vs [[ke43,kz43,.vs [[kp43 (0),ko43]] (some 1)],[ke43,kz43,.vs [[kp43 (2),ko43]] (some 1)]] (some 2)]] (some 4)]
abbrev kq43x2 : AV := .vs [[.int .u64 (2)],[.int .u64 (4)]] (some 2)
abbrev kq43x3 : AV := .agg [.vs [[kp43 (0)],[kp43 (0)],[kp43 (0)],[kp43 (0)],[kp43 (0)],[kp43 (0)]] none,.vs [[.vs [[ke43,kz43,.vs [[kp43 (1),ko43]] (some 1)],[ke43,kz43,.vs [[kp43 (2),kh43],[kp43 (3),kh43]] (some 2)]] (some 2)],[.vs [[ke43,kz43,.vs [[kp43 (1),ko43]] (some 1)]] (some 1)],[.vs [[ke43,kz43,.vs [[kp43 (2),ko43]] (some 1)]] (some 1)],[.vs [[ke43,kz43,.vs [[kp43 (3),ko43]] (some 1)]] (some 1)],[.vs [[ke43,kz43,.vs [[kp43 (1),ko43]] (some 1)],[ke43,kz43,.vs [[kp43 (2),ko43]] (some 1)],[ke43,kz43,.vs [[kp43 (3),ko43]] (some 1)]] (some 3)],[.vs [[ke43,kz43,.vs [[kp43 (1),ko43]] (some 1)],[ke43,kz43,.vs [[kp43 (2),ko43]] (some 1)],[ke43,kz43,.vs [[kp43 (3),ko43]] (some 1)]] (some 3)]] none]
abbrev kq43x4 : AV := .agg [.vs [[kp43 (0)],[kp43 (0)],[kp43 (0)],[kp43 (0)]] (some 4),.vs [[.vs [[ke43,kz43,.vs [[kp43 (1),ko43]] (some 1)],[ke43,kz43,.vs [[kp43 (2),kh43],[kp43 (3),kh43]] (some 2)],[ke43,kz43,.vs [[kp43 (1),kh43],[kp43 (2),.str [49,47,52]],[kp43 (3),.str [49,47,52]]] (some 3)]] none],[.vs [[ke43,kz43,.vs [[kp43 (1),ko43]] (some 1)]] (some 1)],[.vs [[ke43,kz43,.vs [[kp43 (2),ko43]] (some 1)]] (some 1)],[.vs [[ke43,kz43,.vs [[kp43 (3),ko43]] (some 1)]] (some 1)]] (some 4)]
abbrev kq43x5 : AV := .agg [.vs [[kp43 (0)],[kp43 (0)],[kp43 (0)],[kp43 (0)]] (some 4),.vs [[.vs [[ke43,kz43,.vs [[kp43 (1),ko43]] (some 1)],[ke43,kz43,.vs [[kp43 (2),kh43],[kp43 (3),kh43]] (some 2)],[ke43,kz43,.vs [[kp43 (1),kh43],[kp43 (2),.str [49,47,51]],[kp43 (3),.str [49,47,54]]] (some 3)]] none],[.vs [[ke43,kz43,.vs [[kp43 (1),ko43]] (some 1)]] (some 1)],[.vs [[ke43,kz43,.vs [[kp43 (2),ko43]] (some 1)]] (some 1)],[.vs [[ke43,kz43,.vs [[kp43 (3),ko43]] (some 1)]] (some 1)]] (some 4)]
set_option maxRecDepth 1000000

def k23R37p0 : List (List AV × AV) := [
([kq43x0,kp43 (0),kq43x2],(.ifc 999999 (.tup [.vs [[kz43,kh43],[ko43,kz43]] none,kp43 (0)]))),
([kq43x0,kp43 (0),.vs [[.int .u64 (2)]] (some 2)],(.tup [.nils,kp43 (2)])),
([kq43x0,kp43 (4),kq43x2],(.tup [.nils,kp43 (2)])),
([kq43x3,kp43 (0),kq43x2],(.tup [.nils,kp43 (6)])),
([kq43x0,kp43 (1),kq43x2],(.ifc 999999 (.tup [.vs [[ko43,kz43]] none,kp43 (0)]))),
([kq43x0,kp43 (3),kq43x2],(.ifc 999999 (.tup [.vs [[kz43,kz43]] none,kp43 (0)]))),
([kq43x4,kp43 (0),kq43x2],(.ifc 999999 (.tup [.vs [[kz43,kh43],[ko43,kz43]] none,kp43 (0)]))),
([kq43x5,kp43 (0),kq43x2],(.ifc 999999 (.tup [.vs [[kz43,kh43],[kh43,.str [49,47,51]],[ko43,kz43]] none,kp43 (0)]))),
([kq43x1,kp43 (0),kq43x2],(.ifc 999999 (.tup [.vs [[kz43,ko43],[ko43,kz43]] none,kp43 (0)])))]
theorem k23R37p0_ok : allTrue (kIs k23T4 [40] 100000 37) k23R37p0 = true := by decide +kernel
def k23R36p0 : List (List AV × AV) := [
([kq43x0,kp43 (0),kq43x2,.vs [[ko43],[.str [51]]] (some 2)],(.tup [.str [51,47,50],kp43 (0)])),
([kq43x0,kp43 (0),kq43x2,.vs [[ko43],[ko43]] (some 2)],(.tup [ko43,kp43 (0)])),
([kq43x0,kp43 (0),kq43x2,.vs [[kz43],[kz43]] (some 2)],(.tup [kz43,kp43 (0)])),
([kq43x0,kp43 (0),kq43x2,.vs [[kz43],[.str [45,49]]] (some 2)],(.tup [ke43,kp43 (2)])),
([kq43x0,kp43 (0),kq43x2,.vs [[kz43]] (some 1)],(.tup [ke43,kp43 (2)])),
([kq43x0,kp43 (0),kq43x2,.vs [[.str [45,49]],[ke43]] (some 2)],(.tup [ke43,kp43 (5)])),
([kq43x3,kp43 (0),kq43x2,.vs [[kz43],[kz43]] (some 2)],(.tup [ke43,kp43 (6)])),
([kq43x1,kp43 (0),kq43x2,.vs [[.str [50]],[.str [57,57,57,57]]] (some 2)],(.tup [.str [57,57,57,57],kp43 (0)]))]
theorem k23R36p0_ok : allTrue (kIs k23T4 [40] 100000 36) k23R36p0 = true := by decide +kernel
def k23R42p0 : List (List AV × AV) := [
([.bool true,.vs [[kh43],[.str [49,47,52]]] (some 2)],(.bool true)),
([.bool false,.vs [[kh43],[.str [49,47,51]]] (some 2)],(.bool true)),
([.bool true,.vs [[ko43],[kz43]] (some 2)],(.bool true)),
([.bool true,.vs [[kz43],[kz43]] (some 2)],(.bool true)),
([.bool true,.vs [[kz43],[kh43]] (some 2)],(.bool true)),
([.bool false,.vs [[.str [49,47,49,48,48]],[kh43]] (some 2)],(.bool true))]
theorem k23R42p0_ok : allTrue (kIs k23T4 [40] 100000 42) k23R42p0 = true := by decide +kernel
end
end Go.Abs

namespace Go.Abs
noncomputable section
open Go.Proofs

def k23T5 : List (FuncId × List (List AV × AV)) := (36, k23R36p0) :: (37, k23R37p0) :: (42, k23R42p0) :: k23T4
theorem k23T5_ok : TabHolds Tryz.prog k23T5 := (tab_cons k23T4_ok k23R36p0_ok (tab_cons k23T4_ok k23R37p0_ok (tab_cons k23T4_ok k23R42p0_ok k23T4_ok)))
end
end Go.Abs

namespace Go.Abs
noncomputable section
open Go.Proofs
set_option maxRecDepth 1000000

def k23R41p0 : List (List AV × AV) := [
([kq43x0,kp43 (0),kq43x2,.vs [[kz43,kh43],[ko43,kz43]] (some 2)],(.bool true)),
([kq43x0,kp43 (1),kq43x2,.vs [[ko43,kz43]] (some 1)],(.bool true)),
([kq43x0,kp43 (3),kq43x2,.vs [[kz43,kz43]] (some 1)],(.bool true)),
([kq43x4,kp43 (0),kq43x2,.vs [[kz43,kh43],[ko43,kz43]] (some 2)],(.bool true)),
([kq43x5,kp43 (0),kq43x2,.vs [[kz43,kh43],[kh43,.str [49,47,51]],[ko43,kz43]] (some 3)],(.bool true)),
([kq43x1,kp43 (0),kq43x2,.vs [[kz43,ko43],[ko43,kz43]] (some 2)],(.bool true))]
theorem k23R41p0_ok : allTrue (kIs k23T5 [40] 100000 41) k23R41p0 = true := by decide +kernel
end
end Go.Abs

namespace Go.Abs
noncomputable section
open Go.Proofs

def k23T6 : List (FuncId × List (List AV × AV)) := (41, k23R41p0) :: k23T5
theorem k23T6_ok : TabHolds Tryz.prog k23T6 := (tab_cons k23T5_ok k23R41p0_ok k23T5_ok)
end
end Go.Abs

namespace Go.Abs
noncomputable section
open Go.Proofs
set_option maxRecDepth 1000000

def k23R34p0 : List (List AV × AV) := [
([],(.bool true))]
theorem k23R34p0_ok : allTrue (kIs k23T6 [40] 100000 34) k23R34p0 = true := by decide +kernel
end
end Go.Abs

namespace Go.Abs
noncomputable section
open Go.Proofs

def k23T7 : List (FuncId × List (List AV × AV)) := (34, k23R34p0) :: k23T6
theorem k23T7_ok : TabHolds Tryz.prog k23T7 := (tab_cons k23T6_ok k23R34p0_ok k23T6_ok)
end
end Go.Abs

namespace Go.Abs
noncomputable section
open Go.Proofs
set_option maxRecDepth 1000000

theorem k23Law_ok : kIs k23T7 [40] 100000 6 ([], .bool true) = true := by decide +kernel
theorem goalsKnown_pure : PureSem Tryz.prog 6 [] (.bool true) := kIs_ok k23T7_ok k23Law_ok
end
end Go.Abs
