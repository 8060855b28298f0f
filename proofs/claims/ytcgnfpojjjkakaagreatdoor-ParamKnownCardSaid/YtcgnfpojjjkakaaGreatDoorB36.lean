/-
  Steps to a law of this program: SK41L2P1, SK41J2.
  Conditions: none.
-/
import Derived.Test.YtcgnfpojjjkakaaGreatDoorB34
import Derived.Test.YtcgnfpojjjkakaaGreatDoorB35
set_option linter.unusedVariables false
set_option linter.unusedSimpArgs false
set_option linter.unusedSectionVars false
namespace Go.Abs
noncomputable section
open Go.Proofs
abbrev kp36 (n : Int) : AV := .int .i64 n
abbrev ke36 : AV := .str []
abbrev kz36 : AV := .str [48]
abbrev ko36 : AV := .str [49]
abbrev kh36 : AV := .str [49, 47, 50]
abbrev kq36x0 : AV := .vs [[.int .u32 (1)]] none
abbrev kq36x1 : AV := .vs [[.bool false,kq36x0,.bool false,kq36x0]] (some 1)
abbrev kq36x2 : AV := .vs [[.bool false,kq36x0,.bool false,kq36x0],[.bool true,kq36x0,.bool false,kq36x0],[.bool false,kq36x0,.bool false,kq36x0]] (some 3)
abbrev kq36x3 : AV := .vs [[.bool true,kq36x0,.bool false,kq36x0],[.bool false,kq36x0,.bool false,kq36x0]] (some 2)
abbrev kq36x4 : AV := .vs [[.bool true,.vs [[.int .u32 (2)]] none,.bool false,kq36x0]] (some 1)
abbrev kq36x5 : AV := .vs [[.bool false,.nils,.bool false,kq36x0],[.bool false,kq36x0,.bool false,kq36x0]] (some 2)
abbrev kq36x6 : AV := .vs [[.bool true,kq36x0,.bool false,kq36x0],[.bool false,.vs [[.int .u32 (2)]] none,.bool false,kq36x0],[.bool true,kq36x0,.bool false,kq36x0]] (some 3)
abbrev kq36x7 : AV := .vs [[.bool true,kq36x0,.bool false,kq36x0]] (some 1)
abbrev kq36x8 : AV := .vs [[.bool false,.nils,.bool false,kq36x0],[.bool true,kq36x0,.bool false,kq36x0]] (some 2)
abbrev kq36x9 : AV := .vs [[.bool false,.nils,.bool false,kq36x0],[.bool false,.nils,.bool false,kq36x0],[.bool true,kq36x0,.bool false,kq36x0],[.bool false,kq36x0,.bool false,kq36x0]] (some 4)
abbrev kq36x10 : AV := .vs [[.bool false,kq36x0,.bool false,kq36x0],[.bool true,.vs [[.int .u32 (2)]] none,.bool false,kq36x0],[.bool false,kq36x0,.bool false,kq36x0]] (some 3)
abbrev kq36x11 : AV := .vs [[.bool false,.nils,.bool false,kq36x0],[.bool false,kq36x0,.bool false,kq36x0],[.bool true,kq36x0,.bool false,kq36x0]] (some 3)
abbrev kq36x12 : AV := .vs [[.bool false,.nils,.bool false,kq36x0],[.bool false,.nils,.bool false,kq36x0],[.bool false,kq36x0,.bool false,kq36x0]] (some 3)
abbrev kq36x13 : AV := .vs [[.bool false,.nils,.bool false,kq36x0],[.bool false,.nils,.bool false,kq36x0],[.bool true,kq36x0,.bool false,kq36x0]] (some 3)
abbrev kq36x14 : AV := .vs [[.bool false,kq36x0,.bool false,kq36x0],[.bool false,kq36x0,.bool false,kq36x0]] (some 2)
abbrev kq36x15 : AV := .vs [[.int .u32 (2)]] none
abbrev kq36x16 : AV := .vs [[.bool true,kq36x0,.bool false,kq36x0],[.bool false,.nils,.bool false,kq36x0],[.bool false,kq36x0,.bool false,kq36x0]] (some 3)
set_option maxRecDepth 1000000

def k41R84p0 : List (List AV × AV) := [
([.vs [] (some 0),kq36x1],.nils),
([kq36x1,kq36x1],(kq36x1)),
([.vs [[.bool false,.vs [] none,.bool false,kq36x0],[.bool false,kq36x0,.bool false,kq36x0]] (some 2),kq36x1],(kq36x5)),
([kq36x5,kq36x1],(kq36x5)),
([.vs [[.bool false,kq36x0,.bool false,kq36x0],[.bool true,kq36x0,.bool false,kq36x0]] (some 2),kq36x1],(.vs [[.bool false,kq36x0,.bool false,kq36x0],[.bool true,kq36x0,.bool false,kq36x0]] (some 2))),
([kq36x8,kq36x1],(kq36x8)),
([kq36x3,kq36x1],(kq36x3)),
([kq36x8,.nils],.nils),
([.nils,kq36x1],.nils),
([kq36x8,kq36x3],(kq36x11)),
([kq36x11,kq36x1],(kq36x11)),
([kq36x2,kq36x1],(kq36x2)),
([kq36x8,kq36x5],(kq36x13)),
([kq36x13,kq36x1],(kq36x13)),
([kq36x12,kq36x1],(kq36x12)),
([kq36x1,kq36x2],(kq36x2)),
([kq36x3,.nils],.nils),
([kq36x3,kq36x3],(kq36x10)),
([kq36x10,kq36x1],(kq36x10)),
([.nils,kq36x2],.nils),
([kq36x6,kq36x1],(kq36x6)),
([kq36x3,kq36x12],(kq36x9)),
([kq36x9,kq36x1],(kq36x9)),
([kq36x5,kq36x2],(.vs [[.bool false,.nils,.bool false,kq36x0],[.bool false,kq36x0,.bool false,kq36x0],[.bool true,kq36x0,.bool false,kq36x0],[.bool false,kq36x0,.bool false,kq36x0]] (some 4))),
([kq36x6,.nils],.nils),
([kq36x6,kq36x2],(.vs [[.bool true,kq36x0,.bool false,kq36x0],[.bool false,.vs [[.int .u32 (3)]] none,.bool false,kq36x0],[.bool true,.vs [[.int .u32 (4)]] none,.bool false,kq36x0],[.bool false,.vs [[.int .u32 (3)]] none,.bool false,kq36x0],[.bool true,kq36x0,.bool false,kq36x0]] (some 5))),
([kq36x2,kq36x2],(.vs [[.bool false,kq36x0,.bool false,kq36x0],[.bool true,kq36x15,.bool false,kq36x0],[.bool false,.vs [[.int .u32 (3)]] none,.bool false,kq36x0],[.bool true,kq36x15,.bool false,kq36x0],[.bool false,kq36x0,.bool false,kq36x0]] (some 5))),
([kq36x3,kq36x2],(.vs [[.bool true,kq36x0,.bool false,kq36x0],[.bool false,kq36x15,.bool false,kq36x0],[.bool true,kq36x15,.bool false,kq36x0],[.bool false,kq36x0,.bool false,kq36x0]] (some 4))),
([kq36x14,kq36x1],(kq36x14)),
([kq36x3,kq36x14],(.vs [[.bool true,kq36x0,.bool false,kq36x0],[.bool false,.vs [] none,.bool false,kq36x0],[.bool false,kq36x0,.bool false,kq36x0]] (some 3))),
([kq36x16,kq36x1],(kq36x16)),
([.vs [[.bool false,kq36x15,.bool false,kq36x0],[.bool true,kq36x0,.bool false,kq36x0]] (some 2),kq36x1],(.vs [[.bool false,kq36x15,.bool false,kq36x0],[.bool true,kq36x0,.bool false,kq36x0]] (some 2))),
([kq36x1,kq36x5],(kq36x5)),
([kq36x7,kq36x1],(kq36x7)),
([kq36x7,.nils],.nils),
([.vs [[.bool false,kq36x15,.bool false,kq36x0]] (some 1),kq36x1],(.vs [[.bool false,kq36x15,.bool false,kq36x0]] (some 1))),
([kq36x1,kq36x7],(kq36x7)),
([kq36x7,kq36x7],(kq36x1)),
([.vs [] (some 0),kq36x7],.nils),
([kq36x1,.nils],.nils),
([kq36x4,kq36x1],(kq36x4)),
([kq36x1,kq36x4],(kq36x4))]
theorem k41R84p0_ok : allTrue (kIs k41T1 [] 100000 84) k41R84p0 = true := by decide +kernel
def k41R128p1 : List (List AV × AV) := [
([.nils,kq36x7],(.tup [.vs [] (some 0),.nils])),
([kq36x1,.vs [[.bool false,.vs [] none,.bool false,kq36x0],[.bool false,kq36x0,.bool false,kq36x0]] (some 2)],(.tup [.vs [] (some 0),.vs [[.bool false,kq36x0,.bool false,kq36x0]] none])),
([.vs [[.bool false,.vs [] none,.bool false,kq36x0],[.bool false,.vs [] none,.bool false,kq36x0],[.bool false,.vs [] none,.bool false,kq36x0],[.bool false,.vs [] none,.bool false,kq36x0],[.bool false,kq36x0,.bool false,kq36x0]] (some 5),kq36x1],(.tup [.vs [[.bool false,.nils,.bool false,kq36x0],[.bool false,.nils,.bool false,kq36x0],[.bool false,.nils,.bool false,kq36x0],[.bool false,.nils,.bool false,kq36x0],[.bool false,kq36x0,.bool false,kq36x0]] (some 5),.vs [] (some 0)])),
([.vs [[.bool false,.vs [] none,.bool false,kq36x0],[.bool false,.vs [] none,.bool false,kq36x0],[.bool false,.vs [] none,.bool false,kq36x0],[.bool false,.vs [] none,.bool false,kq36x0],[.bool false,.vs [] none,.bool false,kq36x0],[.bool false,kq36x0,.bool false,kq36x0]] (some 6),kq36x1],(.tup [.vs [[.bool false,.nils,.bool false,kq36x0],[.bool false,.nils,.bool false,kq36x0],[.bool false,.nils,.bool false,kq36x0],[.bool false,.nils,.bool false,kq36x0],[.bool false,.nils,.bool false,kq36x0],[.bool false,kq36x0,.bool false,kq36x0]] (some 6),.vs [] (some 0)])),
([.vs [[.bool false,.vs [[.int .u32 (10000)]] none,.bool false,kq36x0]] (some 1),kq36x1],(.tup [.vs [[.bool false,.vs [[.int .u32 (10000)]] none,.bool false,kq36x0]] (some 1),.vs [] (some 0)])),
([.vs [[.bool true,kq36x15,.bool false,kq36x0]] none,kq36x1],(.tup [kq36x4,.vs [] (some 0)])),
([.vs [[.bool true,kq36x15,.bool false,kq36x0]] none,.vs [[.bool false,kq36x0,.bool false,kq36x0]] none],(.tup [kq36x4,.vs [] (some 0)])),
([kq36x4,kq36x1],(.tup [kq36x4,.vs [] (some 0)])),
([kq36x4,.vs [[.bool false,kq36x0,.bool false,kq36x0]] none],(.tup [kq36x4,.vs [] (some 0)]))]
theorem k41R128p1_ok : allTrue (kIs k41T1 [] 100000 128) k41R128p1 = true := by decide +kernel
def k41R174p0 : List (List AV × AV) := [
([.vs [[ko36]] (some 1)],(kp36 (0))),
([.nils],(kp36 (0))),
([.vs [[kz36],[ko36]] (some 2)],(kp36 (0))),
([.vs [[ko36],[.str [45,49]]] (some 2)],(kp36 (0))),
([.vs [[.str [50]]] (some 1)],(kp36 (0))),
([.vs [[.str [45,49]]] (some 1)],(kp36 (0))),
([.vs [[kz36],[kz36],[kz36],[kz36],[ko36]] (some 5)],(kp36 (0))),
([.vs [[kz36],[kz36],[kz36],[kz36],[kz36],[ko36]] (some 6)],(kp36 (0))),
([.vs [[.str [49,48,48,48,48]]] (some 1)],(kp36 (0)))]
theorem k41R174p0_ok : allTrue (kIs k41T1 [] 100000 174) k41R174p0 = true := by decide +kernel
def k41R171p0 : List (List AV × AV) := [
([kz36],(.tup [kp36 (0),kp36 (1),.bool true])),
([ko36],(.tup [kp36 (1),kp36 (1),.bool true])),
([.str [49,47,51]],(.tup [kp36 (1),kp36 (3),.bool true])),
([.str [50,47,51]],(.tup [kp36 (2),kp36 (3),.bool true])),
([.str [50]],(.tup [kp36 (2),kp36 (1),.bool true])),
([.str [45,49]],(.tup [kp36 (-1),kp36 (1),.bool true])),
([.str [49,47,52]],(.tup [kp36 (1),kp36 (4),.bool true])),
([.str [45,49,47,52]],(.tup [kp36 (-1),kp36 (4),.bool true]))]
theorem k41R171p0_ok : allTrue (kIs k41T1 [] 100000 171) k41R171p0 = true := by decide +kernel
end
end Go.Abs

namespace Go.Abs
noncomputable section
open Go.Proofs

def k41T2 : List (FuncId × List (List AV × AV)) := (79, k41R79p0) :: (84, k41R84p0) :: (128, k41R128p0 ++ k41R128p1) :: (171, k41R171p0) :: (174, k41R174p0) :: k41T1
theorem k41T2_ok : TabHolds Tryz.prog k41T2 := (tab_cons k41T1_ok k41R79p0_ok (tab_cons k41T1_ok k41R84p0_ok (tab_cons k41T1_ok (allTrue_app k41R128p0_ok k41R128p1_ok) (tab_cons k41T1_ok k41R171p0_ok (tab_cons k41T1_ok k41R174p0_ok k41T1_ok)))))
end
end Go.Abs
