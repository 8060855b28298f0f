/-
  Steps to a law of this program: SK41L3P0, SK41J3.
  Conditions: none.
-/
import Derived.Test.YtcgnfpojjjkakaaGreatDoorB36
set_option linter.unusedVariables false
set_option linter.unusedSimpArgs false
set_option linter.unusedSectionVars false
namespace Go.Abs
noncomputable section
open Go.Proofs
abbrev kp37 (n : Int) : AV := .int .i64 n
abbrev ke37 : AV := .str []
abbrev kz37 : AV := .str [48]
abbrev ko37 : AV := .str [49]
abbrev kh37 : AV := .str [49, 47, 50]
abbrev kq37x0 : AV := .vs [[.int .u32 (1)]] none
abbrev kq37x1 : AV := .vs [[.bool false,kq37x0,.bool false,kq37x0],[.bool true,kq37x0,.bool false,kq37x0],[.bool false,kq37x0,.bool false,kq37x0]] (some 3)
abbrev kq37x2 : AV := .vs [[.bool false,kq37x0,.bool false,kq37x0]] none
abbrev kq37x3 : AV := .vs [[.bool false,kq37x0,.bool false,kq37x0]] (some 1)
abbrev kq37x4 : AV := .vs [[.bool false,.nils,.bool false,kq37x0],[.bool false,kq37x0,.bool false,kq37x0]] (some 2)
abbrev kq37x5 : AV := .vs [[.bool false,kq37x0,.bool false,kq37x0],[.bool true,kq37x0,.bool false,kq37x0],[.bool false,kq37x0,.bool false,kq37x0]] none
abbrev kq37x6 : AV := .vs [[.bool false,.vs [] (some 1),.bool false,.vs [[.int .u32 (1)]] (some 2)],[.bool false,kq37x0,.bool false,kq37x0]] none
abbrev kq37x7 : AV := .vs [[.int .u32 (2)]] none
abbrev kq37x8 : AV := .vs [[.bool false,.vs [] none,.bool false,kq37x0],[.bool false,kq37x0,.bool false,kq37x0]] (some 2)
abbrev kq37x9 : AV := .vs [[.bool true,kq37x0,.bool false,kq37x0]] (some 1)
abbrev kq37x10 : AV := .vs [[.bool false,.vs [] none,.bool false,kq37x0],[.bool false,.vs [] none,.bool false,kq37x0],[.bool false,kq37x0,.bool false,kq37x0]] none
abbrev kq37x11 : AV := .vs [[kp37 (0)],[kp37 (0)],[kp37 (0)],[kp37 (0)]] (some 4)
set_option maxRecDepth 1000000

def k41R34p0 : List (List AV × AV) := [
([.agg [kq37x11,.vs [[.vs [[ke37,kz37,.vs [[kp37 (0),ko37]] none]] (some 1)],[.vs [[ke37,ko37,.vs [[kp37 (0),.str [49,47,51]],[kp37 (2),.str [50,47,51]]] none]] (some 1)],[.vs [[ke37,ko37,.vs [[kp37 (1),.str [49,47,51]],[kp37 (3),.str [50,47,51]]] none]] (some 1)],[.vs [[ke37,kz37,.vs [[kp37 (3),ko37]] none]] (some 1)]] none]],(kp37 (0))),
([.agg [kq37x11,.vs [[.vs [[ke37,kz37,.vs [[kp37 (0),ko37]] none]] (some 1)],[.vs [[ke37,ko37,.vs [[kp37 (0),kz37],[kp37 (2),ko37]] none]] (some 1)],[.vs [[ke37,ko37,.vs [[kp37 (1),kz37],[kp37 (3),ko37]] none]] (some 1)],[.vs [[ke37,kz37,.vs [[kp37 (3),ko37]] none]] (some 1)]] none]],(kp37 (110))),
([.agg [kq37x11,.vs [[.vs [[ke37,kz37,.vs [[kp37 (0),ko37]] none]] (some 1)],[.vs [[ke37,ko37,.vs [[kp37 (0),.str [50]],[kp37 (2),.str [45,49]]] none]] (some 1)],[.vs [[ke37,ko37,.vs [[kp37 (1),.str [50]],[kp37 (3),.str [45,49]]] none]] (some 1)],[.vs [[ke37,kz37,.vs [[kp37 (3),ko37]] none]] (some 1)]] none]],(kp37 (110))),
([.agg [.vs [[kp37 (0)]] (some 1),.vs [[.vs [[ke37,.str [49,47,52],.vs [[kp37 (0),ko37]] none]] (some 1)]] none]],(kp37 (0))),
([.agg [.vs [[kp37 (0)]] (some 1),.vs [[.vs [[ke37,.str [45,49,47,52],.vs [[kp37 (0),ko37]] none]] (some 1)]] none]],(kp37 (110)))]
theorem k41R34p0_ok : allTrue (kIs k41T2 [] 100000 34) k41R34p0 = true := by decide +kernel
def k41R127p0 : List (List AV × AV) := [
([kq37x3,kq37x3],(kq37x2)),
([kq37x2,kq37x3],(kq37x2)),
([.vs [] (some 0),kq37x3],(kq37x2)),
([kq37x8,kq37x3],(kq37x2)),
([.vs [[.bool false,.vs [] none,.bool false,kq37x0],[.bool false,kq37x0,.bool false,kq37x0]] none,kq37x3],(kq37x2)),
([.vs [[.bool false,kq37x0,.bool false,kq37x0],[.bool true,kq37x0,.bool false,kq37x0]] (some 2),kq37x3],(kq37x2)),
([.vs [[.bool false,.vs [] none,.bool false,kq37x0],[.bool true,kq37x0,.bool false,kq37x0]] none,kq37x3],(kq37x2)),
([.vs [[.bool true,kq37x0,.bool false,kq37x0],[.bool false,kq37x0,.bool false,kq37x0]] none,kq37x3],(kq37x2)),
([.nils,kq37x3],(kq37x2)),
([.vs [[.bool false,.nils,.bool false,kq37x0],[.bool true,kq37x0,.bool false,kq37x0]] (some 2),kq37x3],(kq37x2)),
([.vs [[.bool true,kq37x0,.bool false,kq37x0],[.bool false,kq37x0,.bool false,kq37x0]] (some 2),kq37x3],(kq37x2)),
([kq37x4,kq37x3],(kq37x2)),
([.vs [[.bool false,.nils,.bool false,kq37x0],[.bool false,kq37x0,.bool false,kq37x0],[.bool true,kq37x0,.bool false,kq37x0]] (some 3),kq37x3],(kq37x2)),
([kq37x5,kq37x3],(kq37x2)),
([.vs [[.bool false,.nils,.bool false,kq37x0],[.bool false,.nils,.bool false,kq37x0],[.bool true,kq37x0,.bool false,kq37x0]] (some 3),kq37x3],(kq37x2)),
([kq37x10,kq37x3],(kq37x2)),
([.nils,kq37x1],(kq37x5)),
([kq37x1,kq37x1],(kq37x5)),
([.vs [[.bool true,kq37x0,.bool false,kq37x0],[.bool false,kq37x0,.bool false,kq37x0]] (some 2),kq37x1],(kq37x2)),
([.vs [[.bool false,.nils,.bool false,kq37x0],[.bool false,.nils,.bool false,kq37x0],[.bool false,kq37x0,.bool false,kq37x0]] (some 3),kq37x1],(kq37x2)),
([.vs [[.bool false,kq37x0,.bool false,kq37x0],[.bool true,kq37x7,.bool false,kq37x0],[.bool false,kq37x0,.bool false,kq37x0]] (some 3),kq37x1],(kq37x2)),
([.vs [[.bool true,kq37x0,.bool false,kq37x0],[.bool false,kq37x7,.bool false,kq37x0],[.bool true,kq37x0,.bool false,kq37x0]] none,kq37x1],(kq37x2)),
([.vs [[.bool false,.nils,.bool false,kq37x0],[.bool false,.nils,.bool false,kq37x0],[.bool true,kq37x0,.bool false,kq37x0],[.bool false,kq37x0,.bool false,kq37x0]] (some 4),kq37x1],(kq37x2)),
([kq37x8,kq37x1],(kq37x2)),
([.vs [[.bool true,kq37x0,.bool false,kq37x0],[.bool false,kq37x7,.bool false,kq37x0],[.bool true,kq37x0,.bool false,kq37x0]] (some 3),kq37x1],(kq37x2)),
([.vs [] (some 0),.vs [[.bool false,kq37x0,.bool false,kq37x0],[.bool true,kq37x7,.bool false,kq37x0],[.bool false,.vs [[.int .u32 (3)]] none,.bool false,kq37x0],[.bool true,kq37x7,.bool false,kq37x0],[.bool false,kq37x0,.bool false,kq37x0]] (some 5)],(.vs [[.bool false,kq37x0,.bool false,kq37x0],[.bool true,kq37x7,.bool false,kq37x0],[.bool false,.vs [[.int .u32 (3)]] none,.bool false,kq37x0],[.bool true,kq37x7,.bool false,kq37x0],[.bool false,kq37x0,.bool false,kq37x0]] none)),
([.vs [[.bool false,.vs [] none,.bool false,kq37x0],[.bool false,kq37x0,.bool false,kq37x0]] none,kq37x1],(kq37x2)),
([kq37x10,kq37x1],(kq37x2)),
([.vs [[.bool false,kq37x0,.bool false,kq37x0],[.bool false,kq37x0,.bool false,kq37x0]] none,kq37x3],(kq37x2)),
([.vs [[.bool false,kq37x0,.bool false,kq37x0],[.bool false,kq37x0,.bool false,kq37x0]] (some 2),kq37x1],(kq37x2)),
([.vs [[.bool true,kq37x0,.bool false,kq37x0],[.bool false,.vs [] none,.bool false,kq37x0],[.bool false,kq37x0,.bool false,kq37x0]] (some 3),kq37x1],(kq37x2)),
([.vs [[.bool false,kq37x7,.bool false,kq37x0],[.bool true,kq37x0,.bool false,kq37x0]] (some 2),kq37x1],(kq37x2)),
([.vs [[.bool false,kq37x7,.bool false,kq37x0],[.bool true,kq37x0,.bool false,kq37x0]] none,kq37x1],(kq37x2)),
([.vs [[.bool false,kq37x0,.bool false,kq37x0],[.bool false,kq37x0,.bool false,kq37x0]] none,kq37x1],(kq37x2)),
([.vs [[.bool false,kq37x0,.bool false,kq37x0],[.bool true,kq37x0,.bool false,kq37x0]] none,kq37x3],(kq37x2)),
([kq37x4,kq37x4],(kq37x6)),
([.vs [[.bool false,.nils,.bool false,kq37x0],[.bool true,kq37x0,.bool false,kq37x0]] (some 2),kq37x4],(kq37x6)),
([.nils,kq37x4],(kq37x6)),
([kq37x9,kq37x3],(kq37x2)),
([.vs [[.bool false,kq37x7,.bool false,kq37x0]] (some 1),kq37x3],(kq37x2)),
([.vs [[.bool false,kq37x7,.bool false,kq37x0]] none,kq37x3],(kq37x2)),
([.vs [[.bool true,kq37x0,.bool false,kq37x0]] none,kq37x3],(kq37x2)),
([kq37x9,kq37x9],(kq37x2)),
([kq37x3,kq37x9],(kq37x2)),
([.nils,kq37x9],(kq37x2)),
([kq37x3,kq37x8],(kq37x2)),
([.vs [[.bool false,.vs [] none,.bool false,kq37x0],[.bool false,.vs [] none,.bool false,kq37x0],[.bool false,.vs [] none,.bool false,kq37x0],[.bool false,.vs [] none,.bool false,kq37x0],[.bool false,kq37x0,.bool false,kq37x0]] (some 5),kq37x3],(kq37x2)),
([.vs [[.bool false,.vs [] none,.bool false,kq37x0],[.bool false,.vs [] none,.bool false,kq37x0],[.bool false,.vs [] none,.bool false,kq37x0],[.bool false,.vs [] none,.bool false,kq37x0],[.bool false,.vs [] none,.bool false,kq37x0],[.bool false,kq37x0,.bool false,kq37x0]] (some 6),kq37x3],(kq37x2)),
([.vs [[.bool false,.vs [[.int .u32 (10000)]] none,.bool false,kq37x0]] (some 1),kq37x3],(kq37x2)),
([.vs [[.bool true,kq37x7,.bool false,kq37x0]] none,kq37x3],(kq37x2)),
([.vs [[.bool true,kq37x7,.bool false,kq37x0]] (some 1),kq37x3],(kq37x2))]
theorem k41R127p0_ok : allTrue (kIs k41T2 [] 100000 127) k41R127p0 = true := by decide +kernel
end
end Go.Abs

namespace Go.Abs
noncomputable section
open Go.Proofs

def k41T3 : List (FuncId × List (List AV × AV)) := (34, k41R34p0) :: (127, k41R127p0) :: k41T2
theorem k41T3_ok : TabHolds Tryz.prog k41T3 := (tab_cons k41T2_ok k41R34p0_ok (tab_cons k41T2_ok k41R127p0_ok k41T2_ok))
end
end Go.Abs
