/-
  Steps to a law of this program: SK41L4P0, SK41J4.
  Conditions: none.
-/
import Derived.Test.YtcgnfpojjjkakaaGreatDoorB37
set_option linter.unusedVariables false
set_option linter.unusedSimpArgs false
set_option linter.unusedSectionVars false
namespace Go.Abs
noncomputable section
open Go.Proofs
abbrev kp38 (n : Int) : AV := .int .i64 n
abbrev ke38 : AV := .str []
abbrev kz38 : AV := .str [48]
abbrev ko38 : AV := .str [49]
abbrev kh38 : AV := .str [49, 47, 50]
abbrev kq38x0 : AV := .vs [[.int .u32 (1)]] none
abbrev kq38x1 : AV := .vs [[.bool false,kq38x0,.bool false,kq38x0],[.bool true,kq38x0,.bool false,kq38x0],[.bool false,kq38x0,.bool false,kq38x0]] (some 3)
abbrev kq38x2 : AV := .vs [[.bool false,kq38x0,.bool false,kq38x0]] (some 1)
abbrev kq38x3 : AV := .vs [[.bool false,.nils,.bool false,kq38x0],[.bool false,kq38x0,.bool false,kq38x0]] (some 2)
abbrev kq38x4 : AV := .vs [[.bool false,.nils,.bool false,kq38x0],[.bool false,.nils,.bool false,kq38x0],[.bool false,kq38x0,.bool false,kq38x0]] (some 3)
abbrev kq38x5 : AV := .vs [[.bool true,kq38x0,.bool false,kq38x0]] (some 1)
abbrev kq38x6 : AV := .vs [[.bool true,kq38x0,.bool false,kq38x0],[.bool false,kq38x0,.bool false,kq38x0]] (some 2)
abbrev kq38x7 : AV := .vs [[.bool true,kq38x0,.bool false,kq38x0],[.bool false,.vs [[.int .u32 (2)]] none,.bool false,kq38x0],[.bool true,kq38x0,.bool false,kq38x0]] (some 3)
abbrev kq38x8 : AV := .vs [[.bool false,kq38x0,.bool false,kq38x0],[.bool false,kq38x0,.bool false,kq38x0]] (some 2)
abbrev kq38x9 : AV := .vs [[.bool false,.nils,.bool false,kq38x0],[.bool true,kq38x0,.bool false,kq38x0]] (some 2)
abbrev kq38x10 : AV := .vs [[.int .u32 (2)]] none
abbrev kq38x11 : AV := .vs [[.bool false,kq38x10,.bool false,kq38x0],[.bool true,kq38x0,.bool false,kq38x0]] (some 2)
abbrev kq38x12 : AV := .vs [[.bool false,.nils,.bool false,kq38x0],[.bool false,.nils,.bool false,kq38x0],[.bool true,kq38x0,.bool false,kq38x0],[.bool false,kq38x0,.bool false,kq38x0]] (some 4)
abbrev kq38x13 : AV := .vs [[.bool false,.vs [] none,.bool false,kq38x0],[.bool false,.vs [] none,.bool false,kq38x0],[.bool false,kq38x0,.bool false,kq38x0]] none
abbrev kq38x14 : AV := .vs [[.bool false,kq38x0,.bool false,kq38x0],[.bool true,kq38x10,.bool false,kq38x0],[.bool false,kq38x0,.bool false,kq38x0]] (some 3)
abbrev kq38x15 : AV := .vs [[.bool false,.nils,.bool false,kq38x0],[.bool false,kq38x0,.bool false,kq38x0],[.bool true,kq38x0,.bool false,kq38x0]] (some 3)
abbrev kq38x16 : AV := .vs [[.bool false,.nils,.bool false,kq38x0],[.bool false,.nils,.bool false,kq38x0],[.bool true,kq38x0,.bool false,kq38x0]] (some 3)
abbrev kq38x17 : AV := .vs [[ko38]] (some 1)
set_option maxRecDepth 1000000

def k41R83p0 : List (List AV × AV) := [
([.vs [[.bool false,kq38x0,.bool false,kq38x0]] none,kq38x2],(.agg [kq38x2,kq38x2])),
([.vs [] (some 0),kq38x2],(.agg [.nils,kq38x2])),
([.vs [[.bool false,.vs [] none,.bool false,kq38x0],[.bool false,kq38x0,.bool false,kq38x0]] none,kq38x2],(.agg [kq38x3,kq38x2])),
([kq38x2,kq38x2],(.agg [kq38x2,kq38x2])),
([.vs [[.bool false,.vs [] none,.bool false,kq38x0],[.bool true,kq38x0,.bool false,kq38x0]] none,kq38x2],(.agg [kq38x9,kq38x2])),
([.vs [[.bool true,kq38x0,.bool false,kq38x0],[.bool false,kq38x0,.bool false,kq38x0]] none,kq38x2],(.agg [kq38x6,kq38x2])),
([.nils,kq38x2],(.agg [.nils,kq38x2])),
([kq38x9,kq38x2],(.agg [kq38x9,kq38x2])),
([kq38x6,kq38x2],(.agg [kq38x6,kq38x2])),
([kq38x3,kq38x2],(.agg [kq38x3,kq38x2])),
([kq38x15,kq38x2],(.agg [kq38x15,kq38x2])),
([.vs [[.bool false,kq38x0,.bool false,kq38x0],[.bool true,kq38x0,.bool false,kq38x0],[.bool false,kq38x0,.bool false,kq38x0]] none,kq38x2],(.agg [kq38x1,kq38x2])),
([kq38x16,kq38x2],(.agg [kq38x16,kq38x2])),
([kq38x13,kq38x2],(.agg [kq38x4,kq38x2])),
([.nils,kq38x1],(.agg [.nils,kq38x2])),
([kq38x1,kq38x1],(.agg [kq38x2,kq38x2])),
([kq38x6,kq38x1],(.agg [kq38x6,kq38x1])),
([kq38x4,kq38x1],(.agg [kq38x4,kq38x1])),
([kq38x14,kq38x1],(.agg [kq38x14,kq38x1])),
([.vs [[.bool true,kq38x0,.bool false,kq38x0],[.bool false,kq38x10,.bool false,kq38x0],[.bool true,kq38x0,.bool false,kq38x0]] none,kq38x1],(.agg [kq38x7,kq38x1])),
([kq38x12,kq38x1],(.agg [kq38x12,kq38x1])),
([.vs [[.bool false,.vs [] none,.bool false,kq38x0],[.bool false,kq38x0,.bool false,kq38x0]] (some 2),kq38x1],(.agg [kq38x3,kq38x1])),
([kq38x7,kq38x1],(.agg [kq38x7,kq38x1])),
([.vs [] (some 0),.vs [[.bool false,kq38x0,.bool false,kq38x0],[.bool true,kq38x10,.bool false,kq38x0],[.bool false,.vs [[.int .u32 (3)]] none,.bool false,kq38x0],[.bool true,kq38x10,.bool false,kq38x0],[.bool false,kq38x0,.bool false,kq38x0]] (some 5)],(.agg [.nils,kq38x2])),
([.vs [[.bool false,.vs [] none,.bool false,kq38x0],[.bool false,kq38x0,.bool false,kq38x0]] none,kq38x1],(.agg [kq38x3,kq38x1])),
([kq38x13,kq38x1],(.agg [kq38x4,kq38x1])),
([.vs [[.bool false,kq38x0,.bool false,kq38x0],[.bool false,kq38x0,.bool false,kq38x0]] none,kq38x2],(.agg [kq38x8,kq38x2])),
([kq38x8,kq38x1],(.agg [kq38x8,kq38x1])),
([.vs [[.bool true,kq38x0,.bool false,kq38x0],[.bool false,.vs [] none,.bool false,kq38x0],[.bool false,kq38x0,.bool false,kq38x0]] (some 3),kq38x1],(.agg [.vs [[.bool true,kq38x0,.bool false,kq38x0],[.bool false,.nils,.bool false,kq38x0],[.bool false,kq38x0,.bool false,kq38x0]] (some 3),kq38x1])),
([kq38x11,kq38x1],(.agg [kq38x11,kq38x1])),
([.vs [[.bool false,kq38x10,.bool false,kq38x0],[.bool true,kq38x0,.bool false,kq38x0]] none,kq38x1],(.agg [kq38x11,kq38x1])),
([.vs [[.bool false,kq38x0,.bool false,kq38x0],[.bool false,kq38x0,.bool false,kq38x0]] none,kq38x1],(.agg [kq38x8,kq38x1])),
([.vs [[.bool false,kq38x0,.bool false,kq38x0],[.bool true,kq38x0,.bool false,kq38x0]] none,kq38x2],(.agg [.vs [[.bool false,kq38x0,.bool false,kq38x0],[.bool true,kq38x0,.bool false,kq38x0]] (some 2),kq38x2])),
([kq38x3,kq38x3],(.agg [kq38x2,kq38x2])),
([kq38x9,kq38x3],(.agg [kq38x5,kq38x2])),
([.nils,kq38x3],(.agg [.nils,kq38x2])),
([kq38x5,kq38x2],(.agg [kq38x5,kq38x2])),
([.vs [[.bool false,kq38x10,.bool false,kq38x0]] none,kq38x2],(.agg [.vs [[.bool false,kq38x10,.bool false,kq38x0]] (some 1),kq38x2])),
([.vs [[.bool true,kq38x0,.bool false,kq38x0]] none,kq38x2],(.agg [kq38x5,kq38x2])),
([kq38x5,kq38x5],(.agg [kq38x2,kq38x2])),
([kq38x2,kq38x5],(.agg [kq38x5,kq38x2])),
([.nils,kq38x5],(.agg [.nils,kq38x2])),
([.vs [[.bool true,kq38x10,.bool false,kq38x0]] none,kq38x2],(.agg [.vs [[.bool true,kq38x10,.bool false,kq38x0]] (some 1),kq38x2])),
([.vs [[.bool true,kq38x10,.bool false,kq38x0]] (some 1),kq38x2],(.agg [.vs [[.bool true,kq38x10,.bool false,kq38x0]] (some 1),kq38x2]))]
theorem k41R83p0_ok : allTrue (kIs k41T3 [] 100000 83) k41R83p0 = true := by decide +kernel
def k41R81p0 : List (List AV × AV) := [
([.agg [kq38x17,kq38x17]],(kp38 (0))),
([.agg [.nils,kq38x17]],(kp38 (0))),
([.agg [.vs [[kz38],[ko38]] (some 2),kq38x17]],(kp38 (0))),
([.agg [.vs [[ko38],[.str [45,49]]] (some 2),kq38x17]],(kp38 (0))),
([.agg [.vs [[.str [50]]] (some 1),kq38x17]],(kp38 (0))),
([.agg [.vs [[.str [45,49]]] (some 1),kq38x17]],(kp38 (0))),
([.agg [kq38x17,.vs [[kz38],[ko38]] (some 2)]],(kp38 (0))),
([.agg [.vs [[kz38],[kz38],[kz38],[kz38],[ko38]] (some 5),kq38x17]],(kp38 (0))),
([.agg [.vs [[kz38],[kz38],[kz38],[kz38],[kz38],[ko38]] (some 6),kq38x17]],(kp38 (0))),
([.agg [.vs [[.str [49,48,48,48,48]]] (some 1),kq38x17]],(kp38 (0))),
([.agg [kq38x17,.vs [[.str [50]]] (some 1)]],(kp38 (60)))]
theorem k41R81p0_ok : allTrue (kIs k41T3 [] 100000 81) k41R81p0 = true := by decide +kernel
end
end Go.Abs

namespace Go.Abs
noncomputable section
open Go.Proofs

def k41T4 : List (FuncId × List (List AV × AV)) := (81, k41R81p0) :: (83, k41R83p0) :: k41T3
theorem k41T4_ok : TabHolds Tryz.prog k41T4 := (tab_cons k41T3_ok k41R81p0_ok (tab_cons k41T3_ok k41R83p0_ok k41T3_ok))
end
end Go.Abs
