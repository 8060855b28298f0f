/-
  Steps to a law of this program: SK41L5P1.
  Conditions: none.
-/
import Derived.Test.YtcgnfpojjjkakaaGreatDoorB38
set_option linter.unusedVariables false
set_option linter.unusedSimpArgs false
set_option linter.unusedSectionVars false
namespace Go.Abs
noncomputable section
open Go.Proofs
abbrev kp40 (n : Int) : AV := .int .i64 n
abbrev ke40 : AV := .str []
abbrev kz40 : AV := .str [48]
abbrev ko40 : AV := .str [49]
abbrev kh40 : AV := .str [49, 47, 50]
abbrev kq40x0 : AV := .vs [[.bool false,.vs [[.int .u32 (1)]] none,.bool false,.vs [[.int .u32 (1)]] none]] (some 1)
abbrev kq40x1 : AV := .vs [[.int .u32 (1)]] none
abbrev kq40x2 : AV := .vs [[.bool false,kq40x1,.bool false,kq40x1],[.bool true,kq40x1,.bool false,kq40x1],[.bool false,kq40x1,.bool false,kq40x1]] (some 3)
abbrev kq40x3 : AV := .agg [.vs [[.bool true,kq40x1,.bool false,kq40x1]] (some 1),kq40x0]
abbrev kq40x4 : AV := .agg [.vs [[.bool false,.vs [[.int .u32 (2)]] none,.bool false,kq40x1],[.bool true,kq40x1,.bool false,kq40x1]] (some 2),kq40x2]
abbrev kq40x5 : AV := .agg [.vs [[.bool true,.vs [[.int .u32 (2)]] none,.bool false,kq40x1]] (some 1),kq40x0]
abbrev kq40x6 : AV := .agg [.vs [[.bool false,kq40x1,.bool false,kq40x1],[.bool false,kq40x1,.bool false,kq40x1]] (some 2),kq40x2]
abbrev kq40x7 : AV := .agg [.vs [[.bool false,.nils,.bool false,kq40x1],[.bool false,kq40x1,.bool false,kq40x1]] (some 2),kq40x0]
set_option maxRecDepth 1000000

def k41R40p1 : List (List AV × AV) := [
([.agg [kq40x0,kq40x0],.agg [.vs [[.bool true,kq40x1,.bool false,kq40x1],[.bool false,.nils,.bool false,kq40x1],[.bool false,kq40x1,.bool false,kq40x1]] (some 3),kq40x2]],(kq40x4)),
([kq40x4,.agg [.nils,kq40x0]],(kq40x4)),
([kq40x6,.agg [.nils,kq40x0]],(kq40x6)),
([.agg [kq40x0,kq40x0],.agg [.vs [[.bool false,kq40x1,.bool false,kq40x1],[.bool true,kq40x1,.bool false,kq40x1]] (some 2),kq40x0]],(kq40x7)),
([kq40x3,kq40x3],(.agg [.nils,kq40x0])),
([.agg [.nils,kq40x0],kq40x3],(.agg [kq40x0,kq40x0])),
([.agg [kq40x0,kq40x0],.agg [.vs [[.bool false,.vs [[.int .u32 (2)]] none,.bool false,kq40x1]] (some 1),kq40x0]],(kq40x3)),
([.agg [.vs [] (some 0),kq40x0],kq40x3],(.agg [kq40x0,kq40x0])),
([.agg [.vs [] (some 0),kq40x0],.agg [kq40x0,kq40x0]],(kq40x3)),
([kq40x3,.agg [.nils,kq40x0]],(kq40x3)),
([.agg [.nils,kq40x0],.agg [kq40x0,kq40x0]],(kq40x3)),
([kq40x7,.agg [kq40x0,kq40x0]],(.agg [.vs [[.bool true,kq40x1,.bool false,kq40x1],[.bool false,kq40x1,.bool false,kq40x1]] (some 2),kq40x0])),
([.agg [.vs [] (some 0),kq40x0],.agg [.vs [[.bool false,.vs [[.int .u32 (2)]] none,.bool false,kq40x1]] (some 1),kq40x0]],(kq40x5)),
([kq40x5,kq40x5],(.agg [.nils,kq40x0]))]
theorem k41R40p1_ok : allTrue (kIs k41T4 [] 100000 40) k41R40p1 = true := by decide +kernel
end
end Go.Abs
