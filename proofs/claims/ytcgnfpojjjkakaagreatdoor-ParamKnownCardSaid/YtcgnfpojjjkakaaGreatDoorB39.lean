/-
  Steps to a law of this program: SK41L5P0.
  Conditions: none.
-/
import Derived.Test.YtcgnfpojjjkakaaGreatDoorB38
set_option linter.unusedVariables false
set_option linter.unusedSimpArgs false
set_option linter.unusedSectionVars false
namespace Go.Abs
noncomputable section
open Go.Proofs
abbrev kp39 (n : Int) : AV := .int .i64 n
abbrev ke39 : AV := .str []
abbrev kz39 : AV := .str [48]
abbrev ko39 : AV := .str [49]
abbrev kh39 : AV := .str [49, 47, 50]
abbrev kq39x0 : AV := .vs [[.bool false,.vs [[.int .u32 (1)]] none,.bool false,.vs [[.int .u32 (1)]] none]] (some 1)
abbrev kq39x1 : AV := .vs [[.int .u32 (1)]] none
abbrev kq39x2 : AV := .vs [[.bool false,kq39x1,.bool false,kq39x1],[.bool true,kq39x1,.bool false,kq39x1],[.bool false,kq39x1,.bool false,kq39x1]] (some 3)
abbrev kq39x3 : AV := .vs [[.bool true,kq39x1,.bool false,kq39x1],[.bool false,kq39x1,.bool false,kq39x1]] (some 2)
abbrev kq39x4 : AV := .agg [.vs [[.bool false,.nils,.bool false,kq39x1],[.bool true,kq39x1,.bool false,kq39x1]] (some 2),kq39x0]
abbrev kq39x5 : AV := .vs [[.bool false,.nils,.bool false,kq39x1],[.bool false,kq39x1,.bool false,kq39x1]] (some 2)
abbrev kq39x6 : AV := .agg [.vs [[.bool true,kq39x1,.bool false,kq39x1]] (some 1),kq39x0]
abbrev kq39x7 : AV := .agg [.vs [[.bool true,kq39x1,.bool false,kq39x1],[.bool false,.vs [[.int .u32 (2)]] none,.bool false,kq39x1],[.bool true,kq39x1,.bool false,kq39x1]] (some 3),kq39x2]
abbrev kq39x8 : AV := .vs [[.bool false,.nils,.bool false,kq39x1],[.bool false,.nils,.bool false,kq39x1],[.bool false,kq39x1,.bool false,kq39x1]] (some 3)
abbrev kq39x9 : AV := .agg [kq39x0,kq39x0]
abbrev kq39x10 : AV := .vs [[.bool false,kq39x1,.bool false,kq39x1],[.bool false,kq39x1,.bool false,kq39x1]] (some 2)
abbrev kq39x11 : AV := .agg [.vs [[.bool true,.vs [[.int .u32 (2)]] none,.bool false,kq39x1]] (some 1),kq39x0]
abbrev kq39x12 : AV := .agg [.vs [[.bool false,.nils,.bool false,kq39x1],[.bool false,.nils,.bool false,kq39x1],[.bool true,kq39x1,.bool false,kq39x1],[.bool false,kq39x1,.bool false,kq39x1]] (some 4),kq39x2]
abbrev kq39x13 : AV := .agg [.vs [[.bool false,kq39x1,.bool false,kq39x1],[.bool true,.vs [[.int .u32 (2)]] none,.bool false,kq39x1],[.bool false,kq39x1,.bool false,kq39x1]] (some 3),kq39x2]
abbrev kq39x14 : AV := .agg [kq39x3,kq39x0]
abbrev kq39x15 : AV := .agg [.vs [[.bool false,.nils,.bool false,kq39x1],[.bool false,kq39x1,.bool false,kq39x1],[.bool true,kq39x1,.bool false,kq39x1]] (some 3),kq39x0]
abbrev kq39x16 : AV := .agg [.vs [[.bool false,.nils,.bool false,kq39x1],[.bool false,.nils,.bool false,kq39x1],[.bool true,kq39x1,.bool false,kq39x1]] (some 3),kq39x0]
abbrev kq39x17 : AV := .agg [.vs [] (some 0),kq39x0]
abbrev kq39x18 : AV := .vs [[ko39]] (some 1)
set_option maxRecDepth 1000000

def k41R40p0 : List (List AV × AV) := [
([kq39x9,kq39x9],(.agg [.nils,kq39x0])),
([kq39x17,.agg [.vs [[.bool false,.vs [] none,.bool false,kq39x1],[.bool false,kq39x1,.bool false,kq39x1]] (some 2),kq39x0]],(kq39x4)),
([kq39x17,.agg [.vs [[.bool false,kq39x1,.bool false,kq39x1],[.bool true,kq39x1,.bool false,kq39x1]] (some 2),kq39x0]],(kq39x14)),
([kq39x4,kq39x4],(.agg [.nils,kq39x0])),
([kq39x9,.agg [.nils,kq39x0]],(kq39x9)),
([kq39x14,.agg [.nils,kq39x0]],(kq39x14)),
([kq39x17,.agg [.nils,kq39x0]],(.agg [.nils,kq39x0])),
([kq39x17,kq39x4],(.agg [kq39x5,kq39x0])),
([kq39x9,kq39x15],(.agg [kq39x2,kq39x0])),
([kq39x17,kq39x16],(.agg [kq39x8,kq39x0])),
([.agg [.nils,kq39x0],.agg [.nils,kq39x0]],(.agg [.nils,kq39x0])),
([kq39x14,kq39x14],(.agg [.nils,kq39x0])),
([.agg [.nils,kq39x0],kq39x13],(kq39x7)),
([.agg [kq39x5,kq39x0],kq39x12],(.agg [kq39x5,kq39x2])),
([kq39x7,kq39x7],(.agg [.nils,kq39x0])),
([.agg [kq39x5,kq39x2],.agg [.nils,kq39x0]],(.agg [kq39x5,kq39x2])),
([.agg [kq39x3,kq39x2],.agg [kq39x3,kq39x2]],(.agg [.nils,kq39x0])),
([.agg [kq39x8,kq39x2],.agg [.nils,kq39x0]],(.agg [kq39x8,kq39x2])),
([kq39x9,kq39x4],(.agg [kq39x10,kq39x0]))]
theorem k41R40p0_ok : allTrue (kIs k41T4 [] 100000 40) k41R40p0 = true := by decide +kernel
def k41R38p0 : List (List AV × AV) := [
([.agg [kq39x18,kq39x18]],(.bool true)),
([.agg [.nils,kq39x18]],(.bool true)),
([.agg [.vs [[kz39],[ko39]] (some 2),kq39x18]],(.bool true)),
([.agg [.vs [[ko39],[.str [45,49]]] (some 2),kq39x18]],(.bool true)),
([.agg [.vs [[.str [50]]] (some 1),kq39x18]],(.bool true)),
([.agg [.vs [[.str [45,49]]] (some 1),kq39x18]],(.bool true)),
([.agg [kq39x18,.vs [[kz39],[ko39]] (some 2)]],(.bool true)),
([.agg [.vs [[kz39],[kz39],[kz39],[kz39],[ko39]] (some 5),kq39x18]],(.bool true)),
([.agg [.vs [[kz39],[kz39],[kz39],[kz39],[kz39],[ko39]] (some 6),kq39x18]],(.bool false)),
([.agg [.vs [[.str [49,48,48,48,48]]] (some 1),kq39x18]],(.bool false)),
([.agg [kq39x18,.vs [[.str [50]]] (some 1)]],(.bool false))]
theorem k41R38p0_ok : allTrue (kIs k41T4 [] 100000 38) k41R38p0 = true := by decide +kernel
def k41R137p0 : List (List AV × AV) := [
([kq39x4,kq39x9],(kq39x4)),
([kq39x4,.agg [.nils,kq39x0]],(.agg [.nils,kq39x0])),
([kq39x4,kq39x14],(kq39x15)),
([kq39x4,.agg [kq39x5,kq39x0]],(kq39x16)),
([kq39x14,.agg [.nils,kq39x0]],(.agg [.nils,kq39x0])),
([kq39x14,kq39x9],(kq39x14)),
([kq39x14,.agg [kq39x3,kq39x2]],(kq39x13)),
([kq39x14,.agg [kq39x8,kq39x2]],(kq39x12)),
([kq39x7,.agg [.nils,kq39x0]],(.agg [.nils,kq39x0])),
([kq39x7,kq39x9],(kq39x7)),
([.agg [kq39x3,kq39x2],.agg [.nils,kq39x0]],(.agg [.nils,kq39x0])),
([.agg [kq39x3,kq39x2],kq39x9],(.agg [kq39x3,kq39x2])),
([kq39x14,.agg [kq39x10,kq39x2]],(.agg [.vs [[.bool true,kq39x1,.bool false,kq39x1],[.bool false,.nils,.bool false,kq39x1],[.bool false,kq39x1,.bool false,kq39x1]] (some 3),kq39x2])),
([kq39x6,.agg [.nils,kq39x0]],(.agg [.nils,kq39x0])),
([kq39x6,kq39x9],(kq39x6)),
([kq39x9,kq39x9],(kq39x9)),
([kq39x9,kq39x6],(kq39x6)),
([kq39x9,.agg [.nils,kq39x0]],(.agg [.nils,kq39x0])),
([kq39x6,kq39x6],(kq39x9)),
([kq39x9,kq39x11],(kq39x11))]
theorem k41R137p0_ok : allTrue (kIs k41T4 [] 100000 137) k41R137p0 = true := by decide +kernel
def k41R135p0 : List (List AV × AV) := [
([kq39x9,kq39x9],(kq39x9)),
([kq39x17,kq39x9],(.agg [.nils,kq39x0])),
([.agg [.nils,kq39x0],kq39x9],(.agg [.nils,kq39x0])),
([kq39x14,kq39x9],(kq39x14)),
([.agg [kq39x5,kq39x0],kq39x9],(.agg [kq39x5,kq39x0])),
([.agg [.nils,kq39x0],.agg [kq39x2,kq39x0]],(.agg [.nils,kq39x0])),
([.agg [kq39x2,kq39x0],.agg [kq39x2,kq39x0]],(kq39x9)),
([kq39x14,.agg [kq39x2,kq39x0]],(.agg [kq39x3,kq39x2])),
([.agg [kq39x8,kq39x0],.agg [kq39x2,kq39x0]],(.agg [kq39x8,kq39x2])),
([.agg [kq39x10,kq39x0],.agg [kq39x2,kq39x0]],(.agg [kq39x10,kq39x2])),
([.agg [kq39x5,kq39x0],.agg [kq39x5,kq39x0]],(kq39x9)),
([kq39x4,.agg [kq39x5,kq39x0]],(kq39x6)),
([kq39x17,.agg [kq39x5,kq39x0]],(.agg [.nils,kq39x0])),
([kq39x6,kq39x6],(kq39x9)),
([kq39x9,kq39x6],(kq39x6)),
([kq39x17,kq39x6],(.agg [.nils,kq39x0])),
([kq39x6,kq39x9],(kq39x6)),
([kq39x11,kq39x9],(kq39x11))]
theorem k41R135p0_ok : allTrue (kIs k41T4 [] 100000 135) k41R135p0 = true := by decide +kernel
end
end Go.Abs
