/-
  Steps to a law of this program: SK41L1P0, SK41J1.
  Conditions: none.
-/
import Derived.Test.YtcgnfpojjjkakaaGreatDoorB33
set_option linter.unusedVariables false
set_option linter.unusedSimpArgs false
set_option linter.unusedSectionVars false
namespace Go.Abs
noncomputable section
open Go.Proofs
abbrev kp34 (n : Int) : AV := .int .i64 n
abbrev ke34 : AV := .str []
abbrev kz34 : AV := .str [48]
abbrev ko34 : AV := .str [49]
abbrev kh34 : AV := .str [49, 47, 50]
abbrev kq34x0 : AV := .vs [[.int .u32 (1)]] none
abbrev kq34x1 : AV := .vs [[.bool false,.vs [] (some 1),.bool false,.vs [[.int .u32 (1)]] (some 2)],[.bool false,kq34x0,.bool false,kq34x0]] none
abbrev kq34x2 : AV := .vs [[.bool false,kq34x0,.bool false,kq34x0]] none
abbrev kq34x3 : AV := .vs [[.bool true,kq34x0,.bool false,kq34x0],[.bool false,kq34x0,.bool false,kq34x0]] none
abbrev kq34x4 : AV := .vs [[.int .u32 (2)]] none
abbrev kq34x5 : AV := .vs [[.bool false,.nils,.bool false,.vs [[.int .u32 (1)]] (some 1)],[.bool false,kq34x0,.bool false,kq34x0]] none
set_option maxRecDepth 1000000

def k41R82p0 : List (List AV × AV) := [
([ko34],(.bool true)),
([kz34],(.bool true)),
([.str [45,49]],(.bool true)),
([.str [49,47,51]],(.bool true)),
([.str [50,47,51]],(.bool true)),
([.str [50]],(.bool true)),
([.str [49,47,52]],(.bool true)),
([.str [45,49,47,52]],(.bool true)),
([.str [49,48,48,48,48]],(.bool false))]
theorem k41R82p0_ok : allTrue (kIs k41T0 [] 100000 82) k41R82p0 = true := by decide +kernel
def k41R214p0 : List (List AV × AV) := [
([kz34],(.tup [kz34,ko34,kp34 (0)])),
([ko34],(.tup [ko34,ko34,kp34 (0)])),
([.str [49,47,51]],(.tup [ko34,.str [51],kp34 (0)])),
([.str [50,47,51]],(.tup [.str [50],.str [51],kp34 (0)])),
([.str [50]],(.tup [.str [50],ko34,kp34 (0)])),
([.str [45,49]],(.tup [.str [45,49],ko34,kp34 (0)])),
([.str [49,47,52]],(.tup [ko34,.str [52],kp34 (0)])),
([.str [45,49,47,52]],(.tup [.str [45,49],.str [52],kp34 (0)]))]
theorem k41R214p0_ok : allTrue (kIs k41T0 [] 100000 214) k41R214p0 = true := by decide +kernel
def k41R24p0 : List (List AV × AV) := [
([ko34],(kp34 (0))),
([kz34],(kp34 (0))),
([.str [45,49]],(kp34 (0))),
([.str [49,47,51]],(kp34 (0))),
([.str [50]],(kp34 (0))),
([.str [120]],(kp34 (5))),
([.str [52]],(kp34 (0))),
([.str [45,52]],(kp34 (0))),
([.str [49,48,48,48,48]],(kp34 (0)))]
theorem k41R24p0_ok : allTrue (kIs k41T0 [] 100000 24) k41R24p0 = true := by decide +kernel
def k41R175p0 : List (List AV × AV) := [
([.vs [] (some 0)],.nils),
([.vs [[.bool false,kq34x0,.bool false,kq34x0]] (some 1)],(kq34x2)),
([.nils],.nils),
([.vs [[.bool false,kq34x0,.bool false,kq34x0],[.bool true,kq34x0,.bool false,kq34x0],[.bool false,kq34x0,.bool false,kq34x0]] (some 3)],(.vs [[.bool false,kq34x0,.bool false,kq34x0],[.bool true,kq34x0,.bool false,kq34x0],[.bool false,kq34x0,.bool false,kq34x0]] none)),
([kq34x3],(kq34x3)),
([kq34x2],(kq34x2)),
([.vs [[.bool true,kq34x0,.bool false,kq34x0],[.bool false,kq34x0,.bool false,kq34x0]] (some 2)],(kq34x3)),
([.vs [[.bool false,.vs [] none,.bool false,kq34x0],[.bool true,kq34x0,.bool false,kq34x0]] (some 2)],(kq34x5)),
([.vs [[.bool false,.vs [] none,.bool false,kq34x0],[.bool false,kq34x0,.bool false,kq34x0]] (some 2)],(kq34x1)),
([.vs [[.bool false,.nils,.bool false,kq34x0],[.bool true,kq34x0,.bool false,kq34x0]] (some 2)],(kq34x5)),
([.vs [[.bool false,.vs [] none,.bool false,kq34x0],[.bool false,kq34x0,.bool false,kq34x0]] none],(kq34x1)),
([.vs [[.bool false,kq34x0,.bool false,kq34x0],[.bool true,kq34x4,.bool false,kq34x0],[.bool false,.vs [[.int .u32 (3)]] none,.bool false,kq34x0],[.bool true,kq34x4,.bool false,kq34x0],[.bool false,kq34x0,.bool false,kq34x0]] (some 5)],(.vs [[.bool false,kq34x0,.bool false,kq34x0],[.bool true,kq34x4,.bool false,kq34x0],[.bool false,.vs [[.int .u32 (3)]] none,.bool false,kq34x0],[.bool true,kq34x4,.bool false,kq34x0],[.bool false,kq34x0,.bool false,kq34x0]] none)),
([.vs [[.bool false,kq34x0,.bool false,kq34x0],[.bool false,kq34x0,.bool false,kq34x0]] none],(.vs [[.bool false,kq34x0,.bool false,kq34x0],[.bool false,kq34x0,.bool false,kq34x0]] none)),
([.vs [[.bool false,.vs [[.int .u32 (3)]] none,.bool false,kq34x0]] (some 1)],(kq34x2)),
([.vs [[.bool true,kq34x4,.bool false,kq34x0],[.bool false,kq34x0,.bool false,kq34x0]] (some 2)],(.vs [[.bool true,kq34x4,.bool false,kq34x0],[.bool false,kq34x0,.bool false,kq34x0]] none)),
([.vs [[.bool false,kq34x4,.bool false,kq34x0],[.bool true,kq34x0,.bool false,kq34x0]] none],(.vs [[.bool true,kq34x4,.bool false,kq34x0],[.bool false,kq34x0,.bool false,kq34x0]] none)),
([.vs [[.bool false,.nils,.bool false,kq34x0],[.bool false,kq34x0,.bool false,kq34x0]] (some 2)],(kq34x1)),
([.vs [[.bool true,kq34x0,.bool false,kq34x0]] (some 1)],(kq34x2))]
theorem k41R175p0_ok : allTrue (kIs k41T0 [] 100000 175) k41R175p0 = true := by decide +kernel
def k41R70p0 : List (List AV × AV) := [
([.vs [[ko34]] (some 1)],(.vs [[.bool false,kq34x0,.bool false,kq34x0]] (some 1))),
([.nils],(.vs [] (some 0))),
([.vs [[kz34],[ko34]] (some 2)],(.vs [[.bool false,.vs [] none,.bool false,kq34x0],[.bool false,kq34x0,.bool false,kq34x0]] (some 2))),
([.vs [[ko34],[.str [45,49]]] (some 2)],(.vs [[.bool false,kq34x0,.bool false,kq34x0],[.bool true,kq34x0,.bool false,kq34x0]] (some 2))),
([.vs [[.str [50]]] (some 1)],(.vs [[.bool false,kq34x4,.bool false,kq34x0]] (some 1))),
([.vs [[.str [45,49]]] (some 1)],(.vs [[.bool true,kq34x0,.bool false,kq34x0]] (some 1))),
([.vs [[kz34],[kz34],[kz34],[kz34],[ko34]] (some 5)],(.vs [[.bool false,.vs [] none,.bool false,kq34x0],[.bool false,.vs [] none,.bool false,kq34x0],[.bool false,.vs [] none,.bool false,kq34x0],[.bool false,.vs [] none,.bool false,kq34x0],[.bool false,kq34x0,.bool false,kq34x0]] (some 5))),
([.vs [[kz34],[kz34],[kz34],[kz34],[kz34],[ko34]] (some 6)],(.vs [[.bool false,.vs [] none,.bool false,kq34x0],[.bool false,.vs [] none,.bool false,kq34x0],[.bool false,.vs [] none,.bool false,kq34x0],[.bool false,.vs [] none,.bool false,kq34x0],[.bool false,.vs [] none,.bool false,kq34x0],[.bool false,kq34x0,.bool false,kq34x0]] (some 6))),
([.vs [[.str [49,48,48,48,48]]] (some 1)],(.vs [[.bool false,.vs [[.int .u32 (10000)]] none,.bool false,kq34x0]] (some 1)))]
theorem k41R70p0_ok : allTrue (kIs k41T0 [] 100000 70) k41R70p0 = true := by decide +kernel
def k41R80p0 : List (List AV × AV) := [
([],(.agg [.bool false,.nils,.bool false,kq34x0]))]
theorem k41R80p0_ok : allTrue (kIs k41T0 [] 100000 80) k41R80p0 = true := by decide +kernel
def k41R87p0 : List (List AV × AV) := [
([],(.agg [.bool false,kq34x0,.bool false,kq34x0]))]
theorem k41R87p0_ok : allTrue (kIs k41T0 [] 100000 87) k41R87p0 = true := by decide +kernel
end
end Go.Abs

namespace Go.Abs
noncomputable section
open Go.Proofs

def k41T1 : List (FuncId × List (List AV × AV)) := (24, k41R24p0) :: (70, k41R70p0) :: (80, k41R80p0) :: (82, k41R82p0) :: (87, k41R87p0) :: (175, k41R175p0) :: (214, k41R214p0) :: k41T0
theorem k41T1_ok : TabHolds Tryz.prog k41T1 := (tab_cons k41T0_ok k41R24p0_ok (tab_cons k41T0_ok k41R70p0_ok (tab_cons k41T0_ok k41R80p0_ok (tab_cons k41T0_ok k41R82p0_ok (tab_cons k41T0_ok k41R87p0_ok (tab_cons k41T0_ok k41R175p0_ok (tab_cons k41T0_ok k41R214p0_ok k41T0_ok)))))))
end
end Go.Abs
