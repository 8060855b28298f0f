/-
  Steps to a law of this program: SK41L0P0, SK41J0.
  Conditions: none.
-/
import Derived.Test.YtcgnfpojjjkakaaGreatDoorB32
set_option linter.unusedVariables false
set_option linter.unusedSimpArgs false
set_option linter.unusedSectionVars false
namespace Go.Abs
noncomputable section
open Go.Proofs
abbrev kp33 (n : Int) : AV := .int .i64 n
abbrev ke33 : AV := .str []
abbrev kz33 : AV := .str [48]
abbrev ko33 : AV := .str [49]
abbrev kh33 : AV := .str [49, 47, 50]
abbrev kq33x0 : AV := .vs [[.int .u32 (1)]] none
abbrev kq33x1 : AV := .agg [.bool false,kq33x0,.bool false,kq33x0]
abbrev kq33x2 : AV := .agg [.bool true,kq33x0,.bool false,kq33x0]
abbrev kq33x3 : AV := .agg [.bool false,.vs [[.int .u32 (2)]] none,.bool false,.vs [[.int .u32 (3)]] none]
abbrev kq33x4 : AV := .agg [.bool false,.vs [[.int .u32 (2)]] none,.bool false,kq33x0]
abbrev kq33x5 : AV := .agg [.bool false,kq33x0,.bool false,.vs [[.int .u32 (3)]] none]
abbrev kq33x6 : AV := .vs [[.int .u32 (4)]] none
abbrev kq33x7 : AV := .agg [.bool false,.vs [[.int .u32 (10000)]] none,.bool false,kq33x0]
abbrev kq33x8 : AV := .agg [.bool false,.vs [[.int .u32 (3)]] none,.bool false,kq33x0]
abbrev kq33x9 : AV := .agg [.bool false,.vs [] none,.bool false,kq33x0]
abbrev kq33x10 : AV := .agg [.bool false,kq33x0,.bool false,kq33x6]
abbrev kq33x11 : AV := .agg [.bool false,.vs [] (some 1),.bool false,.vs [[.int .u32 (1)]] (some 2)]
abbrev kq33x12 : AV := .agg [.bool true,kq33x0,.bool false,kq33x6]
abbrev kq33x13 : AV := .agg [.bool false,.nils,.bool false,kq33x0]
abbrev kq33x14 : AV := .agg [.bool true,.vs [[.int .u32 (2)]] none,.bool false,kq33x0]
set_option maxRecDepth 1000000

def k41R28p0 : List (List AV × AV) := [
([ko33],(kq33x1)),
([kz33],(kq33x9)),
([.str [45,49]],(kq33x2)),
([.str [49,47,51]],(kq33x5)),
([.str [50,47,51]],(kq33x3)),
([.str [50]],(kq33x4)),
([.str [52]],(.agg [.bool false,kq33x6,.bool false,kq33x0])),
([.str [49,47,52]],(kq33x10)),
([.str [45,52]],(.agg [.bool true,kq33x6,.bool false,kq33x0])),
([.str [45,49,47,52]],(kq33x12)),
([.str [49,48,48,48,48]],(kq33x7))]
theorem k41R28p0_ok : allTrue (kIs [] [] 100000 28) k41R28p0 = true := by decide +kernel
def k41R72p0 : List (List AV × AV) := [
([kq33x1,kq33x1],(kq33x1)),
([kq33x2,kq33x1],(kq33x2)),
([kq33x13,kq33x1],(kq33x11)),
([kq33x5,kq33x1],(kq33x5)),
([kq33x3,kq33x1],(kq33x3)),
([kq33x9,kq33x1],(kq33x11)),
([kq33x4,kq33x1],(kq33x4)),
([kq33x9,kq33x2],(.agg [.bool false,.nils,.bool false,.vs [[.int .u32 (1)]] (some 1)])),
([kq33x2,kq33x2],(kq33x1)),
([kq33x14,kq33x1],(kq33x14)),
([kq33x13,kq33x2],(.agg [.bool false,.nils,.bool false,.vs [[.int .u32 (1)]] (some 1)])),
([kq33x8,kq33x1],(kq33x8)),
([kq33x8,kq33x8],(kq33x1)),
([kq33x4,kq33x2],(kq33x14)),
([kq33x1,kq33x2],(kq33x2)),
([kq33x1,.agg [.bool false,kq33x6,.bool false,kq33x0]],(kq33x10)),
([kq33x1,.agg [.bool true,kq33x6,.bool false,kq33x0]],(kq33x12)),
([kq33x7,kq33x1],(kq33x7))]
theorem k41R72p0_ok : allTrue (kIs [] [] 100000 72) k41R72p0 = true := by decide +kernel
def k41R110p0 : List (List AV × AV) := [
([kq33x1,kp33 (2000)],(.bool true)),
([kq33x1,kp33 (4)],(.bool true)),
([kq33x9,kp33 (2000)],(.bool true)),
([kq33x9,kp33 (4)],(.bool true)),
([kq33x2,kp33 (2000)],(.bool true)),
([kq33x2,kp33 (4)],(.bool true)),
([kq33x5,kp33 (2000)],(.bool true)),
([kq33x5,kp33 (4)],(.bool true)),
([kq33x3,kp33 (2000)],(.bool true)),
([kq33x3,kp33 (4)],(.bool true)),
([kq33x4,kp33 (2000)],(.bool true)),
([kq33x4,kp33 (4)],(.bool true)),
([kq33x13,kp33 (2000)],(.bool true)),
([.agg [.bool false,kq33x6,.bool false,kq33x0],kp33 (2000)],(.bool true)),
([kq33x10,kp33 (2000)],(.bool true)),
([kq33x10,kp33 (4)],(.bool true)),
([.agg [.bool true,kq33x6,.bool false,kq33x0],kp33 (2000)],(.bool true)),
([kq33x12,kp33 (2000)],(.bool true)),
([kq33x12,kp33 (4)],(.bool true)),
([kq33x7,kp33 (2000)],(.bool true)),
([kq33x7,kp33 (4)],(.bool false))]
theorem k41R110p0_ok : allTrue (kIs [] [] 100000 110) k41R110p0 = true := by decide +kernel
def k41R59p0 : List (List AV × AV) := [
([kp33 (0),kp33 (1)],(kq33x13)),
([kp33 (1),kp33 (1)],(kq33x1))]
theorem k41R59p0_ok : allTrue (kIs [] [] 100000 59) k41R59p0 = true := by decide +kernel
def k41R107p0 : List (List AV × AV) := [
([ko33],(kp33 (0))),
([kz33],(kp33 (0))),
([.str [45,49]],(kp33 (0))),
([.str [51]],(kp33 (0))),
([.str [50]],(kp33 (0))),
([.str [120]],(kp33 (5))),
([.str [52]],(kp33 (0))),
([.str [45,52]],(kp33 (0))),
([.str [49,48,48,48,48]],(kp33 (0)))]
theorem k41R107p0_ok : allTrue (kIs [] [] 100000 107) k41R107p0 = true := by decide +kernel
def k41R29p0 : List (List AV × AV) := [
([kq33x11],kz33),
([kq33x1],ko33),
([kq33x5],(.str [49,47,51])),
([kq33x3],(.str [50,47,51])),
([kq33x4],(.str [50])),
([kq33x2],(.str [45,49])),
([kq33x13],kz33),
([kq33x10],(.str [49,47,52])),
([kq33x12],(.str [45,49,47,52]))]
theorem k41R29p0_ok : allTrue (kIs [] [] 100000 29) k41R29p0 = true := by decide +kernel
def k41R215p0 : List (List AV × AV) := [
([kz33],(kp33 (0))),
([ko33],(kp33 (1))),
([.str [51]],(kp33 (3))),
([.str [50]],(kp33 (2))),
([.str [45,49]],(kp33 (-1))),
([.str [52]],(kp33 (4)))]
theorem k41R215p0_ok : allTrue (kIs [] [] 100000 215) k41R215p0 = true := by decide +kernel
end
end Go.Abs

namespace Go.Abs
noncomputable section
open Go.Proofs

def k41T0 : List (FuncId × List (List AV × AV)) := (28, k41R28p0) :: (29, k41R29p0) :: (59, k41R59p0) :: (72, k41R72p0) :: (107, k41R107p0) :: (110, k41R110p0) :: (215, k41R215p0) :: []
theorem k41T0_ok : TabHolds Tryz.prog k41T0 := (tab_cons tab_nil k41R28p0_ok (tab_cons tab_nil k41R29p0_ok (tab_cons tab_nil k41R59p0_ok (tab_cons tab_nil k41R72p0_ok (tab_cons tab_nil k41R107p0_ok (tab_cons tab_nil k41R110p0_ok (tab_cons tab_nil k41R215p0_ok tab_nil)))))))
end
end Go.Abs
