/-
  Steps to a law of this program: SK23L0P0, SK23J0.
  Conditions: none.
-/
import Derived.Test.YtddbfdneienioaaGreatDoorB32
set_option linter.unusedVariables false
set_option linter.unusedSimpArgs false
set_option linter.unusedSectionVars false
namespace Go.Abs
noncomputable section
open Go.Proofs
abbrev kp33 (n : Int) : AV := .int .i64 n
abbrev ke33 : AV := .str []
abbrev kz33 : AV := .str [48]
abbrev ko33 : AV := .str [49]
abbrev kh33 : AV := .str [49, 47, 50]
abbrev kq33x0 : AV := .vs [[.int .u32 (1)]] none
abbrev kq33x1 : AV := .vs [[.int .u32 (3)]] none
abbrev kq33x2 : AV := .vs [[.int .u32 (2)]] none
abbrev kq33x3 : AV := .vs [[.int .u32 (4)]] none
abbrev kq33x4 : AV := .agg [.bool false,.vs [[.int .u32 (9999)]] none,.bool false,kq33x0]
abbrev kq33x5 : AV := .agg [.bool false,kq33x0,.bool false,kq33x0]
abbrev kq33x6 : AV := .agg [.bool true,kq33x0,.bool false,.vs [[.int .u32 (100)]] none]
abbrev kq33x7 : AV := .agg [.bool false,.vs [] none,.bool false,kq33x0]
abbrev kq33x8 : AV := .agg [.bool false,kq33x0,.bool false,kq33x2]
abbrev kq33x9 : AV := .agg [.bool true,kq33x0,.bool false,kq33x0]
abbrev kq33x10 : AV := .agg [.bool false,kq33x0,.bool false,.vs [[.int .u32 (10000)]] none]
abbrev kq33x11 : AV := .agg [.bool false,kq33x0,.bool false,.vs [[.int .u32 (100)]] none]
abbrev kq33x12 : AV := .agg [.bool false,kq33x0,.bool false,.vs [[.int .u32 (6)]] none]
abbrev kq33x13 : AV := .agg [.bool false,kq33x0,.bool false,kq33x3]
abbrev kq33x14 : AV := .agg [.bool false,kq33x0,.bool false,kq33x1]
abbrev kq33x15 : AV := .agg [.bool true,kq33x0,.bool false,kq33x2]
abbrev kq33x16 : AV := .agg [.bool true,kq33x0,.bool false,kq33x3]
abbrev kq33x17 : AV := .agg [.bool true,kq33x0,.bool false,kq33x1]
abbrev kq33x18 : AV := .agg [.bool true,kq33x2,.bool false,kq33x1]
abbrev kq33x19 : AV := .agg [.bool true,kq33x1,.bool false,kq33x3]
abbrev kq33x20 : AV := .agg [.bool false,.nils,.bool false,kq33x0]
set_option maxRecDepth 1000000

def k23R48p0 : List (List AV × AV) := [
([kz33],(kq33x7)),
([ko33],(kq33x5)),
([kh33],(kq33x8)),
([.str [51]],(.agg [.bool false,kq33x1,.bool false,kq33x0])),
([.str [49,47,52]],(kq33x13)),
([.str [45,49,47,50]],(kq33x15)),
([.str [45,49,47,52]],(kq33x16)),
([.str [45,49]],(kq33x9)),
([.str [49,47,51]],(kq33x14)),
([.str [45,49,47,51]],(kq33x17)),
([.str [50]],(.agg [.bool false,kq33x2,.bool false,kq33x0])),
([.str [49,47,49,48,48,48,48]],(kq33x10)),
([.str [50,47,51]],(.agg [.bool false,kq33x2,.bool false,kq33x1])),
([.str [45,50,47,51]],(kq33x18)),
([.str [51,47,52]],(.agg [.bool false,kq33x1,.bool false,kq33x3])),
([.str [45,51,47,52]],(kq33x19)),
([.str [57,57,57,57]],(kq33x4)),
([.str [49,47,54]],(kq33x12)),
([.str [49,47,49,48,48]],(kq33x11)),
([.str [45,49,47,49,48,48]],(kq33x6))]
theorem k23R48p0_ok : allTrue (kIs [] [40] 100000 48) k23R48p0 = true := by decide +kernel
def k23R162p0 : List (List AV × AV) := [
([kq33x7,kp33 (2000)],(.bool true)),
([kq33x7,kp33 (4)],(.bool true)),
([kq33x5,kp33 (2000)],(.bool true)),
([kq33x5,kp33 (4)],(.bool true)),
([kq33x8,kp33 (2000)],(.bool true)),
([kq33x8,kp33 (4)],(.bool true)),
([.agg [.bool false,kq33x1,.bool false,kq33x0],kp33 (2000)],(.bool true)),
([.agg [.bool false,kq33x1,.bool false,kq33x0],kp33 (4)],(.bool true)),
([kq33x13,kp33 (2000)],(.bool true)),
([kq33x13,kp33 (4)],(.bool true)),
([kq33x5,kp33 (12)],(.bool true)),
([kq33x15,kp33 (2000)],(.bool true)),
([kq33x15,kp33 (12)],(.bool true)),
([kq33x16,kp33 (2000)],(.bool true)),
([kq33x16,kp33 (12)],(.bool true)),
([kq33x7,kp33 (12)],(.bool true)),
([kq33x9,kp33 (2000)],(.bool true)),
([kq33x9,kp33 (12)],(.bool true)),
([kq33x14,kp33 (2000)],(.bool true)),
([kq33x14,kp33 (4)],(.bool true)),
([kq33x17,kp33 (2000)],(.bool true)),
([kq33x17,kp33 (12)],(.bool true)),
([.agg [.bool false,kq33x2,.bool false,kq33x0],kp33 (2000)],(.bool true)),
([.agg [.bool false,kq33x2,.bool false,kq33x0],kp33 (4)],(.bool true)),
([kq33x10,kp33 (2000)],(.bool true)),
([kq33x10,kp33 (4)],(.bool false)),
([kq33x9,kp33 (4)],(.bool true)),
([.agg [.bool false,kq33x2,.bool false,kq33x1],kp33 (2000)],(.bool true)),
([.agg [.bool false,kq33x2,.bool false,kq33x1],kp33 (4)],(.bool true)),
([kq33x18,kp33 (2000)],(.bool true)),
([kq33x18,kp33 (12)],(.bool true)),
([.agg [.bool false,kq33x1,.bool false,kq33x3],kp33 (2000)],(.bool true)),
([.agg [.bool false,kq33x1,.bool false,kq33x3],kp33 (4)],(.bool true)),
([kq33x19,kp33 (2000)],(.bool true)),
([kq33x19,kp33 (12)],(.bool true)),
([kq33x4,kp33 (2000)],(.bool true)),
([kq33x4,kp33 (4)],(.bool true)),
([kq33x20,kp33 (2000)],(.bool true)),
([kq33x12,kp33 (2000)],(.bool true)),
([kq33x12,kp33 (4)],(.bool true)),
([kq33x11,kp33 (2000)],(.bool true)),
([kq33x11,kp33 (4)],(.bool true)),
([kq33x6,kp33 (2000)],(.bool true)),
([kq33x6,kp33 (12)],(.bool true))]
theorem k23R162p0_ok : allTrue (kIs [] [40] 100000 162) k23R162p0 = true := by decide +kernel
def k23R191p0 : List (List AV × AV) := [
([kz33],(kp33 (0))),
([ko33],(kp33 (0))),
([.str [50]],(kp33 (0))),
([.str [51]],(kp33 (0))),
([.str [52]],(kp33 (0))),
([.str [45,49]],(kp33 (0))),
([.str [120]],(kp33 (5))),
([.str [49,48,48,48,48]],(kp33 (0))),
([ke33],(kp33 (5))),
([.str [45,50]],(kp33 (0))),
([.str [45,51]],(kp33 (0))),
([.str [57,57,57,57]],(kp33 (0))),
([.str [54]],(kp33 (0))),
([.str [49,48,48]],(kp33 (0)))]
theorem k23R191p0_ok : allTrue (kIs [] [40] 100000 191) k23R191p0 = true := by decide +kernel
def k23R79p0 : List (List AV × AV) := [
([kp33 (1),kp33 (1)],(kq33x5)),
([kp33 (0),kp33 (1)],(kq33x20))]
theorem k23R79p0_ok : allTrue (kIs [] [40] 100000 79) k23R79p0 = true := by decide +kernel
def k23R119p0 : List (List AV × AV) := [
([kq33x20,kq33x8],(.agg [.bool false,.vs [] (some 1),.bool false,.vs [[.int .u32 (1)]] (some 2)]))]
theorem k23R119p0_ok : allTrue (kIs [] [40] 100000 119) k23R119p0 = true := by decide +kernel
def k23R49p0 : List (List AV × AV) := [
([kq33x5],ko33),
([kq33x8],kh33),
([.agg [.bool false,kq33x1,.bool false,kq33x2]],(.str [51,47,50])),
([kq33x7],kz33),
([kq33x9],(.str [45,49])),
([kq33x20],kz33),
([kq33x15],(.str [45,49,47,50])),
([kq33x16],(.str [45,49,47,52])),
([kq33x17],(.str [45,49,47,51])),
([kq33x18],(.str [45,50,47,51])),
([kq33x19],(.str [45,51,47,52])),
([kq33x4],(.str [57,57,57,57])),
([kq33x13],(.str [49,47,52])),
([kq33x14],(.str [49,47,51])),
([kq33x6],(.str [45,49,47,49,48,48]))]
theorem k23R49p0_ok : allTrue (kIs [] [40] 100000 49) k23R49p0 = true := by decide +kernel
def k23R354p0 : List (List AV × AV) := [
([kz33],(kp33 (0))),
([ko33],(kp33 (1))),
([.str [50]],(kp33 (2))),
([.str [52]],(kp33 (4))),
([.str [51]],(kp33 (3))),
([.str [54]],(kp33 (6)))]
theorem k23R354p0_ok : allTrue (kIs [] [40] 100000 354) k23R354p0 = true := by decide +kernel
def k23R39p0 : List (List AV × AV) := [
([kp33 (1)],(.agg [ke33,kz33,.vs [[kp33 (1),ko33]] (some 1)])),
([kp33 (2)],(.agg [ke33,kz33,.vs [[kp33 (2),ko33]] (some 1)])),
([kp33 (3)],(.agg [ke33,kz33,.vs [[kp33 (3),ko33]] (some 1)])),
([kp33 (0)],(.agg [ke33,kz33,.vs [[kp33 (0),ko33]] (some 1)]))]
theorem k23R39p0_ok : allTrue (kIs [] [40] 100000 39) k23R39p0 = true := by decide +kernel
end
end Go.Abs

namespace Go.Abs
noncomputable section
open Go.Proofs

def k23T0 : List (FuncId × List (List AV × AV)) := (39, k23R39p0) :: (48, k23R48p0) :: (49, k23R49p0) :: (79, k23R79p0) :: (119, k23R119p0) :: (162, k23R162p0) :: (191, k23R191p0) :: (354, k23R354p0) :: []
theorem k23T0_ok : TabHolds Tryz.prog k23T0 := (tab_cons tab_nil k23R39p0_ok (tab_cons tab_nil k23R48p0_ok (tab_cons tab_nil k23R49p0_ok (tab_cons tab_nil k23R79p0_ok (tab_cons tab_nil k23R119p0_ok (tab_cons tab_nil k23R162p0_ok (tab_cons tab_nil k23R191p0_ok (tab_cons tab_nil k23R354p0_ok tab_nil))))))))
end
end Go.Abs
