/-
  Steps to a law of this program: SK20L0P1.
  Conditions: none.
-/
import Derived.Test.YtddbfdneienioaaGreatDoorB33
set_option linter.unusedVariables false
set_option linter.unusedSimpArgs false
set_option linter.unusedSectionVars false
namespace Go.Abs
noncomputable section
open Go.Proofs
abbrev kp34 (n : Int) : AV := .int .i64 n
abbrev ke34 : AV := .str []
abbrev kz34 : AV := .str [48]
abbrev ko34 : AV := .str [49]
abbrev kh34 : AV := .str [49, 47, 50]
abbrev kq34x0 : AV := .vp [.vs [[kp34 (0)],[kp34 (0)],[kp34 (0)],[kp34 (0)],[kp34 (0)],[kp34 (0)],[kp34 (0)],[kp34 (0)],[kp34 (0)],[kp34 (0)],[kp34 (0)],[kp34 (0)]] none,.vs [[.vs [[ke34,kz34,.vs [[kp34 (1),ko34]] none]] none],[.vs [[ke34,ko34,.vs [[kp34 (2),ko34]] none]] none],[.vs [[ke34,.str [50],.vs [[kp34 (3),ko34]] none]] none],[.vs [[ke34,.str [51],.vs [[kp34 (4),ko34]] none]] none],[.vs [[ke34,.str [52],.vs [[kp34 (5),ko34]] none]] none],[.vs [[ke34,.str [53],.vs [[kp34 (6),ko34]] none]] none],[.vs [[ke34,.str [54],.vs [[kp34 (7),ko34]] none]] none],[.vs [[ke34,.str [55],.vs [[kp34 (8),ko34]] none]] none],[.vs [[ke34,.str [56],.vs [[kp34 (9),ko34]] none]] none],[.vs [[ke34,.str [57],.vs [[kp34 (10),ko34]] none]] none],[.vs [[ke34,.str [49,48],.vs [[kp34 (11),ko34]] none]] none],[.vs [[ke34,.str [49,49],.vs [[kp34 (0),ko34]] none]] none]] (some 12),.int .u64 (1),.int .u64 (1),.int .u64 (1),.int .u64 (1),.int .u64 (1),.int .u64 (1),.int .u64 (1),.int .u64 (1),.int .u64 (1),.int .u64 (1),.int .u64 (1),.int .u64 (1)] 0
abbrev kq34x1 : AV := .vs [[.int .u32 (1)]] none
abbrev kq34x2 : AV := .vs [[.int .u32 (2)]] none
abbrev kq34x3 : AV := .vs [[.int .u32 (3)]] none
abbrev kq34x4 : AV := .vs [[.int .u32 (8)]] none
abbrev kq34x5 : AV := .vs [[.int .u32 (9)]] none
abbrev kq34x6 : AV := .vs [[.int .u32 (10)]] none
abbrev kq34x7 : AV := .vs [[.int .u32 (4)]] none
abbrev kq34x8 : AV := .agg [.bool false,.vs [[.int .u32 (11)]] none,.bool false,kq34x1]
abbrev kq34x9 : AV := .agg [.bool false,.vs [[.int .u32 (5)]] none,.bool false,kq34x1]
abbrev kq34x10 : AV := .agg [.bool false,.vs [[.int .u32 (6)]] none,.bool false,kq34x1]
set_option maxRecDepth 1000000

def k20R373p0 : List (List AV × AV) := [
([kq34x0,kp34 (0)],(.int .u64 (4095))),
([kq34x0,kp34 (1)],(.int .u64 (4095))),
([kq34x0,kp34 (2)],(.int .u64 (4095))),
([kq34x0,kp34 (3)],(.int .u64 (4095)))]
theorem k20R373p0_ok : allTrue (kIs [] [] 100000 373) k20R373p0 = true := by decide +kernel
def k20R162p0 : List (List AV × AV) := [
([.agg [.bool false,.vs [] none,.bool false,kq34x1],kp34 (2000)],(.bool true)),
([.agg [.bool false,.vs [] none,.bool false,kq34x1],kp34 (4)],(.bool true)),
([.agg [.bool false,kq34x1,.bool false,kq34x1],kp34 (2000)],(.bool true)),
([.agg [.bool false,kq34x1,.bool false,kq34x1],kp34 (4)],(.bool true)),
([.agg [.bool false,kq34x2,.bool false,kq34x1],kp34 (2000)],(.bool true)),
([.agg [.bool false,kq34x2,.bool false,kq34x1],kp34 (4)],(.bool true)),
([.agg [.bool false,kq34x3,.bool false,kq34x1],kp34 (2000)],(.bool true)),
([.agg [.bool false,kq34x3,.bool false,kq34x1],kp34 (4)],(.bool true)),
([.agg [.bool false,kq34x7,.bool false,kq34x1],kp34 (2000)],(.bool true)),
([.agg [.bool false,kq34x7,.bool false,kq34x1],kp34 (4)],(.bool true)),
([kq34x9,kp34 (2000)],(.bool true)),
([kq34x9,kp34 (4)],(.bool true)),
([kq34x10,kp34 (2000)],(.bool true)),
([kq34x10,kp34 (4)],(.bool true)),
([.agg [.bool false,.vs [[.int .u32 (7)]] none,.bool false,kq34x1],kp34 (2000)],(.bool true)),
([.agg [.bool false,.vs [[.int .u32 (7)]] none,.bool false,kq34x1],kp34 (4)],(.bool true)),
([.agg [.bool false,kq34x4,.bool false,kq34x1],kp34 (2000)],(.bool true)),
([.agg [.bool false,kq34x4,.bool false,kq34x1],kp34 (4)],(.bool true)),
([.agg [.bool false,kq34x5,.bool false,kq34x1],kp34 (2000)],(.bool true)),
([.agg [.bool false,kq34x5,.bool false,kq34x1],kp34 (4)],(.bool true)),
([.agg [.bool false,kq34x6,.bool false,kq34x1],kp34 (2000)],(.bool true)),
([.agg [.bool false,kq34x6,.bool false,kq34x1],kp34 (4)],(.bool true)),
([kq34x8,kp34 (2000)],(.bool true)),
([kq34x8,kp34 (4)],(.bool true)),
([.agg [.bool true,kq34x1,.bool false,kq34x1],kp34 (2000)],(.bool true)),
([.agg [.bool false,.nils,.bool false,kq34x1],kp34 (2000)],(.bool true)),
([.agg [.bool false,kq34x1,.bool false,.vs [[.int .u32 (12)]] none],kp34 (2000)],(.bool true)),
([.agg [.bool false,.vs [[.int .u32 (11)]] none,.bool false,kq34x2],kp34 (2000)],(.bool true)),
([.agg [.bool false,kq34x1,.bool false,kq34x2],kp34 (2000)],(.bool true)),
([.agg [.bool false,kq34x1,.bool false,kq34x2],kp34 (4)],(.bool true)),
([.agg [.bool true,kq34x1,.bool false,kq34x2],kp34 (2000)],(.bool true)),
([.agg [.bool false,.vs [[.int .u32 (100)]] none,.bool false,kq34x1],kp34 (2000)],(.bool true)),
([.agg [.bool false,.vs [[.int .u32 (100)]] none,.bool false,kq34x1],kp34 (4)],(.bool true)),
([.agg [.bool false,kq34x1,.bool false,kq34x3],kp34 (2000)],(.bool true)),
([.agg [.bool false,kq34x1,.bool false,kq34x3],kp34 (4)],(.bool true)),
([.agg [.bool false,kq34x2,.bool false,kq34x3],kp34 (2000)],(.bool true)),
([.agg [.bool false,kq34x2,.bool false,kq34x3],kp34 (4)],(.bool true)),
([.agg [.bool false,kq34x1,.bool false,kq34x6],kp34 (2000)],(.bool true)),
([.agg [.bool false,kq34x1,.bool false,kq34x6],kp34 (4)],(.bool true)),
([.agg [.bool false,kq34x5,.bool false,kq34x6],kp34 (2000)],(.bool true)),
([.agg [.bool false,kq34x5,.bool false,kq34x6],kp34 (4)],(.bool true)),
([.agg [.bool false,kq34x1,.bool false,kq34x7],kp34 (2000)],(.bool true)),
([.agg [.bool false,kq34x3,.bool false,kq34x7],kp34 (2000)],(.bool true)),
([.agg [.bool true,kq34x1,.bool false,kq34x6],kp34 (2000)],(.bool true)),
([.agg [.bool false,.vs [[.int .u32 (7)]] none,.bool false,kq34x7],kp34 (2000)],(.bool true)),
([.agg [.bool false,kq34x5,.bool false,kq34x4],kp34 (2000)],(.bool true)),
([.agg [.bool true,kq34x1,.bool false,kq34x3],kp34 (2000)],(.bool true)),
([.agg [.bool false,.vs [[.int .u32 (47)]] none,.bool false,kq34x4],kp34 (2000)],(.bool true)),
([.agg [.bool false,.vs [[.int .u32 (791)]] none,.bool false,kq34x4],kp34 (2000)],(.bool true)),
([.agg [.bool false,.vs [[.int .u32 (7957)]] none,.bool false,kq34x4],kp34 (2000)],(.bool true)),
([.agg [.bool false,kq34x5,.bool false,.vs [[.int .u32 (16)]] none],kp34 (2000)],(.bool true)),
([.agg [.bool false,kq34x5,.bool false,.vs [[.int .u32 (32)]] none],kp34 (2000)],(.bool true)),
([.agg [.bool false,.vs [[.int .u32 (13)]] none,.bool false,kq34x2],kp34 (2000)],(.bool true)),
([.agg [.bool false,.vs [[.int .u32 (17)]] none,.bool false,kq34x2],kp34 (2000)],(.bool true)),
([.agg [.bool false,.vs [[.int .u32 (199)]] none,.bool false,kq34x2],kp34 (2000)],(.bool true)),
([.agg [.bool false,.vs [[.int .u32 (1006)]] none,.bool false,kq34x1],kp34 (2000)],(.bool true))]
theorem k20R162p0_ok : allTrue (kIs [] [] 100000 162) k20R162p0 = true := by decide +kernel
def k20R49p0 : List (List AV × AV) := [
([.agg [.bool false,kq34x1,.bool false,kq34x1]],ko34),
([.agg [.bool true,kq34x1,.bool false,kq34x1]],(.str [45,49])),
([.agg [.bool false,.nils,.bool false,kq34x1]],kz34),
([.agg [.bool false,kq34x1,.bool false,.vs [[.int .u32 (12)]] none]],(.str [49,47,49,50])),
([.agg [.bool false,.vs [[.int .u32 (11)]] none,.bool false,kq34x2]],(.str [49,49,47,50])),
([.agg [.bool false,.vs [] none,.bool false,kq34x1]],kz34),
([.agg [.bool false,kq34x1,.bool false,kq34x2]],kh34),
([.agg [.bool false,kq34x2,.bool false,kq34x1]],(.str [50])),
([.agg [.bool true,kq34x1,.bool false,kq34x2]],(.str [45,49,47,50])),
([.agg [.bool false,kq34x7,.bool false,kq34x1]],(.str [52])),
([kq34x10],(.str [54])),
([kq34x9],(.str [53])),
([.agg [.bool false,kq34x4,.bool false,kq34x1]],(.str [56])),
([.agg [.bool false,kq34x5,.bool false,kq34x1]],(.str [57])),
([.agg [.bool false,kq34x1,.bool false,kq34x3]],(.str [49,47,51])),
([.agg [.bool false,kq34x1,.bool false,kq34x7]],(.str [49,47,52])),
([.agg [.bool false,kq34x3,.bool false,kq34x7]],(.str [51,47,52])),
([.agg [.bool false,.vs [[.int .u32 (7)]] none,.bool false,kq34x7]],(.str [55,47,52])),
([.agg [.bool true,kq34x1,.bool false,kq34x6]],(.str [45,49,47,49,48])),
([.agg [.bool false,kq34x1,.bool false,kq34x6]],(.str [49,47,49,48])),
([.agg [.bool false,kq34x5,.bool false,kq34x4]],(.str [57,47,56])),
([.agg [.bool false,.vs [[.int .u32 (47)]] none,.bool false,kq34x4]],(.str [52,55,47,56])),
([.agg [.bool true,kq34x1,.bool false,kq34x3]],(.str [45,49,47,51])),
([.agg [.bool false,.vs [[.int .u32 (791)]] none,.bool false,kq34x4]],(.str [55,57,49,47,56])),
([.agg [.bool false,.vs [[.int .u32 (7957)]] none,.bool false,kq34x4]],(.str [55,57,53,55,47,56])),
([.agg [.bool false,kq34x5,.bool false,.vs [[.int .u32 (16)]] none]],(.str [57,47,49,54])),
([.agg [.bool false,kq34x5,.bool false,.vs [[.int .u32 (32)]] none]],(.str [57,47,51,50])),
([.agg [.bool false,.vs [[.int .u32 (13)]] none,.bool false,kq34x2]],(.str [49,51,47,50])),
([.agg [.bool false,.vs [[.int .u32 (17)]] none,.bool false,kq34x2]],(.str [49,55,47,50])),
([.agg [.bool false,.vs [[.int .u32 (199)]] none,.bool false,kq34x2]],(.str [49,57,57,47,50])),
([kq34x8],(.str [49,49])),
([.agg [.bool false,.vs [[.int .u32 (1006)]] none,.bool false,kq34x1]],(.str [49,48,48,54]))]
theorem k20R49p0_ok : allTrue (kIs [] [] 100000 49) k20R49p0 = true := by decide +kernel
def k20R27p0 : List (List AV × AV) := [
([kp34 (1),ko34],(.agg [kp34 (1),ko34])),
([kp34 (2),ko34],(.agg [kp34 (2),ko34])),
([kp34 (3),ko34],(.agg [kp34 (3),ko34])),
([kp34 (4),ko34],(.agg [kp34 (4),ko34])),
([kp34 (5),ko34],(.agg [kp34 (5),ko34])),
([kp34 (6),ko34],(.agg [kp34 (6),ko34])),
([kp34 (7),ko34],(.agg [kp34 (7),ko34])),
([kp34 (8),ko34],(.agg [kp34 (8),ko34])),
([kp34 (9),ko34],(.agg [kp34 (9),ko34])),
([kp34 (10),ko34],(.agg [kp34 (10),ko34])),
([kp34 (11),ko34],(.agg [kp34 (11),ko34])),
([kp34 (0),ko34],(.agg [kp34 (0),ko34])),
([kp34 (0),kh34],(.agg [kp34 (0),kh34])),
([kp34 (1),kh34],(.agg [kp34 (1),kh34])),
([kp34 (3),kh34],(.agg [kp34 (3),kh34])),
([kp34 (1),.str [49,47,51]],(.agg [kp34 (1),.str [49,47,51]])),
([kp34 (2),.str [50,47,51]],(.agg [kp34 (2),.str [50,47,51]])),
([kp34 (0),.str [49,47,49,48]],(.agg [kp34 (0),.str [49,47,49,48]])),
([kp34 (4),.str [57,47,49,48]],(.agg [kp34 (4),.str [57,47,49,48]]))]
theorem k20R27p0_ok : allTrue (kIs [] [] 100000 27) k20R27p0 = true := by decide +kernel
end
end Go.Abs
