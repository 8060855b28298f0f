/-
  Steps to a law of this program: SK20L4P0, SK20J4.
  Conditions: none.
-/
import Derived.Test.YtddbfdneienioaaGreatDoorB45
set_option linter.unusedVariables false
set_option linter.unusedSimpArgs false
set_option linter.unusedSectionVars false
namespace Go.Abs
noncomputable section
open Go.Proofs
abbrev kp46 (n : Int) : AV := .int .i64 n
abbrev ke46 : AV := .str []
abbrev kz46 : AV := .str [48]
abbrev ko46 : AV := .str [49]
abbrev kh46 : AV := .str [49, 47, 50]
abbrev kq46x0 : AV := .agg [.vs [[kp46 (0)],[kp46 (0)],[kp46 (0)],[kp46 (0)]] (some 4),.vs [[.vs [[ke46,.str [51],.vs [[kp46 (1),ko46]] (some 1)],[ke46,kz46,.vs [[kp46 (2),ko46]] (some 1)],[ke46,ko46,.vs [[kp46 (0),ko46]] (some 1)]] (some 3)],[.vs [[ke46,ko46,.vs [[kp46 (1),ko46]] (some 1)]] (some 1)],[.vs [[ke46,.str [50],.vs [[kp46 (3),ko46]] (some 1)]] (some 1)],[.vs [[ke46,kz46,.vs [[kp46 (2),ko46]] (some 1)],[ke46,.str [53],.vs [[kp46 (0),kh46],[kp46 (1),kh46]] (some 2)]] (some 2)]] (some 4)]
abbrev kq46x1 : AV := .agg [.vs [[kp46 (0)],[kp46 (0)],[kp46 (0)],[kp46 (0)],[kp46 (0)]] (some 5),.vs [[.vs [[ke46,.str [55],.vs [[kp46 (1),kh46],[kp46 (3),kh46]] (some 2)]] (some 1)],[.vs [[ke46,ko46,.vs [[kp46 (2),ko46]] (some 1)]] (some 1)],[.vs [[ke46,.str [50],.vs [[kp46 (1),.str [49,47,51]],[kp46 (2),.str [50,47,51]]] (some 2)],[ke46,.str [57],.vs [[kp46 (3),ko46]] (some 1)]] (some 2)],[.vs [[ke46,kh46,.vs [[kp46 (3),ko46]] (some 1)]] (some 1)],[.vs [[ke46,.str [49,48,48],.vs [[kp46 (0),.str [49,47,49,48]],[kp46 (4),.str [57,47,49,48]]] (some 2)]] (some 1)]] (some 5)]
abbrev kq46x2 : AV := .vs [[ke46,.str [50],.vs [[kp46 (3),ko46]] none]] none
abbrev kq46x3 : AV := .vs [[kp46 (0)],[kp46 (0)],[kp46 (0)],[kp46 (0)]] none
abbrev kq46x4 : AV := .vs [[ke46,ko46,.vs [[kp46 (1),ko46]] none]] none
abbrev kq46x5 : AV := .vs [[ke46,kz46,.vs [[kp46 (2),ko46]] none]] none
abbrev kq46x6 : AV := .vs [[ke46,.str [53],.vs [[kp46 (0),kh46],[kp46 (1),kh46]] none]] none
abbrev kq46x7 : AV := .ifc 999999 (.tup [.vs [[.int .u64 (2),.vs [[.int .u64 (1)]] none],[.int .u64 (12),.vs [[.int .u64 (1)],[.int .u64 (1)]] none]] none,kp46 (0)])
abbrev kq46x8 : AV := .vs [[ke46,.str [51],.vs [[kp46 (1),ko46]] none]] none
abbrev kq46x9 : AV := .vs [[ke46,.str [49,48,48],.vs [[kp46 (0),.str [49,47,49,48]],[kp46 (4),.str [57,47,49,48]]] none]] none
set_option maxRecDepth 1000000

def k20R161p0 : List (List AV × AV) := [
([.agg [.vs [[kp46 (0)],[kp46 (0)],[kp46 (0)],[kp46 (0)],[kp46 (0)],[kp46 (0)],[kp46 (0)],[kp46 (0)],[kp46 (0)],[kp46 (0)],[kp46 (0)],[kp46 (0)]] none,.vs [[.vs [[ke46,kz46,.vs [[kp46 (1),ko46]] none]] none],[.vs [[ke46,ko46,.vs [[kp46 (2),ko46]] none]] none],[kq46x2],[.vs [[ke46,.str [51],.vs [[kp46 (4),ko46]] none]] none],[.vs [[ke46,.str [52],.vs [[kp46 (5),ko46]] none]] none],[.vs [[ke46,.str [53],.vs [[kp46 (6),ko46]] none]] none],[.vs [[ke46,.str [54],.vs [[kp46 (7),ko46]] none]] none],[.vs [[ke46,.str [55],.vs [[kp46 (8),ko46]] none]] none],[.vs [[ke46,.str [56],.vs [[kp46 (9),ko46]] none]] none],[.vs [[ke46,.str [57],.vs [[kp46 (10),ko46]] none]] none],[.vs [[ke46,.str [49,48],.vs [[kp46 (11),ko46]] none]] none],[.vs [[ke46,.str [49,49],.vs [[kp46 (0),ko46]] none]] none]] (some 12)]],(.ifc 999999 (.tup [.vs [[.int .u64 (4095),.vs [[.int .u64 (1)],[.int .u64 (1)],[.int .u64 (1)],[.int .u64 (1)],[.int .u64 (1)],[.int .u64 (1)],[.int .u64 (1)],[.int .u64 (1)],[.int .u64 (1)],[.int .u64 (1)],[.int .u64 (1)],[.int .u64 (1)]] none]] none,kp46 (0)]))),
([.agg [kq46x3,.vs [[kq46x8],[kq46x4],[kq46x2],[kq46x5]] (some 4)]],(kq46x7)),
([.agg [kq46x3,.vs [[kq46x8],[kq46x4],[kq46x2],[kq46x6]] (some 4)]],(.ifc 999999 (.tup [.vs [[.int .u64 (2),.vs [[.int .u64 (1)]] none]] none,kp46 (0)]))),
([.agg [kq46x3,.vs [[kq46x5],[kq46x4],[kq46x2],[kq46x6]] (some 4)]],(.ifc 999999 (.tup [.vs [[.int .u64 (2),.vs [[.int .u64 (1)]] none]] none,kp46 (0)]))),
([.agg [kq46x3,.vs [[kq46x5],[kq46x4],[kq46x2],[kq46x5]] (some 4)]],(kq46x7))]
theorem k20R161p0_ok : allTrue (kIs k20T3 [] 100000 161) k20R161p0 = true := by decide +kernel
def k20R102p0 : List (List AV × AV) := [
([kq46x0,.vs [[kp46 (0)],[kp46 (0)],[kp46 (0)],[kp46 (0)]] (some 4)],(.ifc 999999 (.tup [.agg [kq46x3,.vs [[kq46x8],[kq46x4],[kq46x2],[kq46x5]] (some 4)],kp46 (0)]))),
([kq46x0,.vs [[kp46 (0)],[kp46 (0)],[kp46 (0)],[kp46 (1)]] none],(.ifc 999999 (.tup [.agg [kq46x3,.vs [[kq46x8],[kq46x4],[kq46x2],[kq46x6]] (some 4)],kp46 (0)]))),
([kq46x0,.vs [[kp46 (1)],[kp46 (0)],[kp46 (0)],[kp46 (1)]] none],(.ifc 999999 (.tup [.agg [kq46x3,.vs [[kq46x5],[kq46x4],[kq46x2],[kq46x6]] (some 4)],kp46 (0)]))),
([kq46x0,.vs [[kp46 (1)],[kp46 (0)],[kp46 (0)],[kp46 (0)]] none],(.ifc 999999 (.tup [.agg [kq46x3,.vs [[kq46x5],[kq46x4],[kq46x2],[kq46x5]] (some 4)],kp46 (0)]))),
([kq46x1,.vs [[kp46 (0)],[kp46 (0)],[kp46 (0)],[kp46 (0)],[kp46 (0)]] (some 5)],(.ifc 999999 (.tup [.agg [.vs [[kp46 (0)],[kp46 (0)],[kp46 (0)],[kp46 (0)],[kp46 (0)]] none,.vs [[.vs [[ke46,.str [55],.vs [[kp46 (1),kh46],[kp46 (3),kh46]] none]] none],[.vs [[ke46,ko46,.vs [[kp46 (2),ko46]] none]] none],[.vs [[ke46,.str [50],.vs [[kp46 (1),.str [49,47,51]],[kp46 (2),.str [50,47,51]]] none]] none],[.vs [[ke46,kh46,.vs [[kp46 (3),ko46]] none]] none],[kq46x9]] (some 5)],kp46 (0)]))),
([kq46x1,.vs [[kp46 (0)],[kp46 (0)],[kp46 (1)],[kp46 (0)],[kp46 (0)]] none],(.ifc 999999 (.tup [.agg [.vs [[kp46 (0)],[kp46 (0)],[kp46 (0)],[kp46 (0)],[kp46 (0)]] none,.vs [[.vs [[ke46,.str [55],.vs [[kp46 (1),kh46],[kp46 (3),kh46]] none]] none],[.vs [[ke46,ko46,.vs [[kp46 (2),ko46]] none]] none],[.vs [[ke46,.str [57],.vs [[kp46 (3),ko46]] none]] none],[.vs [[ke46,kh46,.vs [[kp46 (3),ko46]] none]] none],[kq46x9]] (some 5)],kp46 (0)])))]
theorem k20R102p0_ok : allTrue (kIs k20T3 [] 100000 102) k20R102p0 = true := by decide +kernel
end
end Go.Abs

namespace Go.Abs
noncomputable section
open Go.Proofs

def k20T4 : List (FuncId × List (List AV × AV)) := (102, k20R102p0) :: (161, k20R161p0 ++ k20R161p1) :: k20T3
theorem k20T4_ok : TabHolds Tryz.prog k20T4 := (tab_cons k20T3_ok k20R102p0_ok (tab_cons k20T3_ok (allTrue_app k20R161p0_ok k20R161p1_ok) k20T3_ok))
end
end Go.Abs
