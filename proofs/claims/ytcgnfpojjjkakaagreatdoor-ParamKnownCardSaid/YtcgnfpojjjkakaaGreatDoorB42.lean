/-
  Steps to a law of this program: SK41L6P0, SK41J6.
  Conditions: none.
-/
import Derived.Test.YtcgnfpojjjkakaaGreatDoorB41
set_option linter.unusedVariables false
set_option linter.unusedSimpArgs false
set_option linter.unusedSectionVars false
namespace Go.Abs
noncomputable section
open Go.Proofs
abbrev kp42 (n : Int) : AV := .int .i64 n
abbrev ke42 : AV := .str []
abbrev kz42 : AV := .str [48]
abbrev ko42 : AV := .str [49]
abbrev kh42 : AV := .str [49, 47, 50]
abbrev kq42x0 : AV := .vs [[ko42]] (some 1)
abbrev kq42x1 : AV := .vs [[kp42 (0),kq42x0,kq42x0]] (some 1)
abbrev kq42x2 : AV := .vs [[kp42 (1),kq42x0,kq42x0]] (some 1)
abbrev kq42x3 : AV := .vs [[.nils,kq42x0],[.nils,kq42x0]] (some 2)
abbrev kq42x4 : AV := .vs [[ko42],[.str [45,49]]] (some 2)
abbrev kq42x5 : AV := .vs [[kz42],[ko42]] (some 2)
set_option maxRecDepth 1000000

def k41R13p0 : List (List AV × AV) := [
([.agg [.vs [[kq42x1],[.vs [[kp42 (0),kq42x5,kq42x0],[kp42 (2),kq42x4,kq42x0]] (some 2)],[.vs [[kp42 (1),kq42x5,kq42x0],[kp42 (3),kq42x4,kq42x0]] (some 2)],[.vs [[kp42 (3),kq42x0,kq42x0]] (some 1)]] (some 4),.vs [[.nils,kq42x0],[kq42x0,kq42x0],[kq42x0,kq42x0],[.nils,kq42x0]] (some 4)]],(kp42 (0))),
([.agg [.vs [[.vs [[kp42 (0),kq42x4,kq42x0],[kp42 (1),kq42x5,kq42x0]] (some 2)],[kq42x2]] (some 2),kq42x3]],(kp42 (0))),
([.agg [.vs [[.vs [[kp42 (0),.vs [[.str [50]]] (some 1),kq42x0],[kp42 (1),.vs [[.str [45,49]]] (some 1),kq42x0]] (some 2)],[.vs [[kp42 (0),.vs [[.str [45,49]]] (some 1),kq42x0],[kp42 (1),kq42x0,kq42x0],[kp42 (2),kq42x0,kq42x0]] (some 3)],[.vs [[kp42 (2),kq42x0,kq42x0]] (some 1)]] (some 3),.vs [[.nils,kq42x0],[.nils,kq42x0],[.nils,kq42x0]] (some 3)]],(kp42 (0))),
([.agg [.vs [[.vs [[kp42 (0),kq42x5,kq42x0]] (some 1)]] (some 1),.vs [[.nils,kq42x0]] (some 1)]],(kp42 (410))),
([.agg [.vs [[kq42x1]] (some 1),.vs [[kq42x0,kq42x5]] (some 1)]],(kp42 (0))),
([.agg [.vs [[kq42x1],[kq42x2],[.vs [[kp42 (2),kq42x0,kq42x0]] (some 1)],[.vs [[kp42 (3),kq42x0,kq42x0]] (some 1)],[.vs [[kp42 (4),kq42x0,kq42x0]] (some 1)],[.vs [[kp42 (5),kq42x0,kq42x0]] (some 1)],[.vs [[kp42 (6),kq42x0,kq42x0]] (some 1)]] none,.vs [[.nils,kq42x0],[.nils,kq42x0],[.nils,kq42x0],[.nils,kq42x0],[.nils,kq42x0],[.nils,kq42x0],[.nils,kq42x0]] none]],(kp42 (410))),
([.agg [.vs [[kq42x1],[kq42x2],[.vs [[kp42 (2),kq42x0,kq42x0]] (some 1)],[.vs [[kp42 (3),kq42x0,kq42x0]] (some 1)],[.vs [[kp42 (4),kq42x0,kq42x0]] (some 1)],[.vs [[kp42 (5),kq42x0,kq42x0]] (some 1)]] none,.vs [[.nils,kq42x0],[.nils,kq42x0],[.nils,kq42x0],[.nils,kq42x0],[.nils,kq42x0],[.nils,kq42x0]] none]],(kp42 (0))),
([.agg [.nils,.nils]],(kp42 (410))),
([.agg [.vs [[kq42x1]] (some 1),.vs [[.vs [[kz42],[kz42],[kz42],[kz42],[ko42]] (some 5),kq42x0]] (some 1)]],(kp42 (0))),
([.agg [.vs [[kq42x1]] (some 1),.vs [[.vs [[kz42],[kz42],[kz42],[kz42],[kz42],[ko42]] (some 6),kq42x0]] (some 1)]],(kp42 (410))),
([.agg [.vs [[kq42x1]] (some 1),.vs [[.vs [[.str [49,48,48,48,48]]] (some 1),kq42x0]] (some 1)]],(kp42 (410))),
([.agg [.vs [[kq42x1]] (some 1),.vs [[kq42x0,.vs [[.str [50]]] (some 1)]] (some 1)]],(kp42 (410))),
([.agg [.vs [[.vs [[kp42 (0),kq42x5,kq42x0],[kp42 (1),kq42x4,kq42x0]] (some 2)],[kq42x2]] (some 2),kq42x3]],(kp42 (0))),
([.agg [.vs [[.vs [[kp42 (1),kq42x5,kq42x0],[kp42 (0),kq42x4,kq42x0]] (some 2)],[kq42x2]] (some 2),kq42x3]],(kp42 (410))),
([.agg [.vs [[.vs [[kp42 (0),kq42x0,kq42x0],[kp42 (1),.nils,kq42x0]] (some 2)],[kq42x2]] (some 2),kq42x3]],(kp42 (410))),
([.agg [.vs [[.vs [[kp42 (0),kq42x5,kq42x0],[kp42 (2),kq42x4,kq42x0]] (some 2)],[kq42x2]] (some 2),kq42x3]],(kp42 (410))),
([.agg [.vs [[.vs [[kp42 (-1),kq42x5,kq42x0],[kp42 (1),kq42x4,kq42x0]] (some 2)],[kq42x2]] (some 2),kq42x3]],(kp42 (410))),
([.agg [.vs [[.nils]] (some 1),.vs [[.nils,kq42x0]] (some 1)]],(kp42 (410))),
([.agg [.vs [[kq42x1],[kq42x2]] none,.vs [[.nils,kq42x0],[.nils,kq42x0]] none]],(kp42 (0))),
([.agg [.vs [[.vs [[kp42 (1),.vs [[.str [45,49]]] (some 1),kq42x0],[kp42 (2),.vs [[.str [50]]] (some 1),kq42x0]] (some 2)],[.vs [[kp42 (0),.vs [[.str [45,49]]] (some 1),kq42x0],[kp42 (2),.vs [[.str [50]]] (some 1),kq42x0]] (some 2)],[.vs [[kp42 (2),kq42x0,kq42x0]] (some 1)]] (some 3),.vs [[kq42x0,kq42x0],[kq42x0,kq42x0],[kq42x0,kq42x0]] (some 3)]],(kp42 (0)))]
theorem k41R13p0_ok : allTrue (kIs k41T5 [] 100000 13) k41R13p0 = true := by decide +kernel
end
end Go.Abs

namespace Go.Abs
noncomputable section
open Go.Proofs

def k41T6 : List (FuncId × List (List AV × AV)) := (13, k41R13p0) :: k41T5
theorem k41T6_ok : TabHolds Tryz.prog k41T6 := (tab_cons k41T5_ok k41R13p0_ok k41T5_ok)
end
end Go.Abs
