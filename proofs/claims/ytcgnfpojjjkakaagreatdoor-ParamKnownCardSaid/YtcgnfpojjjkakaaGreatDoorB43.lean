/-
  Steps to a law of this program: SK41L7P0, SK41J7.
  Conditions: none.
-/
import Derived.Test.YtcgnfpojjjkakaaGreatDoorB42
set_option linter.unusedVariables false
set_option linter.unusedSimpArgs false
set_option linter.unusedSectionVars false
namespace Go.Abs
noncomputable section
open Go.Proofs
abbrev kp43 (n : Int) : AV := .int .i64 n
abbrev ke43 : AV := .str []
abbrev kz43 : AV := .str [48]
abbrev ko43 : AV := .str [49]
abbrev kh43 : AV := .str [49, 47, 50]
abbrev kq43x0 : AV := .agg [.vs [[.vs [[kp43 (0),.vs [[ko43]] (some 1),.vs [[ko43]] (some 1)]] (some 1)],[.vs [[kp43 (0),.vs [[kz43],[ko43]] (some 2),.vs [[ko43]] (some 1)],[kp43 (2),.vs [[ko43],[.str [45,49]]] (some 2),.vs [[ko43]] (some 1)]] (some 2)],[.vs [[kp43 (1),.vs [[kz43],[ko43]] (some 2),.vs [[ko43]] (some 1)],[kp43 (3),.vs [[ko43],[.str [45,49]]] (some 2),.vs [[ko43]] (some 1)]] (some 2)],[.vs [[kp43 (3),.vs [[ko43]] (some 1),.vs [[ko43]] (some 1)]] (some 1)]] (some 4),.vs [[.nils,.vs [[ko43]] (some 1)],[.vs [[ko43]] (some 1),.vs [[ko43]] (some 1)],[.vs [[ko43]] (some 1),.vs [[ko43]] (some 1)],[.nils,.vs [[ko43]] (some 1)]] (some 4)]
abbrev kq43x1 : AV := .vs [[ko43]] (some 1)
abbrev kq43x2 : AV := .agg [.vs [[.vs [[kp43 (0),kq43x1,kq43x1]] (some 1)],[.vs [[kp43 (1),kq43x1,kq43x1]] (some 1)],[.vs [[kp43 (2),kq43x1,kq43x1]] (some 1)],[.vs [[kp43 (3),kq43x1,kq43x1]] (some 1)],[.vs [[kp43 (4),kq43x1,kq43x1]] (some 1)],[.vs [[kp43 (5),kq43x1,kq43x1]] (some 1)],[.vs [[kp43 (6),kq43x1,kq43x1]] (some 1)]] none,.vs [[.nils,kq43x1],[.nils,kq43x1],[.nils,kq43x1],[.nils,kq43x1],[.nils,kq43x1],[.nils,kq43x1],[.nils,kq43x1]] none]
abbrev kq43x3 : AV := .agg [.vs [[.vs [[kp43 (0),kq43x1,kq43x1]] (some 1)]] (some 1),.vs [[kq43x1,.vs [[kz43],[ko43]] (some 2)]] (some 1)]
set_option maxRecDepth 1000000

def k41R11p0 : List (List AV × AV) := [
([kq43x0,.str [49,47,51]],(.ifc 999999 (.tup [.agg [.vs [[kp43 (0)],[kp43 (0)],[kp43 (0)],[kp43 (0)]] (some 4),.vs [[.vs [[ke43,kz43,.vs [[kp43 (0),ko43]] none]] (some 1)],[.vs [[ke43,ko43,.vs [[kp43 (0),.str [49,47,51]],[kp43 (2),.str [50,47,51]]] none]] (some 1)],[.vs [[ke43,ko43,.vs [[kp43 (1),.str [49,47,51]],[kp43 (3),.str [50,47,51]]] none]] (some 1)],[.vs [[ke43,kz43,.vs [[kp43 (3),ko43]] none]] (some 1)]] none],kp43 (0)]))),
([kq43x0,kz43],(.tup [.agg [.nils,.nils],kp43 (110)])),
([kq43x0,.str [50]],(.tup [.agg [.nils,.nils],kp43 (110)])),
([kq43x0,.str [120]],(.tup [.agg [.nils,.nils],kp43 (5)])),
([kq43x3,kz43],(.tup [.agg [.nils,.nils],kp43 (61)])),
([kq43x3,.str [52]],(.ifc 999999 (.tup [.agg [.vs [[kp43 (0)]] (some 1),.vs [[.vs [[ke43,.str [49,47,52],.vs [[kp43 (0),ko43]] none]] (some 1)]] none],kp43 (0)]))),
([kq43x3,.str [45,52]],(.tup [.agg [.nils,.nils],kp43 (110)])),
([kq43x2,.str [120]],(.tup [.agg [.nils,.nils],kp43 (410)]))]
theorem k41R11p0_ok : allTrue (kIs k41T6 [] 100000 11) k41R11p0 = true := by decide +kernel
def k41R12p0 : List (List AV × AV) := [
([kq43x0],(.ifc 999999 (.tup [.vs [[.vs [[kp43 (0)]] none],[.vs [[kp43 (0)],[kp43 (2)]] none],[.vs [[kp43 (1)],[kp43 (3)]] none],[.vs [[kp43 (3)]] none]] none,kp43 (0)]))),
([.agg [.vs [[.vs [[kp43 (0),.vs [[ko43],[.str [45,49]]] (some 2),kq43x1],[kp43 (1),.vs [[kz43],[ko43]] (some 2),kq43x1]] (some 2)],[.vs [[kp43 (1),kq43x1,kq43x1]] (some 1)]] (some 2),.vs [[.nils,kq43x1],[.nils,kq43x1]] (some 2)]],(.ifc 999999 (.tup [.vs [[.vs [[kp43 (0)],[kp43 (1)]] none],[.vs [[kp43 (1)]] none]] none,kp43 (0)]))),
([.agg [.vs [[.vs [[kp43 (0),.vs [[.str [50]]] (some 1),kq43x1],[kp43 (1),.vs [[.str [45,49]]] (some 1),kq43x1]] (some 2)],[.vs [[kp43 (0),.vs [[.str [45,49]]] (some 1),kq43x1],[kp43 (1),kq43x1,kq43x1],[kp43 (2),kq43x1,kq43x1]] (some 3)],[.vs [[kp43 (2),kq43x1,kq43x1]] (some 1)]] (some 3),.vs [[.nils,kq43x1],[.nils,kq43x1],[.nils,kq43x1]] (some 3)]],(.ifc 999999 (.tup [.vs [[.vs [[kp43 (0)],[kp43 (1)]] none],[.vs [[kp43 (0)],[kp43 (1)],[kp43 (2)]] none],[.vs [[kp43 (2)]] none]] none,kp43 (0)]))),
([kq43x2],(.tup [.nils,kp43 (410)])),
([.agg [.vs [[.vs [[kp43 (0),kq43x1,kq43x1]] (some 1)],[.vs [[kp43 (1),kq43x1,kq43x1]] (some 1)]] none,.vs [[.nils,kq43x1],[.nils,kq43x1]] none]],(.ifc 999999 (.tup [.vs [[.vs [[kp43 (0)]] none],[.vs [[kp43 (1)]] none]] none,kp43 (0)]))),
([.agg [.vs [[.vs [[kp43 (1),.vs [[.str [45,49]]] (some 1),kq43x1],[kp43 (2),.vs [[.str [50]]] (some 1),kq43x1]] (some 2)],[.vs [[kp43 (0),.vs [[.str [45,49]]] (some 1),kq43x1],[kp43 (2),.vs [[.str [50]]] (some 1),kq43x1]] (some 2)],[.vs [[kp43 (2),kq43x1,kq43x1]] (some 1)]] (some 3),.vs [[kq43x1,kq43x1],[kq43x1,kq43x1],[kq43x1,kq43x1]] (some 3)]],(.ifc 999999 (.tup [.vs [[.vs [[kp43 (1)],[kp43 (2)]] none],[.vs [[kp43 (0)],[kp43 (2)]] none],[.vs [[kp43 (2)]] none]] none,kp43 (0)])))]
theorem k41R12p0_ok : allTrue (kIs k41T6 [] 100000 12) k41R12p0 = true := by decide +kernel
end
end Go.Abs

namespace Go.Abs
noncomputable section
open Go.Proofs

def k41T7 : List (FuncId × List (List AV × AV)) := (11, k41R11p0) :: (12, k41R12p0) :: k41T6
theorem k41T7_ok : TabHolds Tryz.prog k41T7 := (tab_cons k41T6_ok k41R11p0_ok (tab_cons k41T6_ok k41R12p0_ok k41T6_ok))
end
end Go.Abs
