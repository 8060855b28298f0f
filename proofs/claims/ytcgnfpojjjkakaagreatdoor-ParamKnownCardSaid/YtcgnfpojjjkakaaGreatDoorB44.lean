/-
  Steps to a law of this program: SK41L8P0, SK41J8, SK41W.
  Conditions: none.
-/
import Derived.Test.YtcgnfpojjjkakaaGreatDoorB43
set_option linter.unusedVariables false
set_option linter.unusedSimpArgs false
set_option linter.unusedSectionVars false
namespace Go.Abs
noncomputable section
open Go.Proofs
abbrev kp44 (n : Int) : AV := .int .i64 n
abbrev ke44 : AV := .str []
abbrev kz44 : AV := .str [48]
abbrev ko44 : AV := .str [49]
abbrev kh44 : AV := .str [49, 47, 50]
abbrev kq44x0 : AV := .agg [.vs [[.vs [[kp44 (0),.vs [[ko44]] (some 1),.vs [[ko44]] (some 1)]] (some 1)],[.vs [[kp44 (0),.vs [[kz44],[ko44]] (some 2),.vs [[ko44]] (some 1)],[kp44 (2),.vs [[ko44],[.str [45,49]]] (some 2),.vs [[ko44]] (some 1)]] (some 2)],[.vs [[kp44 (1),.vs [[kz44],[ko44]] (some 2),.vs [[ko44]] (some 1)],[kp44 (3),.vs [[ko44],[.str [45,49]]] (some 2),.vs [[ko44]] (some 1)]] (some 2)],[.vs [[kp44 (3),.vs [[ko44]] (some 1),.vs [[ko44]] (some 1)]] (some 1)]] (some 4),.vs [[.nils,.vs [[ko44]] (some 1)],[.vs [[ko44]] (some 1),.vs [[ko44]] (some 1)],[.vs [[ko44]] (some 1),.vs [[ko44]] (some 1)],[.nils,.vs [[ko44]] (some 1)]] (some 4)]
abbrev kq44x1 : AV := .vs [[ko44]] (some 1)
abbrev kq44x2 : AV := .agg [.vs [[.vs [[kp44 (0),kq44x1,kq44x1]] (some 1)],[.vs [[kp44 (1),kq44x1,kq44x1]] (some 1)]] none,.vs [[.nils,kq44x1],[.nils,kq44x1]] none]
abbrev kq44x3 : AV := .agg [.vs [[.vs [[kp44 (1),.vs [[.str [45,49]]] (some 1),kq44x1],[kp44 (2),.vs [[.str [50]]] (some 1),kq44x1]] (some 2)],[.vs [[kp44 (0),.vs [[.str [45,49]]] (some 1),kq44x1],[kp44 (2),.vs [[.str [50]]] (some 1),kq44x1]] (some 2)],[.vs [[kp44 (2),kq44x1,kq44x1]] (some 1)]] (some 3),.vs [[kq44x1,kq44x1],[kq44x1,kq44x1],[kq44x1,kq44x1]] (some 3)]
abbrev kq44x4 : AV := .vs [[ko44],[.str [45,49]],[ko44]] (some 3)
set_option maxRecDepth 1000000

def k41R17p0 : List (List AV × AV) := [
([kq44x0,.int .u64 (1)],(.ifc 999999 (.tup [.vs [[kq44x1,kq44x1],[.vs [[kz44],[ko44]] (some 2),kq44x4],[.vs [[kz44],[kz44],[ko44]] (some 3),kq44x4],[.vs [] (some 0),kq44x1]] none,kp44 (0)]))),
([kq44x0,.int .u64 (16)],(.tup [.nils,kp44 (2)])),
([.agg [.vs [[.vs [[kp44 (0),.vs [[ko44],[.str [45,49]]] (some 2),kq44x1],[kp44 (1),.vs [[kz44],[ko44]] (some 2),kq44x1]] (some 2)],[.vs [[kp44 (1),kq44x1,kq44x1]] (some 1)]] (some 2),.vs [[.nils,kq44x1],[.nils,kq44x1]] (some 2)],.int .u64 (2)],(.ifc 999999 (.tup [.vs [[kq44x1,kq44x1],[kq44x1,kq44x1]] none,kp44 (0)]))),
([.agg [.vs [[.vs [[kp44 (0),.vs [[.str [50]]] (some 1),kq44x1],[kp44 (1),.vs [[.str [45,49]]] (some 1),kq44x1]] (some 2)],[.vs [[kp44 (0),.vs [[.str [45,49]]] (some 1),kq44x1],[kp44 (1),kq44x1,kq44x1],[kp44 (2),kq44x1,kq44x1]] (some 3)],[.vs [[kp44 (2),kq44x1,kq44x1]] (some 1)]] (some 3),.vs [[.nils,kq44x1],[.nils,kq44x1],[.nils,kq44x1]] (some 3)],.int .u64 (4)],(.ifc 999999 (.tup [.vs [[kq44x1,kq44x1],[kq44x1,kq44x1],[kq44x1,kq44x1]] none,kp44 (0)]))),
([kq44x2,.int .u64 (1)],(.ifc 999999 (.tup [.vs [[kq44x1,kq44x1],[.vs [] (some 0),kq44x1]] none,kp44 (0)]))),
([kq44x2,.int .u64 (0)],(.ifc 999999 (.tup [.vs [[.vs [] (some 0),kq44x1],[.vs [] (some 0),kq44x1]] none,kp44 (0)]))),
([kq44x3,.int .u64 (4)],(.tup [.nils,kp44 (31)]))]
theorem k41R17p0_ok : allTrue (kIs k41T7 [] 100000 17) k41R17p0 = true := by decide +kernel
def k41R15p0 : List (List AV × AV) := [
([kq44x0,.int .u64 (9)],(.ifc 999999 (.tup [.vs [[.vs [] (some 0),kq44x1],[.vs [[.str [50]],[.str [45,49]]] (some 2),kq44x4],[.vs [[ko44],[ko44]] (some 2),kq44x4],[.vs [] (some 0),kq44x1]] none,kp44 (0)]))),
([kq44x0,.int .u64 (1)],(.tup [.nils,kp44 (4)])),
([.agg [.vs [[.vs [[kp44 (0),kq44x1,kq44x1]] (some 1)],[.vs [[kp44 (1),kq44x1,kq44x1]] (some 1)],[.vs [[kp44 (2),kq44x1,kq44x1]] (some 1)],[.vs [[kp44 (3),kq44x1,kq44x1]] (some 1)],[.vs [[kp44 (4),kq44x1,kq44x1]] (some 1)],[.vs [[kp44 (5),kq44x1,kq44x1]] (some 1)],[.vs [[kp44 (6),kq44x1,kq44x1]] (some 1)]] none,.vs [[.nils,kq44x1],[.nils,kq44x1],[.nils,kq44x1],[.nils,kq44x1],[.nils,kq44x1],[.nils,kq44x1],[.nils,kq44x1]] none],.int .u64 (512)],(.tup [.nils,kp44 (410)])),
([kq44x2,.int .u64 (4)],(.tup [.nils,kp44 (2)])),
([kq44x2,.int .u64 (0)],(.tup [.nils,kp44 (4)])),
([kq44x3,.int .u64 (4)],(.tup [.nils,kp44 (31)]))]
theorem k41R15p0_ok : allTrue (kIs k41T7 [] 100000 15) k41R15p0 = true := by decide +kernel
end
end Go.Abs

namespace Go.Abs
noncomputable section
open Go.Proofs

def k41T8 : List (FuncId × List (List AV × AV)) := (15, k41R15p0) :: (17, k41R17p0) :: k41T7
theorem k41T8_ok : TabHolds Tryz.prog k41T8 := (tab_cons k41T7_ok k41R15p0_ok (tab_cons k41T7_ok k41R17p0_ok k41T7_ok))
end
end Go.Abs

namespace Go.Abs
noncomputable section
open Go.Proofs
set_option maxRecDepth 1000000

theorem k41Law_ok : kIs k41T8 [] 100000 3 ([], .bool true) = true := by decide +kernel
theorem paramKnown_pure : PureSem Tryz.prog 3 [] (.bool true) := kIs_ok k41T8_ok k41Law_ok
end
end Go.Abs
