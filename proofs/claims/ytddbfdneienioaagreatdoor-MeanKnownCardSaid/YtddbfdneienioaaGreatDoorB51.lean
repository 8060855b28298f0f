/-
  Steps to a law of this program: SK20J5, SK20L6P0, SK20J6, SK20W.
  Conditions: none.
-/
import Derived.Test.YtddbfdneienioaaGreatDoorB47
import Derived.Test.YtddbfdneienioaaGreatDoorB48
import Derived.Test.YtddbfdneienioaaGreatDoorB49
import Derived.Test.YtddbfdneienioaaGreatDoorB50
set_option linter.unusedVariables false
set_option linter.unusedSimpArgs false
set_option linter.unusedSectionVars false
namespace Go.Abs
noncomputable section
open Go.Proofs
abbrev kp51 (n : Int) : AV := .int .i64 n
abbrev ke51 : AV := .str []
abbrev kz51 : AV := .str [48]
abbrev ko51 : AV := .str [49]
abbrev kh51 : AV := .str [49, 47, 50]

def k20T5 : List (FuncId × List (List AV × AV)) := (28, k20R28p0) :: (29, k20R29p0 ++ k20R29p1 ++ k20R29p2 ++ k20R29p3) :: k20T4
theorem k20T5_ok : TabHolds Tryz.prog k20T5 := (tab_cons k20T4_ok k20R28p0_ok (tab_cons k20T4_ok (allTrue_app (allTrue_app (allTrue_app k20R29p0_ok k20R29p1_ok) k20R29p2_ok) k20R29p3_ok) k20T4_ok))
end
end Go.Abs

namespace Go.Abs
noncomputable section
open Go.Proofs
set_option maxRecDepth 1000000

def k20R32p0 : List (List AV × AV) := [
([],(.bool true))]
theorem k20R32p0_ok : allTrue (kIs k20T5 [] 100000 32) k20R32p0 = true := by decide +kernel
end
end Go.Abs

namespace Go.Abs
noncomputable section
open Go.Proofs

def k20T6 : List (FuncId × List (List AV × AV)) := (32, k20R32p0) :: k20T5
theorem k20T6_ok : TabHolds Tryz.prog k20T6 := (tab_cons k20T5_ok k20R32p0_ok k20T5_ok)
end
end Go.Abs

namespace Go.Abs
noncomputable section
open Go.Proofs
set_option maxRecDepth 1000000

theorem k20Law_ok : kIs k20T6 [] 100000 5 ([], .bool true) = true := by decide +kernel
theorem meanKnown_pure : PureSem Tryz.prog 5 [] (.bool true) := kIs_ok k20T6_ok k20Law_ok
end
end Go.Abs
