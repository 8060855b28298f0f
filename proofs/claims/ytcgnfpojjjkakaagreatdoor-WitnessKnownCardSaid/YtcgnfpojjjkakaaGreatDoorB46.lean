/-
  Steps to a law of this program: SK29L7P0, SK29J7, SK29W.
  Conditions: none.
-/
import Derived.Test.YtcgnfpojjjkakaaGreatDoorB45
set_option linter.unusedVariables false
set_option linter.unusedSimpArgs false
set_option linter.unusedSectionVars false
namespace Go.Abs
noncomputable section
open Go.Proofs
abbrev kp46 (n : Int) : AV := .int .i64 n
abbrev ke46 : AV := .str []
abbrev kz46 : AV := .str [48]
abbrev ko46 : AV := .str [49]
abbrev kh46 : AV := .str [49, 47, 50]
set_option maxRecDepth 1000000

def k29R18p0 : List (List AV × AV) := [
([],(.bool true))]
theorem k29R18p0_ok : allTrue (kIs k29T6 [40] 100000 18) k29R18p0 = true := by decide +kernel
end
end Go.Abs

namespace Go.Abs
noncomputable section
open Go.Proofs

def k29T7 : List (FuncId × List (List AV × AV)) := (18, k29R18p0) :: k29T6
theorem k29T7_ok : TabHolds Tryz.prog k29T7 := (tab_cons k29T6_ok k29R18p0_ok k29T6_ok)
end
end Go.Abs

namespace Go.Abs
noncomputable section
open Go.Proofs
set_option maxRecDepth 1000000

theorem k29Law_ok : kIs k29T7 [40] 100000 4 ([], .bool true) = true := by decide +kernel
theorem witnessKnown_pure : PureSem Tryz.prog 4 [] (.bool true) := kIs_ok k29T7_ok k29Law_ok
end
end Go.Abs
