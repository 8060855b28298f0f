/-
  Steps to a law of this program: SK15J1, SK15L2P0, SK15J2.
  Conditions: none.
-/
import Derived.Test.YtogjgbipgnpggaaGreatDoorB32
set_option linter.unusedVariables false
set_option linter.unusedSimpArgs false
set_option linter.unusedSectionVars false
namespace Go.Abs
noncomputable section
open Go.Proofs

def k15T1 : List (FuncId × List (List AV × AV)) := (254, k15R254p0) :: (255, k15R255p0) :: k15T0
theorem k15T1_ok : TabHolds Tryz.prog k15T1 := (tab_cons k15T0_ok k15R254p0_ok (tab_cons k15T0_ok k15R255p0_ok k15T0_ok))
end
end Go.Abs

namespace Go.Abs
noncomputable section
open Go.Proofs
set_option maxRecDepth 1000000

def k15R204p0 : List (List AV × AV) := [
  ([(.str [48])], (.tup [(.int .i64 (0)), (.int .i64 (1)), (.bool true)])),
  ([(.str [52])], (.tup [(.int .i64 (4)), (.int .i64 (1)), (.bool true)])),
  ([(.str [49])], (.tup [(.int .i64 (1)), (.int .i64 (1)), (.bool true)])),
  ([(.str [49, 47, 50])], (.tup [(.int .i64 (1)), (.int .i64 (2)), (.bool true)])),
  ([(.str [49, 47, 51])], (.tup [(.int .i64 (1)), (.int .i64 (3)), (.bool true)])),
  ([(.str [50, 47, 51])], (.tup [(.int .i64 (2)), (.int .i64 (3)), (.bool true)])),
  ([(.str [49, 47, 52])], (.tup [(.int .i64 (1)), (.int .i64 (4)), (.bool true)])),
  ([(.str [51, 47, 52])], (.tup [(.int .i64 (3)), (.int .i64 (4)), (.bool true)]))]
theorem k15R204p0_ok : allTrue (kIs k15T1 [23] 100000 204) k15R204p0 = true := by decide +kernel
end
end Go.Abs

namespace Go.Abs
noncomputable section
open Go.Proofs

def k15T2 : List (FuncId × List (List AV × AV)) := (204, k15R204p0) :: k15T1
theorem k15T2_ok : TabHolds Tryz.prog k15T2 := (tab_cons k15T1_ok k15R204p0_ok k15T1_ok)
end
end Go.Abs
