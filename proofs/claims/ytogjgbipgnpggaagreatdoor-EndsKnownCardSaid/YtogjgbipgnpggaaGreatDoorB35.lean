/-
  Steps to a law of this program: SK15L4P1, SK15L4P2, SK15J4.
  Conditions: none.
-/
import Derived.Test.YtogjgbipgnpggaaGreatDoorB34
set_option linter.unusedVariables false
set_option linter.unusedSimpArgs false
set_option linter.unusedSectionVars false
namespace Go.Abs
noncomputable section
open Go.Proofs
set_option maxRecDepth 1000000

def k15R31p2 : List (List AV × AV) := [
  ([(.agg [(.vs [[(.int .i64 (0))], [(.int .i64 (0))], [(.int .i64 (0))], [(.int .i64 (0))]] (some 4)), (.vs [[(.vs [[(.str []), (.str [48]), (.vs [[(.int .i64 (1)), (.str [49])]] (some 1))], [(.str []), (.str [48]), (.vs [[(.int .i64 (2)), (.str [49, 47, 50])], [(.int .i64 (3)), (.str [49, 47, 50])]] (some 2))]] (some 2))], [(.vs [[(.str []), (.str [48]), (.vs [[(.int .i64 (0)), (.str [49])]] (some 1))], [(.str []), (.str [48]), (.vs [[(.int .i64 (1)), (.str [49, 47, 51])], [(.int .i64 (2)), (.str [50, 47, 51])]] (some 2))]] (some 2))], [(.vs [[(.str []), (.str [52]), (.vs [[(.int .i64 (2)), (.str [49])]] (some 1))], [(.str []), (.str [48]), (.vs [[(.int .i64 (0)), (.str [49, 47, 50])], [(.int .i64 (3)), (.str [49, 47, 50])]] (some 2))]] (some 2))], [(.vs [[(.str []), (.str [48]), (.vs [[(.int .i64 (3)), (.str [49])]] (some 1))]] (some 1))]] (some 4))]), (.int .u64 (13))], (.ifc 999999 (.tup [(.vs [[(.int .u64 (4)), (.vs [[(.int .u64 (1))]] none)], [(.int .u64 (8)), (.vs [[(.int .u64 (1))]] none)]] none), (.int .i64 (0))]))),
  ([(.agg [(.vs [[(.int .i64 (0))], [(.int .i64 (0))], [(.int .i64 (0))], [(.int .i64 (0))]] (some 4)), (.vs [[(.vs [[(.str []), (.str [48]), (.vs [[(.int .i64 (1)), (.str [49])]] (some 1))], [(.str []), (.str [48]), (.vs [[(.int .i64 (2)), (.str [49, 47, 50])], [(.int .i64 (3)), (.str [49, 47, 50])]] (some 2))]] (some 2))], [(.vs [[(.str []), (.str [48]), (.vs [[(.int .i64 (0)), (.str [49])]] (some 1))], [(.str []), (.str [48]), (.vs [[(.int .i64 (1)), (.str [49, 47, 51])], [(.int .i64 (2)), (.str [50, 47, 51])]] (some 2))]] (some 2))], [(.vs [[(.str []), (.str [52]), (.vs [[(.int .i64 (2)), (.str [49])]] (some 1))], [(.str []), (.str [48]), (.vs [[(.int .i64 (0)), (.str [49, 47, 50])], [(.int .i64 (3)), (.str [49, 47, 50])]] (some 2))]] (some 2))], [(.vs [[(.str []), (.str [48]), (.vs [[(.int .i64 (3)), (.str [49])]] (some 1))]] (some 1))]] (some 4))]), (.int .u64 (1))], (.tup [.nils, (.int .i64 (0))])),
  ([(.agg [(.vs [[(.int .i64 (0))], [(.int .i64 (0))], [(.int .i64 (0))], [(.int .i64 (0))]] (some 4)), (.vs [[(.vs [[(.str []), (.str [48]), (.vs [[(.int .i64 (1)), (.str [49])]] (some 1))], [(.str []), (.str [48]), (.vs [[(.int .i64 (2)), (.str [49, 47, 50])], [(.int .i64 (3)), (.str [49, 47, 50])]] (some 2))]] (some 2))], [(.vs [[(.str []), (.str [48]), (.vs [[(.int .i64 (0)), (.str [49])]] (some 1))], [(.str []), (.str [48]), (.vs [[(.int .i64 (1)), (.str [49, 47, 51])], [(.int .i64 (2)), (.str [50, 47, 51])]] (some 2))]] (some 2))], [(.vs [[(.str []), (.str [52]), (.vs [[(.int .i64 (2)), (.str [49])]] (some 1))], [(.str []), (.str [48]), (.vs [[(.int .i64 (0)), (.str [49, 47, 50])], [(.int .i64 (3)), (.str [49, 47, 50])]] (some 2))]] (some 2))], [(.vs [[(.str []), (.str [48]), (.vs [[(.int .i64 (3)), (.str [49])]] (some 1))]] (some 1))]] (some 4))]), (.int .u64 (16))], (.tup [.nils, (.int .i64 (2))]))]
theorem k15R31p2_ok : allTrue (kIs k15T3 [23] 100000 31) k15R31p2 = true := by decide +kernel
end
end Go.Abs

namespace Go.Abs
noncomputable section
open Go.Proofs
set_option maxRecDepth 1000000

def k15R31p3 : List (List AV × AV) := [
  ([(.agg [(.vs [[(.int .i64 (0))], [(.int .i64 (0))], [(.int .i64 (0))], [(.int .i64 (0))]] (some 4)), (.vs [[(.vs [[(.str []), (.str [48]), (.vs [[(.int .i64 (1)), (.str [49])]] (some 1))], [(.str []), (.str [48]), (.vs [[(.int .i64 (2)), (.str [49, 47, 50])], [(.int .i64 (3)), (.str [49, 47, 50])]] (some 2))]] (some 2))], [(.vs [[(.str []), (.str [48]), (.vs [[(.int .i64 (0)), (.str [49])]] (some 1))], [(.str []), (.str [48]), (.vs [[(.int .i64 (1)), (.str [49, 47, 51])], [(.int .i64 (2)), (.str [50, 47, 51])]] (some 2))]] (some 2))], [(.vs [[(.str []), (.str [52]), (.vs [[(.int .i64 (2)), (.str [49])]] (some 1))], [(.str []), (.str [48]), (.vs [[(.int .i64 (0)), (.str [49, 47, 50])], [(.int .i64 (3)), (.str [49, 47, 50])]] (some 2))]] (some 2))], [(.vs [[(.str []), (.str [48]), (.vs [[(.int .i64 (3)), (.str [49])]] (some 1))]] (some 1))]] (some 4))]), (.int .u64 (7))], (.ifc 999999 (.tup [(.vs [[(.int .u64 (3)), (.vs [[(.int .u64 (1))], [(.int .u64 (1))]] none)], [(.int .u64 (4)), (.vs [[(.int .u64 (1))]] none)]] none), (.int .i64 (0))])))]
theorem k15R31p3_ok : allTrue (kIs k15T3 [23] 100000 31) k15R31p3 = true := by decide +kernel
def k15R31p0 : List (List AV × AV) := [
  ([(.agg [(.vs [[(.int .i64 (1))], [(.int .i64 (0))], [(.int .i64 (0))], [(.int .i64 (0))]] (some 4)), (.vs [[(.vs [[(.str []), (.str [48]), (.vs [[(.int .i64 (1)), (.str [49])]] (some 1))], [(.str []), (.str [48]), (.vs [[(.int .i64 (2)), (.str [49, 47, 50])], [(.int .i64 (3)), (.str [49, 47, 50])]] (some 2))]] (some 2))], [(.vs [[(.str []), (.str [48]), (.vs [[(.int .i64 (0)), (.str [49])]] (some 1))], [(.str []), (.str [48]), (.vs [[(.int .i64 (1)), (.str [49, 47, 51])], [(.int .i64 (2)), (.str [50, 47, 51])]] (some 2))]] (some 2))], [(.vs [[(.str []), (.str [52]), (.vs [[(.int .i64 (2)), (.str [49])]] (some 1))], [(.str []), (.str [48]), (.vs [[(.int .i64 (0)), (.str [49, 47, 50])], [(.int .i64 (3)), (.str [49, 47, 50])]] (some 2))]] (some 2))], [(.vs [[(.str []), (.str [48]), (.vs [[(.int .i64 (3)), (.str [49])]] (some 1))]] (some 1))]] (some 4))]), (.int .u64 (512))], (.tup [.nils, (.int .i64 (111))])),
  ([(.agg [(.vs [[(.int .i64 (0))], [(.int .i64 (0))], [(.int .i64 (0))]] (some 3)), (.vs [[(.vs [[(.str []), (.str [48]), (.vs [[(.int .i64 (1)), (.str [49])]] (some 1))], [(.str []), (.str [48]), (.vs [[(.int .i64 (2)), (.str [49])]] (some 1))], [(.str []), (.str [48]), (.vs [[(.int .i64 (0)), (.str [49, 47, 50])], [(.int .i64 (2)), (.str [49, 47, 50])]] (some 2))]] (some 3))], [(.vs [[(.str []), (.str [48]), (.vs [[(.int .i64 (0)), (.str [49])]] (some 1))], [(.str []), (.str [48]), (.vs [[(.int .i64 (2)), (.str [49])]] (some 1))], [(.str []), (.str [48]), (.vs [[(.int .i64 (1)), (.str [49, 47, 52])], [(.int .i64 (2)), (.str [51, 47, 52])]] (some 2))]] (some 3))], [(.vs [[(.str []), (.str [48]), (.vs [[(.int .i64 (2)), (.str [49])]] (some 1))]] (some 1))]] (some 3))]), (.int .u64 (3))], (.ifc 999999 (.tup [(.vs [[(.int .u64 (3)), (.vs [[(.int .u64 (1))], [(.int .u64 (1))]] none)]] none), (.int .i64 (0))]))),
  ([(.agg [(.vs [[(.int .i64 (0))], [(.int .i64 (0))], [(.int .i64 (0))]] (some 3)), (.vs [[(.vs [[(.str []), (.str [48]), (.vs [[(.int .i64 (1)), (.str [49])]] (some 1))], [(.str []), (.str [48]), (.vs [[(.int .i64 (2)), (.str [49])]] (some 1))], [(.str []), (.str [48]), (.vs [[(.int .i64 (0)), (.str [49, 47, 50])], [(.int .i64 (2)), (.str [49, 47, 50])]] (some 2))]] (some 3))], [(.vs [[(.str []), (.str [48]), (.vs [[(.int .i64 (0)), (.str [49])]] (some 1))], [(.str []), (.str [48]), (.vs [[(.int .i64 (2)), (.str [49])]] (some 1))], [(.str []), (.str [48]), (.vs [[(.int .i64 (1)), (.str [49, 47, 52])], [(.int .i64 (2)), (.str [51, 47, 52])]] (some 2))], [(.str []), (.str [48]), (.vs [[(.int .i64 (0)), (.str [49, 47, 52])], [(.int .i64 (1)), (.str [49, 47, 52])], [(.int .i64 (2)), (.str [49, 47, 50])]] (some 3))]] none)], [(.vs [[(.str []), (.str [48]), (.vs [[(.int .i64 (2)), (.str [49])]] (some 1))]] (some 1))]] (some 3))]), (.int .u64 (3))], (.ifc 999999 (.tup [(.vs [[(.int .u64 (3)), (.vs [[(.int .u64 (1))], [(.int .u64 (1))]] none)]] none), (.int .i64 (0))]))),
  ([(.agg [(.vs [[(.int .i64 (0))], [(.int .i64 (0))], [(.int .i64 (0))]] (some 3)), (.vs [[(.vs [[(.str []), (.str [48]), (.vs [[(.int .i64 (1)), (.str [49])]] (some 1))], [(.str []), (.str [48]), (.vs [[(.int .i64 (2)), (.str [49])]] (some 1))], [(.str []), (.str [48]), (.vs [[(.int .i64 (0)), (.str [49, 47, 50])], [(.int .i64 (2)), (.str [49, 47, 50])]] (some 2))]] (some 3))], [(.vs [[(.str []), (.str [48]), (.vs [[(.int .i64 (0)), (.str [49])]] (some 1))], [(.str []), (.str [48]), (.vs [[(.int .i64 (2)), (.str [49])]] (some 1))], [(.str []), (.str [48]), (.vs [[(.int .i64 (1)), (.str [49, 47, 52])], [(.int .i64 (2)), (.str [51, 47, 52])]] (some 2))], [(.str []), (.str [48]), (.vs [[(.int .i64 (0)), (.str [49, 47, 52])], [(.int .i64 (1)), (.str [49, 47, 52])], [(.int .i64 (2)), (.str [49, 47, 50])]] (some 3))]] none)], [(.vs [[(.str []), (.str [48]), (.vs [[(.int .i64 (2)), (.str [49])]] (some 1))]] (some 1))]] (some 3))]), (.int .u64 (0))], (.tup [.nils, (.int .i64 (0))]))]
theorem k15R31p0_ok : allTrue (kIs k15T3 [23] 100000 31) k15R31p0 = true := by decide +kernel
end
end Go.Abs

namespace Go.Abs
noncomputable section
open Go.Proofs

def k15T4 : List (FuncId × List (List AV × AV)) := (31, k15R31p0 ++ k15R31p1 ++ k15R31p2 ++ k15R31p3) :: k15T3
theorem k15T4_ok : TabHolds Tryz.prog k15T4 := (tab_cons k15T3_ok (allTrue_app (allTrue_app (allTrue_app k15R31p0_ok k15R31p1_ok) k15R31p2_ok) k15R31p3_ok) k15T3_ok)
end
end Go.Abs
