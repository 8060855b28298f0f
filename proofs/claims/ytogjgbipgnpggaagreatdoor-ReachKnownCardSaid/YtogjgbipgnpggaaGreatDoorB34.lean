/-
  Steps to a law of this program: SK16J2, SK16L3P0, SK16J3.
  Conditions: none.
-/
import Derived.Test.YtogjgbipgnpggaaGreatDoorB33
set_option linter.unusedVariables false
set_option linter.unusedSimpArgs false
set_option linter.unusedSectionVars false
namespace Go.Abs
noncomputable section
open Go.Proofs

def k16T2 : List (FuncId × List (List AV × AV)) := (60, k16R60p0 ++ k16R60p1) :: (204, k16R204p0) :: k16T1
theorem k16T2_ok : TabHolds Tryz.prog k16T2 := (tab_cons k16T1_ok (allTrue_app k16R60p0_ok k16R60p1_ok) (tab_cons k16T1_ok k16R204p0_ok k16T1_ok))
end
end Go.Abs

namespace Go.Abs
noncomputable section
open Go.Proofs
set_option maxRecDepth 1000000

def k16R44p0 : List (List AV × AV) := [
  ([(.agg [(.vs [[(.int .i64 (0))], [(.int .i64 (0))], [(.int .i64 (0))], [(.int .i64 (0))], [(.int .i64 (0))], [(.int .i64 (0))], [(.int .i64 (0))], [(.int .i64 (0))], [(.int .i64 (0))], [(.int .i64 (0))], [(.int .i64 (0))], [(.int .i64 (0))]] (some 12)), (.vs [[(.vs [[(.str []), (.str [48]), (.vs [[(.int .i64 (0)), (.str [49])]] (some 1))]] (some 1))], [(.vs [[(.str []), (.str [48]), (.vs [[(.int .i64 (0)), (.str [49, 47, 51])], [(.int .i64 (2)), (.str [50, 47, 51])]] (some 2))]] (some 1))], [(.vs [[(.str []), (.str [48]), (.vs [[(.int .i64 (1)), (.str [49, 47, 51])], [(.int .i64 (3)), (.str [50, 47, 51])]] (some 2))]] (some 1))], [(.vs [[(.str []), (.str [48]), (.vs [[(.int .i64 (2)), (.str [49, 47, 51])], [(.int .i64 (4)), (.str [50, 47, 51])]] (some 2))]] (some 1))], [(.vs [[(.str []), (.str [48]), (.vs [[(.int .i64 (3)), (.str [49, 47, 51])], [(.int .i64 (5)), (.str [50, 47, 51])]] (some 2))]] (some 1))], [(.vs [[(.str []), (.str [48]), (.vs [[(.int .i64 (4)), (.str [49, 47, 51])], [(.int .i64 (6)), (.str [50, 47, 51])]] (some 2))]] (some 1))], [(.vs [[(.str []), (.str [48]), (.vs [[(.int .i64 (5)), (.str [49, 47, 51])], [(.int .i64 (7)), (.str [50, 47, 51])]] (some 2))]] (some 1))], [(.vs [[(.str []), (.str [48]), (.vs [[(.int .i64 (6)), (.str [49, 47, 51])], [(.int .i64 (8)), (.str [50, 47, 51])]] (some 2))]] (some 1))], [(.vs [[(.str []), (.str [48]), (.vs [[(.int .i64 (7)), (.str [49, 47, 51])], [(.int .i64 (9)), (.str [50, 47, 51])]] (some 2))]] (some 1))], [(.vs [[(.str []), (.str [48]), (.vs [[(.int .i64 (8)), (.str [49, 47, 51])], [(.int .i64 (10)), (.str [50, 47, 51])]] (some 2))]] (some 1))], [(.vs [[(.str []), (.str [48]), (.vs [[(.int .i64 (9)), (.str [49, 47, 51])], [(.int .i64 (11)), (.str [50, 47, 51])]] (some 2))]] (some 1))], [(.vs [[(.str []), (.str [48]), (.vs [[(.int .i64 (11)), (.str [49])]] (some 1))]] (some 1))]] none)])], (.int .i64 (0))),
  ([(.agg [(.vs [[(.int .i64 (0))], [(.int .i64 (1))], [(.int .i64 (0))], [(.int .i64 (1))], [(.int .i64 (0))]] (some 5)), (.vs [[(.vs [[(.str []), (.str [48]), (.vs [[(.int .i64 (1)), (.str [49, 47, 50])], [(.int .i64 (3)), (.str [49, 47, 50])]] none)], [(.str []), (.str [48]), (.vs [[(.int .i64 (1)), (.str [49, 47, 50])], [(.int .i64 (3)), (.str [49, 47, 50])]] none)]] none)], [(.vs [[(.str []), (.str [48]), (.vs [[(.int .i64 (0)), (.str [49, 47, 51])], [(.int .i64 (2)), (.str [49, 47, 51])], [(.int .i64 (4)), (.str [49, 47, 51])]] none)]] (some 1))], [(.vs [[(.str []), (.str [48]), (.vs [[(.int .i64 (2)), (.str [49])]] none)]] (some 1))], [(.vs [[(.str []), (.str [48]), (.vs [[(.int .i64 (3)), (.str [49])]] none)]] (some 1))], [(.vs [[(.str []), (.str [48]), (.vs [[(.int .i64 (4)), (.str [49])]] none)]] (some 1))]] (some 5))])], (.int .i64 (0))),
  ([(.agg [.nils, .nils])], (.int .i64 (110))),
  ([(.agg [(.vs [[(.int .i64 (0))], [(.int .i64 (1))], [(.int .i64 (0))], [(.int .i64 (1))], [(.int .i64 (0))]] (some 5)), (.vs [[(.vs [[(.str []), (.str [48]), (.vs [[(.int .i64 (1)), (.str [49, 47, 50])], [(.int .i64 (3)), (.str [49, 47, 50])]] none)]] (some 1))], [(.vs [[(.str []), (.str [48]), (.vs [[(.int .i64 (0)), (.str [49, 47, 51])], [(.int .i64 (2)), (.str [49, 47, 51])], [(.int .i64 (4)), (.str [49, 47, 51])]] none)]] (some 1))], [(.vs [[(.str []), (.str [48]), (.vs [[(.int .i64 (2)), (.str [49])]] none)]] (some 1))], [(.vs [[(.str []), (.str [48]), (.vs [[(.int .i64 (3)), (.str [49])]] none)]] (some 1))], [(.vs [[(.str []), (.str [48]), (.vs [[(.int .i64 (4)), (.str [49])]] none)]] (some 1))]] (some 5))])], (.int .i64 (0))),
  ([(.agg [(.vs [[(.int .i64 (0))], [(.int .i64 (0))], [(.int .i64 (0))]] (some 3)), (.vs [[(.vs [[(.str []), (.str [48]), (.vs [[(.int .i64 (0)), (.str [57, 57, 57, 55, 47, 57, 57, 57, 57])], [(.int .i64 (1)), (.str [49, 47, 57, 57, 57, 57])], [(.int .i64 (2)), (.str [49, 47, 57, 57, 57, 57])]] (some 3))]] (some 1))], [(.vs [[(.str []), (.str [48]), (.vs [[(.int .i64 (1)), (.str [49])]] none)]] (some 1))], [(.vs [[(.str []), (.str [48]), (.vs [[(.int .i64 (2)), (.str [49])]] none)]] (some 1))]] (some 3))])], (.int .i64 (0)))]
theorem k16R44p0_ok : allTrue (kIs k16T2 [] 100000 44) k16R44p0 = true := by decide +kernel
end
end Go.Abs

namespace Go.Abs
noncomputable section
open Go.Proofs

def k16T3 : List (FuncId × List (List AV × AV)) := (44, k16R44p0) :: k16T2
theorem k16T3_ok : TabHolds Tryz.prog k16T3 := (tab_cons k16T2_ok k16R44p0_ok k16T2_ok)
end
end Go.Abs
