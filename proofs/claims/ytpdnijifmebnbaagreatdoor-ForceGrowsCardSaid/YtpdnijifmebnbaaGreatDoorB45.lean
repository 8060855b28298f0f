/-
  Steps to a law of this program: SK14L0P0, SK14J0, SK14L1P0, SK14J1, SK14L2P0, SK14J2.
  Conditions: none.
-/
import Derived.Test.YtpdnijifmebnbaaGreatDoorB27
set_option linter.unusedVariables false
set_option linter.unusedSimpArgs false
set_option linter.unusedSectionVars false
namespace Go.Abs
noncomputable section
open Go.Proofs
set_option maxRecDepth 1000000

def k14R101p0 : List (List AV × AV) := [
  ([(.str [48])], (.tup [(.int .i64 (0)), (.int .i64 (1)), (.bool true)])),
  ([(.str [49])], (.tup [(.int .i64 (1)), (.int .i64 (1)), (.bool true)])),
  ([(.str [49, 47, 50])], (.tup [(.int .i64 (1)), (.int .i64 (2)), (.bool true)]))]
theorem k14R101p0_ok : allTrue (kIs [] [] 100000 101) k14R101p0 = true := by decide +kernel
end
end Go.Abs

namespace Go.Abs
noncomputable section
open Go.Proofs

def k14T0 : List (FuncId × List (List AV × AV)) := (101, k14R101p0) :: []
theorem k14T0_ok : TabHolds Tryz.prog k14T0 := (tab_cons tab_nil k14R101p0_ok tab_nil)
end
end Go.Abs

namespace Go.Abs
noncomputable section
open Go.Proofs
set_option maxRecDepth 1000000

def k14R39p0 : List (List AV × AV) := [
  ([(.agg [(.vs [[(.int .i64 (0))], [(.int .i64 (1))], [(.int .i64 (0))], [(.int .i64 (0))]] (some 4)), (.vs [[(.vs [[(.str []), (.str [48]), (.vs [[(.int .i64 (1)), (.str [49])]] (some 1))], [(.str []), (.str [48]), (.vs [[(.int .i64 (0)), (.str [49, 47, 50])], [(.int .i64 (2)), (.str [49, 47, 50])]] (some 2))]] (some 2))], [(.vs [[(.str []), (.str [48]), (.vs [[(.int .i64 (0)), (.str [49])]] (some 1))], [(.str []), (.str [48]), (.vs [[(.int .i64 (3)), (.str [49])]] (some 1))]] (some 2))], [(.vs [[(.str []), (.str [48]), (.vs [[(.int .i64 (2)), (.str [49])]] (some 1))]] (some 1))], [(.vs [[(.str []), (.str [48]), (.vs [[(.int .i64 (3)), (.str [49])]] (some 1))]] (some 1))]] (some 4))])], (.int .i64 (0)))]
theorem k14R39p0_ok : allTrue (kIs k14T0 [] 100000 39) k14R39p0 = true := by decide +kernel
end
end Go.Abs

namespace Go.Abs
noncomputable section
open Go.Proofs

def k14T1 : List (FuncId × List (List AV × AV)) := (39, k14R39p0) :: k14T0
theorem k14T1_ok : TabHolds Tryz.prog k14T1 := (tab_cons k14T0_ok k14R39p0_ok k14T0_ok)
end
end Go.Abs

namespace Go.Abs
noncomputable section
open Go.Proofs
set_option maxRecDepth 1000000

def k14R22p0 : List (List AV × AV) := [
  ([(.agg [(.vs [[(.int .i64 (0))], [(.int .i64 (1))], [(.int .i64 (0))], [(.int .i64 (0))]] (some 4)), (.vs [[(.vs [[(.str []), (.str [48]), (.vs [[(.int .i64 (1)), (.str [49])]] (some 1))], [(.str []), (.str [48]), (.vs [[(.int .i64 (0)), (.str [49, 47, 50])], [(.int .i64 (2)), (.str [49, 47, 50])]] (some 2))]] (some 2))], [(.vs [[(.str []), (.str [48]), (.vs [[(.int .i64 (0)), (.str [49])]] (some 1))], [(.str []), (.str [48]), (.vs [[(.int .i64 (3)), (.str [49])]] (some 1))]] (some 2))], [(.vs [[(.str []), (.str [48]), (.vs [[(.int .i64 (2)), (.str [49])]] (some 1))]] (some 1))], [(.vs [[(.str []), (.str [48]), (.vs [[(.int .i64 (3)), (.str [49])]] (some 1))]] (some 1))]] (some 4))]), (.int .u64 (16)), (.int .i64 (0))], (.int .i64 (2))),
  ([(.agg [(.vs [[(.int .i64 (0))], [(.int .i64 (1))], [(.int .i64 (0))], [(.int .i64 (0))]] (some 4)), (.vs [[(.vs [[(.str []), (.str [48]), (.vs [[(.int .i64 (1)), (.str [49])]] (some 1))], [(.str []), (.str [48]), (.vs [[(.int .i64 (0)), (.str [49, 47, 50])], [(.int .i64 (2)), (.str [49, 47, 50])]] (some 2))]] (some 2))], [(.vs [[(.str []), (.str [48]), (.vs [[(.int .i64 (0)), (.str [49])]] (some 1))], [(.str []), (.str [48]), (.vs [[(.int .i64 (3)), (.str [49])]] (some 1))]] (some 2))], [(.vs [[(.str []), (.str [48]), (.vs [[(.int .i64 (2)), (.str [49])]] (some 1))]] (some 1))], [(.vs [[(.str []), (.str [48]), (.vs [[(.int .i64 (3)), (.str [49])]] (some 1))]] (some 1))]] (some 4))]), (.int .u64 (4)), (.int .i64 (2))], (.int .i64 (2))),
  ([(.agg [(.vs [[(.int .i64 (0))], [(.int .i64 (1))], [(.int .i64 (0))], [(.int .i64 (0))]] (some 4)), (.vs [[(.vs [[(.str []), (.str [48]), (.vs [[(.int .i64 (1)), (.str [49])]] (some 1))], [(.str []), (.str [48]), (.vs [[(.int .i64 (0)), (.str [49, 47, 50])], [(.int .i64 (2)), (.str [49, 47, 50])]] (some 2))]] (some 2))], [(.vs [[(.str []), (.str [48]), (.vs [[(.int .i64 (0)), (.str [49])]] (some 1))], [(.str []), (.str [48]), (.vs [[(.int .i64 (3)), (.str [49])]] (some 1))]] (some 2))], [(.vs [[(.str []), (.str [48]), (.vs [[(.int .i64 (2)), (.str [49])]] (some 1))]] (some 1))], [(.vs [[(.str []), (.str [48]), (.vs [[(.int .i64 (3)), (.str [49])]] (some 1))]] (some 1))]] (some 4))]), (.int .u64 (4)), (.int .i64 (0))], (.int .i64 (0))),
  ([(.agg [(.vs [[(.int .i64 (0))], [(.int .i64 (1))], [(.int .i64 (0))], [(.int .i64 (0))]] (some 4)), (.vs [[(.vs [[(.str []), (.str [48]), (.vs [[(.int .i64 (1)), (.str [49])]] (some 1))], [(.str []), (.str [48]), (.vs [[(.int .i64 (0)), (.str [49, 47, 50])], [(.int .i64 (2)), (.str [49, 47, 50])]] (some 2))]] (some 2))], [(.vs [[(.str []), (.str [48]), (.vs [[(.int .i64 (0)), (.str [49])]] (some 1))], [(.str []), (.str [48]), (.vs [[(.int .i64 (3)), (.str [49])]] (some 1))]] (some 2))], [(.vs [[(.str []), (.str [48]), (.vs [[(.int .i64 (2)), (.str [49])]] (some 1))]] (some 1))], [(.vs [[(.str []), (.str [48]), (.vs [[(.int .i64 (3)), (.str [49])]] (some 1))]] (some 1))]] (some 4))]), (.int .u64 (4)), (.int .i64 (1))], (.int .i64 (0))),
  ([(.agg [(.vs [[(.int .i64 (0))], [(.int .i64 (1))], [(.int .i64 (0))], [(.int .i64 (0))]] (some 4)), (.vs [[(.vs [[(.str []), (.str [48]), (.vs [[(.int .i64 (1)), (.str [49])]] (some 1))], [(.str []), (.str [48]), (.vs [[(.int .i64 (0)), (.str [49, 47, 50])], [(.int .i64 (2)), (.str [49, 47, 50])]] (some 2))]] (some 2))], [(.vs [[(.str []), (.str [48]), (.vs [[(.int .i64 (0)), (.str [49])]] (some 1))], [(.str []), (.str [48]), (.vs [[(.int .i64 (3)), (.str [49])]] (some 1))]] (some 2))], [(.vs [[(.str []), (.str [48]), (.vs [[(.int .i64 (2)), (.str [49])]] (some 1))]] (some 1))], [(.vs [[(.str []), (.str [48]), (.vs [[(.int .i64 (3)), (.str [49])]] (some 1))]] (some 1))]] (some 4))]), (.int .u64 (8)), (.int .i64 (0))], (.int .i64 (0))),
  ([(.agg [(.vs [[(.int .i64 (0))], [(.int .i64 (1))], [(.int .i64 (0))], [(.int .i64 (0))]] (some 4)), (.vs [[(.vs [[(.str []), (.str [48]), (.vs [[(.int .i64 (1)), (.str [49])]] (some 1))], [(.str []), (.str [48]), (.vs [[(.int .i64 (0)), (.str [49, 47, 50])], [(.int .i64 (2)), (.str [49, 47, 50])]] (some 2))]] (some 2))], [(.vs [[(.str []), (.str [48]), (.vs [[(.int .i64 (0)), (.str [49])]] (some 1))], [(.str []), (.str [48]), (.vs [[(.int .i64 (3)), (.str [49])]] (some 1))]] (some 2))], [(.vs [[(.str []), (.str [48]), (.vs [[(.int .i64 (2)), (.str [49])]] (some 1))]] (some 1))], [(.vs [[(.str []), (.str [48]), (.vs [[(.int .i64 (3)), (.str [49])]] (some 1))]] (some 1))]] (some 4))]), (.int .u64 (8)), (.int .i64 (1))], (.int .i64 (0))),
  ([(.agg [(.vs [[(.int .i64 (0))], [(.int .i64 (1))], [(.int .i64 (0))], [(.int .i64 (0))]] (some 4)), (.vs [[(.vs [[(.str []), (.str [48]), (.vs [[(.int .i64 (1)), (.str [49])]] (some 1))], [(.str []), (.str [48]), (.vs [[(.int .i64 (0)), (.str [49, 47, 50])], [(.int .i64 (2)), (.str [49, 47, 50])]] (some 2))]] (some 2))], [(.vs [[(.str []), (.str [48]), (.vs [[(.int .i64 (0)), (.str [49])]] (some 1))], [(.str []), (.str [48]), (.vs [[(.int .i64 (3)), (.str [49])]] (some 1))]] (some 2))], [(.vs [[(.str []), (.str [48]), (.vs [[(.int .i64 (2)), (.str [49])]] (some 1))]] (some 1))], [(.vs [[(.str []), (.str [48]), (.vs [[(.int .i64 (3)), (.str [49])]] (some 1))]] (some 1))]] (some 4))]), (.int .u64 (0)), (.int .i64 (0))], (.int .i64 (0))),
  ([(.agg [(.vs [[(.int .i64 (0))], [(.int .i64 (1))], [(.int .i64 (0))], [(.int .i64 (0))]] (some 4)), (.vs [[(.vs [[(.str []), (.str [48]), (.vs [[(.int .i64 (1)), (.str [49])]] (some 1))], [(.str []), (.str [48]), (.vs [[(.int .i64 (0)), (.str [49, 47, 50])], [(.int .i64 (2)), (.str [49, 47, 50])]] (some 2))]] (some 2))], [(.vs [[(.str []), (.str [48]), (.vs [[(.int .i64 (0)), (.str [49])]] (some 1))], [(.str []), (.str [48]), (.vs [[(.int .i64 (3)), (.str [49])]] (some 1))]] (some 2))], [(.vs [[(.str []), (.str [48]), (.vs [[(.int .i64 (2)), (.str [49])]] (some 1))]] (some 1))], [(.vs [[(.str []), (.str [48]), (.vs [[(.int .i64 (3)), (.str [49])]] (some 1))]] (some 1))]] (some 4))]), (.int .u64 (0)), (.int .i64 (1))], (.int .i64 (0))),
  ([(.agg [(.vs [[(.int .i64 (0))], [(.int .i64 (1))], [(.int .i64 (0))], [(.int .i64 (0))]] (some 4)), (.vs [[(.vs [[(.str []), (.str [48]), (.vs [[(.int .i64 (1)), (.str [49])]] (some 1))], [(.str []), (.str [48]), (.vs [[(.int .i64 (0)), (.str [49, 47, 50])], [(.int .i64 (2)), (.str [49, 47, 50])]] (some 2))]] (some 2))], [(.vs [[(.str []), (.str [48]), (.vs [[(.int .i64 (0)), (.str [49])]] (some 1))], [(.str []), (.str [48]), (.vs [[(.int .i64 (3)), (.str [49])]] (some 1))]] (some 2))], [(.vs [[(.str []), (.str [48]), (.vs [[(.int .i64 (2)), (.str [49])]] (some 1))]] (some 1))], [(.vs [[(.str []), (.str [48]), (.vs [[(.int .i64 (3)), (.str [49])]] (some 1))]] (some 1))]] (some 4))]), (.int .u64 (15)), (.int .i64 (1))], (.int .i64 (0))),
  ([(.agg [(.vs [[(.int .i64 (0))], [(.int .i64 (1))], [(.int .i64 (0))], [(.int .i64 (0))]] (some 4)), (.vs [[(.vs [[(.str []), (.str [48]), (.vs [[(.int .i64 (1)), (.str [49])]] (some 1))], [(.str []), (.str [48]), (.vs [[(.int .i64 (0)), (.str [49, 47, 50])], [(.int .i64 (2)), (.str [49, 47, 50])]] (some 2))]] (some 2))], [(.vs [[(.str []), (.str [48]), (.vs [[(.int .i64 (0)), (.str [49])]] (some 1))], [(.str []), (.str [48]), (.vs [[(.int .i64 (3)), (.str [49])]] (some 1))]] (some 2))], [(.vs [[(.str []), (.str [48]), (.vs [[(.int .i64 (2)), (.str [49])]] (some 1))]] (some 1))], [(.vs [[(.str []), (.str [48]), (.vs [[(.int .i64 (3)), (.str [49])]] (some 1))]] (some 1))]] (some 4))]), (.int .u64 (15)), (.int .i64 (0))], (.int .i64 (0)))]
theorem k14R22p0_ok : allTrue (kIs k14T1 [] 100000 22) k14R22p0 = true := by decide +kernel
end
end Go.Abs

namespace Go.Abs
noncomputable section
open Go.Proofs

def k14T2 : List (FuncId × List (List AV × AV)) := (22, k14R22p0) :: k14T1
theorem k14T2_ok : TabHolds Tryz.prog k14T2 := (tab_cons k14T1_ok k14R22p0_ok k14T1_ok)
end
end Go.Abs
