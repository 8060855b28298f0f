/-
  Steps to a law of this program: SK17L2P4, SK17L2P5, SK17L2P6, SK17J2.
  Conditions: none.
-/
import Derived.Test.YtogjgbipgnpggaaGreatDoorB32
import Derived.Test.YtogjgbipgnpggaaGreatDoorB33
set_option linter.unusedVariables false
set_option linter.unusedSimpArgs false
set_option linter.unusedSectionVars false
namespace Go.Abs
noncomputable section
open Go.Proofs
set_option maxRecDepth 1000000

def k17R60p0 : List (List AV × AV) := [
  ([(.vs [[(.vs [[(.str [49])]] (some 1))]] none), (.vs [[(.str [49, 47, 50])]] none)], (.ifc 999999 (.tup [(.vs [[(.str [49, 47, 50])]] none), (.int .i64 (0))]))),
  ([(.vs [[(.vs [[(.str [49])], [(.str [45, 49, 47, 50])]] (some 2))], [(.vs [[(.str [48])], [(.str [49])]] (some 2))]] none), (.vs [[(.str [48])], [(.str [49, 47, 50])]] none)], (.ifc 999999 (.tup [(.vs [[(.str [49, 47, 52])], [(.str [49, 47, 50])]] none), (.int .i64 (0))]))),
  ([(.vs [[(.vs [[(.str [49])], [(.str [45, 49, 47, 50])], [(.str [48])]] (some 3))], [(.vs [[(.str [48])], [(.str [49])], [(.str [45, 49, 47, 50])]] (some 3))], [(.vs [[(.str [48])], [(.str [48])], [(.str [49])]] (some 3))]] none), (.vs [[(.str [48])], [(.str [48])], [(.str [49, 47, 50])]] none)], (.ifc 999999 (.tup [(.vs [[(.str [49, 47, 56])], [(.str [49, 47, 52])], [(.str [49, 47, 50])]] none), (.int .i64 (0))]))),
  ([(.vs [[(.vs [[(.str [49])], [(.str [45, 49, 47, 50])], [(.str [48])], [(.str [48])]] (some 4))], [(.vs [[(.str [48])], [(.str [49])], [(.str [45, 49, 47, 50])], [(.str [48])]] (some 4))], [(.vs [[(.str [48])], [(.str [48])], [(.str [49])], [(.str [45, 49, 47, 50])]] (some 4))], [(.vs [[(.str [48])], [(.str [48])], [(.str [48])], [(.str [49])]] (some 4))]] none), (.vs [[(.str [48])], [(.str [48])], [(.str [48])], [(.str [49, 47, 50])]] none)], (.ifc 999999 (.tup [(.vs [[(.str [49, 47, 49, 54])], [(.str [49, 47, 56])], [(.str [49, 47, 52])], [(.str [49, 47, 50])]] none), (.int .i64 (0))]))),
  ([(.vs [[(.vs [[(.str [49])], [(.str [45, 49, 47, 50])], [(.str [48])], [(.str [48])], [(.str [48])]] (some 5))], [(.vs [[(.str [48])], [(.str [49])], [(.str [45, 49, 47, 50])], [(.str [48])], [(.str [48])]] (some 5))], [(.vs [[(.str [48])], [(.str [48])], [(.str [49])], [(.str [45, 49, 47, 50])], [(.str [48])]] (some 5))], [(.vs [[(.str [48])], [(.str [48])], [(.str [48])], [(.str [49])], [(.str [45, 49, 47, 50])]] (some 5))], [(.vs [[(.str [48])], [(.str [48])], [(.str [48])], [(.str [48])], [(.str [49])]] (some 5))]] none), (.vs [[(.str [48])], [(.str [48])], [(.str [48])], [(.str [48])], [(.str [49, 47, 50])]] none)], (.ifc 999999 (.tup [(.vs [[(.str [49, 47, 51, 50])], [(.str [49, 47, 49, 54])], [(.str [49, 47, 56])], [(.str [49, 47, 52])], [(.str [49, 47, 50])]] none), (.int .i64 (0))])))]
theorem k17R60p0_ok : allTrue (kIs k17T1 [] 100000 60) k17R60p0 = true := by decide +kernel
end
end Go.Abs

namespace Go.Abs
noncomputable section
open Go.Proofs
set_option maxRecDepth 1000000

def k17R60p2 : List (List AV × AV) := [
  ([(.vs [[(.vs [[(.str [49])], [(.str [45, 49, 47, 50])], [(.str [48])], [(.str [48])], [(.str [48])], [(.str [48])], [(.str [48])]] (some 7))], [(.vs [[(.str [48])], [(.str [49])], [(.str [45, 49, 47, 50])], [(.str [48])], [(.str [48])], [(.str [48])], [(.str [48])]] (some 7))], [(.vs [[(.str [48])], [(.str [48])], [(.str [49])], [(.str [45, 49, 47, 50])], [(.str [48])], [(.str [48])], [(.str [48])]] (some 7))], [(.vs [[(.str [48])], [(.str [48])], [(.str [48])], [(.str [49])], [(.str [45, 49, 47, 50])], [(.str [48])], [(.str [48])]] (some 7))], [(.vs [[(.str [48])], [(.str [48])], [(.str [48])], [(.str [48])], [(.str [49])], [(.str [45, 49, 47, 50])], [(.str [48])]] (some 7))], [(.vs [[(.str [48])], [(.str [48])], [(.str [48])], [(.str [48])], [(.str [48])], [(.str [49])], [(.str [45, 49, 47, 50])]] (some 7))], [(.vs [[(.str [48])], [(.str [48])], [(.str [48])], [(.str [48])], [(.str [48])], [(.str [48])], [(.str [49])]] (some 7))]] none), (.vs [[(.str [48])], [(.str [48])], [(.str [48])], [(.str [48])], [(.str [48])], [(.str [48])], [(.str [49, 47, 50])]] none)], (.ifc 999999 (.tup [(.vs [[(.str [49, 47, 49, 50, 56])], [(.str [49, 47, 54, 52])], [(.str [49, 47, 51, 50])], [(.str [49, 47, 49, 54])], [(.str [49, 47, 56])], [(.str [49, 47, 52])], [(.str [49, 47, 50])]] none), (.int .i64 (0))])))]
theorem k17R60p2_ok : allTrue (kIs k17T1 [] 100000 60) k17R60p2 = true := by decide +kernel
end
end Go.Abs

namespace Go.Abs
noncomputable section
open Go.Proofs
set_option maxRecDepth 1000000

def k17R60p7 : List (List AV × AV) := [
  ([(.vs [[(.vs [[(.str [49])], [(.str [48])]] (some 2))], [(.vs [[(.str [48])], [(.str [49])]] (some 2))]] none), (.vs [[(.str [49, 47, 50])], [(.str [49, 47, 50])]] none)], (.ifc 999999 (.tup [(.vs [[(.str [49, 47, 50])], [(.str [49, 47, 50])]] none), (.int .i64 (0))]))),
  ([(.vs [[(.vs [[(.str [49])], [(.str [48])]] (some 2))], [(.vs [[(.str [48])], [(.str [50, 47, 51])]] (some 2))]] none), (.vs [[(.str [49, 47, 50])], [(.str [50, 47, 51])]] none)], (.ifc 999999 (.tup [(.vs [[(.str [49, 47, 50])], [(.str [49])]] none), (.int .i64 (0))]))),
  ([(.vs [[(.vs [[(.str [49])], [(.str [45, 49])]] (some 2))], [(.vs [[(.str [48])], [(.str [50, 47, 51])]] (some 2))]] none), (.vs [[(.str [48])], [(.str [50, 47, 51])]] none)], (.ifc 999999 (.tup [(.vs [[(.str [49])], [(.str [49])]] none), (.int .i64 (0))]))),
  ([(.vs [[(.vs [[(.str [49])], [(.str [48])], [(.str [45, 49, 47, 50])]] (some 3))], [(.vs [[(.str [45, 49])], [(.str [49])], [(.str [48])]] (some 3))], [(.vs [[(.str [45, 49, 47, 50])], [(.str [48])], [(.str [49])]] (some 3))]] none), (.vs [[(.str [49, 47, 50])], [(.str [48])], [(.str [49, 47, 50])]] none)], (.ifc 999999 (.tup [(.vs [[(.str [49])], [(.str [49])], [(.str [49])]] none), (.int .i64 (0))]))),
  ([(.vs [[(.vs [[(.str [49])]] (some 1))]] none), (.vs [[(.str [49])]] none)], (.ifc 999999 (.tup [(.vs [[(.str [49])]] none), (.int .i64 (0))]))),
  ([(.vs [[(.vs [[(.str [49])], [(.str [48])]] (some 2))], [(.vs [[(.str [45, 49, 47, 50])], [(.str [49])]] (some 2))]] none), (.vs [[(.str [49])], [(.str [48])]] none)], (.ifc 999999 (.tup [(.vs [[(.str [49])], [(.str [49, 47, 50])]] none), (.int .i64 (0))])))]
theorem k17R60p7_ok : allTrue (kIs k17T1 [] 100000 60) k17R60p7 = true := by decide +kernel
def k17R60p1 : List (List AV × AV) := [
  ([(.vs [[(.vs [[(.str [49])], [(.str [45, 49, 47, 50])], [(.str [48])], [(.str [48])], [(.str [48])], [(.str [48])]] (some 6))], [(.vs [[(.str [48])], [(.str [49])], [(.str [45, 49, 47, 50])], [(.str [48])], [(.str [48])], [(.str [48])]] (some 6))], [(.vs [[(.str [48])], [(.str [48])], [(.str [49])], [(.str [45, 49, 47, 50])], [(.str [48])], [(.str [48])]] (some 6))], [(.vs [[(.str [48])], [(.str [48])], [(.str [48])], [(.str [49])], [(.str [45, 49, 47, 50])], [(.str [48])]] (some 6))], [(.vs [[(.str [48])], [(.str [48])], [(.str [48])], [(.str [48])], [(.str [49])], [(.str [45, 49, 47, 50])]] (some 6))], [(.vs [[(.str [48])], [(.str [48])], [(.str [48])], [(.str [48])], [(.str [48])], [(.str [49])]] (some 6))]] none), (.vs [[(.str [48])], [(.str [48])], [(.str [48])], [(.str [48])], [(.str [48])], [(.str [49, 47, 50])]] none)], (.ifc 999999 (.tup [(.vs [[(.str [49, 47, 54, 52])], [(.str [49, 47, 51, 50])], [(.str [49, 47, 49, 54])], [(.str [49, 47, 56])], [(.str [49, 47, 52])], [(.str [49, 47, 50])]] none), (.int .i64 (0))])))]
theorem k17R60p1_ok : allTrue (kIs k17T1 [] 100000 60) k17R60p1 = true := by decide +kernel
end
end Go.Abs

namespace Go.Abs
noncomputable section
open Go.Proofs

def k17T2 : List (FuncId × List (List AV × AV)) := (60, k17R60p0 ++ k17R60p1 ++ k17R60p2 ++ k17R60p3 ++ k17R60p4 ++ k17R60p5 ++ k17R60p6 ++ k17R60p7) :: (204, k17R204p0) :: k17T1
theorem k17T2_ok : TabHolds Tryz.prog k17T2 := (tab_cons k17T1_ok (allTrue_app (allTrue_app (allTrue_app (allTrue_app (allTrue_app (allTrue_app (allTrue_app k17R60p0_ok k17R60p1_ok) k17R60p2_ok) k17R60p3_ok) k17R60p4_ok) k17R60p5_ok) k17R60p6_ok) k17R60p7_ok) (tab_cons k17T1_ok k17R204p0_ok k17T1_ok))
end
end Go.Abs
