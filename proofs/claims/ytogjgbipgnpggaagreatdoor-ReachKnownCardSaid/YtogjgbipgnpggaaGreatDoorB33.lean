/-
  Steps to a law of this program: SK16J1, SK16L2P0, SK16L2P1.
  Conditions: none.
-/
import Derived.Test.YtogjgbipgnpggaaGreatDoorB32
set_option linter.unusedVariables false
set_option linter.unusedSimpArgs false
set_option linter.unusedSectionVars false
namespace Go.Abs
noncomputable section
open Go.Proofs

def k16T1 : List (FuncId × List (List AV × AV)) := (166, k16R166p0) :: (254, k16R254p0) :: (255, k16R255p0) :: k16T0
theorem k16T1_ok : TabHolds Tryz.prog k16T1 := (tab_cons k16T0_ok k16R166p0_ok (tab_cons k16T0_ok k16R254p0_ok (tab_cons k16T0_ok k16R255p0_ok k16T0_ok)))
end
end Go.Abs

namespace Go.Abs
noncomputable section
open Go.Proofs
set_option maxRecDepth 1000000

def k16R60p0 : List (List AV × AV) := [
  ([(.vs [[(.vs [[(.str [49])], [(.str [45, 50, 47, 51])], [(.str [48])], [(.str [48])], [(.str [48])], [(.str [48])], [(.str [48])], [(.str [48])], [(.str [48])], [(.str [48])]] (some 10))], [(.vs [[(.str [45, 49, 47, 51])], [(.str [49])], [(.str [45, 50, 47, 51])], [(.str [48])], [(.str [48])], [(.str [48])], [(.str [48])], [(.str [48])], [(.str [48])], [(.str [48])]] (some 10))], [(.vs [[(.str [48])], [(.str [45, 49, 47, 51])], [(.str [49])], [(.str [45, 50, 47, 51])], [(.str [48])], [(.str [48])], [(.str [48])], [(.str [48])], [(.str [48])], [(.str [48])]] (some 10))], [(.vs [[(.str [48])], [(.str [48])], [(.str [45, 49, 47, 51])], [(.str [49])], [(.str [45, 50, 47, 51])], [(.str [48])], [(.str [48])], [(.str [48])], [(.str [48])], [(.str [48])]] (some 10))], [(.vs [[(.str [48])], [(.str [48])], [(.str [48])], [(.str [45, 49, 47, 51])], [(.str [49])], [(.str [45, 50, 47, 51])], [(.str [48])], [(.str [48])], [(.str [48])], [(.str [48])]] (some 10))], [(.vs [[(.str [48])], [(.str [48])], [(.str [48])], [(.str [48])], [(.str [45, 49, 47, 51])], [(.str [49])], [(.str [45, 50, 47, 51])], [(.str [48])], [(.str [48])], [(.str [48])]] (some 10))], [(.vs [[(.str [48])], [(.str [48])], [(.str [48])], [(.str [48])], [(.str [48])], [(.str [45, 49, 47, 51])], [(.str [49])], [(.str [45, 50, 47, 51])], [(.str [48])], [(.str [48])]] (some 10))], [(.vs [[(.str [48])], [(.str [48])], [(.str [48])], [(.str [48])], [(.str [48])], [(.str [48])], [(.str [45, 49, 47, 51])], [(.str [49])], [(.str [45, 50, 47, 51])], [(.str [48])]] (some 10))], [(.vs [[(.str [48])], [(.str [48])], [(.str [48])], [(.str [48])], [(.str [48])], [(.str [48])], [(.str [48])], [(.str [45, 49, 47, 51])], [(.str [49])], [(.str [45, 50, 47, 51])]] (some 10))], [(.vs [[(.str [48])], [(.str [48])], [(.str [48])], [(.str [48])], [(.str [48])], [(.str [48])], [(.str [48])], [(.str [48])], [(.str [45, 49, 47, 51])], [(.str [49])]] (some 10))]] none), (.vs [[(.str [48])], [(.str [48])], [(.str [48])], [(.str [48])], [(.str [48])], [(.str [48])], [(.str [48])], [(.str [48])], [(.str [48])], [(.str [50, 47, 51])]] none)], (.ifc 999999 (.tup [(.vs [[(.str [49, 48, 50, 52, 47, 50, 48, 52, 55])], [(.str [49, 53, 51, 54, 47, 50, 48, 52, 55])], [(.str [49, 55, 57, 50, 47, 50, 48, 52, 55])], [(.str [49, 57, 50, 48, 47, 50, 48, 52, 55])], [(.str [49, 57, 56, 52, 47, 50, 48, 52, 55])], [(.str [50, 48, 49, 54, 47, 50, 48, 52, 55])], [(.str [50, 48, 51, 50, 47, 50, 48, 52, 55])], [(.str [50, 48, 52, 48, 47, 50, 48, 52, 55])], [(.str [50, 48, 52, 52, 47, 50, 48, 52, 55])], [(.str [50, 48, 52, 54, 47, 50, 48, 52, 55])]] none), (.int .i64 (0))])))]
theorem k16R60p0_ok : allTrue (kIs k16T1 [] 100000 60) k16R60p0 = true := by decide +kernel
end
end Go.Abs

namespace Go.Abs
noncomputable section
open Go.Proofs
set_option maxRecDepth 1000000

def k16R60p1 : List (List AV × AV) := [
  ([(.vs [[(.vs [[(.str [50, 47, 57, 57, 57, 57])]] (some 1))]] none), (.vs [[(.str [49, 47, 57, 57, 57, 57])]] none)], (.ifc 999999 (.tup [(.vs [[(.str [49, 47, 50])]] none), (.int .i64 (0))]))),
  ([(.vs [[(.vs [[(.str [49])], [(.str [45, 49, 47, 50])]] (some 2))], [(.vs [[(.str [45, 49, 47, 51])], [(.str [49])]] (some 2))]] none), (.vs [[(.str [48])], [(.str [49, 47, 51])]] none)], (.ifc 999999 (.tup [(.vs [[(.str [49, 47, 53])], [(.str [50, 47, 53])]] none), (.int .i64 (0))]))),
  ([(.vs [[(.vs [[(.str [49])], [(.str [45, 49, 47, 50])]] (some 2))], [(.vs [[(.str [45, 49, 47, 51])], [(.str [49])]] (some 2))]] none), (.vs [[(.str [49, 47, 50])], [(.str [48])]] none)], (.ifc 999999 (.tup [(.vs [[(.str [51, 47, 53])], [(.str [49, 47, 53])]] none), (.int .i64 (0))]))),
  ([(.vs [[(.vs [[(.str [49])], [(.str [45, 49, 47, 50])]] (some 2))], [(.vs [[(.str [45, 49, 47, 51])], [(.str [49])]] (some 2))]] none), (.vs [[(.str [49, 47, 50])], [(.str [49, 47, 51])]] none)], (.ifc 999999 (.tup [(.vs [[(.str [52, 47, 53])], [(.str [51, 47, 53])]] none), (.int .i64 (0))]))),
  ([(.vs [[(.vs [[(.str [49])]] (some 1))]] none), (.vs [[(.str [49, 47, 51])]] none)], (.ifc 999999 (.tup [(.vs [[(.str [49, 47, 51])]] none), (.int .i64 (0))])))]
theorem k16R60p1_ok : allTrue (kIs k16T1 [] 100000 60) k16R60p1 = true := by decide +kernel
def k16R204p0 : List (List AV × AV) := [
  ([(.str [48])], (.tup [(.int .i64 (0)), (.int .i64 (1)), (.bool true)])),
  ([(.str [49])], (.tup [(.int .i64 (1)), (.int .i64 (1)), (.bool true)])),
  ([(.str [49, 47, 51])], (.tup [(.int .i64 (1)), (.int .i64 (3)), (.bool true)])),
  ([(.str [50, 47, 51])], (.tup [(.int .i64 (2)), (.int .i64 (3)), (.bool true)])),
  ([(.str [49, 47, 50])], (.tup [(.int .i64 (1)), (.int .i64 (2)), (.bool true)])),
  ([(.str [57, 57, 57, 55, 47, 57, 57, 57, 57])], (.tup [(.int .i64 (9997)), (.int .i64 (9999)), (.bool true)])),
  ([(.str [49, 47, 57, 57, 57, 57])], (.tup [(.int .i64 (1)), (.int .i64 (9999)), (.bool true)]))]
theorem k16R204p0_ok : allTrue (kIs k16T1 [] 100000 204) k16R204p0 = true := by decide +kernel
end
end Go.Abs
