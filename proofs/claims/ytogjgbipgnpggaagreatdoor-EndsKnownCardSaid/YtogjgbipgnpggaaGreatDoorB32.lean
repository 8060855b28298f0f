/-
  Steps to a law of this program: SK15L0P0, SK15J0, SK15L1P0.
  Conditions: none.
-/
import Derived.Test.YtogjgbipgnpggaaGreatDoorB31
set_option linter.unusedVariables false
set_option linter.unusedSimpArgs false
set_option linter.unusedSectionVars false
namespace Go.Abs
noncomputable section
open Go.Proofs
set_option maxRecDepth 1000000

def k15R41p0 : List (List AV × AV) := [
  ([(.str [48])], (.agg [(.bool false), (.vs [] none), (.bool false), (.vs [[(.int .u32 (1))]] none)])),
  ([(.str [52])], (.agg [(.bool false), (.vs [[(.int .u32 (4))]] none), (.bool false), (.vs [[(.int .u32 (1))]] none)])),
  ([(.str [49])], (.agg [(.bool false), (.vs [[(.int .u32 (1))]] none), (.bool false), (.vs [[(.int .u32 (1))]] none)])),
  ([(.str [49, 47, 50])], (.agg [(.bool false), (.vs [[(.int .u32 (1))]] none), (.bool false), (.vs [[(.int .u32 (2))]] none)])),
  ([(.str [49, 47, 51])], (.agg [(.bool false), (.vs [[(.int .u32 (1))]] none), (.bool false), (.vs [[(.int .u32 (3))]] none)])),
  ([(.str [50, 47, 51])], (.agg [(.bool false), (.vs [[(.int .u32 (2))]] none), (.bool false), (.vs [[(.int .u32 (3))]] none)])),
  ([(.str [49, 47, 52])], (.agg [(.bool false), (.vs [[(.int .u32 (1))]] none), (.bool false), (.vs [[(.int .u32 (4))]] none)])),
  ([(.str [51, 47, 52])], (.agg [(.bool false), (.vs [[(.int .u32 (3))]] none), (.bool false), (.vs [[(.int .u32 (4))]] none)]))]
theorem k15R41p0_ok : allTrue (kIs [] [23] 100000 41) k15R41p0 = true := by decide +kernel
def k15R106p0 : List (List AV × AV) := [
  ([(.agg [(.bool false), (.vs [] none), (.bool false), (.vs [[(.int .u32 (1))]] none)]), (.int .i64 (2000))], (.bool true)),
  ([(.agg [(.bool false), (.vs [] none), (.bool false), (.vs [[(.int .u32 (1))]] none)]), (.int .i64 (4))], (.bool true)),
  ([(.agg [(.bool false), (.vs [[(.int .u32 (4))]] none), (.bool false), (.vs [[(.int .u32 (1))]] none)]), (.int .i64 (2000))], (.bool true)),
  ([(.agg [(.bool false), (.vs [[(.int .u32 (4))]] none), (.bool false), (.vs [[(.int .u32 (1))]] none)]), (.int .i64 (4))], (.bool true)),
  ([(.agg [(.bool false), (.vs [[(.int .u32 (1))]] none), (.bool false), (.vs [[(.int .u32 (1))]] none)]), (.int .i64 (2000))], (.bool true)),
  ([(.agg [(.bool false), (.vs [[(.int .u32 (1))]] none), (.bool false), (.vs [[(.int .u32 (1))]] none)]), (.int .i64 (4))], (.bool true)),
  ([(.agg [(.bool false), (.vs [[(.int .u32 (1))]] none), (.bool false), (.vs [[(.int .u32 (2))]] none)]), (.int .i64 (2000))], (.bool true)),
  ([(.agg [(.bool false), (.vs [[(.int .u32 (1))]] none), (.bool false), (.vs [[(.int .u32 (2))]] none)]), (.int .i64 (4))], (.bool true)),
  ([(.agg [(.bool false), (.vs [[(.int .u32 (1))]] none), (.bool false), (.vs [[(.int .u32 (3))]] none)]), (.int .i64 (2000))], (.bool true)),
  ([(.agg [(.bool false), (.vs [[(.int .u32 (1))]] none), (.bool false), (.vs [[(.int .u32 (3))]] none)]), (.int .i64 (4))], (.bool true)),
  ([(.agg [(.bool false), (.vs [[(.int .u32 (2))]] none), (.bool false), (.vs [[(.int .u32 (3))]] none)]), (.int .i64 (2000))], (.bool true)),
  ([(.agg [(.bool false), (.vs [[(.int .u32 (2))]] none), (.bool false), (.vs [[(.int .u32 (3))]] none)]), (.int .i64 (4))], (.bool true)),
  ([(.agg [(.bool false), (.vs [[(.int .u32 (1))]] none), (.bool false), (.vs [[(.int .u32 (4))]] none)]), (.int .i64 (2000))], (.bool true)),
  ([(.agg [(.bool false), (.vs [[(.int .u32 (1))]] none), (.bool false), (.vs [[(.int .u32 (4))]] none)]), (.int .i64 (4))], (.bool true)),
  ([(.agg [(.bool false), (.vs [[(.int .u32 (3))]] none), (.bool false), (.vs [[(.int .u32 (4))]] none)]), (.int .i64 (2000))], (.bool true)),
  ([(.agg [(.bool false), (.vs [[(.int .u32 (3))]] none), (.bool false), (.vs [[(.int .u32 (4))]] none)]), (.int .i64 (4))], (.bool true))]
theorem k15R106p0_ok : allTrue (kIs [] [23] 100000 106) k15R106p0 = true := by decide +kernel
def k15R264p0 : List (List AV × AV) := [
  ([(.str [48])], (.int .i64 (0))),
  ([(.str [49])], (.int .i64 (0))),
  ([(.str [52])], (.int .i64 (0))),
  ([(.str [50])], (.int .i64 (0))),
  ([(.str [51])], (.int .i64 (0)))]
theorem k15R264p0_ok : allTrue (kIs [] [23] 100000 264) k15R264p0 = true := by decide +kernel
def k15R256p0 : List (List AV × AV) := [
  ([(.str [48])], (.int .i64 (0))),
  ([(.str [49])], (.int .i64 (1))),
  ([(.str [52])], (.int .i64 (4))),
  ([(.str [50])], (.int .i64 (2))),
  ([(.str [51])], (.int .i64 (3)))]
theorem k15R256p0_ok : allTrue (kIs [] [23] 100000 256) k15R256p0 = true := by decide +kernel
def k15R34p0 : List (List AV × AV) := [
  ([(.int .i64 (1)), (.str [49])], (.agg [(.int .i64 (1)), (.str [49])])),
  ([(.int .i64 (2)), (.str [49, 47, 50])], (.agg [(.int .i64 (2)), (.str [49, 47, 50])])),
  ([(.int .i64 (3)), (.str [49, 47, 50])], (.agg [(.int .i64 (3)), (.str [49, 47, 50])])),
  ([(.int .i64 (0)), (.str [49])], (.agg [(.int .i64 (0)), (.str [49])])),
  ([(.int .i64 (1)), (.str [49, 47, 51])], (.agg [(.int .i64 (1)), (.str [49, 47, 51])])),
  ([(.int .i64 (2)), (.str [50, 47, 51])], (.agg [(.int .i64 (2)), (.str [50, 47, 51])])),
  ([(.int .i64 (2)), (.str [49])], (.agg [(.int .i64 (2)), (.str [49])])),
  ([(.int .i64 (0)), (.str [49, 47, 50])], (.agg [(.int .i64 (0)), (.str [49, 47, 50])])),
  ([(.int .i64 (3)), (.str [49])], (.agg [(.int .i64 (3)), (.str [49])])),
  ([(.int .i64 (1)), (.str [49, 47, 52])], (.agg [(.int .i64 (1)), (.str [49, 47, 52])])),
  ([(.int .i64 (2)), (.str [51, 47, 52])], (.agg [(.int .i64 (2)), (.str [51, 47, 52])])),
  ([(.int .i64 (0)), (.str [49, 47, 52])], (.agg [(.int .i64 (0)), (.str [49, 47, 52])])),
  ([(.int .i64 (1)), (.str [49, 47, 50])], (.agg [(.int .i64 (1)), (.str [49, 47, 50])])),
  ([(.int .i64 (1)), (.str [51, 47, 52])], (.agg [(.int .i64 (1)), (.str [51, 47, 52])])),
  ([(.int .i64 (0)), (.str [49, 47, 51])], (.agg [(.int .i64 (0)), (.str [49, 47, 51])])),
  ([(.int .i64 (1)), (.str [50, 47, 51])], (.agg [(.int .i64 (1)), (.str [50, 47, 51])]))]
theorem k15R34p0_ok : allTrue (kIs [] [23] 100000 34) k15R34p0 = true := by decide +kernel
def k15R33p0 : List (List AV × AV) := [
  ([(.vs [[(.int .i64 (1)), (.str [49])]] (some 1))], (.agg [(.str []), (.str [48]), (.vs [[(.int .i64 (1)), (.str [49])]] (some 1))])),
  ([(.vs [[(.int .i64 (2)), (.str [49, 47, 50])], [(.int .i64 (3)), (.str [49, 47, 50])]] (some 2))], (.agg [(.str []), (.str [48]), (.vs [[(.int .i64 (2)), (.str [49, 47, 50])], [(.int .i64 (3)), (.str [49, 47, 50])]] (some 2))])),
  ([(.vs [[(.int .i64 (0)), (.str [49])]] (some 1))], (.agg [(.str []), (.str [48]), (.vs [[(.int .i64 (0)), (.str [49])]] (some 1))])),
  ([(.vs [[(.int .i64 (1)), (.str [49, 47, 51])], [(.int .i64 (2)), (.str [50, 47, 51])]] (some 2))], (.agg [(.str []), (.str [48]), (.vs [[(.int .i64 (1)), (.str [49, 47, 51])], [(.int .i64 (2)), (.str [50, 47, 51])]] (some 2))])),
  ([(.vs [[(.int .i64 (0)), (.str [49, 47, 50])], [(.int .i64 (3)), (.str [49, 47, 50])]] (some 2))], (.agg [(.str []), (.str [48]), (.vs [[(.int .i64 (0)), (.str [49, 47, 50])], [(.int .i64 (3)), (.str [49, 47, 50])]] (some 2))])),
  ([(.vs [[(.int .i64 (3)), (.str [49])]] (some 1))], (.agg [(.str []), (.str [48]), (.vs [[(.int .i64 (3)), (.str [49])]] (some 1))])),
  ([(.vs [[(.int .i64 (2)), (.str [49])]] (some 1))], (.agg [(.str []), (.str [48]), (.vs [[(.int .i64 (2)), (.str [49])]] (some 1))])),
  ([(.vs [[(.int .i64 (0)), (.str [49, 47, 50])], [(.int .i64 (2)), (.str [49, 47, 50])]] (some 2))], (.agg [(.str []), (.str [48]), (.vs [[(.int .i64 (0)), (.str [49, 47, 50])], [(.int .i64 (2)), (.str [49, 47, 50])]] (some 2))])),
  ([(.vs [[(.int .i64 (1)), (.str [49, 47, 52])], [(.int .i64 (2)), (.str [51, 47, 52])]] (some 2))], (.agg [(.str []), (.str [48]), (.vs [[(.int .i64 (1)), (.str [49, 47, 52])], [(.int .i64 (2)), (.str [51, 47, 52])]] (some 2))])),
  ([(.vs [[(.int .i64 (0)), (.str [49, 47, 52])], [(.int .i64 (1)), (.str [49, 47, 52])], [(.int .i64 (2)), (.str [49, 47, 50])]] (some 3))], (.agg [(.str []), (.str [48]), (.vs [[(.int .i64 (0)), (.str [49, 47, 52])], [(.int .i64 (1)), (.str [49, 47, 52])], [(.int .i64 (2)), (.str [49, 47, 50])]] (some 3))])),
  ([(.vs [[(.int .i64 (0)), (.str [49, 47, 50])], [(.int .i64 (1)), (.str [49, 47, 50])]] (some 2))], (.agg [(.str []), (.str [48]), (.vs [[(.int .i64 (0)), (.str [49, 47, 50])], [(.int .i64 (1)), (.str [49, 47, 50])]] (some 2))])),
  ([(.vs [[(.int .i64 (0)), (.str [49, 47, 52])], [(.int .i64 (1)), (.str [51, 47, 52])]] (some 2))], (.agg [(.str []), (.str [48]), (.vs [[(.int .i64 (0)), (.str [49, 47, 52])], [(.int .i64 (1)), (.str [51, 47, 52])]] (some 2))])),
  ([(.vs [[(.int .i64 (1)), (.str [49, 47, 50])], [(.int .i64 (2)), (.str [49, 47, 50])]] (some 2))], (.agg [(.str []), (.str [48]), (.vs [[(.int .i64 (1)), (.str [49, 47, 50])], [(.int .i64 (2)), (.str [49, 47, 50])]] (some 2))])),
  ([(.vs [[(.int .i64 (0)), (.str [49, 47, 51])], [(.int .i64 (1)), (.str [50, 47, 51])]] (some 2))], (.agg [(.str []), (.str [48]), (.vs [[(.int .i64 (0)), (.str [49, 47, 51])], [(.int .i64 (1)), (.str [50, 47, 51])]] (some 2))]))]
theorem k15R33p0_ok : allTrue (kIs [] [23] 100000 33) k15R33p0 = true := by decide +kernel
def k15R42p0 : List (List AV × AV) := [
  ([(.agg [(.bool false), (.vs [[(.int .u32 (1))]] none), (.bool false), (.vs [[(.int .u32 (2))]] none)])], (.str [49, 47, 50]))]
theorem k15R42p0_ok : allTrue (kIs [] [23] 100000 42) k15R42p0 = true := by decide +kernel
end
end Go.Abs

namespace Go.Abs
noncomputable section
open Go.Proofs

def k15T0 : List (FuncId × List (List AV × AV)) := (33, k15R33p0) :: (34, k15R34p0) :: (41, k15R41p0) :: (42, k15R42p0) :: (106, k15R106p0) :: (256, k15R256p0) :: (264, k15R264p0) :: []
theorem k15T0_ok : TabHolds Tryz.prog k15T0 := (tab_cons tab_nil k15R33p0_ok (tab_cons tab_nil k15R34p0_ok (tab_cons tab_nil k15R41p0_ok (tab_cons tab_nil k15R42p0_ok (tab_cons tab_nil k15R106p0_ok (tab_cons tab_nil k15R256p0_ok (tab_cons tab_nil k15R264p0_ok tab_nil)))))))
end
end Go.Abs

namespace Go.Abs
noncomputable section
open Go.Proofs
set_option maxRecDepth 1000000

def k15R255p0 : List (List AV × AV) := [
  ([(.str [48])], (.tup [(.str [48]), (.str [49]), (.int .i64 (0))])),
  ([(.str [52])], (.tup [(.str [52]), (.str [49]), (.int .i64 (0))])),
  ([(.str [49])], (.tup [(.str [49]), (.str [49]), (.int .i64 (0))])),
  ([(.str [49, 47, 50])], (.tup [(.str [49]), (.str [50]), (.int .i64 (0))])),
  ([(.str [49, 47, 51])], (.tup [(.str [49]), (.str [51]), (.int .i64 (0))])),
  ([(.str [50, 47, 51])], (.tup [(.str [50]), (.str [51]), (.int .i64 (0))])),
  ([(.str [49, 47, 52])], (.tup [(.str [49]), (.str [52]), (.int .i64 (0))])),
  ([(.str [51, 47, 52])], (.tup [(.str [51]), (.str [52]), (.int .i64 (0))]))]
theorem k15R255p0_ok : allTrue (kIs k15T0 [23] 100000 255) k15R255p0 = true := by decide +kernel
def k15R254p0 : List (List AV × AV) := [
  ([(.str [48])], (.bool true)),
  ([(.str [52])], (.bool true)),
  ([(.str [49])], (.bool true)),
  ([(.str [49, 47, 50])], (.bool true)),
  ([(.str [49, 47, 51])], (.bool true)),
  ([(.str [50, 47, 51])], (.bool true)),
  ([(.str [49, 47, 52])], (.bool true)),
  ([(.str [51, 47, 52])], (.bool true))]
theorem k15R254p0_ok : allTrue (kIs k15T0 [23] 100000 254) k15R254p0 = true := by decide +kernel
end
end Go.Abs
