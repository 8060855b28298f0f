/-
  Steps to a law of this program: SK16L0P0, SK16J0, SK16L1P0.
  Conditions: none.
-/
import Derived.Test.YtogjgbipgnpggaaGreatDoorB31
set_option linter.unusedVariables false
set_option linter.unusedSimpArgs false
set_option linter.unusedSectionVars false
namespace Go.Abs
noncomputable section
open Go.Proofs
set_option maxRecDepth 1000000

def k16R41p0 : List (List AV × AV) := [
  ([(.str [48])], (.agg [(.bool false), (.vs [] none), (.bool false), (.vs [[(.int .u32 (1))]] none)])),
  ([(.str [49])], (.agg [(.bool false), (.vs [[(.int .u32 (1))]] none), (.bool false), (.vs [[(.int .u32 (1))]] none)])),
  ([(.str [49, 47, 51])], (.agg [(.bool false), (.vs [[(.int .u32 (1))]] none), (.bool false), (.vs [[(.int .u32 (3))]] none)])),
  ([(.str [50, 47, 51])], (.agg [(.bool false), (.vs [[(.int .u32 (2))]] none), (.bool false), (.vs [[(.int .u32 (3))]] none)])),
  ([(.str [45, 50, 47, 51])], (.agg [(.bool true), (.vs [[(.int .u32 (2))]] none), (.bool false), (.vs [[(.int .u32 (3))]] none)])),
  ([(.str [45, 49, 47, 51])], (.agg [(.bool true), (.vs [[(.int .u32 (1))]] none), (.bool false), (.vs [[(.int .u32 (3))]] none)])),
  ([(.str [49, 47, 50])], (.agg [(.bool false), (.vs [[(.int .u32 (1))]] none), (.bool false), (.vs [[(.int .u32 (2))]] none)])),
  ([(.str [57, 57, 57, 55, 47, 57, 57, 57, 57])], (.agg [(.bool false), (.vs [[(.int .u32 (9997))]] none), (.bool false), (.vs [[(.int .u32 (9999))]] none)])),
  ([(.str [49, 47, 57, 57, 57, 57])], (.agg [(.bool false), (.vs [[(.int .u32 (1))]] none), (.bool false), (.vs [[(.int .u32 (9999))]] none)])),
  ([(.str [50, 47, 57, 57, 57, 57])], (.agg [(.bool false), (.vs [[(.int .u32 (2))]] none), (.bool false), (.vs [[(.int .u32 (9999))]] none)])),
  ([(.str [45, 49, 47, 50])], (.agg [(.bool true), (.vs [[(.int .u32 (1))]] none), (.bool false), (.vs [[(.int .u32 (2))]] none)]))]
theorem k16R41p0_ok : allTrue (kIs [] [] 100000 41) k16R41p0 = true := by decide +kernel
def k16R106p0 : List (List AV × AV) := [
  ([(.agg [(.bool false), (.vs [] none), (.bool false), (.vs [[(.int .u32 (1))]] none)]), (.int .i64 (2000))], (.bool true)),
  ([(.agg [(.bool false), (.vs [] none), (.bool false), (.vs [[(.int .u32 (1))]] none)]), (.int .i64 (4))], (.bool true)),
  ([(.agg [(.bool false), (.vs [[(.int .u32 (1))]] none), (.bool false), (.vs [[(.int .u32 (1))]] none)]), (.int .i64 (2000))], (.bool true)),
  ([(.agg [(.bool false), (.vs [[(.int .u32 (1))]] none), (.bool false), (.vs [[(.int .u32 (1))]] none)]), (.int .i64 (4))], (.bool true)),
  ([(.agg [(.bool false), (.vs [[(.int .u32 (1))]] none), (.bool false), (.vs [[(.int .u32 (3))]] none)]), (.int .i64 (2000))], (.bool true)),
  ([(.agg [(.bool false), (.vs [[(.int .u32 (1))]] none), (.bool false), (.vs [[(.int .u32 (3))]] none)]), (.int .i64 (4))], (.bool true)),
  ([(.agg [(.bool false), (.vs [[(.int .u32 (2))]] none), (.bool false), (.vs [[(.int .u32 (3))]] none)]), (.int .i64 (2000))], (.bool true)),
  ([(.agg [(.bool false), (.vs [[(.int .u32 (2))]] none), (.bool false), (.vs [[(.int .u32 (3))]] none)]), (.int .i64 (4))], (.bool true)),
  ([(.agg [(.bool true), (.vs [[(.int .u32 (2))]] none), (.bool false), (.vs [[(.int .u32 (3))]] none)]), (.int .i64 (2000))], (.bool true)),
  ([(.agg [(.bool false), .nils, (.bool false), (.vs [[(.int .u32 (1))]] none)]), (.int .i64 (2000))], (.bool true)),
  ([(.agg [(.bool true), (.vs [[(.int .u32 (1))]] none), (.bool false), (.vs [[(.int .u32 (3))]] none)]), (.int .i64 (2000))], (.bool true)),
  ([(.agg [(.bool false), (.vs [[(.int .u32 (1024))]] none), (.bool false), (.vs [[(.int .u32 (2047))]] none)]), (.int .i64 (2000))], (.bool true)),
  ([(.agg [(.bool false), (.vs [[(.int .u32 (1536))]] none), (.bool false), (.vs [[(.int .u32 (2047))]] none)]), (.int .i64 (2000))], (.bool true)),
  ([(.agg [(.bool false), (.vs [[(.int .u32 (1792))]] none), (.bool false), (.vs [[(.int .u32 (2047))]] none)]), (.int .i64 (2000))], (.bool true)),
  ([(.agg [(.bool false), (.vs [[(.int .u32 (1920))]] none), (.bool false), (.vs [[(.int .u32 (2047))]] none)]), (.int .i64 (2000))], (.bool true)),
  ([(.agg [(.bool false), (.vs [[(.int .u32 (1984))]] none), (.bool false), (.vs [[(.int .u32 (2047))]] none)]), (.int .i64 (2000))], (.bool true)),
  ([(.agg [(.bool false), (.vs [[(.int .u32 (2016))]] none), (.bool false), (.vs [[(.int .u32 (2047))]] none)]), (.int .i64 (2000))], (.bool true)),
  ([(.agg [(.bool false), (.vs [[(.int .u32 (2032))]] none), (.bool false), (.vs [[(.int .u32 (2047))]] none)]), (.int .i64 (2000))], (.bool true)),
  ([(.agg [(.bool false), (.vs [[(.int .u32 (2040))]] none), (.bool false), (.vs [[(.int .u32 (2047))]] none)]), (.int .i64 (2000))], (.bool true)),
  ([(.agg [(.bool false), (.vs [[(.int .u32 (2044))]] none), (.bool false), (.vs [[(.int .u32 (2047))]] none)]), (.int .i64 (2000))], (.bool true)),
  ([(.agg [(.bool false), (.vs [[(.int .u32 (2046))]] none), (.bool false), (.vs [[(.int .u32 (2047))]] none)]), (.int .i64 (2000))], (.bool true)),
  ([(.agg [(.bool false), (.vs [[(.int .u32 (1))]] none), (.bool false), (.vs [[(.int .u32 (2))]] none)]), (.int .i64 (2000))], (.bool true)),
  ([(.agg [(.bool false), (.vs [[(.int .u32 (1))]] none), (.bool false), (.vs [[(.int .u32 (2))]] none)]), (.int .i64 (4))], (.bool true)),
  ([(.agg [(.bool false), (.vs [[(.int .u32 (9997))]] none), (.bool false), (.vs [[(.int .u32 (9999))]] none)]), (.int .i64 (2000))], (.bool true)),
  ([(.agg [(.bool false), (.vs [[(.int .u32 (9997))]] none), (.bool false), (.vs [[(.int .u32 (9999))]] none)]), (.int .i64 (4))], (.bool true)),
  ([(.agg [(.bool false), (.vs [[(.int .u32 (1))]] none), (.bool false), (.vs [[(.int .u32 (9999))]] none)]), (.int .i64 (2000))], (.bool true)),
  ([(.agg [(.bool false), (.vs [[(.int .u32 (1))]] none), (.bool false), (.vs [[(.int .u32 (9999))]] none)]), (.int .i64 (4))], (.bool true)),
  ([(.agg [(.bool false), (.vs [[(.int .u32 (2))]] none), (.bool false), (.vs [[(.int .u32 (9999))]] none)]), (.int .i64 (2000))], (.bool true)),
  ([(.agg [(.bool true), (.vs [[(.int .u32 (1))]] none), (.bool false), (.vs [[(.int .u32 (2))]] none)]), (.int .i64 (2000))], (.bool true)),
  ([(.agg [(.bool false), (.vs [[(.int .u32 (1))]] none), (.bool false), (.vs [[(.int .u32 (5))]] none)]), (.int .i64 (2000))], (.bool true)),
  ([(.agg [(.bool false), (.vs [[(.int .u32 (2))]] none), (.bool false), (.vs [[(.int .u32 (5))]] none)]), (.int .i64 (2000))], (.bool true)),
  ([(.agg [(.bool false), (.vs [[(.int .u32 (3))]] none), (.bool false), (.vs [[(.int .u32 (5))]] none)]), (.int .i64 (2000))], (.bool true)),
  ([(.agg [(.bool false), (.vs [[(.int .u32 (4))]] none), (.bool false), (.vs [[(.int .u32 (5))]] none)]), (.int .i64 (2000))], (.bool true))]
theorem k16R106p0_ok : allTrue (kIs [] [] 100000 106) k16R106p0 = true := by decide +kernel
def k16R42p0 : List (List AV × AV) := [
  ([(.agg [(.bool false), (.vs [[(.int .u32 (1))]] none), (.bool false), (.vs [[(.int .u32 (1))]] none)])], (.str [49])),
  ([(.agg [(.bool true), (.vs [[(.int .u32 (2))]] none), (.bool false), (.vs [[(.int .u32 (3))]] none)])], (.str [45, 50, 47, 51])),
  ([(.agg [(.bool false), .nils, (.bool false), (.vs [[(.int .u32 (1))]] none)])], (.str [48])),
  ([(.agg [(.bool true), (.vs [[(.int .u32 (1))]] none), (.bool false), (.vs [[(.int .u32 (3))]] none)])], (.str [45, 49, 47, 51])),
  ([(.agg [(.bool false), (.vs [[(.int .u32 (2))]] none), (.bool false), (.vs [[(.int .u32 (3))]] none)])], (.str [50, 47, 51])),
  ([(.agg [(.bool false), (.vs [[(.int .u32 (1024))]] none), (.bool false), (.vs [[(.int .u32 (2047))]] none)])], (.str [49, 48, 50, 52, 47, 50, 48, 52, 55])),
  ([(.agg [(.bool false), (.vs [[(.int .u32 (1536))]] none), (.bool false), (.vs [[(.int .u32 (2047))]] none)])], (.str [49, 53, 51, 54, 47, 50, 48, 52, 55])),
  ([(.agg [(.bool false), (.vs [[(.int .u32 (1792))]] none), (.bool false), (.vs [[(.int .u32 (2047))]] none)])], (.str [49, 55, 57, 50, 47, 50, 48, 52, 55])),
  ([(.agg [(.bool false), (.vs [[(.int .u32 (1920))]] none), (.bool false), (.vs [[(.int .u32 (2047))]] none)])], (.str [49, 57, 50, 48, 47, 50, 48, 52, 55])),
  ([(.agg [(.bool false), (.vs [[(.int .u32 (1984))]] none), (.bool false), (.vs [[(.int .u32 (2047))]] none)])], (.str [49, 57, 56, 52, 47, 50, 48, 52, 55])),
  ([(.agg [(.bool false), (.vs [[(.int .u32 (2016))]] none), (.bool false), (.vs [[(.int .u32 (2047))]] none)])], (.str [50, 48, 49, 54, 47, 50, 48, 52, 55])),
  ([(.agg [(.bool false), (.vs [[(.int .u32 (2032))]] none), (.bool false), (.vs [[(.int .u32 (2047))]] none)])], (.str [50, 48, 51, 50, 47, 50, 48, 52, 55])),
  ([(.agg [(.bool false), (.vs [[(.int .u32 (2040))]] none), (.bool false), (.vs [[(.int .u32 (2047))]] none)])], (.str [50, 48, 52, 48, 47, 50, 48, 52, 55])),
  ([(.agg [(.bool false), (.vs [[(.int .u32 (2044))]] none), (.bool false), (.vs [[(.int .u32 (2047))]] none)])], (.str [50, 48, 52, 52, 47, 50, 48, 52, 55])),
  ([(.agg [(.bool false), (.vs [[(.int .u32 (2046))]] none), (.bool false), (.vs [[(.int .u32 (2047))]] none)])], (.str [50, 48, 52, 54, 47, 50, 48, 52, 55])),
  ([(.agg [(.bool false), (.vs [[(.int .u32 (2))]] none), (.bool false), (.vs [[(.int .u32 (9999))]] none)])], (.str [50, 47, 57, 57, 57, 57])),
  ([(.agg [(.bool false), (.vs [[(.int .u32 (1))]] none), (.bool false), (.vs [[(.int .u32 (9999))]] none)])], (.str [49, 47, 57, 57, 57, 57])),
  ([(.agg [(.bool false), (.vs [[(.int .u32 (1))]] none), (.bool false), (.vs [[(.int .u32 (2))]] none)])], (.str [49, 47, 50])),
  ([(.agg [(.bool true), (.vs [[(.int .u32 (1))]] none), (.bool false), (.vs [[(.int .u32 (2))]] none)])], (.str [45, 49, 47, 50])),
  ([(.agg [(.bool false), (.vs [[(.int .u32 (1))]] none), (.bool false), (.vs [[(.int .u32 (3))]] none)])], (.str [49, 47, 51])),
  ([(.agg [(.bool false), (.vs [[(.int .u32 (1))]] none), (.bool false), (.vs [[(.int .u32 (5))]] none)])], (.str [49, 47, 53])),
  ([(.agg [(.bool false), (.vs [[(.int .u32 (2))]] none), (.bool false), (.vs [[(.int .u32 (5))]] none)])], (.str [50, 47, 53])),
  ([(.agg [(.bool false), (.vs [[(.int .u32 (3))]] none), (.bool false), (.vs [[(.int .u32 (5))]] none)])], (.str [51, 47, 53])),
  ([(.agg [(.bool false), (.vs [[(.int .u32 (4))]] none), (.bool false), (.vs [[(.int .u32 (5))]] none)])], (.str [52, 47, 53]))]
theorem k16R42p0_ok : allTrue (kIs [] [] 100000 42) k16R42p0 = true := by decide +kernel
def k16R38p0 : List (List AV × AV) := [
  ([(.int .i64 (0)), (.int .i64 (1))], (.agg [(.bool false), .nils, (.bool false), (.vs [[(.int .u32 (1))]] none)])),
  ([(.int .i64 (1)), (.int .i64 (1))], (.agg [(.bool false), (.vs [[(.int .u32 (1))]] none), (.bool false), (.vs [[(.int .u32 (1))]] none)]))]
theorem k16R38p0_ok : allTrue (kIs [] [] 100000 38) k16R38p0 = true := by decide +kernel
def k16R264p0 : List (List AV × AV) := [
  ([(.str [48])], (.int .i64 (0))),
  ([(.str [49])], (.int .i64 (0))),
  ([(.str [51])], (.int .i64 (0))),
  ([(.str [50])], (.int .i64 (0))),
  ([(.str [45, 50])], (.int .i64 (0))),
  ([(.str [45, 49])], (.int .i64 (0))),
  ([(.str [57, 57, 57, 55])], (.int .i64 (0))),
  ([(.str [57, 57, 57, 57])], (.int .i64 (0)))]
theorem k16R264p0_ok : allTrue (kIs [] [] 100000 264) k16R264p0 = true := by decide +kernel
def k16R256p0 : List (List AV × AV) := [
  ([(.str [48])], (.int .i64 (0))),
  ([(.str [49])], (.int .i64 (1))),
  ([(.str [51])], (.int .i64 (3))),
  ([(.str [50])], (.int .i64 (2))),
  ([(.str [57, 57, 57, 55])], (.int .i64 (9997))),
  ([(.str [57, 57, 57, 57])], (.int .i64 (9999)))]
theorem k16R256p0_ok : allTrue (kIs [] [] 100000 256) k16R256p0 = true := by decide +kernel
end
end Go.Abs

namespace Go.Abs
noncomputable section
open Go.Proofs

def k16T0 : List (FuncId × List (List AV × AV)) := (38, k16R38p0) :: (41, k16R41p0) :: (42, k16R42p0) :: (106, k16R106p0) :: (256, k16R256p0) :: (264, k16R264p0) :: []
theorem k16T0_ok : TabHolds Tryz.prog k16T0 := (tab_cons tab_nil k16R38p0_ok (tab_cons tab_nil k16R41p0_ok (tab_cons tab_nil k16R42p0_ok (tab_cons tab_nil k16R106p0_ok (tab_cons tab_nil k16R256p0_ok (tab_cons tab_nil k16R264p0_ok tab_nil))))))
end
end Go.Abs

namespace Go.Abs
noncomputable section
open Go.Proofs
set_option maxRecDepth 1000000

def k16R166p0 : List (List AV × AV) := [
  ([(.str [49])], (.int .i64 (0))),
  ([(.str [45, 50, 47, 51])], (.int .i64 (0))),
  ([(.str [48])], (.int .i64 (0))),
  ([(.str [45, 49, 47, 51])], (.int .i64 (0))),
  ([(.str [50, 47, 51])], (.int .i64 (0))),
  ([(.str [50, 47, 57, 57, 57, 57])], (.int .i64 (0))),
  ([(.str [49, 47, 57, 57, 57, 57])], (.int .i64 (0))),
  ([(.str [45, 49, 47, 50])], (.int .i64 (0))),
  ([(.str [49, 47, 51])], (.int .i64 (0))),
  ([(.str [49, 47, 50])], (.int .i64 (0)))]
theorem k16R166p0_ok : allTrue (kIs k16T0 [] 100000 166) k16R166p0 = true := by decide +kernel
def k16R255p0 : List (List AV × AV) := [
  ([(.str [48])], (.tup [(.str [48]), (.str [49]), (.int .i64 (0))])),
  ([(.str [49])], (.tup [(.str [49]), (.str [49]), (.int .i64 (0))])),
  ([(.str [49, 47, 51])], (.tup [(.str [49]), (.str [51]), (.int .i64 (0))])),
  ([(.str [50, 47, 51])], (.tup [(.str [50]), (.str [51]), (.int .i64 (0))])),
  ([(.str [49, 47, 50])], (.tup [(.str [49]), (.str [50]), (.int .i64 (0))])),
  ([(.str [57, 57, 57, 55, 47, 57, 57, 57, 57])], (.tup [(.str [57, 57, 57, 55]), (.str [57, 57, 57, 57]), (.int .i64 (0))])),
  ([(.str [49, 47, 57, 57, 57, 57])], (.tup [(.str [49]), (.str [57, 57, 57, 57]), (.int .i64 (0))]))]
theorem k16R255p0_ok : allTrue (kIs k16T0 [] 100000 255) k16R255p0 = true := by decide +kernel
def k16R254p0 : List (List AV × AV) := [
  ([(.str [48])], (.bool true)),
  ([(.str [49])], (.bool true)),
  ([(.str [49, 47, 51])], (.bool true)),
  ([(.str [50, 47, 51])], (.bool true)),
  ([(.str [49, 47, 50])], (.bool true)),
  ([(.str [57, 57, 57, 55, 47, 57, 57, 57, 57])], (.bool true)),
  ([(.str [49, 47, 57, 57, 57, 57])], (.bool true))]
theorem k16R254p0_ok : allTrue (kIs k16T0 [] 100000 254) k16R254p0 = true := by decide +kernel
end
end Go.Abs
