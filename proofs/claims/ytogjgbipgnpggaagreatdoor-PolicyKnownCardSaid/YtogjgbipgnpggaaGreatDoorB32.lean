/-
  Steps to a law of this program: SK17L0P0, SK17J0, SK17L1P0, SK17J1.
  Conditions: none.
-/
import Derived.Test.YtogjgbipgnpggaaGreatDoorB31
set_option linter.unusedVariables false
set_option linter.unusedSimpArgs false
set_option linter.unusedSectionVars false
namespace Go.Abs
noncomputable section
open Go.Proofs
set_option maxRecDepth 1000000

def k17R41p0 : List (List AV × AV) := [
  ([(.str [48])], (.agg [(.bool false), (.vs [] none), (.bool false), (.vs [[(.int .u32 (1))]] none)])),
  ([(.str [49])], (.agg [(.bool false), (.vs [[(.int .u32 (1))]] none), (.bool false), (.vs [[(.int .u32 (1))]] none)])),
  ([(.str [49, 47, 50])], (.agg [(.bool false), (.vs [[(.int .u32 (1))]] none), (.bool false), (.vs [[(.int .u32 (2))]] none)])),
  ([(.str [45, 49, 47, 50])], (.agg [(.bool true), (.vs [[(.int .u32 (1))]] none), (.bool false), (.vs [[(.int .u32 (2))]] none)])),
  ([(.str [49, 47, 52])], (.agg [(.bool false), (.vs [[(.int .u32 (1))]] none), (.bool false), (.vs [[(.int .u32 (4))]] none)])),
  ([(.str [49, 47, 56])], (.agg [(.bool false), (.vs [[(.int .u32 (1))]] none), (.bool false), (.vs [[(.int .u32 (8))]] none)])),
  ([(.str [49, 47, 49, 54])], (.agg [(.bool false), (.vs [[(.int .u32 (1))]] none), (.bool false), (.vs [[(.int .u32 (16))]] none)])),
  ([(.str [49, 47, 51, 50])], (.agg [(.bool false), (.vs [[(.int .u32 (1))]] none), (.bool false), (.vs [[(.int .u32 (32))]] none)])),
  ([(.str [49, 47, 54, 52])], (.agg [(.bool false), (.vs [[(.int .u32 (1))]] none), (.bool false), (.vs [[(.int .u32 (64))]] none)])),
  ([(.str [49, 47, 49, 50, 56])], (.agg [(.bool false), (.vs [[(.int .u32 (1))]] none), (.bool false), (.vs [[(.int .u32 (128))]] none)])),
  ([(.str [49, 47, 50, 53, 54])], (.agg [(.bool false), (.vs [[(.int .u32 (1))]] none), (.bool false), (.vs [[(.int .u32 (256))]] none)])),
  ([(.str [49, 47, 53, 49, 50])], (.agg [(.bool false), (.vs [[(.int .u32 (1))]] none), (.bool false), (.vs [[(.int .u32 (512))]] none)])),
  ([(.str [49, 47, 49, 48, 50, 52])], (.agg [(.bool false), (.vs [[(.int .u32 (1))]] none), (.bool false), (.vs [[(.int .u32 (1024))]] none)])),
  ([(.str [49, 47, 51])], (.agg [(.bool false), (.vs [[(.int .u32 (1))]] none), (.bool false), (.vs [[(.int .u32 (3))]] none)])),
  ([(.str [50, 47, 51])], (.agg [(.bool false), (.vs [[(.int .u32 (2))]] none), (.bool false), (.vs [[(.int .u32 (3))]] none)])),
  ([(.str [45, 49])], (.agg [(.bool true), (.vs [[(.int .u32 (1))]] none), (.bool false), (.vs [[(.int .u32 (1))]] none)]))]
theorem k17R41p0_ok : allTrue (kIs [] [] 100000 41) k17R41p0 = true := by decide +kernel
def k17R106p0 : List (List AV × AV) := [
  ([(.agg [(.bool false), (.vs [] none), (.bool false), (.vs [[(.int .u32 (1))]] none)]), (.int .i64 (2000))], (.bool true)),
  ([(.agg [(.bool false), (.vs [] none), (.bool false), (.vs [[(.int .u32 (1))]] none)]), (.int .i64 (4))], (.bool true)),
  ([(.agg [(.bool false), (.vs [[(.int .u32 (1))]] none), (.bool false), (.vs [[(.int .u32 (1))]] none)]), (.int .i64 (2000))], (.bool true)),
  ([(.agg [(.bool false), (.vs [[(.int .u32 (1))]] none), (.bool false), (.vs [[(.int .u32 (1))]] none)]), (.int .i64 (4))], (.bool true)),
  ([(.agg [(.bool false), (.vs [[(.int .u32 (1))]] none), (.bool false), (.vs [[(.int .u32 (2))]] none)]), (.int .i64 (2000))], (.bool true)),
  ([(.agg [(.bool false), (.vs [[(.int .u32 (1))]] none), (.bool false), (.vs [[(.int .u32 (2))]] none)]), (.int .i64 (4))], (.bool true)),
  ([(.agg [(.bool true), (.vs [[(.int .u32 (1))]] none), (.bool false), (.vs [[(.int .u32 (2))]] none)]), (.int .i64 (2000))], (.bool true)),
  ([(.agg [(.bool false), .nils, (.bool false), (.vs [[(.int .u32 (1))]] none)]), (.int .i64 (2000))], (.bool true)),
  ([(.agg [(.bool false), (.vs [[(.int .u32 (1))]] none), (.bool false), (.vs [[(.int .u32 (4))]] none)]), (.int .i64 (2000))], (.bool true)),
  ([(.agg [(.bool false), (.vs [[(.int .u32 (1))]] none), (.bool false), (.vs [[(.int .u32 (8))]] none)]), (.int .i64 (2000))], (.bool true)),
  ([(.agg [(.bool false), (.vs [[(.int .u32 (1))]] none), (.bool false), (.vs [[(.int .u32 (16))]] none)]), (.int .i64 (2000))], (.bool true)),
  ([(.agg [(.bool false), (.vs [[(.int .u32 (1))]] none), (.bool false), (.vs [[(.int .u32 (32))]] none)]), (.int .i64 (2000))], (.bool true)),
  ([(.agg [(.bool false), (.vs [[(.int .u32 (1))]] none), (.bool false), (.vs [[(.int .u32 (64))]] none)]), (.int .i64 (2000))], (.bool true)),
  ([(.agg [(.bool false), (.vs [[(.int .u32 (1))]] none), (.bool false), (.vs [[(.int .u32 (128))]] none)]), (.int .i64 (2000))], (.bool true)),
  ([(.agg [(.bool false), (.vs [[(.int .u32 (1))]] none), (.bool false), (.vs [[(.int .u32 (256))]] none)]), (.int .i64 (2000))], (.bool true)),
  ([(.agg [(.bool false), (.vs [[(.int .u32 (1))]] none), (.bool false), (.vs [[(.int .u32 (512))]] none)]), (.int .i64 (2000))], (.bool true)),
  ([(.agg [(.bool false), (.vs [[(.int .u32 (1))]] none), (.bool false), (.vs [[(.int .u32 (1024))]] none)]), (.int .i64 (2000))], (.bool true)),
  ([(.agg [(.bool false), (.vs [[(.int .u32 (1))]] none), (.bool false), (.vs [[(.int .u32 (3))]] none)]), (.int .i64 (2000))], (.bool true)),
  ([(.agg [(.bool false), (.vs [[(.int .u32 (1))]] none), (.bool false), (.vs [[(.int .u32 (3))]] none)]), (.int .i64 (4))], (.bool true)),
  ([(.agg [(.bool false), (.vs [[(.int .u32 (2))]] none), (.bool false), (.vs [[(.int .u32 (3))]] none)]), (.int .i64 (2000))], (.bool true)),
  ([(.agg [(.bool false), (.vs [[(.int .u32 (2))]] none), (.bool false), (.vs [[(.int .u32 (3))]] none)]), (.int .i64 (4))], (.bool true)),
  ([(.agg [(.bool true), (.vs [[(.int .u32 (1))]] none), (.bool false), (.vs [[(.int .u32 (1))]] none)]), (.int .i64 (2000))], (.bool true))]
theorem k17R106p0_ok : allTrue (kIs [] [] 100000 106) k17R106p0 = true := by decide +kernel
def k17R38p0 : List (List AV × AV) := [
  ([(.int .i64 (0)), (.int .i64 (1))], (.agg [(.bool false), .nils, (.bool false), (.vs [[(.int .u32 (1))]] none)])),
  ([(.int .i64 (1)), (.int .i64 (1))], (.agg [(.bool false), (.vs [[(.int .u32 (1))]] none), (.bool false), (.vs [[(.int .u32 (1))]] none)]))]
theorem k17R38p0_ok : allTrue (kIs [] [] 100000 38) k17R38p0 = true := by decide +kernel
def k17R42p0 : List (List AV × AV) := [
  ([(.agg [(.bool false), (.vs [[(.int .u32 (1))]] none), (.bool false), (.vs [[(.int .u32 (1))]] none)])], (.str [49])),
  ([(.agg [(.bool false), (.vs [[(.int .u32 (1))]] none), (.bool false), (.vs [[(.int .u32 (2))]] none)])], (.str [49, 47, 50])),
  ([(.agg [(.bool true), (.vs [[(.int .u32 (1))]] none), (.bool false), (.vs [[(.int .u32 (2))]] none)])], (.str [45, 49, 47, 50])),
  ([(.agg [(.bool false), .nils, (.bool false), (.vs [[(.int .u32 (1))]] none)])], (.str [48])),
  ([(.agg [(.bool false), (.vs [[(.int .u32 (1))]] none), (.bool false), (.vs [[(.int .u32 (4))]] none)])], (.str [49, 47, 52])),
  ([(.agg [(.bool false), (.vs [[(.int .u32 (1))]] none), (.bool false), (.vs [[(.int .u32 (8))]] none)])], (.str [49, 47, 56])),
  ([(.agg [(.bool false), (.vs [[(.int .u32 (1))]] none), (.bool false), (.vs [[(.int .u32 (16))]] none)])], (.str [49, 47, 49, 54])),
  ([(.agg [(.bool false), (.vs [[(.int .u32 (1))]] none), (.bool false), (.vs [[(.int .u32 (32))]] none)])], (.str [49, 47, 51, 50])),
  ([(.agg [(.bool false), (.vs [[(.int .u32 (1))]] none), (.bool false), (.vs [[(.int .u32 (64))]] none)])], (.str [49, 47, 54, 52])),
  ([(.agg [(.bool false), (.vs [[(.int .u32 (1))]] none), (.bool false), (.vs [[(.int .u32 (128))]] none)])], (.str [49, 47, 49, 50, 56])),
  ([(.agg [(.bool false), (.vs [[(.int .u32 (1))]] none), (.bool false), (.vs [[(.int .u32 (256))]] none)])], (.str [49, 47, 50, 53, 54])),
  ([(.agg [(.bool false), (.vs [[(.int .u32 (1))]] none), (.bool false), (.vs [[(.int .u32 (512))]] none)])], (.str [49, 47, 53, 49, 50])),
  ([(.agg [(.bool false), (.vs [[(.int .u32 (1))]] none), (.bool false), (.vs [[(.int .u32 (1024))]] none)])], (.str [49, 47, 49, 48, 50, 52])),
  ([(.agg [(.bool false), (.vs [[(.int .u32 (2))]] none), (.bool false), (.vs [[(.int .u32 (3))]] none)])], (.str [50, 47, 51])),
  ([(.agg [(.bool true), (.vs [[(.int .u32 (1))]] none), (.bool false), (.vs [[(.int .u32 (1))]] none)])], (.str [45, 49]))]
theorem k17R42p0_ok : allTrue (kIs [] [] 100000 42) k17R42p0 = true := by decide +kernel
def k17R264p0 : List (List AV × AV) := [
  ([(.str [48])], (.int .i64 (0))),
  ([(.str [49])], (.int .i64 (0))),
  ([(.str [50])], (.int .i64 (0))),
  ([(.str [45, 49])], (.int .i64 (0))),
  ([(.str [51])], (.int .i64 (0)))]
theorem k17R264p0_ok : allTrue (kIs [] [] 100000 264) k17R264p0 = true := by decide +kernel
def k17R22p0 : List (List AV × AV) := [
  ([(.int .i64 (0)), (.str [49])], (.agg [(.int .i64 (0)), (.str [49])])),
  ([(.int .i64 (0)), (.str [49, 47, 50])], (.agg [(.int .i64 (0)), (.str [49, 47, 50])])),
  ([(.int .i64 (1)), (.str [49, 47, 50])], (.agg [(.int .i64 (1)), (.str [49, 47, 50])])),
  ([(.int .i64 (1)), (.str [49])], (.agg [(.int .i64 (1)), (.str [49])])),
  ([(.int .i64 (2)), (.str [49, 47, 50])], (.agg [(.int .i64 (2)), (.str [49, 47, 50])])),
  ([(.int .i64 (2)), (.str [49])], (.agg [(.int .i64 (2)), (.str [49])])),
  ([(.int .i64 (3)), (.str [49, 47, 50])], (.agg [(.int .i64 (3)), (.str [49, 47, 50])])),
  ([(.int .i64 (3)), (.str [49])], (.agg [(.int .i64 (3)), (.str [49])])),
  ([(.int .i64 (4)), (.str [49, 47, 50])], (.agg [(.int .i64 (4)), (.str [49, 47, 50])])),
  ([(.int .i64 (4)), (.str [49])], (.agg [(.int .i64 (4)), (.str [49])])),
  ([(.int .i64 (5)), (.str [49, 47, 50])], (.agg [(.int .i64 (5)), (.str [49, 47, 50])])),
  ([(.int .i64 (5)), (.str [49])], (.agg [(.int .i64 (5)), (.str [49])])),
  ([(.int .i64 (6)), (.str [49, 47, 50])], (.agg [(.int .i64 (6)), (.str [49, 47, 50])])),
  ([(.int .i64 (6)), (.str [49])], (.agg [(.int .i64 (6)), (.str [49])])),
  ([(.int .i64 (7)), (.str [49, 47, 50])], (.agg [(.int .i64 (7)), (.str [49, 47, 50])])),
  ([(.int .i64 (7)), (.str [49])], (.agg [(.int .i64 (7)), (.str [49])])),
  ([(.int .i64 (8)), (.str [49, 47, 50])], (.agg [(.int .i64 (8)), (.str [49, 47, 50])])),
  ([(.int .i64 (8)), (.str [49])], (.agg [(.int .i64 (8)), (.str [49])])),
  ([(.int .i64 (9)), (.str [49, 47, 50])], (.agg [(.int .i64 (9)), (.str [49, 47, 50])])),
  ([(.int .i64 (9)), (.str [49])], (.agg [(.int .i64 (9)), (.str [49])])),
  ([(.int .i64 (10)), (.str [49, 47, 50])], (.agg [(.int .i64 (10)), (.str [49, 47, 50])])),
  ([(.int .i64 (10)), (.str [49])], (.agg [(.int .i64 (10)), (.str [49])])),
  ([(.int .i64 (11)), (.str [49, 47, 50])], (.agg [(.int .i64 (11)), (.str [49, 47, 50])])),
  ([(.int .i64 (11)), (.str [49])], (.agg [(.int .i64 (11)), (.str [49])])),
  ([(.int .i64 (1)), (.str [49, 47, 51])], (.agg [(.int .i64 (1)), (.str [49, 47, 51])])),
  ([(.int .i64 (2)), (.str [50, 47, 51])], (.agg [(.int .i64 (2)), (.str [50, 47, 51])]))]
theorem k17R22p0_ok : allTrue (kIs [] [] 100000 22) k17R22p0 = true := by decide +kernel
def k17R21p0 : List (List AV × AV) := [
  ([(.vs [[(.int .i64 (0)), (.str [49])]] (some 1))], (.agg [(.str []), (.str [48]), (.vs [[(.int .i64 (0)), (.str [49])]] (some 1))])),
  ([(.vs [[(.int .i64 (0)), (.str [49, 47, 50])], [(.int .i64 (1)), (.str [49, 47, 50])]] (some 2))], (.agg [(.str []), (.str [48]), (.vs [[(.int .i64 (0)), (.str [49, 47, 50])], [(.int .i64 (1)), (.str [49, 47, 50])]] (some 2))])),
  ([(.vs [[(.int .i64 (1)), (.str [49])]] (some 1))], (.agg [(.str []), (.str [48]), (.vs [[(.int .i64 (1)), (.str [49])]] (some 1))])),
  ([(.vs [[(.int .i64 (0)), (.str [49, 47, 50])], [(.int .i64 (2)), (.str [49, 47, 50])]] (some 2))], (.agg [(.str []), (.str [48]), (.vs [[(.int .i64 (0)), (.str [49, 47, 50])], [(.int .i64 (2)), (.str [49, 47, 50])]] (some 2))])),
  ([(.vs [[(.int .i64 (2)), (.str [49])]] (some 1))], (.agg [(.str []), (.str [48]), (.vs [[(.int .i64 (2)), (.str [49])]] (some 1))])),
  ([(.vs [[(.int .i64 (0)), (.str [49, 47, 50])], [(.int .i64 (3)), (.str [49, 47, 50])]] (some 2))], (.agg [(.str []), (.str [48]), (.vs [[(.int .i64 (0)), (.str [49, 47, 50])], [(.int .i64 (3)), (.str [49, 47, 50])]] (some 2))])),
  ([(.vs [[(.int .i64 (3)), (.str [49])]] (some 1))], (.agg [(.str []), (.str [48]), (.vs [[(.int .i64 (3)), (.str [49])]] (some 1))])),
  ([(.vs [[(.int .i64 (0)), (.str [49, 47, 50])], [(.int .i64 (4)), (.str [49, 47, 50])]] (some 2))], (.agg [(.str []), (.str [48]), (.vs [[(.int .i64 (0)), (.str [49, 47, 50])], [(.int .i64 (4)), (.str [49, 47, 50])]] (some 2))])),
  ([(.vs [[(.int .i64 (4)), (.str [49])]] (some 1))], (.agg [(.str []), (.str [48]), (.vs [[(.int .i64 (4)), (.str [49])]] (some 1))])),
  ([(.vs [[(.int .i64 (0)), (.str [49, 47, 50])], [(.int .i64 (5)), (.str [49, 47, 50])]] (some 2))], (.agg [(.str []), (.str [48]), (.vs [[(.int .i64 (0)), (.str [49, 47, 50])], [(.int .i64 (5)), (.str [49, 47, 50])]] (some 2))])),
  ([(.vs [[(.int .i64 (5)), (.str [49])]] (some 1))], (.agg [(.str []), (.str [48]), (.vs [[(.int .i64 (5)), (.str [49])]] (some 1))])),
  ([(.vs [[(.int .i64 (0)), (.str [49, 47, 50])], [(.int .i64 (6)), (.str [49, 47, 50])]] (some 2))], (.agg [(.str []), (.str [48]), (.vs [[(.int .i64 (0)), (.str [49, 47, 50])], [(.int .i64 (6)), (.str [49, 47, 50])]] (some 2))])),
  ([(.vs [[(.int .i64 (6)), (.str [49])]] (some 1))], (.agg [(.str []), (.str [48]), (.vs [[(.int .i64 (6)), (.str [49])]] (some 1))])),
  ([(.vs [[(.int .i64 (0)), (.str [49, 47, 50])], [(.int .i64 (7)), (.str [49, 47, 50])]] (some 2))], (.agg [(.str []), (.str [48]), (.vs [[(.int .i64 (0)), (.str [49, 47, 50])], [(.int .i64 (7)), (.str [49, 47, 50])]] (some 2))])),
  ([(.vs [[(.int .i64 (7)), (.str [49])]] (some 1))], (.agg [(.str []), (.str [48]), (.vs [[(.int .i64 (7)), (.str [49])]] (some 1))])),
  ([(.vs [[(.int .i64 (0)), (.str [49, 47, 50])], [(.int .i64 (8)), (.str [49, 47, 50])]] (some 2))], (.agg [(.str []), (.str [48]), (.vs [[(.int .i64 (0)), (.str [49, 47, 50])], [(.int .i64 (8)), (.str [49, 47, 50])]] (some 2))])),
  ([(.vs [[(.int .i64 (8)), (.str [49])]] (some 1))], (.agg [(.str []), (.str [48]), (.vs [[(.int .i64 (8)), (.str [49])]] (some 1))])),
  ([(.vs [[(.int .i64 (0)), (.str [49, 47, 50])], [(.int .i64 (9)), (.str [49, 47, 50])]] (some 2))], (.agg [(.str []), (.str [48]), (.vs [[(.int .i64 (0)), (.str [49, 47, 50])], [(.int .i64 (9)), (.str [49, 47, 50])]] (some 2))])),
  ([(.vs [[(.int .i64 (9)), (.str [49])]] (some 1))], (.agg [(.str []), (.str [48]), (.vs [[(.int .i64 (9)), (.str [49])]] (some 1))])),
  ([(.vs [[(.int .i64 (0)), (.str [49, 47, 50])], [(.int .i64 (10)), (.str [49, 47, 50])]] (some 2))], (.agg [(.str []), (.str [48]), (.vs [[(.int .i64 (0)), (.str [49, 47, 50])], [(.int .i64 (10)), (.str [49, 47, 50])]] (some 2))])),
  ([(.vs [[(.int .i64 (10)), (.str [49])]] (some 1))], (.agg [(.str []), (.str [48]), (.vs [[(.int .i64 (10)), (.str [49])]] (some 1))])),
  ([(.vs [[(.int .i64 (0)), (.str [49, 47, 50])], [(.int .i64 (11)), (.str [49, 47, 50])]] (some 2))], (.agg [(.str []), (.str [48]), (.vs [[(.int .i64 (0)), (.str [49, 47, 50])], [(.int .i64 (11)), (.str [49, 47, 50])]] (some 2))])),
  ([(.vs [[(.int .i64 (11)), (.str [49])]] (some 1))], (.agg [(.str []), (.str [48]), (.vs [[(.int .i64 (11)), (.str [49])]] (some 1))])),
  ([(.vs [[(.int .i64 (2)), (.str [49, 47, 50])], [(.int .i64 (3)), (.str [49, 47, 50])]] (some 2))], (.agg [(.str []), (.str [48]), (.vs [[(.int .i64 (2)), (.str [49, 47, 50])], [(.int .i64 (3)), (.str [49, 47, 50])]] (some 2))])),
  ([(.vs [[(.int .i64 (1)), (.str [49, 47, 51])], [(.int .i64 (2)), (.str [50, 47, 51])]] (some 2))], (.agg [(.str []), (.str [48]), (.vs [[(.int .i64 (1)), (.str [49, 47, 51])], [(.int .i64 (2)), (.str [50, 47, 51])]] (some 2))]))]
theorem k17R21p0_ok : allTrue (kIs [] [] 100000 21) k17R21p0 = true := by decide +kernel
def k17R256p0 : List (List AV × AV) := [
  ([(.str [48])], (.int .i64 (0))),
  ([(.str [49])], (.int .i64 (1))),
  ([(.str [50])], (.int .i64 (2))),
  ([(.str [51])], (.int .i64 (3)))]
theorem k17R256p0_ok : allTrue (kIs [] [] 100000 256) k17R256p0 = true := by decide +kernel
end
end Go.Abs

namespace Go.Abs
noncomputable section
open Go.Proofs

def k17T0 : List (FuncId × List (List AV × AV)) := (21, k17R21p0) :: (22, k17R22p0) :: (38, k17R38p0) :: (41, k17R41p0) :: (42, k17R42p0) :: (106, k17R106p0) :: (256, k17R256p0) :: (264, k17R264p0) :: []
theorem k17T0_ok : TabHolds Tryz.prog k17T0 := (tab_cons tab_nil k17R21p0_ok (tab_cons tab_nil k17R22p0_ok (tab_cons tab_nil k17R38p0_ok (tab_cons tab_nil k17R41p0_ok (tab_cons tab_nil k17R42p0_ok (tab_cons tab_nil k17R106p0_ok (tab_cons tab_nil k17R256p0_ok (tab_cons tab_nil k17R264p0_ok tab_nil))))))))
end
end Go.Abs

namespace Go.Abs
noncomputable section
open Go.Proofs
set_option maxRecDepth 1000000

def k17R255p0 : List (List AV × AV) := [
  ([(.str [48])], (.tup [(.str [48]), (.str [49]), (.int .i64 (0))])),
  ([(.str [49])], (.tup [(.str [49]), (.str [49]), (.int .i64 (0))])),
  ([(.str [49, 47, 50])], (.tup [(.str [49]), (.str [50]), (.int .i64 (0))])),
  ([(.str [49, 47, 51])], (.tup [(.str [49]), (.str [51]), (.int .i64 (0))])),
  ([(.str [50, 47, 51])], (.tup [(.str [50]), (.str [51]), (.int .i64 (0))]))]
theorem k17R255p0_ok : allTrue (kIs k17T0 [] 100000 255) k17R255p0 = true := by decide +kernel
def k17R166p0 : List (List AV × AV) := [
  ([(.str [49])], (.int .i64 (0))),
  ([(.str [49, 47, 50])], (.int .i64 (0))),
  ([(.str [45, 49, 47, 50])], (.int .i64 (0))),
  ([(.str [48])], (.int .i64 (0))),
  ([(.str [50, 47, 51])], (.int .i64 (0))),
  ([(.str [45, 49])], (.int .i64 (0)))]
theorem k17R166p0_ok : allTrue (kIs k17T0 [] 100000 166) k17R166p0 = true := by decide +kernel
def k17R254p0 : List (List AV × AV) := [
  ([(.str [48])], (.bool true)),
  ([(.str [49])], (.bool true)),
  ([(.str [49, 47, 50])], (.bool true)),
  ([(.str [49, 47, 51])], (.bool true)),
  ([(.str [50, 47, 51])], (.bool true))]
theorem k17R254p0_ok : allTrue (kIs k17T0 [] 100000 254) k17R254p0 = true := by decide +kernel
end
end Go.Abs

namespace Go.Abs
noncomputable section
open Go.Proofs

def k17T1 : List (FuncId × List (List AV × AV)) := (166, k17R166p0) :: (254, k17R254p0) :: (255, k17R255p0) :: k17T0
theorem k17T1_ok : TabHolds Tryz.prog k17T1 := (tab_cons k17T0_ok k17R166p0_ok (tab_cons k17T0_ok k17R254p0_ok (tab_cons k17T0_ok k17R255p0_ok k17T0_ok)))
end
end Go.Abs
