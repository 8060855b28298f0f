/-
  Steps to a law of this program: SK12.
  Conditions: none.
-/
import Derived.Test.YtigpcilohipjhaaGreatDoorB28
set_option linter.unusedVariables false
set_option linter.unusedSimpArgs false
set_option linter.unusedSectionVars false
namespace Go.Abs
noncomputable section
open Go.Proofs
set_option maxRecDepth 1000000

def k12R33 : List (List AV × AV) := [
  ([(.int .i64 (0)), (.int .i64 (1))], (.agg [(.bool false), .nils, (.bool false), (.vs [[(.int .u32 (1))]] none)]))]
theorem k12R33_ok : allTrue (kIs [] 2000 33) k12R33 = true := by decide +kernel
def k12R37 : List (List AV × AV) := [
  ([(.str [49])], (.agg [(.bool false), (.vs [[(.int .u32 (1))]] none), (.bool false), (.vs [[(.int .u32 (1))]] none)])),
  ([(.str [48])], (.agg [(.bool false), (.vs [] none), (.bool false), (.vs [[(.int .u32 (1))]] none)])),
  ([(.str [53])], (.agg [(.bool false), (.vs [[(.int .u32 (5))]] none), (.bool false), (.vs [[(.int .u32 (1))]] none)])),
  ([(.str [49, 47, 50])], (.agg [(.bool false), (.vs [[(.int .u32 (1))]] none), (.bool false), (.vs [[(.int .u32 (2))]] none)])),
  ([(.str [49, 47, 51])], (.agg [(.bool false), (.vs [[(.int .u32 (1))]] none), (.bool false), (.vs [[(.int .u32 (3))]] none)])),
  ([(.str [50, 47, 51])], (.agg [(.bool false), (.vs [[(.int .u32 (2))]] none), (.bool false), (.vs [[(.int .u32 (3))]] none)])),
  ([(.str [49, 47, 57, 57, 57, 57])], (.agg [(.bool false), (.vs [[(.int .u32 (1))]] none), (.bool false), (.vs [[(.int .u32 (9999))]] none)])),
  ([(.str [57, 57, 57, 56, 47, 57, 57, 57, 57])], (.agg [(.bool false), (.vs [[(.int .u32 (9998))]] none), (.bool false), (.vs [[(.int .u32 (9999))]] none)])),
  ([(.str [49, 47, 52])], (.agg [(.bool false), (.vs [[(.int .u32 (1))]] none), (.bool false), (.vs [[(.int .u32 (4))]] none)])),
  ([(.str [51, 47, 50])], (.agg [(.bool false), (.vs [[(.int .u32 (3))]] none), (.bool false), (.vs [[(.int .u32 (2))]] none)])),
  ([(.str [45, 49, 47, 50])], (.agg [(.bool true), (.vs [[(.int .u32 (1))]] none), (.bool false), (.vs [[(.int .u32 (2))]] none)])),
  ([(.str [50, 47, 52])], (.agg [(.bool false), (.vs [[(.int .u32 (2))]] none), (.bool false), (.vs [[(.int .u32 (4))]] none)])),
  ([(.str [49, 47, 49, 48, 48, 48, 48])], (.agg [(.bool false), (.vs [[(.int .u32 (1))]] none), (.bool false), (.vs [[(.int .u32 (10000))]] none)]))]
theorem k12R37_ok : allTrue (kIs [] 2000 37) k12R37 = true := by decide +kernel
def k12R145 : List (List AV × AV) := [
  ([(.str [49])], (.int .i64 (0))),
  ([(.str [48])], (.int .i64 (0))),
  ([(.str [53])], (.int .i64 (0))),
  ([(.str [50])], (.int .i64 (0))),
  ([(.str [51])], (.int .i64 (0))),
  ([(.str [])], (.int .i64 (5))),
  ([(.str [57, 57, 57, 57])], (.int .i64 (0))),
  ([(.str [57, 57, 57, 56])], (.int .i64 (0))),
  ([(.str [52])], (.int .i64 (0))),
  ([(.str [45, 49])], (.int .i64 (0))),
  ([(.str [49, 48, 48, 48, 48])], (.int .i64 (0)))]
theorem k12R145_ok : allTrue (kIs [] 2000 145) k12R145 = true := by decide +kernel
def k12T0 : List (FuncId × List (List AV × AV)) := (33, k12R33) :: (37, k12R37) :: (145, k12R145) :: []
theorem k12T0_ok : TabHolds Tryz.prog k12T0 := (tab_cons tab_nil k12R33_ok (tab_cons tab_nil k12R37_ok (tab_cons tab_nil k12R145_ok tab_nil)))
def k12R72 : List (List AV × AV) := [
  ([(.str [49])], (.bool true)),
  ([(.str [48])], (.bool true)),
  ([(.str [53])], (.bool true)),
  ([(.str [49, 47, 50])], (.bool true)),
  ([(.str [49, 47, 51])], (.bool true)),
  ([(.str [50, 47, 51])], (.bool true)),
  ([(.str [])], (.bool false)),
  ([(.str [49, 47, 57, 57, 57, 57])], (.bool true)),
  ([(.str [57, 57, 57, 56, 47, 57, 57, 57, 57])], (.bool true)),
  ([(.str [49, 47, 52])], (.bool true)),
  ([(.str [51, 47, 50])], (.bool true)),
  ([(.str [45, 49, 47, 50])], (.bool true)),
  ([(.str [50, 47, 52])], (.bool false)),
  ([(.str [49, 47, 49, 48, 48, 48, 48])], (.bool false))]
theorem k12R72_ok : allTrue (kIs k12T0 2000 72) k12R72 = true := by decide +kernel
def k12R175 : List (List AV × AV) := [
  ([(.str [49])], (.tup [(.str [49]), (.str [49]), (.int .i64 (0))])),
  ([(.str [48])], (.tup [(.str [48]), (.str [49]), (.int .i64 (0))])),
  ([(.str [53])], (.tup [(.str [53]), (.str [49]), (.int .i64 (0))])),
  ([(.str [49, 47, 50])], (.tup [(.str [49]), (.str [50]), (.int .i64 (0))])),
  ([(.str [49, 47, 51])], (.tup [(.str [49]), (.str [51]), (.int .i64 (0))])),
  ([(.str [50, 47, 51])], (.tup [(.str [50]), (.str [51]), (.int .i64 (0))]))]
theorem k12R175_ok : allTrue (kIs k12T0 2000 175) k12R175 = true := by decide +kernel
def k12R176 : List (List AV × AV) := [
  ([(.str [49])], (.int .i64 (1))),
  ([(.str [48])], (.int .i64 (0))),
  ([(.str [53])], (.int .i64 (5))),
  ([(.str [50])], (.int .i64 (2))),
  ([(.str [51])], (.int .i64 (3)))]
theorem k12R176_ok : allTrue (kIs k12T0 2000 176) k12R176 = true := by decide +kernel
def k12T1 : List (FuncId × List (List AV × AV)) := (72, k12R72) :: (175, k12R175) :: (176, k12R176) :: k12T0
theorem k12T1_ok : TabHolds Tryz.prog k12T1 := (tab_cons k12T0_ok k12R72_ok (tab_cons k12T0_ok k12R175_ok (tab_cons k12T0_ok k12R176_ok k12T0_ok)))
def k12R142 : List (List AV × AV) := [
  ([(.str [49])], (.tup [(.int .i64 (1)), (.int .i64 (1)), (.bool true)])),
  ([(.str [48])], (.tup [(.int .i64 (0)), (.int .i64 (1)), (.bool true)])),
  ([(.str [53])], (.tup [(.int .i64 (5)), (.int .i64 (1)), (.bool true)])),
  ([(.str [49, 47, 50])], (.tup [(.int .i64 (1)), (.int .i64 (2)), (.bool true)])),
  ([(.str [49, 47, 51])], (.tup [(.int .i64 (1)), (.int .i64 (3)), (.bool true)])),
  ([(.str [50, 47, 51])], (.tup [(.int .i64 (2)), (.int .i64 (3)), (.bool true)]))]
theorem k12R142_ok : allTrue (kIs k12T1 2000 142) k12R142 = true := by decide +kernel
def k12T2 : List (FuncId × List (List AV × AV)) := (142, k12R142) :: k12T1
theorem k12T2_ok : TabHolds Tryz.prog k12T2 := (tab_cons k12T1_ok k12R142_ok k12T1_ok)
def k12R41 : List (List AV × AV) := [
  ([(.agg [(.vs [[(.int .i64 (0))], [(.int .i64 (1))], [(.int .i64 (0))]] (some 3)), (.vs [[(.vs [[(.str []), (.str [49]), (.vs [[(.int .i64 (0)), (.str [49, 47, 50])], [(.int .i64 (1)), (.str [49, 47, 50])]] (some 2))], [(.str []), (.str [49]), (.vs [[(.int .i64 (0)), (.str [49, 47, 50])], [(.int .i64 (1)), (.str [49, 47, 50])]] (some 2))]] none)], [(.vs [[(.str []), (.str [48]), (.vs [[(.int .i64 (0)), (.str [49, 47, 51])], [(.int .i64 (2)), (.str [50, 47, 51])]] (some 2))]] (some 1))], [(.vs [[(.str []), (.str [53]), (.vs [[(.int .i64 (2)), (.str [49])]] (some 1))]] (some 1))]] (some 3))])], (.int .i64 (0))),
  ([(.agg [.nils, .nils])], (.int .i64 (110))),
  ([(.agg [(.vs [[(.int .i64 (0))], [(.int .i64 (1))], [(.int .i64 (0))]] (some 3)), (.vs [[(.vs [[(.str []), (.str [49]), (.vs [[(.int .i64 (0)), (.str [49, 47, 50])], [(.int .i64 (1)), (.str [49, 47, 50])]] (some 2))]] (some 1))], [(.vs [[(.str []), (.str [48]), (.vs [[(.int .i64 (0)), (.str [49, 47, 51])], [(.int .i64 (2)), (.str [50, 47, 51])]] (some 2))]] (some 1))], [(.vs [[(.str []), (.str [53]), (.vs [[(.int .i64 (2)), (.str [49])]] (some 1))]] (some 1))]] (some 3))])], (.int .i64 (0))),
  ([(.agg [(.vs [[(.int .i64 (0))], [(.int .i64 (0))]] (some 2)), (.vs [[(.vs [[(.str []), (.str [48]), (.vs [[(.int .i64 (0)), (.str [49, 47, 50])], [(.int .i64 (1)), (.str [49, 47, 50])]] (some 2))]] (some 1))], [(.vs [[(.str []), (.str [48]), (.vs [[(.int .i64 (1)), (.str [49])]] (some 1))]] (some 1))]] (some 2))])], (.int .i64 (0))),
  ([(.agg [(.vs [[(.int .i64 (0))], [(.int .i64 (0))]] (some 2)), (.vs [[(.vs [[(.str []), (.str [48]), (.vs [[(.int .i64 (1)), (.str [49])]] (some 1))]] (some 1))], [(.vs [[(.str []), (.str [48]), (.vs [[(.int .i64 (0)), (.str [49])]] (some 1))]] (some 1))]] (some 2))])], (.int .i64 (0)))]
theorem k12R41_ok : allTrue (kIs k12T2 2000 41) k12R41 = true := by decide +kernel
def k12T3 : List (FuncId × List (List AV × AV)) := (41, k12R41) :: k12T2
theorem k12T3_ok : TabHolds Tryz.prog k12T3 := (tab_cons k12T2_ok k12R41_ok k12T2_ok)
end
end Go.Abs
