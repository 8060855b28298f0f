/-
  Steps to a law of this program: SK17L6P0, SK17J6, SK17L7P0, SK17J7.
  Conditions: none.
-/
import Derived.Test.YtogjgbipgnpggaaGreatDoorB38
set_option linter.unusedVariables false
set_option linter.unusedSimpArgs false
set_option linter.unusedSectionVars false
namespace Go.Abs
noncomputable section
open Go.Proofs
abbrev kp39 (n : Int) : AV := .int .i64 n
abbrev ke39 : AV := .str []
abbrev kz39 : AV := .str [48]
abbrev ko39 : AV := .str [49]
abbrev kh39 : AV := .str [49, 47, 50]
set_option maxRecDepth 1000000

def k17R27p0 : List (List AV × AV) := [
([.agg [.vs [[kp39 0],[kp39 0],[kp39 0],[kp39 1]] (some 4),.vs [[.vs [[ke39,kz39,.vs [[kp39 1,ko39]] (some 1)],[ke39,kz39,.vs [[kp39 2,kh39],[kp39 3,kh39]] (some 2)]] (some 2)],[.vs [[ke39,kz39,.vs [[kp39 0,ko39]] (some 1)],[ke39,kz39,.vs [[kp39 1,.str [49,47,51]],[kp39 2,.str [50,47,51]]] (some 2)]] (some 2)],[.vs [[ke39,kz39,.vs [[kp39 2,ko39]] (some 1)],[ke39,kz39,.vs [[kp39 0,kh39],[kp39 3,kh39]] (some 2)]] (some 2)],[.vs [[ke39,kz39,.vs [[kp39 3,ko39]] (some 1)]] (some 1)]] (some 4)],.int .u64 16,.bool true],(.tup [.nils,kp39 111])),
([.agg [.nils,.nils],.int .u64 1,.bool true],(.tup [.nils,kp39 110])),
([.agg [.vs [[kp39 0],[kp39 0],[kp39 0],[kp39 0]] (some 4),.vs [[.vs [[ke39,kz39,.vs [[kp39 1,ko39]] (some 1)],[ke39,kz39,.vs [[kp39 2,kh39],[kp39 3,kh39]] (some 2)]] (some 2)],[.vs [[ke39,kz39,.vs [[kp39 0,ko39]] (some 1)],[ke39,kz39,.vs [[kp39 1,.str [49,47,51]],[kp39 2,.str [50,47,51]]] (some 2)]] (some 2)],[.vs [[ke39,kz39,.vs [[kp39 2,ko39]] (some 1)],[ke39,kz39,.vs [[kp39 0,kh39],[kp39 3,kh39]] (some 2)]] (some 2)],[.vs [[ke39,kz39,.vs [[kp39 3,ko39]] (some 1)]] (some 1)]] (some 4)],.int .u64 16,.bool true],(.tup [.nils,kp39 2])),
([.agg [.vs [[kp39 0],[kp39 0],[kp39 0],[kp39 0]] (some 4),.vs [[.vs [[ke39,kz39,.vs [[kp39 1,ko39]] (some 1)],[ke39,kz39,.vs [[kp39 2,kh39],[kp39 3,kh39]] (some 2)]] (some 2)],[.vs [[ke39,kz39,.vs [[kp39 0,ko39]] (some 1)],[ke39,kz39,.vs [[kp39 1,.str [49,47,51]],[kp39 2,.str [50,47,51]]] (some 2)]] (some 2)],[.vs [[ke39,kz39,.vs [[kp39 2,ko39]] (some 1)],[ke39,kz39,.vs [[kp39 0,kh39],[kp39 3,kh39]] (some 2)]] (some 2)],[.vs [[ke39,kz39,.vs [[kp39 3,ko39]] (some 1)]] (some 1)]] (some 4)],.int .u64 8,.bool true],(.tup [.vs [[ko39],[ko39],[ko39],[ko39]] (some 4),kp39 0])),
([.agg [.vs [[kp39 0],[kp39 0],[kp39 0],[kp39 0]] (some 4),.vs [[.vs [[ke39,kz39,.vs [[kp39 1,ko39]] (some 1)],[ke39,kz39,.vs [[kp39 2,kh39],[kp39 3,kh39]] (some 2)]] (some 2)],[.vs [[ke39,kz39,.vs [[kp39 0,ko39]] (some 1)],[ke39,kz39,.vs [[kp39 1,.str [49,47,51]],[kp39 2,.str [50,47,51]]] (some 2)]] (some 2)],[.vs [[ke39,kz39,.vs [[kp39 2,ko39]] (some 1)],[ke39,kz39,.vs [[kp39 0,kh39],[kp39 3,kh39]] (some 2)]] (some 2)],[.vs [[ke39,kz39,.vs [[kp39 3,ko39]] (some 1)]] (some 1)]] (some 4)],.int .u64 8,.bool false],(.tup [.vs [[kz39],[kz39],[kz39],[ko39]] (some 4),kp39 0])),
([.agg [.vs [[kp39 0],[kp39 0],[kp39 0],[kp39 0]] (some 4),.vs [[.vs [[ke39,kz39,.vs [[kp39 1,ko39]] (some 1)],[ke39,kz39,.vs [[kp39 2,kh39],[kp39 3,kh39]] (some 2)]] (some 2)],[.vs [[ke39,kz39,.vs [[kp39 0,ko39]] (some 1)],[ke39,kz39,.vs [[kp39 1,.str [49,47,51]],[kp39 2,.str [50,47,51]]] (some 2)]] (some 2)],[.vs [[ke39,kz39,.vs [[kp39 2,ko39]] (some 1)],[ke39,kz39,.vs [[kp39 0,kh39],[kp39 3,kh39]] (some 2)]] (some 2)],[.vs [[ke39,kz39,.vs [[kp39 3,ko39]] (some 1)]] (some 1)]] (some 4)],.int .u64 4,.bool true],(.tup [.vs [[ko39],[ko39],[ko39],[kz39]] (some 4),kp39 0])),
([.agg [.vs [[kp39 0],[kp39 0],[kp39 0],[kp39 0]] (some 4),.vs [[.vs [[ke39,kz39,.vs [[kp39 1,ko39]] (some 1)],[ke39,kz39,.vs [[kp39 2,kh39],[kp39 3,kh39]] (some 2)]] (some 2)],[.vs [[ke39,kz39,.vs [[kp39 0,ko39]] (some 1)],[ke39,kz39,.vs [[kp39 1,.str [49,47,51]],[kp39 2,.str [50,47,51]]] (some 2)]] (some 2)],[.vs [[ke39,kz39,.vs [[kp39 2,ko39]] (some 1)],[ke39,kz39,.vs [[kp39 0,kh39],[kp39 3,kh39]] (some 2)]] (some 2)],[.vs [[ke39,kz39,.vs [[kp39 3,ko39]] (some 1)]] (some 1)]] (some 4)],.int .u64 2,.bool true],(.tup [.vs [[ko39],[ko39],[kh39],[kz39]] (some 4),kp39 0])),
([.agg [.vs [[kp39 0],[kp39 0],[kp39 0],[kp39 0]] (some 4),.vs [[.vs [[ke39,kz39,.vs [[kp39 1,ko39]] (some 1)],[ke39,kz39,.vs [[kp39 2,kh39],[kp39 3,kh39]] (some 2)]] (some 2)],[.vs [[ke39,kz39,.vs [[kp39 0,ko39]] (some 1)],[ke39,kz39,.vs [[kp39 1,.str [49,47,51]],[kp39 2,.str [50,47,51]]] (some 2)]] (some 2)],[.vs [[ke39,kz39,.vs [[kp39 2,ko39]] (some 1)],[ke39,kz39,.vs [[kp39 0,kh39],[kp39 3,kh39]] (some 2)]] (some 2)],[.vs [[ke39,kz39,.vs [[kp39 3,ko39]] (some 1)]] (some 1)]] (some 4)],.int .u64 2,.bool false],(.tup [.vs [[kz39],[ko39],[kz39],[kz39]] (some 4),kp39 0])),
([.agg [.vs [[kp39 0],[kp39 0],[kp39 0],[kp39 0]] (some 4),.vs [[.vs [[ke39,kz39,.vs [[kp39 1,ko39]] (some 1)],[ke39,kz39,.vs [[kp39 2,kh39],[kp39 3,kh39]] (some 2)]] (some 2)],[.vs [[ke39,kz39,.vs [[kp39 0,ko39]] (some 1)],[ke39,kz39,.vs [[kp39 1,.str [49,47,51]],[kp39 2,.str [50,47,51]]] (some 2)]] (some 2)],[.vs [[ke39,kz39,.vs [[kp39 2,ko39]] (some 1)],[ke39,kz39,.vs [[kp39 0,kh39],[kp39 3,kh39]] (some 2)]] (some 2)],[.vs [[ke39,kz39,.vs [[kp39 3,ko39]] (some 1)]] (some 1)]] (some 4)],.int .u64 9,.bool false],(.tup [.vs [[ko39],[kz39],[kz39],[ko39]] (some 4),kp39 0])),
([.agg [.vs [[kp39 0],[kp39 0],[kp39 0],[kp39 0]] (some 4),.vs [[.vs [[ke39,kz39,.vs [[kp39 1,ko39]] (some 1)],[ke39,kz39,.vs [[kp39 2,kh39],[kp39 3,kh39]] (some 2)]] (some 2)],[.vs [[ke39,kz39,.vs [[kp39 0,ko39]] (some 1)],[ke39,kz39,.vs [[kp39 1,.str [49,47,51]],[kp39 2,.str [50,47,51]]] (some 2)]] (some 2)],[.vs [[ke39,kz39,.vs [[kp39 2,ko39]] (some 1)],[ke39,kz39,.vs [[kp39 0,kh39],[kp39 3,kh39]] (some 2)]] (some 2)],[.vs [[ke39,kz39,.vs [[kp39 3,ko39]] (some 1)]] (some 1)]] (some 4)],.int .u64 0,.bool true],(.tup [.vs [[kz39],[kz39],[kz39],[kz39]] (some 4),kp39 0]))]
theorem k17R27p0_ok : allTrue (kIs k17T5 [] 100000 27) k17R27p0 = true := by decide +kernel
end
end Go.Abs

namespace Go.Abs
noncomputable section
open Go.Proofs

def k17T6 : List (FuncId × List (List AV × AV)) := (27, k17R27p0) :: k17T5
theorem k17T6_ok : TabHolds Tryz.prog k17T6 := (tab_cons k17T5_ok k17R27p0_ok k17T5_ok)
end
end Go.Abs

namespace Go.Abs
noncomputable section
open Go.Proofs
set_option maxRecDepth 1000000

def k17R72p0 : List (List AV × AV) := [
([.int .u64 8,.bool true,.vs [[ko39],[ko39],[ko39],[ko39]] (some 4)],(.bool true)),
([.int .u64 8,.bool false,.vs [[kz39],[kz39],[kz39],[ko39]] (some 4)],(.bool true)),
([.int .u64 4,.bool true,.vs [[ko39],[ko39],[ko39],[kz39]] (some 4)],(.bool true)),
([.int .u64 2,.bool true,.vs [[ko39],[ko39],[kh39],[kz39]] (some 4)],(.bool true)),
([.int .u64 2,.bool false,.vs [[kz39],[ko39],[kz39],[kz39]] (some 4)],(.bool true)),
([.int .u64 9,.bool false,.vs [[ko39],[kz39],[kz39],[ko39]] (some 4)],(.bool true)),
([.int .u64 0,.bool true,.vs [[kz39],[kz39],[kz39],[kz39]] (some 4)],(.bool true))]
theorem k17R72p0_ok : allTrue (kIs k17T6 [] 100000 72) k17R72p0 = true := by decide +kernel
end
end Go.Abs

namespace Go.Abs
noncomputable section
open Go.Proofs

def k17T7 : List (FuncId × List (List AV × AV)) := (72, k17R72p0) :: k17T6
theorem k17T7_ok : TabHolds Tryz.prog k17T7 := (tab_cons k17T6_ok k17R72p0_ok k17T6_ok)
end
end Go.Abs
