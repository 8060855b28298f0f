/-
  Steps to a law of this program: SK20L5P3, SK20L5P4.
  Conditions: none.
-/
import Derived.Test.YtddbfdneienioaaGreatDoorB46
set_option linter.unusedVariables false
set_option linter.unusedSimpArgs false
set_option linter.unusedSectionVars false
namespace Go.Abs
noncomputable section
open Go.Proofs
abbrev kp50 (n : Int) : AV := .int .i64 n
abbrev ke50 : AV := .str []
abbrev kz50 : AV := .str [48]
abbrev ko50 : AV := .str [49]
abbrev kh50 : AV := .str [49, 47, 50]
abbrev kq50x0 : AV := .agg [.vs [[kp50 (0)],[kp50 (0)],[kp50 (0)],[kp50 (0)],[kp50 (0)]] (some 5),.vs [[.vs [[ke50,.str [55],.vs [[kp50 (1),kh50],[kp50 (3),kh50]] (some 2)]] (some 1)],[.vs [[ke50,ko50,.vs [[kp50 (2),ko50]] (some 1)]] (some 1)],[.vs [[ke50,.str [50],.vs [[kp50 (1),.str [49,47,51]],[kp50 (2),.str [50,47,51]]] (some 2)],[ke50,.str [57],.vs [[kp50 (3),ko50]] (some 1)]] (some 2)],[.vs [[ke50,kh50,.vs [[kp50 (3),ko50]] (some 1)]] (some 1)],[.vs [[ke50,.str [49,48,48],.vs [[kp50 (0),.str [49,47,49,48]],[kp50 (4),.str [57,47,49,48]]] (some 2)]] (some 1)]] (some 5)]
set_option maxRecDepth 1000000

def k20R28p0 : List (List AV × AV) := [
([.agg [.vs [[kp50 (0)],[kp50 (0)],[kp50 (0)],[kp50 (0)],[kp50 (0)],[kp50 (0)],[kp50 (0)],[kp50 (0)],[kp50 (0)],[kp50 (0)],[kp50 (0)],[kp50 (0)]] (some 12),.vs [[.vs [[ke50,kz50,.vs [[kp50 (1),ko50]] (some 1)]] (some 1)],[.vs [[ke50,ko50,.vs [[kp50 (2),ko50]] (some 1)]] (some 1)],[.vs [[ke50,.str [50],.vs [[kp50 (3),ko50]] (some 1)]] (some 1)],[.vs [[ke50,.str [51],.vs [[kp50 (4),ko50]] (some 1)]] (some 1)],[.vs [[ke50,.str [52],.vs [[kp50 (5),ko50]] (some 1)]] (some 1)],[.vs [[ke50,.str [53],.vs [[kp50 (6),ko50]] (some 1)]] (some 1)],[.vs [[ke50,.str [54],.vs [[kp50 (7),ko50]] (some 1)]] (some 1)],[.vs [[ke50,.str [55],.vs [[kp50 (8),ko50]] (some 1)]] (some 1)],[.vs [[ke50,.str [56],.vs [[kp50 (9),ko50]] (some 1)]] (some 1)],[.vs [[ke50,.str [57],.vs [[kp50 (10),ko50]] (some 1)]] (some 1)],[.vs [[ke50,.str [49,48],.vs [[kp50 (11),ko50]] (some 1)]] (some 1)],[.vs [[ke50,.str [49,49],.vs [[kp50 (0),ko50]] (some 1)]] (some 1)]] none]],(.ifc 999999 (.tup [.vs [[.str [49,49,47,50]],[.str [49,49,47,50]],[.str [49,49,47,50]],[.str [49,49,47,50]],[.str [49,49,47,50]],[.str [49,49,47,50]],[.str [49,49,47,50]],[.str [49,49,47,50]],[.str [49,49,47,50]],[.str [49,49,47,50]],[.str [49,49,47,50]],[.str [49,49,47,50]]] (some 12),kp50 (0)]))),
([.agg [.vs [[kp50 (0)],[kp50 (0)],[kp50 (0)],[kp50 (0)],[kp50 (0)]] none,.vs [[.vs [[ke50,.str [55],.vs [[kp50 (1),kh50],[kp50 (3),kh50]] none]] none],[.vs [[ke50,ko50,.vs [[kp50 (2),ko50]] none]] none],[.vs [[ke50,.str [50],.vs [[kp50 (1),.str [49,47,51]],[kp50 (2),.str [50,47,51]]] none]] none],[.vs [[ke50,kh50,.vs [[kp50 (3),ko50]] none]] none],[.vs [[ke50,.str [49,48,48],.vs [[kp50 (0),.str [49,47,49,48]],[kp50 (4),.str [57,47,49,48]]] none]] none]] (some 5)]],(.ifc 999999 (.tup [.vs [[.str [57,47,56]],[.str [55,47,52]],[.str [55,47,52]],[kh50],[.str [57,47,56]]] (some 5),kp50 (0)]))),
([kq50x0],(.tup [.nils,kp50 (111)])),
([.agg [.nils,.nils]],(.tup [.nils,kp50 (110)]))]
theorem k20R28p0_ok : allTrue (kIs k20T4 [] 100000 28) k20R28p0 = true := by decide +kernel
end
end Go.Abs

namespace Go.Abs
noncomputable section
open Go.Proofs
set_option maxRecDepth 1000000

def k20R29p2 : List (List AV × AV) := [
([kq50x0,.bool true],(.ifc 999999 (.tup [.vs [[.str [57,47,56]],[.str [55,47,52]],[.str [55,47,52]],[kh50],[.str [57,47,56]]] (some 5),.vs [[kp50 (0)],[kp50 (0)],[kp50 (0)],[kp50 (0)],[kp50 (0)]] none,kp50 (0)])))]
theorem k20R29p2_ok : allTrue (kIs k20T4 [] 100000 29) k20R29p2 = true := by decide +kernel
end
end Go.Abs
