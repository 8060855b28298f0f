/-
  Steps to a law of this program: SK20L3P1, SK20L3P5.
  Conditions: none.
-/
import Derived.Test.YtddbfdneienioaaGreatDoorB37
set_option linter.unusedVariables false
set_option linter.unusedSimpArgs false
set_option linter.unusedSectionVars false
namespace Go.Abs
noncomputable section
open Go.Proofs
abbrev kp41 (n : Int) : AV := .int .i64 n
abbrev ke41 : AV := .str []
abbrev kz41 : AV := .str [48]
abbrev ko41 : AV := .str [49]
abbrev kh41 : AV := .str [49, 47, 50]
abbrev kq41x0 : AV := .vs [[.vs [[ke41,.str [55],.vs [[kp41 (1),kh41],[kp41 (3),kh41]] (some 2)]] (some 1)],[.vs [[ke41,ko41,.vs [[kp41 (2),ko41]] (some 1)]] (some 1)],[.vs [[ke41,.str [50],.vs [[kp41 (1),.str [49,47,51]],[kp41 (2),.str [50,47,51]]] (some 2)],[ke41,.str [57],.vs [[kp41 (3),ko41]] (some 1)]] (some 2)],[.vs [[ke41,kh41,.vs [[kp41 (3),ko41]] (some 1)]] (some 1)],[.vs [[ke41,.str [49,48,48],.vs [[kp41 (0),.str [49,47,49,48]],[kp41 (4),.str [57,47,49,48]]] (some 2)]] (some 1)]] (some 5)
abbrev kq41x1 : AV := .vs [[.vs [[ko41],[.str [45,49,47,50]],[kz41],[.str [45,49,47,50]],[kz41]] (some 5)],[.vs [[kz41],[ko41],[.str [45,49]],[kz41],[kz41]] (some 5)],[.vs [[kz41],[kz41],[ko41],[.str [45,49]],[kz41]] (some 5)],[.vs [[kz41],[kz41],[kz41],[ko41],[kz41]] (some 5)],[.vs [[.str [45,49,47,49,48]],[kz41],[kz41],[kz41],[.str [49,47,49,48]]] (some 5)]] none
abbrev kq41x2 : AV := .vs [[ke41,.str [50],.vs [[kp41 (3),ko41]] none]] none
abbrev kq41x3 : AV := .vs [[kp41 (0)],[kp41 (0)],[kp41 (0)],[kp41 (0)]] none
abbrev kq41x4 : AV := .vs [[ke41,ko41,.vs [[kp41 (1),ko41]] none]] none
abbrev kq41x5 : AV := .vs [[ke41,kz41,.vs [[kp41 (2),ko41]] none]] none
abbrev kq41x6 : AV := .vs [[ke41,.str [49,48,48],.vs [[kp41 (0),.str [49,47,49,48]],[kp41 (4),.str [57,47,49,48]]] none]] none
set_option maxRecDepth 1000000

def k20R54p0 : List (List AV × AV) := [
([.agg [.vs [[kp41 (0)],[kp41 (0)],[kp41 (0)],[kp41 (0)],[kp41 (0)],[kp41 (0)],[kp41 (0)],[kp41 (0)],[kp41 (0)],[kp41 (0)],[kp41 (0)],[kp41 (0)]] (some 12),.vs [[.vs [[ke41,kz41,.vs [[kp41 (1),ko41]] (some 1)]] (some 1)],[.vs [[ke41,ko41,.vs [[kp41 (2),ko41]] (some 1)]] (some 1)],[.vs [[ke41,.str [50],.vs [[kp41 (3),ko41]] (some 1)]] (some 1)],[.vs [[ke41,.str [51],.vs [[kp41 (4),ko41]] (some 1)]] (some 1)],[.vs [[ke41,.str [52],.vs [[kp41 (5),ko41]] (some 1)]] (some 1)],[.vs [[ke41,.str [53],.vs [[kp41 (6),ko41]] (some 1)]] (some 1)],[.vs [[ke41,.str [54],.vs [[kp41 (7),ko41]] (some 1)]] (some 1)],[.vs [[ke41,.str [55],.vs [[kp41 (8),ko41]] (some 1)]] (some 1)],[.vs [[ke41,.str [56],.vs [[kp41 (9),ko41]] (some 1)]] (some 1)],[.vs [[ke41,.str [57],.vs [[kp41 (10),ko41]] (some 1)]] (some 1)],[.vs [[ke41,.str [49,48],.vs [[kp41 (11),ko41]] (some 1)]] (some 1)],[.vs [[ke41,.str [49,49],.vs [[kp41 (0),ko41]] (some 1)]] (some 1)]] none]],(kp41 (0))),
([.agg [.vs [[kp41 (0)],[kp41 (0)],[kp41 (0)],[kp41 (0)],[kp41 (0)],[kp41 (0)],[kp41 (0)],[kp41 (0)],[kp41 (0)],[kp41 (0)],[kp41 (0)],[kp41 (0)]] none,.vs [[.vs [[ke41,kz41,.vs [[kp41 (1),ko41]] none]] none],[.vs [[ke41,ko41,.vs [[kp41 (2),ko41]] none]] none],[kq41x2],[.vs [[ke41,.str [51],.vs [[kp41 (4),ko41]] none]] none],[.vs [[ke41,.str [52],.vs [[kp41 (5),ko41]] none]] none],[.vs [[ke41,.str [53],.vs [[kp41 (6),ko41]] none]] none],[.vs [[ke41,.str [54],.vs [[kp41 (7),ko41]] none]] none],[.vs [[ke41,.str [55],.vs [[kp41 (8),ko41]] none]] none],[.vs [[ke41,.str [56],.vs [[kp41 (9),ko41]] none]] none],[.vs [[ke41,.str [57],.vs [[kp41 (10),ko41]] none]] none],[.vs [[ke41,.str [49,48],.vs [[kp41 (11),ko41]] none]] none],[.vs [[ke41,.str [49,49],.vs [[kp41 (0),ko41]] none]] none]] (some 12)]],(kp41 (0))),
([.agg [.vs [[kp41 (0)],[kp41 (0)],[kp41 (0)],[kp41 (0)]] (some 4),.vs [[.vs [[ke41,.str [51],.vs [[kp41 (1),ko41]] (some 1)],[ke41,kz41,.vs [[kp41 (2),ko41]] (some 1)],[ke41,ko41,.vs [[kp41 (0),ko41]] (some 1)]] (some 3)],[.vs [[ke41,ko41,.vs [[kp41 (1),ko41]] (some 1)]] (some 1)],[.vs [[ke41,.str [50],.vs [[kp41 (3),ko41]] (some 1)]] (some 1)],[.vs [[ke41,kz41,.vs [[kp41 (2),ko41]] (some 1)],[ke41,.str [53],.vs [[kp41 (0),kh41],[kp41 (1),kh41]] (some 2)]] (some 2)]] (some 4)]],(kp41 (0))),
([.agg [kq41x3,.vs [[.vs [[ke41,.str [51],.vs [[kp41 (1),ko41]] none]] none],[kq41x4],[kq41x2],[kq41x5]] (some 4)]],(kp41 (0))),
([.agg [kq41x3,.vs [[.vs [[ke41,.str [51],.vs [[kp41 (1),ko41]] none]] none],[kq41x4],[kq41x2],[.vs [[ke41,.str [53],.vs [[kp41 (0),kh41],[kp41 (1),kh41]] none]] none]] (some 4)]],(kp41 (0))),
([.agg [kq41x3,.vs [[kq41x5],[kq41x4],[kq41x2],[.vs [[ke41,.str [53],.vs [[kp41 (0),kh41],[kp41 (1),kh41]] none]] none]] (some 4)]],(kp41 (0))),
([.agg [kq41x3,.vs [[kq41x5],[kq41x4],[kq41x2],[kq41x5]] (some 4)]],(kp41 (0))),
([.agg [.vs [[kp41 (0)],[kp41 (0)],[kp41 (0)],[kp41 (0)],[kp41 (1)]] (some 5),kq41x0]],(kp41 (0))),
([.agg [.nils,.nils]],(kp41 (110))),
([.agg [.vs [[kp41 (0)],[kp41 (0)],[kp41 (0)],[kp41 (0)],[kp41 (0)]] (some 5),kq41x0]],(kp41 (0)))]
theorem k20R54p0_ok : allTrue (kIs k20T2 [] 100000 54) k20R54p0 = true := by decide +kernel
end
end Go.Abs

namespace Go.Abs
noncomputable section
open Go.Proofs
set_option maxRecDepth 1000000

def k20R226p4 : List (List AV × AV) := [
([kq41x1,.vs [[.str [49,51,47,50]],[kh41],[.str [49,55,47,50]],[kz41],[.str [49,57,57,47,50]]] none],(.ifc 999999 (.tup [.vs [[.str [49,49]],[.str [57]],[.str [49,55,47,50]],[kz41],[.str [49,48,48,54]]] none,kp41 (0)]))),
([kq41x1,.vs [[kz41],[kz41],[kz41],[kz41],[kz41]] none],(.ifc 999999 (.tup [.vs [[kz41],[kz41],[kz41],[kz41],[kz41]] none,kp41 (0)])))]
theorem k20R226p4_ok : allTrue (kIs k20T2 [] 100000 226) k20R226p4 = true := by decide +kernel
def k20R54p1 : List (List AV × AV) := [
([.agg [.vs [[kp41 (0)],[kp41 (0)],[kp41 (0)],[kp41 (0)],[kp41 (0)]] none,.vs [[.vs [[ke41,.str [55],.vs [[kp41 (1),kh41],[kp41 (3),kh41]] none]] none],[.vs [[ke41,ko41,.vs [[kp41 (2),ko41]] none]] none],[.vs [[ke41,.str [50],.vs [[kp41 (1),.str [49,47,51]],[kp41 (2),.str [50,47,51]]] none]] none],[.vs [[ke41,kh41,.vs [[kp41 (3),ko41]] none]] none],[kq41x6]] (some 5)]],(kp41 (0))),
([.agg [.vs [[kp41 (0)],[kp41 (0)],[kp41 (0)],[kp41 (0)],[kp41 (0)]] none,.vs [[.vs [[ke41,.str [55],.vs [[kp41 (1),kh41],[kp41 (3),kh41]] none]] none],[.vs [[ke41,ko41,.vs [[kp41 (2),ko41]] none]] none],[.vs [[ke41,.str [57],.vs [[kp41 (3),ko41]] none]] none],[.vs [[ke41,kh41,.vs [[kp41 (3),ko41]] none]] none],[kq41x6]] (some 5)]],(kp41 (0)))]
theorem k20R54p1_ok : allTrue (kIs k20T2 [] 100000 54) k20R54p1 = true := by decide +kernel
end
end Go.Abs
