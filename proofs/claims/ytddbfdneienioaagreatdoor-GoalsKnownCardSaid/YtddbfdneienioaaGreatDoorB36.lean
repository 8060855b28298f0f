/-
  Steps to a law of this program: SK23L3P0.
  Conditions: none.
-/
import Derived.Test.YtddbfdneienioaaGreatDoorB35
set_option linter.unusedVariables false
set_option linter.unusedSimpArgs false
set_option linter.unusedSectionVars false
namespace Go.Abs
noncomputable section
open Go.Proofs
abbrev kp36 (n : Int) : AV := .int .i64 n
abbrev ke36 : AV := .str []
abbrev kz36 : AV := .str [48]
abbrev ko36 : AV := .str [49]
abbrev kh36 : AV := .str [49, 47, 50]
abbrev kq36x0 : AV := .vs [[ke36,kz36,.vs [[kp36 (1),ko36]] none]] none
abbrev kq36x1 : AV := .vs [[ke36,kz36,.vs [[kp36 (2),ko36]] none]] none
abbrev kq36x2 : AV := .vs [[.vs [[ke36,kz36,.vs [[kp36 (1),ko36]] (some 1)],[ke36,kz36,.vs [[kp36 (2),kh36],[kp36 (3),kh36]] (some 2)]] (some 2)],[.vs [[ke36,kz36,.vs [[kp36 (1),ko36]] (some 1)]] (some 1)],[.vs [[ke36,kz36,.vs [[kp36 (2),ko36]] (some 1)]] (some 1)],[.vs [[ke36,kz36,.vs [[kp36 (3),ko36]] (some 1)]] (some 1)]] (some 4)
abbrev kq36x3 : AV := .vs [[kp36 (0)],[kp36 (0)],[kp36 (0)],[kp36 (0)]] none
abbrev kq36x4 : AV := .vs [[kp36 (1),ko36]] (some 1)
abbrev kq36x5 : AV := .vs [[ke36,kz36,.vs [[kp36 (3),ko36]] none]] none
abbrev kq36x6 : AV := .vs [[kp36 (0)],[kp36 (0)],[kp36 (0)],[kp36 (0)]] (some 4)
abbrev kq36x7 : AV := .vs [[ke36,kz36,.vs [[kp36 (2),ko36]] (some 1)]] (some 1)
abbrev kq36x8 : AV := .vs [[ke36,kz36,kq36x4],[ke36,kz36,.vs [[kp36 (2),ko36]] (some 1)],[ke36,kz36,.vs [[kp36 (3),ko36]] (some 1)]] (some 3)
abbrev kq36x9 : AV := .vs [[ke36,kz36,.vs [[kp36 (3),ko36]] (some 1)]] (some 1)
set_option maxRecDepth 1000000

def k23R54p0 : List (List AV × AV) := [
([.agg [kq36x6,kq36x2]],(kp36 (0))),
([.agg [kq36x3,.vs [[kq36x0],[kq36x0],[kq36x1],[kq36x5]] (some 4)]],(kp36 (0))),
([.agg [kq36x3,.vs [[.vs [[ke36,kz36,.vs [[kp36 (2),kh36],[kp36 (3),kh36]] none]] none],[kq36x0],[kq36x1],[kq36x5]] (some 4)]],(kp36 (0))),
([.agg [.vs [[kp36 (0)],[kp36 (0)],[kp36 (0)],[kp36 (0)],[kp36 (0)],[kp36 (0)]] none,.vs [[.vs [[ke36,kz36,kq36x4],[ke36,kz36,.vs [[kp36 (2),kh36],[kp36 (3),kh36]] (some 2)]] (some 2)],[.vs [[ke36,kz36,kq36x4]] (some 1)],[kq36x7],[kq36x9],[kq36x8],[kq36x8]] none]],(kp36 (0))),
([.agg [kq36x6,.vs [[.vs [[ke36,kz36,.vs [[kp36 (3),ko36]] (some 1)],[ke36,kz36,kq36x4]] (some 2)],[.vs [[ke36,kz36,kq36x4]] (some 1)],[kq36x7],[.vs [[ke36,kz36,.vs [[kp36 (0),ko36]] (some 1)],[ke36,kz36,.vs [[kp36 (2),ko36]] (some 1)]] (some 2)]] (some 4)]],(kp36 (0))),
([.agg [kq36x3,.vs [[kq36x5],[kq36x0],[kq36x1],[.vs [[ke36,kz36,.vs [[kp36 (0),ko36]] none]] none]] (some 4)]],(kp36 (0))),
([.agg [kq36x3,.vs [[kq36x0],[kq36x0],[kq36x1],[.vs [[ke36,kz36,.vs [[kp36 (0),ko36]] none]] none]] (some 4)]],(kp36 (0))),
([.agg [kq36x3,.vs [[kq36x5],[kq36x0],[kq36x1],[kq36x1]] (some 4)]],(kp36 (0))),
([.agg [kq36x3,.vs [[kq36x0],[kq36x0],[kq36x1],[kq36x1]] (some 4)]],(kp36 (0))),
([.agg [.vs [[kp36 (0)],[kp36 (1)],[kp36 (0)],[kp36 (0)]] (some 4),kq36x2]],(kp36 (0))),
([.agg [.nils,.nils]],(kp36 (110))),
([.agg [kq36x6,.vs [[.vs [[ke36,kz36,kq36x4],[ke36,kz36,.vs [[kp36 (2),kh36],[kp36 (3),kh36]] (some 2)],[ke36,kz36,.vs [[kp36 (1),kh36],[kp36 (2),.str [49,47,52]],[kp36 (3),.str [49,47,52]]] (some 3)]] none],[.vs [[ke36,kz36,kq36x4]] (some 1)],[kq36x7],[kq36x9]] (some 4)]],(kp36 (0))),
([.agg [kq36x3,.vs [[.vs [[ke36,kz36,.vs [[kp36 (1),kh36],[kp36 (2),.str [49,47,52]],[kp36 (3),.str [49,47,52]]] none]] none],[kq36x0],[kq36x1],[kq36x5]] (some 4)]],(kp36 (0))),
([.agg [kq36x6,.vs [[.vs [[ke36,kz36,kq36x4],[ke36,kz36,.vs [[kp36 (2),kh36],[kp36 (3),kh36]] (some 2)],[ke36,kz36,.vs [[kp36 (1),kh36],[kp36 (2),.str [49,47,51]],[kp36 (3),.str [49,47,54]]] (some 3)]] none],[.vs [[ke36,kz36,kq36x4]] (some 1)],[kq36x7],[kq36x9]] (some 4)]],(kp36 (0)))]
theorem k23R54p0_ok : allTrue (kIs k23T2 [40] 100000 54) k23R54p0 = true := by decide +kernel
end
end Go.Abs
