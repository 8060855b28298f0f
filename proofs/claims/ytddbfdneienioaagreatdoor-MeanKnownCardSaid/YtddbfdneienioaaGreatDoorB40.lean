/-
  Steps to a law of this program: SK20L3P3, SK20L3P4.
  Conditions: none.
-/
import Derived.Test.YtddbfdneienioaaGreatDoorB37
set_option linter.unusedVariables false
set_option linter.unusedSimpArgs false
set_option linter.unusedSectionVars false
namespace Go.Abs
noncomputable section
open Go.Proofs
abbrev kp40 (n : Int) : AV := .int .i64 n
abbrev ke40 : AV := .str []
abbrev kz40 : AV := .str [48]
abbrev ko40 : AV := .str [49]
abbrev kh40 : AV := .str [49, 47, 50]
abbrev kq40x0 : AV := .vs [[.vs [[ko40],[kz40],[.str [45,49]],[kz40]] (some 4)],[.vs [[kz40],[ko40],[kz40],[kz40]] (some 4)],[.vs [[kz40],[kz40],[ko40],[.str [45,49]]] (some 4)],[.vs [[.str [45,49,47,50]],[.str [45,49,47,50]],[kz40],[ko40]] (some 4)]] none
abbrev kq40x1 : AV := .vs [[.vs [[ko40],[.str [45,49,47,50]],[kz40],[.str [45,49,47,50]],[kz40]] (some 5)],[.vs [[kz40],[ko40],[kz40],[kz40],[kz40]] (some 5)],[.vs [[kz40],[kz40],[ko40],[kz40],[kz40]] (some 5)],[.vs [[kz40],[kz40],[kz40],[ko40],[kz40]] (some 5)],[.vs [[.str [45,49,47,49,48]],[kz40],[kz40],[kz40],[.str [49,47,49,48]]] (some 5)]] none
abbrev kq40x2 : AV := .vs [[.vs [[ko40],[kz40],[.str [45,49]],[kz40]] (some 4)],[.vs [[kz40],[ko40],[kz40],[kz40]] (some 4)],[.vs [[kz40],[kz40],[ko40],[kz40]] (some 4)],[.vs [[kz40],[kz40],[kz40],[ko40]] (some 4)]] none
abbrev kq40x3 : AV := .vs [[kz40],[kz40],[kz40],[ko40],[kz40]] (some 5)
set_option maxRecDepth 1000000

def k20R226p3 : List (List AV × AV) := [
([.vs [[.vs [[ko40],[kz40],[kz40],[kz40],[kz40]] (some 5)],[.vs [[kz40],[ko40],[kz40],[kz40],[kz40]] (some 5)],[.vs [[kz40],[kz40],[ko40],[kz40],[kz40]] (some 5)],[kq40x3],[.vs [[kz40],[kz40],[kz40],[kz40],[ko40]] (some 5)]] none,.vs [[kz40],[kz40],[kz40],[ko40],[kz40]] none],(.ifc 999999 (.tup [.vs [[kz40],[kz40],[kz40],[ko40],[kz40]] none,kp40 (0)]))),
([kq40x1,.vs [[kz40],[.str [55,47,52]],[.str [55,47,52]],[kh40],[kz40]] none],(.ifc 999999 (.tup [.vs [[.str [57,47,56]],[.str [55,47,52]],[.str [55,47,52]],[kh40],[.str [57,47,56]]] none,kp40 (0)]))),
([.vs [[.vs [[ko40],[.str [45,49,47,50]],[kz40],[.str [45,49,47,50]],[kz40]] (some 5)],[.vs [[kz40],[ko40],[kz40],[kz40],[kz40]] (some 5)],[.vs [[kz40],[.str [45,49,47,51]],[.str [49,47,51]],[kz40],[kz40]] (some 5)],[kq40x3],[.vs [[.str [45,49,47,49,48]],[kz40],[kz40],[kz40],[.str [49,47,49,48]]] (some 5)]] none,.vs [[.str [52,55,47,56]],[kz40],[.str [49,47,52]],[kz40],[.str [55,57,49,47,56]]] none],(.ifc 999999 (.tup [.vs [[.str [52,55,47,56]],[kz40],[.str [51,47,52]],[kz40],[.str [55,57,53,55,47,56]]] none,kp40 (0)]))),
([kq40x1,.vs [[kz40],[.str [57,47,49,54]],[.str [57,47,49,54]],[kz40],[kz40]] none],(.ifc 999999 (.tup [.vs [[.str [57,47,51,50]],[.str [57,47,49,54]],[.str [57,47,49,54]],[kz40],[.str [57,47,51,50]]] none,kp40 (0)]))),
([.vs [[.vs [[ko40],[.str [45,49,47,50]],[kz40],[.str [45,49,47,50]],[kz40]] (some 5)],[.vs [[kz40],[ko40],[.str [45,49]],[kz40],[kz40]] (some 5)],[.vs [[kz40],[kz40],[ko40],[.str [45,49]],[kz40]] (some 5)],[kq40x3],[.vs [[.str [45,49,47,49,48]],[kz40],[kz40],[kz40],[.str [49,47,49,48]]] (some 5)]] none,.vs [[kz40],[kz40],[kz40],[kh40],[kz40]] none],(.ifc 999999 (.tup [.vs [[kh40],[kh40],[kh40],[kh40],[kh40]] none,kp40 (0)])))]
theorem k20R226p3_ok : allTrue (kIs k20T2 [] 100000 226) k20R226p3 = true := by decide +kernel
end
end Go.Abs

namespace Go.Abs
noncomputable section
open Go.Proofs
set_option maxRecDepth 1000000

def k20R226p2 : List (List AV × AV) := [
([kq40x0,.vs [[kz40],[ko40],[kz40],[kz40]] none],(.ifc 999999 (.tup [.vs [[ko40],[ko40],[ko40],[ko40]] none,kp40 (0)]))),
([kq40x0,.vs [[.str [45,49]],[kz40],[ko40],[.str [52]]] none],(.ifc 999999 (.tup [.vs [[.str [56]],[kz40],[.str [57]],[.str [56]]] none,kp40 (0)]))),
([kq40x0,.vs [[kz40],[kz40],[kz40],[kz40]] none],(.ifc 999999 (.tup [.vs [[kz40],[kz40],[kz40],[kz40]] none,kp40 (0)]))),
([kq40x2,.vs [[kz40],[ko40],[ko40],[ko40]] none],(.ifc 999999 (.tup [.vs [[ko40],[ko40],[ko40],[ko40]] none,kp40 (0)]))),
([.vs [[.vs [[ko40],[kz40],[.str [45,49]],[kz40]] (some 4)],[.vs [[kz40],[ko40],[kz40],[kz40]] (some 4)],[.vs [[kz40],[kz40],[ko40],[kz40]] (some 4)],[.vs [[kz40],[kz40],[.str [45,49]],[ko40]] (some 4)]] none,.vs [[.str [45,49]],[kz40],[kz40],[.str [45,49]]] none],(.ifc 999999 (.tup [.vs [[.str [45,49]],[kz40],[kz40],[.str [45,49]]] none,kp40 (0)]))),
([kq40x2,.vs [[kz40],[kz40],[.str [45,49,47,50]],[.str [45,49,47,50]]] none],(.ifc 999999 (.tup [.vs [[.str [45,49,47,50]],[kz40],[.str [45,49,47,50]],[.str [45,49,47,50]]] none,kp40 (0)]))),
([.vs [[.vs [[ko40],[kz40],[kz40],[kz40],[kz40]] (some 5)],[.vs [[kz40],[ko40],[ko40],[kz40],[kz40]] (some 5)],[.vs [[kz40],[.str [45,49]],[.str [49,47,51]],[kz40],[kz40]] (some 5)],[kq40x3],[.vs [[kz40],[kz40],[kz40],[kz40],[ko40]] (some 5)]] none,.vs [[kz40],[ko40],[kz40],[kz40],[kz40]] none],(.ifc 999999 (.tup [.vs [[kz40],[.str [49,47,52]],[.str [51,47,52]],[kz40],[kz40]] none,kp40 (0)])))]
theorem k20R226p2_ok : allTrue (kIs k20T2 [] 100000 226) k20R226p2 = true := by decide +kernel
end
end Go.Abs
