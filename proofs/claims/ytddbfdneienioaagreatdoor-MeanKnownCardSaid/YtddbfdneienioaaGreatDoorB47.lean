/-
  Steps to a law of this program: SK20L5P0.
  Conditions: none.
-/
import Derived.Test.YtddbfdneienioaaGreatDoorB46
set_option linter.unusedVariables false
set_option linter.unusedSimpArgs false
set_option linter.unusedSectionVars false
namespace Go.Abs
noncomputable section
open Go.Proofs
abbrev kp47 (n : Int) : AV := .int .i64 n
abbrev ke47 : AV := .str []
abbrev kz47 : AV := .str [48]
abbrev ko47 : AV := .str [49]
abbrev kh47 : AV := .str [49, 47, 50]
set_option maxRecDepth 1000000

def k20R29p0 : List (List AV × AV) := [
([.agg [.vs [[kp47 (0)],[kp47 (0)],[kp47 (0)],[kp47 (0)]] (some 4),.vs [[.vs [[ke47,.str [51],.vs [[kp47 (1),ko47]] (some 1)],[ke47,kz47,.vs [[kp47 (2),ko47]] (some 1)],[ke47,ko47,.vs [[kp47 (0),ko47]] (some 1)]] (some 3)],[.vs [[ke47,ko47,.vs [[kp47 (1),ko47]] (some 1)]] (some 1)],[.vs [[ke47,.str [50],.vs [[kp47 (3),ko47]] (some 1)]] (some 1)],[.vs [[ke47,kz47,.vs [[kp47 (2),ko47]] (some 1)],[ke47,.str [53],.vs [[kp47 (0),kh47],[kp47 (1),kh47]] (some 2)]] (some 2)]] (some 4)],.bool true],(.ifc 999999 (.tup [.vs [[ko47],[ko47],[ko47],[ko47]] (some 4),.vs [[kp47 (1)],[kp47 (0)],[kp47 (0)],[kp47 (1)]] none,kp47 (0)])))]
theorem k20R29p0_ok : allTrue (kIs k20T4 [] 100000 29) k20R29p0 = true := by decide +kernel
end
end Go.Abs
