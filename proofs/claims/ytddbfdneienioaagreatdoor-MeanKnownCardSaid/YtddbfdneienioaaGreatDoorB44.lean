/-
  Steps to a law of this program: SK20X226x124564P0, SK20X226x124564P3, SK20X226x124564P1, SK20X226x124564P2, SK20X226x124564R.
  Conditions: none.
-/
import Derived.Test.YtddbfdneienioaaGreatDoorB37
import Derived.Test.YtddbfdneienioaaGreatDoorB43
set_option linter.unusedVariables false
set_option linter.unusedSimpArgs false
set_option linter.unusedSectionVars false
namespace Go.Abs
noncomputable section
open Go.Proofs
abbrev kp44 (n : Int) : AV := .int .i64 n
abbrev ke44 : AV := .str []
abbrev kz44 : AV := .str [48]
abbrev ko44 : AV := .str [49]
abbrev kh44 : AV := .str [49, 47, 50]
set_option maxRecDepth 1000000

theorem k20X226x124564_h : cHead k20T2 [] [] 360 k20X226x124564p k20X226x124564a k20X226x124564h k20X226x124564t0 k20X226x124564h0 = true := by decide +kernel
end
end Go.Abs

namespace Go.Abs
noncomputable section
open Go.Proofs
set_option maxRecDepth 1000000

theorem k20X226x124564_l : cLast k20T2 [] [] 360 k20X226x124564p k20X226x124564t2 k20X226x124564h2 k20X226x124564r k20X226x124564e = true := by decide +kernel
end
end Go.Abs

namespace Go.Abs
noncomputable section
open Go.Proofs
set_option maxRecDepth 1000000

theorem k20X226x124564_m0 : cMid k20T2 [] [] 360 k20X226x124564p 5 k20X226x124564t0 k20X226x124564h0 k20X226x124564t1 k20X226x124564h1 = true := by decide +kernel
end
end Go.Abs

namespace Go.Abs
noncomputable section
open Go.Proofs
set_option maxRecDepth 1000000

theorem k20X226x124564_m1 : cMid k20T2 [] [] 360 k20X226x124564p 4 k20X226x124564t1 k20X226x124564h1 k20X226x124564t2 k20X226x124564h2 = true := by decide +kernel
end
end Go.Abs

namespace Go.Abs
noncomputable section
open Go.Proofs

def k20X226x124564A : List AV := [(.vs [[(.vs [[(.str [49])], [(.str [49])], [(.str [49])], [(.str [49])], [(.str [49])], [(.str [49])], [(.str [49])], [(.str [49])], [(.str [49])], [(.str [49])], [(.str [49])], [(.str [49])]] (some 12))], [(.vs [[(.str [45, 49])], [(.str [49])], [(.str [48])], [(.str [48])], [(.str [48])], [(.str [48])], [(.str [48])], [(.str [48])], [(.str [48])], [(.str [48])], [(.str [48])], [(.str [48])]] (some 12))], [(.vs [[(.str [48])], [(.str [45, 49])], [(.str [49])], [(.str [48])], [(.str [48])], [(.str [48])], [(.str [48])], [(.str [48])], [(.str [48])], [(.str [48])], [(.str [48])], [(.str [48])]] (some 12))], [(.vs [[(.str [48])], [(.str [48])], [(.str [45, 49])], [(.str [49])], [(.str [48])], [(.str [48])], [(.str [48])], [(.str [48])], [(.str [48])], [(.str [48])], [(.str [48])], [(.str [48])]] (some 12))], [(.vs [[(.str [48])], [(.str [48])], [(.str [48])], [(.str [45, 49])], [(.str [49])], [(.str [48])], [(.str [48])], [(.str [48])], [(.str [48])], [(.str [48])], [(.str [48])], [(.str [48])]] (some 12))], [(.vs [[(.str [48])], [(.str [48])], [(.str [48])], [(.str [48])], [(.str [45, 49])], [(.str [49])], [(.str [48])], [(.str [48])], [(.str [48])], [(.str [48])], [(.str [48])], [(.str [48])]] (some 12))], [(.vs [[(.str [48])], [(.str [48])], [(.str [48])], [(.str [48])], [(.str [48])], [(.str [45, 49])], [(.str [49])], [(.str [48])], [(.str [48])], [(.str [48])], [(.str [48])], [(.str [48])]] (some 12))], [(.vs [[(.str [48])], [(.str [48])], [(.str [48])], [(.str [48])], [(.str [48])], [(.str [48])], [(.str [45, 49])], [(.str [49])], [(.str [48])], [(.str [48])], [(.str [48])], [(.str [48])]] (some 12))], [(.vs [[(.str [48])], [(.str [48])], [(.str [48])], [(.str [48])], [(.str [48])], [(.str [48])], [(.str [48])], [(.str [45, 49])], [(.str [49])], [(.str [48])], [(.str [48])], [(.str [48])]] (some 12))], [(.vs [[(.str [48])], [(.str [48])], [(.str [48])], [(.str [48])], [(.str [48])], [(.str [48])], [(.str [48])], [(.str [48])], [(.str [45, 49])], [(.str [49])], [(.str [48])], [(.str [48])]] (some 12))], [(.vs [[(.str [48])], [(.str [48])], [(.str [48])], [(.str [48])], [(.str [48])], [(.str [48])], [(.str [48])], [(.str [48])], [(.str [48])], [(.str [45, 49])], [(.str [49])], [(.str [48])]] (some 12))], [(.vs [[(.str [48])], [(.str [48])], [(.str [48])], [(.str [48])], [(.str [48])], [(.str [48])], [(.str [48])], [(.str [48])], [(.str [48])], [(.str [48])], [(.str [45, 49])], [(.str [49])]] (some 12))]] none), (.vs [[(.str [49])], [(.str [48])], [(.str [48])], [(.str [48])], [(.str [48])], [(.str [48])], [(.str [48])], [(.str [48])], [(.str [48])], [(.str [48])], [(.str [48])], [(.str [48])]] none)]
def k20X226x124564R : AV := (.ifc 999999 (.tup [(.vs [[(.str [49, 47, 49, 50])], [(.str [49, 47, 49, 50])], [(.str [49, 47, 49, 50])], [(.str [49, 47, 49, 50])], [(.str [49, 47, 49, 50])], [(.str [49, 47, 49, 50])], [(.str [49, 47, 49, 50])], [(.str [49, 47, 49, 50])], [(.str [49, 47, 49, 50])], [(.str [49, 47, 49, 50])], [(.str [49, 47, 49, 50])], [(.str [49, 47, 49, 50])]] none), (.int .i64 (0))]))
end
end Go.Abs
