/-
  Steps to a law of this program: SK13X9x85230P0, SK13X9x85230P1.
  Conditions: none.
-/
import Derived.Test.YtffhpdhdncapiaaGreatDoorB34
import Derived.Test.YtffhpdhdncapiaaGreatDoorB41
set_option linter.unusedVariables false
set_option linter.unusedSimpArgs false
set_option linter.unusedSectionVars false
namespace Go.Abs
noncomputable section
open Go.Proofs
set_option maxRecDepth 1000000

theorem k13X9x85230k0 : cCall k13T4 [] [] 21 k13X9x85230f0 = true := by decide +kernel
end
end Go.Abs

namespace Go.Abs
noncomputable section
open Go.Proofs
set_option maxRecDepth 1000000

theorem k13X9x85230k1 : cCall k13T4 [] [] 21 k13X9x85230f1 = true := by decide +kernel
end
end Go.Abs
