/-
  Steps to a law of this program: SK13X9x135432P2, SK13X9x135432P3.
  Conditions: none.
-/
import Derived.Test.YtffhpdhdncapiaaGreatDoorB34
import Derived.Test.YtffhpdhdncapiaaGreatDoorB45
set_option linter.unusedVariables false
set_option linter.unusedSimpArgs false
set_option linter.unusedSectionVars false
namespace Go.Abs
noncomputable section
open Go.Proofs
set_option maxRecDepth 1000000

theorem k13X9x135432k2 : cCall k13T4 [] [(21, [k13X9x135432f1])] 21 k13X9x135432f2 = true := by decide +kernel
end
end Go.Abs

namespace Go.Abs
noncomputable section
open Go.Proofs
set_option maxRecDepth 1000000

theorem k13X9x135432k3 : cCall k13T4 [] [(21, [k13X9x135432f2])] 21 k13X9x135432f3 = true := by decide +kernel
end
end Go.Abs
