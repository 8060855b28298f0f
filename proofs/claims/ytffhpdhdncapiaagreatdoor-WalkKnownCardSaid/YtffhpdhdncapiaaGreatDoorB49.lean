/-
  Steps to a law of this program: SK13X9x135432P6, SK13X9x135432P7.
  Conditions: none.
-/
import Derived.Test.YtffhpdhdncapiaaGreatDoorB34
import Derived.Test.YtffhpdhdncapiaaGreatDoorB45
set_option linter.unusedVariables false
set_option linter.unusedSimpArgs false
set_option linter.unusedSectionVars false
namespace Go.Abs
noncomputable section
open Go.Proofs
set_option maxRecDepth 1000000

theorem k13X9x135432k6 : cCall k13T4 [] [(21, [k13X9x135432f5])] 21 k13X9x135432f6 = true := by decide +kernel
end
end Go.Abs

namespace Go.Abs
noncomputable section
open Go.Proofs
set_option maxRecDepth 1000000

theorem k13X9x135432k7 : cCall k13T4 [] [(21, [k13X9x135432f6])] 21 k13X9x135432f7 = true := by decide +kernel
end
end Go.Abs
