/-
  Steps to a law of this program: SK13X9x41920R, SK13X9x85230R, SK13X9x41920, SK13X9x85230.
  Conditions: none.
-/
import Derived.Test.YtffhpdhdncapiaaGreatDoorB34
import Derived.Test.YtffhpdhdncapiaaGreatDoorB22
import Derived.Test.YtffhpdhdncapiaaGreatDoorB38
import Derived.Test.YtffhpdhdncapiaaGreatDoorB39
import Derived.Test.YtffhpdhdncapiaaGreatDoorB40
import Derived.Test.YtffhpdhdncapiaaGreatDoorB41
import Derived.Test.YtffhpdhdncapiaaGreatDoorB42
import Derived.Test.YtffhpdhdncapiaaGreatDoorB43
set_option linter.unusedVariables false
set_option linter.unusedSimpArgs false
set_option linter.unusedSectionVars false
namespace Go.Abs
noncomputable section
open Go.Proofs

def k13X9x41920A : List AV := [(.agg [(.vs (zl [z0,z0]) (some 2)), (.vs [[(.vs [[(.str []), (.str [48]), (.vs [[(.int .i64 (0)), (.str [49, 47, 50])], [(.int .i64 (1)), (.str [49, 47, 50])]] (some 2))]] (some 1))], [(.vs [[(.str []), (.str [48]), (.vs [[(.int .i64 (0)), (.str [49, 47, 50])], [(.int .i64 (1)), (.str [49, 47, 50])]] (some 2))]] (some 1))]] (some 2))]), (.vs (zl [z0,z0]) (some 2)), (.int .i64 (0)), (.int .i64 (9))]
def k13X9x41920R : AV := (.tup [.nils, (.int .i64 (6))])
end
end Go.Abs

namespace Go.Abs
noncomputable section
open Go.Proofs

def k13X9x85230A : List AV := [(.agg [(.vs (zl [z0,z0]) (some 2)), (.vs [[(.vs [[(.str []), (.str [48]), (.vs [[(.int .i64 (0)), (.str [49, 47, 50])], [(.int .i64 (1)), (.str [49, 47, 50])]] (some 2))]] (some 1))], [(.vs [[(.str []), (.str [48]), (.vs [[(.int .i64 (0)), (.str [49, 47, 50])], [(.int .i64 (1)), (.str [49, 47, 50])]] (some 2))]] (some 1))]] (some 2))]), (.vs (zl [z0,z0]) (some 2)), (.int .i64 (0)), (.int .i64 (60))]
def k13X9x85230R : AV := (.tup [.nils, (.int .i64 (6))])
end
end Go.Abs

namespace Go.Abs
noncomputable section
open Go.Proofs
set_option maxRecDepth 1000000

theorem k13X9x41920c0 : k13X9x41920f0.Holds Tryz.prog 21 := cCall_ok k13T4_ok facts_nil k13X9x41920k0
theorem k13X9x41920c1 : k13X9x41920f1.Holds Tryz.prog 21 := cCall_ok k13T4_ok facts_nil k13X9x41920k1
theorem k13X9x41920c2 : k13X9x41920f2.Holds Tryz.prog 21 := cCall_ok k13T4_ok facts_nil k13X9x41920k2
theorem k13X9x41920c3 : k13X9x41920f3.Holds Tryz.prog 21 := cCall_ok k13T4_ok facts_nil k13X9x41920k3
theorem k13X9x41920_row : cRow k13T4 [] [(21, [k13X9x41920f0, k13X9x41920f1, k13X9x41920f2, k13X9x41920f3])] 9 k13X9x41920A k13X9x41920R = true := by decide +kernel
theorem k13X9x41920 : KnownSem Tryz.prog 9 k13X9x41920A k13X9x41920R := cRow_ok k13T4_ok (facts_cons (holds_cons k13X9x41920c0 (holds_cons k13X9x41920c1 (holds_cons k13X9x41920c2 (holds_cons k13X9x41920c3 holds_nil)))) facts_nil) k13X9x41920_row
end
end Go.Abs

namespace Go.Abs
noncomputable section
open Go.Proofs
set_option maxRecDepth 1000000

theorem k13X9x85230c0 : k13X9x85230f0.Holds Tryz.prog 21 := cCall_ok k13T4_ok facts_nil k13X9x85230k0
theorem k13X9x85230c1 : k13X9x85230f1.Holds Tryz.prog 21 := cCall_ok k13T4_ok facts_nil k13X9x85230k1
theorem k13X9x85230c2 : k13X9x85230f2.Holds Tryz.prog 21 := cCall_ok k13T4_ok facts_nil k13X9x85230k2
theorem k13X9x85230c3 : k13X9x85230f3.Holds Tryz.prog 21 := cCall_ok k13T4_ok facts_nil k13X9x85230k3
theorem k13X9x85230_row : cRow k13T4 [] [(21, [k13X9x85230f0, k13X9x85230f1, k13X9x85230f2, k13X9x85230f3])] 9 k13X9x85230A k13X9x85230R = true := by decide +kernel
theorem k13X9x85230 : KnownSem Tryz.prog 9 k13X9x85230A k13X9x85230R := cRow_ok k13T4_ok (facts_cons (holds_cons k13X9x85230c0 (holds_cons k13X9x85230c1 (holds_cons k13X9x85230c2 (holds_cons k13X9x85230c3 holds_nil)))) facts_nil) k13X9x85230_row
end
end Go.Abs
