/-
  Steps to a law of this program: SGrFacts.
  Conditions: none.
-/
import Derived.ProofKit
import Derived.Test.YtpdnijifmebnbaaGreatDoorTie
import Derived.Test.YtpdnijifmebnbaaGreatDoorChecked
import Derived.LaidMore
import Derived.Stop.Joined
import Derived.LaidByTextLater
import Derived.SevenTiedAt
set_option linter.unusedVariables false
set_option linter.unusedSimpArgs false
set_option linter.unusedSectionVars false
namespace Go.Proofs.YtpdnijifmebnbaaGreatDoor
open Go.ChangeShapes Go.WideShapes Go.ChangeAt Go.RowKit
set_option maxRecDepth 100000

theorem name_met : Tryz.checked.prog.funcNamed Rows.forceGrowsRow.func = some 4 := by kernel_rfl
theorem inst_met : Tryz.f4.isInstance Tryz.checked.prog Rows.forceGrowsRow.origin Rows.forceGrowsRow.targs := of_decide_eq_true (by kernel_rfl)
theorem wrap_met : Tryz.f4.isWrapper Tryz.checked.prog Rows.forceGrowsRow.wrapper Rows.forceGrowsRow.mainSum := by unfold Func.isWrapper; first | (rw [if_pos (by decide +kernel)]; kernel_rfl) | (rw [if_neg (by decide +kernel)]; exact ⟨rfl, rfl⟩)
set_option maxHeartbeats 4000000 in
theorem facts_met : joinedFacts Tryz.checked.prog 4 Tryz.f4 Rows.forceGrowsSpec Rows.forceGrowsRow = true := by
  unfold joinedFacts
  simp only [Bool.and_eq_true]
  repeat' apply And.intro
  all_goals decide +kernel
end Go.Proofs.YtpdnijifmebnbaaGreatDoor
