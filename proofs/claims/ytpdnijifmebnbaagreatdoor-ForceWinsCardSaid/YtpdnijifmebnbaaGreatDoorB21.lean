/-
  Steps to a law of this program: SWnFacts.
  Conditions: none.
-/
import Derived.ProofKit
import Derived.Test.YtpdnijifmebnbaaGreatDoorTie
import Derived.Test.YtpdnijifmebnbaaGreatDoorChecked
import Derived.LaidMore
import Derived.Stop.Joined
import Derived.LaidByTextLater
import Derived.SevenTiedAt
set_option linter.unusedVariables false
set_option linter.unusedSimpArgs false
set_option linter.unusedSectionVars false
namespace Go.Proofs.YtpdnijifmebnbaaGreatDoor
open Go.ChangeShapes Go.WideShapes Go.ChangeAt Go.RowKit
set_option maxRecDepth 100000
theorem ubX:Tryz.checked.prog.funcNamed Rows.forceWinsRow.func=some 5:=by kernel_rfl
theorem zb2:Tryz.f5.isInstance Tryz.checked.prog Rows.forceWinsRow.origin Rows.forceWinsRow.targs:=of_decide_eq_true (by kernel_rfl)
theorem vbA:Tryz.f5.isWrapper Tryz.checked.prog Rows.forceWinsRow.wrapper Rows.forceWinsRow.mainSum:=by unfold Func.isWrapper;first | (rw [if_pos (by decide +kernel)];kernel_rfl) | (rw [if_neg (by decide +kernel)];exact ⟨rfl,rfl⟩)
set_option maxHeartbeats 4000000 in
theorem xb8:joinedFacts Tryz.checked.prog 5 Tryz.f5 Rows.forceWinsSpec Rows.forceWinsRow=true:=by
 unfold joinedFacts
 simp only [Bool.and_eq_true]
 repeat' apply And.intro
 all_goals decide +kernel
end Go.Proofs.YtpdnijifmebnbaaGreatDoor
