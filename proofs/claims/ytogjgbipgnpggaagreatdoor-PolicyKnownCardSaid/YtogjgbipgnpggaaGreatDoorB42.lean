/-
  PolicyKnown: the statement's card.
  Conditions: none.
-/
import Derived.Test.YtogjgbipgnpggaaGreatDoorB41
import Derived.Test.YtogjgbipgnpggaaGreatDoorCards
import Derived.Test.YtogjgbipgnpggaaGreatDoorTie
set_option linter.unusedVariables false
set_option linter.unusedSimpArgs false
set_option linter.unusedSectionVars false
namespace Go.Proofs.YtogjgbipgnpggaaGreatDoor
open Go
theorem policyKnown_card : Rows.PolicyKnownCardSaid :=
  Claim7.holds_tied_plain_at .later [] [.data, .data, .data, .sentinel, .sentinel] true (true, "b31c6cb577766024339d1adbf3d5cbe1beb1129e08b3624d4d62f79cb4700163") true
    policyKnown_holds (fun _ h => by cases h) (by kernel_rfl) (fun _ h => by cases h) policyKnown_row_tie rfl ⟨rfl, rfl⟩ (by kernel_rfl) rfl
    (fun f fn hf hfn => by
      obtain rfl : f = 5 := Option.some.inj ((show Tryz.prog.funcNamed "croupier/croupierlaw17.PolicyKnown" = some 5 by kernel_rfl).symm.trans hf) |>.symm
      obtain rfl : fn = Tryz.f5 := (Option.some.inj (Tryz.func5.symm.trans hfn)).symm
      exact ⟨by kernel_rfl, fun j t ht => by
        rw [Tryz.params5] at ht
        simp at ht⟩)
    (by kernel_rfl)
#print axioms policyKnown_card
end Go.Proofs.YtogjgbipgnpggaaGreatDoor
