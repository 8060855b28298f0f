/-
  EndsKnown: the statement's card.
  Conditions: none.
-/
import Derived.Test.YtogjgbipgnpggaaGreatDoorB37
import Derived.Test.YtogjgbipgnpggaaGreatDoorCards
import Derived.Test.YtogjgbipgnpggaaGreatDoorTie
set_option linter.unusedVariables false
set_option linter.unusedSimpArgs false
set_option linter.unusedSectionVars false
namespace Go.Proofs.YtogjgbipgnpggaaGreatDoor
open Go
theorem endsKnown_card : Rows.EndsKnownCardSaid :=
  Claim7.holds_tied_plain_at .later [] [.data, .data, .data, .sentinel, .sentinel] true (true, "b31c6cb577766024339d1adbf3d5cbe1beb1129e08b3624d4d62f79cb4700163") true
    endsKnown_holds (fun _ h => by cases h) (by kernel_rfl) (fun _ h => by cases h) endsKnown_row_tie rfl ⟨rfl, rfl⟩ (by kernel_rfl) rfl
    (fun f fn hf hfn => by
      obtain rfl : f = 6 := Option.some.inj ((show Tryz.prog.funcNamed "croupier/croupierlaw15.EndsKnown" = some 6 by kernel_rfl).symm.trans hf) |>.symm
      obtain rfl : fn = Tryz.f6 := (Option.some.inj (Tryz.func6.symm.trans hfn)).symm
      exact ⟨by kernel_rfl, fun j t ht => by
        rw [Tryz.params6] at ht
        simp at ht⟩)
    (by kernel_rfl)
#print axioms endsKnown_card
end Go.Proofs.YtogjgbipgnpggaaGreatDoor
