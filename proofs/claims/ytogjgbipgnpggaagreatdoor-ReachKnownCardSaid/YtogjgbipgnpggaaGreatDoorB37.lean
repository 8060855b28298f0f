/-
  ReachKnown: the statement's card.
  Conditions: none.
-/
import Derived.Test.YtogjgbipgnpggaaGreatDoorB36
import Derived.Test.YtogjgbipgnpggaaGreatDoorCards
import Derived.Test.YtogjgbipgnpggaaGreatDoorTie
set_option linter.unusedVariables false
set_option linter.unusedSimpArgs false
set_option linter.unusedSectionVars false
namespace Go.Proofs.YtogjgbipgnpggaaGreatDoor
open Go
theorem reachKnown_card : Rows.ReachKnownCardSaid :=
  Claim7.holds_tied_plain_at .later [] [.data, .data, .data, .sentinel, .sentinel] true (true, "b31c6cb577766024339d1adbf3d5cbe1beb1129e08b3624d4d62f79cb4700163") true
    reachKnown_holds (fun _ h => by cases h) (by kernel_rfl) (fun _ h => by cases h) reachKnown_row_tie rfl ⟨rfl, rfl⟩ (by kernel_rfl) rfl
    (fun f fn hf hfn => by
      obtain rfl : f = 4 := Option.some.inj ((show Tryz.prog.funcNamed "croupier/croupierlaw16.ReachKnown" = some 4 by kernel_rfl).symm.trans hf) |>.symm
      obtain rfl : fn = Tryz.f4 := (Option.some.inj (Tryz.func4.symm.trans hfn)).symm
      exact ⟨by kernel_rfl, fun j t ht => by
        rw [Tryz.params4] at ht
        simp at ht⟩)
    (by kernel_rfl)
#print axioms reachKnown_card
end Go.Proofs.YtogjgbipgnpggaaGreatDoor
