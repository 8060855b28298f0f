/-
  A step to the law ForceKnown.
  Conditions: none.
-/
import Derived.Test.YthbpdiolceabhaaGreatDoorC14Lift
import Derived.Test.YthbpdiolceabhaaGreatDoorCards
import Derived.Test.YthbpdiolceabhaaGreatDoorTie
set_option linter.unusedVariables false
set_option linter.unusedSimpArgs false
set_option linter.unusedSectionVars false
namespace Go.Proofs.YthbpdiolceabhaaGreatDoor
open Go
theorem forceKnown_card : Rows.ForceKnownCardSaid :=
  Claim7.holds_tied_plain_at .later [] [.data, .data, .data, .sentinel, .sentinel] true (true, "a172ee474dcbe78ce5feccba5327bcbb46232d29713836be2880d4b7146b3620") true
    forceKnown_holds (fun _ h => by cases h) (by kernel_rfl) (fun _ h => by cases h) forceKnown_row_tie rfl ⟨rfl, rfl⟩ (by kernel_rfl) rfl
    (fun f fn hf hfn => by
      obtain rfl : f = 3 := Option.some.inj ((show Tryz.prog.funcNamed "croupier/croupierlaw14.ForceKnown" = some 3 by kernel_rfl).symm.trans hf) |>.symm
      obtain rfl : fn = Tryz.f3 := (Option.some.inj (Tryz.func3.symm.trans hfn)).symm
      exact ⟨by kernel_rfl, fun j t ht => by
        rw [Tryz.params3] at ht
        simp at ht⟩)
    (by kernel_rfl)
#print axioms forceKnown_card
end Go.Proofs.YthbpdiolceabhaaGreatDoor
