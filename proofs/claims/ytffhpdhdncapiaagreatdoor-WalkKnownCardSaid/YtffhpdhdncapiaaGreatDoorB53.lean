/-
  WalkKnown: the statement's card.
  Conditions: none.
-/
import Derived.Test.YtffhpdhdncapiaaGreatDoorB52
import Derived.Test.YtffhpdhdncapiaaGreatDoorCards
import Derived.Test.YtffhpdhdncapiaaGreatDoorTie
set_option linter.unusedVariables false
set_option linter.unusedSimpArgs false
set_option linter.unusedSectionVars false
namespace Go.Proofs.YtffhpdhdncapiaaGreatDoor
open Go
theorem card_wf : Rows.walkKnownRow.wfByText (OpenSpec.ofChange Rows.walkKnownSpec) = true := by kernel_rfl
theorem card_main : Tryz.pinned.checked.prog.mainIs = some (true, "ece358353e610bc78ebfe94d7335e7495848a984f908e8ed960dcf9524cda6fe".toList) := by kernel_rfl
theorem card_looks : true = Tryz.pinned.checked.prog.looks [] := by kernel_rfl
theorem card_by : false = Rows.walkKnownRow.goesBy Tryz.pinned.checked.prog := by kernel_rfl
theorem card_name : Tryz.prog.funcNamed "croupier/croupierlaw13.WalkKnown" = some 3 := by kernel_rfl
theorem walkKnown_card : Rows.WalkKnownCardSaid :=
  Claim7.holds_tied_plain_at .later [] [.data, .data, .data, .sentinel, .sentinel] true (true, "ece358353e610bc78ebfe94d7335e7495848a984f908e8ed960dcf9524cda6fe") true
    walkKnown_holds (fun _ h => by cases h) card_wf (fun _ h => by cases h) walkKnown_row_tie rfl ⟨rfl, rfl⟩ card_main rfl
    (fun f fn hf hfn => by
      obtain rfl : f = 3 := Option.some.inj (card_name.symm.trans hf) |>.symm
      obtain rfl : fn = Tryz.f3 := (Option.some.inj (Tryz.func3.symm.trans hfn)).symm
      exact ⟨card_looks, fun j t ht => by
        rw [Tryz.params3] at ht
        simp at ht⟩)
    card_by
#print axioms walkKnown_card
end Go.Proofs.YtffhpdhdncapiaaGreatDoor
