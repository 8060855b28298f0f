/-
  WitnessKnown: the statement's card.
  Conditions: none.
-/
import Derived.Test.YtcgnfpojjjkakaaGreatDoorB47
import Derived.Test.YtcgnfpojjjkakaaGreatDoorCards
import Derived.Test.YtcgnfpojjjkakaaGreatDoorTie
set_option linter.unusedVariables false
set_option linter.unusedSimpArgs false
set_option linter.unusedSectionVars false
namespace Go.Proofs.YtcgnfpojjjkakaaGreatDoor
open Go
theorem card_wf : Rows.witnessKnownRow.wfByText (OpenSpec.ofChange Rows.witnessKnownSpec) = true := by kernel_rfl
theorem card_main : Tryz.pinned.checked.prog.mainIs = some (true, "72b9e9a648a7f5001f7ee4103517a69ffdb64f7335f2395de4da16175a4a43ba".toList) := by kernel_rfl
theorem card_looks : true = Tryz.pinned.checked.prog.looks [] := by kernel_rfl
theorem card_by : false = Rows.witnessKnownRow.goesBy Tryz.pinned.checked.prog := by kernel_rfl
theorem card_name : Tryz.prog.funcNamed "croupier/croupierlaw29.WitnessKnown" = some 4 := by kernel_rfl
theorem witnessKnown_card : Rows.WitnessKnownCardSaid :=
  Claim7.holds_tied_plain_at .later [] [.data, .data, .data, .sentinel, .sentinel] true (true, "72b9e9a648a7f5001f7ee4103517a69ffdb64f7335f2395de4da16175a4a43ba") true
    witnessKnown_holds (fun _ h => by cases h) card_wf (fun _ h => by cases h) witnessKnown_row_tie rfl ⟨rfl, rfl⟩ card_main rfl
    (fun f fn hf hfn => by
      obtain rfl : f = 4 := Option.some.inj (card_name.symm.trans hf) |>.symm
      obtain rfl : fn = Tryz.f4 := (Option.some.inj (Tryz.func4.symm.trans hfn)).symm
      exact ⟨card_looks, fun j t ht => by
        rw [Tryz.params4] at ht
        simp at ht⟩)
    card_by
#print axioms witnessKnown_card
end Go.Proofs.YtcgnfpojjjkakaaGreatDoor
