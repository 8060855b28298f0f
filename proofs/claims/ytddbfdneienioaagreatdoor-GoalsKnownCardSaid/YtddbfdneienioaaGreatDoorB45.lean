/-
  GoalsKnown: the statement's card.
  Conditions: none.
-/
import Derived.Test.YtddbfdneienioaaGreatDoorB44
import Derived.Test.YtddbfdneienioaaGreatDoorCards
import Derived.Test.YtddbfdneienioaaGreatDoorTie
set_option linter.unusedVariables false
set_option linter.unusedSimpArgs false
set_option linter.unusedSectionVars false
namespace Go.Proofs.YtddbfdneienioaaGreatDoor
open Go
theorem card_wf : Rows.goalsKnownRow.wfByText (OpenSpec.ofChange Rows.goalsKnownSpec) = true := by kernel_rfl
theorem card_main : Tryz.pinned.checked.prog.mainIs = some (true, "f6ab97c203226d3dadae23d10892ce03db3db91c3e59139a31ff52415d9438c5".toList) := by kernel_rfl
theorem card_looks : true = Tryz.pinned.checked.prog.looks [] := by kernel_rfl
theorem card_by : false = Rows.goalsKnownRow.goesBy Tryz.pinned.checked.prog := by kernel_rfl
theorem card_name : Tryz.prog.funcNamed "croupier/croupierlaw23.GoalsKnown" = some 6 := by kernel_rfl
theorem goalsKnown_card : Rows.GoalsKnownCardSaid :=
  Claim7.holds_tied_plain_at .later [] [.data, .data, .data, .sentinel, .sentinel] true (true, "f6ab97c203226d3dadae23d10892ce03db3db91c3e59139a31ff52415d9438c5") true
    goalsKnown_holds (fun _ h => by cases h) card_wf (fun _ h => by cases h) goalsKnown_row_tie rfl ⟨rfl, rfl⟩ card_main rfl
    (fun f fn hf hfn => by
      obtain rfl : f = 6 := Option.some.inj (card_name.symm.trans hf) |>.symm
      obtain rfl : fn = Tryz.f6 := (Option.some.inj (Tryz.func6.symm.trans hfn)).symm
      exact ⟨card_looks, fun j t ht => by
        rw [Tryz.params6] at ht
        simp at ht⟩)
    card_by
#print axioms goalsKnown_card
end Go.Proofs.YtddbfdneienioaaGreatDoor
