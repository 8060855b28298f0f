/-
  ForceGrows: the statement's card.
  Conditions: none.
-/
import Derived.Test.YtpdnijifmebnbaaGreatDoorB50
import Derived.Test.YtpdnijifmebnbaaGreatDoorCards
import Derived.Test.YtpdnijifmebnbaaGreatDoorTie
set_option linter.unusedVariables false
set_option linter.unusedSimpArgs false
set_option linter.unusedSectionVars false
namespace Go.Proofs.YtpdnijifmebnbaaGreatDoor
open Go
theorem card_wf : Rows.forceGrowsRow.wfByText (OpenSpec.ofChange Rows.forceGrowsSpec) = true := by kernel_rfl
theorem card_main : Tryz.pinned.checked.prog.mainIs = some (true, "e1d90ada35335da8547eff56550964de94e8c29da7fdc2e426e20e5e94e1e819".toList) := by kernel_rfl
theorem card_looks : true = Tryz.pinned.checked.prog.looks [] := by kernel_rfl
theorem card_by : false = Rows.forceGrowsRow.goesBy Tryz.pinned.checked.prog := by kernel_rfl
theorem card_name : Tryz.prog.funcNamed "croupier/croupierlaw14.ForceGrows" = some 4 := by kernel_rfl
theorem card_draft : Tryz.pinned.checked.prog.wantsStandIn 24 = false := by kernel_rfl
theorem card_u16 : Tryz.pinned.checked.prog.wantsStandIn 30 = false := by kernel_rfl
theorem forceGrows_card : Rows.ForceGrowsCardSaid :=
  Claim7.holds_tied_plain_at .later [] [.data, .data, .data, .sentinel, .sentinel] true (true, "e1d90ada35335da8547eff56550964de94e8c29da7fdc2e426e20e5e94e1e819") true
    forceGrows_holds (fun _ h => by cases h) card_wf (fun _ h => by cases h) forceGrows_row_tie rfl ⟨rfl, rfl⟩ card_main rfl
    (fun f fn hf hfn => by
      obtain rfl : f = 4 := Option.some.inj (card_name.symm.trans hf) |>.symm
      obtain rfl : fn = Tryz.f4 := (Option.some.inj (Tryz.func4.symm.trans hfn)).symm
      exact ⟨card_looks, fun j t ht => by
        rw [Tryz.params4] at ht
        match j, ht with
        | 0, ht =>
          obtain rfl : 24 = t := Option.some.inj ht
          exact card_draft
        | 1, ht =>
          obtain rfl : 30 = t := Option.some.inj ht
          exact card_u16
        | 2, ht =>
          obtain rfl : 30 = t := Option.some.inj ht
          exact card_u16
        | j + 3, ht => simp at ht⟩)
    card_by
#print axioms forceGrows_card
end Go.Proofs.YtpdnijifmebnbaaGreatDoor
