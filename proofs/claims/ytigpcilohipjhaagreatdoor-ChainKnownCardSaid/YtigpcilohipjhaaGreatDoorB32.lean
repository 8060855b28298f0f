/-
  ChainKnown: the statement's card.
  Conditions: none.
-/
import Derived.Test.YtigpcilohipjhaaGreatDoorB31
import Derived.Test.YtigpcilohipjhaaGreatDoorCards
import Derived.Test.YtigpcilohipjhaaGreatDoorTie
set_option linter.unusedVariables false
set_option linter.unusedSimpArgs false
set_option linter.unusedSectionVars false
namespace Go.Proofs.YtigpcilohipjhaaGreatDoor
open Go
theorem chainKnown_card : Rows.ChainKnownCardSaid :=
  Claim7.holds_tied_plain_at .later [] [.data, .data, .data, .sentinel, .sentinel] true (true, "74d3cfd148ec1494bd425f7fcda50066e3095f3f6f1b830fb98cfb39acd6903c") true
    chainKnown_holds (fun _ h => by cases h) (by kernel_rfl) (fun _ h => by cases h) chainKnown_row_tie rfl ⟨rfl, rfl⟩ (by kernel_rfl) rfl
    (fun f fn hf hfn => by
      obtain rfl : f = 3 := Option.some.inj ((show Tryz.prog.funcNamed "croupier/croupierlaw12.ChainKnown" = some 3 by kernel_rfl).symm.trans hf) |>.symm
      obtain rfl : fn = Tryz.f3 := (Option.some.inj (Tryz.func3.symm.trans hfn)).symm
      exact ⟨by kernel_rfl, fun j t ht => by
        rw [Tryz.params3] at ht
        simp at ht⟩)
    (by kernel_rfl)
#print axioms chainKnown_card
end Go.Proofs.YtigpcilohipjhaaGreatDoor
