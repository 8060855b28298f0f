/-
  ForceWins: the statement's card.
  Conditions: none.
-/
import Derived.Test.YtpdnijifmebnbaaGreatDoorB46
import Derived.Test.YtpdnijifmebnbaaGreatDoorCards
import Derived.Test.YtpdnijifmebnbaaGreatDoorTie
set_option linter.unusedVariables false
set_option linter.unusedSimpArgs false
set_option linter.unusedSectionVars false
namespace Go.Proofs.YtpdnijifmebnbaaGreatDoor
open Go
theorem card_wf:Rows.forceWinsRow.wfByText (OpenSpec.ofChange Rows.forceWinsSpec)=true:=by kernel_rfl
theorem card_main:Tryz.pinned.checked.prog.mainIs=some (true, "e1d90ada35335da8547eff56550964de94e8c29da7fdc2e426e20e5e94e1e819".toList):=by kernel_rfl
theorem card_looks:true=Tryz.pinned.checked.prog.looks []:=by kernel_rfl
theorem card_by:false=Rows.forceWinsRow.goesBy Tryz.pinned.checked.prog:=by kernel_rfl
theorem card_name:Tryz.prog.funcNamed "croupier/croupierlaw14.ForceWins" = some 5:=by kernel_rfl
theorem card_draft:Tryz.pinned.checked.prog.wantsStandIn 24=false:=by kernel_rfl
theorem card_bool:Tryz.pinned.checked.prog.wantsStandIn 4=false:=by kernel_rfl
theorem card_u16:Tryz.pinned.checked.prog.wantsStandIn 30=false:=by kernel_rfl
theorem forceWins_card:Rows.ForceWinsCardSaid :=
 Claim7.holds_tied_plain_at .later [] [.data,.data,.data,.sentinel,.sentinel] true (true, "e1d90ada35335da8547eff56550964de94e8c29da7fdc2e426e20e5e94e1e819") true
  xb7 (fun _ h=>by cases h) card_wf (fun _ h=>by cases h) forceWins_row_tie rfl ⟨rfl,rfl⟩ card_main rfl
  (fun f fn hf hfn=>by
   obtain rfl:f=5:=Option.some.inj (card_name.symm.trans hf) |>.symm
   obtain rfl:fn=Tryz.f5:=(Option.some.inj (Tryz.func5.symm.trans hfn)).symm
   exact ⟨card_looks,fun j t ht=>by
    rw [Tryz.params5] at ht
    match j,ht with
    | 0,ht =>
     obtain rfl:24=t:=Option.some.inj ht
     exact card_draft
    | 1,ht =>
     obtain rfl:30=t:=Option.some.inj ht
     exact card_u16
    | 2,ht =>
     obtain rfl:4=t:=Option.some.inj ht
     exact card_bool
    | j + 3,ht=>simp at ht⟩)
  card_by
#print axioms forceWins_card
end Go.Proofs.YtpdnijifmebnbaaGreatDoor
