/-
  DERIVED. GIVEN WITH THE SEED: THE CARDS: each row of YtffhpdhdncapiaaGreatDoorRows.lean that lists a variable, with what it lists TIED to the program's text (the seventh form; the later family's looks); each row that meets fmt, with fmt's text TOLD by the authors' own Lean function (tested against real Go, not proved from fmt's source: count such statements apart). THE CARD IS WHAT COUNTS. Prove the row's statement (the work); the ties are given (YtffhpdhdncapiaaGreatDoorTie.lean); close each card by the builder's one call (the guide's Derived/Test/ToyasCard.lean, 'card_holds'). Laid BY PROGRAM, IN A SANDBOX (cutbox-door.mjs). By AI agents, Wed Nov 11 2026. No macro, syntax, notation, axiom, sorry.
-/
import Derived.Test.YtffhpdhdncapiaaGreatDoorRows
import GoSem.ClaimSeven
namespace Go.Proofs.YtffhpdhdncapiaaGreatDoor
namespace Rows

/-- THE TIED CARD OF 'croupierlaw13.WalkKnown'. -/
def walkKnownCard : Claim7 := { stood := { row := walkKnownRow, standIns := [], harness := (true, "ece358353e610bc78ebfe94d7335e7495848a984f908e8ed960dcf9524cda6fe"), looks := true }, kinds := [], alts := [], laidByText := true, laidKinds := [.data, .data, .data, .sentinel, .sentinel], laidTests := true, laidLooks := .later }
def WalkKnownCardSaid : Prop := Claim7.holds Tryz.pinned (.plain (OpenSpec.ofChange walkKnownSpec)) walkKnownCard

/-- THE SECOND FORM's CARD OF 'croupierlaw13.WalkKnown'. -/
def walkKnownUptoCard : Claim7 := { stood := { row := walkKnownUptoRow, standIns := [], harness := (true, "ece358353e610bc78ebfe94d7335e7495848a984f908e8ed960dcf9524cda6fe"), looks := true }, kinds := [], alts := [], laidByText := true, laidKinds := [.data, .data, .data, .sentinel, .sentinel], laidTests := true, laidLooks := .later }
def WalkKnownUptoCardSaid : Prop := Claim7.holds Tryz.pinned (.plain (OpenSpec.upto walkKnownSpec)) walkKnownUptoCard
end Rows
end Go.Proofs.YtffhpdhdncapiaaGreatDoor
