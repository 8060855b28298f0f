/-
  DERIVED. GIVEN WITH THE SEED: THE CARDS: each row of YtcgnfpojjjkakaaGreatDoorRows.lean that lists a variable, with what it lists TIED to the program's text (the seventh form; the later family's looks); each row that meets fmt, with fmt's text TOLD by the authors' own Lean function (tested against real Go, not proved from fmt's source: count such statements apart). THE CARD IS WHAT COUNTS. Prove the row's statement (the work); the ties are given (YtcgnfpojjjkakaaGreatDoorTie.lean); close each card by the builder's one call (the guide's Derived/Test/ToyasCard.lean, 'card_holds'). Laid BY PROGRAM, IN A SANDBOX (cutbox-door.mjs). By AI agents, Wed Nov 11 2026. No macro, syntax, notation, axiom, sorry.
-/
import Derived.Test.YtcgnfpojjjkakaaGreatDoorRows
import GoSem.ClaimSeven
namespace Go.Proofs.YtcgnfpojjjkakaaGreatDoor
namespace Rows

/-- THE TIED CARD OF 'croupierlaw41.ParamKnown'. -/
def paramKnownCard : Claim7 := { stood := { row := paramKnownRow, standIns := [], harness := (true, "72b9e9a648a7f5001f7ee4103517a69ffdb64f7335f2395de4da16175a4a43ba"), looks := true }, kinds := [], alts := [], laidByText := true, laidKinds := [.data, .data, .data, .sentinel, .sentinel], laidTests := true, laidLooks := .later }
def ParamKnownCardSaid : Prop := Claim7.holds Tryz.pinned (.plain (OpenSpec.ofChange paramKnownSpec)) paramKnownCard

/-- THE TIED CARD OF 'croupierlaw29.WitnessKnown'. -/
def witnessKnownCard : Claim7 := { stood := { row := witnessKnownRow, standIns := [], harness := (true, "72b9e9a648a7f5001f7ee4103517a69ffdb64f7335f2395de4da16175a4a43ba"), looks := true }, kinds := [], alts := [], laidByText := true, laidKinds := [.data, .data, .data, .sentinel, .sentinel], laidTests := true, laidLooks := .later }
def WitnessKnownCardSaid : Prop := Claim7.holds Tryz.pinned (.plain (OpenSpec.ofChange witnessKnownSpec)) witnessKnownCard

/-- THE SECOND FORM's CARD OF 'croupierlaw41.ParamKnown'. -/
def paramKnownUptoCard : Claim7 := { stood := { row := paramKnownUptoRow, standIns := [], harness := (true, "72b9e9a648a7f5001f7ee4103517a69ffdb64f7335f2395de4da16175a4a43ba"), looks := true }, kinds := [], alts := [], laidByText := true, laidKinds := [.data, .data, .data, .sentinel, .sentinel], laidTests := true, laidLooks := .later }
def ParamKnownUptoCardSaid : Prop := Claim7.holds Tryz.pinned (.plain (OpenSpec.upto paramKnownSpec)) paramKnownUptoCard

/-- THE SECOND FORM's CARD OF 'croupierlaw29.WitnessKnown'. -/
def witnessKnownUptoCard : Claim7 := { stood := { row := witnessKnownUptoRow, standIns := [], harness := (true, "72b9e9a648a7f5001f7ee4103517a69ffdb64f7335f2395de4da16175a4a43ba"), looks := true }, kinds := [], alts := [], laidByText := true, laidKinds := [.data, .data, .data, .sentinel, .sentinel], laidTests := true, laidLooks := .later }
def WitnessKnownUptoCardSaid : Prop := Claim7.holds Tryz.pinned (.plain (OpenSpec.upto witnessKnownSpec)) witnessKnownUptoCard
end Rows
end Go.Proofs.YtcgnfpojjjkakaaGreatDoor
