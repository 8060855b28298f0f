/-
  DERIVED. GIVEN WITH THE SEED: THE CARDS: each row of YtogjgbipgnpggaaGreatDoorRows.lean that lists a variable, with what it lists TIED to the program's text (the seventh form; the later family's looks); each row that meets fmt, with fmt's text TOLD by the authors' own Lean function (tested against real Go, not proved from fmt's source: count such statements apart). THE CARD IS WHAT COUNTS. Prove the row's statement (the work); the ties are given (YtogjgbipgnpggaaGreatDoorTie.lean); close each card by the builder's one call (the guide's Derived/Test/ToyasCard.lean, 'card_holds'). Laid BY PROGRAM, IN A SANDBOX (cutbox-door.mjs). By AI agents, Wed Nov 11 2026. No macro, syntax, notation, axiom, sorry.
-/
import Derived.Test.YtogjgbipgnpggaaGreatDoorRows
import GoSem.ClaimSeven
namespace Go.Proofs.YtogjgbipgnpggaaGreatDoor
namespace Rows

/-- THE TIED CARD OF 'croupierlaw13.WalkKnown'. -/
def walkKnownCard : Claim7 := { stood := { row := walkKnownRow, standIns := [], harness := (true, "b31c6cb577766024339d1adbf3d5cbe1beb1129e08b3624d4d62f79cb4700163"), looks := true }, kinds := [], alts := [], laidByText := true, laidKinds := [.data, .data, .data, .sentinel, .sentinel], laidTests := true, laidLooks := .later }
def WalkKnownCardSaid : Prop := Claim7.holds Tryz.pinned (.plain (OpenSpec.ofChange walkKnownSpec)) walkKnownCard

/-- THE TIED CARD OF 'croupierlaw16.ReachKnown'. -/
def reachKnownCard : Claim7 := { stood := { row := reachKnownRow, standIns := [], harness := (true, "b31c6cb577766024339d1adbf3d5cbe1beb1129e08b3624d4d62f79cb4700163"), looks := true }, kinds := [], alts := [], laidByText := true, laidKinds := [.data, .data, .data, .sentinel, .sentinel], laidTests := true, laidLooks := .later }
def ReachKnownCardSaid : Prop := Claim7.holds Tryz.pinned (.plain (OpenSpec.ofChange reachKnownSpec)) reachKnownCard

/-- THE TIED CARD OF 'croupierlaw17.PolicyKnown'. -/
def policyKnownCard : Claim7 := { stood := { row := policyKnownRow, standIns := [], harness := (true, "b31c6cb577766024339d1adbf3d5cbe1beb1129e08b3624d4d62f79cb4700163"), looks := true }, kinds := [], alts := [], laidByText := true, laidKinds := [.data, .data, .data, .sentinel, .sentinel], laidTests := true, laidLooks := .later }
def PolicyKnownCardSaid : Prop := Claim7.holds Tryz.pinned (.plain (OpenSpec.ofChange policyKnownSpec)) policyKnownCard

/-- THE TIED CARD OF 'croupierlaw15.EndsKnown'. -/
def endsKnownCard : Claim7 := { stood := { row := endsKnownRow, standIns := [], harness := (true, "b31c6cb577766024339d1adbf3d5cbe1beb1129e08b3624d4d62f79cb4700163"), looks := true }, kinds := [], alts := [], laidByText := true, laidKinds := [.data, .data, .data, .sentinel, .sentinel], laidTests := true, laidLooks := .later }
def EndsKnownCardSaid : Prop := Claim7.holds Tryz.pinned (.plain (OpenSpec.ofChange endsKnownSpec)) endsKnownCard

/-- THE SECOND FORM's CARD OF 'croupierlaw13.WalkKnown'. -/
def walkKnownUptoCard : Claim7 := { stood := { row := walkKnownUptoRow, standIns := [], harness := (true, "b31c6cb577766024339d1adbf3d5cbe1beb1129e08b3624d4d62f79cb4700163"), looks := true }, kinds := [], alts := [], laidByText := true, laidKinds := [.data, .data, .data, .sentinel, .sentinel], laidTests := true, laidLooks := .later }
def WalkKnownUptoCardSaid : Prop := Claim7.holds Tryz.pinned (.plain (OpenSpec.upto walkKnownSpec)) walkKnownUptoCard

/-- THE SECOND FORM's CARD OF 'croupierlaw16.ReachKnown'. -/
def reachKnownUptoCard : Claim7 := { stood := { row := reachKnownUptoRow, standIns := [], harness := (true, "b31c6cb577766024339d1adbf3d5cbe1beb1129e08b3624d4d62f79cb4700163"), looks := true }, kinds := [], alts := [], laidByText := true, laidKinds := [.data, .data, .data, .sentinel, .sentinel], laidTests := true, laidLooks := .later }
def ReachKnownUptoCardSaid : Prop := Claim7.holds Tryz.pinned (.plain (OpenSpec.upto reachKnownSpec)) reachKnownUptoCard

/-- THE SECOND FORM's CARD OF 'croupierlaw17.PolicyKnown'. -/
def policyKnownUptoCard : Claim7 := { stood := { row := policyKnownUptoRow, standIns := [], harness := (true, "b31c6cb577766024339d1adbf3d5cbe1beb1129e08b3624d4d62f79cb4700163"), looks := true }, kinds := [], alts := [], laidByText := true, laidKinds := [.data, .data, .data, .sentinel, .sentinel], laidTests := true, laidLooks := .later }
def PolicyKnownUptoCardSaid : Prop := Claim7.holds Tryz.pinned (.plain (OpenSpec.upto policyKnownSpec)) policyKnownUptoCard

/-- THE SECOND FORM's CARD OF 'croupierlaw15.EndsKnown'. -/
def endsKnownUptoCard : Claim7 := { stood := { row := endsKnownUptoRow, standIns := [], harness := (true, "b31c6cb577766024339d1adbf3d5cbe1beb1129e08b3624d4d62f79cb4700163"), looks := true }, kinds := [], alts := [], laidByText := true, laidKinds := [.data, .data, .data, .sentinel, .sentinel], laidTests := true, laidLooks := .later }
def EndsKnownUptoCardSaid : Prop := Claim7.holds Tryz.pinned (.plain (OpenSpec.upto endsKnownSpec)) endsKnownUptoCard
end Rows
end Go.Proofs.YtogjgbipgnpggaaGreatDoor
