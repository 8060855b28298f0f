/-
  DERIVED. GIVEN WITH THE SEED: THE CARDS: each row of YtigpcilohipjhaaGreatDoorRows.lean that lists a variable, with what it lists TIED to the program's text (the seventh form; the later family's looks); each row that meets fmt, with fmt's text TOLD by the authors' own Lean function (tested against real Go, not proved from fmt's source: count such statements apart). THE CARD IS WHAT COUNTS. Prove the row's statement (the work); the ties are given (YtigpcilohipjhaaGreatDoorTie.lean); close each card by the builder's one call (the guide's Derived/Test/ToyasCard.lean, 'card_holds'). Laid BY PROGRAM, IN A SANDBOX (cutbox-door.mjs). By AI agents, Wed Nov 11 2026. No macro, syntax, notation, axiom, sorry.
-/
import Derived.Test.YtigpcilohipjhaaGreatDoorRows
import GoSem.ClaimSeven
namespace Go.Proofs.YtigpcilohipjhaaGreatDoor
namespace Rows

/-- THE TIED CARD OF 'croupierlaw12.ChainKnown'. -/
def chainKnownCard : Claim7 := { stood := { row := chainKnownRow, standIns := [], harness := (true, "74d3cfd148ec1494bd425f7fcda50066e3095f3f6f1b830fb98cfb39acd6903c"), looks := true }, kinds := [], alts := [], laidByText := true, laidKinds := [.data, .data, .data, .sentinel, .sentinel], laidTests := true, laidLooks := .later }
def ChainKnownCardSaid : Prop := Claim7.holds Tryz.pinned (.plain (OpenSpec.ofChange chainKnownSpec)) chainKnownCard

/-- THE TIED CARD OF 'croupierlaw12.ChainStarts'. -/
def chainStartsCard : Claim7 := { stood := { row := chainStartsRow, standIns := [], harness := (true, "74d3cfd148ec1494bd425f7fcda50066e3095f3f6f1b830fb98cfb39acd6903c"), looks := true }, kinds := [], alts := [], laidByText := true, laidKinds := [.data, .data, .data, .sentinel, .sentinel], laidTests := true, laidLooks := .later }
def ChainStartsCardSaid : Prop := Claim7.holds Tryz.pinned (.plain (OpenSpec.ofChange chainStartsSpec)) chainStartsCard

/-- THE TIED CARD OF 'croupierlaw12.ChainAfters'. -/
def chainAftersCard : Claim7 := { stood := { row := chainAftersRow, standIns := [], harness := (true, "74d3cfd148ec1494bd425f7fcda50066e3095f3f6f1b830fb98cfb39acd6903c"), looks := true }, kinds := [], alts := [], laidByText := true, laidKinds := [.data, .data, .data, .sentinel, .sentinel], laidTests := true, laidLooks := .later }
def ChainAftersCardSaid : Prop := Claim7.holds Tryz.pinned (.plain (OpenSpec.ofChange chainAftersSpec)) chainAftersCard

/-- THE TIED CARD OF 'croupierlaw12.ChainParts'. -/
def chainPartsCard : Claim7 := { stood := { row := chainPartsRow, standIns := [], harness := (true, "74d3cfd148ec1494bd425f7fcda50066e3095f3f6f1b830fb98cfb39acd6903c"), looks := true }, kinds := [], alts := [], laidByText := true, laidKinds := [.data, .data, .data, .sentinel, .sentinel], laidTests := true, laidLooks := .later }
def ChainPartsCardSaid : Prop := Claim7.holds Tryz.pinned (.plain (OpenSpec.ofChange chainPartsSpec)) chainPartsCard

/-- THE TIED CARD OF 'croupierlaw12.ChainKeeps'. -/
def chainKeepsCard : Claim7 := { stood := { row := chainKeepsRow, standIns := [], harness := (true, "74d3cfd148ec1494bd425f7fcda50066e3095f3f6f1b830fb98cfb39acd6903c"), looks := true }, kinds := [], alts := [], laidByText := true, laidKinds := [.data, .data, .data, .sentinel, .sentinel], laidTests := true, laidLooks := .later }
def ChainKeepsCardSaid : Prop := Claim7.holds Tryz.pinned (.plain (OpenSpec.ofChange chainKeepsSpec)) chainKeepsCard

/-- THE SECOND FORM's CARD OF 'croupierlaw12.ChainKnown'. -/
def chainKnownUptoCard : Claim7 := { stood := { row := chainKnownUptoRow, standIns := [], harness := (true, "74d3cfd148ec1494bd425f7fcda50066e3095f3f6f1b830fb98cfb39acd6903c"), looks := true }, kinds := [], alts := [], laidByText := true, laidKinds := [.data, .data, .data, .sentinel, .sentinel], laidTests := true, laidLooks := .later }
def ChainKnownUptoCardSaid : Prop := Claim7.holds Tryz.pinned (.plain (OpenSpec.upto chainKnownSpec)) chainKnownUptoCard

/-- THE SECOND FORM's CARD OF 'croupierlaw12.ChainStarts'. -/
def chainStartsUptoCard : Claim7 := { stood := { row := chainStartsUptoRow, standIns := [], harness := (true, "74d3cfd148ec1494bd425f7fcda50066e3095f3f6f1b830fb98cfb39acd6903c"), looks := true }, kinds := [], alts := [], laidByText := true, laidKinds := [.data, .data, .data, .sentinel, .sentinel], laidTests := true, laidLooks := .later }
def ChainStartsUptoCardSaid : Prop := Claim7.holds Tryz.pinned (.plain (OpenSpec.upto chainStartsSpec)) chainStartsUptoCard

/-- THE SECOND FORM's CARD OF 'croupierlaw12.ChainAfters'. -/
def chainAftersUptoCard : Claim7 := { stood := { row := chainAftersUptoRow, standIns := [], harness := (true, "74d3cfd148ec1494bd425f7fcda50066e3095f3f6f1b830fb98cfb39acd6903c"), looks := true }, kinds := [], alts := [], laidByText := true, laidKinds := [.data, .data, .data, .sentinel, .sentinel], laidTests := true, laidLooks := .later }
def ChainAftersUptoCardSaid : Prop := Claim7.holds Tryz.pinned (.plain (OpenSpec.upto chainAftersSpec)) chainAftersUptoCard

/-- THE SECOND FORM's CARD OF 'croupierlaw12.ChainParts'. -/
def chainPartsUptoCard : Claim7 := { stood := { row := chainPartsUptoRow, standIns := [], harness := (true, "74d3cfd148ec1494bd425f7fcda50066e3095f3f6f1b830fb98cfb39acd6903c"), looks := true }, kinds := [], alts := [], laidByText := true, laidKinds := [.data, .data, .data, .sentinel, .sentinel], laidTests := true, laidLooks := .later }
def ChainPartsUptoCardSaid : Prop := Claim7.holds Tryz.pinned (.plain (OpenSpec.upto chainPartsSpec)) chainPartsUptoCard

/-- THE SECOND FORM's CARD OF 'croupierlaw12.ChainKeeps'. -/
def chainKeepsUptoCard : Claim7 := { stood := { row := chainKeepsUptoRow, standIns := [], harness := (true, "74d3cfd148ec1494bd425f7fcda50066e3095f3f6f1b830fb98cfb39acd6903c"), looks := true }, kinds := [], alts := [], laidByText := true, laidKinds := [.data, .data, .data, .sentinel, .sentinel], laidTests := true, laidLooks := .later }
def ChainKeepsUptoCardSaid : Prop := Claim7.holds Tryz.pinned (.plain (OpenSpec.upto chainKeepsSpec)) chainKeepsUptoCard
end Rows
end Go.Proofs.YtigpcilohipjhaaGreatDoor
