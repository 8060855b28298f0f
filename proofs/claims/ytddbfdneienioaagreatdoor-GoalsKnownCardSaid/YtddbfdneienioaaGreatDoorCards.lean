/-
  DERIVED. GIVEN WITH THE SEED: THE CARDS: each row of YtddbfdneienioaaGreatDoorRows.lean that lists a variable, with what it lists TIED to the program's text (the seventh form; the later family's looks); each row that meets fmt, with fmt's text TOLD by the authors' own Lean function (tested against real Go, not proved from fmt's source: count such statements apart). THE CARD IS WHAT COUNTS. Prove the row's statement (the work); the ties are given (YtddbfdneienioaaGreatDoorTie.lean); close each card by the builder's one call (the guide's Derived/Test/ToyasCard.lean, 'card_holds'). Laid BY PROGRAM, IN A SANDBOX (cutbox-door.mjs). By AI agents, Wed Nov 11 2026. No macro, syntax, notation, axiom, sorry.
-/
import Derived.Test.YtddbfdneienioaaGreatDoorRows
import GoSem.ClaimSeven
namespace Go.Proofs.YtddbfdneienioaaGreatDoor
namespace Rows

/-- THE TIED CARD OF 'croupierlaw41.ParamKnown'. -/
def paramKnownCard : Claim7 := { stood := { row := paramKnownRow, standIns := [], harness := (true, "f6ab97c203226d3dadae23d10892ce03db3db91c3e59139a31ff52415d9438c5"), looks := true }, kinds := [], alts := [], laidByText := true, laidKinds := [.data, .data, .data, .sentinel, .sentinel], laidTests := true, laidLooks := .later }
def ParamKnownCardSaid : Prop := Claim7.holds Tryz.pinned (.plain (OpenSpec.ofChange paramKnownSpec)) paramKnownCard

/-- THE TIED CARD OF 'croupierlaw29.WitnessKnown'. -/
def witnessKnownCard : Claim7 := { stood := { row := witnessKnownRow, standIns := [], harness := (true, "f6ab97c203226d3dadae23d10892ce03db3db91c3e59139a31ff52415d9438c5"), looks := true }, kinds := [], alts := [], laidByText := true, laidKinds := [.data, .data, .data, .sentinel, .sentinel], laidTests := true, laidLooks := .later }
def WitnessKnownCardSaid : Prop := Claim7.holds Tryz.pinned (.plain (OpenSpec.ofChange witnessKnownSpec)) witnessKnownCard

/-- THE TIED CARD OF 'croupierlaw20.MeanKnown'. -/
def meanKnownCard : Claim7 := { stood := { row := meanKnownRow, standIns := [], harness := (true, "f6ab97c203226d3dadae23d10892ce03db3db91c3e59139a31ff52415d9438c5"), looks := true }, kinds := [], alts := [], laidByText := true, laidKinds := [.data, .data, .data, .sentinel, .sentinel], laidTests := true, laidLooks := .later }
def MeanKnownCardSaid : Prop := Claim7.holds Tryz.pinned (.plain (OpenSpec.ofChange meanKnownSpec)) meanKnownCard

/-- THE TIED CARD OF 'croupierlaw23.GoalsKnown'. -/
def goalsKnownCard : Claim7 := { stood := { row := goalsKnownRow, standIns := [], harness := (true, "f6ab97c203226d3dadae23d10892ce03db3db91c3e59139a31ff52415d9438c5"), looks := true }, kinds := [], alts := [], laidByText := true, laidKinds := [.data, .data, .data, .sentinel, .sentinel], laidTests := true, laidLooks := .later }
def GoalsKnownCardSaid : Prop := Claim7.holds Tryz.pinned (.plain (OpenSpec.ofChange goalsKnownSpec)) goalsKnownCard

/-- THE SECOND FORM's CARD OF 'croupierlaw41.ParamKnown'. -/
def paramKnownUptoCard : Claim7 := { stood := { row := paramKnownUptoRow, standIns := [], harness := (true, "f6ab97c203226d3dadae23d10892ce03db3db91c3e59139a31ff52415d9438c5"), looks := true }, kinds := [], alts := [], laidByText := true, laidKinds := [.data, .data, .data, .sentinel, .sentinel], laidTests := true, laidLooks := .later }
def ParamKnownUptoCardSaid : Prop := Claim7.holds Tryz.pinned (.plain (OpenSpec.upto paramKnownSpec)) paramKnownUptoCard

/-- THE SECOND FORM's CARD OF 'croupierlaw29.WitnessKnown'. -/
def witnessKnownUptoCard : Claim7 := { stood := { row := witnessKnownUptoRow, standIns := [], harness := (true, "f6ab97c203226d3dadae23d10892ce03db3db91c3e59139a31ff52415d9438c5"), looks := true }, kinds := [], alts := [], laidByText := true, laidKinds := [.data, .data, .data, .sentinel, .sentinel], laidTests := true, laidLooks := .later }
def WitnessKnownUptoCardSaid : Prop := Claim7.holds Tryz.pinned (.plain (OpenSpec.upto witnessKnownSpec)) witnessKnownUptoCard

/-- THE SECOND FORM's CARD OF 'croupierlaw20.MeanKnown'. -/
def meanKnownUptoCard : Claim7 := { stood := { row := meanKnownUptoRow, standIns := [], harness := (true, "f6ab97c203226d3dadae23d10892ce03db3db91c3e59139a31ff52415d9438c5"), looks := true }, kinds := [], alts := [], laidByText := true, laidKinds := [.data, .data, .data, .sentinel, .sentinel], laidTests := true, laidLooks := .later }
def MeanKnownUptoCardSaid : Prop := Claim7.holds Tryz.pinned (.plain (OpenSpec.upto meanKnownSpec)) meanKnownUptoCard

/-- THE SECOND FORM's CARD OF 'croupierlaw23.GoalsKnown'. -/
def goalsKnownUptoCard : Claim7 := { stood := { row := goalsKnownUptoRow, standIns := [], harness := (true, "f6ab97c203226d3dadae23d10892ce03db3db91c3e59139a31ff52415d9438c5"), looks := true }, kinds := [], alts := [], laidByText := true, laidKinds := [.data, .data, .data, .sentinel, .sentinel], laidTests := true, laidLooks := .later }
def GoalsKnownUptoCardSaid : Prop := Claim7.holds Tryz.pinned (.plain (OpenSpec.upto goalsKnownSpec)) goalsKnownUptoCard
end Rows
end Go.Proofs.YtddbfdneienioaaGreatDoor
