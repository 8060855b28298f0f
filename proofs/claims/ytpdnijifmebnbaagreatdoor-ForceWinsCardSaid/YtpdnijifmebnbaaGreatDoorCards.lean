/-
  DERIVED. GIVEN WITH THE SEED: THE CARDS: each row of YtpdnijifmebnbaaGreatDoorRows.lean that lists a variable, with what it lists TIED to the program's text (the seventh form; the later family's looks); each row that meets fmt, with fmt's text TOLD by the authors' own Lean function (tested against real Go, not proved from fmt's source: count such statements apart). THE CARD IS WHAT COUNTS. Prove the row's statement (the work); the ties are given (YtpdnijifmebnbaaGreatDoorTie.lean); close each card by the builder's one call (the guide's Derived/Test/ToyasCard.lean, 'card_holds'). Laid BY PROGRAM, IN A SANDBOX (cutbox-door.mjs). By AI agents, Wed Nov 11 2026. No macro, syntax, notation, axiom, sorry.
-/
import Derived.Test.YtpdnijifmebnbaaGreatDoorRows
import GoSem.ClaimSeven
namespace Go.Proofs.YtpdnijifmebnbaaGreatDoor
namespace Rows

/-- THE TIED CARD OF 'croupierlaw14.ForcePulls'. -/
def forcePullsCard : Claim7 := { stood := { row := forcePullsRow, standIns := [], harness := (true, "e1d90ada35335da8547eff56550964de94e8c29da7fdc2e426e20e5e94e1e819"), looks := true }, kinds := [], alts := [], laidByText := true, laidKinds := [.data, .data, .data, .sentinel, .sentinel], laidTests := true, laidLooks := .later }
def ForcePullsCardSaid : Prop := Claim7.holds Tryz.pinned (.plain (OpenSpec.ofChange forcePullsSpec)) forcePullsCard

/-- THE TIED CARD OF 'croupierlaw14.ForceGrows'. -/
def forceGrowsCard : Claim7 := { stood := { row := forceGrowsRow, standIns := [], harness := (true, "e1d90ada35335da8547eff56550964de94e8c29da7fdc2e426e20e5e94e1e819"), looks := true }, kinds := [], alts := [], laidByText := true, laidKinds := [.data, .data, .data, .sentinel, .sentinel], laidTests := true, laidLooks := .later }
def ForceGrowsCardSaid : Prop := Claim7.holds Tryz.pinned (.plain (OpenSpec.ofChange forceGrowsSpec)) forceGrowsCard

/-- THE TIED CARD OF 'croupierlaw14.ForceWins'. -/
def forceWinsCard : Claim7 := { stood := { row := forceWinsRow, standIns := [], harness := (true, "e1d90ada35335da8547eff56550964de94e8c29da7fdc2e426e20e5e94e1e819"), looks := true }, kinds := [], alts := [], laidByText := true, laidKinds := [.data, .data, .data, .sentinel, .sentinel], laidTests := true, laidLooks := .later }
def ForceWinsCardSaid : Prop := Claim7.holds Tryz.pinned (.plain (OpenSpec.ofChange forceWinsSpec)) forceWinsCard

/-- THE SECOND FORM's CARD OF 'croupierlaw14.ForcePulls'. -/
def forcePullsUptoCard : Claim7 := { stood := { row := forcePullsUptoRow, standIns := [], harness := (true, "e1d90ada35335da8547eff56550964de94e8c29da7fdc2e426e20e5e94e1e819"), looks := true }, kinds := [], alts := [], laidByText := true, laidKinds := [.data, .data, .data, .sentinel, .sentinel], laidTests := true, laidLooks := .later }
def ForcePullsUptoCardSaid : Prop := Claim7.holds Tryz.pinned (.plain (OpenSpec.upto forcePullsSpec)) forcePullsUptoCard

/-- THE SECOND FORM's CARD OF 'croupierlaw14.ForceGrows'. -/
def forceGrowsUptoCard : Claim7 := { stood := { row := forceGrowsUptoRow, standIns := [], harness := (true, "e1d90ada35335da8547eff56550964de94e8c29da7fdc2e426e20e5e94e1e819"), looks := true }, kinds := [], alts := [], laidByText := true, laidKinds := [.data, .data, .data, .sentinel, .sentinel], laidTests := true, laidLooks := .later }
def ForceGrowsUptoCardSaid : Prop := Claim7.holds Tryz.pinned (.plain (OpenSpec.upto forceGrowsSpec)) forceGrowsUptoCard

/-- THE SECOND FORM's CARD OF 'croupierlaw14.ForceWins'. -/
def forceWinsUptoCard : Claim7 := { stood := { row := forceWinsUptoRow, standIns := [], harness := (true, "e1d90ada35335da8547eff56550964de94e8c29da7fdc2e426e20e5e94e1e819"), looks := true }, kinds := [], alts := [], laidByText := true, laidKinds := [.data, .data, .data, .sentinel, .sentinel], laidTests := true, laidLooks := .later }
def ForceWinsUptoCardSaid : Prop := Claim7.holds Tryz.pinned (.plain (OpenSpec.upto forceWinsSpec)) forceWinsUptoCard
end Rows
end Go.Proofs.YtpdnijifmebnbaaGreatDoor
