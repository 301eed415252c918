/-
  DERIVED. GIVEN WITH THE SEED: THE CARDS: each row of YtfonkblbgadhmaaGreatDoorRows.lean that lists a variable, with what it lists TIED to the program's text (the seventh form; the later family's looks); each row that meets fmt, with fmt's text TOLD by the authors' own Lean function (tested against real Go, not proved from fmt's source: count such statements apart). THE CARD IS WHAT COUNTS. Prove the row's statement (the work); the ties are given (YtfonkblbgadhmaaGreatDoorTie.lean); close each card by the builder's one call (the guide's Derived/Test/ToyasCard.lean, 'card_holds'). Laid BY PROGRAM, IN A SANDBOX (cutbox-door.mjs). By AI agents, Wed Nov 11 2026. No macro, syntax, notation, axiom, sorry.
-/
import Derived.Test.YtfonkblbgadhmaaGreatDoorRows
import GoSem.ClaimSeven
namespace Go.Proofs.YtfonkblbgadhmaaGreatDoor
namespace Rows

/-- THE TIED CARD OF 'tidewaiterlaw21.RosterTells'. -/
def rosterTellsCard : Claim7 := { stood := { row := rosterTellsRow, standIns := [], harness := (true, "7a47566febd5d3f732627a0ddd1d33429fa7ab4579e39cd163c569fe105f90ce"), looks := false }, kinds := [], alts := [], laidByText := true, laidKinds := [.data, .pinned], laidTests := true, laidLooks := .later }
def RosterTellsCardSaid : Prop := Claim7.holds Tryz.pinned (.plain (OpenSpec.ofChange rosterTellsSpec)) rosterTellsCard

/-- THE TIED CARD OF 'tidewaiterlaw21.RosterNames'. -/
def rosterNamesCard : Claim7 := { stood := { row := rosterNamesRow, standIns := [], harness := (true, "7a47566febd5d3f732627a0ddd1d33429fa7ab4579e39cd163c569fe105f90ce"), looks := false }, kinds := [], alts := [], laidByText := true, laidKinds := [.data, .pinned], laidTests := true, laidLooks := .later }
def RosterNamesCardSaid : Prop := Claim7.holds Tryz.pinned (.plain (OpenSpec.ofChange rosterNamesSpec)) rosterNamesCard

/-- THE TIED CARD OF 'tidewaiterlaw21.RosterTurns'. -/
def rosterTurnsCard : Claim7 := { stood := { row := rosterTurnsRow, standIns := [], harness := (true, "7a47566febd5d3f732627a0ddd1d33429fa7ab4579e39cd163c569fe105f90ce"), looks := false }, kinds := [], alts := [], laidByText := true, laidKinds := [.data, .pinned], laidTests := true, laidLooks := .later }
def RosterTurnsCardSaid : Prop := Claim7.holds Tryz.pinned (.plain (OpenSpec.ofChange rosterTurnsSpec)) rosterTurnsCard

/-- THE TIED CARD OF 'tidewaiterlaw21.RosterPushes'. -/
def rosterPushesCard : Claim7 := { stood := { row := rosterPushesRow, standIns := [], harness := (true, "7a47566febd5d3f732627a0ddd1d33429fa7ab4579e39cd163c569fe105f90ce"), looks := false }, kinds := [], alts := [], laidByText := true, laidKinds := [.data, .pinned], laidTests := true, laidLooks := .later }
def RosterPushesCardSaid : Prop := Claim7.holds Tryz.pinned (.plain (OpenSpec.ofChange rosterPushesSpec)) rosterPushesCard

/-- THE TIED CARD OF 'tidewaiterlaw21.RosterStates'. -/
def rosterStatesCard : Claim7 := { stood := { row := rosterStatesRow, standIns := [], harness := (true, "7a47566febd5d3f732627a0ddd1d33429fa7ab4579e39cd163c569fe105f90ce"), looks := false }, kinds := [], alts := [], laidByText := true, laidKinds := [.data, .pinned], laidTests := true, laidLooks := .later }
def RosterStatesCardSaid : Prop := Claim7.holds Tryz.pinned (.plain (OpenSpec.ofChange rosterStatesSpec)) rosterStatesCard

/-- THE SECOND FORM's CARD OF 'tidewaiterlaw21.RosterTells'. -/
def rosterTellsUptoCard : Claim7 := { stood := { row := rosterTellsUptoRow, standIns := [], harness := (true, "7a47566febd5d3f732627a0ddd1d33429fa7ab4579e39cd163c569fe105f90ce"), looks := false }, kinds := [], alts := [], laidByText := true, laidKinds := [.data, .pinned], laidTests := true, laidLooks := .later }
def RosterTellsUptoCardSaid : Prop := Claim7.holds Tryz.pinned (.plain (OpenSpec.upto rosterTellsSpec)) rosterTellsUptoCard

/-- THE SECOND FORM's CARD OF 'tidewaiterlaw21.RosterNames'. -/
def rosterNamesUptoCard : Claim7 := { stood := { row := rosterNamesUptoRow, standIns := [], harness := (true, "7a47566febd5d3f732627a0ddd1d33429fa7ab4579e39cd163c569fe105f90ce"), looks := false }, kinds := [], alts := [], laidByText := true, laidKinds := [.data, .pinned], laidTests := true, laidLooks := .later }
def RosterNamesUptoCardSaid : Prop := Claim7.holds Tryz.pinned (.plain (OpenSpec.upto rosterNamesSpec)) rosterNamesUptoCard

/-- THE SECOND FORM's CARD OF 'tidewaiterlaw21.RosterTurns'. -/
def rosterTurnsUptoCard : Claim7 := { stood := { row := rosterTurnsUptoRow, standIns := [], harness := (true, "7a47566febd5d3f732627a0ddd1d33429fa7ab4579e39cd163c569fe105f90ce"), looks := false }, kinds := [], alts := [], laidByText := true, laidKinds := [.data, .pinned], laidTests := true, laidLooks := .later }
def RosterTurnsUptoCardSaid : Prop := Claim7.holds Tryz.pinned (.plain (OpenSpec.upto rosterTurnsSpec)) rosterTurnsUptoCard

/-- THE SECOND FORM's CARD OF 'tidewaiterlaw21.RosterPushes'. -/
def rosterPushesUptoCard : Claim7 := { stood := { row := rosterPushesUptoRow, standIns := [], harness := (true, "7a47566febd5d3f732627a0ddd1d33429fa7ab4579e39cd163c569fe105f90ce"), looks := false }, kinds := [], alts := [], laidByText := true, laidKinds := [.data, .pinned], laidTests := true, laidLooks := .later }
def RosterPushesUptoCardSaid : Prop := Claim7.holds Tryz.pinned (.plain (OpenSpec.upto rosterPushesSpec)) rosterPushesUptoCard

/-- THE SECOND FORM's CARD OF 'tidewaiterlaw21.RosterStates'. -/
def rosterStatesUptoCard : Claim7 := { stood := { row := rosterStatesUptoRow, standIns := [], harness := (true, "7a47566febd5d3f732627a0ddd1d33429fa7ab4579e39cd163c569fe105f90ce"), looks := false }, kinds := [], alts := [], laidByText := true, laidKinds := [.data, .pinned], laidTests := true, laidLooks := .later }
def RosterStatesUptoCardSaid : Prop := Claim7.holds Tryz.pinned (.plain (OpenSpec.upto rosterStatesSpec)) rosterStatesUptoCard
end Rows
end Go.Proofs.YtfonkblbgadhmaaGreatDoor
