/-
  DERIVED. GIVEN WITH THE SEED: THE CARDS: each row of YtjgeiieiinmdnaaGreatDoorRows.lean that lists a variable, with what it lists TIED to the program's text (the seventh form; the later family's looks); each row that meets fmt, with fmt's text TOLD by the authors' own Lean function (tested against real Go, not proved from fmt's source: count such statements apart). THE CARD IS WHAT COUNTS. Prove the row's statement (the work); the ties are given (YtjgeiieiinmdnaaGreatDoorTie.lean); close each card by the builder's one call (the guide's Derived/Test/ToyasCard.lean, 'card_holds'). Laid BY PROGRAM, IN A SANDBOX (cutbox-door.mjs). By AI agents, Wed Nov 11 2026. No macro, syntax, notation, axiom, sorry.
-/
import Derived.Test.YtjgeiieiinmdnaaGreatDoorRows
import GoSem.ClaimSeven
namespace Go.Proofs.YtjgeiieiinmdnaaGreatDoor
namespace Rows

/-- THE TIED CARD OF 'tidewaiterlaw24.HallTells'. -/
def hallTellsCard : Claim7 := { stood := { row := hallTellsRow, standIns := [], harness := (true, "1dd94081c42f65cb80fcf4a2e58a2ff066fdbc629da9d51f24e89ad74ceb7bde"), looks := false }, kinds := [], alts := [], laidByText := true, laidKinds := [.data, .pinned], laidTests := true, laidLooks := .later }
def HallTellsCardSaid : Prop := Claim7.holds Tryz.pinned (.plain (OpenSpec.ofChange hallTellsSpec)) hallTellsCard

/-- THE TIED CARD OF 'tidewaiterlaw24.HallBest'. -/
def hallBestCard : Claim7 := { stood := { row := hallBestRow, standIns := [], harness := (true, "1dd94081c42f65cb80fcf4a2e58a2ff066fdbc629da9d51f24e89ad74ceb7bde"), looks := false }, kinds := [], alts := [], laidByText := true, laidKinds := [.data, .data, .data, .data, .pinned], laidTests := true, laidLooks := .later }
def HallBestCardSaid : Prop := Claim7.holds Tryz.pinned (.plain (OpenSpec.ofChange hallBestSpec)) hallBestCard

/-- THE TIED CARD OF 'tidewaiterlaw24.HallTurns'. -/
def hallTurnsCard : Claim7 := { stood := { row := hallTurnsRow, standIns := [], harness := (true, "1dd94081c42f65cb80fcf4a2e58a2ff066fdbc629da9d51f24e89ad74ceb7bde"), looks := false }, kinds := [], alts := [], laidByText := true, laidKinds := [.data, .data, .data, .data, .pinned], laidTests := true, laidLooks := .later }
def HallTurnsCardSaid : Prop := Claim7.holds Tryz.pinned (.plain (OpenSpec.ofChange hallTurnsSpec)) hallTurnsCard

/-- THE TIED CARD OF 'tidewaiterlaw24.HallNames'. -/
def hallNamesCard : Claim7 := { stood := { row := hallNamesRow, standIns := [], harness := (true, "1dd94081c42f65cb80fcf4a2e58a2ff066fdbc629da9d51f24e89ad74ceb7bde"), looks := false }, kinds := [], alts := [], laidByText := true, laidKinds := [.data, .data, .data, .data, .pinned], laidTests := true, laidLooks := .later }
def HallNamesCardSaid : Prop := Claim7.holds Tryz.pinned (.plain (OpenSpec.ofChange hallNamesSpec)) hallNamesCard

/-- THE TIED CARD OF 'tidewaiterlaw24.HallBinds'. -/
def hallBindsCard : Claim7 := { stood := { row := hallBindsRow, standIns := [], harness := (true, "1dd94081c42f65cb80fcf4a2e58a2ff066fdbc629da9d51f24e89ad74ceb7bde"), looks := false }, kinds := [], alts := [], laidByText := true, laidKinds := [.data, .data, .data, .data, .pinned], laidTests := true, laidLooks := .later }
def HallBindsCardSaid : Prop := Claim7.holds Tryz.pinned (.plain (OpenSpec.ofChange hallBindsSpec)) hallBindsCard

/-- THE TIED CARD OF 'tidewaiterlaw24.HallTurned'. -/
def hallTurnedCard : Claim7 := { stood := { row := hallTurnedRow, standIns := [], harness := (true, "1dd94081c42f65cb80fcf4a2e58a2ff066fdbc629da9d51f24e89ad74ceb7bde"), looks := false }, kinds := [], alts := [], laidByText := true, laidKinds := [.data, .data, .data, .data, .pinned], laidTests := true, laidLooks := .later }
def HallTurnedCardSaid : Prop := Claim7.holds Tryz.pinned (.plain (OpenSpec.ofChange hallTurnedSpec)) hallTurnedCard

/-- THE SECOND FORM's CARD OF 'tidewaiterlaw24.HallTells'. -/
def hallTellsUptoCard : Claim7 := { stood := { row := hallTellsUptoRow, standIns := [], harness := (true, "1dd94081c42f65cb80fcf4a2e58a2ff066fdbc629da9d51f24e89ad74ceb7bde"), looks := false }, kinds := [], alts := [], laidByText := true, laidKinds := [.data, .pinned], laidTests := true, laidLooks := .later }
def HallTellsUptoCardSaid : Prop := Claim7.holds Tryz.pinned (.plain (OpenSpec.upto hallTellsSpec)) hallTellsUptoCard

/-- THE SECOND FORM's CARD OF 'tidewaiterlaw24.HallBest'. -/
def hallBestUptoCard : Claim7 := { stood := { row := hallBestUptoRow, standIns := [], harness := (true, "1dd94081c42f65cb80fcf4a2e58a2ff066fdbc629da9d51f24e89ad74ceb7bde"), looks := false }, kinds := [], alts := [], laidByText := true, laidKinds := [.data, .data, .data, .data, .pinned], laidTests := true, laidLooks := .later }
def HallBestUptoCardSaid : Prop := Claim7.holds Tryz.pinned (.plain (OpenSpec.upto hallBestSpec)) hallBestUptoCard

/-- THE SECOND FORM's CARD OF 'tidewaiterlaw24.HallTurns'. -/
def hallTurnsUptoCard : Claim7 := { stood := { row := hallTurnsUptoRow, standIns := [], harness := (true, "1dd94081c42f65cb80fcf4a2e58a2ff066fdbc629da9d51f24e89ad74ceb7bde"), looks := false }, kinds := [], alts := [], laidByText := true, laidKinds := [.data, .data, .data, .data, .pinned], laidTests := true, laidLooks := .later }
def HallTurnsUptoCardSaid : Prop := Claim7.holds Tryz.pinned (.plain (OpenSpec.upto hallTurnsSpec)) hallTurnsUptoCard

/-- THE SECOND FORM's CARD OF 'tidewaiterlaw24.HallNames'. -/
def hallNamesUptoCard : Claim7 := { stood := { row := hallNamesUptoRow, standIns := [], harness := (true, "1dd94081c42f65cb80fcf4a2e58a2ff066fdbc629da9d51f24e89ad74ceb7bde"), looks := false }, kinds := [], alts := [], laidByText := true, laidKinds := [.data, .data, .data, .data, .pinned], laidTests := true, laidLooks := .later }
def HallNamesUptoCardSaid : Prop := Claim7.holds Tryz.pinned (.plain (OpenSpec.upto hallNamesSpec)) hallNamesUptoCard

/-- THE SECOND FORM's CARD OF 'tidewaiterlaw24.HallBinds'. -/
def hallBindsUptoCard : Claim7 := { stood := { row := hallBindsUptoRow, standIns := [], harness := (true, "1dd94081c42f65cb80fcf4a2e58a2ff066fdbc629da9d51f24e89ad74ceb7bde"), looks := false }, kinds := [], alts := [], laidByText := true, laidKinds := [.data, .data, .data, .data, .pinned], laidTests := true, laidLooks := .later }
def HallBindsUptoCardSaid : Prop := Claim7.holds Tryz.pinned (.plain (OpenSpec.upto hallBindsSpec)) hallBindsUptoCard

/-- THE SECOND FORM's CARD OF 'tidewaiterlaw24.HallTurned'. -/
def hallTurnedUptoCard : Claim7 := { stood := { row := hallTurnedUptoRow, standIns := [], harness := (true, "1dd94081c42f65cb80fcf4a2e58a2ff066fdbc629da9d51f24e89ad74ceb7bde"), looks := false }, kinds := [], alts := [], laidByText := true, laidKinds := [.data, .data, .data, .data, .pinned], laidTests := true, laidLooks := .later }
def HallTurnedUptoCardSaid : Prop := Claim7.holds Tryz.pinned (.plain (OpenSpec.upto hallTurnedSpec)) hallTurnedUptoCard
end Rows
end Go.Proofs.YtjgeiieiinmdnaaGreatDoor
