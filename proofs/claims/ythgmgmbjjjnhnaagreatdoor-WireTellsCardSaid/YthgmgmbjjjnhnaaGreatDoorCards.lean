/-
  DERIVED. GIVEN WITH THE SEED: THE CARDS: each row of YthgmgmbjjjnhnaaGreatDoorRows.lean that lists a variable, with what it lists TIED to the program's text (the seventh form; the later family's looks); each row that meets fmt, with fmt's text TOLD by the authors' own Lean function (tested against real Go, not proved from fmt's source: count such statements apart). THE CARD IS WHAT COUNTS. Prove the row's statement (the work); the ties are given (YthgmgmbjjjnhnaaGreatDoorTie.lean); close each card by the builder's one call (the guide's Derived/Test/ToyasCard.lean, 'card_holds'). Laid BY PROGRAM, IN A SANDBOX (cutbox-door.mjs). By AI agents, Wed Nov 11 2026. No macro, syntax, notation, axiom, sorry.
-/
import Derived.Test.YthgmgmbjjjnhnaaGreatDoorRows
import GoSem.ClaimSeven
namespace Go.Proofs.YthgmgmbjjjnhnaaGreatDoor
namespace Rows

/-- THE TIED CARD OF 'tidewaiterlaw18.ReplyTells'. -/
def replyTellsCard : Claim7 := { stood := { row := replyTellsRow, standIns := [], harness := (true, "224a34482b59c3ba38e05242db5bca617d1c68b6e576f18c7bf4a6fa38bbe2ff"), looks := false }, kinds := [], alts := [], laidByText := true, laidKinds := [.data, .data, .data, .data, .pinned], laidTests := true, laidLooks := .later }
def ReplyTellsCardSaid : Prop := Claim7.holds Tryz.pinned (.plain (OpenSpec.ofChange replyTellsSpec)) replyTellsCard

/-- THE TIED CARD OF 'tidewaiterlaw17.WireNames'. -/
def wireNamesCard : Claim7 := { stood := { row := wireNamesRow, standIns := [], harness := (true, "224a34482b59c3ba38e05242db5bca617d1c68b6e576f18c7bf4a6fa38bbe2ff"), looks := false }, kinds := [], alts := [], laidByText := true, laidKinds := [.data, .pinned], laidTests := true, laidLooks := .later }
def WireNamesCardSaid : Prop := Claim7.holds Tryz.pinned (.plain (OpenSpec.ofChange wireNamesSpec)) wireNamesCard

/-- THE TIED CARD OF 'tidewaiterlaw17.WireTells'. -/
def wireTellsCard : Claim7 := { stood := { row := wireTellsRow, standIns := [], harness := (true, "224a34482b59c3ba38e05242db5bca617d1c68b6e576f18c7bf4a6fa38bbe2ff"), looks := false }, kinds := [], alts := [], laidByText := true, laidKinds := [.data, .pinned], laidTests := true, laidLooks := .later }
def WireTellsCardSaid : Prop := Claim7.holds Tryz.pinned (.plain (OpenSpec.ofChange wireTellsSpec)) wireTellsCard

/-- THE TIED CARD OF 'tidewaiterlaw17.WireSplit'. -/
def wireSplitCard : Claim7 := { stood := { row := wireSplitRow, standIns := [], harness := (true, "224a34482b59c3ba38e05242db5bca617d1c68b6e576f18c7bf4a6fa38bbe2ff"), looks := false }, kinds := [], alts := [], laidByText := true, laidKinds := [.data, .pinned], laidTests := true, laidLooks := .later }
def WireSplitCardSaid : Prop := Claim7.holds Tryz.pinned (.plain (OpenSpec.ofChange wireSplitSpec)) wireSplitCard

/-- THE TIED CARD OF 'tidewaiterlaw17.WireWhole'. -/
def wireWholeCard : Claim7 := { stood := { row := wireWholeRow, standIns := [], harness := (true, "224a34482b59c3ba38e05242db5bca617d1c68b6e576f18c7bf4a6fa38bbe2ff"), looks := false }, kinds := [], alts := [], laidByText := true, laidKinds := [.data, .data, .data, .data, .pinned], laidTests := true, laidLooks := .later }
def WireWholeCardSaid : Prop := Claim7.holds Tryz.pinned (.plain (OpenSpec.ofChange wireWholeSpec)) wireWholeCard

/-- THE SECOND FORM's CARD OF 'tidewaiterlaw18.ReplyTells'. -/
def replyTellsUptoCard : Claim7 := { stood := { row := replyTellsUptoRow, standIns := [], harness := (true, "224a34482b59c3ba38e05242db5bca617d1c68b6e576f18c7bf4a6fa38bbe2ff"), looks := false }, kinds := [], alts := [], laidByText := true, laidKinds := [.data, .data, .data, .data, .pinned], laidTests := true, laidLooks := .later }
def ReplyTellsUptoCardSaid : Prop := Claim7.holds Tryz.pinned (.plain (OpenSpec.upto replyTellsSpec)) replyTellsUptoCard

/-- THE SECOND FORM's CARD OF 'tidewaiterlaw17.WireNames'. -/
def wireNamesUptoCard : Claim7 := { stood := { row := wireNamesUptoRow, standIns := [], harness := (true, "224a34482b59c3ba38e05242db5bca617d1c68b6e576f18c7bf4a6fa38bbe2ff"), looks := false }, kinds := [], alts := [], laidByText := true, laidKinds := [.data, .pinned], laidTests := true, laidLooks := .later }
def WireNamesUptoCardSaid : Prop := Claim7.holds Tryz.pinned (.plain (OpenSpec.upto wireNamesSpec)) wireNamesUptoCard

/-- THE SECOND FORM's CARD OF 'tidewaiterlaw17.WireTells'. -/
def wireTellsUptoCard : Claim7 := { stood := { row := wireTellsUptoRow, standIns := [], harness := (true, "224a34482b59c3ba38e05242db5bca617d1c68b6e576f18c7bf4a6fa38bbe2ff"), looks := false }, kinds := [], alts := [], laidByText := true, laidKinds := [.data, .pinned], laidTests := true, laidLooks := .later }
def WireTellsUptoCardSaid : Prop := Claim7.holds Tryz.pinned (.plain (OpenSpec.upto wireTellsSpec)) wireTellsUptoCard

/-- THE SECOND FORM's CARD OF 'tidewaiterlaw17.WireSplit'. -/
def wireSplitUptoCard : Claim7 := { stood := { row := wireSplitUptoRow, standIns := [], harness := (true, "224a34482b59c3ba38e05242db5bca617d1c68b6e576f18c7bf4a6fa38bbe2ff"), looks := false }, kinds := [], alts := [], laidByText := true, laidKinds := [.data, .pinned], laidTests := true, laidLooks := .later }
def WireSplitUptoCardSaid : Prop := Claim7.holds Tryz.pinned (.plain (OpenSpec.upto wireSplitSpec)) wireSplitUptoCard

/-- THE SECOND FORM's CARD OF 'tidewaiterlaw17.WireWhole'. -/
def wireWholeUptoCard : Claim7 := { stood := { row := wireWholeUptoRow, standIns := [], harness := (true, "224a34482b59c3ba38e05242db5bca617d1c68b6e576f18c7bf4a6fa38bbe2ff"), looks := false }, kinds := [], alts := [], laidByText := true, laidKinds := [.data, .data, .data, .data, .pinned], laidTests := true, laidLooks := .later }
def WireWholeUptoCardSaid : Prop := Claim7.holds Tryz.pinned (.plain (OpenSpec.upto wireWholeSpec)) wireWholeUptoCard
end Rows
end Go.Proofs.YthgmgmbjjjnhnaaGreatDoor
