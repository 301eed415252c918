/-
  DERIVED. GIVEN WITH THE SEED: THE CARDS: each row of YtnfgpcccmbblcaaDoorRows.lean that lists a variable, with what it lists TIED to the program's text (the seventh form; the later family's looks); each row that meets fmt, with fmt's text TOLD by the authors' own Lean function (tested against real Go, not proved from fmt's source: count such statements apart). THE CARD IS WHAT COUNTS. Prove the row's statement (the work); the ties are given (YtnfgpcccmbblcaaDoorTie.lean); close each card by the builder's one call (the guide's Derived/Test/ToyasCard.lean, 'card_holds'). Laid BY PROGRAM, IN A SANDBOX (cutbox-door.mjs). By AI agents, Wed Nov 11 2026. No macro, syntax, notation, axiom, sorry.
-/
import Derived.Test.YtnfgpcccmbblcaaDoorRows
import GoSem.ClaimSeven
namespace Go.Proofs.YtnfgpcccmbblcaaDoor
namespace Rows

/-- THE TIED CARD OF 'tidewaiterlaw14.HeadReads'. -/
def headReadsCard : Claim7 := { stood := { row := headReadsRow, standIns := [], harness := (true, "a37150ed1001e49a438c3b74b60dca8d23e6bb619c7cc99646d2eade4dfb4e25"), looks := false }, kinds := [], alts := [], laidByText := true, laidKinds := [.data, .pinned], laidTests := true, laidLooks := .later }
def HeadReadsCardSaid : Prop := Claim7.holds Tryd.pinned (.plain (OpenSpec.ofChange headReadsSpec)) headReadsCard

/-- THE TIED CARD OF 'tidewaiterlaw15.LineNames'. -/
def lineNamesCard : Claim7 := { stood := { row := lineNamesRow, standIns := [], harness := (true, "a37150ed1001e49a438c3b74b60dca8d23e6bb619c7cc99646d2eade4dfb4e25"), looks := false }, kinds := [], alts := [], laidByText := true, laidKinds := [.data, .data, .data, .data, .pinned], laidTests := true, laidLooks := .later }
def LineNamesCardSaid : Prop := Claim7.holds Tryd.pinned (.plain (OpenSpec.ofChange lineNamesSpec)) lineNamesCard

/-- THE TIED CARD OF 'tidewaiterlaw15.LineJudges'. -/
def lineJudgesCard : Claim7 := { stood := { row := lineJudgesRow, standIns := [], harness := (true, "a37150ed1001e49a438c3b74b60dca8d23e6bb619c7cc99646d2eade4dfb4e25"), looks := false }, kinds := [], alts := [], laidByText := true, laidKinds := [.data, .data, .data, .data, .pinned], laidTests := true, laidLooks := .later }
def LineJudgesCardSaid : Prop := Claim7.holds Tryd.pinned (.plain (OpenSpec.ofChange lineJudgesSpec)) lineJudgesCard

/-- THE TIED CARD OF 'tidewaiterlaw15.LineTells'. -/
def lineTellsCard : Claim7 := { stood := { row := lineTellsRow, standIns := [], harness := (true, "a37150ed1001e49a438c3b74b60dca8d23e6bb619c7cc99646d2eade4dfb4e25"), looks := false }, kinds := [], alts := [], laidByText := true, laidKinds := [.data, .data, .data, .data, .pinned], laidTests := true, laidLooks := .later }
def LineTellsCardSaid : Prop := Claim7.holds Tryd.pinned (.plain (OpenSpec.ofChange lineTellsSpec)) lineTellsCard

/-- THE TIED CARD OF 'tidewaiterlaw15.LineBack'. -/
def lineBackCard : Claim7 := { stood := { row := lineBackRow, standIns := [], harness := (true, "a37150ed1001e49a438c3b74b60dca8d23e6bb619c7cc99646d2eade4dfb4e25"), looks := false }, kinds := [], alts := [], laidByText := true, laidKinds := [.data, .data, .data, .data, .pinned], laidTests := true, laidLooks := .later }
def LineBackCardSaid : Prop := Claim7.holds Tryd.pinned (.plain (OpenSpec.ofChange lineBackSpec)) lineBackCard

/-- THE TIED CARD OF 'tidewaiterlaw14.HeadParts'. -/
def headPartsCard : Claim7 := { stood := { row := headPartsRow, standIns := [], harness := (true, "a37150ed1001e49a438c3b74b60dca8d23e6bb619c7cc99646d2eade4dfb4e25"), looks := false }, kinds := [], alts := [], laidByText := true, laidKinds := [.data, .pinned], laidTests := true, laidLooks := .later }
def HeadPartsCardSaid : Prop := Claim7.holds Tryd.pinned (.plain (OpenSpec.ofChange headPartsSpec)) headPartsCard

/-- THE TIED CARD OF 'tidewaiterlaw14.HeadFrame'. -/
def headFrameCard : Claim7 := { stood := { row := headFrameRow, standIns := [], harness := (true, "a37150ed1001e49a438c3b74b60dca8d23e6bb619c7cc99646d2eade4dfb4e25"), looks := false }, kinds := [], alts := [], laidByText := true, laidKinds := [.data, .pinned], laidTests := true, laidLooks := .later }
def HeadFrameCardSaid : Prop := Claim7.holds Tryd.pinned (.plain (OpenSpec.ofChange headFrameSpec)) headFrameCard

/-- THE TIED CARD OF 'tidewaiterlaw14.HeadNames'. -/
def headNamesCard : Claim7 := { stood := { row := headNamesRow, standIns := [], harness := (true, "a37150ed1001e49a438c3b74b60dca8d23e6bb619c7cc99646d2eade4dfb4e25"), looks := false }, kinds := [], alts := [], laidByText := true, laidKinds := [.data, .pinned], laidTests := true, laidLooks := .later }
def HeadNamesCardSaid : Prop := Claim7.holds Tryd.pinned (.plain (OpenSpec.ofChange headNamesSpec)) headNamesCard

/-- THE TIED CARD OF 'tidewaiterlaw14.HeadBack'. -/
def headBackCard : Claim7 := { stood := { row := headBackRow, standIns := [], harness := (true, "a37150ed1001e49a438c3b74b60dca8d23e6bb619c7cc99646d2eade4dfb4e25"), looks := false }, kinds := [], alts := [], laidByText := true, laidKinds := [.data, .pinned], laidTests := true, laidLooks := .later }
def HeadBackCardSaid : Prop := Claim7.holds Tryd.pinned (.plain (OpenSpec.ofChange headBackSpec)) headBackCard

/-- THE TIED CARD OF 'tidewaiterlaw14.HeadAsks'. -/
def headAsksCard : Claim7 := { stood := { row := headAsksRow, standIns := [], harness := (true, "a37150ed1001e49a438c3b74b60dca8d23e6bb619c7cc99646d2eade4dfb4e25"), looks := false }, kinds := [], alts := [], laidByText := true, laidKinds := [.data, .pinned], laidTests := true, laidLooks := .later }
def HeadAsksCardSaid : Prop := Claim7.holds Tryd.pinned (.plain (OpenSpec.ofChange headAsksSpec)) headAsksCard

/-- THE SECOND FORM's CARD OF 'tidewaiterlaw14.HeadReads'. -/
def headReadsUptoCard : Claim7 := { stood := { row := headReadsUptoRow, standIns := [], harness := (true, "a37150ed1001e49a438c3b74b60dca8d23e6bb619c7cc99646d2eade4dfb4e25"), looks := false }, kinds := [], alts := [], laidByText := true, laidKinds := [.data, .pinned], laidTests := true, laidLooks := .later }
def HeadReadsUptoCardSaid : Prop := Claim7.holds Tryd.pinned (.plain (OpenSpec.upto headReadsSpec)) headReadsUptoCard

/-- THE SECOND FORM's CARD OF 'tidewaiterlaw15.LineNames'. -/
def lineNamesUptoCard : Claim7 := { stood := { row := lineNamesUptoRow, standIns := [], harness := (true, "a37150ed1001e49a438c3b74b60dca8d23e6bb619c7cc99646d2eade4dfb4e25"), looks := false }, kinds := [], alts := [], laidByText := true, laidKinds := [.data, .data, .data, .data, .pinned], laidTests := true, laidLooks := .later }
def LineNamesUptoCardSaid : Prop := Claim7.holds Tryd.pinned (.plain (OpenSpec.upto lineNamesSpec)) lineNamesUptoCard

/-- THE SECOND FORM's CARD OF 'tidewaiterlaw15.LineJudges'. -/
def lineJudgesUptoCard : Claim7 := { stood := { row := lineJudgesUptoRow, standIns := [], harness := (true, "a37150ed1001e49a438c3b74b60dca8d23e6bb619c7cc99646d2eade4dfb4e25"), looks := false }, kinds := [], alts := [], laidByText := true, laidKinds := [.data, .data, .data, .data, .pinned], laidTests := true, laidLooks := .later }
def LineJudgesUptoCardSaid : Prop := Claim7.holds Tryd.pinned (.plain (OpenSpec.upto lineJudgesSpec)) lineJudgesUptoCard

/-- THE SECOND FORM's CARD OF 'tidewaiterlaw15.LineTells'. -/
def lineTellsUptoCard : Claim7 := { stood := { row := lineTellsUptoRow, standIns := [], harness := (true, "a37150ed1001e49a438c3b74b60dca8d23e6bb619c7cc99646d2eade4dfb4e25"), looks := false }, kinds := [], alts := [], laidByText := true, laidKinds := [.data, .data, .data, .data, .pinned], laidTests := true, laidLooks := .later }
def LineTellsUptoCardSaid : Prop := Claim7.holds Tryd.pinned (.plain (OpenSpec.upto lineTellsSpec)) lineTellsUptoCard

/-- THE SECOND FORM's CARD OF 'tidewaiterlaw15.LineBack'. -/
def lineBackUptoCard : Claim7 := { stood := { row := lineBackUptoRow, standIns := [], harness := (true, "a37150ed1001e49a438c3b74b60dca8d23e6bb619c7cc99646d2eade4dfb4e25"), looks := false }, kinds := [], alts := [], laidByText := true, laidKinds := [.data, .data, .data, .data, .pinned], laidTests := true, laidLooks := .later }
def LineBackUptoCardSaid : Prop := Claim7.holds Tryd.pinned (.plain (OpenSpec.upto lineBackSpec)) lineBackUptoCard

/-- THE SECOND FORM's CARD OF 'tidewaiterlaw14.HeadParts'. -/
def headPartsUptoCard : Claim7 := { stood := { row := headPartsUptoRow, standIns := [], harness := (true, "a37150ed1001e49a438c3b74b60dca8d23e6bb619c7cc99646d2eade4dfb4e25"), looks := false }, kinds := [], alts := [], laidByText := true, laidKinds := [.data, .pinned], laidTests := true, laidLooks := .later }
def HeadPartsUptoCardSaid : Prop := Claim7.holds Tryd.pinned (.plain (OpenSpec.upto headPartsSpec)) headPartsUptoCard

/-- THE SECOND FORM's CARD OF 'tidewaiterlaw14.HeadFrame'. -/
def headFrameUptoCard : Claim7 := { stood := { row := headFrameUptoRow, standIns := [], harness := (true, "a37150ed1001e49a438c3b74b60dca8d23e6bb619c7cc99646d2eade4dfb4e25"), looks := false }, kinds := [], alts := [], laidByText := true, laidKinds := [.data, .pinned], laidTests := true, laidLooks := .later }
def HeadFrameUptoCardSaid : Prop := Claim7.holds Tryd.pinned (.plain (OpenSpec.upto headFrameSpec)) headFrameUptoCard

/-- THE SECOND FORM's CARD OF 'tidewaiterlaw14.HeadNames'. -/
def headNamesUptoCard : Claim7 := { stood := { row := headNamesUptoRow, standIns := [], harness := (true, "a37150ed1001e49a438c3b74b60dca8d23e6bb619c7cc99646d2eade4dfb4e25"), looks := false }, kinds := [], alts := [], laidByText := true, laidKinds := [.data, .pinned], laidTests := true, laidLooks := .later }
def HeadNamesUptoCardSaid : Prop := Claim7.holds Tryd.pinned (.plain (OpenSpec.upto headNamesSpec)) headNamesUptoCard

/-- THE SECOND FORM's CARD OF 'tidewaiterlaw14.HeadBack'. -/
def headBackUptoCard : Claim7 := { stood := { row := headBackUptoRow, standIns := [], harness := (true, "a37150ed1001e49a438c3b74b60dca8d23e6bb619c7cc99646d2eade4dfb4e25"), looks := false }, kinds := [], alts := [], laidByText := true, laidKinds := [.data, .pinned], laidTests := true, laidLooks := .later }
def HeadBackUptoCardSaid : Prop := Claim7.holds Tryd.pinned (.plain (OpenSpec.upto headBackSpec)) headBackUptoCard

/-- THE SECOND FORM's CARD OF 'tidewaiterlaw14.HeadAsks'. -/
def headAsksUptoCard : Claim7 := { stood := { row := headAsksUptoRow, standIns := [], harness := (true, "a37150ed1001e49a438c3b74b60dca8d23e6bb619c7cc99646d2eade4dfb4e25"), looks := false }, kinds := [], alts := [], laidByText := true, laidKinds := [.data, .pinned], laidTests := true, laidLooks := .later }
def HeadAsksUptoCardSaid : Prop := Claim7.holds Tryd.pinned (.plain (OpenSpec.upto headAsksSpec)) headAsksUptoCard
end Rows
end Go.Proofs.YtnfgpcccmbblcaaDoor
