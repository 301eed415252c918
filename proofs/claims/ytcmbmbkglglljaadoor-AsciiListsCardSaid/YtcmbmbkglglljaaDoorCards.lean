/-
  DERIVED. GIVEN WITH THE SEED: THE CARDS: each row of YtcmbmbkglglljaaDoorRows.lean that lists a variable, with what it lists TIED to the program's text (the seventh form; the later family's looks); each row that meets fmt, with fmt's text TOLD by the authors' own Lean function (tested against real Go, not proved from fmt's source: count such statements apart). THE CARD IS WHAT COUNTS. Prove the row's statement (the work); the ties are given (YtcmbmbkglglljaaDoorTie.lean); close each card by the builder's one call (the guide's Derived/Test/ToyasCard.lean, 'card_holds'). Laid BY PROGRAM, IN A SANDBOX (cutbox-door.mjs). By AI agents, Wed Nov 11 2026. No macro, syntax, notation, axiom, sorry.
-/
import Derived.Test.YtcmbmbkglglljaaDoorRows
import GoSem.ClaimSeven
namespace Go.Proofs.YtcmbmbkglglljaaDoor
namespace Rows

/-- THE TIED CARD OF 'tidewaiterlaw16.ChunkNames'. -/
def chunkNamesCard : Claim7 := { stood := { row := chunkNamesRow, standIns := [], harness := (true, "86215e7fc6c8c965067a34c66d2f5fd575002fb42e259f8dadb8a7f01b60e261"), looks := false }, kinds := [], alts := [], laidByText := true, laidKinds := [.data, .data, .data], laidTests := true, laidLooks := .later }
def ChunkNamesCardSaid : Prop := Claim7.holds Tryd.pinned (.plain (OpenSpec.ofChange chunkNamesSpec)) chunkNamesCard

/-- THE TIED CARD OF 'tidewaiterlaw16.ChunkTells'. -/
def chunkTellsCard : Claim7 := { stood := { row := chunkTellsRow, standIns := [], harness := (true, "86215e7fc6c8c965067a34c66d2f5fd575002fb42e259f8dadb8a7f01b60e261"), looks := false }, kinds := [], alts := [], laidByText := true, laidKinds := [.data, .data, .data], laidTests := true, laidLooks := .later }
def ChunkTellsCardSaid : Prop := Claim7.holds Tryd.pinned (.plain (OpenSpec.ofChange chunkTellsSpec)) chunkTellsCard

/-- THE TIED CARD OF 'tidewaiterlaw16.ChunkBack'. -/
def chunkBackCard : Claim7 := { stood := { row := chunkBackRow, standIns := [], harness := (true, "86215e7fc6c8c965067a34c66d2f5fd575002fb42e259f8dadb8a7f01b60e261"), looks := false }, kinds := [], alts := [], laidByText := true, laidKinds := [.data, .data, .data], laidTests := true, laidLooks := .later }
def ChunkBackCardSaid : Prop := Claim7.holds Tryd.pinned (.plain (OpenSpec.ofChange chunkBackSpec)) chunkBackCard

/-- THE TIED CARD OF 'tidewaiterlaw16.ChunkLasts'. -/
def chunkLastsCard : Claim7 := { stood := { row := chunkLastsRow, standIns := [], harness := (true, "86215e7fc6c8c965067a34c66d2f5fd575002fb42e259f8dadb8a7f01b60e261"), looks := false }, kinds := [], alts := [], laidByText := true, laidKinds := [.data, .data, .data], laidTests := true, laidLooks := .later }
def ChunkLastsCardSaid : Prop := Claim7.holds Tryd.pinned (.plain (OpenSpec.ofChange chunkLastsSpec)) chunkLastsCard

/-- THE TIED CARD OF 'tidewaiterlaw07.AsciiLists'. -/
def asciiListsCard : Claim7 := { stood := { row := asciiListsRow, standIns := [], harness := (true, "86215e7fc6c8c965067a34c66d2f5fd575002fb42e259f8dadb8a7f01b60e261"), looks := false }, kinds := [], alts := [], laidByText := true, laidKinds := [.data, .pinned], laidTests := true, laidLooks := .later }
def AsciiListsCardSaid : Prop := Claim7.holds Tryd.pinned (.plain (OpenSpec.ofChange asciiListsSpec)) asciiListsCard

/-- THE TIED CARD OF 'tidewaiterlaw07.AsciiNames'. -/
def asciiNamesCard : Claim7 := { stood := { row := asciiNamesRow, standIns := [], harness := (true, "86215e7fc6c8c965067a34c66d2f5fd575002fb42e259f8dadb8a7f01b60e261"), looks := false }, kinds := [], alts := [], laidByText := true, laidKinds := [.data, .pinned], laidTests := true, laidLooks := .later }
def AsciiNamesCardSaid : Prop := Claim7.holds Tryd.pinned (.plain (OpenSpec.ofChange asciiNamesSpec)) asciiNamesCard

/-- THE TIED CARD OF 'tidewaiterlaw07.AsciiTells'. -/
def asciiTellsCard : Claim7 := { stood := { row := asciiTellsRow, standIns := [], harness := (true, "86215e7fc6c8c965067a34c66d2f5fd575002fb42e259f8dadb8a7f01b60e261"), looks := false }, kinds := [], alts := [], laidByText := true, laidKinds := [.data, .pinned], laidTests := true, laidLooks := .later }
def AsciiTellsCardSaid : Prop := Claim7.holds Tryd.pinned (.plain (OpenSpec.ofChange asciiTellsSpec)) asciiTellsCard

/-- THE TIED CARD OF 'tidewaiterlaw07.AsciiAgain'. -/
def asciiAgainCard : Claim7 := { stood := { row := asciiAgainRow, standIns := [], harness := (true, "86215e7fc6c8c965067a34c66d2f5fd575002fb42e259f8dadb8a7f01b60e261"), looks := false }, kinds := [], alts := [], laidByText := true, laidKinds := [.data, .pinned], laidTests := true, laidLooks := .later }
def AsciiAgainCardSaid : Prop := Claim7.holds Tryd.pinned (.plain (OpenSpec.ofChange asciiAgainSpec)) asciiAgainCard

/-- THE TIED CARD OF 'tidewaiterlaw07.AsciiSame'. -/
def asciiSameCard : Claim7 := { stood := { row := asciiSameRow, standIns := [], harness := (true, "86215e7fc6c8c965067a34c66d2f5fd575002fb42e259f8dadb8a7f01b60e261"), looks := false }, kinds := [], alts := [], laidByText := true, laidKinds := [.data, .pinned], laidTests := true, laidLooks := .later }
def AsciiSameCardSaid : Prop := Claim7.holds Tryd.pinned (.plain (OpenSpec.ofChange asciiSameSpec)) asciiSameCard

/-- THE SECOND FORM's CARD OF 'tidewaiterlaw16.ChunkNames'. -/
def chunkNamesUptoCard : Claim7 := { stood := { row := chunkNamesUptoRow, standIns := [], harness := (true, "86215e7fc6c8c965067a34c66d2f5fd575002fb42e259f8dadb8a7f01b60e261"), looks := false }, kinds := [], alts := [], laidByText := true, laidKinds := [.data, .data, .data], laidTests := true, laidLooks := .later }
def ChunkNamesUptoCardSaid : Prop := Claim7.holds Tryd.pinned (.plain (OpenSpec.upto chunkNamesSpec)) chunkNamesUptoCard

/-- THE SECOND FORM's CARD OF 'tidewaiterlaw16.ChunkTells'. -/
def chunkTellsUptoCard : Claim7 := { stood := { row := chunkTellsUptoRow, standIns := [], harness := (true, "86215e7fc6c8c965067a34c66d2f5fd575002fb42e259f8dadb8a7f01b60e261"), looks := false }, kinds := [], alts := [], laidByText := true, laidKinds := [.data, .data, .data], laidTests := true, laidLooks := .later }
def ChunkTellsUptoCardSaid : Prop := Claim7.holds Tryd.pinned (.plain (OpenSpec.upto chunkTellsSpec)) chunkTellsUptoCard

/-- THE SECOND FORM's CARD OF 'tidewaiterlaw16.ChunkBack'. -/
def chunkBackUptoCard : Claim7 := { stood := { row := chunkBackUptoRow, standIns := [], harness := (true, "86215e7fc6c8c965067a34c66d2f5fd575002fb42e259f8dadb8a7f01b60e261"), looks := false }, kinds := [], alts := [], laidByText := true, laidKinds := [.data, .data, .data], laidTests := true, laidLooks := .later }
def ChunkBackUptoCardSaid : Prop := Claim7.holds Tryd.pinned (.plain (OpenSpec.upto chunkBackSpec)) chunkBackUptoCard

/-- THE SECOND FORM's CARD OF 'tidewaiterlaw16.ChunkLasts'. -/
def chunkLastsUptoCard : Claim7 := { stood := { row := chunkLastsUptoRow, standIns := [], harness := (true, "86215e7fc6c8c965067a34c66d2f5fd575002fb42e259f8dadb8a7f01b60e261"), looks := false }, kinds := [], alts := [], laidByText := true, laidKinds := [.data, .data, .data], laidTests := true, laidLooks := .later }
def ChunkLastsUptoCardSaid : Prop := Claim7.holds Tryd.pinned (.plain (OpenSpec.upto chunkLastsSpec)) chunkLastsUptoCard

/-- THE SECOND FORM's CARD OF 'tidewaiterlaw07.AsciiLists'. -/
def asciiListsUptoCard : Claim7 := { stood := { row := asciiListsUptoRow, standIns := [], harness := (true, "86215e7fc6c8c965067a34c66d2f5fd575002fb42e259f8dadb8a7f01b60e261"), looks := false }, kinds := [], alts := [], laidByText := true, laidKinds := [.data, .pinned], laidTests := true, laidLooks := .later }
def AsciiListsUptoCardSaid : Prop := Claim7.holds Tryd.pinned (.plain (OpenSpec.upto asciiListsSpec)) asciiListsUptoCard

/-- THE SECOND FORM's CARD OF 'tidewaiterlaw07.AsciiNames'. -/
def asciiNamesUptoCard : Claim7 := { stood := { row := asciiNamesUptoRow, standIns := [], harness := (true, "86215e7fc6c8c965067a34c66d2f5fd575002fb42e259f8dadb8a7f01b60e261"), looks := false }, kinds := [], alts := [], laidByText := true, laidKinds := [.data, .pinned], laidTests := true, laidLooks := .later }
def AsciiNamesUptoCardSaid : Prop := Claim7.holds Tryd.pinned (.plain (OpenSpec.upto asciiNamesSpec)) asciiNamesUptoCard

/-- THE SECOND FORM's CARD OF 'tidewaiterlaw07.AsciiTells'. -/
def asciiTellsUptoCard : Claim7 := { stood := { row := asciiTellsUptoRow, standIns := [], harness := (true, "86215e7fc6c8c965067a34c66d2f5fd575002fb42e259f8dadb8a7f01b60e261"), looks := false }, kinds := [], alts := [], laidByText := true, laidKinds := [.data, .pinned], laidTests := true, laidLooks := .later }
def AsciiTellsUptoCardSaid : Prop := Claim7.holds Tryd.pinned (.plain (OpenSpec.upto asciiTellsSpec)) asciiTellsUptoCard

/-- THE SECOND FORM's CARD OF 'tidewaiterlaw07.AsciiAgain'. -/
def asciiAgainUptoCard : Claim7 := { stood := { row := asciiAgainUptoRow, standIns := [], harness := (true, "86215e7fc6c8c965067a34c66d2f5fd575002fb42e259f8dadb8a7f01b60e261"), looks := false }, kinds := [], alts := [], laidByText := true, laidKinds := [.data, .pinned], laidTests := true, laidLooks := .later }
def AsciiAgainUptoCardSaid : Prop := Claim7.holds Tryd.pinned (.plain (OpenSpec.upto asciiAgainSpec)) asciiAgainUptoCard

/-- THE SECOND FORM's CARD OF 'tidewaiterlaw07.AsciiSame'. -/
def asciiSameUptoCard : Claim7 := { stood := { row := asciiSameUptoRow, standIns := [], harness := (true, "86215e7fc6c8c965067a34c66d2f5fd575002fb42e259f8dadb8a7f01b60e261"), looks := false }, kinds := [], alts := [], laidByText := true, laidKinds := [.data, .pinned], laidTests := true, laidLooks := .later }
def AsciiSameUptoCardSaid : Prop := Claim7.holds Tryd.pinned (.plain (OpenSpec.upto asciiSameSpec)) asciiSameUptoCard
end Rows
end Go.Proofs.YtcmbmbkglglljaaDoor
