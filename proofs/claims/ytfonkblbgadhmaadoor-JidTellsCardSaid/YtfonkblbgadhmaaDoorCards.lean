/-
  DERIVED. GIVEN WITH THE SEED: THE CARDS: each row of YtfonkblbgadhmaaDoorRows.lean that lists a variable, with what it lists TIED to the program's text (the seventh form; the later family's looks); each row that meets fmt, with fmt's text TOLD by the authors' own Lean function (tested against real Go, not proved from fmt's source: count such statements apart). THE CARD IS WHAT COUNTS. Prove the row's statement (the work); the ties are given (YtfonkblbgadhmaaDoorTie.lean); close each card by the builder's one call (the guide's Derived/Test/ToyasCard.lean, 'card_holds'). Laid BY PROGRAM, IN A SANDBOX (cutbox-door.mjs). By AI agents, Wed Nov 11 2026. No macro, syntax, notation, axiom, sorry.
-/
import Derived.Test.YtfonkblbgadhmaaDoorRows
import GoSem.ClaimSeven
namespace Go.Proofs.YtfonkblbgadhmaaDoor
namespace Rows

/-- THE TIED CARD OF 'tidewaiterlaw19.JidBack'. -/
def jidBackCard : Claim7 := { stood := { row := jidBackRow, standIns := [], harness := (true, "5b47274f346aa6fc8f670b376d521d66ed3fb7f1447ba0763cab84addea0c034"), looks := false }, kinds := [], alts := [], laidByText := true, laidKinds := [.data, .pinned], laidTests := true, laidLooks := .later }
def JidBackCardSaid : Prop := Claim7.holds Tryd.pinned (.plain (OpenSpec.ofChange jidBackSpec)) jidBackCard

/-- THE TIED CARD OF 'tidewaiterlaw19.JidKinds'. -/
def jidKindsCard : Claim7 := { stood := { row := jidKindsRow, standIns := [], harness := (true, "5b47274f346aa6fc8f670b376d521d66ed3fb7f1447ba0763cab84addea0c034"), looks := false }, kinds := [], alts := [], laidByText := true, laidKinds := [.data, .pinned], laidTests := true, laidLooks := .later }
def JidKindsCardSaid : Prop := Claim7.holds Tryd.pinned (.plain (OpenSpec.ofChange jidKindsSpec)) jidKindsCard

/-- THE TIED CARD OF 'tidewaiterlaw19.JidOrder'. -/
def jidOrderCard : Claim7 := { stood := { row := jidOrderRow, standIns := [], harness := (true, "5b47274f346aa6fc8f670b376d521d66ed3fb7f1447ba0763cab84addea0c034"), looks := false }, kinds := [], alts := [], laidByText := true, laidKinds := [.data, .pinned], laidTests := true, laidLooks := .later }
def JidOrderCardSaid : Prop := Claim7.holds Tryd.pinned (.plain (OpenSpec.ofChange jidOrderSpec)) jidOrderCard

/-- THE TIED CARD OF 'tidewaiterlaw19.JidNames'. -/
def jidNamesCard : Claim7 := { stood := { row := jidNamesRow, standIns := [], harness := (true, "5b47274f346aa6fc8f670b376d521d66ed3fb7f1447ba0763cab84addea0c034"), looks := false }, kinds := [], alts := [], laidByText := true, laidKinds := [.data, .pinned], laidTests := true, laidLooks := .later }
def JidNamesCardSaid : Prop := Claim7.holds Tryd.pinned (.plain (OpenSpec.ofChange jidNamesSpec)) jidNamesCard

/-- THE TIED CARD OF 'tidewaiterlaw19.JidTells'. -/
def jidTellsCard : Claim7 := { stood := { row := jidTellsRow, standIns := [], harness := (true, "5b47274f346aa6fc8f670b376d521d66ed3fb7f1447ba0763cab84addea0c034"), looks := false }, kinds := [], alts := [], laidByText := true, laidKinds := [.data, .pinned], laidTests := true, laidLooks := .later }
def JidTellsCardSaid : Prop := Claim7.holds Tryd.pinned (.plain (OpenSpec.ofChange jidTellsSpec)) jidTellsCard

/-- THE SECOND FORM's CARD OF 'tidewaiterlaw19.JidBack'. -/
def jidBackUptoCard : Claim7 := { stood := { row := jidBackUptoRow, standIns := [], harness := (true, "5b47274f346aa6fc8f670b376d521d66ed3fb7f1447ba0763cab84addea0c034"), looks := false }, kinds := [], alts := [], laidByText := true, laidKinds := [.data, .pinned], laidTests := true, laidLooks := .later }
def JidBackUptoCardSaid : Prop := Claim7.holds Tryd.pinned (.plain (OpenSpec.upto jidBackSpec)) jidBackUptoCard

/-- THE SECOND FORM's CARD OF 'tidewaiterlaw19.JidKinds'. -/
def jidKindsUptoCard : Claim7 := { stood := { row := jidKindsUptoRow, standIns := [], harness := (true, "5b47274f346aa6fc8f670b376d521d66ed3fb7f1447ba0763cab84addea0c034"), looks := false }, kinds := [], alts := [], laidByText := true, laidKinds := [.data, .pinned], laidTests := true, laidLooks := .later }
def JidKindsUptoCardSaid : Prop := Claim7.holds Tryd.pinned (.plain (OpenSpec.upto jidKindsSpec)) jidKindsUptoCard

/-- THE SECOND FORM's CARD OF 'tidewaiterlaw19.JidOrder'. -/
def jidOrderUptoCard : Claim7 := { stood := { row := jidOrderUptoRow, standIns := [], harness := (true, "5b47274f346aa6fc8f670b376d521d66ed3fb7f1447ba0763cab84addea0c034"), looks := false }, kinds := [], alts := [], laidByText := true, laidKinds := [.data, .pinned], laidTests := true, laidLooks := .later }
def JidOrderUptoCardSaid : Prop := Claim7.holds Tryd.pinned (.plain (OpenSpec.upto jidOrderSpec)) jidOrderUptoCard

/-- THE SECOND FORM's CARD OF 'tidewaiterlaw19.JidNames'. -/
def jidNamesUptoCard : Claim7 := { stood := { row := jidNamesUptoRow, standIns := [], harness := (true, "5b47274f346aa6fc8f670b376d521d66ed3fb7f1447ba0763cab84addea0c034"), looks := false }, kinds := [], alts := [], laidByText := true, laidKinds := [.data, .pinned], laidTests := true, laidLooks := .later }
def JidNamesUptoCardSaid : Prop := Claim7.holds Tryd.pinned (.plain (OpenSpec.upto jidNamesSpec)) jidNamesUptoCard

/-- THE SECOND FORM's CARD OF 'tidewaiterlaw19.JidTells'. -/
def jidTellsUptoCard : Claim7 := { stood := { row := jidTellsUptoRow, standIns := [], harness := (true, "5b47274f346aa6fc8f670b376d521d66ed3fb7f1447ba0763cab84addea0c034"), looks := false }, kinds := [], alts := [], laidByText := true, laidKinds := [.data, .pinned], laidTests := true, laidLooks := .later }
def JidTellsUptoCardSaid : Prop := Claim7.holds Tryd.pinned (.plain (OpenSpec.upto jidTellsSpec)) jidTellsUptoCard
end Rows
end Go.Proofs.YtfonkblbgadhmaaDoor
