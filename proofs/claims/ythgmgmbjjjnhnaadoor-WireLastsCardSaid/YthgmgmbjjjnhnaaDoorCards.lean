/-
  DERIVED. GIVEN WITH THE SEED: THE CARDS: each row of YthgmgmbjjjnhnaaDoorRows.lean that lists a variable, with what it lists TIED to the program's text (the seventh form; the later family's looks); each row that meets fmt, with fmt's text TOLD by the authors' own Lean function (tested against real Go, not proved from fmt's source: count such statements apart). THE CARD IS WHAT COUNTS. Prove the row's statement (the work); the ties are given (YthgmgmbjjjnhnaaDoorTie.lean); close each card by the builder's one call (the guide's Derived/Test/ToyasCard.lean, 'card_holds'). Laid BY PROGRAM, IN A SANDBOX (cutbox-door.mjs). By AI agents, Wed Nov 11 2026. No macro, syntax, notation, axiom, sorry.
-/
import Derived.Test.YthgmgmbjjjnhnaaDoorRows
import GoSem.ClaimSeven
namespace Go.Proofs.YthgmgmbjjjnhnaaDoor
namespace Rows

/-- THE TIED CARD OF 'tidewaiterlaw18.ReplyNames'. -/
def replyNamesCard : Claim7 := { stood := { row := replyNamesRow, standIns := [], harness := (true, "bbfd80b4d94d9f400366640e6b4bbfe4641b99349560b938d39b758cfb40d35c"), looks := false }, kinds := [], alts := [], laidByText := true, laidKinds := [.data, .data, .data, .data, .pinned], laidTests := true, laidLooks := .later }
def ReplyNamesCardSaid : Prop := Claim7.holds Tryd.pinned (.plain (OpenSpec.ofChange replyNamesSpec)) replyNamesCard

/-- THE TIED CARD OF 'tidewaiterlaw18.ReplyBack'. -/
def replyBackCard : Claim7 := { stood := { row := replyBackRow, standIns := [], harness := (true, "bbfd80b4d94d9f400366640e6b4bbfe4641b99349560b938d39b758cfb40d35c"), looks := false }, kinds := [], alts := [], laidByText := true, laidKinds := [.data, .data, .data, .data, .pinned], laidTests := true, laidLooks := .later }
def ReplyBackCardSaid : Prop := Claim7.holds Tryd.pinned (.plain (OpenSpec.ofChange replyBackSpec)) replyBackCard

/-- THE TIED CARD OF 'tidewaiterlaw18.ReplyParts'. -/
def replyPartsCard : Claim7 := { stood := { row := replyPartsRow, standIns := [], harness := (true, "bbfd80b4d94d9f400366640e6b4bbfe4641b99349560b938d39b758cfb40d35c"), looks := false }, kinds := [], alts := [], laidByText := true, laidKinds := [.data, .data, .data, .data, .pinned], laidTests := true, laidLooks := .later }
def ReplyPartsCardSaid : Prop := Claim7.holds Tryd.pinned (.plain (OpenSpec.ofChange replyPartsSpec)) replyPartsCard

/-- THE TIED CARD OF 'tidewaiterlaw17.WireLasts'. -/
def wireLastsCard : Claim7 := { stood := { row := wireLastsRow, standIns := [], harness := (true, "bbfd80b4d94d9f400366640e6b4bbfe4641b99349560b938d39b758cfb40d35c"), looks := false }, kinds := [], alts := [], laidByText := true, laidKinds := [.data, .pinned], laidTests := true, laidLooks := .later }
def WireLastsCardSaid : Prop := Claim7.holds Tryd.pinned (.plain (OpenSpec.ofChange wireLastsSpec)) wireLastsCard

/-- THE SECOND FORM's CARD OF 'tidewaiterlaw18.ReplyNames'. -/
def replyNamesUptoCard : Claim7 := { stood := { row := replyNamesUptoRow, standIns := [], harness := (true, "bbfd80b4d94d9f400366640e6b4bbfe4641b99349560b938d39b758cfb40d35c"), looks := false }, kinds := [], alts := [], laidByText := true, laidKinds := [.data, .data, .data, .data, .pinned], laidTests := true, laidLooks := .later }
def ReplyNamesUptoCardSaid : Prop := Claim7.holds Tryd.pinned (.plain (OpenSpec.upto replyNamesSpec)) replyNamesUptoCard

/-- THE SECOND FORM's CARD OF 'tidewaiterlaw18.ReplyBack'. -/
def replyBackUptoCard : Claim7 := { stood := { row := replyBackUptoRow, standIns := [], harness := (true, "bbfd80b4d94d9f400366640e6b4bbfe4641b99349560b938d39b758cfb40d35c"), looks := false }, kinds := [], alts := [], laidByText := true, laidKinds := [.data, .data, .data, .data, .pinned], laidTests := true, laidLooks := .later }
def ReplyBackUptoCardSaid : Prop := Claim7.holds Tryd.pinned (.plain (OpenSpec.upto replyBackSpec)) replyBackUptoCard

/-- THE SECOND FORM's CARD OF 'tidewaiterlaw18.ReplyParts'. -/
def replyPartsUptoCard : Claim7 := { stood := { row := replyPartsUptoRow, standIns := [], harness := (true, "bbfd80b4d94d9f400366640e6b4bbfe4641b99349560b938d39b758cfb40d35c"), looks := false }, kinds := [], alts := [], laidByText := true, laidKinds := [.data, .data, .data, .data, .pinned], laidTests := true, laidLooks := .later }
def ReplyPartsUptoCardSaid : Prop := Claim7.holds Tryd.pinned (.plain (OpenSpec.upto replyPartsSpec)) replyPartsUptoCard

/-- THE SECOND FORM's CARD OF 'tidewaiterlaw17.WireLasts'. -/
def wireLastsUptoCard : Claim7 := { stood := { row := wireLastsUptoRow, standIns := [], harness := (true, "bbfd80b4d94d9f400366640e6b4bbfe4641b99349560b938d39b758cfb40d35c"), looks := false }, kinds := [], alts := [], laidByText := true, laidKinds := [.data, .pinned], laidTests := true, laidLooks := .later }
def WireLastsUptoCardSaid : Prop := Claim7.holds Tryd.pinned (.plain (OpenSpec.upto wireLastsSpec)) wireLastsUptoCard
end Rows
end Go.Proofs.YthgmgmbjjjnhnaaDoor
