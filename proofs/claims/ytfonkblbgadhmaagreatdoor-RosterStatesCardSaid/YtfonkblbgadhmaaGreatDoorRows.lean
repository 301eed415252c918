/-
  NARROWER THAN 'FOR EVERY INPUT', by the rows' own cells (each row's printed sentence says how): RosterTells: laid · RosterNames: laid · RosterTurns: laid · RosterPushes: laid · RosterStates: laid.
  DERIVED. THE GIVEN ROWS OF THIS SEAT. 5 by the template 'for every input the law returns true; each argument reads behind the call as it read before'; 0 by the template 'total and deterministic' (their statements: YtfonkblbgadhmaaGreatDoorTotals.lean).
  GIVEN WITH THE SEED: the statements are not yours to turn. If you find one false, say at which input.
  Laid BY PROGRAM, IN A SANDBOX (cutbox-rows.mjs): the forced cells as the released guide's own fill.sh prints them over the translation 7d87caa91c059560… (all of the seat's roots in one cut). By AI agents, Wed Nov 11 2026. No macro, syntax, notation, axiom, sorry.
-/
import Derived.Test.YtfonkblbgadhmaaGreatDoorChecked
import GoSem.PinnedTables
import GoSem.Claim
import GoSem.ClaimJoined
import GoSem.ClaimMapViews
import Derived.JoinedTies
import Derived.KernelRfl
namespace Go.Proofs.YtfonkblbgadhmaaGreatDoor
/- THE CELL 'sum', in the pinned program and in every row, IS THE sha256 OF THE DUMP (.gsa) THAT YtfonkblbgadhmaaGreatDoorProg.lean LOADS. Nothing in Lean hashes anything: it is a label: what it is worth is what the hold of that sum in a sandbox is worth. -/
noncomputable def Tryz.pinned : Pinned := { name := "ytfonkblbgadhmaagreatdoor", sum := "7d87caa91c0595600ef7028cbef06d28847767d4bbe110f45abf96dc013add61", checked := Tryz.checked }
namespace Rows
def none {H : Type} : Left H := { results := [], args := [] }

/- WHAT THE LISTED PACKAGE-LEVEL VARIABLES READ AS WHEN THE CALL BEGINS. Each datum BY PROGRAM (the guide's laid-datum.mjs) off the statement by which the dump's own 'gosem.cut.vars' lays the variable. In a bare row this is a premise. The card (YtfonkblbgadhmaaGreatDoorCards.lean) ties it to the program's text. -/
def laid_unicode_utf8_acceptRanges {H : Type} : DataW H := .agg [.agg [.lit (.int .u8 128), .lit (.int .u8 191)], .agg [.lit (.int .u8 160), .lit (.int .u8 191)], .agg [.lit (.int .u8 128), .lit (.int .u8 159)], .agg [.lit (.int .u8 144), .lit (.int .u8 191)], .agg [.lit (.int .u8 128), .lit (.int .u8 143)], .agg [.lit (.int .u8 0), .lit (.int .u8 0)], .agg [.lit (.int .u8 0), .lit (.int .u8 0)], .agg [.lit (.int .u8 0), .lit (.int .u8 0)], .agg [.lit (.int .u8 0), .lit (.int .u8 0)], .agg [.lit (.int .u8 0), .lit (.int .u8 0)], .agg [.lit (.int .u8 0), .lit (.int .u8 0)], .agg [.lit (.int .u8 0), .lit (.int .u8 0)], .agg [.lit (.int .u8 0), .lit (.int .u8 0)], .agg [.lit (.int .u8 0), .lit (.int .u8 0)], .agg [.lit (.int .u8 0), .lit (.int .u8 0)], .agg [.lit (.int .u8 0), .lit (.int .u8 0)]]
/-- One of Go's own tables, pinned by name: the form's constant. -/
def laid_unicode_utf8_first : DataW Unit := Go.Pinned.utf8First

/-- 'tidewaiterlaw21.RosterTells': WHATEVER THE INPUT: true; the input reads as it did. -/
def rosterTellsSpec : ChangeSpec := { name := "rosterTells", fn := fun _ => fun
  | [d1, d2, d3] => { results := [.lit (.bool true)], args := [d1, d2, d3] }
  | _ => none }
def rosterTellsRow : OpenClaim := { program := "ytfonkblbgadhmaagreatdoor", sum := "7d87caa91c0595600ef7028cbef06d28847767d4bbe110f45abf96dc013add61", func := "tidewaiter/tidewaiterlaw21.RosterTells", spec := "rosterTells", inPlace := ["internal/bytealg.IndexByteString", "internal/bytealg.IndexString"], unfollowed := true, recurses := true, named := ["internal/bytealg.MaxLen", "unicode/utf8.first", "unicode/utf8.acceptRanges"], apart := false, laid := [("unicode/utf8.acceptRanges", laid_unicode_utf8_acceptRanges), ("unicode/utf8.first", laid_unicode_utf8_first)] }
def RosterTellsSaid : Prop := rosterTellsRow.holds Tryz.pinned (OpenSpec.ofChange rosterTellsSpec)

/-- ITS FALSE NEIGHBOUR: 'it returns false'. Refute it at one input. -/
def rosterTellsWrong : ChangeSpec := { name := "rosterTells", fn := fun _ => fun
  | [d1, d2, d3] => { results := [.lit (.bool false)], args := [d1, d2, d3] }
  | _ => none }
def RosterTellsWrongFalsely : Prop := rosterTellsRow.holds Tryz.pinned (OpenSpec.ofChange rosterTellsWrong)

/-- 'tidewaiterlaw21.RosterNames': WHATEVER THE INPUT: true; the input reads as it did. -/
def rosterNamesSpec : ChangeSpec := { name := "rosterNames", fn := fun _ => fun
  | [] => { results := [.lit (.bool true)], args := [] }
  | _ => none }
def rosterNamesRow : OpenClaim := { program := "ytfonkblbgadhmaagreatdoor", sum := "7d87caa91c0595600ef7028cbef06d28847767d4bbe110f45abf96dc013add61", func := "tidewaiter/tidewaiterlaw21.RosterNames", spec := "rosterNames", inPlace := ["internal/bytealg.IndexByteString", "internal/bytealg.IndexString", "slices.overlaps[tidewaiter/api.Item]"], unfollowed := true, recurses := true, named := ["internal/bytealg.MaxLen", "unicode/utf8.first", "unicode/utf8.acceptRanges"], apart := false, laid := [("unicode/utf8.acceptRanges", laid_unicode_utf8_acceptRanges), ("unicode/utf8.first", laid_unicode_utf8_first)] }
def RosterNamesSaid : Prop := rosterNamesRow.holds Tryz.pinned (OpenSpec.ofChange rosterNamesSpec)

/-- ITS FALSE NEIGHBOUR: 'it returns false'. Refute it at one input. -/
def rosterNamesWrong : ChangeSpec := { name := "rosterNames", fn := fun _ => fun
  | [] => { results := [.lit (.bool false)], args := [] }
  | _ => none }
def RosterNamesWrongFalsely : Prop := rosterNamesRow.holds Tryz.pinned (OpenSpec.ofChange rosterNamesWrong)

/-- 'tidewaiterlaw21.RosterTurns': WHATEVER THE INPUT: true; the input reads as it did. -/
def rosterTurnsSpec : ChangeSpec := { name := "rosterTurns", fn := fun _ => fun
  | [d1, d2, d3, d4, d5] => { results := [.lit (.bool true)], args := [d1, d2, d3, d4, d5] }
  | _ => none }
def rosterTurnsRow : OpenClaim := { program := "ytfonkblbgadhmaagreatdoor", sum := "7d87caa91c0595600ef7028cbef06d28847767d4bbe110f45abf96dc013add61", func := "tidewaiter/tidewaiterlaw21.RosterTurns", spec := "rosterTurns", inPlace := ["internal/bytealg.IndexByteString", "internal/bytealg.IndexString", "slices.overlaps[tidewaiter/api.Item]"], unfollowed := true, recurses := true, named := ["internal/bytealg.MaxLen", "unicode/utf8.first", "unicode/utf8.acceptRanges"], apart := false, laid := [("unicode/utf8.acceptRanges", laid_unicode_utf8_acceptRanges), ("unicode/utf8.first", laid_unicode_utf8_first)] }
def RosterTurnsSaid : Prop := rosterTurnsRow.holds Tryz.pinned (OpenSpec.ofChange rosterTurnsSpec)

/-- ITS FALSE NEIGHBOUR: 'it returns false'. Refute it at one input. -/
def rosterTurnsWrong : ChangeSpec := { name := "rosterTurns", fn := fun _ => fun
  | [d1, d2, d3, d4, d5] => { results := [.lit (.bool false)], args := [d1, d2, d3, d4, d5] }
  | _ => none }
def RosterTurnsWrongFalsely : Prop := rosterTurnsRow.holds Tryz.pinned (OpenSpec.ofChange rosterTurnsWrong)

/-- 'tidewaiterlaw21.RosterPushes': WHATEVER THE INPUT: true; the input reads as it did. -/
def rosterPushesSpec : ChangeSpec := { name := "rosterPushes", fn := fun _ => fun
  | [d1, d2, d3, d4, d5] => { results := [.lit (.bool true)], args := [d1, d2, d3, d4, d5] }
  | _ => none }
def rosterPushesRow : OpenClaim := { program := "ytfonkblbgadhmaagreatdoor", sum := "7d87caa91c0595600ef7028cbef06d28847767d4bbe110f45abf96dc013add61", func := "tidewaiter/tidewaiterlaw21.RosterPushes", spec := "rosterPushes", inPlace := ["internal/bytealg.IndexByteString", "internal/bytealg.IndexString", "slices.overlaps[tidewaiter/api.Item]"], unfollowed := true, recurses := true, named := ["internal/bytealg.MaxLen", "unicode/utf8.first", "unicode/utf8.acceptRanges"], apart := false, laid := [("unicode/utf8.acceptRanges", laid_unicode_utf8_acceptRanges), ("unicode/utf8.first", laid_unicode_utf8_first)] }
def RosterPushesSaid : Prop := rosterPushesRow.holds Tryz.pinned (OpenSpec.ofChange rosterPushesSpec)

/-- ITS FALSE NEIGHBOUR: 'it returns false'. Refute it at one input. -/
def rosterPushesWrong : ChangeSpec := { name := "rosterPushes", fn := fun _ => fun
  | [d1, d2, d3, d4, d5] => { results := [.lit (.bool false)], args := [d1, d2, d3, d4, d5] }
  | _ => none }
def RosterPushesWrongFalsely : Prop := rosterPushesRow.holds Tryz.pinned (OpenSpec.ofChange rosterPushesWrong)

/-- 'tidewaiterlaw21.RosterStates': WHATEVER THE INPUT: true; the input reads as it did. -/
def rosterStatesSpec : ChangeSpec := { name := "rosterStates", fn := fun _ => fun
  | [d1, d2, d3] => { results := [.lit (.bool true)], args := [d1, d2, d3] }
  | _ => none }
def rosterStatesRow : OpenClaim := { program := "ytfonkblbgadhmaagreatdoor", sum := "7d87caa91c0595600ef7028cbef06d28847767d4bbe110f45abf96dc013add61", func := "tidewaiter/tidewaiterlaw21.RosterStates", spec := "rosterStates", inPlace := ["internal/bytealg.IndexByteString", "internal/bytealg.IndexString", "slices.overlaps[tidewaiter/api.Item]"], unfollowed := true, recurses := true, named := ["internal/bytealg.MaxLen", "unicode/utf8.first", "unicode/utf8.acceptRanges"], apart := false, laid := [("unicode/utf8.acceptRanges", laid_unicode_utf8_acceptRanges), ("unicode/utf8.first", laid_unicode_utf8_first)] }
def RosterStatesSaid : Prop := rosterStatesRow.holds Tryz.pinned (OpenSpec.ofChange rosterStatesSpec)

/-- ITS FALSE NEIGHBOUR: 'it returns false'. Refute it at one input. -/
def rosterStatesWrong : ChangeSpec := { name := "rosterStates", fn := fun _ => fun
  | [d1, d2, d3] => { results := [.lit (.bool false)], args := [d1, d2, d3] }
  | _ => none }
def RosterStatesWrongFalsely : Prop := rosterStatesRow.holds Tryz.pinned (OpenSpec.ofChange rosterStatesWrong)

/- THE SECOND FORM. 'bulk': how many values and letters a reading holds, each counted each time it is reached (what is shared counts as often as it is met; a slice's spare places count too). A statement '..UptoSaid' is the law's where the arguments, and the package variables that the reading takes, are together of bulk at most 1048576: NARROWER than '..Said'. Prove '..Said' where nothing that the law and all that it calls make is longer than what came in: it says more and counts as full. Else prove '..UptoSaid'. A law counts once. -/
mutual
def uptoBulk {H : Type} : DataW H → Nat
  | .lit (.string bytes) => bytes.length + 1
  | .lit _ => 1
  | .nil => 1
  | .ptr d => uptoBulk d + 1
  | .slice elems spare => uptoBulkAll elems + uptoBulkAll spare + 1
  | .agg parts => uptoBulkAll parts + 1
  | .iface _ d => uptoBulk d + 1
  | .map entries => uptoBulkEntries entries + 1
  | .held _ => 1
def uptoBulkAll {H : Type} : List (DataW H) → Nat
  | [] => 0
  | d :: r => uptoBulk d + uptoBulkAll r
def uptoBulkEntries {H : Type} : List (Lit × DataW H) → Nat
  | [] => 0
  | x :: r => uptoBulkEntry x + uptoBulkEntries r
def uptoBulkEntry {H : Type} : Lit × DataW H → Nat
  | (.string bytes, d) => bytes.length + uptoBulk d + 1
  | (_, d) => uptoBulk d + 1
 end
def uptoSmall : (H : Type) → List (DataW H) → Bool := fun _ ds => decide (uptoBulkAll ds ≤ 1048576)
def OpenSpec.upto (s : _root_.Go.ChangeSpec) : _root_.Go.OpenSpec := { _root_.Go.OpenSpec.ofChange s with cond := some uptoSmall }

/-- 'tidewaiterlaw21.RosterTells', WHERE WHAT IT READS IS OF BULK AT MOST 1048576: true; the input reads as it did. -/
def rosterTellsUptoRow : OpenClaim := { program := "ytfonkblbgadhmaagreatdoor", sum := "7d87caa91c0595600ef7028cbef06d28847767d4bbe110f45abf96dc013add61", func := "tidewaiter/tidewaiterlaw21.RosterTells", spec := "rosterTells", inPlace := ["internal/bytealg.IndexByteString", "internal/bytealg.IndexString"], unfollowed := true, recurses := true, named := ["internal/bytealg.MaxLen", "unicode/utf8.first", "unicode/utf8.acceptRanges"], apart := false, laid := [("unicode/utf8.acceptRanges", laid_unicode_utf8_acceptRanges), ("unicode/utf8.first", laid_unicode_utf8_first)], narrowed := true }
def RosterTellsUptoSaid : Prop := rosterTellsUptoRow.holds Tryz.pinned (OpenSpec.upto rosterTellsSpec)

/-- 'tidewaiterlaw21.RosterNames', WHERE WHAT IT READS IS OF BULK AT MOST 1048576: true; the input reads as it did. -/
def rosterNamesUptoRow : OpenClaim := { program := "ytfonkblbgadhmaagreatdoor", sum := "7d87caa91c0595600ef7028cbef06d28847767d4bbe110f45abf96dc013add61", func := "tidewaiter/tidewaiterlaw21.RosterNames", spec := "rosterNames", inPlace := ["internal/bytealg.IndexByteString", "internal/bytealg.IndexString", "slices.overlaps[tidewaiter/api.Item]"], unfollowed := true, recurses := true, named := ["internal/bytealg.MaxLen", "unicode/utf8.first", "unicode/utf8.acceptRanges"], apart := false, laid := [("unicode/utf8.acceptRanges", laid_unicode_utf8_acceptRanges), ("unicode/utf8.first", laid_unicode_utf8_first)], narrowed := true }
def RosterNamesUptoSaid : Prop := rosterNamesUptoRow.holds Tryz.pinned (OpenSpec.upto rosterNamesSpec)

/-- 'tidewaiterlaw21.RosterTurns', WHERE WHAT IT READS IS OF BULK AT MOST 1048576: true; the input reads as it did. -/
def rosterTurnsUptoRow : OpenClaim := { program := "ytfonkblbgadhmaagreatdoor", sum := "7d87caa91c0595600ef7028cbef06d28847767d4bbe110f45abf96dc013add61", func := "tidewaiter/tidewaiterlaw21.RosterTurns", spec := "rosterTurns", inPlace := ["internal/bytealg.IndexByteString", "internal/bytealg.IndexString", "slices.overlaps[tidewaiter/api.Item]"], unfollowed := true, recurses := true, named := ["internal/bytealg.MaxLen", "unicode/utf8.first", "unicode/utf8.acceptRanges"], apart := false, laid := [("unicode/utf8.acceptRanges", laid_unicode_utf8_acceptRanges), ("unicode/utf8.first", laid_unicode_utf8_first)], narrowed := true }
def RosterTurnsUptoSaid : Prop := rosterTurnsUptoRow.holds Tryz.pinned (OpenSpec.upto rosterTurnsSpec)

/-- 'tidewaiterlaw21.RosterPushes', WHERE WHAT IT READS IS OF BULK AT MOST 1048576: true; the input reads as it did. -/
def rosterPushesUptoRow : OpenClaim := { program := "ytfonkblbgadhmaagreatdoor", sum := "7d87caa91c0595600ef7028cbef06d28847767d4bbe110f45abf96dc013add61", func := "tidewaiter/tidewaiterlaw21.RosterPushes", spec := "rosterPushes", inPlace := ["internal/bytealg.IndexByteString", "internal/bytealg.IndexString", "slices.overlaps[tidewaiter/api.Item]"], unfollowed := true, recurses := true, named := ["internal/bytealg.MaxLen", "unicode/utf8.first", "unicode/utf8.acceptRanges"], apart := false, laid := [("unicode/utf8.acceptRanges", laid_unicode_utf8_acceptRanges), ("unicode/utf8.first", laid_unicode_utf8_first)], narrowed := true }
def RosterPushesUptoSaid : Prop := rosterPushesUptoRow.holds Tryz.pinned (OpenSpec.upto rosterPushesSpec)

/-- 'tidewaiterlaw21.RosterStates', WHERE WHAT IT READS IS OF BULK AT MOST 1048576: true; the input reads as it did. -/
def rosterStatesUptoRow : OpenClaim := { program := "ytfonkblbgadhmaagreatdoor", sum := "7d87caa91c0595600ef7028cbef06d28847767d4bbe110f45abf96dc013add61", func := "tidewaiter/tidewaiterlaw21.RosterStates", spec := "rosterStates", inPlace := ["internal/bytealg.IndexByteString", "internal/bytealg.IndexString", "slices.overlaps[tidewaiter/api.Item]"], unfollowed := true, recurses := true, named := ["internal/bytealg.MaxLen", "unicode/utf8.first", "unicode/utf8.acceptRanges"], apart := false, laid := [("unicode/utf8.acceptRanges", laid_unicode_utf8_acceptRanges), ("unicode/utf8.first", laid_unicode_utf8_first)], narrowed := true }
def RosterStatesUptoSaid : Prop := rosterStatesUptoRow.holds Tryz.pinned (OpenSpec.upto rosterStatesSpec)

end Rows
end Go.Proofs.YtfonkblbgadhmaaGreatDoor
