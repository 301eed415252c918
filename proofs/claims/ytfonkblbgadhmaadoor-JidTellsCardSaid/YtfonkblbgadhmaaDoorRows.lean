/-
  NARROWER THAN 'FOR EVERY INPUT', by the rows' own cells (each row's printed sentence says how): JidBack: laid · JidKinds: laid · JidOrder: laid · JidNames: laid · JidTells: laid.
  DERIVED. THE GIVEN ROWS OF THIS SEAT. 5 by the template 'for every input the law returns true; each argument reads behind the call as it read before'; 0 by the template 'total and deterministic' (their statements: YtfonkblbgadhmaaDoorTotals.lean).
  GIVEN WITH THE SEED: the statements are not yours to turn. If you find one false, say at which input.
  Laid BY PROGRAM, IN A SANDBOX (cutbox-rows.mjs): the forced cells as the released guide's own fill.sh prints them over the translation 8954e40fcaa0c869… (all of the seat's roots in one cut). By AI agents, Wed Nov 11 2026. No macro, syntax, notation, axiom, sorry.
-/
import Derived.Test.YtfonkblbgadhmaaDoorChecked
import GoSem.PinnedTables
import GoSem.Claim
import GoSem.ClaimJoined
import GoSem.ClaimMapViews
import Derived.JoinedTies
import Derived.KernelRfl
namespace Go.Proofs.YtfonkblbgadhmaaDoor
/- THE CELL 'sum', in the pinned program and in every row, IS THE sha256 OF THE DUMP (.gsa) THAT YtfonkblbgadhmaaDoorProg.lean LOADS. Nothing in Lean hashes anything: it is a label: what it is worth is what the hold of that sum in a sandbox is worth. -/
noncomputable def Tryd.pinned : Pinned := { name := "ytfonkblbgadhmaadoor", sum := "8954e40fcaa0c869c1934502b8d42bbcc6335bad1625d9ed69d3b9373c643222", checked := Tryd.checked }
namespace Rows
def none {H : Type} : Left H := { results := [], args := [] }

/- WHAT THE LISTED PACKAGE-LEVEL VARIABLES READ AS WHEN THE CALL BEGINS. Each datum BY PROGRAM (the guide's laid-datum.mjs) off the statement by which the dump's own 'gosem.cut.vars' lays the variable. In a bare row this is a premise. The card (YtfonkblbgadhmaaDoorCards.lean) ties it to the program's text. -/
def laid_unicode_utf8_acceptRanges {H : Type} : DataW H := .agg [.agg [.lit (.int .u8 128), .lit (.int .u8 191)], .agg [.lit (.int .u8 160), .lit (.int .u8 191)], .agg [.lit (.int .u8 128), .lit (.int .u8 159)], .agg [.lit (.int .u8 144), .lit (.int .u8 191)], .agg [.lit (.int .u8 128), .lit (.int .u8 143)], .agg [.lit (.int .u8 0), .lit (.int .u8 0)], .agg [.lit (.int .u8 0), .lit (.int .u8 0)], .agg [.lit (.int .u8 0), .lit (.int .u8 0)], .agg [.lit (.int .u8 0), .lit (.int .u8 0)], .agg [.lit (.int .u8 0), .lit (.int .u8 0)], .agg [.lit (.int .u8 0), .lit (.int .u8 0)], .agg [.lit (.int .u8 0), .lit (.int .u8 0)], .agg [.lit (.int .u8 0), .lit (.int .u8 0)], .agg [.lit (.int .u8 0), .lit (.int .u8 0)], .agg [.lit (.int .u8 0), .lit (.int .u8 0)], .agg [.lit (.int .u8 0), .lit (.int .u8 0)]]
/-- One of Go's own tables, pinned by name: the form's constant. -/
def laid_unicode_utf8_first : DataW Unit := Go.Pinned.utf8First

/-- 'tidewaiterlaw19.JidBack': WHATEVER THE INPUT: true; the input reads as it did. -/
def jidBackSpec : ChangeSpec := { name := "jidBack", fn := fun _ => fun
  | [d1, d2] => { results := [.lit (.bool true)], args := [d1, d2] }
  | _ => none }
def jidBackRow : OpenClaim := { program := "ytfonkblbgadhmaadoor", sum := "8954e40fcaa0c869c1934502b8d42bbcc6335bad1625d9ed69d3b9373c643222", func := "tidewaiter/tidewaiterlaw19.JidBack", spec := "jidBack", inPlace := ["internal/bytealg.IndexByteString", "internal/bytealg.IndexString"], unfollowed := true, recurses := true, named := ["unicode/utf8.first", "unicode/utf8.acceptRanges", "internal/bytealg.MaxLen"], apart := false, laid := [("unicode/utf8.acceptRanges", laid_unicode_utf8_acceptRanges), ("unicode/utf8.first", laid_unicode_utf8_first)] }
def JidBackSaid : Prop := jidBackRow.holds Tryd.pinned (OpenSpec.ofChange jidBackSpec)

/-- ITS FALSE NEIGHBOUR: 'it returns false'. Refute it at one input. -/
def jidBackWrong : ChangeSpec := { name := "jidBack", fn := fun _ => fun
  | [d1, d2] => { results := [.lit (.bool false)], args := [d1, d2] }
  | _ => none }
def JidBackWrongFalsely : Prop := jidBackRow.holds Tryd.pinned (OpenSpec.ofChange jidBackWrong)

/-- 'tidewaiterlaw19.JidKinds': WHATEVER THE INPUT: true; the input reads as it did. -/
def jidKindsSpec : ChangeSpec := { name := "jidKinds", fn := fun _ => fun
  | [d] => { results := [.lit (.bool true)], args := [d] }
  | _ => none }
def jidKindsRow : OpenClaim := { program := "ytfonkblbgadhmaadoor", sum := "8954e40fcaa0c869c1934502b8d42bbcc6335bad1625d9ed69d3b9373c643222", func := "tidewaiter/tidewaiterlaw19.JidKinds", spec := "jidKinds", inPlace := ["internal/bytealg.IndexByteString", "internal/bytealg.IndexString"], unfollowed := true, recurses := true, named := ["unicode/utf8.first", "unicode/utf8.acceptRanges", "internal/bytealg.MaxLen"], apart := false, laid := [("unicode/utf8.acceptRanges", laid_unicode_utf8_acceptRanges), ("unicode/utf8.first", laid_unicode_utf8_first)] }
def JidKindsSaid : Prop := jidKindsRow.holds Tryd.pinned (OpenSpec.ofChange jidKindsSpec)

/-- ITS FALSE NEIGHBOUR: 'it returns false'. Refute it at one input. -/
def jidKindsWrong : ChangeSpec := { name := "jidKinds", fn := fun _ => fun
  | [d] => { results := [.lit (.bool false)], args := [d] }
  | _ => none }
def JidKindsWrongFalsely : Prop := jidKindsRow.holds Tryd.pinned (OpenSpec.ofChange jidKindsWrong)

/-- 'tidewaiterlaw19.JidOrder': WHATEVER THE INPUT: true; the input reads as it did. -/
def jidOrderSpec : ChangeSpec := { name := "jidOrder", fn := fun _ => fun
  | [d1, d2, d3] => { results := [.lit (.bool true)], args := [d1, d2, d3] }
  | _ => none }
def jidOrderRow : OpenClaim := { program := "ytfonkblbgadhmaadoor", sum := "8954e40fcaa0c869c1934502b8d42bbcc6335bad1625d9ed69d3b9373c643222", func := "tidewaiter/tidewaiterlaw19.JidOrder", spec := "jidOrder", inPlace := ["internal/bytealg.IndexByteString", "internal/bytealg.IndexString"], unfollowed := true, recurses := true, named := ["unicode/utf8.first", "unicode/utf8.acceptRanges", "internal/bytealg.MaxLen"], apart := false, laid := [("unicode/utf8.acceptRanges", laid_unicode_utf8_acceptRanges), ("unicode/utf8.first", laid_unicode_utf8_first)] }
def JidOrderSaid : Prop := jidOrderRow.holds Tryd.pinned (OpenSpec.ofChange jidOrderSpec)

/-- ITS FALSE NEIGHBOUR: 'it returns false'. Refute it at one input. -/
def jidOrderWrong : ChangeSpec := { name := "jidOrder", fn := fun _ => fun
  | [d1, d2, d3] => { results := [.lit (.bool false)], args := [d1, d2, d3] }
  | _ => none }
def JidOrderWrongFalsely : Prop := jidOrderRow.holds Tryd.pinned (OpenSpec.ofChange jidOrderWrong)

/-- 'tidewaiterlaw19.JidNames': WHATEVER THE INPUT: true; the input reads as it did. -/
def jidNamesSpec : ChangeSpec := { name := "jidNames", fn := fun _ => fun
  | [] => { results := [.lit (.bool true)], args := [] }
  | _ => none }
def jidNamesRow : OpenClaim := { program := "ytfonkblbgadhmaadoor", sum := "8954e40fcaa0c869c1934502b8d42bbcc6335bad1625d9ed69d3b9373c643222", func := "tidewaiter/tidewaiterlaw19.JidNames", spec := "jidNames", inPlace := ["internal/bytealg.IndexByteString", "internal/bytealg.IndexString"], unfollowed := true, recurses := true, named := ["internal/bytealg.MaxLen", "unicode/utf8.first", "unicode/utf8.acceptRanges"], apart := false, laid := [("unicode/utf8.acceptRanges", laid_unicode_utf8_acceptRanges), ("unicode/utf8.first", laid_unicode_utf8_first)] }
def JidNamesSaid : Prop := jidNamesRow.holds Tryd.pinned (OpenSpec.ofChange jidNamesSpec)

/-- ITS FALSE NEIGHBOUR: 'it returns false'. Refute it at one input. -/
def jidNamesWrong : ChangeSpec := { name := "jidNames", fn := fun _ => fun
  | [] => { results := [.lit (.bool false)], args := [] }
  | _ => none }
def JidNamesWrongFalsely : Prop := jidNamesRow.holds Tryd.pinned (OpenSpec.ofChange jidNamesWrong)

/-- 'tidewaiterlaw19.JidTells': WHATEVER THE INPUT: true; the input reads as it did. -/
def jidTellsSpec : ChangeSpec := { name := "jidTells", fn := fun _ => fun
  | [d1, d2, d3] => { results := [.lit (.bool true)], args := [d1, d2, d3] }
  | _ => none }
def jidTellsRow : OpenClaim := { program := "ytfonkblbgadhmaadoor", sum := "8954e40fcaa0c869c1934502b8d42bbcc6335bad1625d9ed69d3b9373c643222", func := "tidewaiter/tidewaiterlaw19.JidTells", spec := "jidTells", inPlace := ["internal/bytealg.IndexByteString", "internal/bytealg.IndexString"], unfollowed := true, recurses := true, named := ["internal/bytealg.MaxLen", "unicode/utf8.first", "unicode/utf8.acceptRanges"], apart := false, laid := [("unicode/utf8.acceptRanges", laid_unicode_utf8_acceptRanges), ("unicode/utf8.first", laid_unicode_utf8_first)] }
def JidTellsSaid : Prop := jidTellsRow.holds Tryd.pinned (OpenSpec.ofChange jidTellsSpec)

/-- ITS FALSE NEIGHBOUR: 'it returns false'. Refute it at one input. -/
def jidTellsWrong : ChangeSpec := { name := "jidTells", fn := fun _ => fun
  | [d1, d2, d3] => { results := [.lit (.bool false)], args := [d1, d2, d3] }
  | _ => none }
def JidTellsWrongFalsely : Prop := jidTellsRow.holds Tryd.pinned (OpenSpec.ofChange jidTellsWrong)

/- THE SECOND FORM. 'bulk': how many values and letters a reading holds, each counted each time it is reached (what is shared counts as often as it is met; a slice's spare places count too). A statement '..UptoSaid' is the law's where the arguments, and the package variables that the reading takes, are together of bulk at most 1048576: NARROWER than '..Said'. Prove '..Said' where nothing that the law and all that it calls make is longer than what came in: it says more and counts as full. Else prove '..UptoSaid'. A law counts once. -/
mutual
def uptoBulk {H : Type} : DataW H → Nat
  | .lit (.string bytes) => bytes.length + 1
  | .lit _ => 1
  | .nil => 1
  | .ptr d => uptoBulk d + 1
  | .slice elems spare => uptoBulkAll elems + uptoBulkAll spare + 1
  | .agg parts => uptoBulkAll parts + 1
  | .iface _ d => uptoBulk d + 1
  | .map entries => uptoBulkEntries entries + 1
  | .held _ => 1
def uptoBulkAll {H : Type} : List (DataW H) → Nat
  | [] => 0
  | d :: r => uptoBulk d + uptoBulkAll r
def uptoBulkEntries {H : Type} : List (Lit × DataW H) → Nat
  | [] => 0
  | x :: r => uptoBulkEntry x + uptoBulkEntries r
def uptoBulkEntry {H : Type} : Lit × DataW H → Nat
  | (.string bytes, d) => bytes.length + uptoBulk d + 1
  | (_, d) => uptoBulk d + 1
 end
def uptoSmall : (H : Type) → List (DataW H) → Bool := fun _ ds => decide (uptoBulkAll ds ≤ 1048576)
def OpenSpec.upto (s : _root_.Go.ChangeSpec) : _root_.Go.OpenSpec := { _root_.Go.OpenSpec.ofChange s with cond := some uptoSmall }

/-- 'tidewaiterlaw19.JidBack', WHERE WHAT IT READS IS OF BULK AT MOST 1048576: true; the input reads as it did. -/
def jidBackUptoRow : OpenClaim := { program := "ytfonkblbgadhmaadoor", sum := "8954e40fcaa0c869c1934502b8d42bbcc6335bad1625d9ed69d3b9373c643222", func := "tidewaiter/tidewaiterlaw19.JidBack", spec := "jidBack", inPlace := ["internal/bytealg.IndexByteString", "internal/bytealg.IndexString"], unfollowed := true, recurses := true, named := ["unicode/utf8.first", "unicode/utf8.acceptRanges", "internal/bytealg.MaxLen"], apart := false, laid := [("unicode/utf8.acceptRanges", laid_unicode_utf8_acceptRanges), ("unicode/utf8.first", laid_unicode_utf8_first)], narrowed := true }
def JidBackUptoSaid : Prop := jidBackUptoRow.holds Tryd.pinned (OpenSpec.upto jidBackSpec)

/-- 'tidewaiterlaw19.JidKinds', WHERE WHAT IT READS IS OF BULK AT MOST 1048576: true; the input reads as it did. -/
def jidKindsUptoRow : OpenClaim := { program := "ytfonkblbgadhmaadoor", sum := "8954e40fcaa0c869c1934502b8d42bbcc6335bad1625d9ed69d3b9373c643222", func := "tidewaiter/tidewaiterlaw19.JidKinds", spec := "jidKinds", inPlace := ["internal/bytealg.IndexByteString", "internal/bytealg.IndexString"], unfollowed := true, recurses := true, named := ["unicode/utf8.first", "unicode/utf8.acceptRanges", "internal/bytealg.MaxLen"], apart := false, laid := [("unicode/utf8.acceptRanges", laid_unicode_utf8_acceptRanges), ("unicode/utf8.first", laid_unicode_utf8_first)], narrowed := true }
def JidKindsUptoSaid : Prop := jidKindsUptoRow.holds Tryd.pinned (OpenSpec.upto jidKindsSpec)

/-- 'tidewaiterlaw19.JidOrder', WHERE WHAT IT READS IS OF BULK AT MOST 1048576: true; the input reads as it did. -/
def jidOrderUptoRow : OpenClaim := { program := "ytfonkblbgadhmaadoor", sum := "8954e40fcaa0c869c1934502b8d42bbcc6335bad1625d9ed69d3b9373c643222", func := "tidewaiter/tidewaiterlaw19.JidOrder", spec := "jidOrder", inPlace := ["internal/bytealg.IndexByteString", "internal/bytealg.IndexString"], unfollowed := true, recurses := true, named := ["unicode/utf8.first", "unicode/utf8.acceptRanges", "internal/bytealg.MaxLen"], apart := false, laid := [("unicode/utf8.acceptRanges", laid_unicode_utf8_acceptRanges), ("unicode/utf8.first", laid_unicode_utf8_first)], narrowed := true }
def JidOrderUptoSaid : Prop := jidOrderUptoRow.holds Tryd.pinned (OpenSpec.upto jidOrderSpec)

/-- 'tidewaiterlaw19.JidNames', WHERE WHAT IT READS IS OF BULK AT MOST 1048576: true; the input reads as it did. -/
def jidNamesUptoRow : OpenClaim := { program := "ytfonkblbgadhmaadoor", sum := "8954e40fcaa0c869c1934502b8d42bbcc6335bad1625d9ed69d3b9373c643222", func := "tidewaiter/tidewaiterlaw19.JidNames", spec := "jidNames", inPlace := ["internal/bytealg.IndexByteString", "internal/bytealg.IndexString"], unfollowed := true, recurses := true, named := ["internal/bytealg.MaxLen", "unicode/utf8.first", "unicode/utf8.acceptRanges"], apart := false, laid := [("unicode/utf8.acceptRanges", laid_unicode_utf8_acceptRanges), ("unicode/utf8.first", laid_unicode_utf8_first)], narrowed := true }
def JidNamesUptoSaid : Prop := jidNamesUptoRow.holds Tryd.pinned (OpenSpec.upto jidNamesSpec)

/-- 'tidewaiterlaw19.JidTells', WHERE WHAT IT READS IS OF BULK AT MOST 1048576: true; the input reads as it did. -/
def jidTellsUptoRow : OpenClaim := { program := "ytfonkblbgadhmaadoor", sum := "8954e40fcaa0c869c1934502b8d42bbcc6335bad1625d9ed69d3b9373c643222", func := "tidewaiter/tidewaiterlaw19.JidTells", spec := "jidTells", inPlace := ["internal/bytealg.IndexByteString", "internal/bytealg.IndexString"], unfollowed := true, recurses := true, named := ["internal/bytealg.MaxLen", "unicode/utf8.first", "unicode/utf8.acceptRanges"], apart := false, laid := [("unicode/utf8.acceptRanges", laid_unicode_utf8_acceptRanges), ("unicode/utf8.first", laid_unicode_utf8_first)], narrowed := true }
def JidTellsUptoSaid : Prop := jidTellsUptoRow.holds Tryd.pinned (OpenSpec.upto jidTellsSpec)

end Rows
end Go.Proofs.YtfonkblbgadhmaaDoor
