/-
  No cell of these rows narrows 'for every input' (looked for: loops, veiled, ifaces, maps, wideKeys, modest, calm, conditions, laid).
  DERIVED. THE GIVEN ROWS OF THIS SEAT. 5 by the template 'for every input the law returns true; each argument reads behind the call as it read before'; 0 by the template 'total and deterministic' (their statements: YtgechifpappipaaTotals.lean).
  GIVEN WITH THE SEED: the statements are not yours to turn. If you find one false, say at which input.
  Laid BY PROGRAM, IN A SANDBOX (cutbox-rows.mjs): the forced cells as the released guide's own fill.sh prints them over the translation 4e09d27be1e78ab9… (all of the seat's roots in one cut). By AI agents, Wed Nov 11 2026. No macro, syntax, notation, axiom, sorry.
-/
import Derived.Test.YtgechifpappipaaChecked
import GoSem.Claim
import GoSem.ClaimJoined
import GoSem.ClaimMapViews
import Derived.JoinedTies
import Derived.KernelRfl
namespace Go.Proofs.Ytgechifpappipaa
/- THE CELL 'sum', in the pinned program and in every row, IS THE sha256 OF THE DUMP (.gsa) THAT YtgechifpappipaaProg.lean LOADS. Nothing in Lean hashes anything: it is a label: what it is worth is what the hold of that sum in a sandbox is worth. -/
noncomputable def Try.pinned : Pinned := { name := "ytgechifpappipaa", sum := "4e09d27be1e78ab9216614e15647fe115a18704a57e066fdfe14eb946fd800e5", checked := Try.checked }
namespace Rows
def none {H : Type} : Left H := { results := [], args := [] }

/-- 'tidewaiterlaw20.SubPairs': WHATEVER THE INPUT: true; the input reads as it did. -/
def subPairsSpec : ChangeSpec := { name := "subPairs", fn := fun _ => fun
  | [d] => { results := [.lit (.bool true)], args := [d] }
  | _ => none }
def subPairsRow : OpenClaim := { program := "ytgechifpappipaa", sum := "4e09d27be1e78ab9216614e15647fe115a18704a57e066fdfe14eb946fd800e5", func := "tidewaiter/tidewaiterlaw20.SubPairs", spec := "subPairs", unfollowed := true, recurses := true, apart := false }
def SubPairsSaid : Prop := subPairsRow.holds Try.pinned (OpenSpec.ofChange subPairsSpec)

/-- ITS FALSE NEIGHBOUR: 'it returns false'. Refute it at one input. -/
def subPairsWrong : ChangeSpec := { name := "subPairs", fn := fun _ => fun
  | [d] => { results := [.lit (.bool false)], args := [d] }
  | _ => none }
def SubPairsWrongFalsely : Prop := subPairsRow.holds Try.pinned (OpenSpec.ofChange subPairsWrong)

/-- 'tidewaiterlaw20.SubQuiet': WHATEVER THE INPUT: true; the input reads as it did. -/
def subQuietSpec : ChangeSpec := { name := "subQuiet", fn := fun _ => fun
  | [d1, d2] => { results := [.lit (.bool true)], args := [d1, d2] }
  | _ => none }
def subQuietRow : OpenClaim := { program := "ytgechifpappipaa", sum := "4e09d27be1e78ab9216614e15647fe115a18704a57e066fdfe14eb946fd800e5", func := "tidewaiter/tidewaiterlaw20.SubQuiet", spec := "subQuiet", unfollowed := true, recurses := true, apart := false }
def SubQuietSaid : Prop := subQuietRow.holds Try.pinned (OpenSpec.ofChange subQuietSpec)

/-- ITS FALSE NEIGHBOUR: 'it returns false'. Refute it at one input. -/
def subQuietWrong : ChangeSpec := { name := "subQuiet", fn := fun _ => fun
  | [d1, d2] => { results := [.lit (.bool false)], args := [d1, d2] }
  | _ => none }
def SubQuietWrongFalsely : Prop := subQuietRow.holds Try.pinned (OpenSpec.ofChange subQuietWrong)

/-- 'tidewaiterlaw06.NumReads': WHATEVER THE INPUT: true; the input reads as it did. -/
def numReadsSpec : ChangeSpec := { name := "numReads", fn := fun _ => fun
  | [d] => { results := [.lit (.bool true)], args := [d] }
  | _ => none }
def numReadsRow : OpenClaim := { program := "ytgechifpappipaa", sum := "4e09d27be1e78ab9216614e15647fe115a18704a57e066fdfe14eb946fd800e5", func := "tidewaiter/tidewaiterlaw06.NumReads", spec := "numReads", unfollowed := true, recurses := true, apart := false }
def NumReadsSaid : Prop := numReadsRow.holds Try.pinned (OpenSpec.ofChange numReadsSpec)

/-- ITS FALSE NEIGHBOUR: 'it returns false'. Refute it at one input. -/
def numReadsWrong : ChangeSpec := { name := "numReads", fn := fun _ => fun
  | [d] => { results := [.lit (.bool false)], args := [d] }
  | _ => none }
def NumReadsWrongFalsely : Prop := numReadsRow.holds Try.pinned (OpenSpec.ofChange numReadsWrong)

/-- 'tidewaiterlaw20.SubNames': WHATEVER THE INPUT: true; the input reads as it did. -/
def subNamesSpec : ChangeSpec := { name := "subNames", fn := fun _ => fun
  | [] => { results := [.lit (.bool true)], args := [] }
  | _ => none }
def subNamesRow : OpenClaim := { program := "ytgechifpappipaa", sum := "4e09d27be1e78ab9216614e15647fe115a18704a57e066fdfe14eb946fd800e5", func := "tidewaiter/tidewaiterlaw20.SubNames", spec := "subNames", unfollowed := true, recurses := true, apart := false }
def SubNamesSaid : Prop := subNamesRow.holds Try.pinned (OpenSpec.ofChange subNamesSpec)

/-- ITS FALSE NEIGHBOUR: 'it returns false'. Refute it at one input. -/
def subNamesWrong : ChangeSpec := { name := "subNames", fn := fun _ => fun
  | [] => { results := [.lit (.bool false)], args := [] }
  | _ => none }
def SubNamesWrongFalsely : Prop := subNamesRow.holds Try.pinned (OpenSpec.ofChange subNamesWrong)

/-- 'tidewaiterlaw20.SubTells': WHATEVER THE INPUT: true; the input reads as it did. -/
def subTellsSpec : ChangeSpec := { name := "subTells", fn := fun _ => fun
  | [d1, d2] => { results := [.lit (.bool true)], args := [d1, d2] }
  | _ => none }
def subTellsRow : OpenClaim := { program := "ytgechifpappipaa", sum := "4e09d27be1e78ab9216614e15647fe115a18704a57e066fdfe14eb946fd800e5", func := "tidewaiter/tidewaiterlaw20.SubTells", spec := "subTells", unfollowed := true, recurses := true, apart := false }
def SubTellsSaid : Prop := subTellsRow.holds Try.pinned (OpenSpec.ofChange subTellsSpec)

/-- ITS FALSE NEIGHBOUR: 'it returns false'. Refute it at one input. -/
def subTellsWrong : ChangeSpec := { name := "subTells", fn := fun _ => fun
  | [d1, d2] => { results := [.lit (.bool false)], args := [d1, d2] }
  | _ => none }
def SubTellsWrongFalsely : Prop := subTellsRow.holds Try.pinned (OpenSpec.ofChange subTellsWrong)

/- THE SECOND FORM. 'bulk': how many values and letters a reading holds, each counted each time it is reached (what is shared counts as often as it is met; a slice's spare places count too). A statement '..UptoSaid' is the law's where the arguments, and the package variables that the reading takes, are together of bulk at most 1048576: NARROWER than '..Said'. Prove '..Said' where nothing that the law and all that it calls make is longer than what came in: it says more and counts as full. Else prove '..UptoSaid'. A law counts once. -/
mutual
def uptoBulk {H : Type} : DataW H → Nat
  | .lit (.string bytes) => bytes.length + 1
  | .lit _ => 1
  | .nil => 1
  | .ptr d => uptoBulk d + 1
  | .slice elems spare => uptoBulkAll elems + uptoBulkAll spare + 1
  | .agg parts => uptoBulkAll parts + 1
  | .iface _ d => uptoBulk d + 1
  | .map entries => uptoBulkEntries entries + 1
  | .held _ => 1
def uptoBulkAll {H : Type} : List (DataW H) → Nat
  | [] => 0
  | d :: r => uptoBulk d + uptoBulkAll r
def uptoBulkEntries {H : Type} : List (Lit × DataW H) → Nat
  | [] => 0
  | x :: r => uptoBulkEntry x + uptoBulkEntries r
def uptoBulkEntry {H : Type} : Lit × DataW H → Nat
  | (.string bytes, d) => bytes.length + uptoBulk d + 1
  | (_, d) => uptoBulk d + 1
 end
def uptoSmall : (H : Type) → List (DataW H) → Bool := fun _ ds => decide (uptoBulkAll ds ≤ 1048576)
def OpenSpec.upto (s : _root_.Go.ChangeSpec) : _root_.Go.OpenSpec := { _root_.Go.OpenSpec.ofChange s with cond := some uptoSmall }

/-- 'tidewaiterlaw20.SubPairs', WHERE WHAT IT READS IS OF BULK AT MOST 1048576: true; the input reads as it did. -/
def subPairsUptoRow : OpenClaim := { program := "ytgechifpappipaa", sum := "4e09d27be1e78ab9216614e15647fe115a18704a57e066fdfe14eb946fd800e5", func := "tidewaiter/tidewaiterlaw20.SubPairs", spec := "subPairs", unfollowed := true, recurses := true, apart := false, narrowed := true }
def SubPairsUptoSaid : Prop := subPairsUptoRow.holds Try.pinned (OpenSpec.upto subPairsSpec)

/-- 'tidewaiterlaw20.SubQuiet', WHERE WHAT IT READS IS OF BULK AT MOST 1048576: true; the input reads as it did. -/
def subQuietUptoRow : OpenClaim := { program := "ytgechifpappipaa", sum := "4e09d27be1e78ab9216614e15647fe115a18704a57e066fdfe14eb946fd800e5", func := "tidewaiter/tidewaiterlaw20.SubQuiet", spec := "subQuiet", unfollowed := true, recurses := true, apart := false, narrowed := true }
def SubQuietUptoSaid : Prop := subQuietUptoRow.holds Try.pinned (OpenSpec.upto subQuietSpec)

/-- 'tidewaiterlaw06.NumReads', WHERE WHAT IT READS IS OF BULK AT MOST 1048576: true; the input reads as it did. -/
def numReadsUptoRow : OpenClaim := { program := "ytgechifpappipaa", sum := "4e09d27be1e78ab9216614e15647fe115a18704a57e066fdfe14eb946fd800e5", func := "tidewaiter/tidewaiterlaw06.NumReads", spec := "numReads", unfollowed := true, recurses := true, apart := false, narrowed := true }
def NumReadsUptoSaid : Prop := numReadsUptoRow.holds Try.pinned (OpenSpec.upto numReadsSpec)

/-- 'tidewaiterlaw20.SubNames', WHERE WHAT IT READS IS OF BULK AT MOST 1048576: true; the input reads as it did. -/
def subNamesUptoRow : OpenClaim := { program := "ytgechifpappipaa", sum := "4e09d27be1e78ab9216614e15647fe115a18704a57e066fdfe14eb946fd800e5", func := "tidewaiter/tidewaiterlaw20.SubNames", spec := "subNames", unfollowed := true, recurses := true, apart := false, narrowed := true }
def SubNamesUptoSaid : Prop := subNamesUptoRow.holds Try.pinned (OpenSpec.upto subNamesSpec)

/-- 'tidewaiterlaw20.SubTells', WHERE WHAT IT READS IS OF BULK AT MOST 1048576: true; the input reads as it did. -/
def subTellsUptoRow : OpenClaim := { program := "ytgechifpappipaa", sum := "4e09d27be1e78ab9216614e15647fe115a18704a57e066fdfe14eb946fd800e5", func := "tidewaiter/tidewaiterlaw20.SubTells", spec := "subTells", unfollowed := true, recurses := true, apart := false, narrowed := true }
def SubTellsUptoSaid : Prop := subTellsUptoRow.holds Try.pinned (OpenSpec.upto subTellsSpec)

end Rows
end Go.Proofs.Ytgechifpappipaa
