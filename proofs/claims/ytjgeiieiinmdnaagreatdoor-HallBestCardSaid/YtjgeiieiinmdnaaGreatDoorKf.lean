/- JdQ, JdR, JdS, JdT, JdU: put together by mergetpl.py. -/
import Derived.Test.YtjgeiieiinmdnaaGreatDoorKa
import Derived.Lib.TrimUEq
import Derived.Lib.DecodeN
import Derived.Test.YtjgeiieiinmdnaaGreatDoorGc
import Derived.Test.YtjgeiieiinmdnaaGreatDoorGh
import Derived.Test.YtjgeiieiinmdnaaGreatDoorKc
namespace Go.Proofs.YtjgeiieiinmdnaaGreatDoor
open Go.Lib

/-- how many bytes the first one tells, and its bits. -/
def hdN (b : Nat) : Nat × Nat := if b < 128 then (1, b) else if 192 ≤ b ∧ b < 224 then (2, b - 192) else if 224 ≤ b ∧ b < 240 then (3, b - 224) else if 240 ≤ b ∧ b < 248 then (4, b - 240) else (0, 0)
/-- the number of so many bytes. -/
def nmN (sz h b1 b2 b3 : Nat) : Nat := if sz = 1 then h else if sz = 2 then 64 * h + b1 % 64 else if sz = 3 then 64 * (64 * h + b1 % 64) + b2 % 64 else 64 * (64 * (64 * h + b1 % 64) + b2 % 64) + b3 % 64
/-- the bytes of a number. -/
def byN (n : Nat) : List Nat := if n < 128 then [n] else if n < 2048 then [192 + n / 64, 128 + n % 64] else if n < 65536 then [224 + n / 4096, 128 + n / 64 % 64, 128 + n % 64] else [240 + n / 262144, 128 + n / 4096 % 64, 128 + n / 64 % 64, 128 + n % 64]
/-- what One finds: how many bytes; 0: none. -/
def okN (n b0 b1 b2 b3 : Nat) : Bool := decide ((hdN b0).1 ≠ 0) && decide ((hdN b0).1 ≤ n) && (mayP (nmN (hdN b0).1 (hdN b0).2 b1 b2 b3) && decide (byN (nmN (hdN b0).1 (hdN b0).2 b1 b2 b3) = [b0, b1, b2, b3].take (hdN b0).1))
/-- One finds a code point at a list's beginning. -/
def okL (l : List UInt8) : Bool := okN l.length (l.getD 0 0).toNat (l.getD 1 0).toNat (l.getD 2 0).toNat (l.getD 3 0).toNat
def szL (l : List UInt8) : Nat := (hdN (l.getD 0 0).toNat).1
end Go.Proofs.YtjgeiieiinmdnaaGreatDoor
namespace Go.Proofs.YtjgeiieiinmdnaaGreatDoor
open Go.RowKit Go.Lib

end Go.Proofs.YtjgeiieiinmdnaaGreatDoor
namespace Go.Proofs.YtjgeiieiinmdnaaGreatDoor
open Go.RowKit Go.Lib

/-- a slice of so many bytes, new. -/
def BysIs (w : World) (l : List Nat) (e : Ending) (w' : World) : Prop := ∃ g, e = .returned (.slice (some ⟨g, 0, none⟩) l.length l.length) ∧ Below w.heap.size w w' ∧ ∀ j (h : j < l.length), w'.cell? ⟨g, j, none⟩ = some (.int .u8 (l[j] : Nat))
end Go.Proofs.YtjgeiieiinmdnaaGreatDoor
namespace Go.Proofs.YtjgeiieiinmdnaaGreatDoor
open Go.RowKit Go.Lib

/-- the bytes as a text. -/
def byB (n : Nat) : List UInt8 := (byN n).map UInt8.ofNat
/-- a number, and how many bytes. -/
def OneIs (w : World) (k : Nat) (e : Ending) (w' : World) : Prop := ∃ n : Int, e = .returned (.tuple #[.int .i64 n, .int .i64 k]) ∧ Below w.heap.size w w'
end Go.Proofs.YtjgeiieiinmdnaaGreatDoor
namespace Go.Proofs.YtjgeiieiinmdnaaGreatDoor
open Go.RowKit Go.Lib

def AllIs (w : World) (b : Bool) (e : Ending) (w' : World) : Prop := ∃ v, e = .returned (.tuple #[v, .bool b]) ∧ Below w.heap.size w w'
end Go.Proofs.YtjgeiieiinmdnaaGreatDoor
