/- chunk's machine in plain Lean. No program in sight. -/
import Derived.Test.YtcmbmbkglglljaaDoorStr
import Derived.Lib.Bytealg
namespace Go.Proofs.YtcmbmbkglglljaaDoor
open Go.RowKit

/-- A hexadecimal digit's number; -1: it is none. -/
def hexN (c : UInt8) : Int := if 48 ≤ c.toNat ∧ c.toNat ≤ 57 then c.toNat - 48 else if 97 ≤ c.toNat ∧ c.toNat ≤ 102 then c.toNat - 87 else if 65 ≤ c.toNat ∧ c.toNat ≤ 70 then c.toNat - 55 else -1
def dgN (c : UInt8) : Int := if Lib.indexByte [48, 49, 50, 51, 52, 53, 54, 55, 56, 57, 97, 98, 99, 100, 101, 102] c < 0 then Lib.indexByte [48, 49, 50, 51, 52, 53, 54, 55, 56, 57, 65, 66, 67, 68, 69, 70] c else Lib.indexByte [48, 49, 50, 51, 52, 53, 54, 55, 56, 57, 97, 98, 99, 100, 101, 102] c
theorem dg_hex' : ∀ n : Fin 256, dgN (UInt8.ofNat n.val) = hexN (UInt8.ofNat n.val) := by decide +kernel
theorem dg_hex (c : UInt8) : dgN c = hexN c := by
  have := dg_hex' ⟨c.toNat, c.toNat_lt⟩
  simpa using this
theorem hexN_le (c : UInt8) : -1 ≤ hexN c ∧ hexN c ≤ 15 := by
  unfold hexN
  split
  · omega
  · split
    · omega
    · split <;> omega

/-- chunk's machine: what it waits for, the size, how many digits, how many bytes of a line's end, the content. -/
structure CM where
  st : Nat
  sz : Nat
  mn : Nat
  sn : Nat
  body : List UInt8
def CM.told (m : CM) : CM × Int := if 8192 < m.body.length + m.sz then (m, 4) else ({ m with st := 3, sn := 0 }, 0)
def CM.digits (m : CM) (c : UInt8) : CM × Int :=
  if 0 ≤ hexN c ∧ m.mn < 4 then ({ m with sz := 16 * m.sz + (hexN c).toNat, mn := m.mn + 1 }, 0)
  else if c ≠ 13 ∨ m.mn = 0 then (m, 160) else ({ m with st := 2, sn := 0 }, 0)
/-- The two bytes of a line's end; behind them the state z. -/
def CM.mark (m : CM) (z : Nat) (c : UInt8) : CM × Int :=
  if m.sn = 0 then ({ m with sn := 1 }, if c = 13 then 0 else 160) else ({ m with st := z, sn := 0 }, if c = 10 then 0 else 160)
def CM.take (m : CM) (c : UInt8) : CM × Int :=
  match m.st with
  | 0 => if c = 48 then ({ m with st := 5, sn := 0 }, 0) else CM.digits { m with st := 1, sn := 0, sz := 0, mn := 0 } c
  | 1 => m.digits c
  | 2 => if c ≠ 10 then (m, 160) else m.told
  | 3 => if 0 < m.sz then ({ m with body := m.body ++ [c], sz := m.sz - 1 }, 0) else CM.mark { m with st := 4, sn := 0 } 0 c
  | 4 => m.mark 0 c
  | 5 => m.mark 6 c
  | 6 => m.mark 7 c
  | _ => (m, 0)
/-- What stays true of the machine. -/
structure CM.Ok (m : CM) : Prop where
  st : m.st ≤ 7
  sn : m.sn ≤ 1
  mn : m.mn ≤ 4
  sz : m.sz < 16 ^ m.mn
  body : m.body.length ≤ 8192
  data : m.st = 3 → m.body.length + m.sz ≤ 8192
  dig : m.st = 1 → 1 ≤ m.mn
end Go.Proofs.YtcmbmbkglglljaaDoor
