/- sub.Send and sub.Take once more, each stanza and state at once: what a stanza does with a half, by name. -/
import Derived.Test.YtfonkblbgadhmaaGreatDoorSubC
import Derived.Test.YtfonkblbgadhmaaGreatDoorSubD
namespace Go.Proofs.YtfonkblbgadhmaaGreatDoor
open Go.RowKit

/-- A half behind a stanza that is of it (ask, stop) | that is of the other side's word (yes, no). -/
def m1 (x : Bool) (k : Int) : Bool := if k = 3 then false else x
def m2 (x y : Bool) (k : Int) : Bool := if k = 1 then !x else if k = 3 then false else y
def n1 (x y : Bool) (k : Int) : Bool := if k = 2 then x || y else if k = 4 then false else x
def n2 (y : Bool) (k : Int) : Bool := if k = 2 ∨ k = 4 then false else y
def sgo (c d : Bool) (k : Int) : Bool := if k = 1 ∨ k = 3 then true else if k = 2 then d else c || d
def ttold (a b c d : Bool) (k : Int) : Bool := if k = 1 then !(c || d) else if k = 3 then c || d else if k = 2 then b else a || b

theorem sub_Send_F (a b c d : Bool) (k : Int) (ho : (a && b || c && d) = false) (h1 : 1 ≤ k) (h2 : k ≤ 4) (w : World) :
  Calls Tryz.prog 33 #[.agg #[.bool a, .bool b, .bool c, .bool d], .int .u8 k] w (Ret w (.tuple #[.agg #[.bool (m1 a k), .bool (m2 a b k), .bool (n1 c d k), .bool (n2 d k)], .bool (sgo c d k), .int .i64 0])) := by
 obtain rfl | rfl | rfl | rfl : k = 1 ∨ k = 2 ∨ k = 3 ∨ k = 4 := by omega
 ·exact sub_Send1 a b c d ho w
 ·exact sub_Send2 a b c d ho w
 ·exact sub_Send3 a b c d ho w
 ·exact sub_Send4 a b c d ho w
/-- Take, where nothing is sent back. -/
theorem sub_Take_F (a b c d : Bool) (k : Int) (ho : (a && b || c && d) = false) (h1 : 1 ≤ k) (h2 : k ≤ 4) (hb : k = 1 → c = false) (w : World) :
  Calls Tryz.prog 34 #[.agg #[.bool a, .bool b, .bool c, .bool d], .int .u8 k] w (Ret w (.tuple #[.agg #[.bool (n1 a b k), .bool (n2 b k), .bool (m1 c k), .bool (m2 c d k)], .bool (ttold a b c d k), .int .u8 0, .int .i64 0])) := by
 obtain rfl | rfl | rfl | rfl : k = 1 ∨ k = 2 ∨ k = 3 ∨ k = 4 := by omega
 ·obtain rfl := hb rfl
  exact sub_Take1f a b d ho w
 ·exact sub_Take2 a b c d ho w
 ·exact sub_Take3 a b c d ho w
 ·exact sub_Take4 a b c d ho w
theorem may_send (a b c d : Bool) (k : Int) (ho : (a && b || c && d) = false) (h1 : 1 ≤ k) (h2 : k ≤ 4) : (m1 a k && m2 a b k || n1 c d k && n2 d k) = false := by
 obtain rfl | rfl | rfl | rfl : k = 1 ∨ k = 2 ∨ k = 3 ∨ k = 4 := by omega
 all_goals revert ho; cases a <;> cases b <;> cases c <;> cases d <;> simp [m1, m2, n1, n2]
end Go.Proofs.YtfonkblbgadhmaaGreatDoor
