/- what Set and Drop answer, in memory. -/
import Derived.Test.YtfonkblbgadhmaaGreatDoorRoR
import Derived.Test.YtfonkblbgadhmaaGreatDoorKk
namespace Go.Proofs.YtfonkblbgadhmaaGreatDoor
open Go.RowKit Go.Lib

/-- what is answered: a roster in memory of the call's own, and the error. -/
def RosC (w : World) (L : List It) (ver code : Int) (e : Ending) (w' : World) : Prop := ∃ a c, e = .returned (.tuple #[.agg #[.slice a L.length c, .int .i64 ver], .int .i64 code]) ∧ OwnR w L (.slice a L.length c) w'
theorem RosC.zero {w w' : World} {ver code : Int} (hb : Below w.heap.size w w') : RosC w [] ver code (.returned (.tuple #[.agg #[.slice none 0 0, .int .i64 ver], .int .i64 code])) w' := ⟨none, 0, rfl, [], rfl, OwnItems.nil _ _, hb⟩
/-- what is answered: a roster, and a contact, in memory of the call's own, and the error. -/
def DroC (w : World) (L : List It) (ver : Int) (x : It) (code : Int) (e : Ending) (w' : World) : Prop := ∃ a c p, e = .returned (.tuple #[.agg #[.slice a L.length c, .int .i64 ver], itA p, .int .i64 code]) ∧ p.1 = x ∧ w'.ownsRow w.heap.size 9 1 (gvI p) p.1.g.length (strV p.1.g) ∧ OwnR w L (.slice a L.length c) w'
theorem DroC.zero {w w' : World} {code : Int} (hb : Below w.heap.size w w') : DroC w [] 0 it0 code (.returned (.tuple #[.agg #[.slice none 0 0, .int .i64 0], .agg #[.string ⟨#[]⟩, .string ⟨#[]⟩, .slice none 0 0, .bool false, .bool false, .bool false, .bool false, .bool false], .int .i64 code])) w' := ⟨none, 0, (it0, (none, 0)), rfl, rfl, World.ownsRow_nil _ _ _ _, [], rfl, OwnItems.nil _ _, hb⟩
end Go.Proofs.YtfonkblbgadhmaaGreatDoor
