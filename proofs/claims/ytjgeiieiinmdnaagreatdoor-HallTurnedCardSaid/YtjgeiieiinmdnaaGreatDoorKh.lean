/- SubA, SubB: put together by mergetpl.py. -/
import Derived.Test.YtjgeiieiinmdnaaGreatDoorRows
import Derived.Test.YtjgeiieiinmdnaaGreatDoorGa
namespace Go.Proofs.YtjgeiieiinmdnaaGreatDoor
open Go.RowKit

theorem sub_Check (a b c d : Bool) (w : World) : Calls Tryz.prog 212 #[.agg #[.bool a, .bool b, .bool c, .bool d]] w (Ret w (.int .i64 (if a && b || c && d then 8 else 0))) := by
 cases a <;> cases b <;> cases c <;> cases d
 all_goals
  go_enter Tryz.func212, Tryz.ntmps212
  go_wp2
  go_returns
  exact ⟨rfl, by go_grown⟩
end Go.Proofs.YtjgeiieiinmdnaaGreatDoor
namespace Go.Proofs.YtjgeiieiinmdnaaGreatDoor
open Go.RowKit

end Go.Proofs.YtjgeiieiinmdnaaGreatDoor
