/- SubA, SubB, Ref20, SubE: put together by mergetpl.py. -/
import Derived.Test.YtjgeiieiinmdnaaGreatDoorGa
open Go.Proofs.Tryz
namespace Go.Proofs.YtjgeiieiinmdnaaGreatDoor
open Go.RowKit

theorem nX (a b c d:Bool) (w:World):Calls prog 212 #[.agg #[.bool a,.bool b,.bool c,.bool d]] w (Ret w (.int .i64 (if a&&b||c&&d then 8 else 0))):=by
 cases a <;> cases b <;> cases c <;> cases d
 all_goals
  go_enter func212,ntmps212;go_wp2;go_returns;exact⟨rfl,by go_grown⟩


theorem oY (a b c d:Bool) (w:World):Calls prog 240 #[.agg #[.bool a,.bool b,.bool c,.bool d]] w (Ret w (.bool !(a&&b||c&&d))):=by
 cases a <;> cases b <;> cases c <;> cases d
 all_goals
  go_enter func240,ntmps240;go_wp2;go_returns;exact⟨rfl,by go_grown⟩
end Go.Proofs.YtjgeiieiinmdnaaGreatDoor
