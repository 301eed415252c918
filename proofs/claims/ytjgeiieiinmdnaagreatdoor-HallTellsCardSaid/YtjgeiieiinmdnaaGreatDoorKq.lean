/- RoZb, RoZc, RoLa: put together by mergetpl.py. -/
import Derived.Test.YtjgeiieiinmdnaaGreatDoorKp
import Derived.Test.YtjgeiieiinmdnaaGreatDoorKm
open Go.Proofs.Tryz
namespace Go.Proofs.YtjgeiieiinmdnaaGreatDoor
open Go.RowKit Go.Lib



structure Rr (w:World) (v u:Value) (x y:Int) (W:World):Prop where
 A:Two w.heap.size v (.int .i64 x) W
 B:Two (w.heap.size+1) u (.int .i64 y) W
 q:Bl w W
end Go.Proofs.YtjgeiieiinmdnaaGreatDoor
