/- RoV, RoW, RoX: put together by mergetpl.py. -/
import Derived.Test.YtjgeiieiinmdnaaGreatDoorKn
import Derived.BigQuiet
import Derived.Test.YtjgeiieiinmdnaaGreatDoorKi
namespace Go.Proofs.YtjgeiieiinmdnaaGreatDoor
open Go.RowKit Go.Lib

end Go.Proofs.YtjgeiieiinmdnaaGreatDoor
namespace Go.Proofs.YtjgeiieiinmdnaaGreatDoor
open Go.RowKit Go.Lib

end Go.Proofs.YtjgeiieiinmdnaaGreatDoor
namespace Go.Proofs.YtjgeiieiinmdnaaGreatDoor
open Go.RowKit Go.Lib

end Go.Proofs.YtjgeiieiinmdnaaGreatDoor
