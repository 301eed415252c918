/- RoY, RoZ, RoZa: put together by mergetpl.py. -/
import Derived.Test.YtjgeiieiinmdnaaGreatDoorKo
namespace Go.Proofs.YtjgeiieiinmdnaaGreatDoor
open Go.RowKit Go.Lib

end Go.Proofs.YtjgeiieiinmdnaaGreatDoor
namespace Go.Proofs.YtjgeiieiinmdnaaGreatDoor
open Go.RowKit Go.Lib

end Go.Proofs.YtjgeiieiinmdnaaGreatDoor
namespace Go.Proofs.YtjgeiieiinmdnaaGreatDoor
open Go.RowKit Go.Lib

end Go.Proofs.YtjgeiieiinmdnaaGreatDoor
