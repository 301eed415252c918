/- JdQ, JdR, JdS, JdT, JdU: put together by mergetpl.py. -/
import Derived.Test.YtjgeiieiinmdnaaGreatDoorKa
import Derived.Lib.TrimUEq
import Derived.Lib.DecodeN
import Derived.Test.YtjgeiieiinmdnaaGreatDoorGc
import Derived.Test.YtjgeiieiinmdnaaGreatDoorGh
import Derived.Test.YtjgeiieiinmdnaaGreatDoorKc
namespace Go.Proofs.YtjgeiieiinmdnaaGreatDoor
open Go.Lib

end Go.Proofs.YtjgeiieiinmdnaaGreatDoor
namespace Go.Proofs.YtjgeiieiinmdnaaGreatDoor
open Go.RowKit Go.Lib

end Go.Proofs.YtjgeiieiinmdnaaGreatDoor
namespace Go.Proofs.YtjgeiieiinmdnaaGreatDoor
open Go.RowKit Go.Lib

end Go.Proofs.YtjgeiieiinmdnaaGreatDoor
namespace Go.Proofs.YtjgeiieiinmdnaaGreatDoor
open Go.RowKit Go.Lib

end Go.Proofs.YtjgeiieiinmdnaaGreatDoor
namespace Go.Proofs.YtjgeiieiinmdnaaGreatDoor
open Go.RowKit Go.Lib

end Go.Proofs.YtjgeiieiinmdnaaGreatDoor
