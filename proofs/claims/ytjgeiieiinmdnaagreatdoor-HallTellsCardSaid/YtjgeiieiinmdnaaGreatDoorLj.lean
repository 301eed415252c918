/- HaN, HaN2: put together by mergetpl.py. -/
import Derived.Test.YtjgeiieiinmdnaaGreatDoorLg
import Derived.Test.YtjgeiieiinmdnaaGreatDoorLh
import Derived.Test.YtjgeiieiinmdnaaGreatDoorLi
open Go.Proofs.Tryz
namespace Go.Proofs.YtjgeiieiinmdnaaGreatDoor
open Go.RowKit Go.Lib


def vY (t:List UInt8):Re:=(t,false,0,[],false,[])
end Go.Proofs.YtjgeiieiinmdnaaGreatDoor
