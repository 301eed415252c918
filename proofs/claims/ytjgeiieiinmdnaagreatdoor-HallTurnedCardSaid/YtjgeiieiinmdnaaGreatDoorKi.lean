/- Ref20, SubE: put together by mergetpl.py. -/
import Derived.Test.YtjgeiieiinmdnaaGreatDoorGa
import Derived.Test.YtjgeiieiinmdnaaGreatDoorRows
import Derived.Test.YtjgeiieiinmdnaaGreatDoorKh
namespace Go.Proofs.YtjgeiieiinmdnaaGreatDoor
open Go.RowKit

end Go.Proofs.YtjgeiieiinmdnaaGreatDoor
namespace Go.Proofs.YtjgeiieiinmdnaaGreatDoor
open Go.RowKit
end Go.Proofs.YtjgeiieiinmdnaaGreatDoor
