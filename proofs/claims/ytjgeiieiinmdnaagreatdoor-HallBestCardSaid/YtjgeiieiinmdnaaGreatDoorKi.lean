/- Ref20, SubE: put together by mergetpl.py. -/
import Derived.Test.YtjgeiieiinmdnaaGreatDoorGa
import Derived.Test.YtjgeiieiinmdnaaGreatDoorRows
import Derived.Test.YtjgeiieiinmdnaaGreatDoorKh
namespace Go.Proofs.YtjgeiieiinmdnaaGreatDoor
open Go.RowKit

def subName (a c : Bool) : ByteArray := match a, c with
 | true, true => ⟨#[98, 111, 116, 104]⟩
 | true, false => ⟨#[116, 111]⟩
 | false, true => ⟨#[102, 114, 111, 109]⟩
 | false, false => ⟨#[110, 111, 110, 101]⟩
end Go.Proofs.YtjgeiieiinmdnaaGreatDoor
namespace Go.Proofs.YtjgeiieiinmdnaaGreatDoor
open Go.RowKit
end Go.Proofs.YtjgeiieiinmdnaaGreatDoor
