/- Texts and contacts that come in as data. -/
import Derived.Test.YtjgeiieiinmdnaaGreatDoorKq
import Derived.Deep.Slices
import Derived.ChangeSame
import Derived.OpenShut
import Derived.Lib.SmallJoins
namespace Go.Proofs.YtjgeiieiinmdnaaGreatDoor
open Go.RowKit Go.ChangeShapes Go.WideShapes Go.ChangeAt Go.Deep Go.Joins

def boolV : Value → Bool
 | .bool b => b
 | _ => false
end Go.Proofs.YtjgeiieiinmdnaaGreatDoor
