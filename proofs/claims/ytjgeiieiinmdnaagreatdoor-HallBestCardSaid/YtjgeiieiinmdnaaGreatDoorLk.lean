/- HsE, HtB, HaR: put together by mergetpl.py. -/
import Derived.Test.YtjgeiieiinmdnaaGreatDoorLb
import Derived.Test.YtjgeiieiinmdnaaGreatDoorKm
import Derived.Test.YtjgeiieiinmdnaaGreatDoorRoSx
import Derived.Test.YtjgeiieiinmdnaaGreatDoorLd
import Derived.Test.YtjgeiieiinmdnaaGreatDoorVq
namespace Go.Proofs.YtjgeiieiinmdnaaGreatDoor
open Go.RowKit Go.Lib

instance atDec : DecidableEq At := by refine @instDecidableEqProd _ _ ?_ (@instDecidableEqProd _ _ ?_ ?_) <;> infer_instance
instance ndDec : DecidableEq Nd := by refine @instDecidableEqProd _ _ ?_ (@instDecidableEqProd _ _ ?_ (@instDecidableEqProd _ _ ?_ (@instDecidableEqProd _ _ ?_ (@instDecidableEqProd _ _ ?_ ?_)))) <;> infer_instance
instance reDec : DecidableEq Re := by refine @instDecidableEqProd _ _ ?_ (@instDecidableEqProd _ _ ?_ (@instDecidableEqProd _ _ ?_ (@instDecidableEqProd _ _ ?_ (@instDecidableEqProd _ _ ?_ ?_)))) <;> infer_instance
instance acDec : DecidableEq Ac := by refine @instDecidableEqProd _ _ ?_ (@instDecidableEqProd _ _ ?_ ?_) <;> infer_instance
/-- A function's value that tells whether two of these are the same, by d, from now on. -/
def EqL {α δ : Type} [DecidableEq δ] (val : α → Value) (d : α → δ) (f : Value) (M K : List α) (w : World) : Prop := ∃ g lb, f = .func (.func g) #[] lb ∧ (∀ args w, (callFunc g args).run Tryz.prog w = .ok (.enter g args) w) ∧ ∀ x ∈ M, ∀ y ∈ K, ∀ W, Below w.heap.size w W → Calls Tryz.prog g (#[val x, val y] ++ lb) W (Ret W (.bool (decide (d x = d y))))
end Go.Proofs.YtjgeiieiinmdnaaGreatDoor
namespace Go.Proofs.YtjgeiieiinmdnaaGreatDoor
open Go.RowKit Go.Lib

end Go.Proofs.YtjgeiieiinmdnaaGreatDoor
namespace Go.Proofs.YtjgeiieiinmdnaaGreatDoor
open Go.RowKit Go.Lib

/-- sizes for a comparison. -/
def EqA (a : AcI) : Prop := a.it.length ≤ 10000 ∧ ∀ p ∈ a.it, p.1.g.length ≤ 10000
def EqT (t : TrI) : Prop := t.1.length ≤ 100000 ∧ ∀ p ∈ t.1, (ndA p).length ≤ 100000
def EqR (r : RsI) : Prop := r.ld.length ≤ 100000 ∧ r.st.length ≤ 100000 ∧ ∀ t ∈ r.ld, EqT t
def EqC (c : CoI) : Prop := c.A.length ≤ 100000 ∧ c.R.length ≤ 100000 ∧ (∀ a ∈ c.A, EqA a) ∧ ∀ r ∈ c.R, EqR r
end Go.Proofs.YtjgeiieiinmdnaaGreatDoor
