/- HaJ, HaK, HaV: put together by mergetpl.py. -/
import Derived.Test.YtjgeiieiinmdnaaGreatDoorLc
import Derived.Test.YtjgeiieiinmdnaaGreatDoorLd
open Go.Proofs.Tryz
open List renaming find?_eq_none→wh,any_eq_false→wo
namespace Go.Proofs.YtjgeiieiinmdnaaGreatDoor
open Go.RowKit Go.Lib

theorem eV {α:Type} (q:α→Bool):∀L:List α,(dc q L=-1∧L.find? q=none)∨∃(k:Nat) (x:α),dc q L=k∧L[k]?=some x∧q x=true∧L.find? q=some x:=fun L=>by
 cases h:L.any q with
 | false=>
  refine .inl ⟨bK h,?_⟩;rw[wh];intro x hx;have:=wo.1 h x hx
  simpa using this
 | true=>
  obtain⟨x,hx⟩:∃x,L.find? q=some x:=by
   cases hf:L.find? q with
   | some x=>exact⟨x,rfl⟩
   | none=>
    rw[wh] at hf;obtain⟨x,hx,hq⟩:=List.any_eq_true.1 h;exact absurd hq (hf x hx)
  have hq:=List.find?_some hx;obtain⟨xn,l1,l2,hL,has⟩:=List.find?_eq_some_iff_append.1 hx;refine .inr ⟨l1.length,x,?_,by rw[hL];simp,hq,hx⟩;subst hL;refine eO (by simp) ?_ (by simpa using hq);rw[List.take_left]
  refine wo.2 fun y hy=>?_
  have:=has y hy
  simpa using this
theorem iX {α β:Type} (f:α→β) (nm:β→List UInt8) (t:List UInt8) (L:List α):fiG nm (L.map f) t=(L.find? fun x=>nm (f x)==t).map f:=by
 unfold fiG;rw[List.find?_map]
 rfl

theorem Bx.row {L n:Nat} {cs:List Value} {w:World} (h:Bx L cs w) (hl:cs.length=n):cx n (.slice (some ⟨L,0,none⟩) 1 1) 1 cs w:=
 ⟨by rw[hl,Nat.one_mul],some ⟨L,0,none⟩,1,rfl,(fun h=>by cases h),.inr ⟨L,0,rfl,h.lt,fun j hj=>by rw[Nat.zero_add];exact h.at j (List.getElem?_eq_getElem hj)⟩⟩

end Go.Proofs.YtjgeiieiinmdnaaGreatDoor
