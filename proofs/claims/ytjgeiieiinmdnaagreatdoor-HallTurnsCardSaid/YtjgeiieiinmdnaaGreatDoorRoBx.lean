/- Boxes: a block of cells by its list; rows of the call's own below a bound. -/
import Derived.Test.YtjgeiieiinmdnaaGreatDoorKp
open Go.Proofs.Tryz
open Go.Addr.mk renaming injEq→ws
open Go.World renaming cell?_setCell_other→wq,frozen?_setCell→wt
open List renaming getElem?_eq_getElem→wh
open Nat renaming lt_or_ge→wo
namespace Go.Proofs.YtjgeiieiinmdnaaGreatDoor
open Go.RowKit Go.Lib

def Bx (L:Nat) (cs:List Value) (w:World):Prop:=L<w.heap.size∧∀i v,cs[i]?=some v→w.cell? ⟨L,i,none⟩=some v∧w.frozen? ⟨L,i,none⟩=false
theorem Bx.lt {L:Nat} {cs:List Value} {w:World} (h:Bx L cs w):L<w.heap.size:=h.1
theorem Bx.at {L:Nat} {cs:List Value} {w:World} (h:Bx L cs w) (i:Nat) {v:Value} (hi:cs[i]?=some v):w.cell? ⟨L,i,none⟩=some v:=(h.2 i v hi).1
theorem Bx.fz {L:Nat} {cs:List Value} {w:World} (h:Bx L cs w) (i:Nat) (hi:i<cs.length):w.frozen? ⟨L,i,none⟩=false:=(h.2 i _ (wh hi)).2
theorem Bx.ret {L:Nat} {cs:List Value} {w w':World} (h:Bx L cs w) (hb:Bl w w'):Bx L cs w':=by
 obtain⟨q,r⟩:=ag hb;exact⟨Nat.lt_of_lt_of_le h.1 hb.size,fun i v hi=>⟨(q _ _ h.1).trans (h.2 i v hi).1,(r _ _ h.1).trans (h.2 i v hi).2⟩⟩
theorem Bx.same {L:Nat} {cs:List Value} {w w':World} (h:Bx L cs w) (hk:w'.heap[L]?=w.heap[L]?):Bx L cs w':=by
 refine⟨?_,fun i v hi=>?_⟩
 ·rcases wo L w'.heap.size with h1 | h1
  ·exact h1
  ·rw[Array.getElem?_eq_none h1,Array.getElem?_eq_getElem h.1] at hk
   cases hk
 ·obtain⟨h1,h2⟩:=h.2 i v hi
  exact⟨by rw[←h1];simp only[World.cell?,hk],by rw[←h2];simp only[World.frozen?,hk]⟩
theorem Bx.new (w:World) (cs:List Value) (t:TypeId):Bx w.heap.size cs (w.alloc (.cells cs.toArray t)):=by
 refine⟨by simp,fun i v hi=>⟨?_,?_⟩⟩
 ·rw[World.cell?_alloc_new]
  simpa using hi
 ·simp
theorem Bx.set {L:Nat} {cs:List Value} {w:World} (h:Bx L cs w) (i:Nat) (hi:i<cs.length) (x:Value):Bx L (cs.set i x) (w.setCell ⟨L,i,none⟩ x):=by
 have hc:=h.at i (wh hi);refine⟨by simpa using h.1,fun j v hj=>⟨?_,?_⟩⟩
 ·by_cases e:i=j
  ·subst e
   rw[List.getElem?_set_self hi] at hj
   cases hj
   exact World.cell?_setCell_same _ _ _ hc
  ·rw[List.getElem?_set_ne e] at hj
   rw[wq _ _ _ _ (by simp only[ne_eq,ws,not_and];omega)];exact(h.2 j v hj).1
 ·rw[wt]
  rcases wo j cs.length with hl | hl
  ·exact h.fz j hl
  ·rw[List.getElem?_eq_none (by simpa using hl)] at hj
   cases hj
theorem Bx.other {L g o:Nat} {cs:List Value} {w:World} (h:Bx L cs w) (xn:L≠g) (x:Value):Bx L cs (w.setCell ⟨g,o,none⟩ x):=
 ⟨by simpa using h.1,fun j v hj=>⟨by rw[wq _ _ _ _ (by simp only[ne_eq,ws,not_and];omega)];exact(h.2 j v hj).1,by rw[wt];exact(h.2 j v hj).2⟩⟩
theorem sN {w:World} {B g o n size:Nat} {e:TypeId} {v:Value} {xs:List Value} (h:w.ownsRow B e size v n xs) (xn:v.ownBlock≠some g) (x:Value):(w.setCell ⟨g,o,none⟩ x).ownsRow B e size v n xs:=by
 refine h.kept (row:=some g) ⟨rfl,rfl,rfl,by simp,fun k _ hk=>heap_setCell_other w ⟨g,o,none⟩ k x (fun e=>hk (by simp[e]))⟩ ?_
 cases hv:v.ownBlock with
 | none=>exact .inl rfl
 | some b=>exact .inr (by rw[←hv];exact xn)
end Go.Proofs.YtjgeiieiinmdnaaGreatDoor
