/- HaU, HaX, HaY, HaZ: put together by mergetpl.py. -/
import Derived.Test.YtjgeiieiinmdnaaGreatDoorLg
import Derived.Test.YtjgeiieiinmdnaaGreatDoorLk
open Go.Proofs.Tryz
namespace Go.Proofs.YtjgeiieiinmdnaaGreatDoor
open Go.RowKit Go.Lib

theorem vz {α:Type} [Inhabited α] {nm:α→List UInt8} {L:List α} {t:List UInt8} (hL:∀y∈L,bm (nm y)=true) (ht:bm t=true):thO nm L t=thG nm L t:=by
 unfold thO thG
 rcases Nat.lt_or_ge (poG nm L t) L.length with h | h
 ·rw[List.getElem?_eq_getElem h,decide_eq_true h,Bool.true_and]
  have hg:L.getD (poG nm L t) default=L[poG nm L t]:=by simp[List.getD,h]
  rw[hg];have hy:=hL _ (List.getElem_mem h);generalize L[poG nm L t]=y at hy
  show decide (gy (nm y) t=0)=(nm y==t)
  rw[Bool.eq_iff_iff,decide_eq_true_eq,beq_iff_eq];unfold gy
  constructor
  ·intro h0
   cases h1:au (nm y) t with
   | true=>rw[h1] at h0;simp at h0
   | false=>
    cases h2:au t (nm y) with
    | true=>rw[h1,h2] at h0;simp at h0
    | false=>exact mv hy ht (mq h1 h2)
  ·intro e
   rw[e,bg]
   simp
 ·rw[List.getElem?_eq_none h,decide_eq_false (by omega),Bool.false_and]
theorem ru {α:Type} [Inhabited α] {nm:α→List UInt8} {L:List α} {x:α} (hL:∀y∈L,bm (nm y)=true) (hx:bm (nm x)=true):puO nm L x=puG nm L x:=by
 unfold puO puG;rw[vz hL hx]
theorem gn {s:List UInt8} (h:cG s=true):bm s=true:=by
 unfold cG at h;rw[Bool.and_eq_true] at h;exact h.1
structure NewOk (l:List (List UInt8)) (A:List Ac):Prop where
 ch:chG acN A=true
 ad:∀a∈A,bm (acN a)=true
 mem:∀a∈A,acN a∈l
 len:A.length≤l.length


def OwC (w0:World) (ad:List Nat) (c:CoI) (w:World):Prop:=OwZ acY w0 ad c.av c.A w∧OwZ rsY w0 ad c.rv c.R w
section
variable {w0 w w':World} {bs:Bs} {ad:List Nat} {c:CoI}
theorem OwC.mk' (h:Sx w0 bs w) (ho:c.own (fun g=>w.heap.size≤g) w'):OwC w0 (bs.map Prod.fst) c w':=⟨OwZ.mk' h ho.1,OwZ.mk' h ho.2⟩
theorem OwC.sets (h:OwC w0 ad c w) (k:Nat) {A o:Nat} {vs:List Value} (hk:ad[k]?=some A) (e':w.setCells A o vs=w'):OwC w0 ad c w':=⟨h.1.sets k hk e',h.2.sets k hk e'⟩
theorem OwC.own (h:OwC w0 ad c w):c.own (fun g=>w0.heap.size≤g) w:=⟨h.1.own,h.2.own⟩
theorem OwC.csub (h:OwC w0 ad c w):c.sub w:=h.own.sub
end

end Go.Proofs.YtjgeiieiinmdnaaGreatDoor
