/- RoSx, PkB: put together by mergetpl.py. -/
import Derived.Test.YtjgeiieiinmdnaaGreatDoorRoBx
open Go.Proofs.Tryz
open Go.World renaming setCells→wo
open List renaming length_set→wq,mem_singleton→ws,mem_of_getElem?→wt,getElem_set→wu,pairwise_iff_getElem→wv,mem_append→ww
open List.Pairwise renaming nil→wy
open Option renaming some→wh
namespace Go.Proofs.YtjgeiieiinmdnaaGreatDoor
open Go.RowKit Go.Lib

abbrev Bs:=List (Nat×List Value)
structure Sx (w0:World) (bs:Bs) (w:World):Prop where
 bx:∀b∈bs,Bx b.1 b.2 w∧w0.heap.size≤b.1
 pw:bs.Pairwise fun a b=>a.1≠b.1
 q:Bl w0 w
def gz (cs:List Value) (o:Nat):List Value→List Value
 | []=>cs
 | v :: r=>gz (cs.set o v) (o+1) r
theorem iR:∀(vs cs:List Value) (o:Nat),(gz cs o vs).length=cs.length
 | [],_,_=>rfl
 | v :: r,cs,o=>by unfold gz;rw[iR r];simp
theorem jN:∀(vs:List Value) (w:World) (g o:Nat),(w.setCells g o vs).heap.size=w.heap.size
 | [],_,_,_=>rfl
 | v :: r,w,g,o=>by rw[wo,jN r];simp
theorem Bx.sets:∀(vs:List Value) {L:Nat} {cs:List Value} {w:World} (_:Bx L cs w) (o:Nat) (_:o+vs.length≤cs.length),Bx L (gz cs o vs) (w.setCells L o vs)
 | [],_,_,_,h,_,_=>h
 | v :: r,L,cs,w,h,o,hl=>by
  rw[wo];unfold gz;rw[List.length_cons] at hl;exact Bx.sets r (h.set o (by omega) v) (o+1) (by rw[wq];omega)
theorem Bx.others:∀(vs:List Value) {L g:Nat} {cs:List Value} {w:World} (_:Bx L cs w) (_:L≠g) (o:Nat),Bx L cs (w.setCells g o vs)
 | [],_,_,_,_,h,_,_=>h
 | v :: r,L,g,cs,w,h,hne,o=>by
  rw[wo];exact Bx.others r (h.other hne v) hne (o+1)
theorem cC:∀(vs:List Value) {B g:Nat} {a w:World} (_:Below B a w) (_:B≤g) (o:Nat),Below B a (w.setCells g o vs)
 | [],_,_,_,_,h,_,_=>h
 | v :: r,B,g,a,w,h,hg,o=>by
  rw[wo];exact cC r (h.setCell (p:=⟨g,o,none⟩) hg v) hg (o+1)
theorem jt:∀(vs:List Value) {w:World} {B g n size:Nat} {e:TypeId} {v:Value} {xs:List Value} (_:w.ownsRow B e size v n xs) (_:v.ownBlock≠some g) (o:Nat),(w.setCells g o vs).ownsRow B e size v n xs
 | [],_,_,_,_,_,_,_,_,h,_,_=>h
 | u :: r,w,B,g,n,size,e,v,xs,h,hne,o=>by
  rw[wo];exact jt r (sN h hne u) hne (o+1)
section
variable {w0 w w':World} {bs:Bs}
theorem Sx.start (w:World):Sx w [] w:=⟨fun b hb=>by(cases hb),wy,bQ _⟩
theorem Sx.ret (h:Sx w0 bs w) (hb:Bl w w'):Sx w0 bs w':=⟨fun b xp=>⟨(h.bx b xp).1.ret hb,(h.bx b xp).2⟩,h.pw,h.q.trans (hb.mono h.q.size)⟩
theorem Sx.lt (h:Sx w0 bs w):∀b∈bs,b.1<w.heap.size:=fun b hb=>(h.bx b hb).1.lt
theorem Sx.alloc (h:Sx w0 bs w) (A:Nat) (hA:w.heap.size=A) (cs:List Value) (t:TypeId):∃W,w.alloc (.cells cs.toArray t)=W∧W.heap.size=A+1∧Bl w W∧Sx w0 (bs++[(A,cs)]) W:=by
 subst hA;have al:=(bR w).alloc (Nat.le_refl _) (.cells cs.toArray t);refine⟨_,rfl,by simp,al,fun b hb=>?_,?_,h.q.trans (al.mono h.q.size)⟩
 ·rcases ww.1 hb with hb | hb
  ·exact⟨(h.bx b hb).1.ret al,(h.bx b hb).2⟩
  ·cases ws.1 hb
   exact⟨Bx.new w cs t,h.q.size⟩
 ·refine List.pairwise_append.2 ⟨h.pw,List.pairwise_singleton ..,fun a ha b hb=>?_⟩
  cases ws.1 hb
  have:=h.lt a ha
  show a.1≠w.heap.size
  omega
theorem Sx.lit (h:Sx w0 bs w) (A:Nat) (hA:w.heap.size=A) (cs:List Value) (t:TypeId):Sx w0 (bs++[(A,cs)]) (w.alloc (.cells cs.toArray t)):=by
 obtain⟨W,e,_,_,h'⟩:=h.alloc A hA cs t;rw[e];exact h'
theorem Sx.start1 (w:World) (c0:List Value) (t0:TypeId):∃W,w.alloc (.cells c0.toArray t0)=W∧W.heap.size=w.heap.size+1∧Sx w [(w.heap.size,c0)] W:=by
 obtain⟨W,h,s,_,b⟩:=(Sx.start w).alloc _ rfl c0 t0;exact⟨W,h,s,b⟩
theorem Sx.start2 (w:World) (c0:List Value) (t0:TypeId) (c1:List Value) (t1:TypeId):∃W,(w.alloc (.cells c0.toArray t0)).alloc (.cells c1.toArray t1)=W∧W.heap.size=w.heap.size+2∧Sx w [(w.heap.size,c0),(w.heap.size+1,c1)] W:=by
 obtain⟨V,e,s,b⟩:=Sx.start1 w c0 t0;obtain⟨W,h,s',_,b'⟩:=b.alloc _ s c1 t1;exact⟨W,by rw[e];exact h,s',b'⟩
theorem Sx.start3 (w:World) (c0:List Value) (t0:TypeId) (c1:List Value) (t1:TypeId) (c2:List Value) (t2:TypeId):∃W,((w.alloc (.cells c0.toArray t0)).alloc (.cells c1.toArray t1)).alloc (.cells c2.toArray t2)=W∧W.heap.size=w.heap.size+3∧Sx w [(w.heap.size,c0),(w.heap.size+1,c1),(w.heap.size+2,c2)] W:=by
 obtain⟨V,e,s,b⟩:=Sx.start2 w c0 t0 c1 t1;obtain⟨W,h,s',_,b'⟩:=b.alloc _ s c2 t2;exact⟨W,by rw[e];exact h,s',b'⟩
theorem Sx.box (h:Sx w0 bs w) (k:Nat) {A:Nat} {cs:List Value} (hk:bs[k]?=some (A,cs)):Bx A cs w:=(h.bx _ (wt hk)).1
theorem Sx.at (h:Sx w0 bs w) (k i:Nat) {A:Nat} {cs:List Value} {v:Value} (hk:bs[k]?=some (A,cs):=by exact rfl) (hi:cs[i]?=some v:=by exact rfl):w.cell? ⟨A,i,none⟩=some v:=(h.box k hk).at i hi
theorem Sx.fz (h:Sx w0 bs w) (k i:Nat) {A:Nat} {cs:List Value} {v:Value} (hk:bs[k]?=some (A,cs):=by exact rfl) (hi:cs[i]?=some v:=by exact rfl):w.frozen? ⟨A,i,none⟩=false:=((h.box k hk).2 i v hi).2
theorem Sx.sets (h:Sx w0 bs w) (k o:Nat) (vs:List Value) {A:Nat} {cs:List Value} (hk:bs[k]?=some (A,cs)) (hl:o+vs.length≤cs.length):∃W,w.setCells A o vs=W∧W.heap.size=w.heap.size∧Sx w0 (bs.set k (A,gz cs o vs)) W:=by
 have hA:=h.bx _ (wt hk)
 have xo:k<bs.length:=by
  rcases Nat.lt_or_ge k bs.length with h1 | h1
  ·exact h1
  ·rw[List.getElem?_eq_none h1] at hk
   cases hk
 have xn:bs[k]=(A,cs):=by rw[List.getElem?_eq_getElem xo] at hk;exact Option.some.inj hk
 refine⟨_,rfl,jN _ _ _ _,fun b hb=>?_,?_,cC vs h.q hA.2 o⟩
 ·obtain⟨j,hj,rfl⟩:=List.mem_iff_getElem.1 hb
  rw[wq] at hj;rw[wu]
  split
  ·exact⟨Bx.sets vs hA.1 o hl,hA.2⟩
  ·rename_i hne
   have xq:=h.bx bs[j] (List.getElem_mem hj);refine⟨Bx.others vs xq.1 ?_ o,xq.2⟩;have hp:=wv.1 h.pw
   rcases Nat.lt_or_gt_of_ne hne with h1 | h1
   ·have:=hp k j xo hj h1
    rw[xn] at this
    exact fun e=>this e.symm
   ·have:=hp j k hj xo h1
    rw[xn] at this;exact this
 ·rw[wv]
  intro i j hi hj xr;rw[wq] at hi hj;have hp:=wv.1 h.pw i j hi hj xr;rw[wu,wu]
  split
  ·rename_i e
   subst e;rw[if_neg (by omega)];rw[xn] at hp;exact hp
  ·split
   ·rename_i e
    subst e;rw[xn] at hp;exact hp
   ·exact hp
def OwX (w0:World) (ad:List Nat) (e:TypeId) (size:Nat) (v:Value) (n:Nat) (xs:List Value) (w:World):Prop:=w.ownsRow w0.heap.size e size v n xs∧∀g,v.ownBlock=some g→g ∉ ad
variable {ad:List Nat} {e:TypeId} {size n:Nat} {v:Value} {xs:List Value} {M:List Im}
theorem OwX.mk' (h:Sx w0 bs w) (ho:w'.ownsRow w.heap.size e size v n xs):OwX w0 (bs.map Prod.fst) e size v n xs w':=⟨ho.mono h.q.size,fun g hg hm=>by
 obtain⟨b,hb,rfl⟩:=List.mem_map.1 hm;have h1:=h.lt b hb;have h2:=(ho.lt _ hg).1
 omega⟩
theorem OwX.ret (h:OwX w0 ad e size v n xs w) (hb:Bl w w'):OwX w0 ad e size v n xs w':=⟨aQ h.1 hb,h.2⟩
theorem OwX.sets (h:OwX w0 ad e size v n xs w) (k:Nat) {A o:Nat} {vs:List Value} (hk:ad[k]?=some A) (e':w.setCells A o vs=w'):OwX w0 ad e size v n xs w':=by
 subst e';exact⟨jt vs h.1 (fun hg=>h.2 A hg (wt hk)) o,h.2⟩
theorem OwX.alloc (h:OwX w0 ad e size v n xs w) (A:Nat) (hA:w.heap.size=A) (hb:Bl w w'):OwX w0 (ad++[A]) e size v n xs w':=⟨aQ h.1 hb,fun g hg hm=>by
 rcases ww.1 hm with hm | hm
 ·exact h.2 g hg hm
 ·have:=ws.1 hm
  have h2:=(h.1.lt g hg).2
  omega⟩
end
section
variable {w0 w:World} {bs:Bs} {A:Nat} {v0 v1 v2 v3 v4 v5 v6 v7:Value}
theorem Sx.b2 (h:Sx w0 bs w) (k:Nat) (hk:bs[k]?=wh (A,[v0,v1]):=by exact rfl):w.cell? ⟨A,0,none⟩=wh v0∧w.cell? ⟨A,1,none⟩=wh v1:=⟨h.at k 0 hk rfl,h.at k 1 hk rfl⟩
theorem Sx.b3 (h:Sx w0 bs w) (k:Nat) (hk:bs[k]?=wh (A,[v0,v1,v2]):=by exact rfl):w.cell? ⟨A,0,none⟩=wh v0∧w.cell? ⟨A,1,none⟩=wh v1∧w.cell? ⟨A,2,none⟩=wh v2:=⟨h.at k 0 hk rfl,h.at k 1 hk rfl,h.at k 2 hk rfl⟩
theorem Sx.b6 (h:Sx w0 bs w) (k:Nat) (hk:bs[k]?=wh (A,[v0,v1,v2,v3,v4,v5]):=by exact rfl):w.cell? ⟨A,0,none⟩=wh v0∧w.cell? ⟨A,1,none⟩=wh v1∧w.cell? ⟨A,2,none⟩=wh v2∧w.cell? ⟨A,3,none⟩=wh v3∧w.cell? ⟨A,4,none⟩=wh v4∧w.cell? ⟨A,5,none⟩=wh v5:=⟨h.at k 0 hk rfl,h.at k 1 hk rfl,h.at k 2 hk rfl,h.at k 3 hk rfl,h.at k 4 hk rfl,h.at k 5 hk rfl⟩
theorem Sx.b8 (h:Sx w0 bs w) (k:Nat) (hk:bs[k]?=wh (A,[v0,v1,v2,v3,v4,v5,v6,v7]):=by exact rfl):w.cell? ⟨A,0,none⟩=wh v0∧w.cell? ⟨A,1,none⟩=wh v1∧w.cell? ⟨A,2,none⟩=wh v2∧w.cell? ⟨A,3,none⟩=wh v3∧w.cell? ⟨A,4,none⟩=wh v4∧w.cell? ⟨A,5,none⟩=wh v5∧w.cell? ⟨A,6,none⟩=wh v6∧w.cell? ⟨A,7,none⟩=wh v7:=⟨h.at k 0 hk rfl,h.at k 1 hk rfl,h.at k 2 hk rfl,h.at k 3 hk rfl,h.at k 4 hk rfl,h.at k 5 hk rfl,h.at k 6 hk rfl,h.at k 7 hk rfl⟩
theorem Sx.g3 (h:Sx w0 bs w) (k:Nat) (hk:bs[k]?=wh (A,[v0,v1,v2]):=by exact rfl):w.frozen? ⟨A,0,none⟩=false∧w.frozen? ⟨A,1,none⟩=false∧w.frozen? ⟨A,2,none⟩=false:=⟨h.fz k 0 hk rfl,h.fz k 1 hk rfl,h.fz k 2 hk rfl⟩
theorem Sx.g6 (h:Sx w0 bs w) (k:Nat) (hk:bs[k]?=wh (A,[v0,v1,v2,v3,v4,v5]):=by exact rfl):w.frozen? ⟨A,0,none⟩=false∧w.frozen? ⟨A,1,none⟩=false∧w.frozen? ⟨A,2,none⟩=false∧w.frozen? ⟨A,3,none⟩=false∧w.frozen? ⟨A,4,none⟩=false∧w.frozen? ⟨A,5,none⟩=false:=⟨h.fz k 0 hk rfl,h.fz k 1 hk rfl,h.fz k 2 hk rfl,h.fz k 3 hk rfl,h.fz k 4 hk rfl,h.fz k 5 hk rfl⟩
end
end Go.Proofs.YtjgeiieiinmdnaaGreatDoor
