/- slices.Insert, slices.Delete at contacts. -/
import Derived.Test.YtjgeiieiinmdnaaGreatDoorKn
import Derived.Shelf.Spec.SlicesInsertGrow
open Go.Proofs.Tryz
open Array renaming length_toList→wv
open Go.Addr renaming add_lit→wI
open Go.Addr.mk renaming injEq→wz
open Go.Value.slice renaming injEq→ww
open List renaming length_append→wq,length_take→ws,length_drop→wt,append_assoc→wu,take_take→wB,take_left→wD,take_append→wE,drop_eq_nil_of_le→wK,append_nil→wL
open Nat renaming mul_le_mul_right→wA,add_mul→wC,min_eq_left→wF,add_zero→wG,one_mul→wH,le_trans→wM,lt_of_lt_of_le→wN
open Option.some renaming injEq→wy
namespace Go.Proofs.YtjgeiieiinmdnaaGreatDoor
open Go.RowKit Go.Lib
section
variable {P:Program}
theorem lX {w:World} {B g n cap size o:Nat} {e:TypeId} {xs cs:List Value} {cur:Array Value} (hown:w.ownsRow B e size (.slice (some ⟨g,0,none⟩) n cap) n xs) (hcur:w.heap[g]?=some (.cells cur e (0,0))) (hfit:o+cs.length≤n*size):
  (w.setRow g (cur.toList.take o++cs++cur.toList.drop (o+cs.length)).toArray).ownsRow B e size (.slice (some ⟨g,0,none⟩) n cap) n (xs.take o++cs++xs.drop (o+cs.length))∧
  w.grownBy (w.setRow g (cur.toList.take o++cs++cur.toList.drop (o+cs.length)).toArray) (some g):=by
 rcases hown.2 with ⟨h,_⟩ | ⟨g',cap',cur',h,hbg,hg,hnc,hcm,hcs,htake⟩
 ·simp at h
 ·simp only[ww,wy,wz,and_true,true_and] at h
  obtain⟨rfl,rfl⟩:=h;rw[hcur] at hg
  injection hg with hg
  injection hg with hg _ _
  subst hg;have hle:n*size≤cap*size:=wA _ hnc;have hxl:=hown.1;refine⟨⟨?_,.inr ⟨g,cap,_,rfl,hbg,setRow_heap w g cur _ e _ hcur,hnc,hcm,?_,?_⟩⟩,⟨rfl,rfl,rfl,by simp[World.setRow],fun k _ hk=>setRow_other w g k _ (fun e=>hk (by simp[e]))⟩⟩
  ·simp only[wq,ws,wt,hxl]
   omega
  ·simp only[List.size_toArray,wq,ws,wt,wv,hcs]
   omega
  ·have h1 : (cur.toList.take o).length = o := by rw [ws, wv, hcs]; omega
   rw[wu,wE,h1,wB,Nat.min_eq_right (by omega),wE,List.take_of_length_le (l:=cs) (by omega),List.take_drop,←htake,wB,wF (by omega),wu]
   congr 3
   rw[show o+cs.length+(n*size-o-cs.length)=n*size by omega]
theorem bu (w:World) (B g n cap size i dLen dCap:Nat) (dT sT e:TypeId) (a:Addr) (sLen sCap:Nat) (xs cs:List Value) (hu:P.underlying dT=some (.slice e)) (hs:(P.info? e).map (·.size)=some size)
  (hown:w.ownsRow B e size (.slice (some ⟨g,0,none⟩) n cap) n xs) (hn:cs.length=Nat.min sLen dLen*size) (hsrc:∀j v,cs[j]?=some v→w.cell? (a.add j)=some v) (hfit:i*size+cs.length≤n*size) (h1:∀v∈cs,v.oneCell'=true):
  ∃w',(∀ty,(Builtin.copy_ #[dT,sT] ty #[.slice (some ⟨g,i*size,none⟩) dLen dCap,.slice (some a) sLen sCap]).run P w=.ok (goInt (Nat.min sLen dLen)) w')∧w'.ownsRow B e size (.slice (some ⟨g,0,none⟩) n cap) n (xs.take (i*size)++cs++xs.drop (i*size+cs.length))∧w.grownBy w' (some g):=by
 rcases id hown.2 with ⟨h,_⟩ | ⟨g',cap',cur,h,hbg,hg,hnc,hcm,hcs,htake⟩
 ·simp at h
 ·simp only[ww,wy,wz,and_true,true_and] at h
  obtain⟨rfl,rfl⟩:=h;obtain⟨o1,o2⟩:=lX (cs:=cs) (o:=i*size) hown hg hfit;have hle:n*size≤cap*size:=wA _ hnc;refine⟨_,fun ty=>?_,o1,o2⟩;have hl:=run_loadCells_list (P:=P) w a cs hsrc;have hst:=run_storeCells_at P g (i*size) e cs 0 cur w hg (by simp only[wG];omega) h1;simp only[wG] at hst
  cases hq:P.info? e with
  | none=>simp[hq] at hs
  | some ii=>
   have hi:ii.size=size:=(by simpa [hq] using hs)
   simp[Builtin.copy_,run_underlying hu,Builtin.lenOf,Builtin.firstCells,sizeOf,typeInfo,hq,hi,←hn,hl,hst]
theorem nw {w:World} {B g n cap size:Nat} {e:TypeId} {xs:List Value} (h:w.ownsRow B e size (.slice (some ⟨g,0,none⟩) n cap) n xs) (hn:n+1≤cap):∃st:List Value,st.length=size∧w.ownsRow B e size (.slice (some ⟨g,0,none⟩) (n+1) cap) (n+1) (xs++st):=by
 rcases id h.2 with ⟨h,_⟩ | ⟨g',cap',cur,h',hbg,hg,hnc,hcm,hcs,htake⟩
 ·simp at h
 ·simp only[ww,wy,wz,and_true,true_and] at h'
  obtain⟨rfl,rfl⟩:=h';have hle:(n+1)*size≤cap*size:=wA _ hn;rw[wC,wH] at hle;refine⟨(cur.toList.drop (n*size)).take size,by rw[ws,wt,wv,hcs];omega,?_,.inr ⟨g,cap,cur,rfl,hbg,hg,hn,hcm,hcs,?_⟩⟩
  ·rw[wq,h.1,ws,wt,wv,hcs,wC]
   omega
  ·rw[←htake,wC,wH,List.take_add]
theorem lP {w:World} {B g n cap size:Nat} {e:TypeId} {xs:List Value} (h:w.ownsRow B e size (.slice (some ⟨g,0,none⟩) n cap) n xs) (o:Nat):∀j v,(xs.drop o)[j]?=some v→w.cell? ((⟨g,o,none⟩:Addr).add j)=some v:=fun j v hj=>by
 rw[List.getElem?_drop] at hj;have:=h.cells (g:=g) rfl (o+j) v hj;rw[wI] at this;rw[wI]
 simpa using this
end
theorem pX {α:Type _} (T D st P:List α) (h8:P.length=st.length):
  ((((T++D)++st).take (T.length+P.length)++D++((T++D)++st).drop (T.length+P.length+D.length)).take T.length++P++(((T++D)++st).take (T.length+P.length)++D++((T++D)++st).drop (T.length+P.length+D.length)).drop (T.length+P.length))=T++(P++D):=by
 have hA:(((T++D)++st).take (T.length+P.length)).length=T.length+P.length:=by simp only[ws,wq];omega
 have hE:((T++D)++st).drop (T.length+P.length+D.length)=[]:=wK (by simp only[wq];omega)
 have hT:(((T++D)++st).take (T.length+P.length)).take T.length=T:=by
  rw[wB,wF (by omega),wu,wD]
 rw[hE];generalize ((T++D)++st).take (T.length+P.length)=A at hA hT ⊢;rw[wL,List.take_append_of_le_length (by omega),hT,←hA,List.drop_left,wu]
theorem qI {α:Type _} (T D Z P:List α) (hz:Z.length=P.length+D.length):
  ((((T++Z).take T.length++P++(T++Z).drop (T.length+P.length)).take (T.length+P.length))++D++(((T++Z).take T.length++P++(T++Z).drop (T.length+P.length)).drop (T.length+P.length+D.length)))=T++(P++D):=by
 have h1:(T++Z).take T.length=T:=wD
 have h2:((T++P)++(T++Z).drop (T.length+P.length)).take (T.length+P.length)=T++P:=by rw[←wq,wD]
 have h3:((T++P)++(T++Z).drop (T.length+P.length)).drop (T.length+P.length+D.length)=[]:=wK (by simp only[wq,wt];omega)
 rw[h1,h2,h3,wL,wu]
theorem jn {w w1 w2:World} {row:Option Nat} {g:Nat} (h:w.grownBy w1 row) (k:w1.grownBy w2 (some g)) (hg:w.heap.size≤g):w.grownBy w2 row:=
 ⟨k.os.trans h.os,k.tape.trans h.tape,k.output.trans h.output,wM h.size k.size,fun i hi hne=>(k.block i (wN hi h.size) (fun e=>by cases e;omega)).trans (h.block i hi hne)⟩
theorem jZ {w w1 w2:World} {row:Option Nat} (h:w.grownBy w1 row) (k:w1.grownBy w2 row):w.grownBy w2 row:=
 ⟨k.os.trans h.os,k.tape.trans h.tape,k.output.trans h.output,wM h.size k.size,fun i hi hne=>(k.block i (wN hi h.size) hne).trans (h.block i hi hne)⟩
end Go.Proofs.YtjgeiieiinmdnaaGreatDoor
