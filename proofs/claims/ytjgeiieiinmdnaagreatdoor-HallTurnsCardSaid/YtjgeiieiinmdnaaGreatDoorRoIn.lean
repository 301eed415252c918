/- slices.Insert, slices.Delete at contacts. -/
import Derived.Shelf.Spec.SlicesInsertGrow
import Derived.Test.YtjgeiieiinmdnaaGreatDoorKm
open Go.Proofs.Tryz
open Array renaming length_toList→wy
open Go.Addr renaming add_lit→wH
open Go.Addr.mk renaming injEq→ww
open Go.Region renaming wanted→wC
open Go.Value.slice renaming injEq→wu
open List renaming length_append→wh,length_take→wo,length_drop→ws,append_assoc→wt,take_take→wA,take_left→wB,take_append→wD,drop_eq_nil_of_le→wI,append_nil→wK
open Nat renaming mul_le_mul_right→wq,add_mul→wz,min_eq_left→wE,add_zero→wF,one_mul→wG,le_trans→wL,lt_of_lt_of_le→wM
open Option.some renaming injEq→wv
namespace Go.Proofs.YtjgeiieiinmdnaaGreatDoor
open Go.RowKit Go.Lib
section
variable {P:Program}
theorem ip {w:World} {B g n cap size o:Nat} {e:TypeId} {xs cs:List Value} {xn:Array Value} (xo:w.ownsRow B e size (.slice (some ⟨g,0,none⟩) n cap) n xs) (xD:w.heap[g]?=some (.cells xn e (0,0))) (xt:o+cs.length≤n*size):
  (w.setRow g (xn.toList.take o++cs++xn.toList.drop (o+cs.length)).toArray).ownsRow B e size (.slice (some ⟨g,0,none⟩) n cap) n (xs.take o++cs++xs.drop (o+cs.length))∧
  w.grownBy (w.setRow g (xn.toList.take o++cs++xn.toList.drop (o+cs.length)).toArray) (some g):=by
 rcases xo.2 with ⟨h,_⟩ | ⟨g',xu,xJ,h,xw,hg,xr,xx,xq,xp⟩
 ·simp at h
 ·simp only[wu,wv,ww,and_true,true_and] at h
  obtain⟨rfl,rfl⟩:=h;rw[xD] at hg
  injection hg with hg
  injection hg with hg _ _
  subst hg;have xB:n*size≤cap*size:=wq _ xr;have xH:=xo.1;refine⟨⟨?_,.inr ⟨g,cap,_,rfl,xw,setRow_heap w g xn _ e _ xD,xr,xx,?_,?_⟩⟩,⟨rfl,rfl,rfl,by simp[World.setRow],fun k _ hk=>setRow_other w g k _ (fun e=>hk (by simp[e]))⟩⟩
  ·simp only[wh,wo,ws,xH]
   omega
  ·simp only[List.size_toArray,wh,wo,ws,wy,xq]
   omega
  ·have h1 : (xn.toList.take o).length = o := by rw [wo, wy, xq]; omega
   rw[wt,wD,h1,wA,Nat.min_eq_right (by omega),wD,List.take_of_length_le (l:=cs) (by omega),List.take_drop,←xp,wA,wE (by omega),wt]
   congr 3
   rw[show o+cs.length+(n*size-o-cs.length)=n*size by omega]
theorem aM (w:World) (B g n cap size i xy xE:Nat) (dT sT e:TypeId) (a:Addr) (xz xF:Nat) (xs cs:List Value) (hu:P.underlying dT=some (.slice e)) (hs:(P.info? e).map (·.size)=some size)
  (xo:w.ownsRow B e size (.slice (some ⟨g,0,none⟩) n cap) n xs) (hn:cs.length=Nat.min xz xy*size) (xA:∀j v,cs[j]?=some v→w.cell? (a.add j)=some v) (xt:i*size+cs.length≤n*size) (h1:∀v∈cs,v.oneCell'=true):
  ∃w',(∀ty,(Builtin.copy_ #[dT,sT] ty #[.slice (some ⟨g,i*size,none⟩) xy xE,.slice (some a) xz xF]).run P w=.ok (goInt (Nat.min xz xy)) w')∧w'.ownsRow B e size (.slice (some ⟨g,0,none⟩) n cap) n (xs.take (i*size)++cs++xs.drop (i*size+cs.length))∧w.grownBy w' (some g):=by
 rcases id xo.2 with ⟨h,_⟩ | ⟨g',xu,xn,h,xw,hg,xr,xx,xq,xp⟩
 ·simp at h
 ·simp only[wu,wv,ww,and_true,true_and] at h
  obtain⟨rfl,rfl⟩:=h;obtain⟨o1,o2⟩:=ip (cs:=cs) (o:=i*size) xo hg xt;have xB:n*size≤cap*size:=wq _ xr;refine⟨_,fun ty=>?_,o1,o2⟩;have hl:=run_loadCells_list (P:=P) w a cs xA;have hst:=run_storeCells_at P g (i*size) e cs 0 xn w hg (by simp only[wF];omega) h1;simp only[wF] at hst
  cases hq:P.info? e with
  | none=>simp[hq] at hs
  | some ii=>
   have hi:ii.size=size:=(by simpa [hq] using hs)
   simp[Builtin.copy_,run_underlying hu,Builtin.lenOf,Builtin.firstCells,sizeOf,typeInfo,hq,hi,←hn,hl,hst]
theorem gB (w:World) (B g n cap i:Nat) (t e:TypeId) (ii:TypeInfo) (ht:P.underlying t=some (.slice e)) (hi:P.info? e=some ii) (a:Addr) (m c:Nat) (xs cs:List Value)
  (xo:w.ownsRow B e ii.size (.slice (some ⟨g,0,none⟩) n cap) n xs) (hn:cs.length=m*ii.size) (xA:∀j v,cs[j]?=some v→w.cell? (a.add j)=some v) (xt:i+m≤n) (h1:∀v∈cs,v.oneCell'=true):
  ∃w',(∀ty,(Builtin.append_ #[t,t] ty #[.slice (some ⟨g,0,none⟩) i cap,.slice (some a) m c]).run P w=.ok (.slice (some ⟨g,0,none⟩) (i+m) cap) w')∧w'.ownsRow B e ii.size (.slice (some ⟨g,0,none⟩) n cap) n (xs.take (i*ii.size)++cs++xs.drop (i*ii.size+cs.length))∧w.grownBy w' (some g):=by
 rcases id xo.2 with ⟨h,_⟩ | ⟨g',xu,xn,h,xw,hg,xr,xx,xq,xp⟩
 ·simp at h
 ·simp only[wu,wv,ww,and_true,true_and] at h
  obtain⟨rfl,rfl⟩:=h
  have hf:i*ii.size+cs.length≤n*ii.size:=by rw[hn,←wz];exact wq _ xt
  have xB:n*ii.size≤cap*ii.size:=wq _ xr;obtain⟨o1,o2⟩:=ip (cs:=cs) (o:=i*ii.size) xo hg hf;exact⟨_,fun ty=>run_append_room w t ty e ii ht hi g i cap xn hg a m c cs hn xA h1 (by omega) (by omega),o1,o2⟩
theorem jT {w:World} {B g n cap size:Nat} {e:TypeId} {xs:List Value} (h:w.ownsRow B e size (.slice (some ⟨g,0,none⟩) n cap) n xs) (hn:n+1≤cap):∃st:List Value,st.length=size∧w.ownsRow B e size (.slice (some ⟨g,0,none⟩) (n+1) cap) (n+1) (xs++st):=by
 rcases id h.2 with ⟨h,_⟩ | ⟨g',xu,xn,h',xw,hg,xr,xx,xq,xp⟩
 ·simp at h
 ·simp only[wu,wv,ww,and_true,true_and] at h'
  obtain⟨rfl,rfl⟩:=h';have xB:(n+1)*size≤cap*size:=wq _ hn;rw[wz,wG] at xB;refine⟨(xn.toList.drop (n*size)).take size,by rw[wo,ws,wy,xq];omega,?_,.inr ⟨g,cap,xn,rfl,xw,hg,hn,xx,xq,?_⟩⟩
  ·rw[wh,h.1,wo,ws,wy,xq,wz]
   omega
  ·rw[←xp,wz,wG,List.take_add]
theorem ea {w:World} {B g n cap size:Nat} {e:TypeId} {xs:List Value} (h:w.ownsRow B e size (.slice (some ⟨g,0,none⟩) n cap) n xs) (o:Nat):∀j v,(xs.drop o)[j]?=some v→w.cell? ((⟨g,o,none⟩:Addr).add j)=some v:=fun j v hj=>by
 rw[List.getElem?_drop] at hj;have:=h.cells (g:=g) rfl (o+j) v hj;rw[wH] at this;rw[wH]
 simpa using this
end
theorem ms {α:Type _} (T D st P:List α) (h8:P.length=st.length):
  ((((T++D)++st).take (T.length+P.length)++D++((T++D)++st).drop (T.length+P.length+D.length)).take T.length++P++(((T++D)++st).take (T.length+P.length)++D++((T++D)++st).drop (T.length+P.length+D.length)).drop (T.length+P.length))=T++(P++D):=by
 have hA:(((T++D)++st).take (T.length+P.length)).length=T.length+P.length:=by simp only[wo,wh];omega
 have hE:((T++D)++st).drop (T.length+P.length+D.length)=[]:=wI (by simp only[wh];omega)
 have hT:(((T++D)++st).take (T.length+P.length)).take T.length=T:=by
  rw[wA,wE (by omega),wt,wB]
 rw[hE];generalize ((T++D)++st).take (T.length+P.length)=A at hA hT ⊢;rw[wK,List.take_append_of_le_length (by omega),hT,←hA,List.drop_left,wt]
theorem my {α:Type _} (T D Z P:List α) (hz:Z.length=P.length+D.length):
  ((((T++Z).take T.length++P++(T++Z).drop (T.length+P.length)).take (T.length+P.length))++D++(((T++Z).take T.length++P++(T++Z).drop (T.length+P.length)).drop (T.length+P.length+D.length)))=T++(P++D):=by
 have h1:(T++Z).take T.length=T:=wB
 have h2:((T++P)++(T++Z).drop (T.length+P.length)).take (T.length+P.length)=T++P:=by rw[←wh,wB]
 have h3:((T++P)++(T++Z).drop (T.length+P.length)).drop (T.length+P.length+D.length)=[]:=wI (by simp only[wh,ws];omega)
 rw[h1,h2,h3,wK,wt]
theorem ex {w w1 w2:World} {row:Option Nat} {g:Nat} (h:w.grownBy w1 row) (k:w1.grownBy w2 (some g)) (hg:w.heap.size≤g):w.grownBy w2 row:=
 ⟨k.os.trans h.os,k.tape.trans h.tape,k.output.trans h.output,wL h.size k.size,fun i hi xC=>(k.block i (wM hi h.size) (fun e=>by cases e;omega)).trans (h.block i hi xC)⟩
theorem dn {w w1 w2:World} {row:Option Nat} (h:w.grownBy w1 row) (k:w1.grownBy w2 row):w.grownBy w2 row:=
 ⟨k.os.trans h.os,k.tape.trans h.tape,k.output.trans h.output,wL h.size k.size,fun i hi xC=>(k.block i (wM hi h.size) xC).trans (h.block i hi xC)⟩
theorem da {P:Program} {xG:Array Oper} {o:Oper} {a:Act} {w:World} {K:Act→World→Prop} {Q:Exit→Act→World→Prop} {E:Prop}
  (hg:o.guard=none) (d x:Operand) (dT sT:TypeId) (xI:o.op=Op.call {callee:=Callee.builtin Builtin.append,args:=#[d,x],argTypes:=#[dT,sT]})
  (v u:Value) (hd:a.eval d=v) (hx:a.eval x=u) {v':Value} {w':World} (hr:(Builtin.append_ #[dT,sT] o.type #[v,u]).run P w=.ok v' w') (hK:K (a.put o.dst v') w'):
  if wC o (yielded xG a.tmps)=true then Oper.wp P o a w K Q else E:=by
 have hw:wC o (yielded xG a.tmps)=true:=by simp[wC,hg]
 rw[if_pos hw];unfold Oper.wp
 simp[execOp,xI,resolve,invoke,builtin,hd,hx,hr,Result.andThen]
 exact hK
end Go.Proofs.YtjgeiieiinmdnaaGreatDoor
