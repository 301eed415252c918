/- HaFn, DdN, DdM, DdB: put together by mergetpl.py. -/
import Derived.Test.YtjgeiieiinmdnaaGreatDoorLp
import Derived.Test.YtjgeiieiinmdnaaGreatDoorLs
import Derived.Test.YtjgeiieiinmdnaaGreatDoorLr
open Go.Proofs.Tryz
open Go.RowKit.Below renaming trans→ws,size→wt
open List renaming mem_filter→wh,filter_map→wo,length_filter_le→wq,map_append→wu,map_cons→wv
namespace Go.Proofs.YtjgeiieiinmdnaaGreatDoor
open Go.RowKit Go.Lib

def Lt (w w':World):Prop:=Bl w w'
theorem Lt.ret {w w1 w2:World} (h:Lt w w1) (hb:Bl w1 w2):Lt w w2:=ws h (hb.mono (wt h))
theorem Lt.grown {w w1 w2:World} {r:Option Nat} (h:Lt w w1) (hg:w1.grownBy w2 r) (hr:∀g,r=some g→w.heap.size≤g):Lt w w2:=ws h ((Below.refl w.heap.size w1).grown hg (wt h) hr)

section
variable {α β:Type} {nm:α→List UInt8} {L:List α} {t:List UInt8} {k:Nat} {x:α}
def loG (nm:α→List UInt8) (L:List α) (t:List UInt8):List α:=L.filter fun y=>au (nm y) t
def hiG (nm:α→List UInt8) (L:List α) (t:List UInt8):List α:=L.filter fun y=>au t (nm y)
theorem pJ:wiG nm L x=loG nm (woG nm L (nm x)) (nm x)++x :: hiG nm (woG nm L (nm x)) (nm x):=rfl
theorem o4 {q:α→Bool} (hx:L[k]?=some x):(L.take (k+1)).filter q=(L.take k).filter q++if q x then [x] else []:=by
 rw[a8 hx,List.filter_append]
 cases h:q x <;> simp[h]
theorem ob (f:α→β) (nm:β→List UInt8) (L:List α) (t:List UInt8):(woG (fun y=>nm (f y)) L t).map f=woG nm (L.map f) t:=by
 unfold woG;rw[wo]
 rfl
theorem oj (f:α→β) (nm:β→List UInt8) (L:List α) (x:α):(wiG (fun y=>nm (f y)) L x).map f=wiG nm (L.map f) (f x):=by
 unfold wiG;rw[wu,wv,←ob,wo,wo]
 rfl
theorem lR {y:α} (h:y∈wiG nm L x):y=x∨y∈L:=by
 rw[pJ] at h;unfold loG hiG woG at h
 rcases List.mem_append.1 h with h | h
 ·exact .inr (wh.1 (wh.1 h).1).1
 ·rcases List.mem_cons.1 h with h | h
  ·exact .inl h
  ·exact .inr (wh.1 (wh.1 h).1).1
theorem n6:(wiG nm L x).length≤2*L.length+1:=by
 rw[pJ];unfold loG hiG woG;have h1:=wq (fun p:α=>au (nm p) (nm x)) (L.filter fun p=>!(nm p==nm x));have h2:=wq (fun p:α=>au (nm x) (nm p)) (L.filter fun p=>!(nm p==nm x));have h3:=wq (fun p:α=>!(nm p==nm x)) L;rw[List.length_append,List.length_cons]
 omega
theorem oD (h:chG nm L=true):woG nm L t=L.eraseP fun y=>nm y==t:=by
 induction L with
 | nil=>rfl
 | cons a l ih=>
  unfold woG;rw[List.filter_cons,List.eraseP_cons]
  cases he:nm a==t with
  | true=>
   simp only[Bool.not_true,Bool.false_eq_true,if_false,cond_true];have hh:=a7 h
   refine List.filter_eq_self.2 fun y hy=>?_
   have h1:=hh y hy
   cases hq:nm y==t with
   | false=>rfl
   | true=>
    rw[beq_iff_eq] at he hq;rw[he,hq,bg] at h1
    cases h1
  | false=>
   simp only[Bool.not_false,if_true,cond_false];exact congrArg _ (ih (dX h))
end
section
variable {α:Type} [Inhabited α] {nm:α→List UInt8} {L:List α} {x:α}
theorem pd (hc:chG nm L=true) (hL:∀y∈L,bm (nm y)=true) (hx:bm (nm x)=true):wiG nm L x=puO nm L x:=by rw[o5 hc hL hx,ru hL hx]
theorem map_set (hc:chG nm L=true) (hL:∀y∈L,bm (nm y)=true) (hx:bm (nm x)=true) (hi:(fiG nm L (nm x)).isSome=true):(L.map fun y=>if nm y==nm x then x else y)=puO nm L x:=by
 have ht:thG nm L (nm x)=true:=by
  cases h:thG nm L (nm x) with
  | true=>rfl
  | false=>rw[(dZ hc).2 h] at hi;cases hi
 obtain⟨hp,hj,hd⟩:=cX ht;rw[ru hL hx];unfold puG;rw[if_pos ht,g8 hp];obtain⟨h1,h2,h3⟩:=dm hc (nm x)
 have hs:L=L.take (poG nm L (nm x))++L[poG nm L (nm x)] :: L.drop (poG nm L (nm x)+1):=by rw[←hd,List.take_append_drop]
 have hA:∀y∈L.take (poG nm L (nm x)),(nm y==nm x)=false:=fun y hy=>by
  have:=(dD hc (t:=nm x)).1 y hy
  cases hq:nm y==nm x with
  | false=>rfl
  | true=>rw[beq_iff_eq.1 hq,bg] at this;cases this
 have hB:∀y∈L.drop (poG nm L (nm x)+1),(nm y==nm x)=false:=fun y hy=>by
  rw[hd] at h3;have:=a7 h3 y hy;rw[hj] at this
  cases hq:nm y==nm x with
  | false=>rfl
  | true=>rw[beq_iff_eq.1 hq,bg] at this;cases this
 have e:∀l:List α,(∀y∈l,(nm y==nm x)=false)→(l.map fun y=>if nm y==nm x then x else y)=l:=fun l hl=>by
  conv=>rhs;rw[←List.map_id l]
  exact List.map_congr_left fun y hy=>by rw[hl y hy];rfl
 have h9:∀f:α→α,L.map f=(L.take (poG nm L (nm x))).map f++f L[poG nm L (nm x)] :: (L.drop (poG nm L (nm x)+1)).map f:=fun f=>by
  conv=>lhs;rw[hs]
  rw[wu,wv]
 rw[h9,e _ hA,e _ hB]
 simp[hj]
end


theorem iQ (l:List UInt8):(⟨l.toArray⟩:ByteArray).size=l.length:=by rw[←ab]
def uq (w:World) (o:Co×Int) (e:Ending) (w':World):Prop:=∃c:CoI,e=.returned (.tuple #[c.v,.int .i64 o.2])∧c.d=o.1∧c.sub w'∧Bl w w'
theorem j9 {w w':World} (e:Int) (hb:Bl w w'):uq w (co0,e) (.returned (.tuple #[.agg #[.slice none 0 0,.slice none 0 0,.int .i64 0],.int .i64 e])) w':=⟨⟨[],(none,0),[],(none,0),0⟩,rfl,rfl,⟨IsL.nil _ _,IsL.nil _ _⟩,hb⟩
end Go.Proofs.YtjgeiieiinmdnaaGreatDoor
