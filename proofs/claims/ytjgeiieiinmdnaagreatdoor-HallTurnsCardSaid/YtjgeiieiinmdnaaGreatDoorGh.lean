/- Tk, Pk: put together by mergetpl.py. -/
import Derived.Test.YtjgeiieiinmdnaaGreatDoorGa
open Go.Proofs.Tryz
namespace Go.Proofs.YtjgeiieiinmdnaaGreatDoor
section
variable {P:Program} {ops:Array Oper} {Q:Exit→Act→World→Prop} {md:Region.Mode} {S:World→Prop}

theorem sk {i:Nat} (d:Option Tmp) {xo:Nat} {xn:Array Bool} {a:Act} {w:World} (hd:(ops[i]?).map (fun o=>(o.dst,Region.wanted o (yielded ops a.tmps)))=some (d,false))
  (hs:Region.noSelect ops=true) (hf:Region.free md ops xn i=true) (hr:(Region.ready md ops xn).contains i=true)
  (hQ:∀c a' w',Q (.panic c) (a'.put d undef) w'→Q (.panic c) a' w') (hS:S w)
  (h:wpAnyH P md ops Q S xo (xn.setIfInBounds i true) (a.put d undef) w):wpAnyH P md ops Q S (xo+1) xn a w:=by
 obtain⟨o,ho,he⟩:=Option.map_eq_some_iff.1 hd;obtain⟨h1,h2⟩:=Prod.mk.inj he;subst h1;exact wpAnyH_take ho hs hf hr (hQ) (.inr ⟨h2,rfl⟩) hS h
theorem kt {i:Nat} (d:Option Tmp) {v:Value} {xo:Nat} {xn:Array Bool} {a:Act} {w:World} (hd:(ops[i]?).map (fun o=>(o.dst,Region.wanted o (yielded ops a.tmps)))=some (d,true))
  (hs:Region.noSelect ops=true) (hf:Region.free md ops xn i=true) (hr:(Region.ready md ops xn).contains i=true)
  (hQ:∀c a' w',Q (.panic c) (a'.put d v) w'→Q (.panic c) a' w') (hS:S w)
  (hy:∀o,ops[i]?=some o→∀w',S w'→(execOp a.eval o).run P w'=.ok (.value v) w')
  (h:wpAnyH P md ops Q S xo (xn.setIfInBounds i true) (a.put d v) w):wpAnyH P md ops Q S (xo+1) xn a w:=by
 obtain⟨o,ho,he⟩:=Option.map_eq_some_iff.1 hd;obtain⟨h1,h2⟩:=Prod.mk.inj he;subst h1;exact wpAnyH_take ho hs hf hr (hQ) (.inl ⟨h2,hy o ho⟩) hS h
def nH (_:List (Nat×Option Tmp)) (p:Prop):Prop:=p
theorem rS (L:List (Nat×Option Tmp)) {p:Prop} (h:nH L p):p:=h
theorem rE {p:Prop} (h:p):nH [] p:=h
theorem aH {i:Nat} {d:Option Tmp} {r:List (Nat×Option Tmp)} {v:Value} {xo:Nat} {xn:Array Bool} {a:Act} {w:World} (hd:(ops[i]?).map (fun o=>(o.dst,Region.wanted o (yielded ops a.tmps)))=some (d,true))
  (hc:(Region.noSelect ops&&(Region.free md ops xn i&&(Region.ready md ops xn).contains i))=true)
  (hQ:∀c a' w',Q (.panic c) (a'.put d v) w'→Q (.panic c) a' w') (hS:S w)
  (hy:∀o,ops[i]?=some o→∀w',S w'→(execOp a.eval o).run P w'=.ok (.value v) w')
  (h:nH r (wpAnyH P md ops Q S xo (xn.setIfInBounds i true) (a.put d v) w)):nH ((i,d) :: r) (wpAnyH P md ops Q S (xo+1) xn a w):=by
 simp only[Bool.and_eq_true] at hc;exact kt d hd hc.1 hc.2.1 hc.2.2 hQ hS hy h
theorem iO {i:Nat} {xo:Nat} {xn:Array Bool} {a:Act} {w:World} (hd:(ops[i]?).map (fun o=>Region.wanted o (yielded ops a.tmps))=some true)
  (hr:Region.ready md ops xn=[i])
  (h:∀o,ops[i]?=some o→∀K:Act→World→Prop,Shut (∀a w,S w→(S w→wpAnyH P md ops Q S xo (xn.setIfInBounds i true) a w)→K a w)→Oper.wp P o a w K Q):wpAnyH P md ops Q S (xo+1) xn a w:=by
 obtain⟨o,ho,h2⟩:=Option.map_eq_some_iff.1 hd;refine wpAnyH_ready hr (by simp) (AllReadyH.cons ho (fun K hK=>?_) AllReadyH.nil);rw[if_pos h2];exact h o ho K hK
theorem az {i:Nat} {rs:List Nat} {xo:Nat} {xn:Array Bool} {a:Act} {w:World} (hd:(ops[i]?).map (fun o=>Region.wanted o (yielded ops a.tmps))=some true)
  (h:∀o,ops[i]?=some o→∀K:Act→World→Prop,Shut (∀a w,S w→(S w→wpAnyH P md ops Q S xo (xn.setIfInBounds i true) a w)→K a w)→Oper.wp P o a w K Q)
  (hs:AllReadyH P md ops Q S xo xn a w rs):AllReadyH P md ops Q S xo xn a w (i :: rs):=by
 obtain⟨o,ho,h2⟩:=Option.map_eq_some_iff.1 hd;refine AllReadyH.cons ho (fun K hK=>?_) hs;rw[if_pos h2];exact h o ho K hK
end
section
variable {P:Program} {ops:Array Oper} {Q:Exit→Act→World→Prop} {md:Region.Mode} {S:World→Prop}

theorem ri {i:Nat} {d:Option Tmp} {r:List (Nat×Option Tmp)} {xo:Nat} {xn:Array Bool} {a:Act} {w:World} (hd:(ops[i]?).map (fun o=>(o.dst,Region.wanted o (yielded ops a.tmps)))=some (d,false))
  (hc:(Region.noSelect ops&&(Region.free md ops xn i&&(Region.ready md ops xn).contains i))=true)
  (hQ:∀c a' w',Q (.panic c) (a'.put d undef) w'→Q (.panic c) a' w') (hS:S w)
  (h:nH r (wpAnyH P md ops Q S xo (xn.setIfInBounds i true) (a.put d undef) w)):nH ((i,d) :: r) (wpAnyH P md ops Q S (xo+1) xn a w):=by
 simp only[Bool.and_eq_true] at hc;exact sk d hd hc.1 hc.2.1 hc.2.2 hQ hS h
/-! ### the same, what is alike each time left out -/
theorem aS {i:Nat} {d:Option Tmp} {r:List (Nat×Option Tmp)} {v:Value} {xo:Nat} {xn:Array Bool} {a a':Act} {w:World}
  (h:nH r (wpAnyH P md ops Q S xo (xn.setIfInBounds i true) a' w)) (hd:(ops[i]?).map (fun o=>(o.dst,Region.wanted o (yielded ops a.tmps)))=some (d,true):=by kernel_rfl)
  (hc:(Region.noSelect ops&&(Region.free md ops xn i&&(Region.ready md ops xn).contains i))=true:=by kernel_rfl)
  (hQ:∀c a' w',Q (.panic c) (a'.put d v) w'→Q (.panic c) a' w':=by exact fun _ _ _ h=>h) (hS:S w:=by assumption)
  (hy:∀o,ops[i]?=some o→∀w',S w'→(execOp a.eval o).run P w'=.ok (.value v) w':=by
   intro o ho w' xq;simp only[List.getElem?_toArray,List.getElem?_cons_succ,List.getElem?_cons_zero,Option.some.injEq] at ho;subst ho
   (try dsimp only at xq)
   go_simp
   try with_reducible rfl)
  (hp:a.put d v=a':=by
   simp only[Act.put,List.setIfInBounds_toArray,List.set_cons_zero,List.set_cons_succ]
   try rfl):nH ((i,d) :: r) (wpAnyH P md ops Q S (xo+1) xn a w):=by
 subst hp;exact aH hd hc hQ hS hy h
theorem aF {i:Nat} {d:Option Tmp} {r:List (Nat×Option Tmp)} {xo:Nat} {xn:Array Bool} {a a':Act} {w:World}
  (h:nH r (wpAnyH P md ops Q S xo (xn.setIfInBounds i true) a' w)) (hd:(ops[i]?).map (fun o=>(o.dst,Region.wanted o (yielded ops a.tmps)))=some (d,false):=by kernel_rfl)
  (hc:(Region.noSelect ops&&(Region.free md ops xn i&&(Region.ready md ops xn).contains i))=true:=by kernel_rfl)
  (hQ:∀c a' w',Q (.panic c) (a'.put d undef) w'→Q (.panic c) a' w':=by exact fun _ _ _ h=>h) (hS:S w:=by assumption)
  (hp:a.put d undef=a':=by
   simp only[Act.put,List.setIfInBounds_toArray,List.set_cons_zero,List.set_cons_succ]
   try rfl):nH ((i,d) :: r) (wpAnyH P md ops Q S (xo+1) xn a w):=by
 subst hp;exact ri hd hc hQ hS h
theorem aC {i:Nat} {o:Oper} {xo:Nat} {xn:Array Bool} {a:Act} {w:World}
  (h:∀K:Act→World→Prop,Shut (∀a w,S w→(S w→wpAnyH P md ops Q S xo (xn.setIfInBounds i true) a w)→K a w)→Oper.wp P o a w K Q)
  (hd:(ops[i]?).map (fun o=>Region.wanted o (yielded ops a.tmps))=some true:=by kernel_rfl) (hr:Region.ready md ops xn=[i]:=by kernel_rfl)
  (ho:ops[i]?=some o:=by
   simp only[List.getElem?_toArray,List.getElem?_cons_succ,List.getElem?_cons_zero]
   rfl):wpAnyH P md ops Q S (xo+1) xn a w:=iO hd hr fun o' xp K hK=>by
 rw[ho] at xp
 cases xp
 exact h K hK
theorem aD {xo:Nat} {xn:Array Bool} {a:Act} {w:World} (h:Q .normal a w) (hd:Region.ready md ops xn=[]:=by kernel_rfl):wpAnyH P md ops Q S xo xn a w:=wpAnyH_done hd h _
end
end Go.Proofs.YtjgeiieiinmdnaaGreatDoor
