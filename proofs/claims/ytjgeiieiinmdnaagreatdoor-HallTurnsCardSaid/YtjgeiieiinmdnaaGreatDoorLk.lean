/- HsE, HtB, HaR: put together by mergetpl.py. -/
import Derived.Test.YtjgeiieiinmdnaaGreatDoorLd
open Go.Proofs.Tryz
open Bool renaming eq_iff_iff→wh,and_eq_true→wo
open List renaming take_succ_eq_append_getElem→wq
namespace Go.Proofs.YtjgeiieiinmdnaaGreatDoor
open Go.RowKit Go.Lib

instance atDec:DecidableEq At:=by refine @instDecidableEqProd _ _ ?_ (@instDecidableEqProd _ _ ?_ ?_) <;> infer_instance
instance ndDec:DecidableEq Nd:=by refine @instDecidableEqProd _ _ ?_ (@instDecidableEqProd _ _ ?_ (@instDecidableEqProd _ _ ?_ (@instDecidableEqProd _ _ ?_ (@instDecidableEqProd _ _ ?_ ?_)))) <;> infer_instance
instance reDec:DecidableEq Re:=by refine @instDecidableEqProd _ _ ?_ (@instDecidableEqProd _ _ ?_ (@instDecidableEqProd _ _ ?_ (@instDecidableEqProd _ _ ?_ (@instDecidableEqProd _ _ ?_ ?_)))) <;> infer_instance
instance acDec:DecidableEq Ac:=by refine @instDecidableEqProd _ _ ?_ (@instDecidableEqProd _ _ ?_ ?_) <;> infer_instance
theorem jA {α:Type} {A B:List α} {k:Nat} (hA:k<A.length) (hB:k<B.length) (h:A.take k=B.take k) (he:A[k]=B[k]):A.take (k+1)=B.take (k+1):=by
 rw[wq hA,wq hB,h,he]
theorem nS {α:Type} {A B:List α} {k:Nat} (hA:k<A.length) (hB:k<B.length) (he:A[k]≠B[k]):A≠B:=fun h=>by
 subst h;exact he rfl

theorem vm (x y:Nd):decide (x=y)=((x.1==y.1)&&(decide (x.2.1=y.2.1)&&(decide (x.2.2.1=y.2.2.1)&&(decide (x.2.2.2.2.1=y.2.2.2.2.1)&&((x.2.2.2.2.2==y.2.2.2.2.2)&&decide (x.2.2.2.1=y.2.2.2.1)))))):=by
 obtain⟨k,s,n,l,t,m⟩:=x;obtain⟨k',s',n',l',t',m'⟩:=y;rw[wh];simp only[decide_eq_true_eq,wo,beq_iff_eq,Prod.mk.injEq]
 constructor
 ·rintro ⟨h1,h2,h3,h4,h5,h6⟩
  exact⟨h1,h2,h3,h5,h6,h4⟩
 ·rintro ⟨h1,h2,h3,h4,h5,h6⟩
  exact⟨h1,h2,h3,h6,h4,h5⟩

def EqA (a:AcI):Prop:=a.it.length≤10000∧∀p∈a.it,p.1.g.length≤10000
def EqT (t:TrI):Prop:=t.1.length≤100000∧∀p∈t.1,(ndA p).length≤100000
def EqR (r:RsI):Prop:=r.ld.length≤100000∧r.st.length≤100000∧∀t∈r.ld,EqT t
def EqC (c:CoI):Prop:=c.A.length≤100000∧c.R.length≤100000∧(∀a∈c.A,EqA a)∧∀r∈c.R,EqR r
theorem vl (x y:Ac):decide (x=y)=(decide (x.1=y.1)&&(decide (x.2.1=y.2.1)&&x.2.2==y.2.2)):=by
 obtain⟨a,b,c⟩:=x;obtain⟨a',b',c'⟩:=y;rw[wh];simp only[decide_eq_true_eq,wo,beq_iff_eq,Prod.mk.injEq]
theorem vq (x y:Re):decide (x=y)=(decide (x.j=y.j)&&((x.on==y.on)&&((x.pr==y.pr)&&((x.ask==y.ask)&&(decide (x.st=y.st)&&decide (x.ld=y.ld)))))):=by
 obtain⟨a,b,c,d,e,f⟩:=x;obtain⟨a',b',c',d',e',f'⟩:=y;rw[wh];simp only[decide_eq_true_eq,wo,beq_iff_eq,Prod.mk.injEq]
 constructor
 ·rintro ⟨h1,h2,h3,h4,h5,h6⟩
  exact⟨h1,h2,h3,h5,h6,h4⟩
 ·rintro ⟨h1,h2,h3,h4,h5,h6⟩
  exact⟨h1,h2,h3,h6,h4,h5⟩
end Go.Proofs.YtjgeiieiinmdnaaGreatDoor
