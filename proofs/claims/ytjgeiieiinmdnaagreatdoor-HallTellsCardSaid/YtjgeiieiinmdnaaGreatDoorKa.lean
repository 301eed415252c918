/- JdO, JdP: put together by mergetpl.py. -/
import Derived.Test.YtjgeiieiinmdnaaGreatDoorGa
import Derived.Test.YtjgeiieiinmdnaaGreatDoorGc
import Derived.Lib.MapLaws
import Derived.Lib.TrimAscii
open Go.Proofs.Tryz
open Bool renaming and_eq_true→wq,or_eq_true→wu
open List renaming length_drop→ws,cons_append→wt,length_eq_zero_iff→wv,takeWhile_cons_of_pos→ww,dropWhile_cons_of_pos→wy
namespace Go.Proofs.YtjgeiieiinmdnaaGreatDoor
theorem gu:∀l:List UInt8,Op.bytesLess l l=false
 | []=>rfl
 | a :: l=>by
  show (decide (a<a)||(a==a&&Op.bytesLess l l))=false
  rw[gu l]
  simp
theorem a8:∀a b:List UInt8,(Op.bytesLess a b=true∧Op.bytesLess b a=false∧a≠b)∨(Op.bytesLess a b=false∧Op.bytesLess b a=true∧a≠b)∨(Op.bytesLess a b=false∧Op.bytesLess b a=false∧a=b)
 | [],[]=>.inr (.inr ⟨rfl,rfl,rfl⟩)
 | [],_ :: _=>.inl ⟨rfl,rfl,by simp⟩
 | _ :: _,[]=>.inr (.inl ⟨rfl,rfl,by simp⟩)
 | x :: a,y :: b=>by
  show (((decide (x<y)||(x==y&&Op.bytesLess a b))=true∧(decide (y<x)||(y==x&&Op.bytesLess b a))=false∧_)∨((decide (x<y)||(x==y&&Op.bytesLess a b))=false∧(decide (y<x)||(y==x&&Op.bytesLess b a))=true∧_)∨((decide (x<y)||(x==y&&Op.bytesLess a b))=false∧(decide (y<x)||(y==x&&Op.bytesLess b a))=false∧_))
  rcases Nat.lt_trichotomy x.toNat y.toNat with h | h | h
  ·have h1:x<y:=UInt8.lt_iff_toNat_lt.2 h
   have h2:¬ y<x:=fun e=>by have:=UInt8.lt_iff_toNat_lt.1 e;omega
   have h3:x≠y:=fun e=>by subst e;omega
   exact .inl ⟨by simp[h1],by simp[h2,Ne.symm h3],by simp[h3]⟩
  ·have h3:x=y:=UInt8.toNat_inj.1 h
   subst h3
   have h2:¬ x<x:=fun e=>by have:=UInt8.lt_iff_toNat_lt.1 e;omega
   rcases a8 a b with ⟨e1,e2,e3⟩ | ⟨e1,e2,e3⟩ | ⟨e1,e2,e3⟩
   ·exact .inl ⟨by simp[h2,e1],by simp[h2,e2],by simp[e3]⟩
   ·exact .inr (.inl ⟨by simp[h2,e1],by simp[h2,e2],by simp[e3]⟩)
   ·exact .inr (.inr ⟨by simp[h2,e1],by simp[h2,e2],by simp[e3]⟩)
  ·have h1:y<x:=UInt8.lt_iff_toNat_lt.2 h
   have h2:¬ x<y:=fun e=>by have:=UInt8.lt_iff_toNat_lt.1 e;omega
   have h3:x≠y:=fun e=>by subst e;omega
   exact .inr (.inl ⟨by simp[h2,h3],by simp[h1],by simp[h3]⟩)
theorem bq:∀a b c:List UInt8,Op.bytesLess a b=true→Op.bytesLess b c=true→Op.bytesLess a c=true
 | _,[],_,h,_=>by
  rename_i a c
  cases a <;> simp[Op.bytesLess] at h
 | _,_ :: _,[],_,h=>by simp[Op.bytesLess] at h
 | [],_ :: _,_ :: _,_,_=>rfl
 | x :: a,y :: b,z :: c,h1,h2=>by
  have e1:(decide (x<y)||(x==y&&Op.bytesLess a b))=true:=h1
  have e2:(decide (y<z)||(y==z&&Op.bytesLess b c))=true:=h2
  show (decide (x<z)||(x==z&&Op.bytesLess a c))=true
  simp only[wu,decide_eq_true_eq,wq,beq_iff_eq] at e1 e2 ⊢
  rcases e1 with e1 | ⟨rfl,e1⟩ <;> rcases e2 with e2 | ⟨rfl,e2⟩
  ·exact .inl (UInt8.lt_iff_toNat_lt.2 (by have:=UInt8.lt_iff_toNat_lt.1 e1;have:=UInt8.lt_iff_toNat_lt.1 e2;omega))
  ·exact .inl e1
  ·exact .inl e2
  ·exact .inr ⟨rfl,bq a b c e1 e2⟩
abbrev Adr:=List UInt8×List UInt8×List UInt8
def lsP (a b:Adr):Bool:=Op.bytesLess a.2.1 b.2.1||(!Op.bytesLess b.2.1 a.2.1&&(Op.bytesLess a.1 b.1||(!Op.bytesLess b.1 a.1&&Op.bytesLess a.2.2 b.2.2)))
theorem vh (a:Adr):lsP a a=false:=by simp[lsP,gu]
theorem uU (a b:Adr):(lsP a b&&lsP b a)=false∧(lsP a b||lsP b a)=!decide (a=b):=by
 obtain⟨al,ad,ar⟩:=a;obtain⟨bl,bd,br⟩:=b;unfold lsP
 rcases a8 ad bd with ⟨d1,d2,d3⟩ | ⟨d1,d2,d3⟩ | ⟨d1,d2,rfl⟩
 ·simp[d1,d2,d3]
 ·simp[d1,d2,d3]
 ·rcases a8 al bl with ⟨l1,l2,l3⟩ | ⟨l1,l2,l3⟩ | ⟨l1,l2,rfl⟩
  ·simp[d1,l1,l2,l3]
  ·simp[d1,l1,l2,l3]
  ·rcases a8 ar br with ⟨r1,r2,r3⟩ | ⟨r1,r2,r3⟩ | ⟨r1,r2,rfl⟩ <;> simp_all
theorem qp (a b c:Adr) (h1:lsP a b=true) (h2:lsP b c=true):lsP a c=true:=by
 obtain⟨al,ad,ar⟩:=a;obtain⟨bl,bd,br⟩:=b;obtain⟨cl,cd,cr⟩:=c;unfold lsP at *;simp only[wu,wq,Bool.not_eq_true'] at *
 rcases h1 with h1 | ⟨h1,h1'⟩ <;> rcases h2 with h2 | ⟨h2,h2'⟩
 ·exact .inl (bq _ _ _ h1 h2)
 ·rcases a8 bd cd with ⟨d1,d2,d3⟩ | ⟨d1,d2,d3⟩ | ⟨d1,d2,d3⟩
  ·exact .inl (bq _ _ _ h1 d1)
  ·rw[d2] at h2;cases h2
  ·subst d3;exact .inl h1
 ·rcases a8 ad bd with ⟨d1,d2,d3⟩ | ⟨d1,d2,d3⟩ | ⟨d1,d2,d3⟩
  ·exact .inl (bq _ _ _ d1 h2)
  ·rw[d2] at h1;cases h1
  ·subst d3;exact .inl h2
 ·rcases a8 ad bd with ⟨d1,d2,d3⟩ | ⟨d1,d2,d3⟩ | ⟨d1,d2,d3⟩
  ·rcases a8 bd cd with ⟨f1,f2,f3⟩ | ⟨f1,f2,f3⟩ | ⟨f1,f2,f3⟩
   ·exact .inl (bq _ _ _ d1 f1)
   ·rw[f2] at h2;cases h2
   ·subst f3;exact .inl d1
  ·rw[d2] at h1;cases h1
  ·subst d3
   rcases a8 ad cd with ⟨f1,f2,f3⟩ | ⟨f1,f2,f3⟩ | ⟨f1,f2,f3⟩
   ·exact .inl f1
   ·rw[f2] at h2;cases h2
   ·refine .inr ⟨f2,?_⟩
    rcases h1' with h1' | ⟨h1',h1''⟩ <;> rcases h2' with h2' | ⟨h2',h2''⟩
    ·exact .inl (bq _ _ _ h1' h2')
    ·rcases a8 bl cl with ⟨g1,g2,g3⟩ | ⟨g1,g2,g3⟩ | ⟨g1,g2,g3⟩
     ·exact .inl (bq _ _ _ h1' g1)
     ·rw[g2] at h2';cases h2'
     ·subst g3;exact .inl h1'
    ·rcases a8 al bl with ⟨g1,g2,g3⟩ | ⟨g1,g2,g3⟩ | ⟨g1,g2,g3⟩
     ·exact .inl (bq _ _ _ g1 h2')
     ·rw[g2] at h1';cases h1'
     ·subst g3;exact .inl h2'
    ·rcases a8 al bl with ⟨g1,g2,g3⟩ | ⟨g1,g2,g3⟩ | ⟨g1,g2,g3⟩
     ·rcases a8 bl cl with ⟨k1,k2,k3⟩ | ⟨k1,k2,k3⟩ | ⟨k1,k2,k3⟩
      ·exact .inl (bq _ _ _ g1 k1)
      ·rw[k2] at h2';cases h2'
      ·subst k3;exact .inl g1
     ·rw[g2] at h1';cases h1'
     ·subst g3
      rcases a8 al cl with ⟨k1,k2,k3⟩ | ⟨k1,k2,k3⟩ | ⟨k1,k2,k3⟩
      ·exact .inl k1
      ·rw[k2] at h2';cases h2'
      ·exact .inr ⟨k2,bq _ _ _ h1'' h2''⟩
open Go.Lib

/-! ### texts -/
def dt (n:Nat):Bool:=if n<32 then (n==9||n==10||n==13) else (decide (n≤1114111)&&(decide (n<55296)||decide (57343<n))&&!(n==65534)&&!(n==65535))
def txG:Nat→List UInt8→Bool
 | 0,_=>true
 | n+1,l=>if l=[] then true else if ((decodeL l).1=65533∧(decodeL l).2=1)∨dt (decodeL l).1=false then false else txG n (l.drop (decodeL l).2)
def txP (l:List UInt8):Bool:=txG l.length l
theorem gz:∀(n m:Nat) (l:List UInt8),l.length≤n→l.length≤m→txG n l=txG m l
 | 0,m,l,h,_=>by
  have:l=[]:=wv.1 (by omega)
  subst this
  cases m <;> simp[txG]
 | n+1,0,l,_,h=>by
  have:l=[]:=wv.1 (by omega)
  subst this
  simp[txG]
 | n+1,m+1,l,h1,h2=>by
  unfold txG
  split
  ·rfl
  ·split
   ·rfl
   ·have:=decodeL_width l
    exact gz n m _ (by rw[ws];omega) (by rw[ws];omega)
theorem nP:txP []=true:=rfl
theorem lK (l:List UInt8) (h:l≠[]):txP l=if ((decodeL l).1=65533∧(decodeL l).2=1)∨dt (decodeL l).1=false then false else txP (l.drop (decodeL l).2):=by
 obtain⟨n,hn⟩:∃n,l.length=n+1:=⟨l.length-1,by have:=List.length_pos_iff.2 h;omega⟩;have hw:=decodeL_width l;unfold txP;rw[hn]
 conv=>lhs;unfold txG
 rw[if_neg h]
 split
 ·rfl
 ·exact gz _ _ _ (by rw[ws];omega) (Nat.le_refl _)

/-! ### parts -/
def jdA (c:UInt8):Bool:=(decide (97≤c.toNat)&&decide (c.toNat≤122))||(decide (48≤c.toNat)&&decide (c.toNat≤57))
def jdD (c:UInt8):Bool:=jdA c||c==46||c==45
def jdL (c:UInt8):Bool:=jdD c||c==95
def bo:List UInt8→Bool
 | a :: b :: l=>(a==46&&b==46)||bo (b :: l)
 | _=>false
def iX (l:List UInt8):Bool:=!l.isEmpty&&decide (l.length≤64)&&l.all jdL
def eQ (l:List UInt8):Bool:=!l.isEmpty&&decide (l.length≤64)&&(l.all jdD&&(jdA (l.headD 0)&&jdA (l.getLastD 0))&&!bo l)
def fK (l:List UInt8):Bool:=!l.isEmpty&&decide (l.length≤64)&&(txP l&&l.all fun c=>decide (32≤c.toNat))
def cQ (l d r:List UInt8):Bool:=(l.isEmpty||iX l)&&(r.isEmpty||fK r)&&eQ d
def dp (l d r:List UInt8):List UInt8:=(if l.isEmpty then d else l++64 :: d)++(if r.isEmpty then [] else 47 :: r)
def bh (s:List UInt8):List UInt8:=fF (cA 47 s)
def aU (s:List UInt8):List UInt8:=if (bh s).contains 64 then cA 64 (bh s) else []
def aZ (s:List UInt8):List UInt8:=if (bh s).contains 64 then cR 64 (bh s) else bh s
def aL (s:List UInt8):List UInt8:=cR 47 s
def bv (s:List UInt8):Bool:=!((bh s).contains 64&&(aU s).isEmpty)&&!(s.contains 47&&(aL s).isEmpty)&&cQ (aU s) (aZ s) (aL s)

theorem oS {q:UInt8→Bool} (h:(List.range 256).all (fun n=>q (UInt8.ofNat n))=true) (c:UInt8):q c=true:=by
 have:=List.all_eq_true.1 h c.toNat (List.mem_range.2 (UInt8.toNat_lt c))
 rwa [UInt8.ofNat_toNat] at this
theorem uv (c:UInt8) (h:jdD c=true):jdL c=true:=by unfold jdL;rw[h];rfl
theorem us (c:UInt8) (l r:List UInt8) (h:c ∉ l):cA c (l++c :: r)=l∧cR c (l++c :: r)=r:=by
 induction l with
 | nil=>simp[cA,cR]
 | cons a l ih=>
  have ha:a≠c:=fun e=>h (by simp[e])
  have:=ih (fun e=>h (by simp[e]));simp only[cA,cR] at this ⊢
  constructor
  ·rw[wt,ww (by simpa using ha),this.1]
  ·rw[wt,wy (by simpa using ha),this.2]
theorem ke (c:UInt8) (l:List UInt8) (h:c ∉ l):cA c l=l∧cR c l=[]:=by
 induction l with
 | nil=>simp[cA,cR]
 | cons a l ih=>
  have ha:a≠c:=fun e=>h (by simp[e])
  have:=ih (fun e=>h (by simp[e]));simp only[cA,cR] at this ⊢
  constructor
  ·rw[ww (by simpa using ha),this.1]
  ·rw[wy (by simpa using ha),this.2]
theorem so (c:UInt8) (l:List UInt8) (h:c∈l):l=cA c l++c :: cR c l∧c ∉ cA c l:=by
 induction l with
 | nil=>simp at h
 | cons a l ih=>
  by_cases ha:a=c
  ·subst ha
   simp[cA,cR]
  ·have hm:c∈l:=by
    cases h with
    | head=>exact absurd rfl ha
    | tail _ h=>exact h
   obtain⟨h1,h2⟩:=ih hm;have e1:cA c (a :: l)=a :: cA c l:=(by simp[cA,ha]);have e2:cR c (a :: l)=cR c l:=(by simp[cR,ha]);rw[e1,e2];refine⟨by rw[wt,←h1],fun hc=>?_⟩
   cases hc with
   | head=>exact ha rfl
   | tail _ h=>exact h2 h
theorem dx {s:List UInt8} (h:bv s=true):cQ (aU s) (aZ s) (aL s)=true:=by
 unfold bv at h;simp only[wq] at h;exact h.2
end Go.Proofs.YtjgeiieiinmdnaaGreatDoor
