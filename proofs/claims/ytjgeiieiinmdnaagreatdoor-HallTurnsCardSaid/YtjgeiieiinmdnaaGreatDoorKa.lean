/- JdO, JdP: put together by mergetpl.py. -/
import Derived.Lib.MapLaws
import Derived.Lib.TrimAscii
import Derived.Test.YtjgeiieiinmdnaaGreatDoorGc
open Go.Proofs.Tryz
open Bool renaming and_eq_true→wh,or_eq_true→wq,not_eq_true'→wu,not_true→ww,false_eq_true→wA
open List renaming all_eq_true→wo,length_drop→ws,cons_append→wt,length_eq_zero_iff→wv,takeWhile_cons_of_pos→wy,dropWhile_cons_of_pos→wz
namespace Go.Proofs.YtjgeiieiinmdnaaGreatDoor
theorem ik:∀l:List UInt8,Op.bytesLess l l=false
 | []=>rfl
 | a :: l=>by
  show (decide (a<a)||(a==a&&Op.bytesLess l l))=false
  rw[ik l]
  simp
theorem bc:∀a b:List UInt8,(Op.bytesLess a b=true∧Op.bytesLess b a=false∧a≠b)∨(Op.bytesLess a b=false∧Op.bytesLess b a=true∧a≠b)∨(Op.bytesLess a b=false∧Op.bytesLess b a=false∧a=b)
 | [],[]=>.inr (.inr ⟨rfl,rfl,rfl⟩)
 | [],_ :: _=>.inl ⟨rfl,rfl,by simp⟩
 | _ :: _,[]=>.inr (.inl ⟨rfl,rfl,by simp⟩)
 | x :: a,y :: b=>by
  show (((decide (x<y)||(x==y&&Op.bytesLess a b))=true∧(decide (y<x)||(y==x&&Op.bytesLess b a))=false∧_)∨((decide (x<y)||(x==y&&Op.bytesLess a b))=false∧(decide (y<x)||(y==x&&Op.bytesLess b a))=true∧_)∨((decide (x<y)||(x==y&&Op.bytesLess a b))=false∧(decide (y<x)||(y==x&&Op.bytesLess b a))=false∧_))
  rcases Nat.lt_trichotomy x.toNat y.toNat with h | h | h
  ·have h1:x<y:=UInt8.lt_iff_toNat_lt.2 h
   have h2:¬ y<x:=fun e=>by have:=UInt8.lt_iff_toNat_lt.1 e;omega
   have h3:x≠y:=fun e=>by subst e;omega
   exact .inl ⟨by simp[h1],by simp[h2,Ne.symm h3],by simp[h3]⟩
  ·have h3:x=y:=UInt8.toNat_inj.1 h
   subst h3
   have h2:¬ x<x:=fun e=>by have:=UInt8.lt_iff_toNat_lt.1 e;omega
   rcases bc a b with ⟨e1,e2,e3⟩ | ⟨e1,e2,e3⟩ | ⟨e1,e2,e3⟩
   ·exact .inl ⟨by simp[h2,e1],by simp[h2,e2],by simp[e3]⟩
   ·exact .inr (.inl ⟨by simp[h2,e1],by simp[h2,e2],by simp[e3]⟩)
   ·exact .inr (.inr ⟨by simp[h2,e1],by simp[h2,e2],by simp[e3]⟩)
  ·have h1:y<x:=UInt8.lt_iff_toNat_lt.2 h
   have h2:¬ x<y:=fun e=>by have:=UInt8.lt_iff_toNat_lt.1 e;omega
   have h3:x≠y:=fun e=>by subst e;omega
   exact .inr (.inl ⟨by simp[h2,h3],by simp[h1],by simp[h3]⟩)
theorem bz:∀a b c:List UInt8,Op.bytesLess a b=true→Op.bytesLess b c=true→Op.bytesLess a c=true
 | _,[],_,h,_=>by
  rename_i a c
  cases a <;> simp[Op.bytesLess] at h
 | _,_ :: _,[],_,h=>by simp[Op.bytesLess] at h
 | [],_ :: _,_ :: _,_,_=>rfl
 | x :: a,y :: b,z :: c,h1,h2=>by
  have e1:(decide (x<y)||(x==y&&Op.bytesLess a b))=true:=h1
  have e2:(decide (y<z)||(y==z&&Op.bytesLess b c))=true:=h2
  show (decide (x<z)||(x==z&&Op.bytesLess a c))=true
  simp only[wq,decide_eq_true_eq,wh,beq_iff_eq] at e1 e2 ⊢
  rcases e1 with e1 | ⟨rfl,e1⟩ <;> rcases e2 with e2 | ⟨rfl,e2⟩
  ·exact .inl (UInt8.lt_iff_toNat_lt.2 (by have:=UInt8.lt_iff_toNat_lt.1 e1;have:=UInt8.lt_iff_toNat_lt.1 e2;omega))
  ·exact .inl e1
  ·exact .inl e2
  ·exact .inr ⟨rfl,bz a b c e1 e2⟩
abbrev Adr:=List UInt8×List UInt8×List UInt8
def lsP (a b:Adr):Bool:=Op.bytesLess a.2.1 b.2.1||(!Op.bytesLess b.2.1 a.2.1&&(Op.bytesLess a.1 b.1||(!Op.bytesLess b.1 a.1&&Op.bytesLess a.2.2 b.2.2)))
theorem uX (a:Adr):lsP a a=false:=by simp[lsP,ik]
theorem ut (a b:Adr):(lsP a b&&lsP b a)=false∧(lsP a b||lsP b a)=!decide (a=b):=by
 obtain⟨al,ad,ar⟩:=a;obtain⟨bl,bd,br⟩:=b;unfold lsP
 rcases bc ad bd with ⟨d1,d2,d3⟩ | ⟨d1,d2,d3⟩ | ⟨d1,d2,rfl⟩
 ·simp[d1,d2,d3]
 ·simp[d1,d2,d3]
 ·rcases bc al bl with ⟨l1,l2,l3⟩ | ⟨l1,l2,l3⟩ | ⟨l1,l2,rfl⟩
  ·simp[d1,l1,l2,l3]
  ·simp[d1,l1,l2,l3]
  ·rcases bc ar br with ⟨r1,r2,r3⟩ | ⟨r1,r2,r3⟩ | ⟨r1,r2,rfl⟩ <;> simp_all
theorem ql (a b c:Adr) (h1:lsP a b=true) (h2:lsP b c=true):lsP a c=true:=by
 obtain⟨al,ad,ar⟩:=a;obtain⟨bl,bd,br⟩:=b;obtain⟨cl,cd,cr⟩:=c;unfold lsP at *;simp only[wq,wh,wu] at *
 rcases h1 with h1 | ⟨h1,xo⟩ <;> rcases h2 with h2 | ⟨h2,xn⟩
 ·exact .inl (bz _ _ _ h1 h2)
 ·rcases bc bd cd with ⟨d1,d2,d3⟩ | ⟨d1,d2,d3⟩ | ⟨d1,d2,d3⟩
  ·exact .inl (bz _ _ _ h1 d1)
  ·rw[d2] at h2;cases h2
  ·subst d3;exact .inl h1
 ·rcases bc ad bd with ⟨d1,d2,d3⟩ | ⟨d1,d2,d3⟩ | ⟨d1,d2,d3⟩
  ·exact .inl (bz _ _ _ d1 h2)
  ·rw[d2] at h1;cases h1
  ·subst d3;exact .inl h2
 ·rcases bc ad bd with ⟨d1,d2,d3⟩ | ⟨d1,d2,d3⟩ | ⟨d1,d2,d3⟩
  ·rcases bc bd cd with ⟨f1,f2,f3⟩ | ⟨f1,f2,f3⟩ | ⟨f1,f2,f3⟩
   ·exact .inl (bz _ _ _ d1 f1)
   ·rw[f2] at h2;cases h2
   ·subst f3;exact .inl d1
  ·rw[d2] at h1;cases h1
  ·subst d3
   rcases bc ad cd with ⟨f1,f2,f3⟩ | ⟨f1,f2,f3⟩ | ⟨f1,f2,f3⟩
   ·exact .inl f1
   ·rw[f2] at h2;cases h2
   ·refine .inr ⟨f2,?_⟩
    rcases xo with xo | ⟨xo,xp⟩ <;> rcases xn with xn | ⟨xn,xq⟩
    ·exact .inl (bz _ _ _ xo xn)
    ·rcases bc bl cl with ⟨g1,g2,g3⟩ | ⟨g1,g2,g3⟩ | ⟨g1,g2,g3⟩
     ·exact .inl (bz _ _ _ xo g1)
     ·rw[g2] at xn;cases xn
     ·subst g3;exact .inl xo
    ·rcases bc al bl with ⟨g1,g2,g3⟩ | ⟨g1,g2,g3⟩ | ⟨g1,g2,g3⟩
     ·exact .inl (bz _ _ _ g1 xn)
     ·rw[g2] at xo;cases xo
     ·subst g3;exact .inl xn
    ·rcases bc al bl with ⟨g1,g2,g3⟩ | ⟨g1,g2,g3⟩ | ⟨g1,g2,g3⟩
     ·rcases bc bl cl with ⟨k1,k2,k3⟩ | ⟨k1,k2,k3⟩ | ⟨k1,k2,k3⟩
      ·exact .inl (bz _ _ _ g1 k1)
      ·rw[k2] at xn;cases xn
      ·subst k3;exact .inl g1
     ·rw[g2] at xo;cases xo
     ·subst g3
      rcases bc al cl with ⟨k1,k2,k3⟩ | ⟨k1,k2,k3⟩ | ⟨k1,k2,k3⟩
      ·exact .inl k1
      ·rw[k2] at xn;cases xn
      ·exact .inr ⟨k2,bz _ _ _ xp xq⟩
open Go.Lib

/-! ### texts -/
def dI (n:Nat):Bool:=if n<32 then (n==9||n==10||n==13) else (decide (n≤1114111)&&(decide (n<55296)||decide (57343<n))&&!(n==65534)&&!(n==65535))
def txG:Nat→List UInt8→Bool
 | 0,_=>true
 | n+1,l=>if l=[] then true else if ((decodeL l).1=65533∧(decodeL l).2=1)∨dI (decodeL l).1=false then false else txG n (l.drop (decodeL l).2)
def txP (l:List UInt8):Bool:=txG l.length l
theorem gZ:∀(n m:Nat) (l:List UInt8),l.length≤n→l.length≤m→txG n l=txG m l
 | 0,m,l,h,_=>by
  have:l=[]:=wv.1 (by omega)
  subst this
  cases m <;> simp[txG]
 | n+1,0,l,_,h=>by
  have:l=[]:=wv.1 (by omega)
  subst this
  simp[txG]
 | n+1,m+1,l,h1,h2=>by
  unfold txG
  split
  ·rfl
  ·split
   ·rfl
   ·have:=decodeL_width l
    exact gZ n m _ (by rw[ws];omega) (by rw[ws];omega)
theorem lW:txP []=true:=rfl
theorem jz (l:List UInt8) (h:l≠[]):txP l=if ((decodeL l).1=65533∧(decodeL l).2=1)∨dI (decodeL l).1=false then false else txP (l.drop (decodeL l).2):=by
 obtain⟨n,hn⟩:∃n,l.length=n+1:=⟨l.length-1,by have:=List.length_pos_iff.2 h;omega⟩;have hw:=decodeL_width l;unfold txP;rw[hn]
 conv=>lhs;unfold txG
 rw[if_neg h]
 split
 ·rfl
 ·exact gZ _ _ _ (by rw[ws];omega) (Nat.le_refl _)

/-! ### parts -/
def jdA (c:UInt8):Bool:=(decide (97≤c.toNat)&&decide (c.toNat≤122))||(decide (48≤c.toNat)&&decide (c.toNat≤57))
def jdD (c:UInt8):Bool:=jdA c||c==46||c==45
def jdL (c:UInt8):Bool:=jdD c||c==95
def bp:List UInt8→Bool
 | a :: b :: l=>(a==46&&b==46)||bp (b :: l)
 | _=>false
def gX (l:List UInt8):Bool:=!l.isEmpty&&decide (l.length≤64)&&l.all jdL
def eZ (l:List UInt8):Bool:=!l.isEmpty&&decide (l.length≤64)&&(l.all jdD&&(jdA (l.headD 0)&&jdA (l.getLastD 0))&&!bp l)
def dM (l:List UInt8):Bool:=!l.isEmpty&&decide (l.length≤64)&&(txP l&&l.all fun c=>decide (32≤c.toNat))
def bB (l d r:List UInt8):Bool:=(l.isEmpty||gX l)&&(r.isEmpty||dM r)&&eZ d
def bC (l d r:List UInt8):List UInt8:=(if l.isEmpty then d else l++64 :: d)++(if r.isEmpty then [] else 47 :: r)
def bf (s:List UInt8):List UInt8:=d8 (cA 47 s)
def aO (s:List UInt8):List UInt8:=if (bf s).contains 64 then cA 64 (bf s) else []
def aZ (s:List UInt8):List UInt8:=if (bf s).contains 64 then cR 64 (bf s) else bf s
def aP (s:List UInt8):List UInt8:=cR 47 s
def cP (s:List UInt8):Bool:=!((bf s).contains 64&&(aO s).isEmpty)&&!(s.contains 47&&(aP s).isEmpty)&&bB (aO s) (aZ s) (aP s)

theorem mm {q:UInt8→Bool} (h:(List.range 256).all (fun n=>q (UInt8.ofNat n))=true) (c:UInt8):q c=true:=by
 have:=wo.1 h c.toNat (List.mem_range.2 (UInt8.toNat_lt c))
 rwa [UInt8.ofNat_toNat] at this
theorem pN (c:UInt8):(!jdL c||(loB c==c&&c != 64&&c != 47))=true:=mm (q:=fun c=>!jdL c||(loB c==c&&c != 64&&c != 47)) (by decide+kernel) c
theorem oJ (c:UInt8) (h:jdL c=true):loB c=c∧c≠64∧c≠47:=by
 have:=pN c;rw[h] at this;simp only[ww,Bool.false_or,wh,beq_iff_eq,bne_iff_ne,ne_eq] at this;exact⟨this.1.1,this.1.2,this.2⟩
theorem sh (c:UInt8) (h:jdD c=true):jdL c=true:=by unfold jdL;rw[h];rfl
theorem oT (c:UInt8) (l r:List UInt8) (h:c ∉ l):cA c (l++c :: r)=l∧cR c (l++c :: r)=r:=by
 induction l with
 | nil=>simp[cA,cR]
 | cons a l ih=>
  have ha:a≠c:=fun e=>h (by simp[e])
  have:=ih (fun e=>h (by simp[e]));simp only[cA,cR] at this ⊢
  constructor
  ·rw[wt,wy (by simpa using ha),this.1]
  ·rw[wt,wz (by simpa using ha),this.2]
theorem ir (c:UInt8) (l:List UInt8) (h:c ∉ l):cA c l=l∧cR c l=[]:=by
 induction l with
 | nil=>simp[cA,cR]
 | cons a l ih=>
  have ha:a≠c:=fun e=>h (by simp[e])
  have:=ih (fun e=>h (by simp[e]));simp only[cA,cR] at this ⊢
  constructor
  ·rw[wy (by simpa using ha),this.1]
  ·rw[wz (by simpa using ha),this.2]
theorem tg (c:UInt8) (l:List UInt8) (h:c∈l):l=cA c l++c :: cR c l∧c ∉ cA c l:=by
 induction l with
 | nil=>simp at h
 | cons a l ih=>
  by_cases ha:a=c
  ·subst ha
   simp[cA,cR]
  ·have hm:c∈l:=by
    cases h with
    | head=>exact absurd rfl ha
    | tail _ h=>exact h
   obtain⟨h1,h2⟩:=ih hm;have e1:cA c (a :: l)=a :: cA c l:=(by simp[cA,ha]);have e2:cR c (a :: l)=cR c l:=(by simp[cR,ha]);rw[e1,e2];refine⟨by rw[wt,←h1],fun hc=>?_⟩
   cases hc with
   | head=>exact ha rfl
   | tail _ h=>exact h2 h
theorem pB {l:List UInt8} (h:l.all jdL=true):d8 l=l∧(64:UInt8) ∉ l∧(47:UInt8) ∉ l:=by
 refine⟨?_,fun hc=>?_,fun hc=>?_⟩
 ·unfold d8
  conv=>rhs;rw[←List.map_id l]
  exact List.map_congr_left fun c hc=>(oJ c (wo.1 h c hc)).1
 ·exact(oJ _ (wo.1 h _ hc)).2.1 rfl
 ·exact(oJ _ (wo.1 h _ hc)).2.2 rfl
theorem pZ {d:List UInt8} (h:eZ d=true):d.all jdL=true∧d≠[]:=by
 unfold eZ at h;simp only[wh,wu,decide_eq_true_eq] at h;refine⟨wo.2 fun c hc=>sh c (wo.1 h.2.1.1 c hc),fun e=>?_⟩;rw[e] at h
 simp at h
theorem rx {l:List UInt8} (h:gX l=true):l.all jdL=true:=by
 unfold gX at h;simp only[wh] at h;exact h.2
theorem qN (a b:List UInt8):d8 (a++b)=d8 a++d8 b:=by simp[d8]
theorem oC {l d r:List UInt8} (h:bB l d r=true):l.all jdL=true∧d.all jdL=true∧d≠[]:=by
 unfold bB at h;simp only[wh,wq] at h;refine⟨?_,pZ h.2⟩
 cases h.1.1 with
 | inl e=>rw[List.isEmpty_iff.1 e];rfl
 | inr e=>exact rx e
theorem td {l d r:List UInt8} (h:bB l d r=true):cP (bC l d r)=true∧aO (bC l d r)=l∧aZ (bC l d r)=d∧aP (bC l d r)=r:=by
 obtain⟨hl,hd,hn⟩:=oC h;obtain⟨l1,l2,l3⟩:=pB hl;obtain⟨d1,d2,d3⟩:=pB hd
 have hA:cA 47 (bC l d r)=(if l.isEmpty then d else l++64 :: d)∧cR 47 (bC l d r)=r∧(bC l d r).contains 47=!r.isEmpty:=by
  have h3:(47:UInt8) ∉ (if l.isEmpty then d else l++64 :: d):=by
   split
   ·exact d3
   ·simp[l3,d3]
  unfold bC
  cases r with
  | nil=>
   have:=ir 47 _ h3;refine⟨by simpa using this.1,by simpa using this.2,?_⟩
   simpa using h3
  | cons a r=>
   have:=oT 47 (if l.isEmpty then d else l++64 :: d) (a :: r) h3;exact⟨by simpa using this.1,by simpa using this.2,by simp⟩
 have xr:bf (bC l d r)=(if l.isEmpty then d else l++64 :: d):=by
  unfold bf;rw[hA.1]
  split
  ·exact d1
  ·rw[qN,l1]
   show l++(loB 64 :: d8 d)=_
   rw[d1]
   rfl
 have hB:aO (bC l d r)=l∧aZ (bC l d r)=d∧(bf (bC l d r)).contains 64=!l.isEmpty:=by
  unfold aO aZ;rw[xr]
  cases l with
  | nil=>
   have hc:d.contains 64=false:=(by simpa using d2);simp only[List.isEmpty_nil,if_true,hc,wA,if_false,ww];exact⟨trivial,trivial,trivial⟩
  | cons a l=>
   have:=oT 64 (a :: l) d l2;have hc:(a :: l++64 :: d).contains 64=true:=(by simp);simp only[List.isEmpty_cons,wA,if_false,hc,if_true,Bool.not_false];exact⟨this.1,this.2,trivial⟩
 refine⟨?_,hB.1,hB.2.1,hA.2.1⟩;unfold cP;rw[hB.1,hB.2.1,hB.2.2,hA.2.2,show aP (bC l d r)=r from hA.2.1,h]
 cases l <;> cases r <;> rfl
theorem de {s:List UInt8} (h:cP s=true):bB (aO s) (aZ s) (aP s)=true:=by
 unfold cP at h;simp only[wh] at h;exact h.2
end Go.Proofs.YtjgeiieiinmdnaaGreatDoor
