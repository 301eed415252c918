/- HaG, HaM, HaI, HaP, HaS, HaT: put together by mergetpl.py. -/
import Derived.Test.YtjgeiieiinmdnaaGreatDoorKj
import Derived.Test.YtjgeiieiinmdnaaGreatDoorKy
open Go.Proofs.Tryz
open Bool renaming and_eq_true→wz
open Go.Value.slice renaming injEq→wR
open Go.World renaming setCells→xm
open List renaming take_append_drop→ws,mem_append→wt,mem_iff_getElem→wu,drop_eq_getElem_cons→wv,getElem?_eq_none→wy,getElem?_eq_getElem→wA,mem_cons→wB,not_mem_nil→wC,getD→wD,filter_append→wE,mem_cons_of_mem→wG,length_cons→wH,length_take→wI,length_drop→wK,getElem_drop→wL,set_eq_take_append_cons_drop→wM,find?_eq_none→wN,append_nil→wO,mem_of_mem_drop→wP,mem_singleton→wS,mem_cons_self→wT,cons_append→wU,mem_append_left→wV,mem_append_right→wW,getElem_cons_succ→wX,nil_append→wY,length_append→xd,getElem?_append_right→xf,set_append_right→xo,mem_map_of_mem→xr
open Nat renaming lt_or_ge→wq,succ_mul→ww,le_refl→wQ,zero_le→wZ,zero_add→xe,le_add_right→xg,add_sub_cancel_left→xh,add_assoc→xi,le_trans→xk,add_zero→xp,sub_self→xt
open Option.some renaming inj→wF,injEq→xq
namespace Go.Proofs.YtjgeiieiinmdnaaGreatDoor
def bz (s:List UInt8):Bool:=bv s&&decide (dp (aU s) (aZ s) (aL s)=s)
theorem ix {a b:List UInt8} (ha:bz a=true) (hb:bz b=true) (h:adr a=adr b):a=b:=by
 unfold bz at ha hb;simp only[wz,decide_eq_true_eq] at ha hb;unfold adr at h;rw[if_pos ha.1,if_pos hb.1] at h;obtain⟨h1,h2⟩:=Prod.mk.inj h;obtain⟨h2,h3⟩:=Prod.mk.inj h2;rw[←ha.2,←hb.2,h1,h2,h3]
section
variable {α:Type} {nm:α→List UInt8} 
def chG (nm:α→List UInt8):List α→Bool
 | a :: b :: l=>ao (nm a) (nm b)&&chG nm (b :: l)
 | _=>true
theorem cI {a:α} {l:List α} (h:chG nm (a :: l)=true):chG nm l=true:=by
 cases l with
 | nil=>rfl
 | cons b l=>unfold chG at h;rw[wz] at h;exact h.2
theorem aO:∀{a:α} {l:List α},chG nm (a :: l)=true→∀x∈l,ao (nm a) (nm x)=true
 | a,[],_,x,hx=>by cases hx
 | a,b :: l,h,x,hx=>by
  have h2:=h;unfold chG at h2;rw[wz] at h2
  cases hx with
  | head=>exact h2.1
  | tail _ hx=>exact cP h2.1 (aO h2.2 x hx)
theorem dA {a:α} {l:List α} (h:∀x∈l,ao (nm a) (nm x)=true) (hl:chG nm l=true):chG nm (a :: l)=true:=by
 cases l with
 | nil=>rfl
 | cons b l=>unfold chG;rw[h b (wT ..),hl];rfl
theorem gG:∀{l r:List α},chG nm l=true→chG nm r=true→(∀x∈l,∀y∈r,ao (nm x) (nm y)=true)→chG nm (l++r)=true
 | [],r,_,hr,_=>hr
 | a :: l,r,hl,hr,h=>by
  rw[wU];refine dA (fun x hx=>?_) (gG (cI hl) hr fun x hx=>h x (wG _ hx))
  rcases wt.1 hx with hx | hx
  ·exact aO hl x hx
  ·exact h a (wT ..) x hx
theorem bG:∀{l r:List α},chG nm (l++r)=true→chG nm l=true∧chG nm r=true∧∀x∈l,∀y∈r,ao (nm x) (nm y)=true
 | [],r,h=>⟨rfl,h,fun x hx=>by cases hx⟩
 | a :: l,r,h=>by
  rw[wU] at h;obtain⟨h1,h2,h3⟩:=bG (cI h);have hh:=aO h;refine⟨dA (fun x hx=>hh x (wV _ hx)) h1,h2,fun x hx y hy=>?_⟩
  cases hx with
  | head=>exact hh y (wW _ hy)
  | tail _ hx=>exact h3 x hx y hy
def poG (nm:α→List UInt8) (L:List α) (t:List UInt8):Nat:=(L.takeWhile fun x=>ao (nm x) t).length
def fiG (nm:α→List UInt8) (L:List α) (t:List UInt8):Option α:=L.find? fun x=>(nm x)==t
theorem qi (L:List α) (t:List UInt8):poG nm L t≤L.length:=(List.takeWhile_sublist _).length_le
theorem bK:∀{L:List α} {t:List UInt8},chG nm L=true→∀k (h:k<L.length),ao (nm (L[k])) t=decide (k<poG nm L t)
 | [],_,_,k,h=>by simp at h
 | a :: l,t,hc,k,h=>by
  unfold poG;rw[List.takeWhile_cons]
  cases ha:ao (nm a) t with
  | true=>
   simp only[if_true,wH]
   cases k with
   | zero=>simp[ha]
   | succ k=>
    have:=bK (cI hc) (t:=t) k (by simpa using h);rw[wX,this];exact decide_eq_decide.2 (by unfold poG;omega)
  | false=>
   simp only[Bool.false_eq_true,if_false,List.length_nil]
   cases k with
   | zero=>simp[ha]
   | succ k=>
    rw[wX];have hm:l[k]'(by simpa using h)∈l:=List.getElem_mem _;have h1:=aO hc _ hm
    cases h2:ao (nm (l[k]'(by simpa using h))) t with
    | false=>simp
    | true=>have:=cP h1 h2;rw[ha] at this;cases this
theorem dm {L:List α} {t:List UInt8} (hc:chG nm L=true):(∀x∈L.take (poG nm L t),ao (nm x) t=true)∧(∀x∈L.drop (poG nm L t),ao (nm x) t=false):=by
 constructor
 ·intro x hx
  obtain⟨i,hi,rfl⟩:=wu.1 hx;rw[wI] at hi;rw[List.getElem_take,bK hc i (by omega)];exact decide_eq_true (by omega)
 ·intro x hx
  obtain⟨i,hi,rfl⟩:=wu.1 hx;rw[wK] at hi;rw[wL,bK hc _ (by omega)];exact decide_eq_false (by omega)
def woG (nm:α→List UInt8) (L:List α) (t:List UInt8):List α:=L.filter fun x=>!((nm x)==t)
def wiG (nm:α→List UInt8) (L:List α) (x:α):List α:=((woG nm L (nm x)).filter fun y=>ao (nm y) (nm x))++x :: ((woG nm L (nm x)).filter fun y=>ao (nm x) (nm y))
theorem bZ {L:List α} (hc:chG nm L=true) (t:List UInt8):(∀x∈L.take (poG nm L t),∀y∈L.drop (poG nm L t),ao (nm x) (nm y)=true)∧chG nm (L.take (poG nm L t))=true∧chG nm (L.drop (poG nm L t))=true:=by
 have h:chG nm (L.take (poG nm L t)++L.drop (poG nm L t))=true:=by rw[ws];exact hc
 obtain⟨h1,h2,h3⟩:=bG h;exact⟨h3,h1,h2⟩
theorem go {L:List α} {k:Nat} (h:k<L.length) (x:α):L.set k x=L.take k++x :: L.drop (k+1):=by
 rw[wM,if_pos h]
theorem bm {p:α→Bool} {l:List α} (h:∀x∈l,p x=true):l.filter p=l:=List.filter_eq_self.2 h
theorem cT {p:α→Bool} {l:List α} (h:∀x∈l,p x=false):l.filter p=[]:=List.filter_eq_nil_iff.2 fun x hx=>by rw[h x hx];decide
/-! ### what is found behind it -/
theorem mw {L:List α} {t:List UInt8} (h:∀x∈L,(nm x)≠t):fiG nm L t=none:=by
 unfold fiG;rw[wN];intro x hx e;exact h x hx (by simpa using e)
theorem dZ {L:List α} {t:List UInt8} {x:α} (h:fiG nm L t=some x):x∈L∧(nm x)=t:=by
 unfold fiG at h;exact⟨List.mem_of_find?_eq_some h,by have:=List.find?_some h;simpa using this⟩
end
section
variable {α:Type} {nm:α→List UInt8} [Inhabited α]
theorem fD (l:List α) (x:α):chG nm (l++[x])=(chG nm l&&(l.isEmpty||ao (nm (l.getLastD default)) (nm x))):=by
 induction l with
 | nil=>rfl
 | cons a l ih=>
  cases l with
  | nil=>simp[chG]
  | cons b l=>
   show (ao (nm a) (nm b)&&chG nm ((b :: l)++[x]))=((ao (nm a) (nm b)&&chG nm (b :: l))&&_)
   rw[ih,Bool.and_assoc]
   rfl

def thG (nm:α→List UInt8) (L:List α) (t:List UInt8):Bool:=decide (poG nm L t<L.length)&&((nm (L.getD (poG nm L t) default))==t)
theorem d8 {L:List α} {t:List UInt8} (hc:chG nm L=true) (hx:∃x∈L,(nm x)=t):thG nm L t=true:=by
 obtain⟨x,hx,rfl⟩:=hx;obtain⟨i,hi,rfl⟩:=wu.1 hx
 have h1:¬ i<poG nm L (nm (L[i])):=fun h=>by
  have:=bK hc (t:=(nm (L[i]))) i hi;rw[bw,decide_eq_true h] at this
  cases this
 have h2:poG nm L (nm (L[i]))=i:=by
  rcases wq (poG nm L (nm (L[i]))) i with h | h
  ·have h3:=bK hc (t:=(nm (L[i]))) (poG nm L (nm (L[i]))) (by omega)
   rw[decide_eq_false (Nat.lt_irrefl _)] at h3
   have h4:ao (nm (L[poG nm L (nm (L[i]))]'(by omega))) (nm (L[i]))=true:=by
    have hs:L=L.take (poG nm L (nm (L[i])))++L.drop (poG nm L (nm (L[i]))):=(ws _ _).symm
    have hc2:=hc;rw[hs] at hc2;obtain⟨_,hr,_⟩:=bG hc2
    have hd:L.drop (poG nm L (nm (L[i])))=L[poG nm L (nm (L[i]))]'(by omega) :: L.drop (poG nm L (nm (L[i]))+1):=wv (by omega)
    rw[hd] at hr;refine aO hr _ ?_;rw[wu];refine⟨i-(poG nm L (nm (L[i]))+1),by rw[wK];omega,?_⟩;rw[wL]
    congr 1
    omega
   rw[h4] at h3
   cases h3
  ·omega
 unfold thG;rw[h2,decide_eq_true hi]
 simp[wD,hi]
theorem kS {L:List α} {t:List UInt8} (hc:chG nm L=true):(thG nm L t=true→fiG nm L t=some (L.getD (poG nm L t) default))∧(thG nm L t=false→fiG nm L t=none):=by
 have none_of:thG nm L t=false→fiG nm L t=none:=fun h=>by
  unfold fiG;rw[wN];intro x hx e;have:=d8 hc ⟨x,hx,by simpa using e⟩;rw[h] at this
  cases this
 refine⟨fun h=>?_,none_of⟩;unfold thG at h;rw[wz,decide_eq_true_eq,beq_iff_eq] at h;obtain⟨h1,h2⟩:=h
 have hg:L.getD (poG nm L t) default=L[poG nm L t]:=by simp[wD,h1]
 rw[hg] at h2 ⊢
 have hs:L=L.take (poG nm L t)++L[poG nm L t] :: L.drop (poG nm L t+1):=by
  rw[←wv h1,ws]
 obtain⟨X,hX⟩:=e_ (L[poG nm L t]);rw[hX] at h2 hs ⊢
 have hno:∀x∈L.take (poG nm L t),¬ ((nm x)==t)=true:=fun x hx e=>by
  have:=(dm hc (t:=t)).1 x hx;rw[beq_iff_eq] at e;rw[e,bw] at this
  cases this
 unfold fiG
 have hf:∀l:List α,(∀x∈l,¬ ((nm x)==t)=true)→(l++X :: L.drop (poG nm L t+1)).find? (fun x=>(nm x)==t)=some X:=fun l hl=>by
  rw[List.find?_append,wN.2 hl]
  simp[h2]
 have:=hf _ hno
 rwa [←hs] at this
def puG (nm:α→List UInt8) (L:List α) (x:α):List α:=if thG nm L (nm x) then L.set (poG nm L (nm x)) x else L.take (poG nm L (nm x))++x :: L.drop (poG nm L (nm x))
theorem ba {L:List α} {t:List UInt8} (h:thG nm L t=true):∃(hp:poG nm L t<L.length),(nm (L[poG nm L t]))=t∧L.drop (poG nm L t)=L[poG nm L t] :: L.drop (poG nm L t+1):=by
 unfold thG at h;rw[wz,decide_eq_true_eq,beq_iff_eq] at h;obtain⟨h1,h2⟩:=h
 have hg:L.getD (poG nm L t) default=L[poG nm L t]:=by simp[wD,h1]
 rw[hg] at h2;exact⟨h1,h2,wv h1⟩
theorem eb {L:List α} {t:List UInt8} (hc:chG nm L=true) (h:thG nm L t=false):∀x∈L,(nm x)≠t:=fun x hx e=>by
 have:=d8 hc ⟨x,hx,e⟩;rw[h] at this
 cases this
theorem f9 {L:List α} {t:List UInt8} (hc:chG nm L=true) (h:thG nm L t=true):woG nm L t=L.take (poG nm L t)++L.drop (poG nm L t+1):=by
 obtain⟨hp,hj,hd⟩:=ba h;obtain⟨h1,h2,h3⟩:=bZ hc t
 have e:L=L.take (poG nm L t)++L[poG nm L t] :: L.drop (poG nm L t+1):=by rw[←hd,ws]
 have hA:∀x∈L.take (poG nm L t),(!((nm x)==t))=true:=fun x hx=>by
  have:=(dm hc (t:=t)).1 x hx
  cases hb:(nm x)==t with
  | false=>rfl
  | true=>rw[beq_iff_eq.1 hb,bw] at this;cases this
 have hB:∀x∈L.drop (poG nm L t+1),(!((nm x)==t))=true:=fun x hx=>by
  rw[hd] at h3;have:=aO h3 x hx;rw[hj] at this
  cases hb:(nm x)==t with
  | false=>rfl
  | true=>rw[beq_iff_eq.1 hb,bw] at this;cases this
 unfold woG
 conv=>lhs;rw[e]
 rw[wE,List.filter_cons,bm hA,bm hB]
 have:(!((nm (L[poG nm L t]))==t))=false:=by rw[hj];simp
 rw[this]
 simp
theorem kc {L:List α} {t:List UInt8} (hc:chG nm L=true) (h:thG nm L t=false):woG nm L t=L:=
 bm fun x hx=>by simpa using eb hc h x hx
theorem nW {L:List α} {x:α} (hc:chG nm L=true) (hL:∀y∈L,bz (nm y)=true) (hx:bz (nm x)=true):wiG nm L x=puG nm L x:=by
 obtain⟨h1,h2,h3⟩:=bZ hc (nm x);obtain⟨p1,p2⟩:=dm hc (t:=(nm x))
 have hA1:(L.take (poG nm L (nm x))).filter (fun y=>ao (nm y) (nm x))=L.take (poG nm L (nm x)):=bm p1
 have hA2:(L.take (poG nm L (nm x))).filter (fun y=>ao (nm x) (nm y))=[]:=cT fun y hy=>ei (p1 y hy)
 unfold wiG puG
 cases h:thG nm L (nm x) with
 | true=>
  obtain⟨hp,hj,hd⟩:=ba h;rw[hd] at h3
  have hb:∀y∈L.drop (poG nm L (nm x)+1),ao (nm x) (nm y)=true:=fun y hy=>by
   have:=aO h3 y hy
   rwa [hj] at this
  rw[if_pos rfl,f9 hc h,wE,wE,hA1,hA2,bm hb,cT (fun y hy=>ei (hb y hy)),go hp,wO,wY]
 | false=>
  have hb:∀y∈L.drop (poG nm L (nm x)),ao (nm x) (nm y)=true:=fun y hy=>by
   cases hq:ao (nm x) (nm y) with
   | true=>rfl
   | false=>
    have hm:=wP hy;have:=ix (hL y hm) hx (iR (p2 y hy) hq);exact absurd this (eb hc h y hm)
  rw[if_neg (by decide),kc hc h]
  have e:∀p:α→Bool,L.filter p=(L.take (poG nm L (nm x))).filter p++(L.drop (poG nm L (nm x))).filter p:=fun p=>by rw[←wE,ws]
  rw[e,e,hA1,hA2,cT (fun y hy=>ei (hb y hy)),bm hb,wO,wY]
theorem de {L:List α} {x:α}:∃B,puG nm L x=L.take (poG nm L (nm x))++x :: B∧(∀y∈B,y∈L.drop (poG nm L (nm x)))∧(thG nm L (nm x)=true→B=L.drop (poG nm L (nm x)+1))∧(thG nm L (nm x)=false→B=L.drop (poG nm L (nm x))):=by
 unfold puG
 cases h:thG nm L (nm x) with
 | true=>
  obtain⟨hp,hj,hd⟩:=ba h;exact⟨L.drop (poG nm L (nm x)+1),by rw[if_pos rfl,go hp],fun y hy=>by rw[hd];exact wG _ hy,(fun _=>rfl),(fun h=>by cases h)⟩
 | false=>exact⟨L.drop (poG nm L (nm x)),by rw[if_neg (by decide)],fun y hy=>hy,(fun h=>by cases h),fun _=>rfl⟩
theorem dX {L:List α} {x:α} (hc:chG nm L=true) (hL:∀y∈L,bz (nm y)=true) (hx:bz (nm x)=true):chG nm (puG nm L x)=true:=by
 obtain⟨h1,h2,h3⟩:=bZ hc (nm x);obtain⟨p1,p2⟩:=dm hc (t:=(nm x));obtain⟨B,hB,hm,ht,hf⟩:=de (L:=L) (x:=x);rw[hB]
 have hb:∀y∈B,ao (nm x) (nm y)=true:=fun y hy=>by
  cases h:thG nm L (nm x) with
  | true=>
   obtain⟨hp,hj,hd⟩:=ba h;rw[hd] at h3;rw[ht h] at hy;have:=aO h3 y hy
   rwa [hj] at this
  | false=>
   cases hq:ao (nm x) (nm y) with
   | true=>rfl
   | false=>
    have hy2:=hm y hy;have hmm:=wP hy2;exact absurd (ix (hL y hmm) hx (iR (p2 y hy2) hq)) (eb hc h y hmm)
 have hBc:chG nm B=true:=by
  cases h:thG nm L (nm x) with
  | true=>
   obtain⟨hp,hj,hd⟩:=ba h;rw[hd] at h3;rw[ht h];exact cI h3
  | false=>rw[hf h];exact h3
 refine gG h2 (dA hb hBc) fun a ha y hy=>?_
 cases hy with
 | head=>exact p1 a ha
 | tail _ hy=>exact h1 a ha y (hm y hy)
theorem pI {L:List α} {x:α}:∀y∈puG nm L x,y=x∨y∈L:=fun y hy=>by
 obtain⟨B,hB,hm,_,_⟩:=de (L:=L) (x:=x);rw[hB] at hy
 rcases wt.1 hy with hy | hy
 ·exact .inr (List.mem_of_mem_take hy)
 ·cases hy with
  | head=>exact .inl rfl
  | tail _ hy=>exact .inr (wP (hm y hy))
theorem eW {L:List α} (hc:chG nm L=true) {x:α} (hx:x∈L):fiG nm L (nm x)=some x:=by
 have ht:=d8 hc ⟨x,hx,rfl⟩;rw[(kS hc).1 ht];obtain⟨hp,hj,hd⟩:=ba ht
 have hg:L.getD (poG nm L (nm x)) default=L[poG nm L (nm x)]:=by simp[wD,hp]
 rw[hg];obtain⟨i,hi,rfl⟩:=wu.1 hx
 congr 1
 have h1:=bK hc (t:=(nm (L[i]))) i hi;rw[bw] at h1
 have h2:poG nm L (nm (L[i]))≤i:=by
  rcases wq i (poG nm L (nm (L[i]))) with h | h
  ·rw[decide_eq_true h] at h1;cases h1
  ·exact h
 rcases wq (poG nm L (nm (L[i]))) i with h | h
 ·obtain⟨_,_,h3⟩:=bZ hc (nm (L[i]))
  rw[hd] at h3
  have:=aO h3 (L[i]) (by
   rw[wu];refine⟨i-(poG nm L (nm (L[i]))+1),by rw[wK];omega,?_⟩;rw[wL]
   congr 1
   omega)
  rw[hj,bw] at this
  cases this
 ·have : poG nm L (nm (L[i])) = i := by omega
  congr 1
theorem nQ {L:List α} {x:α} (hc:chG nm L=true) (hL:∀y∈L,bz (nm y)=true) (hx:bz (nm x)=true):fiG nm (puG nm L x) (nm x)=some x:=by
 refine eW (dX hc hL hx) ?_;obtain⟨B,hB,_⟩:=de (L:=L) (x:=x);rw[hB]
 simp
theorem ma {L:List α} {x:α} {t:List UInt8} (hc:chG nm L=true) (hL:∀y∈L,bz (nm y)=true) (hx:bz (nm x)=true) (hne:t≠(nm x)):fiG nm (puG nm L x) t=fiG nm L t:=by
 cases h:fiG nm L t with
 | some y=>
  obtain⟨h1,h2⟩:=dZ h
  have:y∈puG nm L x:=by
   obtain⟨B,hB,_,ht,hf⟩:=de (L:=L) (x:=x);rw[hB]
   have hs:L=L.take (poG nm L (nm x))++L.drop (poG nm L (nm x)):=(ws _ _).symm
   rw[hs] at h1
   rcases wt.1 h1 with h1 | h1
   ·exact wV _ h1
   ·refine wW _ (wG _ ?_)
    cases hq:thG nm L (nm x) with
    | true=>
     obtain⟨hp,hj,hd⟩:=ba hq;rw[ht hq];rw[hd] at h1
     cases h1 with
     | head=>exact absurd (h2.symm.trans hj) hne
     | tail _ h1=>exact h1
    | false=>rw[hf hq];exact h1
  rw[←h2];exact eW (dX hc hL hx) this
 | none=>
  refine mw fun y hy e=>?_
  rcases pI y hy with rfl | hy
  ·exact hne e.symm
  ·have:=eW hc hy
   rw[e,h] at this
   cases this
end
open Go.RowKit Go.Lib

def OwS (S:Nat→Prop) (e:TypeId) (size:Nat) (v:Value) (n:Nat) (xs:List Value) (w:World):Prop:=w.ownsRow 0 e size v n xs∧∀g,v.ownBlock=some g→S g
section
variable {S S':Nat→Prop} {e:TypeId} {size n B:Nat} {v:Value} {xs:List Value} {w w':World}
theorem OwS.ret (h:OwS S e size v n xs w) (hb:Bl w w'):OwS S e size v n xs w':=⟨aI h.1 hb,h.2⟩
theorem OwS.lt (h:OwS S e size v n xs w) {g:Nat} (hg:v.ownBlock=some g):g<w.heap.size:=(h.1.lt g hg).2
theorem OwS.mono (h:OwS S e size v n xs w) (hs:∀g,g<w.heap.size→S g→S' g):OwS S' e size v n xs w:=⟨h.1,fun g hg=>hs g (h.lt hg) (h.2 g hg)⟩
theorem OwS.of (h:w.ownsRow B e size v n xs):OwS (fun g=>B≤g) e size v n xs w:=⟨h.mono (wZ _),fun g hg=>(h.lt g hg).1⟩
theorem OwS.owns (h:OwS S e size v n xs w) (hs:∀g,S g→B≤g):w.ownsRow B e size v n xs:=by
 refine⟨h.1.1,?_⟩
 rcases h.1.2 with h1 | ⟨g,cap,cur,e1,_,hg,r⟩
 ·exact .inl h1
 ·exact .inr ⟨g,cap,cur,e1,hs g (h.2 g (by rw[e1];rfl)),hg,r⟩
theorem OwS.keep (h:OwS S e size v n xs w) (hk:∀k,S k→w'.heap[k]?=w.heap[k]?):OwS S e size v n xs w':=by
 refine⟨⟨h.1.1,?_⟩,h.2⟩
 rcases h.1.2 with h1 | ⟨g,cap,cur,e1,hb,hg,r⟩
 ·exact .inl h1
 ·exact .inr ⟨g,cap,cur,e1,hb,by rw[hk g (h.2 g (by rw[e1];rfl))];exact hg,r⟩
theorem OwS.nil (S:Nat→Prop) (e:TypeId) (size:Nat) (w:World):OwS S e size (.slice none 0 0) 0 [] w:=⟨World.ownsRow_nil _ _ _ _,fun g hg=>by cases hg⟩
theorem OwS.row (h:OwS S e size v n xs w):cO size v n xs w:=tA h.1
theorem OwS.form (h:OwS S e size v n xs w):∃a cap,v=.slice a n cap∧n≤cap:=by
 rcases h.1.2 with ⟨h1,h2⟩ | ⟨g,cap,cur,e1,_,_,h2,_⟩
 ·exact⟨none,0,by rw[h1,h2],by omega⟩
 ·exact⟨_,cap,e1,h2⟩
end
abbrev Xd (w0:World) (ad:List Nat):Nat→Prop:=fun g=>w0.heap.size≤g∧g ∉ ad

structure Ly (α:Type) where
 n:Nat
 e:TypeId
 cs:α→List Value
 len:∀x,(cs x).length=n
 one:∀x,∀u∈cs x,u.oneCell'=true
 sub:α→World→Prop
 own:(Nat→Prop)→α→World→Prop
 subRet:∀x w w',sub x w→Bl w w'→sub x w'
 ownSub:∀S x w,own S x w→sub x w
 ownRet:∀S x w w',own S x w→Bl w w'→own S x w'
 ownMono:∀(S S':Nat→Prop) x w,own S x w→(∀g,g<w.heap.size→S g→S' g)→own S' x w
 ownKeep:∀(S:Nat→Prop) x w w',own S x w→(∀k,S k→w'.heap[k]?=w.heap[k]?)→own S x w'
section
variable {α:Type} {Y:Ly α}
def Ly.fl (Y:Ly α) (M:List α):List Value:=M.flatMap Y.cs
theorem cy (Y:Ly α) (p:α) (M:List α):Y.fl (p :: M)=Y.cs p++Y.fl M:=rfl
theorem gJ (Y:Ly α) (M N:List α):Y.fl (M++N)=Y.fl M++Y.fl N:=by simp[Ly.fl]
theorem uQ (Y:Ly α) (p:α):Y.fl [p]=Y.cs p:=by simp[Ly.fl]
theorem dv (Y:Ly α) (M:List α):(Y.fl M).length=M.length*Y.n:=by
 induction M with
 | nil=>simp[Ly.fl]
 | cons p M ih=>rw[cy,xd,ih,Y.len,wH,ww,Nat.add_comm]
theorem fp (Y:Ly α):∀(M:List α) (k:Nat) (h:k<M.length) (c:Nat) (_:c<Y.n),(Y.fl M)[k*Y.n+c]?=(Y.cs M[k])[c]?
 | [],k,h,_,_=>by simp at h
 | p :: M,0,_,c,hc=>by
  rw[cy,Nat.zero_mul,xe,List.getElem?_append_left (by rw[Y.len];exact hc)]
  simp
 | p :: M,k+1,h,c,hc=>by
  rw[cy,xf (by rw[Y.len,ww];omega),Y.len]
  have e:(k+1)*Y.n+c-Y.n=k*Y.n+c:=by rw[ww];omega
  rw[e];exact fp Y M k (by simpa using h) c hc
theorem kY (Y:Ly α) (M:List α) (k:Nat):Y.fl (M.take k)=(Y.fl M).take (k*Y.n):=by
 induction M generalizing k with
 | nil=>simp[Ly.fl]
 | cons p M ih=>
  cases k with
  | zero=>simp[Ly.fl]
  | succ k=>
   rw[List.take_succ_cons,cy,cy,ih];have:(k+1)*Y.n=(Y.cs p).length+k*Y.n:=(by rw[Y.len,ww];omega);rw[this,List.take_append,List.take_of_length_le (l:=Y.cs p) (xg _ _),xh]
theorem tp (Y:Ly α) (M:List α) (k:Nat):Y.fl (M.drop k)=(Y.fl M).drop (k*Y.n):=by
 induction M generalizing k with
 | nil=>simp[Ly.fl]
 | cons p M ih=>
  cases k with
  | zero=>simp
  | succ k=>
   rw[List.drop_succ_cons,cy,ih];have:(k+1)*Y.n=(Y.cs p).length+k*Y.n:=(by rw[Y.len,ww];omega);rw[this,List.drop_append]
   simp
theorem d9 (Y:Ly α) (M:List α):∀u∈Y.fl M,u.oneCell'=true:=by
 intro u hu;obtain⟨p,hp,hu⟩:=List.mem_flatMap.1 hu;exact Y.one p u hu
def IsL (Y:Ly α) (v:Value) (M:List α) (w:World):Prop:=cO Y.n v M.length (Y.fl M) w∧(∃a cap,v=.slice a M.length cap∧M.length≤cap)∧∀x∈M,Y.sub x w
def OwL (Y:Ly α) (S:Nat→Prop) (v:Value) (M:List α) (w:World):Prop:=OwS S Y.e Y.n v M.length (Y.fl M) w∧∀x∈M,Y.own S x w
variable {S S':Nat→Prop} {v:Value} {M:List α} {w w':World}
theorem IsL.ret (h:IsL Y v M w) (hb:Bl w w'):IsL Y v M w':=⟨h.1.ret hb,h.2.1,fun x hx=>Y.subRet _ _ _ (h.2.2 x hx) hb⟩
theorem IsL.nil (Y:Ly α) (w:World):IsL Y (.slice none 0 0) [] w:=⟨cO.nil _ w,⟨none,0,rfl,wQ _⟩,fun x hx=>by cases hx⟩
theorem IsL.form (h:IsL Y v M w):∃a cap,v=.slice a M.length cap∧M.length≤cap:=h.2.1
theorem OwL.isL (h:OwL Y S v M w):IsL Y v M w:=⟨h.1.row,h.1.form,fun x hx=>Y.ownSub _ _ _ (h.2 x hx)⟩
theorem OwL.ret (h:OwL Y S v M w) (hb:Bl w w'):OwL Y S v M w':=⟨h.1.ret hb,fun x hx=>Y.ownRet _ _ _ _ (h.2 x hx) hb⟩
theorem OwL.mono (h:OwL Y S v M w) (hs:∀g,g<w.heap.size→S g→S' g):OwL Y S' v M w:=⟨h.1.mono hs,fun x hx=>Y.ownMono _ _ _ _ (h.2 x hx) hs⟩
theorem OwL.keep (h:OwL Y S v M w) (hk:∀k,S k→w'.heap[k]?=w.heap[k]?):OwL Y S v M w':=⟨h.1.keep hk,fun x hx=>Y.ownKeep _ _ _ _ (h.2 x hx) hk⟩
theorem OwL.nil (Y:Ly α) (S:Nat→Prop) (w:World):OwL Y S (.slice none 0 0) [] w:=⟨OwS.nil _ _ _ _,fun x hx=>by cases hx⟩
theorem IsL.cells (h:IsL Y v M w) {k:Nat} {x:α} (hk:M[k]?=some x):∃b off cap,v=.slice (some ⟨b,off,none⟩) M.length cap∧M.length≤cap∧∀w',Bl w w'→∀j u,(Y.cs x)[j]?=some u→w'.cell? ⟨b,off+k*Y.n+j,none⟩=some u:=by
 obtain⟨⟨hl,a,cap,rfl,_,hc⟩,⟨a',cap',hv,hcap⟩,_⟩:=h;simp only[wR] at hv;obtain⟨rfl,_,rfl⟩:=hv
 have hkl:k<M.length:=by
  rcases wq k M.length with h1 | h1
  ·exact h1
  ·rw[wy h1] at hk;cases hk
 have hx:M[k]=x:=by rw[wA hkl] at hk;exact wF hk
 rcases hc with h0 | ⟨b,off,rfl,h1,h2⟩
 ·omega
 ·refine⟨b,off,cap,rfl,hcap,fun w' hb j u hj=>?_⟩
  have hjn:j<Y.n:=by
   rcases wq j Y.n with h3 | h3
   ·exact h3
   ·rw[wy (by rw[Y.len];exact h3)] at hj;cases hj
  have hle:k*Y.n+j<(Y.fl M).length:=by
   rw[dv];have:(k+1)*Y.n≤M.length*Y.n:=Nat.mul_le_mul_right _ hkl;rw[ww] at this
   omega
  have d:=h2 (k*Y.n+j) hle;have i:=fp Y M k hkl j hjn;rw[hx,hj,wA hle] at i;obtain⟨q,-⟩:=af hb;rw[q _ _ h1,xi,d];exact i
end
section
variable {α:Type} {Y:Ly α} {w0 w w':World} {bs:Bs} {ad:List Nat} {v:Value} {M:List α}
def OwZ (Y:Ly α) (w0:World) (ad:List Nat) (v:Value) (M:List α) (w:World):Prop:=OwL Y (Xd w0 ad) v M w
theorem OwZ.mk' (h:Sx w0 bs w) (ho:OwL Y (fun g=>w.heap.size≤g) v M w'):OwZ Y w0 (bs.map Prod.fst) v M w':=OwL.mono ho fun g _ hg=>⟨xk h.q.size hg,fun hm=>by
 obtain⟨b,hb,e⟩:=List.mem_map.1 hm;have:=h.lt b hb
 omega⟩
theorem OwZ.ret (h:OwZ Y w0 ad v M w) (hb:Bl w w'):OwZ Y w0 ad v M w':=OwL.ret h hb
theorem cG (vs:List Value):∀(w:World) (A o k:Nat),k≠A→(w.setCells A o vs).heap[k]?=w.heap[k]?:=by
 induction vs with
 | nil=>intro w A o k _;rfl
 | cons u r ih=>
  intro w A o k hk;rw[xm,ih _ _ _ _ hk];exact heap_setCell_other w ⟨A,o,none⟩ k u (fun e=>hk e)
theorem OwZ.sets (h:OwZ Y w0 ad v M w) (k:Nat) {A o:Nat} {vs:List Value} (hk:ad[k]?=some A) (e':w.setCells A o vs=w'):OwZ Y w0 ad v M w':=by
 subst e'
 exact OwL.keep h fun g hg=>cG vs w A o g fun e=>hg.2 (by rw[e];exact List.mem_of_getElem? hk)
theorem OwZ.alloc (h:OwZ Y w0 ad v M w) (A:Nat) (hA:w.heap.size=A) (hb:Bl w w'):OwZ Y w0 (ad++[A]) v M w':=by
 refine OwL.ret (OwL.mono h fun g hl hg=>⟨hg.1,fun hm=>?_⟩) hb
 rcases wt.1 hm with hm | hm
 ·exact hg.2 hm
 ·have:=wS.1 hm
  omega
theorem OwZ.sub {ad':List Nat} (h:OwZ Y w0 ad v M w) (hs:∀a∈ad',a∈ad):OwZ Y w0 ad' v M w:=OwL.mono h fun _ _ hg=>⟨hg.1,fun hm=>hg.2 (hs _ hm)⟩
theorem OwZ.own (h:OwZ Y w0 ad v M w):OwL Y (fun g=>w0.heap.size≤g) v M w:=OwL.mono h fun _ _ hg=>hg.1
end

/-! ### texts, contacts -/
def OwG (S:Nat→Prop) (v:Value) (g:List (List UInt8)) (w:World):Prop:=OwS S 9 1 v g.length (aY g) w
theorem OwG.grp {S:Nat→Prop} {v:Value} {g:List (List UInt8)} {w:World} (h:OwG S v g w):aB v g w:=aB.own h.1
def OwI (S:Nat→Prop) (v:Value) (M:List Im) (w:World):Prop:=OwS S 99 8 v M.length (itV M) w∧∀p∈M,OwG S (gvI p) p.1.g w
section
variable {S S':Nat→Prop} {v:Value} {M:List Im} {w w':World} {B:Nat}
theorem OwI.items (h:OwI S v M w):aw v M w:=⟨h.1.row,fun p hp=>(h.2 p hp).grp⟩
theorem OwI.ret (h:OwI S v M w) (hb:Bl w w'):OwI S v M w':=⟨h.1.ret hb,fun p hp=>OwS.ret (h.2 p hp) hb⟩
theorem OwI.mono (h:OwI S v M w) (hs:∀g,g<w.heap.size→S g→S' g):OwI S' v M w:=⟨h.1.mono hs,fun p hp=>OwS.mono (h.2 p hp) hs⟩
theorem OwI.keep (h:OwI S v M w) (hk:∀k,S k→w'.heap[k]?=w.heap[k]?):OwI S v M w':=⟨h.1.keep hk,fun p hp=>OwS.keep (h.2 p hp) hk⟩
theorem OwI.of (h:bp B v M w):OwI (fun g=>B≤g) v M w:=⟨OwS.of h.1,fun p hp=>OwS.of (h.2 p hp)⟩
end
/-! ### attributes -/
abbrev At:=List UInt8×List UInt8×List UInt8
def atY:Ly At where
 n:=3
 e:=160
 cs a:=[.string ⟨a.1.toArray⟩,.string ⟨a.2.1.toArray⟩,.string ⟨a.2.2.toArray⟩]
 len _:=rfl
 one a u hu:=by
  simp only[wB,wC,or_false] at hu
  rcases hu with rfl | rfl | rfl <;> rfl
 sub _ _:=True
 own _ _ _:=True
 subRet _ _ _ _ _:=trivial
 ownSub _ _ _ _:=trivial
 ownRet _ _ _ _ _ _:=trivial
 ownMono _ _ _ _ _ _:=trivial
 ownKeep _ _ _ _ _ _:=trivial
/-! ### nodes -/
abbrev Nd:=Int×List UInt8×List UInt8×List At×List UInt8×Int
abbrev NdI:=Nd×(Option Addr×Nat)
abbrev ndA (p:NdI):List At:=p.1.2.2.2.1
abbrev ndV (p:NdI):Value:=.slice p.2.1 (ndA p).length p.2.2
abbrev ndC (p:NdI):List Value:=[.int .u8 p.1.1,.string ⟨p.1.2.1.toArray⟩,.string ⟨p.1.2.2.1.toArray⟩,ndV p,.string ⟨p.1.2.2.2.2.1.toArray⟩,.int .i64 p.1.2.2.2.2.2]
def ndY:Ly NdI where
 n:=6
 e:=114
 cs p:=ndC p
 len _:=rfl
 one p u hu:=by
  simp only[wB,wC,or_false] at hu
  rcases hu with rfl | rfl | rfl | rfl | rfl | rfl <;> rfl
 sub p w:=IsL atY (ndV p) (ndA p) w
 own S p w:=OwL atY S (ndV p) (ndA p) w
 subRet _ _ _ h hb:=IsL.ret h hb
 ownSub _ _ _ h:=OwL.isL h
 ownRet _ _ _ _ h hb:=OwL.ret h hb
 ownMono _ _ _ _ h hs:=OwL.mono h hs
 ownKeep _ _ _ _ h hk:=OwL.keep h hk
/-! ### trees -/
abbrev TrI:=List NdI×(Option Addr×Nat)
abbrev trV (T:TrI):Value:=.slice T.2.1 T.1.length T.2.2
abbrev trD (T:TrI):List Nd:=T.1.map Prod.fst
def trY:Ly TrI where
 n:=1
 e:=108
 cs T:=[trV T]
 len _:=rfl
 one T u hu:=by
  simp only[wB,wC,or_false] at hu
  rcases hu with rfl
  rfl
 sub T w:=IsL ndY (trV T) T.1 w
 own S T w:=OwL ndY S (trV T) T.1 w
 subRet _ _ _ h hb:=IsL.ret h hb
 ownSub _ _ _ h:=OwL.isL h
 ownRet _ _ _ _ h hb:=OwL.ret h hb
 ownMono _ _ _ _ h hs:=OwL.mono h hs
 ownKeep _ _ _ _ h hk:=OwL.keep h hk
/-! ### resources -/
abbrev Re:=List UInt8×Bool×Int×List (List Nd)×Bool×List (List UInt8)
abbrev Re.j (r:Re):List UInt8:=r.1
abbrev Re.on (r:Re):Bool:=r.2.1
abbrev Re.pr (r:Re):Int:=r.2.2.1
abbrev Re.ld (r:Re):List (List Nd):=r.2.2.2.1
abbrev Re.ask (r:Re):Bool:=r.2.2.2.2.1
abbrev Re.st (r:Re):List (List UInt8):=r.2.2.2.2.2
structure RsI where
 j:List UInt8
 on:Bool
 pr:Int
 ld:List TrI
 la:Option Addr×Nat
 ask:Bool
 st:List (List UInt8)
 sa:Option Addr×Nat
abbrev RsI.d (r:RsI):Re:=(r.j,r.on,r.pr,r.ld.map trD,r.ask,r.st)
abbrev RsI.lv (r:RsI):Value:=.slice r.la.1 r.ld.length r.la.2
abbrev RsI.sv (r:RsI):Value:=.slice r.sa.1 r.st.length r.sa.2
abbrev RsI.cs (r:RsI):List Value:=[.string ⟨r.j.toArray⟩,.bool r.on,.int .i64 r.pr,r.lv,.bool r.ask,r.sv]
abbrev RsI.v (r:RsI):Value:=.agg #[.string ⟨r.j.toArray⟩,.bool r.on,.int .i64 r.pr,r.lv,.bool r.ask,r.sv]
def rsY:Ly RsI where
 n:=6
 e:=38
 cs r:=r.cs
 len _:=rfl
 one r u hu:=by
  simp only[wB,wC,or_false] at hu
  rcases hu with rfl | rfl | rfl | rfl | rfl | rfl <;> rfl
 sub r w:=IsL trY r.lv r.ld w∧aB r.sv r.st w
 own S r w:=OwL trY S r.lv r.ld w∧OwG S r.sv r.st w
 subRet _ _ _ h hb:=⟨IsL.ret h.1 hb,aB.ret h.2 hb⟩
 ownSub _ _ _ h:=⟨OwL.isL h.1,OwG.grp h.2⟩
 ownRet _ _ _ _ h hb:=⟨OwL.ret h.1 hb,OwS.ret h.2 hb⟩
 ownMono _ _ _ _ h hs:=⟨OwL.mono h.1 hs,OwS.mono h.2 hs⟩
 ownKeep _ _ _ _ h hk:=⟨OwL.keep h.1 hk,OwS.keep h.2 hk⟩
/-! ### accounts -/
abbrev Ac:=List UInt8×List It×Int
structure AcI where
 j:List UInt8
 it:List Im
 ia:Option Addr×Nat
 ver:Int
abbrev AcI.d (a:AcI):Ac:=(a.j,a.it.map Prod.fst,a.ver)
abbrev AcI.iv (a:AcI):Value:=.slice a.ia.1 a.it.length a.ia.2
abbrev AcI.cs (a:AcI):List Value:=[.string ⟨a.j.toArray⟩,a.iv,.int .i64 a.ver]
abbrev AcI.v (a:AcI):Value:=.agg #[.string ⟨a.j.toArray⟩,a.iv,.int .i64 a.ver]
def acY:Ly AcI where
 n:=3
 e:=33
 cs a:=a.cs
 len _:=rfl
 one a u hu:=by
  simp only[wB,wC,or_false] at hu
  rcases hu with rfl | rfl | rfl <;> rfl
 sub a w:=aw a.iv a.it w
 own S a w:=OwI S a.iv a.it w
 subRet _ _ _ h hb:=aw.ret h hb
 ownSub _ _ _ h:=OwI.items h
 ownRet _ _ _ _ h hb:=OwI.ret h hb
 ownMono _ _ _ _ h hs:=OwI.mono h hs
 ownKeep _ _ _ _ h hk:=OwI.keep h hk

/-! ### addresses -/
def ms (s:List UInt8):Bool:=bz s&&(!(aU s).isEmpty&&!(aL s).isEmpty)
def bg (s:List UInt8):Bool:=bz s&&(!(aU s).isEmpty&&(aL s).isEmpty)
def a9 (s:List UInt8):List UInt8:=if bv s then dp (aU s) (aZ s) [] else []
/-! ### resources and accounts -/
def fR (tree:List Nd→Bool) (r:Re):Bool:=
 ms r.j&&(decide (r.ld.length≤16)&&(decide (r.st.length≤8)&&(decide (-128≤r.pr)&&(decide (r.pr≤127)&&(r.ld.all tree&&(aV r.st&&(r.st.all bz&&(r.on||(decide (r.pr=0)&&r.ld.isEmpty)))))))))
def kC (a:Ac):Bool:=bg a.1&&lf a.2.1 a.2.2
abbrev acN (a:Ac):List UInt8:=a.1
abbrev reN (r:Re):List UInt8:=r.1
def bP (A:List Ac) (r:Re):Bool:=A.any fun a=>a.1==a9 r.j
def dG (tree:List Nd→Bool) (A:List Ac) (R:List Re) (m:Int):Bool:=
 decide (A.length≤8)&&(decide (R.length≤16)&&(decide (0≤m)&&(decide (m<fw)&&(A.all kC&&(chG acN A&&(R.all (fun r=>fR tree r&&bP A r)&&chG reN R))))))
def kD (R:List Re) (t:List UInt8) (q:Re→Bool):List (List UInt8):=(R.filter fun r=>bv r.j&&((a9 r.j==t)&&q r)).map reN
def ua (R:List Re) (t:List UInt8):Int:=(R.filter fun r=>bv r.j&&((a9 r.j==t)&&r.on)).foldl (fun m r=>max m r.pr) 0
def onF (R:List Re) (t:List UInt8):List (List UInt8):=kD R t fun r=>r.on
def ic (R:List Re) (t:List UInt8):List (List UInt8):=kD R t fun r=>r.on&&decide (r.pr=ua R t)
def fh (R:List Re) (t:List UInt8):List (List UInt8):=kD R t fun r=>r.ask

theorem dW {B g n c size:Nat} {e:TypeId}:∀(vs:List Value) {w:World} {xs:List Value} (_:w.ownsRow B e size (.slice (some ⟨g,0,none⟩) n c) n xs) (o:Nat),(w.setCells g o vs).ownsRow B e size (.slice (some ⟨g,0,none⟩) n c) n (fL xs o vs)
 | [],_,_,h,_=>h
 | v :: r,w,xs,h,o=>by
  rw[xm];unfold fL;exact dW r (h.stored o v).1 (o+1)
theorem dK (a:List Value):∀(vs cs:List Value) (o:Nat),fL (a++cs) (a.length+o) vs=a++fL cs o vs
 | [],_,_=>rfl
 | v :: r,cs,o=>by
  unfold fL;rw[xo _ _ (xg _ _),xh,xi];exact dK a r (cs.set o v) (o+1)
theorem kd:∀(vs b c:List Value),b.length=vs.length→fL (b++c) 0 vs=vs++c
 | [],b,c,h=>by
  have:b=[]:=List.eq_nil_of_length_eq_zero h
  subst this
  rfl
 | v :: r,[],c,h=>by cases h
 | v :: r,x :: b,c,h=>by
  unfold fL
  have h2:b.length=r.length:=by simpa using h
  have h3:=dK [v] r (b++c) 0;rw[kd r b c h2] at h3;exact h3
theorem uL {α:Type} (Y:Ly α) (M:List α) (k:Nat) (p:α) (hk:k<M.length):fL (Y.fl M) (k*Y.n) (Y.cs p)=Y.fl (M.set k p):=by
 have e:M=M.take k++M[k] :: M.drop (k+1):=by rw[←wv hk,ws]
 have h1:Y.fl M=Y.fl (M.take k)++(Y.cs M[k]++Y.fl (M.drop (k+1))):=by
  conv=>lhs;rw[e]
  rw[gJ,cy]
 have h2:(Y.fl (M.take k)).length=k*Y.n:=by rw[dv,wI];congr 1;omega
 have h3:=dK (Y.fl (M.take k)) (Y.cs p) (Y.cs M[k]++Y.fl (M.drop (k+1))) 0;rw[h2] at h3;simp only[xp] at h3;rw[h1,h3,kd _ _ _ (by rw[Y.len,Y.len]),wM,if_pos hk,gJ,cy]
theorem nv {α:Type} {Y:Ly α} {w:World} {B g n c:Nat} {M:List α} (h:w.ownsRow B Y.e Y.n (.slice (some ⟨g,0,none⟩) n c) n (Y.fl M)) (hn:M.length=n) (k:Nat) (hk:k<n) (p:α):
  (w.setCells g (k*Y.n) (Y.cs p)).ownsRow B Y.e Y.n (.slice (some ⟨g,0,none⟩) n c) n (Y.fl (M.set k p)):=by
 rw[←uL Y M k p (by omega)];exact dW _ h _
theorem gp {w:World} {B C g n c m size size':Nat} {e e':TypeId} {v:Value} {xs ys:List Value} (h1:w.ownsRow B e size (.slice (some ⟨g,0,none⟩) n c) n xs) (h2:w.ownsRow C e' size' v m ys) (he:e≠e'):v.ownBlock≠some g:=by
 intro h
 rcases h2.2 with ⟨rfl,_⟩ | ⟨g',cap,cur,rfl,_,hg',_⟩
 ·cases h
 ·simp only[Value.ownBlock,xq] at h
  subst h
  rcases h1.2 with ⟨h,_⟩ | ⟨g2,cap2,cur2,h,_,hg2,_⟩
  ·cases h
  ·simp only[wR,xq,Addr.mk.injEq,and_true,true_and] at h
   obtain⟨rfl,rfl⟩:=h;rw[hg'] at hg2
   injection hg2 with hg2
   injection hg2 with _ ht _
   exact he ht.symm

theorem gn:∀(vs a c:List Value) (o:Nat),o+vs.length≤a.length→fL (a++c) o vs=fL a o vs++c
 | [],_,_,_,_=>rfl
 | v :: r,a,c,o,h=>by
  rw[wH] at h;unfold fL;rw[List.set_append_left _ _ (by omega)];exact gn r (a.set o v) c (o+1) (by rw[List.length_set];omega)
theorem rT {α:Type} (Y:Ly α) (M:List α) (k j:Nat) (p p':α) (vs:List Value) (hk:M[k]?=some p) (hj:j+vs.length≤Y.n) (e:fL (Y.cs p) j vs=Y.cs p'):fL (Y.fl M) (k*Y.n+j) vs=Y.fl (M.set k p'):=by
 have hkl:k<M.length:=by
  rcases wq k M.length with h1 | h1
  ·exact h1
  ·rw[wy h1] at hk;cases hk
 have hp:M[k]=p:=by rw[wA hkl] at hk;exact wF hk
 have e1:M=M.take k++p :: M.drop (k+1):=by rw[←hp,←wv hkl,ws]
 have h1:Y.fl M=Y.fl (M.take k)++(Y.cs p++Y.fl (M.drop (k+1))):=by
  conv=>lhs;rw[e1]
  rw[gJ,cy]
 have h2:(Y.fl (M.take k)).length=k*Y.n:=by rw[dv,wI];congr 1;omega
 have h3:=dK (Y.fl (M.take k)) vs (Y.cs p++Y.fl (M.drop (k+1))) j;rw[h2] at h3;rw[h1,h3,gn vs _ _ _ (by rw[Y.len];exact hj),e,wM,if_pos hkl,gJ,cy]
abbrev Xo (w0:World) (ad:List Nat) (v:Value):Nat→Prop:=fun b=>w0.heap.size≤b∧b ∉ ad∧v.ownBlock≠some b
section
variable {α:Type} {Y:Ly α} {w0 w w':World} {bs:Bs} {ad:List Nat} {v:Value} {M Nn:List α} {k:Nat}
theorem Sx.far (h:Sx w0 bs w) {g o:Nat} {vs:List Value} (hg:w0.heap.size≤g) (hn:g ∉ bs.map Prod.fst) (e:w.setCells g o vs=w'):Sx w0 bs w':=by
 subst e;exact⟨fun b hb=>⟨Bx.others vs (h.bx b hb).1 (fun e=>hn (by rw[←e];exact xr hb)) o,(h.bx b hb).2⟩,h.pw,df vs h.q hg o⟩
theorem OwL.far {S:Nat→Prop} (h:OwL Y S v M w) {g o:Nat} {vs:List Value} (hn:¬ S g) (e:w.setCells g o vs=w'):OwL Y S v M w':=by
 subst e
 exact OwL.keep h fun j hj=>cG vs w g o j fun e=>hn (e ▸ hj)
structure TL (Y:Ly α) (w0:World) (ad:List Nat) (v:Value) (M Nn:List α) (k:Nat) (w:World):Prop where
 row:OwS (Xd w0 ad) Y.e Y.n v M.length (Y.fl (Nn++M.drop k)) w
 len:Nn.length=k
 le:k≤M.length
 own:∀x∈Nn,Y.own (Xo w0 ad v) x w
theorem TL.start (h:OwS (Xd w0 ad) Y.e Y.n v M.length (Y.fl M) w):TL Y w0 ad v M [] 0 w:=⟨h,rfl,wZ _,fun x hx=>by cases hx⟩
theorem TL.ret (h:TL Y w0 ad v M Nn k w) (hb:Bl w w'):TL Y w0 ad v M Nn k w':=⟨h.row.ret hb,h.len,h.le,fun x hx=>Y.ownRet _ _ _ _ (h.own x hx) hb⟩
theorem TL.alloc (h:TL Y w0 ad v M Nn k w) (A:Nat) (hA:w.heap.size=A) (hb:Bl w w'):TL Y w0 (ad++[A]) v M Nn k w':=by
 have key:∀g,g<w.heap.size→g ∉ ad→g ∉ ad++[A]:=fun g hl hg hm=>by
  rcases wt.1 hm with hm | hm
  ·exact hg hm
  ·have:=wS.1 hm
   omega
 exact⟨(h.row.mono fun g hl hg=>⟨hg.1,key g hl hg.2⟩).ret hb,h.len,h.le,fun x hx=>Y.ownRet _ _ _ _ (Y.ownMono _ _ _ _ (h.own x hx) fun g hl hg=>⟨hg.1,key g hl hg.2.1,hg.2.2⟩) hb⟩
theorem TL.sub {ad':List Nat} (h:TL Y w0 ad v M Nn k w) (hs:∀a∈ad',a∈ad):TL Y w0 ad' v M Nn k w:=
 ⟨h.row.mono fun _ _ hg=>⟨hg.1,fun hm=>hg.2 (hs _ hm)⟩,h.len,h.le,fun x hx=>Y.ownMono _ _ _ _ (h.own x hx) fun _ _ hg=>⟨hg.1,fun hm=>hg.2.1 (hs _ hm),hg.2.2⟩⟩
theorem TL.done (h:TL Y w0 ad v M Nn M.length w):OwL Y (Xd w0 ad) v Nn w:=by
 have hr:=h.row;rw[List.drop_length,wO] at hr;exact⟨by rw[h.len];exact hr,fun x hx=>Y.ownMono _ _ _ _ (h.own x hx) fun _ _ hg=>⟨hg.1,hg.2.1⟩⟩
theorem TL.form (h:TL Y w0 ad v M Nn k w) (hk:k<M.length):∃g c,v=.slice (some ⟨g,0,none⟩) M.length c∧w0.heap.size≤g∧g ∉ ad∧g<w.heap.size∧M.length≤c:=by
 obtain⟨a,c,hv,hc⟩:=h.row.form
 rcases h.row.1.2 with ⟨_,h0⟩ | ⟨g,cap,cur,e1,_⟩
 ·omega
 ·have hg : v.ownBlock = some g := by rw [e1]; rfl
  have hs:=h.row.2 g hg;rw[e1] at hv;simp only[wR] at hv;obtain⟨_,_,rfl⟩:=hv;exact⟨g,cap,e1,hs.1,hs.2,h.row.lt hg,hc⟩
theorem TL.at_ (h:TL Y w0 ad v M Nn k w) {p:α} (hk:M[k]?=some p):(Nn++M.drop k)[k]?=some p:=by
 rw[xf (by rw[h.len];exact wQ _),h.len,xt,List.getElem?_drop,xp];exact hk
theorem TL.cell (h:TL Y w0 ad v M Nn k w) {g c:Nat} (hv:v=.slice (some ⟨g,0,none⟩) M.length c) {p:α} (hk:M[k]?=some p) (j:Nat) {u:Value} (hj:(Y.cs p)[j]?=some u):w.cell? ⟨g,k*Y.n+j,none⟩=some u∧w.frozen? ⟨g,k*Y.n+j,none⟩=false:=by
 have hr:=h.row.1;rw[hv] at hr
 have hkl:k<(Nn++M.drop k).length:=by
  rcases wq k (Nn++M.drop k).length with h1 | h1
  ·exact h1
  ·have:=h.at_ hk;rw[wy h1] at this;cases this
 have hge:(Nn++M.drop k)[k]=p:=by have:=h.at_ hk;rw[wA hkl] at this;exact wF this
 have hjn:j<Y.n:=by
  rcases wq j Y.n with h3 | h3
  ·exact h3
  ·rw[wy (by rw[Y.len];exact h3)] at hj;cases hj
 have hf:=fp Y _ k hkl j hjn;rw[hge,hj] at hf;have hc:=hr.cells (g:=g) rfl _ _ hf;rw[Addr.add_lit,xe] at hc;exact⟨hc,hr.frozenAt _⟩
theorem TL.step (h:TL Y w0 ad v M Nn k w) {g c j o:Nat} {p p':α} {vs:List Value} (hv:v=.slice (some ⟨g,0,none⟩) M.length c) (hk:M[k]?=some p) (hj:j+vs.length≤Y.n) (e:fL (Y.cs p) j vs=Y.cs p') (ho:Y.own (Xo w0 ad v) p' w) (hoo:o=k*Y.n+j) (e':w.setCells g o vs=w'):TL Y w0 ad v M (Nn++[p']) (k+1) w':=by
 subst e';subst hoo
 have hkl:k<M.length:=by
  rcases wq k M.length with h1 | h1
  ·exact h1
  ·rw[wy h1] at hk;cases hk
 have hM:M[k]=p:=by rw[wA hkl] at hk;exact wF hk
 have hset:(Nn++M.drop k).set k p'=(Nn++[p'])++M.drop (k+1):=by
  rw[xo _ _ (by rw[h.len];exact wQ _),h.len,xt,wv hkl,List.set_cons_zero,List.append_assoc]
  rfl
 have hob:v.ownBlock=some g:=by rw[hv];rfl
 have hkeep:∀x,Y.own (Xo w0 ad v) x w→Y.own (Xo w0 ad v) x (w.setCells g (k*Y.n+j) vs):=fun x hx=>Y.ownKeep _ _ _ _ hx fun i hi=>cG vs w g _ i fun e=>hi.2.2 (by rw[e];exact hob)
 refine⟨⟨?_,h.row.2⟩,by rw[xd,h.len];rfl,hkl,fun x hx=>?_⟩
 ·have hr:=h.row.1
  rw[hv] at hr ⊢;have:=dW vs hr (k*Y.n+j);rw[rT Y _ k j p p' vs (h.at_ hk) hj e,hset] at this;exact this
 ·rcases wt.1 hx with hx | hx
  ·exact hkeep x (h.own x hx)
  ·cases wS.1 hx
   exact hkeep _ ho
theorem TL.far (h:TL Y w0 ad v M Nn k w) (hq:Bl w0 w) (ha:∀a∈ad,a<w.heap.size):∀g,w.heap.size≤g→Xo w0 ad v g:=fun g hg=>⟨xk hq.size hg,fun hm=>by have:=ha g hm;omega,fun e=>by have:=h.row.lt e;omega⟩
end
structure HpX (A:Nat) (cs:List Value) (t:TypeId) (w:World):Prop where
 h:w.heap[A]?=some (.cells cs.toArray t (0,0))
theorem HpX.lt {A:Nat} {cs:List Value} {t:TypeId} {w:World} (h:HpX A cs t w):A<w.heap.size:=by
 rcases wq A w.heap.size with h1 | h1
 ·exact h1
 ·have:=h.h;rw[Array.getElem?_eq_none h1] at this;cases this
theorem HpX.ret {A:Nat} {cs:List Value} {t:TypeId} {w w':World} (h:HpX A cs t w) (hb:Bl w w'):HpX A cs t w':=⟨(hb.block A h.lt).trans h.h⟩
theorem Sx.grown {w0 w w':World} {bs:Bs} {r:Option Nat} (h:Sx w0 bs w) (hg:w.grownBy w' r) (hr:∀g,r=some g→w0.heap.size≤g∧g ∉ bs.map Prod.fst):Sx w0 bs w':=
 ⟨fun b hb=>⟨(h.bx b hb).1.same (hg.block _ (h.lt b hb) (fun e=>(hr b.1 e.symm).2 (xr hb))),(h.bx b hb).2⟩,h.pw,h.q.trans ((Below.refl w0.heap.size w).grown hg h.q.size (fun k hk=>(hr k hk).1))⟩
end Go.Proofs.YtjgeiieiinmdnaaGreatDoor
