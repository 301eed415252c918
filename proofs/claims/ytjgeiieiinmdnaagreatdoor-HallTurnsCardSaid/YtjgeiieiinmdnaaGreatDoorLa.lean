/- HaG, HaM, HaI, HaP, HaS, HaT: put together by mergetpl.py. -/
import Derived.Test.YtjgeiieiinmdnaaGreatDoorKy
open Go.Proofs.Tryz
open Bool renaming and_eq_true→wu
open Go.Value.slice renaming injEq→wI
open Go.World renaming setCells→wX
open List renaming take_append_drop→wo,drop_eq_getElem_cons→wq,getElem?_eq_none→wt,getElem?_eq_getElem→wv,mem_cons→ww,not_mem_nil→wy,mem_iff_getElem→wz,filter_append→wA,length_cons→wC,length_take→wD,set_eq_take_append_cons_drop→wE,getD→wF,append_nil→wG,getElem_cons_succ→wK,length_drop→wL,getElem_drop→wM,find?_eq_none→wN,nil_append→wO,length_append→wQ,getElem?_append_right→wS,set_append_right→wY,mem_map_of_mem→xe,mem_append→xf,mem_singleton→xg
open Nat renaming lt_or_ge→wh,succ_mul→ws,le_refl→wH,zero_le→wP,zero_add→wR,le_add_right→wT,add_sub_cancel_left→wU,add_assoc→wV,le_trans→wW,add_zero→wZ,sub_self→xh
open Option.some renaming inj→wB,injEq→xd
namespace Go.Proofs.YtjgeiieiinmdnaaGreatDoor
def bm (s:List UInt8):Bool:=cP s&&decide (bC (aO s) (aZ s) (aP s)=s)
theorem mv {a b:List UInt8} (ha:bm a=true) (hb:bm b=true) (h:adr a=adr b):a=b:=by
 unfold bm at ha hb;simp only[wu,decide_eq_true_eq] at ha hb;unfold adr at h;rw[if_pos ha.1,if_pos hb.1] at h;obtain⟨h1,h2⟩:=Prod.mk.inj h;obtain⟨h2,h3⟩:=Prod.mk.inj h2;rw[←ha.2,←hb.2,h1,h2,h3]
section
variable {α:Type} {nm:α→List UInt8} 
def chG (nm:α→List UInt8):List α→Bool
 | a :: b :: l=>au (nm a) (nm b)&&chG nm (b :: l)
 | _=>true
theorem dX {a:α} {l:List α} (h:chG nm (a :: l)=true):chG nm l=true:=by
 cases l with
 | nil=>rfl
 | cons b l=>unfold chG at h;rw[wu] at h;exact h.2
theorem a7:∀{a:α} {l:List α},chG nm (a :: l)=true→∀x∈l,au (nm a) (nm x)=true
 | a,[],_,x,hx=>by cases hx
 | a,b :: l,h,x,hx=>by
  have h2:=h;unfold chG at h2;rw[wu] at h2
  cases hx with
  | head=>exact h2.1
  | tail _ hx=>exact cU h2.1 (a7 h2.2 x hx)
theorem lj {a:α} {l:List α} (h:∀x∈l,au (nm a) (nm x)=true) (hl:chG nm l=true):chG nm (a :: l)=true:=by
 cases l with
 | nil=>rfl
 | cons b l=>unfold chG;rw[h b (List.mem_cons_self ..),hl];rfl
theorem bW:∀{l r:List α},chG nm (l++r)=true→chG nm l=true∧chG nm r=true∧∀x∈l,∀y∈r,au (nm x) (nm y)=true
 | [],r,h=>⟨rfl,h,fun x hx=>by cases hx⟩
 | a :: l,r,h=>by
  rw[List.cons_append] at h;obtain⟨h1,h2,h3⟩:=bW (dX h);have hh:=a7 h;refine⟨lj (fun x hx=>hh x (List.mem_append_left _ hx)) h1,h2,fun x hx y hy=>?_⟩
  cases hx with
  | head=>exact hh y (List.mem_append_right _ hy)
  | tail _ hx=>exact h3 x hx y hy
def poG (nm:α→List UInt8) (L:List α) (t:List UInt8):Nat:=(L.takeWhile fun x=>au (nm x) t).length
def fiG (nm:α→List UInt8) (L:List α) (t:List UInt8):Option α:=L.find? fun x=>(nm x)==t
theorem ml (L:List α) (t:List UInt8):poG nm L t≤L.length:=(List.takeWhile_sublist _).length_le
theorem cF:∀{L:List α} {t:List UInt8},chG nm L=true→∀k (h:k<L.length),au (nm (L[k])) t=decide (k<poG nm L t)
 | [],_,_,k,h=>by simp at h
 | a :: l,t,hc,k,h=>by
  unfold poG;rw[List.takeWhile_cons]
  cases ha:au (nm a) t with
  | true=>
   simp only[if_true,wC]
   cases k with
   | zero=>simp[ha]
   | succ k=>
    have:=cF (dX hc) (t:=t) k (by simpa using h);rw[wK,this];exact decide_eq_decide.2 (by unfold poG;omega)
  | false=>
   simp only[Bool.false_eq_true,if_false,List.length_nil]
   cases k with
   | zero=>simp[ha]
   | succ k=>
    rw[wK];have hm:l[k]'(by simpa using h)∈l:=List.getElem_mem _;have h1:=a7 hc _ hm
    cases h2:au (nm (l[k]'(by simpa using h))) t with
    | false=>simp
    | true=>have:=cU h1 h2;rw[ha] at this;cases this
theorem dD {L:List α} {t:List UInt8} (hc:chG nm L=true):(∀x∈L.take (poG nm L t),au (nm x) t=true)∧(∀x∈L.drop (poG nm L t),au (nm x) t=false):=by
 constructor
 ·intro x hx
  obtain⟨i,hi,rfl⟩:=wz.1 hx;rw[wD] at hi;rw[List.getElem_take,cF hc i (by omega)];exact decide_eq_true (by omega)
 ·intro x hx
  obtain⟨i,hi,rfl⟩:=wz.1 hx;rw[wL] at hi;rw[wM,cF hc _ (by omega)];exact decide_eq_false (by omega)
def woG (nm:α→List UInt8) (L:List α) (t:List UInt8):List α:=L.filter fun x=>!((nm x)==t)
def wiG (nm:α→List UInt8) (L:List α) (x:α):List α:=((woG nm L (nm x)).filter fun y=>au (nm y) (nm x))++x :: ((woG nm L (nm x)).filter fun y=>au (nm x) (nm y))
theorem dm {L:List α} (hc:chG nm L=true) (t:List UInt8):(∀x∈L.take (poG nm L t),∀y∈L.drop (poG nm L t),au (nm x) (nm y)=true)∧chG nm (L.take (poG nm L t))=true∧chG nm (L.drop (poG nm L t))=true:=by
 have h:chG nm (L.take (poG nm L t)++L.drop (poG nm L t))=true:=by rw[wo];exact hc
 obtain⟨h1,h2,h3⟩:=bW h;exact⟨h3,h1,h2⟩
theorem g8 {L:List α} {k:Nat} (h:k<L.length) (x:α):L.set k x=L.take k++x :: L.drop (k+1):=by
 rw[wE,if_pos h]
theorem bu {p:α→Bool} {l:List α} (h:∀x∈l,p x=true):l.filter p=l:=List.filter_eq_self.2 h
theorem dj {p:α→Bool} {l:List α} (h:∀x∈l,p x=false):l.filter p=[]:=List.filter_eq_nil_iff.2 fun x hx=>by rw[h x hx];decide
/-! ### what is found behind it -/
theorem cI {L:List α} {t:List UInt8} {x:α} (h:fiG nm L t=some x):x∈L∧(nm x)=t:=by
 unfold fiG at h;exact⟨List.mem_of_find?_eq_some h,by have:=List.find?_some h;simpa using this⟩
end
section
variable {α:Type} {nm:α→List UInt8} [Inhabited α]
theorem fS (l:List α) (x:α):chG nm (l++[x])=(chG nm l&&(l.isEmpty||au (nm (l.getLastD default)) (nm x))):=by
 induction l with
 | nil=>rfl
 | cons a l ih=>
  cases l with
  | nil=>simp[chG]
  | cons b l=>
   show (au (nm a) (nm b)&&chG nm ((b :: l)++[x]))=((au (nm a) (nm b)&&chG nm (b :: l))&&_)
   rw[ih,Bool.and_assoc]
   rfl

def thG (nm:α→List UInt8) (L:List α) (t:List UInt8):Bool:=decide (poG nm L t<L.length)&&((nm (L.getD (poG nm L t) default))==t)
theorem dE {L:List α} {t:List UInt8} (hc:chG nm L=true) (hx:∃x∈L,(nm x)=t):thG nm L t=true:=by
 obtain⟨x,hx,rfl⟩:=hx;obtain⟨i,hi,rfl⟩:=wz.1 hx
 have h1:¬ i<poG nm L (nm (L[i])):=fun h=>by
  have:=cF hc (t:=(nm (L[i]))) i hi;rw[bg,decide_eq_true h] at this
  cases this
 have h2:poG nm L (nm (L[i]))=i:=by
  rcases wh (poG nm L (nm (L[i]))) i with h | h
  ·have h3:=cF hc (t:=(nm (L[i]))) (poG nm L (nm (L[i]))) (by omega)
   rw[decide_eq_false (Nat.lt_irrefl _)] at h3
   have h4:au (nm (L[poG nm L (nm (L[i]))]'(by omega))) (nm (L[i]))=true:=by
    have hs:L=L.take (poG nm L (nm (L[i])))++L.drop (poG nm L (nm (L[i]))):=(wo _ _).symm
    have xx:=hc;rw[hs] at xx;obtain⟨_,hr,_⟩:=bW xx
    have hd:L.drop (poG nm L (nm (L[i])))=L[poG nm L (nm (L[i]))]'(by omega) :: L.drop (poG nm L (nm (L[i]))+1):=wq (by omega)
    rw[hd] at hr;refine a7 hr _ ?_;rw[wz];refine⟨i-(poG nm L (nm (L[i]))+1),by rw[wL];omega,?_⟩;rw[wM]
    congr 1
    omega
   rw[h4] at h3
   cases h3
  ·omega
 unfold thG;rw[h2,decide_eq_true hi]
 simp[wF,hi]
theorem dZ {L:List α} {t:List UInt8} (hc:chG nm L=true):(thG nm L t=true→fiG nm L t=some (L.getD (poG nm L t) default))∧(thG nm L t=false→fiG nm L t=none):=by
 have xp:thG nm L t=false→fiG nm L t=none:=fun h=>by
  unfold fiG;rw[wN];intro x hx e;have:=dE hc ⟨x,hx,by simpa using e⟩;rw[h] at this
  cases this
 refine⟨fun h=>?_,xp⟩;unfold thG at h;rw[wu,decide_eq_true_eq,beq_iff_eq] at h;obtain⟨h1,h2⟩:=h
 have hg:L.getD (poG nm L t) default=L[poG nm L t]:=by simp[wF,h1]
 rw[hg] at h2 ⊢
 have hs:L=L.take (poG nm L t)++L[poG nm L t] :: L.drop (poG nm L t+1):=by
  rw[←wq h1,wo]
 obtain⟨X,hX⟩:=e_ (L[poG nm L t]);rw[hX] at h2 hs ⊢
 have xD:∀x∈L.take (poG nm L t),¬ ((nm x)==t)=true:=fun x hx e=>by
  have:=(dD hc (t:=t)).1 x hx;rw[beq_iff_eq] at e;rw[e,bg] at this
  cases this
 unfold fiG
 have hf:∀l:List α,(∀x∈l,¬ ((nm x)==t)=true)→(l++X :: L.drop (poG nm L t+1)).find? (fun x=>(nm x)==t)=some X:=fun l hl=>by
  rw[List.find?_append,wN.2 hl]
  simp[h2]
 have:=hf _ xD
 rwa [←hs] at this
def puG (nm:α→List UInt8) (L:List α) (x:α):List α:=if thG nm L (nm x) then L.set (poG nm L (nm x)) x else L.take (poG nm L (nm x))++x :: L.drop (poG nm L (nm x))
theorem cX {L:List α} {t:List UInt8} (h:thG nm L t=true):∃(hp:poG nm L t<L.length),(nm (L[poG nm L t]))=t∧L.drop (poG nm L t)=L[poG nm L t] :: L.drop (poG nm L t+1):=by
 unfold thG at h;rw[wu,decide_eq_true_eq,beq_iff_eq] at h;obtain⟨h1,h2⟩:=h
 have hg:L.getD (poG nm L t) default=L[poG nm L t]:=by simp[wF,h1]
 rw[hg] at h2;exact⟨h1,h2,wq h1⟩
theorem ig {L:List α} {t:List UInt8} (hc:chG nm L=true) (h:thG nm L t=false):∀x∈L,(nm x)≠t:=fun x hx e=>by
 have:=dE hc ⟨x,hx,e⟩;rw[h] at this
 cases this
theorem gH {L:List α} {t:List UInt8} (hc:chG nm L=true) (h:thG nm L t=true):woG nm L t=L.take (poG nm L t)++L.drop (poG nm L t+1):=by
 obtain⟨hp,hj,hd⟩:=cX h;obtain⟨h1,h2,h3⟩:=dm hc t
 have e:L=L.take (poG nm L t)++L[poG nm L t] :: L.drop (poG nm L t+1):=by rw[←hd,wo]
 have hA:∀x∈L.take (poG nm L t),(!((nm x)==t))=true:=fun x hx=>by
  have:=(dD hc (t:=t)).1 x hx
  cases hb:(nm x)==t with
  | false=>rfl
  | true=>rw[beq_iff_eq.1 hb,bg] at this;cases this
 have hB:∀x∈L.drop (poG nm L t+1),(!((nm x)==t))=true:=fun x hx=>by
  rw[hd] at h3;have:=a7 h3 x hx;rw[hj] at this
  cases hb:(nm x)==t with
  | false=>rfl
  | true=>rw[beq_iff_eq.1 hb,bg] at this;cases this
 unfold woG
 conv=>lhs;rw[e]
 rw[wA,List.filter_cons,bu hA,bu hB]
 have:(!((nm (L[poG nm L t]))==t))=false:=by rw[hj];simp
 rw[this]
 simp
theorem kC {L:List α} {t:List UInt8} (hc:chG nm L=true) (h:thG nm L t=false):woG nm L t=L:=
 bu fun x hx=>by simpa using ig hc h x hx
theorem o5 {L:List α} {x:α} (hc:chG nm L=true) (hL:∀y∈L,bm (nm y)=true) (hx:bm (nm x)=true):wiG nm L x=puG nm L x:=by
 obtain⟨h1,h2,h3⟩:=dm hc (nm x);obtain⟨p1,p2⟩:=dD hc (t:=(nm x))
 have xy:(L.take (poG nm L (nm x))).filter (fun y=>au (nm y) (nm x))=L.take (poG nm L (nm x)):=bu p1
 have xz:(L.take (poG nm L (nm x))).filter (fun y=>au (nm x) (nm y))=[]:=dj fun y hy=>eN (p1 y hy)
 unfold wiG puG
 cases h:thG nm L (nm x) with
 | true=>
  obtain⟨hp,hj,hd⟩:=cX h;rw[hd] at h3
  have hb:∀y∈L.drop (poG nm L (nm x)+1),au (nm x) (nm y)=true:=fun y hy=>by
   have:=a7 h3 y hy
   rwa [hj] at this
  rw[if_pos rfl,gH hc h,wA,wA,xy,xz,bu hb,dj (fun y hy=>eN (hb y hy)),g8 hp,wG,wO]
 | false=>
  have hb:∀y∈L.drop (poG nm L (nm x)),au (nm x) (nm y)=true:=fun y hy=>by
   cases hq:au (nm x) (nm y) with
   | true=>rfl
   | false=>
    have hm:=List.mem_of_mem_drop hy;have:=mv (hL y hm) hx (mq (p2 y hy) hq);exact absurd this (ig hc h y hm)
  rw[if_neg (by decide),kC hc h]
  have e:∀p:α→Bool,L.filter p=(L.take (poG nm L (nm x))).filter p++(L.drop (poG nm L (nm x))).filter p:=fun p=>by rw[←wA,wo]
  rw[e,e,xy,xz,dj (fun y hy=>eN (hb y hy)),bu hb,wG,wO]
end
open Go.RowKit Go.Lib

def OwS (S:Nat→Prop) (e:TypeId) (size:Nat) (v:Value) (n:Nat) (xs:List Value) (w:World):Prop:=w.ownsRow 0 e size v n xs∧∀g,v.ownBlock=some g→S g
section
variable {S S':Nat→Prop} {e:TypeId} {size n B:Nat} {v:Value} {xs:List Value} {w w':World}
theorem OwS.ret (h:OwS S e size v n xs w) (hb:Bl w w'):OwS S e size v n xs w':=⟨aQ h.1 hb,h.2⟩
theorem OwS.lt (h:OwS S e size v n xs w) {g:Nat} (hg:v.ownBlock=some g):g<w.heap.size:=(h.1.lt g hg).2
theorem OwS.mono (h:OwS S e size v n xs w) (hs:∀g,g<w.heap.size→S g→S' g):OwS S' e size v n xs w:=⟨h.1,fun g hg=>hs g (h.lt hg) (h.2 g hg)⟩
theorem OwS.of (h:w.ownsRow B e size v n xs):OwS (fun g=>B≤g) e size v n xs w:=⟨h.mono (wP _),fun g hg=>(h.lt g hg).1⟩
theorem OwS.owns (h:OwS S e size v n xs w) (hs:∀g,S g→B≤g):w.ownsRow B e size v n xs:=by
 refine⟨h.1.1,?_⟩
 rcases h.1.2 with h1 | ⟨g,cap,xo,e1,_,hg,r⟩
 ·exact .inl h1
 ·exact .inr ⟨g,cap,xo,e1,hs g (h.2 g (by rw[e1];rfl)),hg,r⟩
theorem OwS.keep (h:OwS S e size v n xs w) (hk:∀k,S k→w'.heap[k]?=w.heap[k]?):OwS S e size v n xs w':=by
 refine⟨⟨h.1.1,?_⟩,h.2⟩
 rcases h.1.2 with h1 | ⟨g,cap,xo,e1,hb,hg,r⟩
 ·exact .inl h1
 ·exact .inr ⟨g,cap,xo,e1,hb,by rw[hk g (h.2 g (by rw[e1];rfl))];exact hg,r⟩
theorem OwS.nil (S:Nat→Prop) (e:TypeId) (size:Nat) (w:World):OwS S e size (.slice none 0 0) 0 [] w:=⟨World.ownsRow_nil _ _ _ _,fun g hg=>by cases hg⟩
theorem OwS.row (h:OwS S e size v n xs w):cx size v n xs w:=tm h.1
theorem OwS.form (h:OwS S e size v n xs w):∃a cap,v=.slice a n cap∧n≤cap:=by
 rcases h.1.2 with ⟨h1,h2⟩ | ⟨g,cap,xo,e1,_,_,h2,_⟩
 ·exact⟨none,0,by rw[h1,h2],by omega⟩
 ·exact⟨_,cap,e1,h2⟩
end
abbrev Xd (w0:World) (ad:List Nat):Nat→Prop:=fun g=>w0.heap.size≤g∧g ∉ ad

structure Ly (α:Type) where
 n:Nat
 e:TypeId
 cs:α→List Value
 len:∀x,(cs x).length=n
 one:∀x,∀u∈cs x,u.oneCell'=true
 sub:α→World→Prop
 own:(Nat→Prop)→α→World→Prop
 subRet:∀x w w',sub x w→Bl w w'→sub x w'
 ownSub:∀S x w,own S x w→sub x w
 ownRet:∀S x w w',own S x w→Bl w w'→own S x w'
 ownMono:∀(S S':Nat→Prop) x w,own S x w→(∀g,g<w.heap.size→S g→S' g)→own S' x w
 ownKeep:∀(S:Nat→Prop) x w w',own S x w→(∀k,S k→w'.heap[k]?=w.heap[k]?)→own S x w'
section
variable {α:Type} {Y:Ly α}
def Ly.fl (Y:Ly α) (M:List α):List Value:=M.flatMap Y.cs
theorem cB (Y:Ly α) (p:α) (M:List α):Y.fl (p :: M)=Y.cs p++Y.fl M:=rfl
theorem dP (Y:Ly α) (M N:List α):Y.fl (M++N)=Y.fl M++Y.fl N:=by simp[Ly.fl]
theorem gW (Y:Ly α) (p:α):Y.fl [p]=Y.cs p:=by simp[Ly.fl]
theorem dq (Y:Ly α) (M:List α):(Y.fl M).length=M.length*Y.n:=by
 induction M with
 | nil=>simp[Ly.fl]
 | cons p M ih=>rw[cB,wQ,ih,Y.len,wC,ws,Nat.add_comm]
theorem dh (Y:Ly α):∀(M:List α) (k:Nat) (h:k<M.length) (c:Nat) (_:c<Y.n),(Y.fl M)[k*Y.n+c]?=(Y.cs M[k])[c]?
 | [],k,h,_,_=>by simp at h
 | p :: M,0,_,c,hc=>by
  rw[cB,Nat.zero_mul,wR,List.getElem?_append_left (by rw[Y.len];exact hc)]
  simp
 | p :: M,k+1,h,c,hc=>by
  rw[cB,wS (by rw[Y.len,ws];omega),Y.len]
  have e:(k+1)*Y.n+c-Y.n=k*Y.n+c:=by rw[ws];omega
  rw[e];exact dh Y M k (by simpa using h) c hc
theorem iN (Y:Ly α) (M:List α) (k:Nat):Y.fl (M.take k)=(Y.fl M).take (k*Y.n):=by
 induction M generalizing k with
 | nil=>simp[Ly.fl]
 | cons p M ih=>
  cases k with
  | zero=>simp[Ly.fl]
  | succ k=>
   rw[List.take_succ_cons,cB,cB,ih];have:(k+1)*Y.n=(Y.cs p).length+k*Y.n:=(by rw[Y.len,ws];omega);rw[this,List.take_append,List.take_of_length_le (l:=Y.cs p) (wT _ _),wU]
theorem pf (Y:Ly α) (M:List α) (k:Nat):Y.fl (M.drop k)=(Y.fl M).drop (k*Y.n):=by
 induction M generalizing k with
 | nil=>simp[Ly.fl]
 | cons p M ih=>
  cases k with
  | zero=>simp
  | succ k=>
   rw[List.drop_succ_cons,cB,ih];have:(k+1)*Y.n=(Y.cs p).length+k*Y.n:=(by rw[Y.len,ws];omega);rw[this,List.drop_append]
   simp
theorem dV (Y:Ly α) (M:List α):∀u∈Y.fl M,u.oneCell'=true:=by
 intro u hu;obtain⟨p,hp,hu⟩:=List.mem_flatMap.1 hu;exact Y.one p u hu
def IsL (Y:Ly α) (v:Value) (M:List α) (w:World):Prop:=cx Y.n v M.length (Y.fl M) w∧(∃a cap,v=.slice a M.length cap∧M.length≤cap)∧∀x∈M,Y.sub x w
def OwL (Y:Ly α) (S:Nat→Prop) (v:Value) (M:List α) (w:World):Prop:=OwS S Y.e Y.n v M.length (Y.fl M) w∧∀x∈M,Y.own S x w
variable {S S':Nat→Prop} {v:Value} {M:List α} {w w':World}
theorem IsL.ret (h:IsL Y v M w) (hb:Bl w w'):IsL Y v M w':=⟨h.1.ret hb,h.2.1,fun x hx=>Y.subRet _ _ _ (h.2.2 x hx) hb⟩
theorem IsL.nil (Y:Ly α) (w:World):IsL Y (.slice none 0 0) [] w:=⟨cx.nil _ w,⟨none,0,rfl,wH _⟩,fun x hx=>by cases hx⟩
theorem IsL.form (h:IsL Y v M w):∃a cap,v=.slice a M.length cap∧M.length≤cap:=h.2.1
theorem OwL.isL (h:OwL Y S v M w):IsL Y v M w:=⟨h.1.row,h.1.form,fun x hx=>Y.ownSub _ _ _ (h.2 x hx)⟩
theorem OwL.ret (h:OwL Y S v M w) (hb:Bl w w'):OwL Y S v M w':=⟨h.1.ret hb,fun x hx=>Y.ownRet _ _ _ _ (h.2 x hx) hb⟩
theorem OwL.mono (h:OwL Y S v M w) (hs:∀g,g<w.heap.size→S g→S' g):OwL Y S' v M w:=⟨h.1.mono hs,fun x hx=>Y.ownMono _ _ _ _ (h.2 x hx) hs⟩
theorem OwL.keep (h:OwL Y S v M w) (hk:∀k,S k→w'.heap[k]?=w.heap[k]?):OwL Y S v M w':=⟨h.1.keep hk,fun x hx=>Y.ownKeep _ _ _ _ (h.2 x hx) hk⟩
theorem OwL.nil (Y:Ly α) (S:Nat→Prop) (w:World):OwL Y S (.slice none 0 0) [] w:=⟨OwS.nil _ _ _ _,fun x hx=>by cases hx⟩
theorem IsL.cells (h:IsL Y v M w) {k:Nat} {x:α} (hk:M[k]?=some x):∃b off cap,v=.slice (some ⟨b,off,none⟩) M.length cap∧M.length≤cap∧∀w',Bl w w'→∀j u,(Y.cs x)[j]?=some u→w'.cell? ⟨b,off+k*Y.n+j,none⟩=some u:=by
 obtain⟨⟨hl,a,cap,rfl,_,hc⟩,⟨a',xI,hv,xA⟩,_⟩:=h;simp only[wI] at hv;obtain⟨rfl,_,rfl⟩:=hv
 have xn:k<M.length:=by
  rcases wh k M.length with h1 | h1
  ·exact h1
  ·rw[wt h1] at hk;cases hk
 have hx:M[k]=x:=by rw[wv xn] at hk;exact wB hk
 rcases hc with h0 | ⟨b,off,rfl,h1,h2⟩
 ·omega
 ·refine⟨b,off,cap,rfl,xA,fun w' hb j u hj=>?_⟩
  have xu:j<Y.n:=by
   rcases wh j Y.n with h3 | h3
   ·exact h3
   ·rw[wt (by rw[Y.len];exact h3)] at hj;cases hj
  have xB:k*Y.n+j<(Y.fl M).length:=by
   rw[dq];have:(k+1)*Y.n≤M.length*Y.n:=Nat.mul_le_mul_right _ xn;rw[ws] at this
   omega
  have d:=h2 (k*Y.n+j) xB;have i:=dh Y M k xn j xu;rw[hx,hj,wv xB] at i;obtain⟨q,-⟩:=ag hb;rw[q _ _ h1,wV,d];exact i
end
section
variable {α:Type} {Y:Ly α} {w0 w w':World} {bs:Bs} {ad:List Nat} {v:Value} {M:List α}
def OwZ (Y:Ly α) (w0:World) (ad:List Nat) (v:Value) (M:List α) (w:World):Prop:=OwL Y (Xd w0 ad) v M w
theorem OwZ.mk' (h:Sx w0 bs w) (ho:OwL Y (fun g=>w.heap.size≤g) v M w'):OwZ Y w0 (bs.map Prod.fst) v M w':=OwL.mono ho fun g _ hg=>⟨wW h.q.size hg,fun hm=>by
 obtain⟨b,hb,e⟩:=List.mem_map.1 hm;have:=h.lt b hb
 omega⟩
theorem OwZ.ret (h:OwZ Y w0 ad v M w) (hb:Bl w w'):OwZ Y w0 ad v M w':=OwL.ret h hb
theorem bT (vs:List Value):∀(w:World) (A o k:Nat),k≠A→(w.setCells A o vs).heap[k]?=w.heap[k]?:=by
 induction vs with
 | nil=>intro w A o k _;rfl
 | cons u r ih=>
  intro w A o k hk;rw[wX,ih _ _ _ _ hk];exact heap_setCell_other w ⟨A,o,none⟩ k u (fun e=>hk e)
theorem OwZ.sets (h:OwZ Y w0 ad v M w) (k:Nat) {A o:Nat} {vs:List Value} (hk:ad[k]?=some A) (e':w.setCells A o vs=w'):OwZ Y w0 ad v M w':=by
 subst e'
 exact OwL.keep h fun g hg=>bT vs w A o g fun e=>hg.2 (by rw[e];exact List.mem_of_getElem? hk)
theorem OwZ.own (h:OwZ Y w0 ad v M w):OwL Y (fun g=>w0.heap.size≤g) v M w:=OwL.mono h fun _ _ hg=>hg.1
end

/-! ### texts, contacts -/
def OwG (S:Nat→Prop) (v:Value) (g:List (List UInt8)) (w:World):Prop:=OwS S 9 1 v g.length (cJ g) w
theorem OwG.grp {S:Nat→Prop} {v:Value} {g:List (List UInt8)} {w:World} (h:OwG S v g w):be v g w:=be.own h.1
def OwI (S:Nat→Prop) (v:Value) (M:List Im) (w:World):Prop:=OwS S 99 8 v M.length (itV M) w∧∀p∈M,OwG S (gvI p) p.1.g w
section
variable {S S':Nat→Prop} {v:Value} {M:List Im} {w w':World} {B:Nat}
theorem OwI.items (h:OwI S v M w):aE v M w:=⟨h.1.row,fun p hp=>(h.2 p hp).grp⟩
theorem OwI.ret (h:OwI S v M w) (hb:Bl w w'):OwI S v M w':=⟨h.1.ret hb,fun p hp=>OwS.ret (h.2 p hp) hb⟩
theorem OwI.mono (h:OwI S v M w) (hs:∀g,g<w.heap.size→S g→S' g):OwI S' v M w:=⟨h.1.mono hs,fun p hp=>OwS.mono (h.2 p hp) hs⟩
theorem OwI.keep (h:OwI S v M w) (hk:∀k,S k→w'.heap[k]?=w.heap[k]?):OwI S v M w':=⟨h.1.keep hk,fun p hp=>OwS.keep (h.2 p hp) hk⟩
theorem OwI.of (h:cm B v M w):OwI (fun g=>B≤g) v M w:=⟨OwS.of h.1,fun p hp=>OwS.of (h.2 p hp)⟩
end
/-! ### attributes -/
abbrev At:=List UInt8×List UInt8×List UInt8
def atY:Ly At where
 n:=3
 e:=160
 cs a:=[.string ⟨a.1.toArray⟩,.string ⟨a.2.1.toArray⟩,.string ⟨a.2.2.toArray⟩]
 len _:=rfl
 one a u hu:=by
  simp only[ww,wy,or_false] at hu
  rcases hu with rfl | rfl | rfl <;> rfl
 sub _ _:=True
 own _ _ _:=True
 subRet _ _ _ _ _:=trivial
 ownSub _ _ _ _:=trivial
 ownRet _ _ _ _ _ _:=trivial
 ownMono _ _ _ _ _ _:=trivial
 ownKeep _ _ _ _ _ _:=trivial
/-! ### nodes -/
abbrev Nd:=Int×List UInt8×List UInt8×List At×List UInt8×Int
abbrev NdI:=Nd×(Option Addr×Nat)
abbrev ndA (p:NdI):List At:=p.1.2.2.2.1
abbrev ndV (p:NdI):Value:=.slice p.2.1 (ndA p).length p.2.2
abbrev ndC (p:NdI):List Value:=[.int .u8 p.1.1,.string ⟨p.1.2.1.toArray⟩,.string ⟨p.1.2.2.1.toArray⟩,ndV p,.string ⟨p.1.2.2.2.2.1.toArray⟩,.int .i64 p.1.2.2.2.2.2]
def ndY:Ly NdI where
 n:=6
 e:=114
 cs p:=ndC p
 len _:=rfl
 one p u hu:=by
  simp only[ww,wy,or_false] at hu
  rcases hu with rfl | rfl | rfl | rfl | rfl | rfl <;> rfl
 sub p w:=IsL atY (ndV p) (ndA p) w
 own S p w:=OwL atY S (ndV p) (ndA p) w
 subRet _ _ _ h hb:=IsL.ret h hb
 ownSub _ _ _ h:=OwL.isL h
 ownRet _ _ _ _ h hb:=OwL.ret h hb
 ownMono _ _ _ _ h hs:=OwL.mono h hs
 ownKeep _ _ _ _ h hk:=OwL.keep h hk
/-! ### trees -/
abbrev TrI:=List NdI×(Option Addr×Nat)
abbrev trV (T:TrI):Value:=.slice T.2.1 T.1.length T.2.2
abbrev trD (T:TrI):List Nd:=T.1.map Prod.fst
def trY:Ly TrI where
 n:=1
 e:=108
 cs T:=[trV T]
 len _:=rfl
 one T u hu:=by
  simp only[ww,wy,or_false] at hu
  rcases hu with rfl
  rfl
 sub T w:=IsL ndY (trV T) T.1 w
 own S T w:=OwL ndY S (trV T) T.1 w
 subRet _ _ _ h hb:=IsL.ret h hb
 ownSub _ _ _ h:=OwL.isL h
 ownRet _ _ _ _ h hb:=OwL.ret h hb
 ownMono _ _ _ _ h hs:=OwL.mono h hs
 ownKeep _ _ _ _ h hk:=OwL.keep h hk
/-! ### resources -/
abbrev Re:=List UInt8×Bool×Int×List (List Nd)×Bool×List (List UInt8)
abbrev Re.j (r:Re):List UInt8:=r.1
abbrev Re.on (r:Re):Bool:=r.2.1
abbrev Re.pr (r:Re):Int:=r.2.2.1
abbrev Re.ld (r:Re):List (List Nd):=r.2.2.2.1
abbrev Re.ask (r:Re):Bool:=r.2.2.2.2.1
abbrev Re.st (r:Re):List (List UInt8):=r.2.2.2.2.2
structure RsI where
 j:List UInt8
 on:Bool
 pr:Int
 ld:List TrI
 la:Option Addr×Nat
 ask:Bool
 st:List (List UInt8)
 sa:Option Addr×Nat
abbrev RsI.d (r:RsI):Re:=(r.j,r.on,r.pr,r.ld.map trD,r.ask,r.st)
abbrev RsI.lv (r:RsI):Value:=.slice r.la.1 r.ld.length r.la.2
abbrev RsI.sv (r:RsI):Value:=.slice r.sa.1 r.st.length r.sa.2
abbrev RsI.cs (r:RsI):List Value:=[.string ⟨r.j.toArray⟩,.bool r.on,.int .i64 r.pr,r.lv,.bool r.ask,r.sv]
abbrev RsI.v (r:RsI):Value:=.agg #[.string ⟨r.j.toArray⟩,.bool r.on,.int .i64 r.pr,r.lv,.bool r.ask,r.sv]
def rsY:Ly RsI where
 n:=6
 e:=38
 cs r:=r.cs
 len _:=rfl
 one r u hu:=by
  simp only[ww,wy,or_false] at hu
  rcases hu with rfl | rfl | rfl | rfl | rfl | rfl <;> rfl
 sub r w:=IsL trY r.lv r.ld w∧be r.sv r.st w
 own S r w:=OwL trY S r.lv r.ld w∧OwG S r.sv r.st w
 subRet _ _ _ h hb:=⟨IsL.ret h.1 hb,be.ret h.2 hb⟩
 ownSub _ _ _ h:=⟨OwL.isL h.1,OwG.grp h.2⟩
 ownRet _ _ _ _ h hb:=⟨OwL.ret h.1 hb,OwS.ret h.2 hb⟩
 ownMono _ _ _ _ h hs:=⟨OwL.mono h.1 hs,OwS.mono h.2 hs⟩
 ownKeep _ _ _ _ h hk:=⟨OwL.keep h.1 hk,OwS.keep h.2 hk⟩
/-! ### accounts -/
abbrev Ac:=List UInt8×List It×Int
structure AcI where
 j:List UInt8
 it:List Im
 ia:Option Addr×Nat
 ver:Int
abbrev AcI.d (a:AcI):Ac:=(a.j,a.it.map Prod.fst,a.ver)
abbrev AcI.iv (a:AcI):Value:=.slice a.ia.1 a.it.length a.ia.2
abbrev AcI.cs (a:AcI):List Value:=[.string ⟨a.j.toArray⟩,a.iv,.int .i64 a.ver]
abbrev AcI.v (a:AcI):Value:=.agg #[.string ⟨a.j.toArray⟩,a.iv,.int .i64 a.ver]
def acY:Ly AcI where
 n:=3
 e:=33
 cs a:=a.cs
 len _:=rfl
 one a u hu:=by
  simp only[ww,wy,or_false] at hu
  rcases hu with rfl | rfl | rfl <;> rfl
 sub a w:=aE a.iv a.it w
 own S a w:=OwI S a.iv a.it w
 subRet _ _ _ h hb:=aE.ret h hb
 ownSub _ _ _ h:=OwI.items h
 ownRet _ _ _ _ h hb:=OwI.ret h hb
 ownMono _ _ _ _ h hs:=OwI.mono h hs
 ownKeep _ _ _ _ h hk:=OwI.keep h hk

/-! ### addresses -/
def fM (s:List UInt8):Bool:=bm s&&(!(aO s).isEmpty&&!(aP s).isEmpty)
def cG (s:List UInt8):Bool:=bm s&&(!(aO s).isEmpty&&(aP s).isEmpty)
def db (s:List UInt8):List UInt8:=if cP s then bC (aO s) (aZ s) [] else []
/-! ### resources and accounts -/
def dJ (xq:List Nd→Bool) (r:Re):Bool:=
 fM r.j&&(decide (r.ld.length≤16)&&(decide (r.st.length≤8)&&(decide (-128≤r.pr)&&(decide (r.pr≤127)&&(r.ld.all xq&&(bq r.st&&(r.st.all bm&&(r.on||(decide (r.pr=0)&&r.ld.isEmpty)))))))))
def eU (a:Ac):Bool:=cG a.1&&kZ a.2.1 a.2.2
abbrev acN (a:Ac):List UInt8:=a.1
abbrev reN (r:Re):List UInt8:=r.1
def a9 (A:List Ac) (r:Re):Bool:=A.any fun a=>a.1==db r.j
def dd (xq:List Nd→Bool) (A:List Ac) (R:List Re) (m:Int):Bool:=
 decide (A.length≤8)&&(decide (R.length≤16)&&(decide (0≤m)&&(decide (m<cg)&&(A.all eU&&(chG acN A&&(R.all (fun r=>dJ xq r&&a9 A r)&&chG reN R))))))

theorem eP {B g n c size:Nat} {e:TypeId}:∀(vs:List Value) {w:World} {xs:List Value} (_:w.ownsRow B e size (.slice (some ⟨g,0,none⟩) n c) n xs) (o:Nat),(w.setCells g o vs).ownsRow B e size (.slice (some ⟨g,0,none⟩) n c) n (gz xs o vs)
 | [],_,_,h,_=>h
 | v :: r,w,xs,h,o=>by
  rw[wX];unfold gz;exact eP r (h.stored o v).1 (o+1)
theorem eh (a:List Value):∀(vs cs:List Value) (o:Nat),gz (a++cs) (a.length+o) vs=a++gz cs o vs
 | [],_,_=>rfl
 | v :: r,cs,o=>by
  unfold gz;rw[wY _ _ (wT _ _),wU,wV];exact eh a r (cs.set o v) (o+1)
theorem km:∀(vs b c:List Value),b.length=vs.length→gz (b++c) 0 vs=vs++c
 | [],b,c,h=>by
  have:b=[]:=List.eq_nil_of_length_eq_zero h
  subst this
  rfl
 | v :: r,[],c,h=>by cases h
 | v :: r,x :: b,c,h=>by
  unfold gz
  have h2:b.length=r.length:=by simpa using h
  have h3:=eh [v] r (b++c) 0;rw[km r b c h2] at h3;exact h3
theorem ul {α:Type} (Y:Ly α) (M:List α) (k:Nat) (p:α) (hk:k<M.length):gz (Y.fl M) (k*Y.n) (Y.cs p)=Y.fl (M.set k p):=by
 have e:M=M.take k++M[k] :: M.drop (k+1):=by rw[←wq hk,wo]
 have h1:Y.fl M=Y.fl (M.take k)++(Y.cs M[k]++Y.fl (M.drop (k+1))):=by
  conv=>lhs;rw[e]
  rw[dP,cB]
 have h2:(Y.fl (M.take k)).length=k*Y.n:=by rw[dq,wD];congr 1;omega
 have h3:=eh (Y.fl (M.take k)) (Y.cs p) (Y.cs M[k]++Y.fl (M.drop (k+1))) 0;rw[h2] at h3;simp only[wZ] at h3;rw[h1,h3,km _ _ _ (by rw[Y.len,Y.len]),wE,if_pos hk,dP,cB]
theorem jL {α:Type} {Y:Ly α} {w:World} {B g n c:Nat} {M:List α} (h:w.ownsRow B Y.e Y.n (.slice (some ⟨g,0,none⟩) n c) n (Y.fl M)) (hn:M.length=n) (k:Nat) (hk:k<n) (p:α):
  (w.setCells g (k*Y.n) (Y.cs p)).ownsRow B Y.e Y.n (.slice (some ⟨g,0,none⟩) n c) n (Y.fl (M.set k p)):=by
 rw[←ul Y M k p (by omega)];exact eP _ h _
theorem io {w:World} {B C g n c m size xw:Nat} {e e':TypeId} {v:Value} {xs ys:List Value} (h1:w.ownsRow B e size (.slice (some ⟨g,0,none⟩) n c) n xs) (h2:w.ownsRow C e' xw v m ys) (he:e≠e'):v.ownBlock≠some g:=by
 intro h
 rcases h2.2 with ⟨rfl,_⟩ | ⟨g',cap,xo,rfl,_,xE,_⟩
 ·cases h
 ·simp only[Value.ownBlock,xd] at h
  subst h
  rcases h1.2 with ⟨h,_⟩ | ⟨g2,xJ,xK,h,_,xt,_⟩
  ·cases h
  ·simp only[wI,xd,Addr.mk.injEq,and_true,true_and] at h
   obtain⟨rfl,rfl⟩:=h;rw[xE] at xt
   injection xt with xt
   injection xt with _ ht _
   exact he ht.symm

theorem iB:∀(vs a c:List Value) (o:Nat),o+vs.length≤a.length→gz (a++c) o vs=gz a o vs++c
 | [],_,_,_,_=>rfl
 | v :: r,a,c,o,h=>by
  rw[wC] at h;unfold gz;rw[List.set_append_left _ _ (by omega)];exact iB r (a.set o v) c (o+1) (by rw[List.length_set];omega)
theorem tu {α:Type} (Y:Ly α) (M:List α) (k j:Nat) (p p':α) (vs:List Value) (hk:M[k]?=some p) (hj:j+vs.length≤Y.n) (e:gz (Y.cs p) j vs=Y.cs p'):gz (Y.fl M) (k*Y.n+j) vs=Y.fl (M.set k p'):=by
 have xn:k<M.length:=by
  rcases wh k M.length with h1 | h1
  ·exact h1
  ·rw[wt h1] at hk;cases hk
 have hp:M[k]=p:=by rw[wv xn] at hk;exact wB hk
 have e1:M=M.take k++p :: M.drop (k+1):=by rw[←hp,←wq xn,wo]
 have h1:Y.fl M=Y.fl (M.take k)++(Y.cs p++Y.fl (M.drop (k+1))):=by
  conv=>lhs;rw[e1]
  rw[dP,cB]
 have h2:(Y.fl (M.take k)).length=k*Y.n:=by rw[dq,wD];congr 1;omega
 have h3:=eh (Y.fl (M.take k)) vs (Y.cs p++Y.fl (M.drop (k+1))) j;rw[h2] at h3;rw[h1,h3,iB vs _ _ _ (by rw[Y.len];exact hj),e,wE,if_pos xn,dP,cB]
abbrev Xo (w0:World) (ad:List Nat) (v:Value):Nat→Prop:=fun b=>w0.heap.size≤b∧b ∉ ad∧v.ownBlock≠some b
section
variable {α:Type} {Y:Ly α} {w0 w w':World} {bs:Bs} {ad:List Nat} {v:Value} {M Nn:List α} {k:Nat}
theorem Sx.far (h:Sx w0 bs w) {g o:Nat} {vs:List Value} (hg:w0.heap.size≤g) (hn:g ∉ bs.map Prod.fst) (e:w.setCells g o vs=w'):Sx w0 bs w':=by
 subst e;exact⟨fun b hb=>⟨Bx.others vs (h.bx b hb).1 (fun e=>hn (by rw[←e];exact xe hb)) o,(h.bx b hb).2⟩,h.pw,cC vs h.q hg o⟩
theorem OwL.far {S:Nat→Prop} (h:OwL Y S v M w) {g o:Nat} {vs:List Value} (hn:¬ S g) (e:w.setCells g o vs=w'):OwL Y S v M w':=by
 subst e
 exact OwL.keep h fun j hj=>bT vs w g o j fun e=>hn (e ▸ hj)
structure TL (Y:Ly α) (w0:World) (ad:List Nat) (v:Value) (M Nn:List α) (k:Nat) (w:World):Prop where
 row:OwS (Xd w0 ad) Y.e Y.n v M.length (Y.fl (Nn++M.drop k)) w
 len:Nn.length=k
 le:k≤M.length
 own:∀x∈Nn,Y.own (Xo w0 ad v) x w
theorem TL.start (h:OwS (Xd w0 ad) Y.e Y.n v M.length (Y.fl M) w):TL Y w0 ad v M [] 0 w:=⟨h,rfl,wP _,fun x hx=>by cases hx⟩
theorem TL.ret (h:TL Y w0 ad v M Nn k w) (hb:Bl w w'):TL Y w0 ad v M Nn k w':=⟨h.row.ret hb,h.len,h.le,fun x hx=>Y.ownRet _ _ _ _ (h.own x hx) hb⟩
theorem TL.alloc (h:TL Y w0 ad v M Nn k w) (A:Nat) (hA:w.heap.size=A) (hb:Bl w w'):TL Y w0 (ad++[A]) v M Nn k w':=by
 have key:∀g,g<w.heap.size→g ∉ ad→g ∉ ad++[A]:=fun g hl hg hm=>by
  rcases xf.1 hm with hm | hm
  ·exact hg hm
  ·have:=xg.1 hm
   omega
 exact⟨(h.row.mono fun g hl hg=>⟨hg.1,key g hl hg.2⟩).ret hb,h.len,h.le,fun x hx=>Y.ownRet _ _ _ _ (Y.ownMono _ _ _ _ (h.own x hx) fun g hl hg=>⟨hg.1,key g hl hg.2.1,hg.2.2⟩) hb⟩
theorem TL.sub {ad':List Nat} (h:TL Y w0 ad v M Nn k w) (hs:∀a∈ad',a∈ad):TL Y w0 ad' v M Nn k w:=
 ⟨h.row.mono fun _ _ hg=>⟨hg.1,fun hm=>hg.2 (hs _ hm)⟩,h.len,h.le,fun x hx=>Y.ownMono _ _ _ _ (h.own x hx) fun _ _ hg=>⟨hg.1,fun hm=>hg.2.1 (hs _ hm),hg.2.2⟩⟩
theorem TL.done (h:TL Y w0 ad v M Nn M.length w):OwL Y (Xd w0 ad) v Nn w:=by
 have hr:=h.row;rw[List.drop_length,wG] at hr;exact⟨by rw[h.len];exact hr,fun x hx=>Y.ownMono _ _ _ _ (h.own x hx) fun _ _ hg=>⟨hg.1,hg.2.1⟩⟩
theorem TL.form (h:TL Y w0 ad v M Nn k w) (hk:k<M.length):∃g c,v=.slice (some ⟨g,0,none⟩) M.length c∧w0.heap.size≤g∧g ∉ ad∧g<w.heap.size∧M.length≤c:=by
 obtain⟨a,c,hv,hc⟩:=h.row.form
 rcases h.row.1.2 with ⟨_,h0⟩ | ⟨g,cap,xo,e1,_⟩
 ·omega
 ·have hg : v.ownBlock = some g := by rw [e1]; rfl
  have hs:=h.row.2 g hg;rw[e1] at hv;simp only[wI] at hv;obtain⟨_,_,rfl⟩:=hv;exact⟨g,cap,e1,hs.1,hs.2,h.row.lt hg,hc⟩
theorem TL.at_ (h:TL Y w0 ad v M Nn k w) {p:α} (hk:M[k]?=some p):(Nn++M.drop k)[k]?=some p:=by
 rw[wS (by rw[h.len];exact wH _),h.len,xh,List.getElem?_drop,wZ];exact hk
theorem TL.cell (h:TL Y w0 ad v M Nn k w) {g c:Nat} (hv:v=.slice (some ⟨g,0,none⟩) M.length c) {p:α} (hk:M[k]?=some p) (j:Nat) {u:Value} (hj:(Y.cs p)[j]?=some u):w.cell? ⟨g,k*Y.n+j,none⟩=some u∧w.frozen? ⟨g,k*Y.n+j,none⟩=false:=by
 have hr:=h.row.1;rw[hv] at hr
 have xn:k<(Nn++M.drop k).length:=by
  rcases wh k (Nn++M.drop k).length with h1 | h1
  ·exact h1
  ·have:=h.at_ hk;rw[wt h1] at this;cases this
 have xF:(Nn++M.drop k)[k]=p:=by have:=h.at_ hk;rw[wv xn] at this;exact wB this
 have xu:j<Y.n:=by
  rcases wh j Y.n with h3 | h3
  ·exact h3
  ·rw[wt (by rw[Y.len];exact h3)] at hj;cases hj
 have hf:=dh Y _ k xn j xu;rw[xF,hj] at hf;have hc:=hr.cells (g:=g) rfl _ _ hf;rw[Addr.add_lit,wR] at hc;exact⟨hc,hr.frozenAt _⟩
theorem TL.step (h:TL Y w0 ad v M Nn k w) {g c j o:Nat} {p p':α} {vs:List Value} (hv:v=.slice (some ⟨g,0,none⟩) M.length c) (hk:M[k]?=some p) (hj:j+vs.length≤Y.n) (e:gz (Y.cs p) j vs=Y.cs p') (ho:Y.own (Xo w0 ad v) p' w) (xG:o=k*Y.n+j) (e':w.setCells g o vs=w'):TL Y w0 ad v M (Nn++[p']) (k+1) w':=by
 subst e';subst xG
 have xn:k<M.length:=by
  rcases wh k M.length with h1 | h1
  ·exact h1
  ·rw[wt h1] at hk;cases hk
 have hM:M[k]=p:=by rw[wv xn] at hk;exact wB hk
 have xC:(Nn++M.drop k).set k p'=(Nn++[p'])++M.drop (k+1):=by
  rw[wY _ _ (by rw[h.len];exact wH _),h.len,xh,wq xn,List.set_cons_zero,List.append_assoc]
  rfl
 have xH:v.ownBlock=some g:=by rw[hv];rfl
 have xr:∀x,Y.own (Xo w0 ad v) x w→Y.own (Xo w0 ad v) x (w.setCells g (k*Y.n+j) vs):=fun x hx=>Y.ownKeep _ _ _ _ hx fun i hi=>bT vs w g _ i fun e=>hi.2.2 (by rw[e];exact xH)
 refine⟨⟨?_,h.row.2⟩,by rw[wQ,h.len];rfl,xn,fun x hx=>?_⟩
 ·have hr:=h.row.1
  rw[hv] at hr ⊢;have:=eP vs hr (k*Y.n+j);rw[tu Y _ k j p p' vs (h.at_ hk) hj e,xC] at this;exact this
 ·rcases xf.1 hx with hx | hx
  ·exact xr x (h.own x hx)
  ·cases xg.1 hx
   exact xr _ ho
theorem TL.far (h:TL Y w0 ad v M Nn k w) (hq:Bl w0 w) (ha:∀a∈ad,a<w.heap.size):∀g,w.heap.size≤g→Xo w0 ad v g:=fun g hg=>⟨wW hq.size hg,fun hm=>by have:=ha g hm;omega,fun e=>by have:=h.row.lt e;omega⟩
end
structure HpX (A:Nat) (cs:List Value) (t:TypeId) (w:World):Prop where
 h:w.heap[A]?=some (.cells cs.toArray t (0,0))
theorem HpX.lt {A:Nat} {cs:List Value} {t:TypeId} {w:World} (h:HpX A cs t w):A<w.heap.size:=by
 rcases wh A w.heap.size with h1 | h1
 ·exact h1
 ·have:=h.h;rw[Array.getElem?_eq_none h1] at this;cases this
theorem HpX.ret {A:Nat} {cs:List Value} {t:TypeId} {w w':World} (h:HpX A cs t w) (hb:Bl w w'):HpX A cs t w':=⟨(hb.block A h.lt).trans h.h⟩
theorem Sx.grown {w0 w w':World} {bs:Bs} {r:Option Nat} (h:Sx w0 bs w) (hg:w.grownBy w' r) (hr:∀g,r=some g→w0.heap.size≤g∧g ∉ bs.map Prod.fst):Sx w0 bs w':=
 ⟨fun b hb=>⟨(h.bx b hb).1.same (hg.block _ (h.lt b hb) (fun e=>(hr b.1 e.symm).2 (xe hb))),(h.bx b hb).2⟩,h.pw,h.q.trans ((Below.refl w0.heap.size w).grown hg h.q.size (fun k hk=>(hr k hk).1))⟩
end Go.Proofs.YtjgeiieiinmdnaaGreatDoor
