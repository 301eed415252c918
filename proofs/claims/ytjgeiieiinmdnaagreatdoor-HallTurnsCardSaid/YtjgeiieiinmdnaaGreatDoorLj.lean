/- HaN, HaN2: put together by mergetpl.py. -/
import Derived.Test.YtjgeiieiinmdnaaGreatDoorLg
import Derived.Test.YtjgeiieiinmdnaaGreatDoorLh
import Derived.Test.YtjgeiieiinmdnaaGreatDoorLf
open Go.Proofs.Tryz
open Bool renaming eq_iff_iff→wD,false_eq_true→wN
open Go.Lib renaming decDigits→wq,decDigits_one→wK,toList_data→wM
open Go.Value renaming agg→ww
open Go.World renaming setCells→wo
open List renaming length→ws,mem_of_getElem?→wt,length_map→wu,length_cons→wv,length_append→wz,any_eq_true→wE,find?_eq_none→wF,mem_of_find?_eq_some→wG,find?_some→wH,append_assoc→wI
open Nat renaming le_of_ble_eq_true→wh,add_zero→wA,le_refl→wB,lt_or_ge→wL
open Option renaming isSome_iff_exists→wy,isSome_map→wC
namespace Go.Proofs.YtjgeiieiinmdnaaGreatDoor
set_option maxHeartbeats 8000000
set_option maxRecDepth 100000
open Go.RowKit Go.Lib

theorem sd {f:Nat→List UInt8} (inj:∀i j,f i=f j→i=j):∀(k:Nat) (L:List (List UInt8)),(∀i<k,f i∈L)→k≤L.length
 | 0,_,_=>Nat.zero_le _
 | k+1,L,h=>by
  have hk:=h k (Nat.lt_succ_self k)
  have:=sd inj k (L.erase (f k)) fun i hi=>(List.mem_erase_of_ne (fun e=>by have:=inj _ _ e;omega)).2 (h i (by omega))
  rw[List.length_erase_of_mem hk] at this;have:=List.length_pos_of_mem hk
  omega
def nmR (t:List UInt8) (n:Nat):List UInt8:=t++47 :: 114 :: wq n
theorem tQ {t:List UInt8} {i j:Nat} (h:nmR t i=nmR t j):i=j:=by
 unfold nmR at h;have:=List.append_cancel_left h;simp only[List.cons.injEq,true_and] at this;exact t7 this
def bo (R:List Re) (t:List UInt8):Nat→Nat→Nat
 | 0,n=>n
 | f+1,n=>if (fiG reN R (nmR t n)).isSome then bo R t f (n+1) else n
theorem jg {R:List Re} {t:List UInt8}:∀(f n k:Nat),k≤f→(∀i<k,(fiG reN R (nmR t (n+i))).isSome=true)→(fiG reN R (nmR t (n+k))).isSome=false→bo R t (f+1) n=n+k
 | f,n,0,_,_,h=>by
  unfold bo;rw[wA] at h;rw[h]
  rfl
 | 0,n,k+1,hk,_,_=>by omega
 | f+1,n,k+1,hk,h1,h2=>by
  have h0:=h1 0 (by omega);rw[wA] at h0;unfold bo;rw[h0];simp only[if_true];have e:=jg f (n+1) k (by omega) (fun i hi=>by have:=h1 (i+1) (by omega);rwa [show n+1+i=n+(i+1) by omega]) (by rwa [show n+1+k=n+(k+1) by omega]);rw[e]
  omega
theorem eo {R:List Re} {t:List UInt8} {n k:Nat} (h:∀i<k,(fiG reN R (nmR t (n+i))).isSome=true):k≤R.length:=by
 have:=sd (f:=fun i=>nmR t (n+i)) (fun i j e=>by have:=tQ e;omega) k (R.map reN) fun i hi=>by
  have hs:=h i hi;obtain⟨x,hx⟩:=wy.1 hs;obtain⟨h1,h2⟩:=cI hx;rw[←h2];exact List.mem_map_of_mem h1
 rwa [wu] at this
theorem eI (R:List Re) (t:List UInt8):∀(f n:Nat),n≤bo R t f n∧bo R t f n≤n+f
 | 0,n=>⟨wB _,wB _⟩
 | f+1,n=>by
  unfold bo
  split
  ·have:=eI R t f (n+1)
   omega
  ·omega
theorem r9 {R:List RsI} {t:List UInt8}:decide (0≤dc (fun x:RsI=>x.j==t) R)=(fiG reN (R.map RsI.d) t).isSome:=by
 rw[cO,iX,wC];rw[wD,wE,wy]
 constructor
 ·rintro ⟨x,hx,hq⟩
  cases h:R.find? fun x=>reN (RsI.d x)==t with
  | some y=>exact⟨y,rfl⟩
  | none=>exact absurd hq (by have:=wF.1 h x hx;exact this)
 ·rintro ⟨y,hy⟩
  exact⟨y,wG hy,wH (p:=fun x:RsI=>reN x.d==t) hy⟩
theorem ek (T:ByteArray) (n:Nat):(⟨(nmR T.data.toList n).toArray⟩:ByteArray)=T++⟨#[47,114]⟩++⟨(wq n).toArray⟩:=by
 unfold nmR
 have e:T=⟨T.data.toList.toArray⟩:=by simp
 conv=>rhs;rw[e,show (⟨#[47,114]⟩:ByteArray)=⟨([47,114]:List UInt8).toArray⟩ from rfl,bt,bt]
 rw[wI]
 rfl
theorem kD:∀(k n:Nat),n<10 ^ (k+1)→(wq n).length≤k+1
 | 0,n,h=>by rw[wK (by omega)];simp
 | k+1,n,h=>by
  by_cases h1:n<10
  ·rw[wK h1];simp
  ·rw[bF h1,wz]
   have:=kD k (n / 10) (by have:(10:Nat) ^ (k+1+1)=10 ^ (k+1)*10:=Nat.pow_succ ..;omega);simp only[wv,List.length_nil]
   omega
theorem bU {n:Nat} (h:n≤9223372036854775807):(wq n).length≤20:=kD 19 n (Nat.lt_of_le_of_lt h (by decide))
theorem sH (c:CoI) (T:ByteArray) (n:Nat) (w:World) (hs:IsL rsY c.rv c.R w) (hz:c.R.length≤1000) (hT:T.size≤10000) (hn:n≤9007199254740992) (ht:Tab w):Calls prog 92 #[c.v,.string T,.int .i64 n] w (Ret w (.int .i64 (bo (c.R.map RsI.d) T.data.toList (c.R.length+1) n))):=by
 obtain⟨A,⟨aa,ac⟩,R,⟨ra,rc⟩,m⟩:=c
 simp only at hz
 have hs:IsL rsY (.slice ra R.length rc) R w:=hs
 show Calls prog 92 #[.agg #[.slice aa A.length ac,.slice ra R.length rc,.int .i64 m],.string T,.int .i64 n] w (Ret w (.int .i64 (bo (R.map RsI.d) T.data.toList (R.length+1) n)))
 obtain⟨LA,xM⟩:=e_ A.length;obtain⟨LR,xH⟩:=e_ R.length;obtain⟨O,hO⟩:=e_ (bo (R.map RsI.d) T.data.toList (R.length+1) n);rw[hO];rw[xM,xH]
 have yC:IsL rsY (.slice ra LR rc) R w:=by rw[←xH];exact hs
 have yo:=hO;rw[xH] at yo
 have FI:=h_ fun (W:World) (hb:Bl w W) (k:Nat)=>show Calls prog 54 #[.agg #[.slice ra LR rc,cv],.string (T++⟨#[47,114]⟩++⟨(wq k).toArray⟩)] W (Ret W (.int .i64 (dc (fun x:RsI=>x.j==nmR T.data.toList k) R))) by
  rw[←ek];exact dA ra LR rc R (nmR T.data.toList k) W (yC.ret hb) (by omega)
 have HO:=h_ yo;have HL:=h_ xH;have HT:=h_ ht
 have g1:¬ 9223372036854775807<T.size+2:=by omega
 clear hs yC xM hO yo ht;obtain⟨W0,hW,y0,bs⟩:=Sx.start1 w [.slice aa LA ac,.slice ra LR rc,.int .i64 m] 25;have HW:=h_ hW;clear hW;have q:=bs.q;go_enter func92,ntmps92;go_wp2_with fail;rw[HW.out];go_loopw [2] (fun i wx=>∃(k:Nat),i=.int .i64 ((n+k:Nat):Int)∧(∀i<k,(fiG reN (R.map RsI.d) (nmR T.data.toList (n+i))).isSome=true)∧Sx w [(w.heap.size,[.slice aa LA ac,.slice ra LR rc,.int .i64 m])] wx) (fun i _=>n+LR+1-(intOf i).toNat)
 case atStart=>exact⟨0,rfl,(fun i hi=>by omega),bs⟩
 case round=>
  clear bs q;obtain⟨k,rfl,xT,bs⟩:=hrel;have q:=bs.q;have yZ:=eo xT;rw[wu,HL.out] at yZ
  have yD:n+k≤9223372036854775807:=by omega
  have ID:=r9 (R:=R) (t:=nmR T.data.toList (n+k))
  have CI:=h_ fun (W:World) (hb:Bl w W)=>rW (n+k) yD W (HT.out.ret hb)
  have FK:=FI.out;obtain⟨D,hD⟩:∃D:ByteArray,ByteArray.mk (wq (n+k)).toArray=D:=⟨_,rfl⟩;have xP:=CI.out;rw[hD] at xP
  have FK:=fun W hb=>FI.out W hb (n+k)
  rw[hD] at FK
  have yp:D.size≤100:=by rw[←hD,←ab];have:=bU yD;show (wq (n+k)).length≤100;omega
  have g2:¬ 9223372036854775807<T.size+2+D.size:=by omega
  have yE:IntKind.i64.wrap (((n+k:Nat):Int)+1)=((n+(k+1):Nat):Int):=by rw[IntWalk.i64_in _ (by omega)];omega
  obtain⟨I,hI⟩:=e_ (dc (fun x:RsI=>x.j==nmR T.data.toList (n+k)) R);rw[hI] at FK ID;have CI:=h_ xP;have FK:=h_ FK;have HA:=h_ xT;clear xP xT hD hI yp;obtain⟨NK,yg⟩:∃NK:Int,((n+k:Nat):Int)=NK:=⟨_,rfl⟩;rw[yg] at CI yE ⊢;have yF:=h_ yg
  cases hb0:(fiG reN (R.map RsI.d) (nmR T.data.toList (n+k))).isSome with
  | true=>
   rw[hb0] at ID;have ze:0≤I:=of_decide_eq_true ID;have yG:=h_ hb0;clear ID hb0;clear yg;have xn:=bs.b3 0;go_wp2_with fail;refine(aX aa ra LA ac LR rc m wr).mono ?_;rintro e yq ⟨rfl,hb⟩;clear xn;replace bs:=bs.ret hb;replace q:=bs.q;clear hb;have xn:=bs.b3 0;go_wp2_with fail;refine(CI.out yq q).mono ?_;rintro e yt ⟨rfl,hb⟩;clear xn;replace bs:=bs.ret hb;replace q:=bs.q;clear hb;have xn:=bs.b3 0;go_wp2_with fail;refine(FK.out yt q).mono ?_;rintro e zh ⟨rfl,hb⟩;clear xn;replace bs:=bs.ret hb;replace q:=bs.q;clear hb;go_wp2_with fail;go_roundw
   case rel => exact ⟨k + 1, by first | rfl | rw [yE], fun i hi => (by
    rcases wL i k with h1 | h1
    ·exact HA.out i h1
    ·rw[show i=k by omega];exact yG.out),bs⟩
   case measure=>
    have yH:=eo (k:=k+1) (fun i hi=>by
     rcases wL i k with h1 | h1
     ·exact HA.out i h1
     ·rw[show i=k by omega];exact yG.out)
    rw[wu,HL.out] at yH;have zz:=yF.out
    simp[intOf]
    omega
  | false=>
   rw[hb0] at ID;have ze:¬ 0≤I:=of_decide_eq_false ID;have yn:=jg LR n k (by omega) HA.out hb0;rw[HO.out] at yn;subst yn;clear ID hb0;clear yg;have xn:=bs.b3 0;go_wp2_with fail;refine(aX aa ra LA ac LR rc m wr).mono ?_;rintro e yq ⟨rfl,hb⟩;clear xn;replace bs:=bs.ret hb;replace q:=bs.q;clear hb;have xn:=bs.b3 0;go_wp2_with fail;refine(CI.out yq q).mono ?_;rintro e yt ⟨rfl,hb⟩;clear xn;replace bs:=bs.ret hb;replace q:=bs.q;clear hb;have xn:=bs.b3 0;go_wp2_with fail;refine(FK.out yt q).mono ?_;rintro e zh ⟨rfl,hb⟩;clear xn;replace bs:=bs.ret hb;replace q:=bs.q;clear hb;go_wp2_with fail;go_ret;exact⟨by rw[←yF.out];rfl,q⟩

def sq (t:List UInt8):Re:=(t,false,0,[],false,[])
def bZ (p:List Nd→Bool) (c:Co) (o r:List UInt8):Co×List UInt8×Int:=
 if aB p c then
  if (fiG acN c.1 o).isSome then
   if r.isEmpty||bB [] [97] r then
    if (fiG reN c.2.1 (o++47 :: r)).isSome then (co0,[],240)
    else if c.2.1.length≤15 then
     if r.isEmpty then
      if ((bo c.2.1 o (c.2.1.length+1) (c.2.2.toNat+1):Nat):Int)<cg then ((c.1,puO reN c.2.1 (sq (nmR o (bo c.2.1 o (c.2.1.length+1) (c.2.2.toNat+1)))),((bo c.2.1 o (c.2.1.length+1) (c.2.2.toNat+1):Nat):Int)),nmR o (bo c.2.1 o (c.2.1.length+1) (c.2.2.toNat+1)),0)
      else (co0,[],9)
     else ((c.1,puO reN c.2.1 (sq (o++47 :: r)),c.2.2),o++47 :: r,0)
    else (co0,[],9)
   else (co0,[],2)
  else (co0,[],6)
 else (co0,[],8)
def oZ (w:World) (o:Co×List UInt8×Int) (e:Ending) (w':World):Prop:=∃c:CoI,e=.returned (.tuple #[c.v,.string ⟨o.2.1.toArray⟩,.int .i64 o.2.2])∧c.d=o.1∧c.own (fun g=>w.heap.size≤g) w'∧Bl w w'
theorem df {w w':World} (e:Int) (hb:Bl w w'):oZ w (co0,[],e) (.returned (.tuple #[.agg #[.slice none 0 0,.slice none 0 0,.int .i64 0],.string ⟨#[]⟩,.int .i64 e])) w':=⟨⟨[],(none,0),[],(none,0),0⟩,rfl,rfl,⟨OwL.nil _ _ _,OwL.nil _ _ _⟩,hb⟩
theorem aJ {fn:Func} {tmps:Array Value} {W:World} {R p q r:Nat} {v0 v1 v2 e f:Value} (h:fn.results=#[.cell p 25,.tmp q,.tmp r]) (h2:tmps.getD p undef=.pointer (some ⟨R,0,none⟩)) (h3:tmps.getD q undef=e) (h4:tmps.getD r undef=f) (k:Bx R [v0,v1,v2] W):
  (results fn tmps).run prog W=.ok (.tuple #[.agg #[v0,v1,v2],e,f]) W:=by
 have c0:=k.at 0 rfl;have c1:=k.at 1 rfl;have c2:=k.at 2 rfl;simp only[Array.getD_eq_getD_getElem?] at h2 h3 h4
 simp[results,h,h2,h3,h4,go_sem,Result.andThen,c0,c1,c2]
theorem uH {A:List AcI} {t:List UInt8}:decide (dc (fun x:AcI=>x.j==t) A<0)=!(fiG acN (A.map AcI.d) t).isSome:=by
 rw[mu,iX,wC]
 congr 1
 rw[wD,wE,wy]
 constructor
 ·rintro ⟨x,hx,hq⟩
  cases h:A.find? fun x=>acN (AcI.d x)==t with
  | some y=>exact⟨y,rfl⟩
  | none=>exact absurd hq (by have:=wF.1 h x hx;exact this)
 ·rintro ⟨y,hy⟩
  exact⟨y,wG hy,wH (p:=fun x:AcI=>acN x.d==t) hy⟩
theorem cE (O R:ByteArray):(⟨(O.data.toList++47 :: R.data.toList).toArray⟩:ByteArray)=O++⟨#[47]⟩++R:=by
 have e:O=⟨O.data.toList.toArray⟩:=by simp
 have e2:R=⟨R.data.toList.toArray⟩:=by simp
 conv=>rhs;rw[e,e2,show (⟨#[47]⟩:ByteArray)=⟨([47]:List UInt8).toArray⟩ from rfl,bt,bt]
 rw[wI]
 rfl
theorem mQ (O R D:ByteArray) (n:Nat) (hr:R.data.toList=[]) (hD:(⟨(wq n).toArray⟩:ByteArray)=D):O++⟨#[47]⟩++R++(⟨#[114]⟩++D)=⟨(nmR O.data.toList n).toArray⟩:=by
 have hR:R=⟨([]:List UInt8).toArray⟩:=by
  have e:R=⟨R.data.toList.toArray⟩:=by simp
  rw[e,hr]
 rw[ek,←hD,hR]
 have e:O=⟨O.data.toList.toArray⟩:=by simp
 rw[e,show (⟨#[47]⟩:ByteArray)=⟨([47]:List UInt8).toArray⟩ from rfl,show (⟨#[114]⟩:ByteArray)=⟨([114]:List UInt8).toArray⟩ from rfl,show (⟨#[47,114]⟩:ByteArray)=⟨([47,114]:List UInt8).toArray⟩ from rfl];simp only[bt]
 simp
theorem tT (p:List Nd→Bool) (c:CoI) (O Rs:ByteArray) (w:World) (h:CoFit p c w) (hO:O.size≤4000) (zB:Rs.size≤4000) (hm:ML w) (ht:Tab w):Calls prog 37 #[c.v,.string O,.string Rs] w (oZ w (bZ p c.d O.data.toList Rs.data.toList)):=by
 obtain⟨A,⟨aa,ac⟩,R,⟨ra,rc⟩,m⟩:=c
 have xI:=fun (W:World) (hb:Bl w W)=>fo p ⟨A,(aa,ac),R,(ra,rc),m⟩ W (h.ret hb) (hm.ret hb)
 have xU:=fun (W:World) (hb:Bl w W)=>iK ⟨A,(aa,ac),R,(ra,rc),m⟩ W (h.sub.ret hb) h.zA h.zR (fun a ha=>(h.ac a ha).2) (fun r hr=>(h.rs r hr).2)
 obtain⟨⟨hA,hR⟩,zA,zR,yI,yu⟩:=h
 simp only at zA zR yI yu
 have hA:IsL acY (.slice aa A.length ac) A w:=hA;have hR:IsL rsY (.slice ra R.length rc) R w:=hR
 have xV:=fun (W:World) (hb:Bl w W)=>eK aa A.length ac A O.data.toList W (hA.ret hb) (by omega)
 have xW:=fun (W:World) (hb:Bl w W)=>dA ra R.length rc R (O.data.toList++47 :: Rs.data.toList) W (hR.ret hb) (by omega)
 rw[cE] at xW;rw[show (⟨O.data.toList.toArray⟩:ByteArray)=O by simp] at xV
 have yJ:=fun (W:World) (hb:Bl w W)=>ei ⟨#[]⟩ ⟨#[97]⟩ Rs W (by decide) (by decide) (by omega) (hm.ret hb)
 have xX:=fun (W:World) (hb:Bl w W) (n:Nat) (hn:n≤9007199254740992)=>sH ⟨A,(aa,ac),R,(ra,rc),m⟩ O n W (hR.ret hb) zR (by omega) hn (ht.ret hb)
 have IA:=uH (A:=A) (t:=O.data.toList);have IR:=r9 (R:=R) (t:=O.data.toList++47 :: Rs.data.toList);simp only[CoI.d] at xI xU xX ⊢
 show Calls prog 37 #[.agg #[.slice aa A.length ac,.slice ra R.length rc,.int .i64 m],.string O,.string Rs] w _
 simp only[CoI.v] at xI xU xX;obtain⟨Z,hZ⟩:=e_ (bZ p (A.map AcI.d,R.map RsI.d,m) O.data.toList Rs.data.toList);rw[hZ];unfold bZ at hZ;simp only[wu] at hZ;obtain⟨LA,xM⟩:=e_ A.length;obtain⟨LR,xH⟩:=e_ R.length;rw[xM,xH] at xI xU xX;rw[xH] at xW hZ;rw[xM] at xV;rw[xM,xH];have TW:=h_ xU;have HM:=h_ hm;have HT:=h_ ht;have yv:=h_ xH;have yw:=h_ xM
 have g1:¬ 9223372036854775807<O.size+1:=by omega
 have g2:¬ 9223372036854775807<O.size+1+Rs.size:=by omega
 have yK:∀y∈R,y.j.length≤10000:=fun y hy=>(yu y hy).1.j
 have yL:=h_ yK
 have zC:LA≤1000:=by omega
 have zD:LR≤1000:=by omega
 obtain⟨yM,yN⟩:=e_ (dc (fun x:AcI=>x.j==O.data.toList) A);obtain⟨yh,yO⟩:=e_ (dc (fun x:RsI=>x.j==O.data.toList++47 :: Rs.data.toList) R);rw[yN] at xV IA;rw[yO] at xW IR;have FA:=h_ xV;have FI:=h_ xW;have JC:=h_ yJ;have MD:=h_ xX;clear xU xV xW yJ xX yN yO yK hA hR yI yu zA zR xM xH hm ht
 cases hc:aB p (A.map AcI.d,R.map RsI.d,m) with
 | false=>
  rw[hc] at xI hZ;have CK:=h_ (show ∀W,Bl w W→Calls prog 30 #[.agg #[.slice aa LA ac,.slice ra LR rc,.int .i64 m]] W (Ret W (.int .i64 8)) from xI)
  have xt:(co0,[],8)=Z:=hZ
  subst xt;clear xI hZ IA IR hc;obtain⟨W0,hW,y0,bs⟩:=Sx.start2 w [.slice aa LA ac,.slice ra LR rc,.int .i64 m] 25 [.slice none 0 0,.slice none 0 0,.int .i64 0] 25;have HW:=h_ hW;clear hW;have q:=bs.q;go_enter func37,ntmps37;go_wp2_with fail;rw[HW.out];have xn:=bs.b3 0;go_wp2_with fail;refine(CK.out W0 q).mono ?_;rintro e w1 ⟨rfl,hb⟩;clear xn;replace bs:=bs.ret hb;replace q:=bs.q;clear hb;have xo:=bs.b3 1;have xp:=bs.g3 1;have xn:=bs.b3 0;go_wp2_with fail;clear xo xp xn;obtain⟨w2,yP,y2,bs⟩:=bs.sets 1 0 [.slice none 0 0,.slice none 0 0,.int .i64 0] rfl (wh rfl);replace q:=bs.q;simp only[wo,Nat.reduceAdd] at yP;rw[yP];exact bodyPost_ret (aJ rfl rfl rfl rfl (bs.box 1 rfl)) rfl (df 8 q)
 | true=>
  rw[hc] at xI hZ;have CK:=h_ (show ∀W,Bl w W→Calls prog 30 #[.agg #[.slice aa LA ac,.slice ra LR rc,.int .i64 m]] W (Ret W (.int .i64 0)) from xI);simp only[if_true] at hZ;have hf:=aL hc;have zE:0≤m:=hf.2.2.1;have yH:m<9007199254740991:=hf.2.2.2.1
  have yQ:chG reN (R.map RsI.d)=true:=hf.2.2.2.2.2.2.2
  have yR:=h_ yQ;clear xI hc hf yQ;obtain⟨W0,hW,y0,bs⟩:=Sx.start2 w [.slice aa LA ac,.slice ra LR rc,.int .i64 m] 25 [.slice none 0 0,.slice none 0 0,.int .i64 0] 25;have HW:=h_ hW;clear hW;have q:=bs.q;go_enter func37,ntmps37;go_wp2_with fail;rw[HW.out];have xn:=bs.b3 0;go_wp2_with fail;refine(CK.out W0 q).mono ?_;rintro e w1 ⟨rfl,hb⟩;clear xn;replace bs:=bs.ret hb;replace q:=bs.q;clear hb;have xn:=bs.b3 0;go_wp2_with fail;refine(aN aa ra LA ac LR rc m w1).mono ?_;rintro e w2 ⟨rfl,hb⟩;clear xn;replace bs:=bs.ret hb;replace q:=bs.q;clear hb;have xn:=bs.b3 0;go_wp2_with fail;refine(FA.out w2 q).mono ?_;rintro e w3 ⟨rfl,hb⟩;clear xn;replace bs:=bs.ret hb;replace q:=bs.q;clear hb
  cases ha:(fiG acN (A.map AcI.d) O.data.toList).isSome with
  | false=>
   rw[ha] at IA hZ;have wa:yM<0:=of_decide_eq_true IA
   have xt:(co0,[],6)=Z:=hZ
   subst xt;clear IA IR hZ ha;have xo:=bs.b3 1;have xp:=bs.g3 1;have xn:=bs.b3 0;go_wp2_with fail;clear xo xp xn;obtain⟨w4,yS,y4,bs⟩:=bs.sets 1 0 [.slice none 0 0,.slice none 0 0,.int .i64 0] rfl (wh rfl);replace q:=bs.q;simp only[wo,Nat.reduceAdd] at yS;rw[yS];exact bodyPost_ret (aJ rfl rfl rfl rfl (bs.box 1 rfl)) rfl (df 6 q)
  | true=>
   rw[ha] at IA hZ;have wa:¬ yM<0:=of_decide_eq_false IA;simp only[if_true] at hZ;clear IA ha
   cases he:Rs.data.toList.isEmpty with
   | false=>
    have zi:(Rs.toList==[])=false:=by
     rw[wM]
     cases h:Rs.data.toList with
     | nil=>rw[h] at he;cases he
     | cons a l=>rfl
    rw[he] at hZ;simp only[Bool.false_or] at hZ;have xn:=bs.b3 0;go_wp2_with fail
    cases hk:bB [] [97] Rs.data.toList with
    | false=>
     rw[hk] at hZ
     have xt:(co0,[],2)=Z:=hZ
     subst xt
     have JD:=h_ fun (W:World) (hb:Bl w W)=>show Calls prog 91 #[jV ⟨#[]⟩ ⟨#[97]⟩ Rs] W (Ret W (.int .i64 8)) by
      have:=JC.out W hb;rw[show bB (⟨#[]⟩:ByteArray).data.toList (⟨#[97]⟩:ByteArray).data.toList Rs.data.toList=false from hk] at this;exact this
     clear hZ hk IR he JC;refine(JD.out w3 q).mono ?_;rintro e w4 ⟨rfl,hb⟩;clear xn;replace bs:=bs.ret hb;replace q:=bs.q;clear hb;have xo:=bs.b3 1;have xp:=bs.g3 1;have xn:=bs.b3 0;go_wp2_with fail;clear xo xp xn;obtain⟨w5,yT,y5,bs⟩:=bs.sets 1 0 [.slice none 0 0,.slice none 0 0,.int .i64 0] rfl (wh rfl);replace q:=bs.q;simp only[wo,Nat.reduceAdd] at yT;rw[yT];exact bodyPost_ret (aJ rfl rfl rfl rfl (bs.box 1 rfl)) rfl (df 2 q)
    | true=>
     rw[hk] at hZ;simp only[if_true] at hZ
     have JD:=h_ fun (W:World) (hb:Bl w W)=>show Calls prog 91 #[jV ⟨#[]⟩ ⟨#[97]⟩ Rs] W (Ret W (.int .i64 0)) by
      have:=JC.out W hb;rw[show bB (⟨#[]⟩:ByteArray).data.toList (⟨#[97]⟩:ByteArray).data.toList Rs.data.toList=true from hk] at this;exact this
     clear hk JC;refine(JD.out w3 q).mono ?_;rintro e w4 ⟨rfl,hb⟩;clear xn;replace bs:=bs.ret hb;replace q:=bs.q;clear hb;have xn:=bs.b3 0;go_wp2_with fail;refine(aX aa ra LA ac LR rc m w4).mono ?_;rintro e w5 ⟨rfl,hb⟩;clear xn;replace bs:=bs.ret hb;replace q:=bs.q;clear hb;have xn:=bs.b3 0;go_wp2_with fail;refine(FI.out w5 q).mono ?_;rintro e w6 ⟨rfl,hb⟩;clear xn;replace bs:=bs.ret hb;replace q:=bs.q;clear hb
     cases hb0:(fiG reN (R.map RsI.d) (O.data.toList++47 :: Rs.data.toList)).isSome with
     | true=>
      rw[hb0] at IR hZ;have wi:0≤yh:=of_decide_eq_true IR
      have xt:(co0,[],240)=Z:=hZ
      subst xt;clear hZ hb0 IR he;have xo:=bs.b3 1;have xp:=bs.g3 1;have xn:=bs.b3 0;go_wp2_with fail;clear xo xp xn;obtain⟨w7,xA,y7,bs⟩:=bs.sets 1 0 [.slice none 0 0,.slice none 0 0,.int .i64 0] rfl (wh rfl);replace q:=bs.q;simp only[wo,Nat.reduceAdd] at xA;rw[xA];exact bodyPost_ret (aJ rfl rfl rfl rfl (bs.box 1 rfl)) rfl (df 240 q)
     | false=>
      rw[hb0] at IR hZ;have wi:¬ 0≤yh:=of_decide_eq_false IR;simp only[wN,if_false] at hZ;clear hb0 IR
      by_cases hl:LR≤15
      ·rw[if_pos hl] at hZ
       have wl:¬ (16:Int)≤(LR:Int):=(by omega)
       have xt:((A.map AcI.d,puO reN (R.map RsI.d) (sq (O.data.toList++47 :: Rs.data.toList)),m),O.data.toList++47 :: Rs.data.toList,0)=Z:=hZ
       subst xt;have xY:=h_ (cE O Rs);have yx:Hid ((O.data.toList++47 :: Rs.data.toList).length≤10000):=h_ (by rw[wz,wv,ab,ab];omega);clear hZ he;have xn:=bs.b3 0;go_wp2_with fail
       have hB:w.heap.size+2≤w6.heap.size:=bs.lt _ (wt (i:=1) rfl)
       refine(TW.out w6 q).mono ?_;rintro e w7 ⟨⟨A2,⟨a2,c2⟩,R2,⟨a3,c3⟩,m2⟩,rfl,hd,⟨xu,xD⟩,hb⟩;simp only[CoI.d,Prod.mk.injEq] at hd;obtain⟨xF,xG,rfl⟩:=hd;simp only[CoI.v,CoI.av,CoI.rv] at xu xD ⊢;have xw:A2.length=A.length:=(by have:=congrArg ws xF;simpa using this);have xx:R2.length=R.length:=(by have:=congrArg ws xG;simpa using this);rw[yw.out] at xw;rw[yv.out] at xx;rw[xw,xx];rw[xx] at xu xD;rw[xw] at xu;have xr:OwU acY (w.heap.size+2) (.slice a3 LR c3) (.slice a2 LA c2) A2 _:=OwU.of xu hB;have xq:OwU rsY (w.heap.size+2) tp (.slice a3 LR c3) R2 _:=OwU.ofN xD hB;have yi:=h_ xF;have xN:=h_ xG;have xS:=h_ xw;have xO:=h_ xx;clear xu xD xF xG xw xx hB;clear xn;replace bs:=bs.ret hb;replace q:=bs.q;clear hb;have xn:=bs.b3 0;have xo:=bs.b3 1;have xp:=bs.g3 1;go_wp2_with fail;clear xn xo xp;obtain⟨w8,yj,y8,bs⟩:=bs.sets 1 0 [.slice a2 LA c2,.slice a3 LR c3,.int .i64 m2] rfl (wh rfl);replace xr:=xr.sets (by omega) yj;replace xq:=xq.sets (by omega) yj;replace q:=bs.q;simp only[wo,Nat.reduceAdd] at yj;rw[yj];have xo:=bs.b3 1;go_wp2_with fail;refine(aX a2 a3 LA c2 LR c3 m2 w8).mono ?_;rintro e w9 ⟨rfl,hb⟩;clear xo;replace xr:=xr.ret hb;replace xq:=xq.ret hb;replace bs:=bs.ret hb;replace q:=bs.q;clear hb
       have hB:w.heap.size+2≤w9.heap.size:=bs.lt _ (wt (i:=1) rfl)
       obtain⟨r3,xJ⟩:∃r3:RsI,r3=⟨O.data.toList++47 :: Rs.data.toList,false,0,[],(none,0),false,[],(none,0)⟩:=⟨_,rfl⟩
       have yy:ww #[.string (O++⟨#[47]⟩++Rs),.bool false,.int .i64 0,.slice none 0 0,.bool false,.slice none 0 0]=r3.v:=by
        rw[xJ]
        show _=ww #[.string ⟨(O.data.toList++47 :: Rs.data.toList).toArray⟩,.bool false,.int .i64 0,.slice none 0 0,.bool false,.slice none 0 0]
        rw[xY.out]
       have xB:=ge a3 c3 R2 r3 w9 (by have:=xq.isL;rw[xO.out];exact this) (by rw[xO.out];omega) (fun y hy=>by
        obtain⟨z,hz,e⟩:=jy xN.out hy
        have e2:z.j=y.j:=congrArg reN e
        rw[←e2]
        exact yL.out z hz) (by rw[xJ];exact yx.out) (by
        have:=yR.out;rw[←xN.out,cT] at this;exact this) (HM.out.ret q)
       rw[xO.out] at xB;have xZ:=h_ xB;have yd:=h_ xJ;clear xB xJ;have xo:=bs.b3 1;go_wp2_with fail;refine xZ.out.mono ?_;rintro e yz ⟨a5,c5,rfl,xC,hb⟩;clear xo;replace xr:=xr.ret hb;replace xq:=xq.ret hb;replace bs:=bs.ret hb;replace q:=bs.q;obtain⟨N5,xK⟩:=e_ (puO (fun y:RsI=>y.j) R2 r3);rw[xK] at xC ⊢
       have xE:OwV rsY (w.heap.size+2) (.slice a5 N5.length c5) N5 yz:=ba (xC.mono hB) rfl rfl (fun _ h=>h) fun y hy=>by
        rw[←xK] at hy
        rcases dr hy with h | h
        ·exact rsY.ownMono _ _ _ _ (xq.elem h) fun _ _ hg=>hg.1
        ·rw[h,yd.out];exact⟨OwL.nil _ _ _,OwS.nil _ _ _ _⟩
       obtain⟨L5,xQ⟩:=e_ N5.length;rw[xQ] at xE ⊢;have yA:=h_ xK;have ye:=h_ xQ;clear hb hB xC xK xQ yy xZ;have xo:=bs.b3 1;have xp:=bs.g3 1;go_wp2_with fail;clear xo xp;obtain⟨zk,xy,zm,bs⟩:=bs.sets 1 1 [.slice a5 L5 c5] rfl (wh rfl);replace xr:=xr.sets (by omega) xy;replace xq:=xq.sets (by omega) xy;replace xE:=xE.sets (by omega) xy;obtain⟨zo,xz,zp,bs⟩:=bs.sets 1 0 [.slice a2 LA c2,.slice a5 L5 c5,.int .i64 m2] rfl (wh rfl);replace xr:=xr.sets (by omega) xz;replace xq:=xq.sets (by omega) xz;replace xE:=xE.sets (by omega) xz;replace q:=bs.q;simp only[wo] at xy;rw[xy];simp only[wo,Nat.reduceAdd] at xz;rw[xz];refine bodyPost_ret (aJ rfl rfl rfl rfl (bs.box 1 rfl)) rfl ⟨⟨A2,(a2,c2),N5,(a5,c5),m2⟩,?_,?_,⟨?_,?_⟩,q⟩
       ·show _=Ending.returned (.tuple #[.agg #[.slice a2 A2.length c2,.slice a5 N5.length c5,.int .i64 m2],.string ⟨(O.data.toList++47 :: Rs.data.toList).toArray⟩,.int .i64 0])
        rw[xS.out,ye.out,xY.out]
        rfl
       ·show (A2.map AcI.d,N5.map RsI.d,m2)=_
        have e5:N5.map RsI.d=puO reN (R2.map RsI.d) r3.d:=(by rw[←yA.out];exact jx (f:=RsI.d) (nm:=reN) R2 r3);rw[yi.out,e5,xN.out,yd.out]
        rfl
       ·show OwL acY _ (.slice a2 A2.length c2) A2 _
        rw[xS.out]
        exact OwL.mono xr.own fun g _ hg=>by omega
       ·show OwL rsY _ (.slice a5 N5.length c5) N5 _
        rw[ye.out]
        exact OwL.mono xE fun g _ hg=>by omega
      ·rw[if_neg hl] at hZ
       have wl:(16:Int)≤(LR:Int):=(by omega)
       have xt:(co0,[],9)=Z:=hZ
       subst xt;clear hZ he;have xo:=bs.b3 1;have xp:=bs.g3 1;have xn:=bs.b3 0;go_wp2_with fail;clear xo xp xn;obtain⟨w7,xA,y7,bs⟩:=bs.sets 1 0 [.slice none 0 0,.slice none 0 0,.int .i64 0] rfl (wh rfl);replace q:=bs.q;simp only[wo,Nat.reduceAdd] at xA;rw[xA];exact bodyPost_ret (aJ rfl rfl rfl rfl (bs.box 1 rfl)) rfl (df 9 q)
   | true=>
    have zi:(Rs.toList==[])=true:=by
     rw[wM]
     cases h:Rs.data.toList with
     | nil=>rfl
     | cons a l=>rw[h] at he;cases he
    rw[he] at hZ;simp only[Bool.true_or,if_true] at hZ;have xn:=bs.b3 0;go_wp2_with fail;refine(aX aa ra LA ac LR rc m w3).mono ?_;rintro e w4 ⟨rfl,hb⟩;clear xn;replace bs:=bs.ret hb;replace q:=bs.q;clear hb;have xn:=bs.b3 0;go_wp2_with fail;refine(FI.out w4 q).mono ?_;rintro e w5 ⟨rfl,hb⟩;clear xn;replace bs:=bs.ret hb;replace q:=bs.q;clear hb
    cases hb0:(fiG reN (R.map RsI.d) (O.data.toList++47 :: Rs.data.toList)).isSome with
    | true=>
     rw[hb0] at IR hZ;have wi:0≤yh:=of_decide_eq_true IR
     have xt:(co0,[],240)=Z:=hZ
     subst xt;clear hZ hb0 IR he;have xo:=bs.b3 1;have xp:=bs.g3 1;have xn:=bs.b3 0;go_wp2_with fail;clear xo xp xn;obtain⟨w6,yf,y6,bs⟩:=bs.sets 1 0 [.slice none 0 0,.slice none 0 0,.int .i64 0] rfl (wh rfl);replace q:=bs.q;simp only[wo,Nat.reduceAdd] at yf;rw[yf];exact bodyPost_ret (aJ rfl rfl rfl rfl (bs.box 1 rfl)) rfl (df 240 q)
    | false=>
     rw[hb0] at IR hZ;have wi:¬ 0≤yh:=of_decide_eq_false IR;simp only[wN,if_false] at hZ;clear hb0 IR
     by_cases hl:LR≤15
     ·rw[if_pos hl] at hZ
      have wl:¬ (16:Int)≤(LR:Int):=(by omega)
      (try simp only[if_true] at hZ)
      obtain⟨n,hn⟩:=e_ (bo (R.map RsI.d) O.data.toList (LR+1) (m.toNat+1));rw[hn] at hZ;have zq:=eI (R.map RsI.d) O.data.toList (LR+1) (m.toNat+1);rw[hn] at zq;have zv:IntKind.i64.wrap (m+1)=((m.toNat+1:Nat):Int):=(by rw[IntWalk.i64_in _ (by omega)];omega)
      have yk:=h_ fun (W:World) (hb:Bl w W)=>show Calls prog 92 #[.agg #[.slice aa LA ac,.slice ra LR rc,.int .i64 m],.string O,.int .i64 ((m.toNat+1:Nat):Int)] W (Ret W (.int .i64 n)) by
       have:=MD.out W hb (m.toNat+1) (by omega);rw[hn] at this;exact this
      obtain⟨M1,yU⟩:∃M1:Int,((m.toNat+1:Nat):Int)=M1:=⟨_,rfl⟩;obtain⟨n1,yB⟩:∃n1:Int,((n:Nat):Int)=n1:=⟨_,rfl⟩;rw[yU] at zv yk;rw[yB] at yk hZ
      have yV:Rs.data.toList=[]:=by
       cases h:Rs.data.toList with
       | nil=>rfl
       | cons a l=>rw[h] at he;cases he
      have zw:=h_ yV;have yl:=h_ yB;clear yU hn MD he yV yB
      by_cases hmn:n1<9007199254740991
      ·rw[if_pos (show n1<cg from hmn)] at hZ
       have wn:¬ (9007199254740991:Int)≤n1:=(by omega)
       have CI:=h_ fun (W:World) (hb:Bl w W)=>rW n (by have:=yl.out;omega) W (HT.out.ret hb)
       obtain⟨D,hD⟩:∃D:ByteArray,ByteArray.mk (wq n).toArray=D:=⟨_,rfl⟩;have yp:D.size≤100:=(by rw[←hD,←ab];have:=bU (n:=n) (by have:=yl.out;omega);show (wq n).length≤100;omega);have xP:=CI.out;rw[hD,yl.out] at xP;have CI:=h_ xP
       have xt:((A.map AcI.d,puO reN (R.map RsI.d) (sq (nmR O.data.toList n)),n1),nmR O.data.toList n,0)=Z:=hZ
       subst xt;have yW:=mQ O Rs D n zw.out hD;have xY:=h_ yW.symm;have yx:Hid ((nmR O.data.toList n).length≤10000):=h_ (by unfold nmR;have h1:=bU (n:=n) (by have:=yl.out;omega);rw[wz,wv,wv,ab];omega);have g3:¬ 9223372036854775807<1+D.size:=(by omega);have g4:¬ 9223372036854775807<O.size+1+Rs.size+(1+D.size):=(by omega);clear hZ xP hD yp yW;have xn:=bs.b3 0;go_wp2_with fail
       have hB:w.heap.size+2≤w5.heap.size:=bs.lt _ (wt (i:=1) rfl)
       refine(TW.out w5 q).mono ?_;rintro e w6 ⟨⟨A2,⟨a2,c2⟩,R2,⟨a3,c3⟩,m2⟩,rfl,hd,⟨xu,xD⟩,hb⟩;simp only[CoI.d,Prod.mk.injEq] at hd;obtain⟨xF,xG,rfl⟩:=hd;simp only[CoI.v,CoI.av,CoI.rv] at xu xD ⊢;have xw:A2.length=A.length:=(by have:=congrArg ws xF;simpa using this);have xx:R2.length=R.length:=(by have:=congrArg ws xG;simpa using this);rw[yw.out] at xw;rw[yv.out] at xx;rw[xw,xx];rw[xx] at xu xD;rw[xw] at xu;have xr:OwU acY (w.heap.size+2) (.slice a3 LR c3) (.slice a2 LA c2) A2 _:=OwU.of xu hB;have xq:OwU rsY (w.heap.size+2) tp (.slice a3 LR c3) R2 _:=OwU.ofN xD hB;have yi:=h_ xF;have xN:=h_ xG;have xS:=h_ xw;have xO:=h_ xx;clear xu xD xF xG xw xx hB;clear xn;replace bs:=bs.ret hb;replace q:=bs.q;clear hb;have xn:=bs.b3 0;have xo:=bs.b3 1;have xp:=bs.g3 1;go_wp2_with fail;clear xn xo xp;obtain⟨w7,xA,y7,bs⟩:=bs.sets 1 0 [.slice a2 LA c2,.slice a3 LR c3,.int .i64 m2] rfl (wh rfl);replace xr:=xr.sets (by omega) xA;replace xq:=xq.sets (by omega) xA;replace q:=bs.q;simp only[wo,Nat.reduceAdd] at xA;rw[xA];have xn:=bs.b3 0;have xo:=bs.b3 1;have xp:=bs.g3 1;go_wp2_with fail;refine(yk.out w7 q).mono ?_;rintro e w8 ⟨rfl,hb⟩;clear xn xo xp;replace xr:=xr.ret hb;replace xq:=xq.ret hb;replace bs:=bs.ret hb;replace q:=bs.q;clear hb;have xo:=bs.b3 1;have xp:=bs.g3 1;go_wp2_with fail;clear xo xp;obtain⟨w9,xL,y9,bs⟩:=bs.sets 1 2 [.int .i64 n1] rfl (wh rfl);replace xr:=xr.sets (by omega) xL;replace xq:=xq.sets (by omega) xL;replace q:=bs.q;simp only[wo] at xL;rw[xL];have xo:=bs.b3 1;have xp:=bs.g3 1;go_wp2_with fail;refine(CI.out w9 q).mono ?_;rintro e yX ⟨rfl,hb⟩;clear xo xp;replace xr:=xr.ret hb;replace xq:=xq.ret hb;replace bs:=bs.ret hb;replace q:=bs.q;clear hb;have xo:=bs.b3 1;go_wp2_with fail;refine(aX a2 a3 LA c2 LR c3 n1 yX).mono ?_
       rintro e yY ⟨rfl,hb⟩;clear xo;replace xr:=xr.ret hb;replace xq:=xq.ret hb;replace bs:=bs.ret hb;replace q:=bs.q;clear hb
       have hB:w.heap.size+2≤yY.heap.size:=bs.lt _ (wt (i:=1) rfl)
       obtain⟨r3,xJ⟩:∃r3:RsI,r3=⟨nmR O.data.toList n,false,0,[],(none,0),false,[],(none,0)⟩:=⟨_,rfl⟩
       have yy:ww #[.string (O++⟨#[47]⟩++Rs++(⟨#[114]⟩++D)),.bool false,.int .i64 0,.slice none 0 0,.bool false,.slice none 0 0]=r3.v:=by
        rw[xJ]
        show _=ww #[.string ⟨(nmR O.data.toList n).toArray⟩,.bool false,.int .i64 0,.slice none 0 0,.bool false,.slice none 0 0]
        rw[xY.out]
       have xB:=ge a3 c3 R2 r3 yY (by have:=xq.isL;rw[xO.out];exact this) (by rw[xO.out];omega) (fun y hy=>by
        obtain⟨z,hz,e⟩:=jy xN.out hy
        have e2:z.j=y.j:=congrArg reN e
        rw[←e2]
        exact yL.out z hz) (by rw[xJ];exact yx.out) (by
        have:=yR.out;rw[←xN.out,cT] at this;exact this) (HM.out.ret q)
       rw[xO.out] at xB;have xZ:=h_ xB;have yd:=h_ xJ;clear xB xJ;have xo:=bs.b3 1;go_wp2_with fail;refine xZ.out.mono ?_;rintro e yz ⟨a5,c5,rfl,xC,hb⟩;clear xo;replace xr:=xr.ret hb;replace xq:=xq.ret hb;replace bs:=bs.ret hb;replace q:=bs.q;obtain⟨N5,xK⟩:=e_ (puO (fun y:RsI=>y.j) R2 r3);rw[xK] at xC ⊢
       have xE:OwV rsY (w.heap.size+2) (.slice a5 N5.length c5) N5 yz:=ba (xC.mono hB) rfl rfl (fun _ h=>h) fun y hy=>by
        rw[←xK] at hy
        rcases dr hy with h | h
        ·exact rsY.ownMono _ _ _ _ (xq.elem h) fun _ _ hg=>hg.1
        ·rw[h,yd.out];exact⟨OwL.nil _ _ _,OwS.nil _ _ _ _⟩
       obtain⟨L5,xQ⟩:=e_ N5.length;rw[xQ] at xE ⊢;have yA:=h_ xK;have ye:=h_ xQ;clear hb hB xC xK xQ yy xZ;have xo:=bs.b3 1;have xp:=bs.g3 1;go_wp2_with fail;clear xo xp;obtain⟨zk,xy,zm,bs⟩:=bs.sets 1 1 [.slice a5 L5 c5] rfl (wh rfl);replace xr:=xr.sets (by omega) xy;replace xq:=xq.sets (by omega) xy;replace xE:=xE.sets (by omega) xy;obtain⟨zo,xz,zp,bs⟩:=bs.sets 1 0 [.slice a2 LA c2,.slice a5 L5 c5,.int .i64 n1] rfl (wh rfl);replace xr:=xr.sets (by omega) xz;replace xq:=xq.sets (by omega) xz;replace xE:=xE.sets (by omega) xz;replace q:=bs.q;simp only[wo] at xy;rw[xy];simp only[wo,Nat.reduceAdd] at xz;rw[xz];refine bodyPost_ret (aJ rfl rfl rfl rfl (bs.box 1 rfl)) rfl ⟨⟨A2,(a2,c2),N5,(a5,c5),n1⟩,?_,?_,⟨?_,?_⟩,q⟩
       ·show _=Ending.returned (.tuple #[.agg #[.slice a2 A2.length c2,.slice a5 N5.length c5,.int .i64 n1],.string ⟨(nmR O.data.toList n).toArray⟩,.int .i64 0])
        rw[xS.out,ye.out,xY.out]
        rfl
       ·show (A2.map AcI.d,N5.map RsI.d,n1)=_
        have e5:N5.map RsI.d=puO reN (R2.map RsI.d) r3.d:=(by rw[←yA.out];exact jx (f:=RsI.d) (nm:=reN) R2 r3);rw[yi.out,e5,xN.out,yd.out]
        rfl
       ·show OwL acY _ (.slice a2 A2.length c2) A2 _
        rw[xS.out]
        exact OwL.mono xr.own fun g _ hg=>by omega
       ·show OwL rsY _ (.slice a5 N5.length c5) N5 _
        rw[ye.out]
        exact OwL.mono xE fun g _ hg=>by omega
      ·rw[if_neg (show ¬ n1<cg from hmn)] at hZ
       have wn:(9007199254740991:Int)≤n1:=(by omega)
       have xt:(co0,[],9)=Z:=hZ
       subst xt;clear hZ;have xn:=bs.b3 0;go_wp2_with fail
       have hB:w.heap.size+2≤w5.heap.size:=bs.lt _ (wt (i:=1) rfl)
       refine(TW.out w5 q).mono ?_;rintro e w6 ⟨⟨A2,⟨a2,c2⟩,R2,⟨a3,c3⟩,m2⟩,rfl,hd,⟨xu,xD⟩,hb⟩;simp only[CoI.d,Prod.mk.injEq] at hd;obtain⟨xF,xG,rfl⟩:=hd;simp only[CoI.v,CoI.av,CoI.rv] at xu xD ⊢;have xw:A2.length=A.length:=(by have:=congrArg ws xF;simpa using this);have xx:R2.length=R.length:=(by have:=congrArg ws xG;simpa using this);rw[yw.out] at xw;rw[yv.out] at xx;rw[xw,xx];rw[xx] at xu xD;rw[xw] at xu;have xr:OwU acY (w.heap.size+2) (.slice a3 LR c3) (.slice a2 LA c2) A2 _:=OwU.of xu hB;have xq:OwU rsY (w.heap.size+2) tp (.slice a3 LR c3) R2 _:=OwU.ofN xD hB;have yi:=h_ xF;have xN:=h_ xG;have xS:=h_ xw;have xO:=h_ xx;clear xu xD xF xG xw xx hB;clear xn;replace bs:=bs.ret hb;replace q:=bs.q;clear hb;have xn:=bs.b3 0;have xo:=bs.b3 1;have xp:=bs.g3 1;go_wp2_with fail;clear xn xo xp;obtain⟨w7,xA,y7,bs⟩:=bs.sets 1 0 [.slice a2 LA c2,.slice a3 LR c3,.int .i64 m2] rfl (wh rfl);replace xr:=xr.sets (by omega) xA;replace xq:=xq.sets (by omega) xA;replace q:=bs.q;simp only[wo,Nat.reduceAdd] at xA;rw[xA];have xn:=bs.b3 0;have xo:=bs.b3 1;have xp:=bs.g3 1;go_wp2_with fail;refine(yk.out w7 q).mono ?_;rintro e w8 ⟨rfl,hb⟩;clear xn xo xp;replace xr:=xr.ret hb;replace xq:=xq.ret hb;replace bs:=bs.ret hb;replace q:=bs.q;clear hb;have xo:=bs.b3 1;have xp:=bs.g3 1;go_wp2_with fail;clear xo xp;obtain⟨w9,xL,y9,bs⟩:=bs.sets 1 2 [.int .i64 n1] rfl (wh rfl);replace xr:=xr.sets (by omega) xL;replace xq:=xq.sets (by omega) xL;replace q:=bs.q;simp only[wo] at xL;rw[xL];have xo:=bs.b3 1;have xp:=bs.g3 1;have xn:=bs.b3 0;go_wp2_with fail;clear xo xp xn;obtain⟨yX,xR,zF,bs⟩:=bs.sets 1 0 [.slice none 0 0,.slice none 0 0,.int .i64 0] rfl (wh rfl);replace xr:=xr.sets (by omega) xR;replace xq:=xq.sets (by omega) xR
       replace q:=bs.q;simp only[wo,Nat.reduceAdd] at xR;rw[xR];exact bodyPost_ret (aJ rfl rfl rfl rfl (bs.box 1 rfl)) rfl (df 9 q)
     ·rw[if_neg hl] at hZ
      have wl:(16:Int)≤(LR:Int):=(by omega)
      have xt:(co0,[],9)=Z:=hZ
      subst xt;clear hZ he;have xo:=bs.b3 1;have xp:=bs.g3 1;have xn:=bs.b3 0;go_wp2_with fail;clear xo xp xn;obtain⟨w6,yf,y6,bs⟩:=bs.sets 1 0 [.slice none 0 0,.slice none 0 0,.int .i64 0] rfl (wh rfl);replace q:=bs.q;simp only[wo,Nat.reduceAdd] at yf;rw[yf];exact bodyPost_ret (aJ rfl rfl rfl rfl (bs.box 1 rfl)) rfl (df 9 q)
end Go.Proofs.YtjgeiieiinmdnaaGreatDoor
