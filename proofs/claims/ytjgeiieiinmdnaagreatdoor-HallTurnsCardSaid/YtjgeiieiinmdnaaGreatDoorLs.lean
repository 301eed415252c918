/- DcN, DcO, DcP, DdP, DcQ, DcS: put together by mergetpl.py. -/
import Derived.Test.YtjgeiieiinmdnaaGreatDoorLn
open Go.Proofs.Tryz
open Bool renaming false_or→wu,beq_comm→wz
open Go.Value.slice renaming injEq→wy
open List renaming all_append→wo,take_append_drop→wq,take_of_length_le→ws,getElem?_eq_getElem→wt,take_succ_eq_append_getElem→wv,any_append→ww
open Nat renaming zero_le→wh
namespace Go.Proofs.YtjgeiieiinmdnaaGreatDoor
set_option maxHeartbeats 4000000
set_option maxRecDepth 100000
open Go.RowKit Go.Lib

theorem nw:∀(n:Fin 256),lxN n.val true=((decide ((97:Int)≤(n.val:Int))&&decide ((n.val:Int)≤122)||(decide ((65:Int)≤(n.val:Int))&&decide ((n.val:Int)≤90)))||((n.val:Int)==95)):=by decide+kernel
theorem oP (c:UInt8):lxC c true=((decide ((97:Int)≤(c.toNat:Int))&&decide ((c.toNat:Int)≤122)||(decide ((65:Int)≤(c.toNat:Int))&&decide ((c.toNat:Int)≤90)))||((c.toNat:Int)==95)):=nw ⟨c.toNat,c.toNat_lt⟩
theorem px (c:UInt8) (w:World):Calls prog 236 #[.int .u8 (c.toNat:Int)] w fun e w'=>e=.returned (.bool (lxC c true))∧w'=w:=by
 rw[oP];obtain⟨n,hn⟩:∃n:Int,(c.toNat:Int)=n:=⟨_,rfl⟩;rw[hn];clear hn
 cases h1:decide ((97:Int)≤n) <;> cases h2:decide (n≤122) <;> cases h3:decide ((65:Int)≤n) <;> cases h4:decide (n≤90) <;> cases h5:(n==95) <;>
  (go_enter func236,ntmps236
   go_wp2_with fail;go_ret;exact⟨rfl,rfl⟩)

def okT (l:List UInt8):Bool:=l.isEmpty||aG l
theorem pV (l:List UInt8) (c:UInt8):okT (l++[c])=(okT l&&lxC c l.isEmpty):=by
 cases l with
 | nil=>simp[okT,aG]
 | cons a t=>simp[okT,aG,wo,Bool.and_assoc]
theorem tB (l r:List UInt8) (h:okT (l++r)=true):okT l=true:=by
 cases l with
 | nil=>rfl
 | cons a t=>
  simp only[okT,List.cons_append,List.isEmpty_cons,wu,aG,wo,Bool.and_eq_true] at h ⊢;exact⟨h.1,h.2.1⟩
theorem nh:∀(n:Fin 256),lxN n.val false=(lxN n.val true||(!(decide ((n.val:Int)<48)||decide (57<(n.val:Int)))||(((n.val:Int)==46)||((n.val:Int)==45)))):=by decide+kernel
theorem pM (c:UInt8):lxC c false=(lxC c true||(!(decide ((c.toNat:Int)<48)||decide (57<(c.toNat:Int)))||(((c.toNat:Int)==46)||((c.toNat:Int)==45)))):=nh ⟨c.toNat,c.toNat_lt⟩
theorem sY (s:ByteArray) (w:World) (hs:s.size≤10000):Calls prog 201 #[.string s] w fun e w'=>e=.returned (.bool (aG s.data.toList))∧w'=w:=by
 have P:=h_ px;have hz:=ab s
 have xG:∀k,k≤s.size→okT (s.data.toList.take k)=false→aG s.data.toList=false:=fun k hk h=>by
  cases hn:aG s.data.toList with
  | false=>rfl
  | true=>
   have h2:=tB (s.data.toList.take k) (s.data.toList.drop k) (by rw[wq];unfold okT;rw[hn,Bool.or_true]);rw[h] at h2
   cases h2
 have xH:okT s.data.toList=true→aG s.data.toList=!(s.toList==[]):=fun h=>by
  rw[Lib.toList_data];unfold okT at h
  cases he:s.data.toList with
  | nil=>rfl
  | cons a t=>
   rw[he] at h;exact h
 have HB:=h_ xG;have HE:=h_ xH;obtain⟨O,hO⟩:=e_ (aG s.data.toList);rw[hO];have HO:=h_ hO;clear hO xG xH;go_enter func201,ntmps201;go_wp2_with fail;go_loop [3] (fun i=>∃k:Nat,k≤s.size∧i=.int .i64 k∧okT (s.data.toList.take k)=true) (fun i=>s.size-(intOf i).toNat)
 case atStart=>exact⟨0,wh _,rfl,rfl⟩
 case round=>
  obtain⟨k,hk,rfl,xo⟩:=hrel
  by_cases hlt:k<s.size
  ·have hc:=s[k].toNat_lt
   have P1:=fun w=>P.out s[k] w
   have xq:k<s.data.toList.length:=(by rw[hz];exact hlt)
   have hst:okT (s.data.toList.take (k+1))=lxC s[k] (s.data.toList.take k).isEmpty:=by
    rw[wv xq,pV,xo,Bool.true_and]
    rfl
   have h0:(s.data.toList.take k).isEmpty=((k:Int)==0):=by
    cases k with
    | zero=>rfl
    | succ m=>
     cases he:s.data.toList with
     | nil=>rw[he] at xq;simp at xq
     | cons a t=>simp;omega
   rw[h0] at hst;have xr:=pM s[k];obtain⟨F,hF⟩:=e_ (lxC s[k] false);rw[hF] at xr
   cases hL:lxC s[k] true with
   | true=>
    rw[hL] at P1 xr
    have HS:Hid (okT (s.data.toList.take (k+1))=true):=h_ (by rw[hst];cases ((k:Int)==0);exact hF.trans xr;exact hL)
    have PH:=h_ P1;clear P1 hL xo hst h0 xr hF;go_wp2_with fail;refine(PH.out _).mono ?_;rintro e w1 ⟨rfl,rfl⟩;go_wp2_with fail;go_round
    case rel=>exact⟨k+1,by omega,by go_num,HS.out⟩
    case measure=>simp[intOf];omega
   | false=>
    rw[hL] at P1 xr;have PH:=h_ P1
    cases e0:((k:Int)==0) with
    | true=>
     have HS:Hid (O=false):=h_ (HO.out.symm.trans (HB.out (k+1) hlt (by rw[hst,e0];exact hL)))
     clear P1 hL xo hst h0 xr hF;go_wp2_with fail;refine(PH.out _).mono ?_;rintro e w1 ⟨rfl,rfl⟩;go_wp2_with fail;go_ret;exact⟨by rw[HS.out];rfl,rfl⟩
    | false=>
     have HT:Hid (okT (s.data.toList.take (k+1))=F):=h_ (by rw[hst,e0];exact hF)
     have HF:=h_ xr;clear P1 hL xo hst h0 xr hF
     cases b1:decide ((s[k].toNat:Int)<48) <;> cases b2:decide (57<(s[k].toNat:Int)) <;> cases b3:((s[k].toNat:Int)==46) <;> cases b4:((s[k].toNat:Int)==45) <;>
      (have xI:=HF.out
       rw[b1,b2,b3,b4] at xI;have HR:=h_ xI;clear xI
       have f3:((s[k].toNat:Int) != 46)=!((s[k].toNat:Int)==46):=rfl
       have f4:((s[k].toNat:Int) != 45)=!((s[k].toNat:Int)==45):=rfl
       rw[b3] at f3;rw[b4] at f4;simp only[Bool.not_true,Bool.not_false] at f3 f4;go_wp2_with fail;refine(PH.out _).mono ?_;rintro e w1 ⟨rfl,rfl⟩;go_wp2_with fail
       first
       | (go_round;(case rel=>exact⟨k+1,by omega,by go_num,HT.out.trans HR.out⟩);(case measure=>simp[intOf];omega))
       | (go_ret;exact⟨by rw[show O=false from HO.out.symm.trans (HB.out (k+1) hlt (HT.out.trans HR.out))];(try rfl),rfl⟩))
  ·have HS:Hid (O=!(s.toList==[])):=h_ (HO.out.symm.trans (HE.out (by rw[ws (by omega)] at xo;exact xo)))
   clear xo
   cases hq:(s.toList==[]) with
   | true=>
    go_wp2_with fail;go_ret;exact⟨by rw[HS.out,hq];rfl,rfl⟩
   | false=>
    go_wp2_with fail;go_ret;exact⟨by rw[HS.out,hq];rfl,rfl⟩

theorem fB (s:ByteArray) (w:World) (hs:s.size≤10000):Calls prog 279 #[.string s] w (Ret w (.int .i64 (if txP s.data.toList then 0 else 50))):=by
 have C:=fun w=>qd s w hs
 obtain⟨O,hO⟩:=e_ (txP s.data.toList);rw[hO] at C ⊢;have C:=h_ C;clear hO
 have g:¬ (16384:Int)<(s.size:Int):=by omega
 cases O with
 | true=>
  go_enter func279,ntmps279;go_wp2_with fail;refine(C.out w).mono ?_;rintro e w1 ⟨rfl,hb⟩;go_wp2_with fail;go_ret;exact⟨rfl,hb⟩
 | false=>
  go_enter func279,ntmps279;go_wp2_with fail;refine(C.out w).mono ?_;rintro e w1 ⟨rfl,hb⟩;go_wp2_with fail;go_ret;exact⟨rfl,hb⟩
theorem d9 (s:ByteArray) (w:World) (hs:s.size≤10000):Calls prog 201 #[.string s] w (Ret w (.bool (aG s.data.toList))):=
 (sY s w hs).mono fun e w' ⟨h1,h2⟩=>⟨h1,by rw[h2];exact bQ _⟩
theorem oL (s A R:ByteArray) (is b1 b2:Bool) (w:World)
  (CP:∀w:World,Calls prog 284 #[.string s] w (Ret w (.tuple #[.string A,.string R,.bool is])))
  (CA:∀w:World,Calls prog 201 #[.string A] w (Ret w (.bool b1)))
  (CR:∀w:World,Calls prog 201 #[.string R] w (Ret w (.bool b2))):
  Calls prog 278 #[.string s] w (Ret w (.bool (b2&&(!is||b1)))):=by
 have CP:=h_ CP;have CA:=h_ CA;have CR:=h_ CR
 cases b2 with
 | false=>
  go_enter func278,ntmps278;go_wp2_with fail;refine(CP.out w).mono ?_;rintro e w1 ⟨rfl,hb⟩;go_wp2_with fail;refine(CR.out w1).mono ?_;rintro e w2 ⟨rfl,xp⟩;have xt:=hb.trans (xp.mono hb.size);clear hb xp;go_wp2_with fail;go_ret;exact⟨rfl,xt⟩
 | true=>
  cases is with
  | false=>
   go_enter func278,ntmps278;go_wp2_with fail;refine(CP.out w).mono ?_;rintro e w1 ⟨rfl,hb⟩;go_wp2_with fail;refine(CR.out w1).mono ?_;rintro e w2 ⟨rfl,xp⟩;have xt:=hb.trans (xp.mono hb.size);clear hb xp;go_wp2_with fail;go_ret;exact⟨rfl,xt⟩
  | true=>
   go_enter func278,ntmps278;go_wp2_with fail;refine(CP.out w).mono ?_;rintro e w1 ⟨rfl,hb⟩;go_wp2_with fail;refine(CR.out w1).mono ?_;rintro e w2 ⟨rfl,xp⟩;have xt:=hb.trans (xp.mono hb.size);clear hb xp;go_wp2_with fail;refine(CA.out w2).mono ?_;rintro e w3 ⟨rfl,xp⟩;have yg:=xt.trans (xp.mono xt.size);clear xp xt;go_wp2_with fail;go_ret;exact⟨rfl,yg⟩
def pA9 (l:List UInt8):List UInt8:=if l.contains 58 then cA 58 l else []
def pR9 (l:List UInt8):List UInt8:=if l.contains 58 then cR 58 l else l
theorem oQ (s:ByteArray) (w:World) (hs:s.size≤10000):Calls prog 284 #[.string s] w (Ret w (.tuple #[.string (jB (pA9 s.data.toList)),.string (jB (pR9 s.data.toList)),.bool (s.data.toList.contains 58)])):=by
 obtain⟨x,hx⟩:∃x:ByteArray,jB (pA9 s.data.toList)=x:=⟨_,rfl⟩;obtain⟨y,hy⟩:∃x:ByteArray,jB (pR9 s.data.toList)=x:=⟨_,rfl⟩;obtain⟨b,hb⟩:=e_ (s.data.toList.contains 58);have HX:=h_ hx;have HY:=h_ hy;have HB:=h_ hb;rw[hx,hy,hb];clear hx hy hb;go_enter func284,ntmps284;go_wp2_with fail;go_loop [5] (fun i=>∃k:Nat,k≤s.size∧i=.int .i64 k∧(s.data.toList.take k).contains 58=false) (fun i=>s.size-(intOf i).toNat)
 case atStart=>exact⟨0,wh _,rfl,rfl⟩
 case round=>
  obtain⟨k,hk,rfl,xo⟩:=hrel
  by_cases hlt:k<s.size
  ·have hc:=s[k].toNat_lt
   obtain⟨h1,h2⟩:=pm 58 s k hlt xo
   by_cases he:s[k]=58
   ·have xz:=h1 he
    unfold atP at xz
    cases hb:s.data.toList.contains 58 with
    | false=>rw[hb,if_neg (by decide)] at xz;omega
    | true=>
     rw[hb,if_pos rfl] at xz;obtain⟨c0,c1,c2⟩:=fW 58 s hb;have xq:(cA 58 s.data.toList).length=k:=(by omega);rw[xq] at c1 c2;obtain rfl:b=true:=HB.out.symm.trans hb
     have yh:Hid (x=s.extract 0 k):=h_ (by rw[←HX.out,c1];unfold pA9;rw[hb,if_pos rfl])
     have yi:Hid (y=s.extract (k+1) s.size):=h_ (by rw[←HY.out,c2];unfold pR9;rw[hb,if_pos rfl])
     have e1:((s[k].toNat:Int)==58)=true:=(by rw[he];rfl);have g1:(k:Int)<s.size:=(by omega);have g2:(0:Int)≤(k:Int):=(by omega);have g3:(k:Int)≤s.size:=(by omega);have g4:(k:Int)+1≤s.size:=(by omega);have g5:(0:Int)≤(k:Int)+1:=(by omega);have g6:((k:Int)+1).toNat=k+1:=(by omega)
     have g7:IntKind.i64.wrap ((k:Int)+1)=(k:Int)+1:=IntWalk.i64_in _ (by omega)
     clear h1 h2 xo he xz hb c0 c1 c2 xq HX HY HB;go_wp2_with fail;go_quiet (fail);go_wp2_with fail;go_ret3;rw[yh.out,yi.out];exact⟨rfl,below_drewN _ _⟩
   ·have HS:=h_ (h2 he)
    have hq:s[k].toNat≠58:=fun e=>he (UInt8.toNat_inj.1 e)
    have g1:((s[k].toNat:Int)==58)=false:=beq_eq_false_iff_ne.2 (by omega)
    clear h1 h2 xo he;go_wp2_with fail;go_round
    case rel=>exact⟨k+1,by omega,by go_num,HS.out⟩
    case measure=>simp[intOf];omega
  ·rw[ws (by rw[ab];omega)] at xo
   obtain rfl:b=false:=HB.out.symm.trans xo;obtain rfl:x=⟨#[]⟩:=HX.out.symm.trans (by unfold pA9;rw[xo];rfl)
   have yj:y=s:=HY.out.symm.trans (by unfold pR9;rw[xo,if_neg (by decide)])
   subst yj;clear xo HX HY HB;go_wp2_with fail;go_ret3;exact⟨rfl,bQ _⟩
theorem pA (s:ByteArray) (w:World) (hs:s.size≤10000):Calls prog 278 #[.string s] w (Ret w (.bool (dg s.data.toList))):=by
 have hz:=ab s
 have hA:(pA9 s.data.toList).length≤10000:=by
  unfold pA9
  split
  ·have:=vD 58 s.data.toList;omega
  ·exact wh _
 have hR:(pR9 s.data.toList).length≤10000:=by
  unfold pR9
  split
  ·have:=rT 58 s.data.toList;omega
  ·omega
 have h:=oL s (jB (pA9 s.data.toList)) (jB (pR9 s.data.toList)) (s.data.toList.contains 58) _ _ w (fun w=>oQ s w hs)
  (fun w=>d9 _ w (by rw[ai];exact hA)) (fun w=>d9 _ w (by rw[ai];exact hR))
 have e:(aG (jB (pR9 s.data.toList)).data.toList&&(!s.data.toList.contains 58||aG (jB (pA9 s.data.toList)).data.toList))=dg s.data.toList:=by
  rw[ah,ah];unfold dg pA9 pR9
  cases s.data.toList.contains 58 with
  | true=>simp[Bool.and_comm]
  | false=>simp
 rw[←e];exact h

section
variable {α:Type} {nm:α→List UInt8} {q:α→Bool} {l:List α} {k:Nat} {x y:α}
theorem sL (h:chG nm l=true):chG nm (l.take k)=true:=by
 rw[←wq k l] at h;exact(bW h).1
theorem oc (h:chG nm (l.take k)=false):chG nm l=false:=by
 cases h2:chG nm l with
 | false=>rfl
 | true=>rw[sL h2] at h;cases h
theorem a8 (hx:l[k]?=some x):l.take (k+1)=l.take k++[x]:=by
 have xq:k<l.length:=by
  rcases Nat.lt_or_ge k l.length with h1 | h1
  ·exact h1
  ·rw[List.getElem?_eq_none h1] at hx;cases hx
 rw[wt xq] at hx;rw[wv xq,Option.some.inj hx]
theorem fp (hx:l[k]?=some x) (h:q x=false):l.all q=false:=by
 cases h2:l.all q with
 | false=>rfl
 | true=>
  have:=List.all_eq_true.1 h2 x (List.mem_of_getElem? hx);rw[h] at this
  cases this
theorem lF (hx:l[k]?=some x) (h:(l.take k).all q=true) (hq:q x=true):(l.take (k+1)).all q=true:=by
 rw[a8 hx,wo,h]
 simp[hq]
theorem oF (hx:l[0]?=some x):chG nm (l.take (0+1))=true:=by
 rw[a8 hx]
 rfl
theorem oz [Inhabited α] (hy:l[k]?=some y) (hx:l[k+1]?=some x) (h:chG nm (l.take (k+1))=true):chG nm (l.take (k+1+1))=au (nm y) (nm x):=by
 rw[a8 hx,fS,h,a8 hy]
 simp
end
section
variable {p:List Nd→Bool} {A:List Ac} {R:List Re} {m:Int}
theorem uG (h:A.all eU=false):dd p A R m=false:=by
 unfold dd;rw[h]
 simp
theorem tO (h:chG acN A=false):dd p A R m=false:=by
 unfold dd;rw[h]
 simp
theorem ux (h:(R.all fun r=>dJ p r&&a9 A r)=false):dd p A R m=false:=by
 unfold dd;rw[h]
 simp
theorem sD (h:chG reN R=false):dd p A R m=false:=by
 unfold dd;rw[h]
 simp
theorem qF (h1:A.all eU=true) (h2:chG acN A=true) (h3:(R.all fun r=>dJ p r&&a9 A r)=true) (h4:chG reN R=true):dd p A R m=(decide (A.length≤8)&&(decide (R.length≤16)&&(decide (0≤m)&&decide (m<cg)))):=by
 unfold dd;rw[h1,h2,h3,h4]
 simp
end

theorem jD {α:Type} {q:α→Bool} {l:List α} {k:Nat} {x:α} (hx:l[k]?=some x):(l.take (k+1)).any q=((l.take k).any q||q x):=by rw[a8 hx,ww];simp
theorem jI (M:List At) (aa:Option Addr) (cap:Nat) (w:World) (hv:IsL atY (.slice aa M.length cap) M w) (hf:rF M):Calls prog 280 #[.slice aa M.length cap] w (Ret w (.bool (dQ M))):=by
 obtain⟨O,hO⟩:=e_ (dQ M);rw[hO];unfold dQ at hO;obtain⟨L,hL⟩:=e_ M.length;rw[hL] at hv hO ⊢;have HV:=h_ hv;have HL:=h_ hL;have HF:=h_ hf.2;have HO:=h_ hO
 have yq:L≤1000:=by rw[←hL];exact hf.1
 have bs:=Sx.start w;clear hv hL hO hf;go_enter func280,ntmps280;go_wp2_with fail;go_loopw [3] (fun i wx=>∃k:Nat,k≤L∧i=.int .i64 k∧(ud (M.take k) (M.drop k)&&decide (L≤16))=O∧Sx w [] wx) (fun i _=>L-(intOf i).toNat)
 case atStart=>exact⟨0,wh _,rfl,HO.out,bs⟩
 case round=>
  clear bs;obtain⟨k,hk,rfl,hrel,bs⟩:=hrel;have q:=bs.q
  by_cases hlt:k<L
  ·have xA : k < M.length := by rw [HL.out]; exact hlt
   obtain⟨x,hx⟩:=e_ (M[k]);have xJ:M[k]?=some x:=(by rw[wt xA,hx]);have xY:x∈M:=(by rw[←hx];exact List.getElem_mem xA);obtain⟨b,off,cp,hv,-,hc⟩:=HV.out.cells xJ;rw[HL.out] at hv;simp only[wy,true_and] at hv;obtain⟨rfl,rfl⟩:=hv;obtain⟨z0,z1,z2⟩:=HF.out x xY
   have CF:=fun (W:World)=>pA ⟨x.2.1.toArray⟩ W (by show x.2.1.toArray.size≤_;simp;omega)
   have CV:=fun (W:World)=>fB ⟨x.2.2.toArray⟩ W (by show x.2.2.toArray.size≤_;simp;omega)
   have CS:=fun (W:World)=>fB ⟨x.1.toArray⟩ W (by show x.1.toArray.size≤_;simp;omega)
   rw[List.drop_eq_getElem_cons xA,hx] at hrel;simp only[ud] at hrel;rw[←a8 xJ] at hrel;obtain⟨B1,xx⟩:=e_ (((M.take k).any fun b=>x.1==b.1&&x.2.1==b.2.1));obtain⟨B2,xK⟩:=e_ (dg x.2.1);obtain⟨B3,xL⟩:=e_ (txP x.2.2);obtain⟨B4,xM⟩:=e_ (txP x.1);simp only[xK] at CF;simp only[xL] at CV;simp only[xM] at CS;rw[xx,xK,xL,xM] at hrel;obtain⟨X0,xB⟩:=e_ (ByteArray.mk x.1.toArray);obtain⟨X1,xC⟩:=e_ (ByteArray.mk x.2.1.toArray);obtain⟨X2,xN⟩:=e_ (ByteArray.mk x.2.2.toArray)
   have HC:=h_ fun (w':World) (hb:Bl w w')=>show w'.cell? ⟨b,off+k*3,none⟩=some (.string X0)∧w'.cell? ⟨b,off+k*3+1,none⟩=some (.string X1)∧w'.cell? ⟨b,off+k*3+2,none⟩=some (.string X2) from (by rw[←xB,←xC,←xN];exact⟨hc w' hb 0 _ rfl,hc w' hb 1 _ rfl,hc w' hb 2 _ rfl⟩)
   rw[xC] at CF;rw[xN] at CV;rw[xB] at CS;have CF:=h_ CF;have CV:=h_ CV;have CS:=h_ CS;have HR:=h_ hrel;have xZ:=h_ xx;have yk:=h_ xB;have yl:=h_ xC;have wl:(k:Int)<(L:Int):=(by omega);clear hrel xx xK xL xM hx xJ xY xA z0 z1 z2 hc xB xC xN;go_wp2_with fail;go_loopw [4] (fun i wx=>∃j:Nat,j≤k∧i=.int .i64 j∧(((M.take k).take j).any fun b=>x.1==b.1&&x.2.1==b.2.1)=false∧Sx w [] wx) (fun i _=>k-(intOf i).toNat)
   case atStart=>exact⟨0,wh _,rfl,rfl,bs⟩
   case round=>
    clear bs q;obtain⟨j,hj,rfl,xD,bs⟩:=hrel;have q:=bs.q;obtain⟨x0,x1,x2⟩:=HC.out wr q
    by_cases hlj:j<k
    ·have yd : j < M.length := by rw [HL.out]; omega
     obtain⟨y,hy⟩:=e_ (M[j]);have xO:M[j]?=some y:=(by rw[wt yd,hy]);have xP:(M.take k)[j]?=some y:=(by rw[List.getElem?_take_of_lt hlj,xO]);have xE:=jD (q:=fun b:At=>x.1==b.1&&x.2.1==b.2.1) xP;rw[xD,wu] at xE;obtain⟨b2,yp,yt,xQ,-,xR⟩:=HV.out.cells xO;rw[HL.out] at xQ;simp only[wy,true_and,Option.some.injEq,Addr.mk.injEq,and_true] at xQ;obtain⟨⟨rfl,rfl⟩,rfl⟩:=xQ;obtain⟨Y0,xS⟩:=e_ (ByteArray.mk y.1.toArray);obtain⟨Y1,xT⟩:=e_ (ByteArray.mk y.2.1.toArray);obtain⟨y0,y1⟩:wr.cell? ⟨b,off+j*3,none⟩=some (.string Y0)∧wr.cell? ⟨b,off+j*3+1,none⟩=some (.string Y1):=(by rw[←xS,←xT];exact⟨xR wr q 0 _ rfl,xR wr q 1 _ rfl⟩);have g0:(Y0.toList==X0.toList)=(x.1==y.1):=(by rw[←xS,←yk.out,lY,wz]);have g1:(Y1.toList==X1.toList)=(x.2.1==y.2.1):=(by rw[←xT,←yl.out,lY,wz]);obtain⟨E0,xU⟩:=e_ ((x.1==y.1));obtain⟨E1,xV⟩:=e_ ((x.2.1==y.2.1));simp only[xU,xV] at xE;rw[xU] at g0;rw[xV] at g1;have xW:=h_ xE;have wj:(j:Int)<(k:Int):=(by omega);have yu:=h_ xP;clear xE xD xU xV hy xO yd xR xS xT xP
     cases E0 with
     | false=>
      go_wp2_with fail;go_quiet (fail);go_wp2_with fail;go_roundw
      case rel=>exact⟨j+1,by omega,by go_num,xW.out,bs.ret (below_drewN _ _)⟩
      case measure=>simp[intOf];omega
     | true=>
      cases E1 with
      | false=>
       go_wp2_with fail;go_quiet (fail);go_wp2_with fail;go_roundw
       case rel=>exact⟨j+1,by omega,by go_num,xW.out,bs.ret (below_drewN _ _)⟩
       case measure=>simp[intOf];omega
      | true=>
       obtain rfl:B1=true:=by
        rw[←xZ.out,←wq (j+1) (M.take k),ww,xW.out]
        rfl
       obtain rfl:false=O:=HR.out;go_wp2_with fail;go_quiet (fail);go_wp2_with fail;go_ret;exact⟨rfl,q.trans ((below_drewN _ _).mono q.size)⟩
    ·obtain rfl : j = k := by omega
     have xx:B1=false:=(by rw[←xZ.out];rwa [ws (by rw[List.length_take];omega)] at xD);subst xx;have HR:=h_ HR.out;clear xD x0 x1 x2
     cases B2 with
     | false=>
      obtain⟨x0,x1,x2⟩:=HC.out wr q;go_wp2_with fail;refine(CF.out wr).mono ?_;rintro e xu ⟨rfl,hb⟩;clear x0 x1 x2;replace bs:=bs.ret hb;replace q:=bs.q;clear hb;obtain rfl:false=O:=HR.out;obtain⟨x0,x1,x2⟩:=HC.out xu q;go_wp2_with fail;go_ret;exact⟨rfl,q⟩
     | true=>
      obtain⟨x0,x1,x2⟩:=HC.out wr q;go_wp2_with fail;refine(CF.out wr).mono ?_;rintro e xu ⟨rfl,hb⟩;clear x0 x1 x2;replace bs:=bs.ret hb;replace q:=bs.q;clear hb
      cases B3 with
      | false=>
       obtain⟨x0,x1,x2⟩:=HC.out xu q;go_wp2_with fail;refine(CV.out xu).mono ?_;rintro e xw ⟨rfl,hb⟩;clear x0 x1 x2;replace bs:=bs.ret hb;replace q:=bs.q;clear hb;obtain rfl:false=O:=HR.out;obtain⟨x0,x1,x2⟩:=HC.out xw q;go_wp2_with fail;go_ret;exact⟨rfl,q⟩
      | true=>
       obtain⟨x0,x1,x2⟩:=HC.out xu q;go_wp2_with fail;refine(CV.out xu).mono ?_;rintro e xw ⟨rfl,hb⟩;clear x0 x1 x2;replace bs:=bs.ret hb;replace q:=bs.q;clear hb
       cases B4 with
       | false=>
        obtain⟨x0,x1,x2⟩:=HC.out xw q;go_wp2_with fail;refine(CS.out xw).mono ?_;rintro e xX ⟨rfl,hb⟩;clear x0 x1 x2;replace bs:=bs.ret hb;replace q:=bs.q;clear hb;obtain rfl:false=O:=HR.out;obtain⟨x0,x1,x2⟩:=HC.out xX q;go_wp2_with fail;go_ret;exact⟨rfl,q⟩
       | true=>
        obtain⟨x0,x1,x2⟩:=HC.out xw q;go_wp2_with fail;refine(CS.out xw).mono ?_;rintro e xX ⟨rfl,hb⟩;clear x0 x1 x2;replace bs:=bs.ret hb;replace q:=bs.q;clear hb;obtain⟨x0,x1,x2⟩:=HC.out xX q;go_wp2_with fail;clear x0 x1 x2;go_roundw
        case rel=>exact⟨j+1,by omega,by go_num,HR.out,bs⟩
        case measure=>simp[intOf];omega
  ·have e:M.drop k=[]:=List.drop_of_length_le (by rw[HL.out];omega)
   rw[e] at hrel;have hO:decide ((L:Int)≤16)=O:=(by rw[←hrel];exact decide_eq_decide.2 (by omega));have wl:¬ (k:Int)<(L:Int):=(by omega);clear hrel e;go_wp2_with fail;go_ret;exact⟨rfl,q⟩

theorem iP (n0:Int) (SP NM TX:ByteArray) (aa:Option Addr) (L cap:Nat) (many:Int) (tt fn ts at':Bool) (w:World)
  (CA:∀W,Bl w W→Calls prog 280 #[.slice aa L cap] W (Ret W (.bool at')))
  (CT:∀W,Calls prog 279 #[.string TX] W (Ret W (.int .i64 (if tt then 0 else 50))))
  (CS:∀W,Calls prog 279 #[.string SP] W (Ret W (.int .i64 (if ts then 0 else 50))))
  (CN:∀W,Calls prog 278 #[.string NM] W (Ret W (.bool fn))):
  Calls prog 265 #[.agg #[.int .u8 n0,.string SP,.string NM,.slice aa L cap,.string TX,.int .i64 many]] w (Ret w (.bool (uY (n0==2) (n0==1) NM.toList.isEmpty SP.toList.isEmpty (L==0) (many==0) TX.toList.isEmpty tt fn ts at'))):=by
 have CA:=h_ CA;have CT:=h_ CT;have CS:=h_ CS;have CN:=h_ CN
 have xF:(n0==1)=true→(n0==2)=false:=fun h=>by rw[beq_iff_eq] at h;subst h;rfl
 obtain⟨bN,hN⟩:=e_ NM.toList.isEmpty;obtain⟨bS,hS⟩:=e_ SP.toList.isEmpty;obtain⟨bX,hX⟩:=e_ TX.toList.isEmpty;obtain⟨bL,hL⟩:=e_ ((L==0));obtain⟨b2,h2⟩:=e_ ((n0==2));obtain⟨b1,h1⟩:=e_ ((n0==1));obtain⟨bM,hM⟩:=e_ ((many==0));rw[h1,h2] at xF;rw[hN,hS,hX,hL,h2,h1,hM]
 have yv:((L:Int)==0)=bL:=by rw[←hL,Bool.eq_iff_iff,beq_iff_eq,beq_iff_eq];omega
 clear hL;have hN:=h_ hN;have hS:=h_ hS;have hX:=h_ hX
 cases b1 with
 | true=>
  obtain rfl:=xF rfl;clear xF
  cases fn with
  | false=>
   obtain⟨W0,hW,y0,bs⟩:=Sx.start1 w [.int .u8 n0,.string SP,.string NM,.slice aa L cap,.string TX,.int .i64 many] 114;have HW:=h_ hW;clear hW;have q:=bs.q;go_enter func265,ntmps265;go_wp2_with fail;rw[HW.out];have xn:=bs.b6 0;go_wp2_with fail;refine(CN.out W0).mono ?_;rintro e w1 ⟨rfl,hb⟩;clear xn;replace bs:=bs.ret hb;replace q:=bs.q;clear hb;have xn:=bs.b6 0;go_wp2_with fail;go_ret
   exact⟨by first | rfl | (apply cD;cases bX <;> rfl),q⟩
  | true=>
   cases bX with
   | false=>
    have xy:=bY hX.out;have yn:=ao (s:=TX) xy;have yo:=ax (s:=TX) xy;obtain⟨W0,hW,y0,bs⟩:=Sx.start1 w [.int .u8 n0,.string SP,.string NM,.slice aa L cap,.string TX,.int .i64 many] 114;have HW:=h_ hW;clear hW;have q:=bs.q;go_enter func265,ntmps265;go_wp2_with fail;rw[HW.out];have xn:=bs.b6 0;go_wp2_with fail;refine(CN.out W0).mono ?_;rintro e w1 ⟨rfl,hb⟩;clear xn;replace bs:=bs.ret hb;replace q:=bs.q;clear hb;have xn:=bs.b6 0;go_wp2_with fail;go_ret
    exact⟨by first | rfl | (apply cD;cases bX <;> rfl),q⟩
   | true=>
    obtain rfl:=bO hX.out
    cases ts with
    | false=>
     obtain⟨W0,hW,y0,bs⟩:=Sx.start1 w [.int .u8 n0,.string SP,.string NM,.slice aa L cap,.string ⟨#[]⟩,.int .i64 many] 114;have HW:=h_ hW;clear hW;have q:=bs.q;go_enter func265,ntmps265;go_wp2_with fail;rw[HW.out];have xn:=bs.b6 0;go_wp2_with fail;refine(CN.out W0).mono ?_;rintro e w1 ⟨rfl,hb⟩;clear xn;replace bs:=bs.ret hb;replace q:=bs.q;clear hb;have xn:=bs.b6 0;go_wp2_with fail;refine(CS.out w1).mono ?_;rintro e w2 ⟨rfl,hb⟩;clear xn;replace bs:=bs.ret hb;replace q:=bs.q;clear hb;have xn:=bs.b6 0;go_wp2_with fail;go_ret
     exact⟨by first | rfl | (apply cD;cases bX <;> rfl),q⟩
    | true=>
     cases at' with
     | false=>
      obtain⟨W0,hW,y0,bs⟩:=Sx.start1 w [.int .u8 n0,.string SP,.string NM,.slice aa L cap,.string ⟨#[]⟩,.int .i64 many] 114;have HW:=h_ hW;clear hW;have q:=bs.q;go_enter func265,ntmps265;go_wp2_with fail;rw[HW.out];have xn:=bs.b6 0;go_wp2_with fail;refine(CN.out W0).mono ?_;rintro e w1 ⟨rfl,hb⟩;clear xn;replace bs:=bs.ret hb;replace q:=bs.q;clear hb;have xn:=bs.b6 0;go_wp2_with fail;refine(CS.out w1).mono ?_;rintro e w2 ⟨rfl,hb⟩;clear xn;replace bs:=bs.ret hb;replace q:=bs.q;clear hb;have xn:=bs.b6 0;go_wp2_with fail;refine(CA.out w2 q).mono ?_;rintro e w3 ⟨rfl,hb⟩;clear xn;replace bs:=bs.ret hb;replace q:=bs.q;clear hb;have xn:=bs.b6 0;go_wp2_with fail;go_ret
      exact⟨by first | rfl | (apply cD;cases bX <;> rfl),q⟩
     | true=>
      obtain⟨W0,hW,y0,bs⟩:=Sx.start1 w [.int .u8 n0,.string SP,.string NM,.slice aa L cap,.string ⟨#[]⟩,.int .i64 many] 114;have HW:=h_ hW;clear hW;have q:=bs.q;go_enter func265,ntmps265;go_wp2_with fail;rw[HW.out];have xn:=bs.b6 0;go_wp2_with fail;refine(CN.out W0).mono ?_;rintro e w1 ⟨rfl,hb⟩;clear xn;replace bs:=bs.ret hb;replace q:=bs.q;clear hb;have xn:=bs.b6 0;go_wp2_with fail;refine(CS.out w1).mono ?_;rintro e w2 ⟨rfl,hb⟩;clear xn;replace bs:=bs.ret hb;replace q:=bs.q;clear hb;have xn:=bs.b6 0;go_wp2_with fail;refine(CA.out w2 q).mono ?_;rintro e w3 ⟨rfl,hb⟩;clear xn;replace bs:=bs.ret hb;replace q:=bs.q;clear hb;have xn:=bs.b6 0;go_wp2_with fail;go_ret
      exact⟨by first | rfl | (apply cD;cases bX <;> rfl),q⟩
 | false=>
  clear xF
  cases b2 with
  | false=>
   obtain⟨W0,hW,y0,bs⟩:=Sx.start1 w [.int .u8 n0,.string SP,.string NM,.slice aa L cap,.string TX,.int .i64 many] 114;have HW:=h_ hW;clear hW;have q:=bs.q;go_enter func265,ntmps265;go_wp2_with fail;rw[HW.out];have xn:=bs.b6 0;go_wp2_with fail;go_ret
   exact⟨by first | rfl | (apply cD;cases bX <;> rfl),q⟩
  | true=>
   cases bN with
   | false=>
    have ye:=bY hN.out;have yw:=ao (s:=NM) ye;have yx:=ax (s:=NM) ye;obtain⟨W0,hW,y0,bs⟩:=Sx.start1 w [.int .u8 n0,.string SP,.string NM,.slice aa L cap,.string TX,.int .i64 many] 114;have HW:=h_ hW;clear hW;have q:=bs.q;go_enter func265,ntmps265;go_wp2_with fail;rw[HW.out];have xn:=bs.b6 0;go_wp2_with fail;go_ret
    exact⟨by first | rfl | (apply cD;cases bX <;> rfl),q⟩
   | true=>
    obtain rfl:=bO hN.out
    cases bS with
    | false=>
     have yf:=bY hS.out;have yy:=ao (s:=SP) yf;have yz:=ax (s:=SP) yf;obtain⟨W0,hW,y0,bs⟩:=Sx.start1 w [.int .u8 n0,.string SP,.string ⟨#[]⟩,.slice aa L cap,.string TX,.int .i64 many] 114;have HW:=h_ hW;clear hW;have q:=bs.q;go_enter func265,ntmps265;go_wp2_with fail;rw[HW.out];have xn:=bs.b6 0;go_wp2_with fail;go_ret
     exact⟨by first | rfl | (apply cD;cases bX <;> rfl),q⟩
    | true=>
     obtain rfl:=bO hS.out
     cases bL with
     | false=>
      obtain⟨W0,hW,y0,bs⟩:=Sx.start1 w [.int .u8 n0,.string ⟨#[]⟩,.string ⟨#[]⟩,.slice aa L cap,.string TX,.int .i64 many] 114;have HW:=h_ hW;clear hW;have q:=bs.q;go_enter func265,ntmps265;go_wp2_with fail;rw[HW.out];have xn:=bs.b6 0;go_wp2_with fail;go_ret
      exact⟨by first | rfl | (apply cD;cases bX <;> rfl),q⟩
     | true=>
      cases bM with
      | false=>
       obtain⟨W0,hW,y0,bs⟩:=Sx.start1 w [.int .u8 n0,.string ⟨#[]⟩,.string ⟨#[]⟩,.slice aa L cap,.string TX,.int .i64 many] 114;have HW:=h_ hW;clear hW;have q:=bs.q;go_enter func265,ntmps265;go_wp2_with fail;rw[HW.out];have xn:=bs.b6 0;go_wp2_with fail;go_ret
       exact⟨by first | rfl | (apply cD;cases bX <;> rfl),q⟩
      | true=>
       cases bX with
       | true=>
        obtain rfl:=bO hX.out;obtain⟨W0,hW,y0,bs⟩:=Sx.start1 w [.int .u8 n0,.string ⟨#[]⟩,.string ⟨#[]⟩,.slice aa L cap,.string ⟨#[]⟩,.int .i64 many] 114;have HW:=h_ hW;clear hW;have q:=bs.q;go_enter func265,ntmps265;go_wp2_with fail;rw[HW.out];have xn:=bs.b6 0;go_wp2_with fail;go_ret
        exact⟨by first | rfl | (apply cD;cases bX <;> rfl),q⟩
       | false=>
        have xy:=bY hX.out;have yn:=ao (s:=TX) xy;have yo:=ax (s:=TX) xy
        cases tt with
        | false=>
         obtain⟨W0,hW,y0,bs⟩:=Sx.start1 w [.int .u8 n0,.string ⟨#[]⟩,.string ⟨#[]⟩,.slice aa L cap,.string TX,.int .i64 many] 114;have HW:=h_ hW;clear hW;have q:=bs.q;go_enter func265,ntmps265;go_wp2_with fail;rw[HW.out];have xn:=bs.b6 0;go_wp2_with fail;refine(CT.out W0).mono ?_;rintro e w1 ⟨rfl,hb⟩;clear xn;replace bs:=bs.ret hb;replace q:=bs.q;clear hb;have xn:=bs.b6 0;go_wp2_with fail;go_ret
         exact⟨by first | rfl | (apply cD;cases bX <;> rfl),q⟩
        | true=>
         obtain⟨W0,hW,y0,bs⟩:=Sx.start1 w [.int .u8 n0,.string ⟨#[]⟩,.string ⟨#[]⟩,.slice aa L cap,.string TX,.int .i64 many] 114;have HW:=h_ hW;clear hW;have q:=bs.q;go_enter func265,ntmps265;go_wp2_with fail;rw[HW.out];have xn:=bs.b6 0;go_wp2_with fail;refine(CT.out W0).mono ?_;rintro e w1 ⟨rfl,hb⟩;clear xn;replace bs:=bs.ret hb;replace q:=bs.q;clear hb;have xn:=bs.b6 0;go_wp2_with fail;go_ret
         exact⟨by first | rfl | (apply cD;cases bX <;> rfl),q⟩
theorem lB (x:NdI) (w:World) (hs:ndY.sub x w) (hf:NdFit x.1):Calls prog 265 #[ndG x] w (Ret w (.bool (dL x.1))):=by
 have hA:IsL atY (ndV x) (ndA x) w:=hs
 have hz:∀(l:List UInt8),l.length≤10000→(⟨l.toArray⟩:ByteArray).size≤10000:=fun l h=>by show l.toArray.size≤_;simpa using h
 have e0:∀(l:List UInt8),(⟨l.toArray⟩:ByteArray).toList.isEmpty=l.isEmpty:=fun l=>by simp
 have e1:((ndA x).length==0)=(ndA x).isEmpty:=by cases ndA x <;> rfl
 have h:=iP x.1.1 ⟨x.1.2.1.toArray⟩ ⟨x.1.2.2.1.toArray⟩ ⟨x.1.2.2.2.2.1.toArray⟩ x.2.1 (ndA x).length x.2.2 x.1.2.2.2.2.2 (txP x.1.2.2.2.2.1) (dg x.1.2.2.1) (txP x.1.2.1) (dQ (ndA x)) w
  (fun W hb=>jI (ndA x) x.2.1 x.2.2 W (hA.ret hb) hf.at') (fun W=>fB _ W (hz _ hf.tx)) (fun W=>fB _ W (hz _ hf.sp)) (fun W=>pA _ W (hz _ hf.nm))
 rw[e0,e0,e0,e1] at h;exact h
end Go.Proofs.YtjgeiieiinmdnaaGreatDoor
