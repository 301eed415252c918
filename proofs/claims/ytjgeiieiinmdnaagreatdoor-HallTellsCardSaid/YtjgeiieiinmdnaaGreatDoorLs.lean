/- DcN, DcO, DcP, DdP, DcQ, DcS: put together by mergetpl.py. -/
import Derived.Test.YtjgeiieiinmdnaaGreatDoorLm
import Derived.Test.YtjgeiieiinmdnaaGreatDoorKg
import Derived.Test.YtjgeiieiinmdnaaGreatDoorLd
import Derived.Test.YtjgeiieiinmdnaaGreatDoorLn
open Go.Proofs.Tryz
open Bool renaming false_or→ww,beq_comm→wB
open Go.Value.slice renaming injEq→wA
open List renaming all_append→ws,take_append_drop→wt,take_of_length_le→wu,getElem?_eq_getElem→wv,take_succ_eq_append_getElem→wy,any_append→wz
open Nat renaming zero_le→wq
namespace Go.Proofs.YtjgeiieiinmdnaaGreatDoor
set_option maxHeartbeats 4000000
set_option maxRecDepth 100000
open Go.RowKit Go.Lib

theorem mF:∀(n:Fin 256),lxN n.val true=((decide ((97:Int)≤(n.val:Int))&&decide ((n.val:Int)≤122)||(decide ((65:Int)≤(n.val:Int))&&decide ((n.val:Int)≤90)))||((n.val:Int)==95)):=by decide+kernel
theorem nH (c:UInt8):lxC c true=((decide ((97:Int)≤(c.toNat:Int))&&decide ((c.toNat:Int)≤122)||(decide ((65:Int)≤(c.toNat:Int))&&decide ((c.toNat:Int)≤90)))||((c.toNat:Int)==95)):=mF ⟨c.toNat,c.toNat_lt⟩
theorem nJ (c:UInt8) (w:World):Calls prog 236 #[.int .u8 (c.toNat:Int)] w fun e w'=>e=.returned (.bool (lxC c true))∧w'=w:=by
 rw[nH];obtain⟨n,hn⟩:∃n:Int,(c.toNat:Int)=n:=⟨_,rfl⟩;rw[hn];clear hn
 cases h1:decide ((97:Int)≤n) <;> cases h2:decide (n≤122) <;> cases h3:decide ((65:Int)≤n) <;> cases h4:decide (n≤90) <;> cases h5:(n==95) <;>
  (go_enter func236,ntmps236
   go_wp2_with fail;go_ret;exact⟨rfl,rfl⟩)

def okT (l:List UInt8):Bool:=l.isEmpty||aE l
theorem qG (l:List UInt8) (c:UInt8):okT (l++[c])=(okT l&&lxC c l.isEmpty):=by
 cases l with
 | nil=>simp[okT,aE]
 | cons a t=>simp[okT,aE,ws,Bool.and_assoc]
theorem rW (l r:List UInt8) (h:okT (l++r)=true):okT l=true:=by
 cases l with
 | nil=>rfl
 | cons a t=>
  simp only[okT,List.cons_append,List.isEmpty_cons,ww,aE,ws,Bool.and_eq_true] at h ⊢;exact⟨h.1,h.2.1⟩
theorem mu:∀(n:Fin 256),lxN n.val false=(lxN n.val true||(!(decide ((n.val:Int)<48)||decide (57<(n.val:Int)))||(((n.val:Int)==46)||((n.val:Int)==45)))):=by decide+kernel
theorem ou (c:UInt8):lxC c false=(lxC c true||(!(decide ((c.toNat:Int)<48)||decide (57<(c.toNat:Int)))||(((c.toNat:Int)==46)||((c.toNat:Int)==45)))):=mu ⟨c.toNat,c.toNat_lt⟩
theorem sA (s:ByteArray) (w:World) (hs:s.size≤10000):Calls prog 201 #[.string s] w fun e w'=>e=.returned (.bool (aE s.data.toList))∧w'=w:=by
 have P:=h_ nJ;have hz:=ab s
 have hbad:∀k,k≤s.size→okT (s.data.toList.take k)=false→aE s.data.toList=false:=fun k hk h=>by
  cases hn:aE s.data.toList with
  | false=>rfl
  | true=>
   have h2:=rW (s.data.toList.take k) (s.data.toList.drop k) (by rw[wt];unfold okT;rw[hn,Bool.or_true]);rw[h] at h2
   cases h2
 have hend:okT s.data.toList=true→aE s.data.toList=!(s.toList==[]):=fun h=>by
  rw[Lib.toList_data];unfold okT at h
  cases he:s.data.toList with
  | nil=>rfl
  | cons a t=>
   rw[he] at h;exact h
 have HB:=h_ hbad;have HE:=h_ hend;obtain⟨O,hO⟩:=e_ (aE s.data.toList);rw[hO];have HO:=h_ hO;clear hO hbad hend;go_enter func201,ntmps201;go_wp2_with fail;go_loop [3] (fun i=>∃k:Nat,k≤s.size∧i=.int .i64 k∧okT (s.data.toList.take k)=true) (fun i=>s.size-(intOf i).toNat)
 case atStart=>exact⟨0,wq _,rfl,rfl⟩
 case round=>
  obtain⟨k,hk,rfl,hall⟩:=hrel
  by_cases hlt:k<s.size
  ·have hc:=s[k].toNat_lt
   have P1:=fun w=>P.out s[k] w
   have hkl:k<s.data.toList.length:=(by rw[hz];exact hlt)
   have hst:okT (s.data.toList.take (k+1))=lxC s[k] (s.data.toList.take k).isEmpty:=by
    rw[wy hkl,qG,hall,Bool.true_and]
    rfl
   have h0:(s.data.toList.take k).isEmpty=((k:Int)==0):=by
    cases k with
    | zero=>rfl
    | succ m=>
     cases he:s.data.toList with
     | nil=>rw[he] at hkl;simp at hkl
     | cons a t=>simp;omega
   rw[h0] at hst;have hfl:=ou s[k];obtain⟨F,hF⟩:=e_ (lxC s[k] false);rw[hF] at hfl
   cases hL:lxC s[k] true with
   | true=>
    rw[hL] at P1 hfl
    have HS:Hid (okT (s.data.toList.take (k+1))=true):=h_ (by rw[hst];cases ((k:Int)==0);exact hF.trans hfl;exact hL)
    have PH:=h_ P1;clear P1 hL hall hst h0 hfl hF;go_wp2_with fail;refine(PH.out _).mono ?_;rintro e w1 ⟨rfl,rfl⟩;go_wp2_with fail;go_round
    case rel=>exact⟨k+1,by omega,by go_num,HS.out⟩
    case measure=>simp[intOf];omega
   | false=>
    rw[hL] at P1 hfl;have PH:=h_ P1
    cases e0:((k:Int)==0) with
    | true=>
     have HS:Hid (O=false):=h_ (HO.out.symm.trans (HB.out (k+1) hlt (by rw[hst,e0];exact hL)))
     clear P1 hL hall hst h0 hfl hF;go_wp2_with fail;refine(PH.out _).mono ?_;rintro e w1 ⟨rfl,rfl⟩;go_wp2_with fail;go_ret;exact⟨by rw[HS.out];rfl,rfl⟩
    | false=>
     have HT:Hid (okT (s.data.toList.take (k+1))=F):=h_ (by rw[hst,e0];exact hF)
     have HF:=h_ hfl;clear P1 hL hall hst h0 hfl hF
     cases b1:decide ((s[k].toNat:Int)<48) <;> cases b2:decide (57<(s[k].toNat:Int)) <;> cases b3:((s[k].toNat:Int)==46) <;> cases b4:((s[k].toNat:Int)==45) <;>
      (have HR0:=HF.out
       rw[b1,b2,b3,b4] at HR0;have HR:=h_ HR0;clear HR0
       have f3:((s[k].toNat:Int) != 46)=!((s[k].toNat:Int)==46):=rfl
       have f4:((s[k].toNat:Int) != 45)=!((s[k].toNat:Int)==45):=rfl
       rw[b3] at f3;rw[b4] at f4;simp only[Bool.not_true,Bool.not_false] at f3 f4;go_wp2_with fail;refine(PH.out _).mono ?_;rintro e w1 ⟨rfl,rfl⟩;go_wp2_with fail
       first
       | (go_round;(case rel=>exact⟨k+1,by omega,by go_num,HT.out.trans HR.out⟩);(case measure=>simp[intOf];omega))
       | (go_ret;exact⟨by rw[show O=false from HO.out.symm.trans (HB.out (k+1) hlt (HT.out.trans HR.out))];(try rfl),rfl⟩))
  ·have HS:Hid (O=!(s.toList==[])):=h_ (HO.out.symm.trans (HE.out (by rw[wu (by omega)] at hall;exact hall)))
   clear hall
   cases hq:(s.toList==[]) with
   | true=>
    go_wp2_with fail;go_ret;exact⟨by rw[HS.out,hq];rfl,rfl⟩
   | false=>
    go_wp2_with fail;go_ret;exact⟨by rw[HS.out,hq];rfl,rfl⟩

theorem eI (s:ByteArray) (w:World) (hs:s.size≤10000):Calls prog 279 #[.string s] w (Ret w (.int .i64 (if txP s.data.toList then 0 else 50))):=by
 have C:=fun w=>qL s w hs
 obtain⟨O,hO⟩:=e_ (txP s.data.toList);rw[hO] at C ⊢;have C:=h_ C;clear hO
 have g:¬ (16384:Int)<(s.size:Int):=by omega
 cases O with
 | true=>
  go_enter func279,ntmps279;go_wp2_with fail;refine(C.out w).mono ?_;rintro e w1 ⟨rfl,hb⟩;go_wp2_with fail;go_ret;exact⟨rfl,hb⟩
 | false=>
  go_enter func279,ntmps279;go_wp2_with fail;refine(C.out w).mono ?_;rintro e w1 ⟨rfl,hb⟩;go_wp2_with fail;go_ret;exact⟨rfl,hb⟩
theorem dI (s:ByteArray) (w:World) (hs:s.size≤10000):Calls prog 201 #[.string s] w (Ret w (.bool (aE s.data.toList))):=
 (sA s w hs).mono fun e w' ⟨h1,h2⟩=>⟨h1,by rw[h2];exact bQ _⟩
theorem oy (s A R:ByteArray) (is b1 b2:Bool) (w:World)
  (CP:∀w:World,Calls prog 284 #[.string s] w (Ret w (.tuple #[.string A,.string R,.bool is])))
  (CA:∀w:World,Calls prog 201 #[.string A] w (Ret w (.bool b1)))
  (CR:∀w:World,Calls prog 201 #[.string R] w (Ret w (.bool b2))):
  Calls prog 278 #[.string s] w (Ret w (.bool (b2&&(!is||b1)))):=by
 have CP:=h_ CP;have CA:=h_ CA;have CR:=h_ CR
 cases b2 with
 | false=>
  go_enter func278,ntmps278;go_wp2_with fail;refine(CP.out w).mono ?_;rintro e w1 ⟨rfl,hb⟩;go_wp2_with fail;refine(CR.out w1).mono ?_;rintro e w2 ⟨rfl,hb2⟩;have hb3:=hb.trans (hb2.mono hb.size);clear hb hb2;go_wp2_with fail;go_ret;exact⟨rfl,hb3⟩
 | true=>
  cases is with
  | false=>
   go_enter func278,ntmps278;go_wp2_with fail;refine(CP.out w).mono ?_;rintro e w1 ⟨rfl,hb⟩;go_wp2_with fail;refine(CR.out w1).mono ?_;rintro e w2 ⟨rfl,hb2⟩;have hb3:=hb.trans (hb2.mono hb.size);clear hb hb2;go_wp2_with fail;go_ret;exact⟨rfl,hb3⟩
  | true=>
   go_enter func278,ntmps278;go_wp2_with fail;refine(CP.out w).mono ?_;rintro e w1 ⟨rfl,hb⟩;go_wp2_with fail;refine(CR.out w1).mono ?_;rintro e w2 ⟨rfl,hb2⟩;have hb3:=hb.trans (hb2.mono hb.size);clear hb hb2;go_wp2_with fail;refine(CA.out w2).mono ?_;rintro e w3 ⟨rfl,hb2⟩;have hb4:=hb3.trans (hb2.mono hb3.size);clear hb2 hb3;go_wp2_with fail;go_ret;exact⟨rfl,hb4⟩
def pA9 (l:List UInt8):List UInt8:=if l.contains 58 then cA 58 l else []
def pR9 (l:List UInt8):List UInt8:=if l.contains 58 then cR 58 l else l
theorem oF (s:ByteArray) (w:World) (hs:s.size≤10000):Calls prog 284 #[.string s] w (Ret w (.tuple #[.string (jB (pA9 s.data.toList)),.string (jB (pR9 s.data.toList)),.bool (s.data.toList.contains 58)])):=by
 obtain⟨x,hx⟩:∃x:ByteArray,jB (pA9 s.data.toList)=x:=⟨_,rfl⟩;obtain⟨y,hy⟩:∃x:ByteArray,jB (pR9 s.data.toList)=x:=⟨_,rfl⟩;obtain⟨b,hb⟩:=e_ (s.data.toList.contains 58);have HX:=h_ hx;have HY:=h_ hy;have HB:=h_ hb;rw[hx,hy,hb];clear hx hy hb;go_enter func284,ntmps284;go_wp2_with fail;go_loop [5] (fun i=>∃k:Nat,k≤s.size∧i=.int .i64 k∧(s.data.toList.take k).contains 58=false) (fun i=>s.size-(intOf i).toNat)
 case atStart=>exact⟨0,wq _,rfl,rfl⟩
 case round=>
  obtain⟨k,hk,rfl,hall⟩:=hrel
  by_cases hlt:k<s.size
  ·have hc:=s[k].toNat_lt
   obtain⟨h1,h2⟩:=nh 58 s k hlt hall
   by_cases he:s[k]=58
   ·have hat:=h1 he
    unfold atP at hat
    cases hb:s.data.toList.contains 58 with
    | false=>rw[hb,if_neg (by decide)] at hat;omega
    | true=>
     rw[hb,if_pos rfl] at hat;obtain⟨c0,c1,c2⟩:=fH 58 s hb;have hkl:(cA 58 s.data.toList).length=k:=(by omega);rw[hkl] at c1 c2;obtain rfl:b=true:=HB.out.symm.trans hb
     have HX2:Hid (x=s.extract 0 k):=h_ (by rw[←HX.out,c1];unfold pA9;rw[hb,if_pos rfl])
     have HY2:Hid (y=s.extract (k+1) s.size):=h_ (by rw[←HY.out,c2];unfold pR9;rw[hb,if_pos rfl])
     have e1:((s[k].toNat:Int)==58)=true:=(by rw[he];rfl);have g1:(k:Int)<s.size:=(by omega);have g2:(0:Int)≤(k:Int):=(by omega);have g3:(k:Int)≤s.size:=(by omega);have g4:(k:Int)+1≤s.size:=(by omega);have g5:(0:Int)≤(k:Int)+1:=(by omega);have g6:((k:Int)+1).toNat=k+1:=(by omega)
     have g7:IntKind.i64.wrap ((k:Int)+1)=(k:Int)+1:=IntWalk.i64_in _ (by omega)
     clear h1 h2 hall he hat hb c0 c1 c2 hkl HX HY HB;go_wp2_with fail;go_quiet (fail);go_wp2_with fail;go_ret3;rw[HX2.out,HY2.out];exact⟨rfl,below_drewN _ _⟩
   ·have HS:=h_ (h2 he)
    have hq:s[k].toNat≠58:=fun e=>he (UInt8.toNat_inj.1 e)
    have g1:((s[k].toNat:Int)==58)=false:=beq_eq_false_iff_ne.2 (by omega)
    clear h1 h2 hall he;go_wp2_with fail;go_round
    case rel=>exact⟨k+1,by omega,by go_num,HS.out⟩
    case measure=>simp[intOf];omega
  ·rw[wu (by rw[ab];omega)] at hall
   obtain rfl:b=false:=HB.out.symm.trans hall;obtain rfl:x=⟨#[]⟩:=HX.out.symm.trans (by unfold pA9;rw[hall];rfl)
   have hy2:y=s:=HY.out.symm.trans (by unfold pR9;rw[hall,if_neg (by decide)])
   subst hy2;clear hall HX HY HB;go_wp2_with fail;go_ret3;exact⟨rfl,bQ _⟩
theorem oH (s:ByteArray) (w:World) (hs:s.size≤10000):Calls prog 278 #[.string s] w (Ret w (.bool (cU s.data.toList))):=by
 have hz:=ab s
 have hA:(pA9 s.data.toList).length≤10000:=by
  unfold pA9
  split
  ·have:=vH 58 s.data.toList;omega
  ·exact wq _
 have hR:(pR9 s.data.toList).length≤10000:=by
  unfold pR9
  split
  ·have:=ro 58 s.data.toList;omega
  ·omega
 have h:=oy s (jB (pA9 s.data.toList)) (jB (pR9 s.data.toList)) (s.data.toList.contains 58) _ _ w (fun w=>oF s w hs)
  (fun w=>dI _ w (by rw[ah];exact hA)) (fun w=>dI _ w (by rw[ah];exact hR))
 have e:(aE (jB (pR9 s.data.toList)).data.toList&&(!s.data.toList.contains 58||aE (jB (pA9 s.data.toList)).data.toList))=cU s.data.toList:=by
  rw[ag,ag];unfold cU pA9 pR9
  cases s.data.toList.contains 58 with
  | true=>simp[Bool.and_comm]
  | false=>simp
 rw[←e];exact h

section
variable {α:Type} {nm:α→List UInt8} {q:α→Bool} {l:List α} {k:Nat} {x y:α}
theorem sK (h:chG nm l=true):chG nm (l.take k)=true:=by
 rw[←wt k l] at h;exact(bG h).1
theorem nS (h:chG nm (l.take k)=false):chG nm l=false:=by
 cases h2:chG nm l with
 | false=>rfl
 | true=>rw[sK h2] at h;cases h
theorem aM (hx:l[k]?=some x):l.take (k+1)=l.take k++[x]:=by
 have hkl:k<l.length:=by
  rcases Nat.lt_or_ge k l.length with h1 | h1
  ·exact h1
  ·rw[List.getElem?_eq_none h1] at hx;cases hx
 rw[wv hkl] at hx;rw[wy hkl,Option.some.inj hx]
theorem dN (hx:l[k]?=some x) (h:q x=false):l.all q=false:=by
 cases h2:l.all q with
 | false=>rfl
 | true=>
  have:=List.all_eq_true.1 h2 x (List.mem_of_getElem? hx);rw[h] at this
  cases this
theorem iK (hx:l[k]?=some x) (h:(l.take k).all q=true) (hq:q x=true):(l.take (k+1)).all q=true:=by
 rw[aM hx,ws,h]
 simp[hq]
theorem oU (hx:l[0]?=some x):chG nm (l.take (0+1))=true:=by
 rw[aM hx]
 rfl
theorem oi [Inhabited α] (hy:l[k]?=some y) (hx:l[k+1]?=some x) (h:chG nm (l.take (k+1))=true):chG nm (l.take (k+1+1))=ao (nm y) (nm x):=by
 rw[aM hx,fD,h,aM hy]
 simp
end
section
variable {p:List Nd→Bool} {A:List Ac} {R:List Re} {m:Int}
theorem t8 (h:A.all kC=false):dG p A R m=false:=by
 unfold dG;rw[h]
 simp
theorem tM (h:chG acN A=false):dG p A R m=false:=by
 unfold dG;rw[h]
 simp
theorem ul (h:(R.all fun r=>fR p r&&bP A r)=false):dG p A R m=false:=by
 unfold dG;rw[h]
 simp
theorem sL (h:chG reN R=false):dG p A R m=false:=by
 unfold dG;rw[h]
 simp
theorem qB (h1:A.all kC=true) (h2:chG acN A=true) (h3:(R.all fun r=>fR p r&&bP A r)=true) (h4:chG reN R=true):dG p A R m=(decide (A.length≤8)&&(decide (R.length≤16)&&(decide (0≤m)&&decide (m<fw)))):=by
 unfold dG;rw[h1,h2,h3,h4]
 simp
end

theorem ie {α:Type} {q:α→Bool} {l:List α} {k:Nat} {x:α} (hx:l[k]?=some x):(l.take (k+1)).any q=((l.take k).any q||q x):=by rw[aM hx,wz];simp
theorem jq (M:List At) (aa:Option Addr) (cap:Nat) (w:World) (hv:IsL atY (.slice aa M.length cap) M w) (hf:pJ M):Calls prog 280 #[.slice aa M.length cap] w (Ret w (.bool (dr M))):=by
 obtain⟨O,hO⟩:=e_ (dr M);rw[hO];unfold dr at hO;obtain⟨L,hL⟩:=e_ M.length;rw[hL] at hv hO ⊢;have HV:=h_ hv;have HL:=h_ hL;have HF:=h_ hf.2;have HO:=h_ hO
 have hL1:L≤1000:=by rw[←hL];exact hf.1
 have bs:=Sx.start w;clear hv hL hO hf;go_enter func280,ntmps280;go_wp2_with fail;go_loopw [3] (fun i wx=>∃k:Nat,k≤L∧i=.int .i64 k∧(tR (M.take k) (M.drop k)&&decide (L≤16))=O∧Sx w [] wx) (fun i _=>L-(intOf i).toNat)
 case atStart=>exact⟨0,wq _,rfl,HO.out,bs⟩
 case round=>
  clear bs;obtain⟨k,hk,rfl,hrel,bs⟩:=hrel;have q:=bs.q
  by_cases hlt:k<L
  ·have hkM : k < M.length := by rw [HL.out]; exact hlt
   obtain⟨x,hx⟩:=e_ (M[k]);have hkx:M[k]?=some x:=(by rw[wv hkM,hx]);have hxm:x∈M:=(by rw[←hx];exact List.getElem_mem hkM);obtain⟨b,off,cp,hv,-,hc⟩:=HV.out.cells hkx;rw[HL.out] at hv;simp only[wA,true_and] at hv;obtain⟨rfl,rfl⟩:=hv;obtain⟨z0,z1,z2⟩:=HF.out x hxm
   have CF:=fun (W:World)=>oH ⟨x.2.1.toArray⟩ W (by show x.2.1.toArray.size≤_;simp;omega)
   have CV:=fun (W:World)=>eI ⟨x.2.2.toArray⟩ W (by show x.2.2.toArray.size≤_;simp;omega)
   have CS:=fun (W:World)=>eI ⟨x.1.toArray⟩ W (by show x.1.toArray.size≤_;simp;omega)
   rw[List.drop_eq_getElem_cons hkM,hx] at hrel;simp only[tR] at hrel;rw[←aM hkx] at hrel;obtain⟨B1,hB1⟩:=e_ (((M.take k).any fun b=>x.1==b.1&&x.2.1==b.2.1));obtain⟨B2,hB2⟩:=e_ (cU x.2.1);obtain⟨B3,hB3⟩:=e_ (txP x.2.2);obtain⟨B4,hB4⟩:=e_ (txP x.1);simp only[hB2] at CF;simp only[hB3] at CV;simp only[hB4] at CS;rw[hB1,hB2,hB3,hB4] at hrel;obtain⟨X0,hX0⟩:=e_ (ByteArray.mk x.1.toArray);obtain⟨X1,hX1⟩:=e_ (ByteArray.mk x.2.1.toArray);obtain⟨X2,hX2⟩:=e_ (ByteArray.mk x.2.2.toArray)
   have HC:=h_ fun (w':World) (hb:Bl w w')=>show w'.cell? ⟨b,off+k*3,none⟩=some (.string X0)∧w'.cell? ⟨b,off+k*3+1,none⟩=some (.string X1)∧w'.cell? ⟨b,off+k*3+2,none⟩=some (.string X2) from (by rw[←hX0,←hX1,←hX2];exact⟨hc w' hb 0 _ rfl,hc w' hb 1 _ rfl,hc w' hb 2 _ rfl⟩)
   rw[hX1] at CF;rw[hX2] at CV;rw[hX0] at CS;have CF:=h_ CF;have CV:=h_ CV;have CS:=h_ CS;have HR:=h_ hrel;have HB1:=h_ hB1;have HX0:=h_ hX0;have HX1:=h_ hX1;have wl:(k:Int)<(L:Int):=(by omega);clear hrel hB1 hB2 hB3 hB4 hx hkx hxm hkM z0 z1 z2 hc hX0 hX1 hX2;go_wp2_with fail;go_loopw [4] (fun i wx=>∃j:Nat,j≤k∧i=.int .i64 j∧(((M.take k).take j).any fun b=>x.1==b.1&&x.2.1==b.2.1)=false∧Sx w [] wx) (fun i _=>k-(intOf i).toNat)
   case atStart=>exact⟨0,wq _,rfl,rfl,bs⟩
   case round=>
    clear bs q;obtain⟨j,hj,rfl,hno,bs⟩:=hrel;have q:=bs.q;obtain⟨x0,x1,x2⟩:=HC.out wr q
    by_cases hlj:j<k
    ·have hjM : j < M.length := by rw [HL.out]; omega
     obtain⟨y,hy⟩:=e_ (M[j]);have hjy:M[j]?=some y:=(by rw[wv hjM,hy]);have hjt:(M.take k)[j]?=some y:=(by rw[List.getElem?_take_of_lt hlj,hjy]);have hsn:=ie (q:=fun b:At=>x.1==b.1&&x.2.1==b.2.1) hjt;rw[hno,ww] at hsn;obtain⟨b2,off2,cp2,hv2,-,hc2⟩:=HV.out.cells hjy;rw[HL.out] at hv2;simp only[wA,true_and,Option.some.injEq,Addr.mk.injEq,and_true] at hv2;obtain⟨⟨rfl,rfl⟩,rfl⟩:=hv2;obtain⟨Y0,hY0⟩:=e_ (ByteArray.mk y.1.toArray);obtain⟨Y1,hY1⟩:=e_ (ByteArray.mk y.2.1.toArray);obtain⟨y0,y1⟩:wr.cell? ⟨b,off+j*3,none⟩=some (.string Y0)∧wr.cell? ⟨b,off+j*3+1,none⟩=some (.string Y1):=(by rw[←hY0,←hY1];exact⟨hc2 wr q 0 _ rfl,hc2 wr q 1 _ rfl⟩);have g0:(Y0.toList==X0.toList)=(x.1==y.1):=(by rw[←hY0,←HX0.out,lm,wB]);have g1:(Y1.toList==X1.toList)=(x.2.1==y.2.1):=(by rw[←hY1,←HX1.out,lm,wB]);obtain⟨E0,hE0⟩:=e_ ((x.1==y.1));obtain⟨E1,hE1⟩:=e_ ((x.2.1==y.2.1));simp only[hE0,hE1] at hsn;rw[hE0] at g0;rw[hE1] at g1;have HSN:=h_ hsn;have wj:(j:Int)<(k:Int):=(by omega);have HAT:=h_ hjt;clear hsn hno hE0 hE1 hy hjy hjM hc2 hY0 hY1 hjt
     cases E0 with
     | false=>
      go_wp2_with fail;go_quiet (fail);go_wp2_with fail;go_roundw
      case rel=>exact⟨j+1,by omega,by go_num,HSN.out,bs.ret (below_drewN _ _)⟩
      case measure=>simp[intOf];omega
     | true=>
      cases E1 with
      | false=>
       go_wp2_with fail;go_quiet (fail);go_wp2_with fail;go_roundw
       case rel=>exact⟨j+1,by omega,by go_num,HSN.out,bs.ret (below_drewN _ _)⟩
       case measure=>simp[intOf];omega
      | true=>
       obtain rfl:B1=true:=by
        rw[←HB1.out,←wt (j+1) (M.take k),wz,HSN.out]
        rfl
       obtain rfl:false=O:=HR.out;go_wp2_with fail;go_quiet (fail);go_wp2_with fail;go_ret;exact⟨rfl,q.trans ((below_drewN _ _).mono q.size)⟩
    ·obtain rfl : j = k := by omega
     have hB1:B1=false:=(by rw[←HB1.out];rwa [wu (by rw[List.length_take];omega)] at hno);subst hB1;have HR:=h_ HR.out;clear hno x0 x1 x2
     cases B2 with
     | false=>
      obtain⟨x0,x1,x2⟩:=HC.out wr q;go_wp2_with fail;refine(CF.out wr).mono ?_;rintro e w61 ⟨rfl,hb⟩;clear x0 x1 x2;replace bs:=bs.ret hb;replace q:=bs.q;clear hb;obtain rfl:false=O:=HR.out;obtain⟨x0,x1,x2⟩:=HC.out w61 q;go_wp2_with fail;go_ret;exact⟨rfl,q⟩
     | true=>
      obtain⟨x0,x1,x2⟩:=HC.out wr q;go_wp2_with fail;refine(CF.out wr).mono ?_;rintro e w61 ⟨rfl,hb⟩;clear x0 x1 x2;replace bs:=bs.ret hb;replace q:=bs.q;clear hb
      cases B3 with
      | false=>
       obtain⟨x0,x1,x2⟩:=HC.out w61 q;go_wp2_with fail;refine(CV.out w61).mono ?_;rintro e w62 ⟨rfl,hb⟩;clear x0 x1 x2;replace bs:=bs.ret hb;replace q:=bs.q;clear hb;obtain rfl:false=O:=HR.out;obtain⟨x0,x1,x2⟩:=HC.out w62 q;go_wp2_with fail;go_ret;exact⟨rfl,q⟩
      | true=>
       obtain⟨x0,x1,x2⟩:=HC.out w61 q;go_wp2_with fail;refine(CV.out w61).mono ?_;rintro e w62 ⟨rfl,hb⟩;clear x0 x1 x2;replace bs:=bs.ret hb;replace q:=bs.q;clear hb
       cases B4 with
       | false=>
        obtain⟨x0,x1,x2⟩:=HC.out w62 q;go_wp2_with fail;refine(CS.out w62).mono ?_;rintro e w63 ⟨rfl,hb⟩;clear x0 x1 x2;replace bs:=bs.ret hb;replace q:=bs.q;clear hb;obtain rfl:false=O:=HR.out;obtain⟨x0,x1,x2⟩:=HC.out w63 q;go_wp2_with fail;go_ret;exact⟨rfl,q⟩
       | true=>
        obtain⟨x0,x1,x2⟩:=HC.out w62 q;go_wp2_with fail;refine(CS.out w62).mono ?_;rintro e w63 ⟨rfl,hb⟩;clear x0 x1 x2;replace bs:=bs.ret hb;replace q:=bs.q;clear hb;obtain⟨x0,x1,x2⟩:=HC.out w63 q;go_wp2_with fail;clear x0 x1 x2;go_roundw
        case rel=>exact⟨j+1,by omega,by go_num,HR.out,bs⟩
        case measure=>simp[intOf];omega
  ·have e:M.drop k=[]:=List.drop_of_length_le (by rw[HL.out];omega)
   rw[e] at hrel;have hO:decide ((L:Int)≤16)=O:=(by rw[←hrel];exact decide_eq_decide.2 (by omega));have wl:¬ (k:Int)<(L:Int):=(by omega);clear hrel e;go_wp2_with fail;go_ret;exact⟨rfl,q⟩

theorem gW (n0:Int) (SP NM TX:ByteArray) (aa:Option Addr) (L cap:Nat) (many:Int) (tt fn ts at':Bool) (w:World)
  (CA:∀W,Bl w W→Calls prog 280 #[.slice aa L cap] W (Ret W (.bool at')))
  (CT:∀W,Calls prog 279 #[.string TX] W (Ret W (.int .i64 (if tt then 0 else 50))))
  (CS:∀W,Calls prog 279 #[.string SP] W (Ret W (.int .i64 (if ts then 0 else 50))))
  (CN:∀W,Calls prog 278 #[.string NM] W (Ret W (.bool fn))):
  Calls prog 265 #[.agg #[.int .u8 n0,.string SP,.string NM,.slice aa L cap,.string TX,.int .i64 many]] w (Ret w (.bool (uN (n0==2) (n0==1) NM.toList.isEmpty SP.toList.isEmpty (L==0) (many==0) TX.toList.isEmpty tt fn ts at'))):=by
 have CA:=h_ CA;have CT:=h_ CT;have CS:=h_ CS;have CN:=h_ CN
 have h12:(n0==1)=true→(n0==2)=false:=fun h=>by rw[beq_iff_eq] at h;subst h;rfl
 obtain⟨bN,hN⟩:=e_ NM.toList.isEmpty;obtain⟨bS,hS⟩:=e_ SP.toList.isEmpty;obtain⟨bX,hX⟩:=e_ TX.toList.isEmpty;obtain⟨bL,hL⟩:=e_ ((L==0));obtain⟨b2,h2⟩:=e_ ((n0==2));obtain⟨b1,h1⟩:=e_ ((n0==1));obtain⟨bM,hM⟩:=e_ ((many==0));rw[h1,h2] at h12;rw[hN,hS,hX,hL,h2,h1,hM]
 have hLi:((L:Int)==0)=bL:=by rw[←hL,Bool.eq_iff_iff,beq_iff_eq,beq_iff_eq];omega
 clear hL;have hN:=h_ hN;have hS:=h_ hS;have hX:=h_ hX
 cases b1 with
 | true=>
  obtain rfl:=h12 rfl;clear h12
  cases fn with
  | false=>
   obtain⟨W0,hW,y0,bs⟩:=Sx.start1 w [.int .u8 n0,.string SP,.string NM,.slice aa L cap,.string TX,.int .i64 many] 114;have HW:=h_ hW;clear hW;have q:=bs.q;go_enter func265,ntmps265;go_wp2_with fail;rw[HW.out];have c_n0:=bs.b6 0;go_wp2_with fail;refine(CN.out W0).mono ?_;rintro e w1 ⟨rfl,hb⟩;clear c_n0;replace bs:=bs.ret hb;replace q:=bs.q;clear hb;have c_n0:=bs.b6 0;go_wp2_with fail;go_ret
   exact⟨by first | rfl | (apply bY;cases bX <;> rfl),q⟩
  | true=>
   cases bX with
   | false=>
    have phX:=bH hX.out;have ehX:=am (s:=TX) phX;have fhX:=au (s:=TX) phX;obtain⟨W0,hW,y0,bs⟩:=Sx.start1 w [.int .u8 n0,.string SP,.string NM,.slice aa L cap,.string TX,.int .i64 many] 114;have HW:=h_ hW;clear hW;have q:=bs.q;go_enter func265,ntmps265;go_wp2_with fail;rw[HW.out];have c_n0:=bs.b6 0;go_wp2_with fail;refine(CN.out W0).mono ?_;rintro e w1 ⟨rfl,hb⟩;clear c_n0;replace bs:=bs.ret hb;replace q:=bs.q;clear hb;have c_n0:=bs.b6 0;go_wp2_with fail;go_ret
    exact⟨by first | rfl | (apply bY;cases bX <;> rfl),q⟩
   | true=>
    obtain rfl:=bW hX.out
    cases ts with
    | false=>
     obtain⟨W0,hW,y0,bs⟩:=Sx.start1 w [.int .u8 n0,.string SP,.string NM,.slice aa L cap,.string ⟨#[]⟩,.int .i64 many] 114;have HW:=h_ hW;clear hW;have q:=bs.q;go_enter func265,ntmps265;go_wp2_with fail;rw[HW.out];have c_n0:=bs.b6 0;go_wp2_with fail;refine(CN.out W0).mono ?_;rintro e w1 ⟨rfl,hb⟩;clear c_n0;replace bs:=bs.ret hb;replace q:=bs.q;clear hb;have c_n0:=bs.b6 0;go_wp2_with fail;refine(CS.out w1).mono ?_;rintro e w2 ⟨rfl,hb⟩;clear c_n0;replace bs:=bs.ret hb;replace q:=bs.q;clear hb;have c_n0:=bs.b6 0;go_wp2_with fail;go_ret
     exact⟨by first | rfl | (apply bY;cases bX <;> rfl),q⟩
    | true=>
     cases at' with
     | false=>
      obtain⟨W0,hW,y0,bs⟩:=Sx.start1 w [.int .u8 n0,.string SP,.string NM,.slice aa L cap,.string ⟨#[]⟩,.int .i64 many] 114;have HW:=h_ hW;clear hW;have q:=bs.q;go_enter func265,ntmps265;go_wp2_with fail;rw[HW.out];have c_n0:=bs.b6 0;go_wp2_with fail;refine(CN.out W0).mono ?_;rintro e w1 ⟨rfl,hb⟩;clear c_n0;replace bs:=bs.ret hb;replace q:=bs.q;clear hb;have c_n0:=bs.b6 0;go_wp2_with fail;refine(CS.out w1).mono ?_;rintro e w2 ⟨rfl,hb⟩;clear c_n0;replace bs:=bs.ret hb;replace q:=bs.q;clear hb;have c_n0:=bs.b6 0;go_wp2_with fail;refine(CA.out w2 q).mono ?_;rintro e w3 ⟨rfl,hb⟩;clear c_n0;replace bs:=bs.ret hb;replace q:=bs.q;clear hb;have c_n0:=bs.b6 0;go_wp2_with fail;go_ret
      exact⟨by first | rfl | (apply bY;cases bX <;> rfl),q⟩
     | true=>
      obtain⟨W0,hW,y0,bs⟩:=Sx.start1 w [.int .u8 n0,.string SP,.string NM,.slice aa L cap,.string ⟨#[]⟩,.int .i64 many] 114;have HW:=h_ hW;clear hW;have q:=bs.q;go_enter func265,ntmps265;go_wp2_with fail;rw[HW.out];have c_n0:=bs.b6 0;go_wp2_with fail;refine(CN.out W0).mono ?_;rintro e w1 ⟨rfl,hb⟩;clear c_n0;replace bs:=bs.ret hb;replace q:=bs.q;clear hb;have c_n0:=bs.b6 0;go_wp2_with fail;refine(CS.out w1).mono ?_;rintro e w2 ⟨rfl,hb⟩;clear c_n0;replace bs:=bs.ret hb;replace q:=bs.q;clear hb;have c_n0:=bs.b6 0;go_wp2_with fail;refine(CA.out w2 q).mono ?_;rintro e w3 ⟨rfl,hb⟩;clear c_n0;replace bs:=bs.ret hb;replace q:=bs.q;clear hb;have c_n0:=bs.b6 0;go_wp2_with fail;go_ret
      exact⟨by first | rfl | (apply bY;cases bX <;> rfl),q⟩
 | false=>
  clear h12
  cases b2 with
  | false=>
   obtain⟨W0,hW,y0,bs⟩:=Sx.start1 w [.int .u8 n0,.string SP,.string NM,.slice aa L cap,.string TX,.int .i64 many] 114;have HW:=h_ hW;clear hW;have q:=bs.q;go_enter func265,ntmps265;go_wp2_with fail;rw[HW.out];have c_n0:=bs.b6 0;go_wp2_with fail;go_ret
   exact⟨by first | rfl | (apply bY;cases bX <;> rfl),q⟩
  | true=>
   cases bN with
   | false=>
    have phN:=bH hN.out;have ehN:=am (s:=NM) phN;have fhN:=au (s:=NM) phN;obtain⟨W0,hW,y0,bs⟩:=Sx.start1 w [.int .u8 n0,.string SP,.string NM,.slice aa L cap,.string TX,.int .i64 many] 114;have HW:=h_ hW;clear hW;have q:=bs.q;go_enter func265,ntmps265;go_wp2_with fail;rw[HW.out];have c_n0:=bs.b6 0;go_wp2_with fail;go_ret
    exact⟨by first | rfl | (apply bY;cases bX <;> rfl),q⟩
   | true=>
    obtain rfl:=bW hN.out
    cases bS with
    | false=>
     have phS:=bH hS.out;have ehS:=am (s:=SP) phS;have fhS:=au (s:=SP) phS;obtain⟨W0,hW,y0,bs⟩:=Sx.start1 w [.int .u8 n0,.string SP,.string ⟨#[]⟩,.slice aa L cap,.string TX,.int .i64 many] 114;have HW:=h_ hW;clear hW;have q:=bs.q;go_enter func265,ntmps265;go_wp2_with fail;rw[HW.out];have c_n0:=bs.b6 0;go_wp2_with fail;go_ret
     exact⟨by first | rfl | (apply bY;cases bX <;> rfl),q⟩
    | true=>
     obtain rfl:=bW hS.out
     cases bL with
     | false=>
      obtain⟨W0,hW,y0,bs⟩:=Sx.start1 w [.int .u8 n0,.string ⟨#[]⟩,.string ⟨#[]⟩,.slice aa L cap,.string TX,.int .i64 many] 114;have HW:=h_ hW;clear hW;have q:=bs.q;go_enter func265,ntmps265;go_wp2_with fail;rw[HW.out];have c_n0:=bs.b6 0;go_wp2_with fail;go_ret
      exact⟨by first | rfl | (apply bY;cases bX <;> rfl),q⟩
     | true=>
      cases bM with
      | false=>
       obtain⟨W0,hW,y0,bs⟩:=Sx.start1 w [.int .u8 n0,.string ⟨#[]⟩,.string ⟨#[]⟩,.slice aa L cap,.string TX,.int .i64 many] 114;have HW:=h_ hW;clear hW;have q:=bs.q;go_enter func265,ntmps265;go_wp2_with fail;rw[HW.out];have c_n0:=bs.b6 0;go_wp2_with fail;go_ret
       exact⟨by first | rfl | (apply bY;cases bX <;> rfl),q⟩
      | true=>
       cases bX with
       | true=>
        obtain rfl:=bW hX.out;obtain⟨W0,hW,y0,bs⟩:=Sx.start1 w [.int .u8 n0,.string ⟨#[]⟩,.string ⟨#[]⟩,.slice aa L cap,.string ⟨#[]⟩,.int .i64 many] 114;have HW:=h_ hW;clear hW;have q:=bs.q;go_enter func265,ntmps265;go_wp2_with fail;rw[HW.out];have c_n0:=bs.b6 0;go_wp2_with fail;go_ret
        exact⟨by first | rfl | (apply bY;cases bX <;> rfl),q⟩
       | false=>
        have phX:=bH hX.out;have ehX:=am (s:=TX) phX;have fhX:=au (s:=TX) phX
        cases tt with
        | false=>
         obtain⟨W0,hW,y0,bs⟩:=Sx.start1 w [.int .u8 n0,.string ⟨#[]⟩,.string ⟨#[]⟩,.slice aa L cap,.string TX,.int .i64 many] 114;have HW:=h_ hW;clear hW;have q:=bs.q;go_enter func265,ntmps265;go_wp2_with fail;rw[HW.out];have c_n0:=bs.b6 0;go_wp2_with fail;refine(CT.out W0).mono ?_;rintro e w1 ⟨rfl,hb⟩;clear c_n0;replace bs:=bs.ret hb;replace q:=bs.q;clear hb;have c_n0:=bs.b6 0;go_wp2_with fail;go_ret
         exact⟨by first | rfl | (apply bY;cases bX <;> rfl),q⟩
        | true=>
         obtain⟨W0,hW,y0,bs⟩:=Sx.start1 w [.int .u8 n0,.string ⟨#[]⟩,.string ⟨#[]⟩,.slice aa L cap,.string TX,.int .i64 many] 114;have HW:=h_ hW;clear hW;have q:=bs.q;go_enter func265,ntmps265;go_wp2_with fail;rw[HW.out];have c_n0:=bs.b6 0;go_wp2_with fail;refine(CT.out W0).mono ?_;rintro e w1 ⟨rfl,hb⟩;clear c_n0;replace bs:=bs.ret hb;replace q:=bs.q;clear hb;have c_n0:=bs.b6 0;go_wp2_with fail;go_ret
         exact⟨by first | rfl | (apply bY;cases bX <;> rfl),q⟩
theorem ki (x:NdI) (w:World) (hs:ndY.sub x w) (hf:NdFit x.1):Calls prog 265 #[ndG x] w (Ret w (.bool (dn x.1))):=by
 have hA:IsL atY (ndV x) (ndA x) w:=hs
 have hz:∀(l:List UInt8),l.length≤10000→(⟨l.toArray⟩:ByteArray).size≤10000:=fun l h=>by show l.toArray.size≤_;simpa using h
 have e0:∀(l:List UInt8),(⟨l.toArray⟩:ByteArray).toList.isEmpty=l.isEmpty:=fun l=>by simp
 have e1:((ndA x).length==0)=(ndA x).isEmpty:=by cases ndA x <;> rfl
 have h:=gW x.1.1 ⟨x.1.2.1.toArray⟩ ⟨x.1.2.2.1.toArray⟩ ⟨x.1.2.2.2.2.1.toArray⟩ x.2.1 (ndA x).length x.2.2 x.1.2.2.2.2.2 (txP x.1.2.2.2.2.1) (cU x.1.2.2.1) (txP x.1.2.1) (dr (ndA x)) w
  (fun W hb=>jq (ndA x) x.2.1 x.2.2 W (hA.ret hb) hf.at') (fun W=>eI _ W (hz _ hf.tx)) (fun W=>eI _ W (hz _ hf.sp)) (fun W=>oH _ W (hz _ hf.nm))
 rw[e0,e0,e0,e1] at h;exact h
end Go.Proofs.YtjgeiieiinmdnaaGreatDoor
