/- DcU, DcY: put together by mergetpl.py. -/
import Derived.Test.YtjgeiieiinmdnaaGreatDoorLs
open Go.Proofs.Tryz
open Bool renaming true_and→wv,false_and→ww,false_or→wy,not_false→wD
open Go.Value.slice renaming injEq→wo
open List renaming getElem?_eq_getElem→wh,length_map→ws,getElem_mem→wt,take_of_length_le→wz,getElem?_map→wA,mem_map_of_mem→wC
open Nat renaming zero_le→wq,le_refl→wu,sub_self→wB
namespace Go.Proofs.YtjgeiieiinmdnaaGreatDoor
set_option maxHeartbeats 8000000
set_option maxRecDepth 100000
open Go.RowKit Go.Lib

theorem kL {f:Int→Int} {v:List Nd} {l:Int}:∀m:Nat,bA f v m (-1) l=-1
 | 0=>rfl
 | _+1=>kq (by omega)
theorem eQ {f:Int→Int} {v:List Nd} (hf:∀x,0≤x→f x=-1∨x+1≤f x):∀(m:Nat) (nx la:Int),0≤nx→bA f v m nx la=-1∨nx+m≤bA f v m nx la
 | 0,nx,la,h0=>.inr (by show nx+((0:Nat):Int)≤nx;omega)
 | m+1,nx,la,h0=>by
  unfold bA
  split
  ·exact .inl rfl
  ·split
   ·exact .inl rfl
   ·rename_i n hn hc
    rcases hf nx h0 with h | h
    ·rw[h,kL]
     exact .inl rfl
    ·rcases eQ hf m (f nx) n.1 (by omega) with h1 | h1
     ·exact .inl h1
     ·exact .inr (by omega)
theorem iu {f:Int→Int} {v:List Nd} (hf:∀x,0≤x→f x=-1∨x+1≤f x) (yx:Bool) (a:Int) (ha:0≤a):dK f v yx a=-1∨a+1≤dK f v yx a:=by
 unfold dK
 split
 ·exact .inl rfl
 ·split
  ·exact .inl rfl
  ·rename_i n hn hc
   rcases eQ (v:=v) hf (aY n).toNat (a+1) 1 (by omega) with h | h
   ·exact .inl h
   ·exact .inr (by omega)
theorem jY (v:List Nd):∀(d:Nat) (a:Int),0≤a→gp v d a=-1∨a+1≤gp v d a
 | 0,a,ha=>iu (fun _ _=>.inl rfl) true a ha
 | d+1,a,ha=>iu (jY v d) false a ha
theorem nQ {v:List Nd} {d M k:Nat} (h:v.length<M):bA (gp v d) v M ((k:Int)+1) 1=-1:=by
 rcases Nat.lt_or_ge v.length (k+1) with hk | hk
 ·obtain⟨m,rfl⟩:∃m,M=m+1:=⟨M-1,by omega⟩
  exact gh (k:=k+1) (by omega)
 ·rcases eQ (v:=v) (jY v d) M ((k:Int)+1) 1 (by omega) with h1 | h1
  ·exact h1
  ·have h2:=(dY (v:=v) (bH v d) M ((k:Int)+1) 1 (by omega) (by omega)).2
   omega
def vK (T:List NdI) (va:Option Addr) (L vc:Nat) (w0:World) (d:Nat):Prop:=∀(k lv:Nat) (W:World),k≤L→lv+d=13→Bl w0 W→
 Calls prog 237 #[.slice va L vc,.int .i64 k,.int .i64 lv] W (Ret W (.int .i64 (gp (T.map Prod.fst) d k)))
theorem eW (T:List NdI) (va:Option Addr) (L vc d:Nat) (w0:World) (hv:IsL ndY (.slice va L vc) T w0) (hL:T.length=L) (yA:L≤100000) (hd:d≤12) (hf:∀x∈T,NdFit x.1)
  (yB:∀d',d'+1=d→vK T va L vc w0 d'):vK T va L vc w0 d:=by
 intro k lv W hk zw q0;obtain⟨O,hO⟩:=e_ (gp (T.map Prod.fst) d k);rw[hO]
 have xC:(T.map Prod.fst).length=L:=by rw[ws,hL]
 have CM:=h_ fun (x:NdI) (hx:x∈T) (W:World) (hb:Bl w0 W)=>lB x W (ndY.subRet _ _ _ (hv.2.2 x hx) hb) (hf x hx)
 have HV:=h_ hv;have HL:=h_ hL;have xZ:=h_ xC;have zi:=h_ hf;have yB:=h_ yB;have xn:=h_ q0;clear hv hL xC hf
 by_cases hkl:k<L
 ·have xQ : k < T.length := by rw [HL.out]; exact hkl
  obtain⟨x,hx⟩:=e_ (T[k])
  have xx:T[k]?=some x:=by rw[wh xQ,hx]
  have xR:x∈T:=by rw[←hx];exact wt xQ
  obtain⟨b,off,cp,hv,-,hc⟩:=HV.out.cells xx;rw[HL.out] at hv;simp only[wo,true_and] at hv;obtain⟨rfl,rfl⟩:=hv;have HC:=h_ hc
  have wk:¬ (L:Int)≤(k:Int):=by omega
  have CX:=CM.out x xR;have zz:=(zi.out x xR).many;have xV:=pI (T.map Prod.fst) d k x.1 (by rw[wA,xx];rfl);rw[hO] at xV;replace xV:=xV.symm;have xJ:=@ic x.1;obtain⟨P1,yC⟩:=e_ (dL x.1);obtain⟨P2,yD⟩:=e_ (decide (aY x.1<0));obtain⟨P3,yP⟩:=e_ ((x.1.1==1));obtain⟨P4,yE⟩:=e_ ((d==0));rw[yC] at CX xJ;rw[yP] at xJ;rw[yC,yD,yP,yE] at xV
  have zk:decide ((12:Int)<(lv:Int))=P4:=by rw[←yE,Bool.eq_iff_iff,decide_eq_true_eq,beq_iff_eq];omega
  have CX:=h_ CX;have yF:=h_ xV;have zm:=h_ xJ;clear hc hx xx xR xQ hO yC yE xV xJ
  cases P1 with
  | false=>
   obtain rfl:-1=O:=yF.out;go_enter func237,ntmps237
   have n0:W.cell? ⟨b,off+k*6,none⟩=some (.int .u8 x.1.1):=HC.out W (xn.out) 0 _ rfl
   have n1:W.cell? ⟨b,off+k*6+1,none⟩=some (.string ⟨x.1.2.1.toArray⟩):=HC.out W (xn.out) 1 _ rfl
   have n2:W.cell? ⟨b,off+k*6+2,none⟩=some (.string ⟨x.1.2.2.1.toArray⟩):=HC.out W (xn.out) 2 _ rfl
   have n3:W.cell? ⟨b,off+k*6+3,none⟩=some (ndV x):=HC.out W (xn.out) 3 _ rfl
   have n4:W.cell? ⟨b,off+k*6+4,none⟩=some (.string ⟨x.1.2.2.2.2.1.toArray⟩):=HC.out W (xn.out) 4 _ rfl
   have n5:W.cell? ⟨b,off+k*6+5,none⟩=some (.int .i64 x.1.2.2.2.2.2):=HC.out W (xn.out) 5 _ rfl
   go_wp2_with fail;refine(CX.out W xn.out).mono ?_;rintro e w1 ⟨rfl,q⟩;clear n0 n1 n2 n3 n4 n5;have q1:=xn.out.trans (q.mono xn.out.size)
   have n0:w1.cell? ⟨b,off+k*6,none⟩=some (.int .u8 x.1.1):=HC.out w1 (q1) 0 _ rfl
   have n1:w1.cell? ⟨b,off+k*6+1,none⟩=some (.string ⟨x.1.2.1.toArray⟩):=HC.out w1 (q1) 1 _ rfl
   have n2:w1.cell? ⟨b,off+k*6+2,none⟩=some (.string ⟨x.1.2.2.1.toArray⟩):=HC.out w1 (q1) 2 _ rfl
   have n3:w1.cell? ⟨b,off+k*6+3,none⟩=some (ndV x):=HC.out w1 (q1) 3 _ rfl
   have n4:w1.cell? ⟨b,off+k*6+4,none⟩=some (.string ⟨x.1.2.2.2.2.1.toArray⟩):=HC.out w1 (q1) 4 _ rfl
   have n5:w1.cell? ⟨b,off+k*6+5,none⟩=some (.int .i64 x.1.2.2.2.2.2):=HC.out w1 (q1) 5 _ rfl
   go_wp2_with fail;go_ret;exact⟨rfl,q⟩
  | true=>
   cases P2 with
   | true=>
    obtain rfl:-1=O:=yF.out;go_enter func237,ntmps237
    have n0:W.cell? ⟨b,off+k*6,none⟩=some (.int .u8 x.1.1):=HC.out W (xn.out) 0 _ rfl
    have n1:W.cell? ⟨b,off+k*6+1,none⟩=some (.string ⟨x.1.2.1.toArray⟩):=HC.out W (xn.out) 1 _ rfl
    have n2:W.cell? ⟨b,off+k*6+2,none⟩=some (.string ⟨x.1.2.2.1.toArray⟩):=HC.out W (xn.out) 2 _ rfl
    have n3:W.cell? ⟨b,off+k*6+3,none⟩=some (ndV x):=HC.out W (xn.out) 3 _ rfl
    have n4:W.cell? ⟨b,off+k*6+4,none⟩=some (.string ⟨x.1.2.2.2.2.1.toArray⟩):=HC.out W (xn.out) 4 _ rfl
    have n5:W.cell? ⟨b,off+k*6+5,none⟩=some (.int .i64 x.1.2.2.2.2.2):=HC.out W (xn.out) 5 _ rfl
    go_wp2_with fail;refine(CX.out W xn.out).mono ?_;rintro e w1 ⟨rfl,q⟩;clear n0 n1 n2 n3 n4 n5;have q1:=xn.out.trans (q.mono xn.out.size)
    have n0:w1.cell? ⟨b,off+k*6,none⟩=some (.int .u8 x.1.1):=HC.out w1 (q1) 0 _ rfl
    have n1:w1.cell? ⟨b,off+k*6+1,none⟩=some (.string ⟨x.1.2.1.toArray⟩):=HC.out w1 (q1) 1 _ rfl
    have n2:w1.cell? ⟨b,off+k*6+2,none⟩=some (.string ⟨x.1.2.2.1.toArray⟩):=HC.out w1 (q1) 2 _ rfl
    have n3:w1.cell? ⟨b,off+k*6+3,none⟩=some (ndV x):=HC.out w1 (q1) 3 _ rfl
    have n4:w1.cell? ⟨b,off+k*6+4,none⟩=some (.string ⟨x.1.2.2.2.2.1.toArray⟩):=HC.out w1 (q1) 4 _ rfl
    have n5:w1.cell? ⟨b,off+k*6+5,none⟩=some (.int .i64 x.1.2.2.2.2.2):=HC.out w1 (q1) 5 _ rfl
    go_wp2_with fail;go_ret;exact⟨rfl,q⟩
   | false=>
    have zB:=of_decide_eq_false yD;obtain⟨M,hM⟩:∃M:Nat,x.1.2.2.2.2.2=M:=⟨(aY x.1).toNat,by show aY x.1=_;omega⟩;have yd:(aY x.1).toNat=M:=(by show (x.1.2.2.2.2.2).toNat=M;omega)
    have zC:decide (x.1.2.2.2.2.2<0)=false:=yD
    have xu:=yF.out;rw[yd] at xu
    by_cases hML:M≤L
    rotate_left
    ·have zv : L < M := by omega
     have hg:decide ((L:Int)<x.1.2.2.2.2.2)=true:=decide_eq_true (by omega)
     have zo:((L:Int)<x.1.2.2.2.2.2)=True:=eq_true (by omega)
     obtain rfl:-1=O:=by
      rw[nQ (by rw[xZ.out];omega)] at xu;rw[←xu]
      split <;> rfl
     have zp:=h_ hM;clear hM xu yd;go_enter func237,ntmps237
     have n0:W.cell? ⟨b,off+k*6,none⟩=some (.int .u8 x.1.1):=HC.out W (xn.out) 0 _ rfl
     have n1:W.cell? ⟨b,off+k*6+1,none⟩=some (.string ⟨x.1.2.1.toArray⟩):=HC.out W (xn.out) 1 _ rfl
     have n2:W.cell? ⟨b,off+k*6+2,none⟩=some (.string ⟨x.1.2.2.1.toArray⟩):=HC.out W (xn.out) 2 _ rfl
     have n3:W.cell? ⟨b,off+k*6+3,none⟩=some (ndV x):=HC.out W (xn.out) 3 _ rfl
     have n4:W.cell? ⟨b,off+k*6+4,none⟩=some (.string ⟨x.1.2.2.2.2.1.toArray⟩):=HC.out W (xn.out) 4 _ rfl
     have n5:W.cell? ⟨b,off+k*6+5,none⟩=some (.int .i64 x.1.2.2.2.2.2):=HC.out W (xn.out) 5 _ rfl
     go_wp2_with fail;refine(CX.out W xn.out).mono ?_;rintro e w1 ⟨rfl,q⟩;clear n0 n1 n2 n3 n4 n5;have q1:=xn.out.trans (q.mono xn.out.size)
     have n0:w1.cell? ⟨b,off+k*6,none⟩=some (.int .u8 x.1.1):=HC.out w1 (q1) 0 _ rfl
     have n1:w1.cell? ⟨b,off+k*6+1,none⟩=some (.string ⟨x.1.2.1.toArray⟩):=HC.out w1 (q1) 1 _ rfl
     have n2:w1.cell? ⟨b,off+k*6+2,none⟩=some (.string ⟨x.1.2.2.1.toArray⟩):=HC.out w1 (q1) 2 _ rfl
     have n3:w1.cell? ⟨b,off+k*6+3,none⟩=some (ndV x):=HC.out w1 (q1) 3 _ rfl
     have n4:w1.cell? ⟨b,off+k*6+4,none⟩=some (.string ⟨x.1.2.2.2.2.1.toArray⟩):=HC.out w1 (q1) 4 _ rfl
     have n5:w1.cell? ⟨b,off+k*6+5,none⟩=some (.int .i64 x.1.2.2.2.2.2):=HC.out w1 (q1) 5 _ rfl
     go_wp2_with fail;go_ret;exact⟨rfl,q⟩
    ·have hg:decide ((L:Int)<x.1.2.2.2.2.2)=false:=decide_eq_false (by omega)
     have zo:((L:Int)<x.1.2.2.2.2.2)=False:=eq_false (by omega)
     cases P3 with
     | false=>
      have yl:=zm.out rfl rfl
      have HZ:Hid (M=0):=h_ (by have h2:aY x.1=M:=hM;omega)
      rw[ww,Bool.or_false] at xu;clear yl;obtain⟨fr,xS⟩:=e_ (gp (T.map Prod.fst) (d-1));have yn:=h_ xS;rw[xS] at xu;have HB:=h_ xu;have HM:=h_ hM;clear xS xu hM yd;go_enter func237,ntmps237
      have n0:W.cell? ⟨b,off+k*6,none⟩=some (.int .u8 x.1.1):=HC.out W (xn.out) 0 _ rfl
      have n1:W.cell? ⟨b,off+k*6+1,none⟩=some (.string ⟨x.1.2.1.toArray⟩):=HC.out W (xn.out) 1 _ rfl
      have n2:W.cell? ⟨b,off+k*6+2,none⟩=some (.string ⟨x.1.2.2.1.toArray⟩):=HC.out W (xn.out) 2 _ rfl
      have n3:W.cell? ⟨b,off+k*6+3,none⟩=some (ndV x):=HC.out W (xn.out) 3 _ rfl
      have n4:W.cell? ⟨b,off+k*6+4,none⟩=some (.string ⟨x.1.2.2.2.2.1.toArray⟩):=HC.out W (xn.out) 4 _ rfl
      have n5:W.cell? ⟨b,off+k*6+5,none⟩=some (.int .i64 x.1.2.2.2.2.2):=HC.out W (xn.out) 5 _ rfl
      go_wp2_with fail;refine(CX.out W xn.out).mono ?_;rintro e w1 ⟨rfl,q⟩;clear n0 n1 n2 n3 n4 n5;have q1:=xn.out.trans (q.mono xn.out.size)
      have n0:w1.cell? ⟨b,off+k*6,none⟩=some (.int .u8 x.1.1):=HC.out w1 (q1) 0 _ rfl
      have n1:w1.cell? ⟨b,off+k*6+1,none⟩=some (.string ⟨x.1.2.1.toArray⟩):=HC.out w1 (q1) 1 _ rfl
      have n2:w1.cell? ⟨b,off+k*6+2,none⟩=some (.string ⟨x.1.2.2.1.toArray⟩):=HC.out w1 (q1) 2 _ rfl
      have n3:w1.cell? ⟨b,off+k*6+3,none⟩=some (ndV x):=HC.out w1 (q1) 3 _ rfl
      have n4:w1.cell? ⟨b,off+k*6+4,none⟩=some (.string ⟨x.1.2.2.2.2.1.toArray⟩):=HC.out w1 (q1) 4 _ rfl
      have n5:w1.cell? ⟨b,off+k*6+5,none⟩=some (.int .i64 x.1.2.2.2.2.2):=HC.out w1 (q1) 5 _ rfl
      go_wp2_with fail;clear n0 n1 n2 n3 n4 n5;go_loopw [7,8,9] (fun nx tx i wx=>∃(j z:Nat) (l:Int),nx=.int .i64 z∧tx=.bool (l==2)∧i=.int .i64 j∧j≤M∧z≤L∧bA fr (T.map Prod.fst) (M-j) z l=O∧Bl W wx) (fun _ _ i _=>M-(intOf i).toNat)
      case atStart=>exact⟨0,k+1,1,by go_num,rfl,rfl,wq _,by omega,HB.out,q⟩
      case round=>
       clear q q1;obtain⟨j,z,l,rfl,rfl,rfl,hj,hz,hrel,q⟩:=hrel;have q1:=xn.out.trans (q.mono xn.out.size)
       have n0:wr.cell? ⟨b,off+k*6,none⟩=some (.int .u8 x.1.1):=HC.out wr (q1) 0 _ rfl
       have n1:wr.cell? ⟨b,off+k*6+1,none⟩=some (.string ⟨x.1.2.1.toArray⟩):=HC.out wr (q1) 1 _ rfl
       have n2:wr.cell? ⟨b,off+k*6+2,none⟩=some (.string ⟨x.1.2.2.1.toArray⟩):=HC.out wr (q1) 2 _ rfl
       have n3:wr.cell? ⟨b,off+k*6+3,none⟩=some (ndV x):=HC.out wr (q1) 3 _ rfl
       have n4:wr.cell? ⟨b,off+k*6+4,none⟩=some (.string ⟨x.1.2.2.2.2.1.toArray⟩):=HC.out wr (q1) 4 _ rfl
       have n5:wr.cell? ⟨b,off+k*6+5,none⟩=some (.int .i64 x.1.2.2.2.2.2):=HC.out wr (q1) 5 _ rfl
       by_cases hlt:j<M
       ·have:=HZ.out
        omega
       ·obtain rfl : j = M := by omega
        rw[wB] at hrel;obtain rfl:(z:Int)=O:=hrel;have yQ:¬ (j:Int)<x.1.2.2.2.2.2:=(by have:=HM.out;omega);go_wp2_with fail;go_ret;exact⟨rfl,q⟩
     | true=>
      cases P4 with
      | true=>
       obtain rfl:-1=O:=xu;have zp:=h_ hM;clear hM yd;go_enter func237,ntmps237
       have n0:W.cell? ⟨b,off+k*6,none⟩=some (.int .u8 x.1.1):=HC.out W (xn.out) 0 _ rfl
       have n1:W.cell? ⟨b,off+k*6+1,none⟩=some (.string ⟨x.1.2.1.toArray⟩):=HC.out W (xn.out) 1 _ rfl
       have n2:W.cell? ⟨b,off+k*6+2,none⟩=some (.string ⟨x.1.2.2.1.toArray⟩):=HC.out W (xn.out) 2 _ rfl
       have n3:W.cell? ⟨b,off+k*6+3,none⟩=some (ndV x):=HC.out W (xn.out) 3 _ rfl
       have n4:W.cell? ⟨b,off+k*6+4,none⟩=some (.string ⟨x.1.2.2.2.2.1.toArray⟩):=HC.out W (xn.out) 4 _ rfl
       have n5:W.cell? ⟨b,off+k*6+5,none⟩=some (.int .i64 x.1.2.2.2.2.2):=HC.out W (xn.out) 5 _ rfl
       go_wp2_with fail;refine(CX.out W xn.out).mono ?_;rintro e w1 ⟨rfl,q⟩;clear n0 n1 n2 n3 n4 n5;have q1:=xn.out.trans (q.mono xn.out.size)
       have n0:w1.cell? ⟨b,off+k*6,none⟩=some (.int .u8 x.1.1):=HC.out w1 (q1) 0 _ rfl
       have n1:w1.cell? ⟨b,off+k*6+1,none⟩=some (.string ⟨x.1.2.1.toArray⟩):=HC.out w1 (q1) 1 _ rfl
       have n2:w1.cell? ⟨b,off+k*6+2,none⟩=some (.string ⟨x.1.2.2.1.toArray⟩):=HC.out w1 (q1) 2 _ rfl
       have n3:w1.cell? ⟨b,off+k*6+3,none⟩=some (ndV x):=HC.out w1 (q1) 3 _ rfl
       have n4:w1.cell? ⟨b,off+k*6+4,none⟩=some (.string ⟨x.1.2.2.2.2.1.toArray⟩):=HC.out w1 (q1) 4 _ rfl
       have n5:w1.cell? ⟨b,off+k*6+5,none⟩=some (.int .i64 x.1.2.2.2.2.2):=HC.out w1 (q1) 5 _ rfl
       go_wp2_with fail;go_ret;exact⟨rfl,q⟩
      | false=>
       have zD:0<d:=by
        rcases Nat.eq_zero_or_pos d with h | h
        ·exfalso;subst h;have:=of_decide_eq_false zk;omega
        ·exact h
       obtain⟨fr,xS⟩:=e_ (gp (T.map Prod.fst) (d-1));have yn:=h_ xS;rw[xS] at xu;have HB:=h_ xu;have HM:=h_ hM;clear xS xu hM yd;go_enter func237,ntmps237
       have n0:W.cell? ⟨b,off+k*6,none⟩=some (.int .u8 x.1.1):=HC.out W (xn.out) 0 _ rfl
       have n1:W.cell? ⟨b,off+k*6+1,none⟩=some (.string ⟨x.1.2.1.toArray⟩):=HC.out W (xn.out) 1 _ rfl
       have n2:W.cell? ⟨b,off+k*6+2,none⟩=some (.string ⟨x.1.2.2.1.toArray⟩):=HC.out W (xn.out) 2 _ rfl
       have n3:W.cell? ⟨b,off+k*6+3,none⟩=some (ndV x):=HC.out W (xn.out) 3 _ rfl
       have n4:W.cell? ⟨b,off+k*6+4,none⟩=some (.string ⟨x.1.2.2.2.2.1.toArray⟩):=HC.out W (xn.out) 4 _ rfl
       have n5:W.cell? ⟨b,off+k*6+5,none⟩=some (.int .i64 x.1.2.2.2.2.2):=HC.out W (xn.out) 5 _ rfl
       go_wp2_with fail;refine(CX.out W xn.out).mono ?_;rintro e w1 ⟨rfl,q⟩;clear n0 n1 n2 n3 n4 n5;have q1:=xn.out.trans (q.mono xn.out.size)
       have n0:w1.cell? ⟨b,off+k*6,none⟩=some (.int .u8 x.1.1):=HC.out w1 (q1) 0 _ rfl
       have n1:w1.cell? ⟨b,off+k*6+1,none⟩=some (.string ⟨x.1.2.1.toArray⟩):=HC.out w1 (q1) 1 _ rfl
       have n2:w1.cell? ⟨b,off+k*6+2,none⟩=some (.string ⟨x.1.2.2.1.toArray⟩):=HC.out w1 (q1) 2 _ rfl
       have n3:w1.cell? ⟨b,off+k*6+3,none⟩=some (ndV x):=HC.out w1 (q1) 3 _ rfl
       have n4:w1.cell? ⟨b,off+k*6+4,none⟩=some (.string ⟨x.1.2.2.2.2.1.toArray⟩):=HC.out w1 (q1) 4 _ rfl
       have n5:w1.cell? ⟨b,off+k*6+5,none⟩=some (.int .i64 x.1.2.2.2.2.2):=HC.out w1 (q1) 5 _ rfl
       go_wp2_with fail;clear n0 n1 n2 n3 n4 n5;go_loopw [7,8,9] (fun nx tx i wx=>∃(j z:Nat) (l:Int),nx=.int .i64 z∧tx=.bool (l==2)∧i=.int .i64 j∧j≤M∧z≤L∧bA fr (T.map Prod.fst) (M-j) z l=O∧Bl W wx) (fun _ _ i _=>M-(intOf i).toNat)
       case atStart=>exact⟨0,k+1,1,by go_num,rfl,rfl,wq _,by omega,HB.out,q⟩
       case round=>
        clear q q1;obtain⟨j,z,l,rfl,rfl,rfl,hj,hz,hrel,q⟩:=hrel;have q1:=xn.out.trans (q.mono xn.out.size)
        have n0:wr.cell? ⟨b,off+k*6,none⟩=some (.int .u8 x.1.1):=HC.out wr (q1) 0 _ rfl
        have n1:wr.cell? ⟨b,off+k*6+1,none⟩=some (.string ⟨x.1.2.1.toArray⟩):=HC.out wr (q1) 1 _ rfl
        have n2:wr.cell? ⟨b,off+k*6+2,none⟩=some (.string ⟨x.1.2.2.1.toArray⟩):=HC.out wr (q1) 2 _ rfl
        have n3:wr.cell? ⟨b,off+k*6+3,none⟩=some (ndV x):=HC.out wr (q1) 3 _ rfl
        have n4:wr.cell? ⟨b,off+k*6+4,none⟩=some (.string ⟨x.1.2.2.2.2.1.toArray⟩):=HC.out wr (q1) 4 _ rfl
        have n5:wr.cell? ⟨b,off+k*6+5,none⟩=some (.int .i64 x.1.2.2.2.2.2):=HC.out wr (q1) 5 _ rfl
        by_cases hlt:j<M
        ·have yQ : (j : Int) < x.1.2.2.2.2.2 := by have := HM.out; omega
         obtain⟨m,hm⟩:∃m,M-j=m+1:=⟨M-j-1,by omega⟩;rw[hm] at hrel;have e1:((lv+1:Nat):Int)=(lv:Int)+1:=(by omega);have RC:=yB.out (d-1) (by omega) z (lv+1) wr hz (by omega) q1;rw[e1,yn.out] at RC
         by_cases hzl:z<L
         ·have yl : z < T.length := by rw [HL.out]; exact hzl
          obtain⟨x2,yR⟩:=e_ (T[z]);have ye:T[z]?=some x2:=(by rw[wh yl,yR]);obtain⟨b2,xz,yS,xD,-,xB⟩:=HV.out.cells ye;rw[HL.out] at xD;simp only[wo,true_and,Option.some.injEq,Addr.mk.injEq,and_true] at xD;obtain⟨⟨rfl,rfl⟩,rfl⟩:=xD;have xq:=h_ xB;rw[mt (n:=x2.1) (by rw[wA,ye];rfl)] at hrel;have yo:=bH (T.map Prod.fst) (d-1) z;rw[xZ.out,yn.out] at yo;obtain⟨C1,yp⟩:=e_ ((l==2))
          have yT:C1=true→l=2:=fun h=>by rw[h,beq_iff_eq] at yp;exact yp
          obtain⟨C2,xW⟩:=e_ ((x2.1.1==2));rw[yp] at hrel ⊢;obtain⟨fz,yU⟩:=e_ (fr z);rw[yU] at hrel yo RC;have RC:=h_ RC;have HR:=h_ hrel;have yV:=h_ yT;have yG:=h_ yo;have yW:=h_ hm;clear xB ye yR yl hrel yT yo yU yp hm e1
          by_cases hneg:fz<0
          ·obtain rfl : fz = -1 := by have := yG.out; omega
           obtain rfl:-1=O:=by
            have h:=HR.out;rw[kL] at h;rw[←h]
            split <;> rfl
           go_wp2_with fail;refine RC.out.mono ?_;rintro e w2 ⟨rfl,hb⟩;clear n0 n1 n2 n3 n4 n5;have q2:=q.trans (hb.mono q.size);have q3:=q1.trans (hb.mono q1.size);clear q q1 hb;have q:=q2;have q1:=q3;clear q2 q3
           have n0:w2.cell? ⟨b,off+k*6,none⟩=some (.int .u8 x.1.1):=HC.out w2 (q1) 0 _ rfl
           have n1:w2.cell? ⟨b,off+k*6+1,none⟩=some (.string ⟨x.1.2.1.toArray⟩):=HC.out w2 (q1) 1 _ rfl
           have n2:w2.cell? ⟨b,off+k*6+2,none⟩=some (.string ⟨x.1.2.2.1.toArray⟩):=HC.out w2 (q1) 2 _ rfl
           have n3:w2.cell? ⟨b,off+k*6+3,none⟩=some (ndV x):=HC.out w2 (q1) 3 _ rfl
           have n4:w2.cell? ⟨b,off+k*6+4,none⟩=some (.string ⟨x.1.2.2.2.2.1.toArray⟩):=HC.out w2 (q1) 4 _ rfl
           have n5:w2.cell? ⟨b,off+k*6+5,none⟩=some (.int .i64 x.1.2.2.2.2.2):=HC.out w2 (q1) 5 _ rfl
           have m0:w2.cell? ⟨b,off+z*6,none⟩=some (.int .u8 x2.1.1):=xq.out w2 (q1) 0 _ rfl
           have m1:w2.cell? ⟨b,off+z*6+1,none⟩=some (.string ⟨x2.1.2.1.toArray⟩):=xq.out w2 (q1) 1 _ rfl
           have m2:w2.cell? ⟨b,off+z*6+2,none⟩=some (.string ⟨x2.1.2.2.1.toArray⟩):=xq.out w2 (q1) 2 _ rfl
           have m3:w2.cell? ⟨b,off+z*6+3,none⟩=some (ndV x2):=xq.out w2 (q1) 3 _ rfl
           have m4:w2.cell? ⟨b,off+z*6+4,none⟩=some (.string ⟨x2.1.2.2.2.2.1.toArray⟩):=xq.out w2 (q1) 4 _ rfl
           have m5:w2.cell? ⟨b,off+z*6+5,none⟩=some (.int .i64 x2.1.2.2.2.2.2):=xq.out w2 (q1) 5 _ rfl
           go_wp2_with fail;go_ret;exact⟨rfl,q⟩
          ·obtain⟨y,rfl⟩:∃y:Nat,fz=y:=⟨fz.toNat,by omega⟩
           have zE:¬ ((y:Int)<0):=hneg;clear hneg
           cases C1 with
           | false=>
            have yH:Hid (bA fr (T.map Prod.fst) m y x2.1.1=O):=h_ (by have h:=HR.out;rwa [ww,if_neg (by decide)] at h)
            go_wp2_with fail;refine RC.out.mono ?_;rintro e w2 ⟨rfl,hb⟩;clear n0 n1 n2 n3 n4 n5;have q2:=q.trans (hb.mono q.size);have q3:=q1.trans (hb.mono q1.size);clear q q1 hb;have q:=q2;have q1:=q3;clear q2 q3
            have n0:w2.cell? ⟨b,off+k*6,none⟩=some (.int .u8 x.1.1):=HC.out w2 (q1) 0 _ rfl
            have n1:w2.cell? ⟨b,off+k*6+1,none⟩=some (.string ⟨x.1.2.1.toArray⟩):=HC.out w2 (q1) 1 _ rfl
            have n2:w2.cell? ⟨b,off+k*6+2,none⟩=some (.string ⟨x.1.2.2.1.toArray⟩):=HC.out w2 (q1) 2 _ rfl
            have n3:w2.cell? ⟨b,off+k*6+3,none⟩=some (ndV x):=HC.out w2 (q1) 3 _ rfl
            have n4:w2.cell? ⟨b,off+k*6+4,none⟩=some (.string ⟨x.1.2.2.2.2.1.toArray⟩):=HC.out w2 (q1) 4 _ rfl
            have n5:w2.cell? ⟨b,off+k*6+5,none⟩=some (.int .i64 x.1.2.2.2.2.2):=HC.out w2 (q1) 5 _ rfl
            have m0:w2.cell? ⟨b,off+z*6,none⟩=some (.int .u8 x2.1.1):=xq.out w2 (q1) 0 _ rfl
            have m1:w2.cell? ⟨b,off+z*6+1,none⟩=some (.string ⟨x2.1.2.1.toArray⟩):=xq.out w2 (q1) 1 _ rfl
            have m2:w2.cell? ⟨b,off+z*6+2,none⟩=some (.string ⟨x2.1.2.2.1.toArray⟩):=xq.out w2 (q1) 2 _ rfl
            have m3:w2.cell? ⟨b,off+z*6+3,none⟩=some (ndV x2):=xq.out w2 (q1) 3 _ rfl
            have m4:w2.cell? ⟨b,off+z*6+4,none⟩=some (.string ⟨x2.1.2.2.2.2.1.toArray⟩):=xq.out w2 (q1) 4 _ rfl
            have m5:w2.cell? ⟨b,off+z*6+5,none⟩=some (.int .i64 x2.1.2.2.2.2.2):=xq.out w2 (q1) 5 _ rfl
            go_wp2_with fail;clear n0 n1 n2 n3 n4 n5 m0 m1 m2 m3 m4 m5;go_roundw
            case rel=>exact⟨j+1,y,x2.1.1,rfl,by first | (rw[xW]) | rfl,by go_num,by omega,by have:=yG.out;omega,by rw[show M-(j+1)=m by have:=yW.out;omega];exact yH.out,q⟩
            case measure=>simp[intOf];omega
           | true=>
            cases C2 with
            | true=>
             obtain rfl:-1=O:=by
              have h:=HR.out;have hl:=yV.out rfl;rw[hl,xW] at h;exact h
             go_wp2_with fail;refine RC.out.mono ?_;rintro e w2 ⟨rfl,hb⟩;clear n0 n1 n2 n3 n4 n5;have q2:=q.trans (hb.mono q.size);have q3:=q1.trans (hb.mono q1.size);clear q q1 hb;have q:=q2;have q1:=q3;clear q2 q3
             have n0:w2.cell? ⟨b,off+k*6,none⟩=some (.int .u8 x.1.1):=HC.out w2 (q1) 0 _ rfl
             have n1:w2.cell? ⟨b,off+k*6+1,none⟩=some (.string ⟨x.1.2.1.toArray⟩):=HC.out w2 (q1) 1 _ rfl
             have n2:w2.cell? ⟨b,off+k*6+2,none⟩=some (.string ⟨x.1.2.2.1.toArray⟩):=HC.out w2 (q1) 2 _ rfl
             have n3:w2.cell? ⟨b,off+k*6+3,none⟩=some (ndV x):=HC.out w2 (q1) 3 _ rfl
             have n4:w2.cell? ⟨b,off+k*6+4,none⟩=some (.string ⟨x.1.2.2.2.2.1.toArray⟩):=HC.out w2 (q1) 4 _ rfl
             have n5:w2.cell? ⟨b,off+k*6+5,none⟩=some (.int .i64 x.1.2.2.2.2.2):=HC.out w2 (q1) 5 _ rfl
             have m0:w2.cell? ⟨b,off+z*6,none⟩=some (.int .u8 x2.1.1):=xq.out w2 (q1) 0 _ rfl
             have m1:w2.cell? ⟨b,off+z*6+1,none⟩=some (.string ⟨x2.1.2.1.toArray⟩):=xq.out w2 (q1) 1 _ rfl
             have m2:w2.cell? ⟨b,off+z*6+2,none⟩=some (.string ⟨x2.1.2.2.1.toArray⟩):=xq.out w2 (q1) 2 _ rfl
             have m3:w2.cell? ⟨b,off+z*6+3,none⟩=some (ndV x2):=xq.out w2 (q1) 3 _ rfl
             have m4:w2.cell? ⟨b,off+z*6+4,none⟩=some (.string ⟨x2.1.2.2.2.2.1.toArray⟩):=xq.out w2 (q1) 4 _ rfl
             have m5:w2.cell? ⟨b,off+z*6+5,none⟩=some (.int .i64 x2.1.2.2.2.2.2):=xq.out w2 (q1) 5 _ rfl
             go_wp2_with fail;go_ret;exact⟨rfl,q⟩
            | false=>
             have yH:Hid (bA fr (T.map Prod.fst) m y x2.1.1=O):=h_ (by
              have h:=HR.out;have hl:=yV.out rfl;rw[hl,xW] at h;exact h)
             go_wp2_with fail;refine RC.out.mono ?_;rintro e w2 ⟨rfl,hb⟩;clear n0 n1 n2 n3 n4 n5;have q2:=q.trans (hb.mono q.size);have q3:=q1.trans (hb.mono q1.size);clear q q1 hb;have q:=q2;have q1:=q3;clear q2 q3
             have n0:w2.cell? ⟨b,off+k*6,none⟩=some (.int .u8 x.1.1):=HC.out w2 (q1) 0 _ rfl
             have n1:w2.cell? ⟨b,off+k*6+1,none⟩=some (.string ⟨x.1.2.1.toArray⟩):=HC.out w2 (q1) 1 _ rfl
             have n2:w2.cell? ⟨b,off+k*6+2,none⟩=some (.string ⟨x.1.2.2.1.toArray⟩):=HC.out w2 (q1) 2 _ rfl
             have n3:w2.cell? ⟨b,off+k*6+3,none⟩=some (ndV x):=HC.out w2 (q1) 3 _ rfl
             have n4:w2.cell? ⟨b,off+k*6+4,none⟩=some (.string ⟨x.1.2.2.2.2.1.toArray⟩):=HC.out w2 (q1) 4 _ rfl
             have n5:w2.cell? ⟨b,off+k*6+5,none⟩=some (.int .i64 x.1.2.2.2.2.2):=HC.out w2 (q1) 5 _ rfl
             have m0:w2.cell? ⟨b,off+z*6,none⟩=some (.int .u8 x2.1.1):=xq.out w2 (q1) 0 _ rfl
             have m1:w2.cell? ⟨b,off+z*6+1,none⟩=some (.string ⟨x2.1.2.1.toArray⟩):=xq.out w2 (q1) 1 _ rfl
             have m2:w2.cell? ⟨b,off+z*6+2,none⟩=some (.string ⟨x2.1.2.2.1.toArray⟩):=xq.out w2 (q1) 2 _ rfl
             have m3:w2.cell? ⟨b,off+z*6+3,none⟩=some (ndV x2):=xq.out w2 (q1) 3 _ rfl
             have m4:w2.cell? ⟨b,off+z*6+4,none⟩=some (.string ⟨x2.1.2.2.2.2.1.toArray⟩):=xq.out w2 (q1) 4 _ rfl
             have m5:w2.cell? ⟨b,off+z*6+5,none⟩=some (.int .i64 x2.1.2.2.2.2.2):=xq.out w2 (q1) 5 _ rfl
             go_wp2_with fail;clear n0 n1 n2 n3 n4 n5 m0 m1 m2 m3 m4 m5;go_roundw
             case rel=>exact⟨j+1,y,x2.1.1,rfl,by first | (rw[xW]) | rfl,by go_num,by omega,by have:=yG.out;omega,by rw[show M-(j+1)=m by have:=yW.out;omega];exact yH.out,q⟩
             case measure=>simp[intOf];omega
         ·obtain rfl : z = L := by omega
          rw[gh (by rw[xZ.out];exact wu _)] at hrel;subst hrel;have yX:fr (z:Int)=-1:=(by rw[←yn.out];exact iC (by rw[xZ.out];exact wu _));rw[yX] at RC;have RC:=h_ RC;clear yX hm;go_wp2_with fail;refine RC.out.mono ?_;rintro e w2 ⟨rfl,hb⟩;clear n0 n1 n2 n3 n4 n5;have q2:=q.trans (hb.mono q.size);go_wp2_with fail;go_ret;exact⟨rfl,q2⟩
        ·obtain rfl : j = M := by omega
         rw[wB] at hrel;obtain rfl:(z:Int)=O:=hrel;have yQ:¬ (j:Int)<x.1.2.2.2.2.2:=(by have:=HM.out;omega);go_wp2_with fail;go_ret;exact⟨rfl,q⟩
 ·obtain rfl : k = L := by omega
  rw[iC (by rw[xZ.out];exact wu _)] at hO;subst hO
  have wk:(k:Int)≤(k:Int):=by omega
  go_enter func237,ntmps237;go_wp2_with fail;go_ret;exact⟨rfl,bQ _⟩
theorem mX (T:List NdI) (va:Option Addr) (L vc:Nat) (w0:World) (hv:IsL ndY (.slice va L vc) T w0) (hL:T.length=L) (yA:L≤100000) (hf:∀x∈T,NdFit x.1):∀d,d≤12→vK T va L vc w0 d:=by
 intro d
 induction d with
 | zero=>exact fun h=>eW T va L vc 0 w0 hv hL yA h hf fun d' zq=>by omega
 | succ d ih=>
  exact fun h=>eW T va L vc (d+1) w0 hv hL yA h hf fun d' zq=>by
   obtain rfl:d'=d:=by omega
   exact ih (by omega)
theorem sP (T:TrI) (w:World) (hs:trY.sub T w) (hf:ku (trD T)):Calls prog 202 #[trV T] w (Ret w (.bool (ed (trD T)))):=by
 obtain⟨M,⟨va,vc⟩⟩:=T;have hv:IsL ndY (.slice va M.length vc) M w:=hs
 have xA:∀x∈M,NdFit x.1:=fun x hx=>hf.2 x.1 (wC hx)
 have hz:M.length≤1000:=by have:=hf.1;rwa [ws] at this
 have CB:=mX M va M.length vc w hv rfl (by omega) xA 12 (wu _) 0 1 w (wq _) rfl (bQ _)
 show Calls prog 202 #[.slice va M.length vc] w (Ret w (.bool (ed (M.map Prod.fst))))
 obtain⟨O,hO⟩:=e_ (ed (M.map Prod.fst));rw[hO];unfold ed at hO
 have xC:(M.map Prod.fst).length=M.length:=ws _
 rw[xC] at hO;obtain⟨L,hL⟩:=e_ M.length;rw[hL] at hv hz CB hO xC ⊢;obtain⟨Z,hZ⟩:=e_ (gp (M.map Prod.fst) 12 ((0:Nat):Int));rw[hZ] at CB;rw[show gp (M.map Prod.fst) 12 0=Z from hZ] at hO;have CB:=h_ CB
 by_cases h0:L=0
 ·subst h0
  have e:M=[]:=List.eq_nil_of_length_eq_zero hL
  rw[e] at hO;obtain rfl:false=O:=hO;clear e hL hv xA CB xC hZ hs hf;go_enter func202,ntmps202;go_wp2_with fail;go_ret;exact⟨rfl,bQ _⟩
 ·have g0 : (0 : Int) < (L : Int) := by omega
  have yq:0<M.length:=by omega
  obtain⟨x,hx⟩:=e_ (M[0])
  have xx:M[0]?=some x:=by rw[wh yq,hx]
  obtain⟨b,off,cp,yI,-,hc⟩:=hv.cells xx;rw[hL] at yI;simp only[wo,true_and] at yI;obtain⟨rfl,rfl⟩:=yI
  have hk:oq (M.map Prod.fst)=x.1.1:=by unfold oq;rw[List.head?_map,List.head?_eq_getElem?,xx];rfl
  have yt:(M.map Prod.fst).isEmpty=false:=by cases hT:M.map Prod.fst with | nil=>rw[hT] at xC;simp at xC;omega | cons _ _=>rfl
  rw[hk,yt,wD,wv] at hO
  have n0:w.cell? ⟨b,off,none⟩=some (.int .u8 x.1.1):=by
   have:=hc w (bQ _) 0 _ rfl
   simpa using this
  obtain⟨K,hK⟩:=e_ ((x.1.1==1));rw[hK] at hO
  by_cases h5:L≤512
  ·have g5 : (L : Int) ≤ 512 := by omega
   rw[decide_eq_true h5,wv] at hO
   cases K with
   | false=>
    obtain rfl:false=O:=hO;clear hc xx hx hk yt yq hv hL xA CB xC hZ hs hf;go_enter func202,ntmps202;go_wp2_with fail;go_ret;exact⟨rfl,bQ _⟩
   | true=>
    rw[wv] at hO;have HO:=h_ hO;clear hc xx hx hk yt yq hv hL xA xC hZ hs hf hO;go_enter func202,ntmps202;go_wp2_with fail;refine CB.out.mono ?_;rintro e w1 ⟨rfl,hb⟩;have hq:=HO.out;clear n0;go_wp2_with fail;go_ret;exact⟨by first | rfl | exact cD hq,hb⟩
  ·have g5 : ¬ (L : Int) ≤ 512 := by omega
   rw[decide_eq_false h5,ww] at hO;subst hO;clear hc xx hx hk yt yq hv hL xA CB xC hZ hs hf;go_enter func202,ntmps202;go_wp2_with fail;go_ret;exact⟨rfl,bQ _⟩

theorem kY {α:Type} {q:α→Bool} {l:List α} {k:Nat} {x:α} (hx:l[k]?=some x) (h:q x=true):l.any q=true:=List.any_eq_true.2 ⟨x,List.mem_of_getElem? hx,h⟩
theorem sU (T:TrI) (w:World) (hs:trY.sub T w) (hf:ku (trD T)):Calls prog 160 #[trV T] w (Ret w (.bool (af (trD T)))):=by
 have CT:=fun (W:World) (hb:Bl w W)=>sP T W (trY.subRet _ _ _ hs hb) hf
 obtain⟨M,⟨va,vc⟩⟩:=T;have hv:IsL ndY (.slice va M.length vc) M w:=hs
 have xA:∀x∈M,NdFit x.1:=fun x hx=>hf.2 x.1 (wC hx)
 have hz:M.length≤1000:=by have:=hf.1;rwa [ws] at this
 have CT:∀W,Bl w W→Calls prog 202 #[.slice va M.length vc] W (Ret W (.bool (ed (M.map Prod.fst)))):=CT
 show Calls prog 160 #[.slice va M.length vc] w (Ret w (.bool (af (M.map Prod.fst))))
 obtain⟨O,hO⟩:=e_ (af (M.map Prod.fst));rw[hO];obtain⟨Z,hZ⟩:=e_ (ed (M.map Prod.fst));unfold af at hO;rw[hZ] at hO CT;rw[List.any_map,show (cW ∘ Prod.fst)=(fun x:NdI=>cW x.1) from rfl] at hO
 have yy:(M.any fun x:NdI=>cW x.1)=true→O=false:=fun h=>by rw[←hO,h];rfl
 have yz:(M.any fun x:NdI=>cW x.1)=false→O=Z:=fun h=>by rw[←hO,h,wD,wv]
 obtain⟨L,hL⟩:=e_ M.length;rw[hL] at hv hz CT ⊢;have HV:=h_ hv;have HL:=h_ hL;have HF:=h_ xA;have yY:=h_ yy;have yZ:=h_ yz;have CT:=h_ CT;have bs:=Sx.start w;clear hv hL hO hf xA hs hZ yy yz;go_enter func160,ntmps160;go_wp2_with fail;go_loopw [3] (fun i wx=>∃k:Nat,k≤L∧i=.int .i64 k∧((M.take k).any fun x:NdI=>cW x.1)=false∧Sx w [] wx) (fun i _=>L-(intOf i).toNat)
 case atStart=>exact⟨0,wq _,rfl,rfl,bs⟩
 case round=>
  clear bs;obtain⟨k,hk,rfl,xw,bs⟩:=hrel;have q:=bs.q
  by_cases hlt:k<L
  ·have xQ : k < M.length := by rw [HL.out]; exact hlt
   have wl:(k:Int)<(L:Int):=(by omega);obtain⟨x,hx⟩:=e_ (M[k]);have xx:M[k]?=some x:=(by rw[wh xQ,hx]);have xR:x∈M:=(by rw[←hx];exact wt xQ);have xE:=jD (q:=fun x:NdI=>cW x.1) xx;rw[xw,wy] at xE
   have xF:=h_ fun h=>yY.out (kY (q:=fun x:NdI=>cW x.1) xx h)
   obtain⟨b,off,cp,hv,-,hc⟩:=HV.out.cells xx;rw[HL.out] at hv;simp only[wo,true_and] at hv;obtain⟨rfl,rfl⟩:=hv;have hA:IsL atY (ndV x) (ndA x) w:=HV.out.2.2 x xR;have yu:=HF.out x xR
   have CN:∀W:World,Calls prog 201 #[.string ⟨x.1.2.2.1.toArray⟩] W (Ret W (.bool (aG x.1.2.2.1))):=fun (W:World)=>d9 ⟨x.1.2.2.1.toArray⟩ W (by have:=yu.nm;show x.1.2.2.1.toArray.size≤_;simpa using this)
   have zA:=yu.at'.1;have ze:=yu.at'.2;obtain⟨SP,yv⟩:=e_ (ByteArray.mk x.1.2.1.toArray);obtain⟨NM,yJ⟩:=e_ (ByteArray.mk x.1.2.2.1.toArray);obtain⟨xa,yK⟩:=e_ x.2.1;obtain⟨xc,yL⟩:=e_ x.2.2;obtain⟨XA,xX⟩:=e_ (ndA x);obtain⟨LA,yf⟩:=e_ XA.length;obtain⟨n0,yM⟩:=e_ x.1.1
   have HC:=h_ fun (w':World) (hb:Bl w w')=>show w'.cell? ⟨b,off+k*6,none⟩=some (.int .u8 n0)∧w'.cell? ⟨b,off+k*6+1,none⟩=some (.string SP)∧w'.cell? ⟨b,off+k*6+2,none⟩=some (.string NM)∧w'.cell? ⟨b,off+k*6+3,none⟩=some (.slice xa LA xc) from
    (by rw[←yM,←yv,←yJ,←yK,←yf,←yL,←xX];exact⟨hc w' hb 0 _ rfl,hc w' hb 1 _ rfl,hc w' hb 2 _ rfl,hc w' hb 3 _ rfl⟩)
   have xO:IsL atY (.slice xa LA xc) XA w:=(by rw[←yK,←yf,←yL,←xX];exact hA);have zL:LA≤1000:=(by rw[←yf,←xX];exact zA)
   have zX:∀a∈XA,a.2.1.length≤10000:=fun a ha=>(ze a (by rw[←xX] at ha;exact ha)).2.1
   have g1:(SP.toList==[104,116,116,112,58,47,47,119,119,119,46,119,51,46,111,114,103,47,88,77,76,47,49,57,57,56,47,110,97,109,101,115,112,97,99,101])=(x.1.2.1==vj):=(by rw[←yv];exact cw _ _);have g2:(SP.toList==[104,116,116,112,58,47,47,119,119,119,46,119,51,46,111,114,103,47,50,48,48,48,47,120,109,108,110,115,47])=(x.1.2.1==eE):=(by rw[←yv];exact cw _ _);have xG:cW x.1=((n0==1)&&!aG x.1.2.2.1||((x.1.2.1==vj||x.1.2.1==eE)||XA.any cQ)):=(by rw[←yM,←xX];rfl);obtain⟨K,hK⟩:=e_ ((n0==1));obtain⟨A,xy⟩:=e_ (aG x.1.2.2.1);obtain⟨G1,yN⟩:=e_ ((x.1.2.1==vj));obtain⟨G2,yO⟩:=e_ ((x.1.2.1==eE));rw[hK,xy,yN,yO] at xG;rw[yN] at g1;rw[yO] at g2;rw[yJ,xy] at CN;have CN:=h_ CN;have xT:=h_ xG;have zh:=h_ xE;have HA:=h_ xO;have xY:=h_ yf;have ZX:=h_ zX;clear xw xE hc xx xR hx xQ hA xO yu zA ze yv yJ yK yL xX yf yM xG xy yN yO zX
   cases K with
   | false=>
    cases G1 with
    | true=>
     have HB:=h_ (xF.out (by rw[xT.out];simp));obtain⟨x0,x1,x2,x3⟩:=HC.out wr q;go_wp2_with fail;go_ret;exact⟨by rw[HB.out];first | done | rfl,q⟩
    | false=>
     cases G2 with
     | true=>
      have HB:=h_ (xF.out (by rw[xT.out];simp));obtain⟨x0,x1,x2,x3⟩:=HC.out wr q;go_wp2_with fail;go_ret;exact⟨by rw[HB.out];first | done | rfl,q⟩
     | false=>
      obtain⟨x0,x1,x2,x3⟩:=HC.out wr q;go_wp2_with fail;clear x0 x1 x2 x3
      have xP:Hid (cW x.1=XA.any cQ):=h_ (by rw[xT.out];simp)
      go_loopw [4] (fun i wx=>∃j:Nat,j≤LA∧i=.int .i64 j∧(XA.take j).any cQ=false∧Sx w [] wx) (fun i _=>LA-(intOf i).toNat)
      case atStart=>exact⟨0,wq _,rfl,rfl,bs⟩
      case round=>
       clear bs q;obtain⟨j,hj,rfl,xw,bs⟩:=hrel;have q:=bs.q
       by_cases hlj:j<LA
       ·have wj : (j : Int) < (LA : Int) := by omega
        have xU:j<XA.length:=(by rw[xY.out];exact hlj);obtain⟨y,hy⟩:=e_ (XA[j]);have xK:XA[j]?=some y:=(by rw[wh xU,hy]);have yg:y∈XA:=(by rw[←hy];exact wt xU);have xE:=jD (q:=cQ) xK;rw[xw,wy] at xE
        have xH:=h_ fun h=>xF.out (xP.out.trans (kY (q:=cQ) xK h))
        obtain⟨b2,xz,yS,xD,-,xB⟩:=HA.out.cells xK;rw[xY.out] at xD;simp only[wo,true_and] at xD;obtain⟨rfl,rfl⟩:=xD
        have CY:∀W:World,Calls prog 201 #[.string ⟨y.2.1.toArray⟩] W (Ret W (.bool (aG y.2.1))):=fun (W:World)=>d9 ⟨y.2.1.toArray⟩ W (by have:=ZX.out y yg;show y.2.1.toArray.size≤_;simpa using this)
        obtain⟨A0,xL⟩:=e_ (ByteArray.mk y.1.toArray);obtain⟨A1,xy⟩:=e_ (ByteArray.mk y.2.1.toArray);obtain⟨A2,xO⟩:=e_ (ByteArray.mk y.2.2.toArray);obtain⟨d0,d1,d2⟩:wr.cell? ⟨b2,xz+j*3,none⟩=some (.string A0)∧wr.cell? ⟨b2,xz+j*3+1,none⟩=some (.string A1)∧wr.cell? ⟨b2,xz+j*3+2,none⟩=some (.string A2):=(by rw[←xL,←xy,←xO];exact⟨xB wr q 0 _ rfl,xB wr q 1 _ rfl,xB wr q 2 _ rfl⟩)
        have xG:cQ y=(!aG y.2.1||((y.1.isEmpty&&y.2.1==[120,109,108,110,115])||y.1==eE)):=rfl
        obtain⟨P,hP⟩:=e_ (aG y.2.1);obtain⟨E,hE⟩:=e_ y.1.isEmpty;obtain⟨C,hC⟩:=e_ ((y.2.1==[120,109,108,110,115]));obtain⟨D,hD⟩:=e_ ((y.1==eE));rw[hP,hE,hC,hD] at xG;rw[xy,hP] at CY;have yh:A0.toList.isEmpty=E:=(by rw[←xL,←hE];simp);have xW:(A1.toList==[120,109,108,110,115])=C:=(by rw[←xy,←hC];exact cw _ _);have yi:(A0.toList==[104,116,116,112,58,47,47,119,119,119,46,119,51,46,111,114,103,47,50,48,48,48,47,120,109,108,110,115,47])=D:=(by rw[←xL,←hD];exact cw _ _);have CY:=h_ CY;have xI:=h_ xG;have yj:=h_ xE;have yk:=h_ yh;clear xw xE hy xK yg xU xB xL xy xO xG hP hE hC hD yh
        cases P with
        | false=>
         obtain⟨x0,x1,x2,x3⟩:=HC.out wr q;have d0:=(bs.lit (wr.heap.size) rfl [.string A0,.string A1,.string A2] 160);have xo:=d0.b3 0;go_wp2_with fail;clear d0 xo;clear x0 x1 x2 x3 d0 d1 d2;obtain⟨xt,xp,xM,al,bs⟩:=bs.alloc (wr.heap.size) rfl [.string A0,.string A1,.string A2] 160;clear al;replace q:=bs.q;rw[xp];refine(CY.out xt).mono ?_;rintro e xN ⟨rfl,hb⟩;replace bs:=bs.ret hb;replace q:=bs.q;clear hb;have HB:=h_ (xH.out (by rw[xI.out];simp));have xr:=bs.b3 0;go_wp2_with fail;go_ret;exact⟨by rw[HB.out];first | done | rfl,q⟩
        | true=>
         cases E with
         | true=>
          obtain rfl:=bO yk.out
          obtain rfl:D=false:=by rw[←yi];simp
          clear yi
          cases C with
          | true=>
           obtain⟨x0,x1,x2,x3⟩:=HC.out wr q;have d0:=(bs.lit (wr.heap.size) rfl [.string ⟨#[]⟩,.string A1,.string A2] 160);have xo:=d0.b3 0;go_wp2_with fail;clear d0 xo;clear x0 x1 x2 x3 d0 d1 d2;obtain⟨xt,xp,xM,al,bs⟩:=bs.alloc (wr.heap.size) rfl [.string ⟨#[]⟩,.string A1,.string A2] 160;clear al;replace q:=bs.q;rw[xp];refine(CY.out xt).mono ?_;rintro e xN ⟨rfl,hb⟩;replace bs:=bs.ret hb;replace q:=bs.q;clear hb;have HB:=h_ (xH.out (by rw[xI.out];simp));have xr:=bs.b3 0;go_wp2_with fail;go_ret;exact⟨by rw[HB.out];first | done | rfl,q⟩
          | false=>
           obtain⟨x0,x1,x2,x3⟩:=HC.out wr q;have d0:=(bs.lit (wr.heap.size) rfl [.string ⟨#[]⟩,.string A1,.string A2] 160);have xo:=d0.b3 0;go_wp2_with fail;clear d0 xo;clear x0 x1 x2 x3 d0 d1 d2;obtain⟨xt,xp,xM,al,bs⟩:=bs.alloc (wr.heap.size) rfl [.string ⟨#[]⟩,.string A1,.string A2] 160;clear al;replace q:=bs.q;rw[xp];refine(CY.out xt).mono ?_;rintro e xN ⟨rfl,hb⟩;replace bs:=bs.ret hb;replace q:=bs.q;clear hb
           have HN:Hid ((XA.take (j+1)).any cQ=false):=h_ (by rw[yj.out,xI.out];simp)
           have xr:=bs.b3 0;go_wp2_with fail;clear xr;go_roundw
           case rel=>exact⟨j+1,by omega,by go_num,HN.out,bs.some 0⟩
           case measure=>simp[intOf];omega
         | false=>
          have p2:=bY yk.out;have e2:=ao (s:=A0) p2;have f2:=ax (s:=A0) p2
          cases D with
          | true=>
           obtain⟨x0,x1,x2,x3⟩:=HC.out wr q;have d0:=(bs.lit (wr.heap.size) rfl [.string A0,.string A1,.string A2] 160);have xo:=d0.b3 0;go_wp2_with fail;clear d0 xo;clear x0 x1 x2 x3 d0 d1 d2;obtain⟨xt,xp,xM,al,bs⟩:=bs.alloc (wr.heap.size) rfl [.string A0,.string A1,.string A2] 160;clear al;replace q:=bs.q;rw[xp];refine(CY.out xt).mono ?_;rintro e xN ⟨rfl,hb⟩;replace bs:=bs.ret hb;replace q:=bs.q;clear hb;have HB:=h_ (xH.out (by rw[xI.out];simp));have xr:=bs.b3 0;go_wp2_with fail;go_ret;exact⟨by rw[HB.out];first | done | rfl,q⟩
          | false=>
           obtain⟨x0,x1,x2,x3⟩:=HC.out wr q;have d0:=(bs.lit (wr.heap.size) rfl [.string A0,.string A1,.string A2] 160);have xo:=d0.b3 0;go_wp2_with fail;clear d0 xo;clear x0 x1 x2 x3 d0 d1 d2;obtain⟨xt,xp,xM,al,bs⟩:=bs.alloc (wr.heap.size) rfl [.string A0,.string A1,.string A2] 160;clear al;replace q:=bs.q;rw[xp];refine(CY.out xt).mono ?_;rintro e xN ⟨rfl,hb⟩;replace bs:=bs.ret hb;replace q:=bs.q;clear hb
           have HN:Hid ((XA.take (j+1)).any cQ=false):=h_ (by rw[yj.out,xI.out];simp)
           have xr:=bs.b3 0;go_wp2_with fail;clear xr;go_roundw
           case rel=>exact⟨j+1,by omega,by go_num,HN.out,bs.some 0⟩
           case measure=>simp[intOf];omega
       ·have wj : ¬ (j : Int) < (LA : Int) := by omega
        have HN:Hid (((M.take (k+1)).any fun x:NdI=>cW x.1)=false):=h_ (by rw[wz (by rw[xY.out];omega)] at xw;rw[zh.out,xP.out,xw])
        clear xw;obtain⟨x0,x1,x2,x3⟩:=HC.out wr q;go_wp2_with fail;clear x0 x1 x2 x3;go_roundw
        case rel=>exact⟨k+1,by omega,by go_num,HN.out,bs⟩
        case measure=>simp[intOf];omega
   | true=>
    obtain⟨x0,x1,x2,x3⟩:=HC.out wr q;go_wp2_with fail;refine(CN.out wr).mono ?_;rintro e yw ⟨rfl,hb⟩;clear x0 x1 x2 x3;replace bs:=bs.ret hb;replace q:=bs.q;clear hb
    cases A with
    | false=>
     have HB:=h_ (xF.out (by rw[xT.out];simp));obtain⟨x0,x1,x2,x3⟩:=HC.out yw q;go_wp2_with fail;go_ret;exact⟨by rw[HB.out];first | done | rfl,q⟩
    | true=>
     cases G1 with
     | true=>
      have HB:=h_ (xF.out (by rw[xT.out];simp));obtain⟨x0,x1,x2,x3⟩:=HC.out yw q;go_wp2_with fail;go_ret;exact⟨by rw[HB.out];first | done | rfl,q⟩
     | false=>
      cases G2 with
      | true=>
       have HB:=h_ (xF.out (by rw[xT.out];simp));obtain⟨x0,x1,x2,x3⟩:=HC.out yw q;go_wp2_with fail;go_ret;exact⟨by rw[HB.out];first | done | rfl,q⟩
      | false=>
       obtain⟨x0,x1,x2,x3⟩:=HC.out yw q;go_wp2_with fail;clear x0 x1 x2 x3
       have xP:Hid (cW x.1=XA.any cQ):=h_ (by rw[xT.out];simp)
       go_loopw [4] (fun i wx=>∃j:Nat,j≤LA∧i=.int .i64 j∧(XA.take j).any cQ=false∧Sx w [] wx) (fun i _=>LA-(intOf i).toNat)
       case atStart=>exact⟨0,wq _,rfl,rfl,bs⟩
       case round=>
        clear bs q;obtain⟨j,hj,rfl,xw,bs⟩:=hrel;have q:=bs.q
        by_cases hlj:j<LA
        ·have wj : (j : Int) < (LA : Int) := by omega
         have xU:j<XA.length:=(by rw[xY.out];exact hlj);obtain⟨y,hy⟩:=e_ (XA[j]);have xK:XA[j]?=some y:=(by rw[wh xU,hy]);have yg:y∈XA:=(by rw[←hy];exact wt xU);have xE:=jD (q:=cQ) xK;rw[xw,wy] at xE
         have xH:=h_ fun h=>xF.out (xP.out.trans (kY (q:=cQ) xK h))
         obtain⟨b2,xz,yS,xD,-,xB⟩:=HA.out.cells xK;rw[xY.out] at xD;simp only[wo,true_and] at xD;obtain⟨rfl,rfl⟩:=xD
         have CY:∀W:World,Calls prog 201 #[.string ⟨y.2.1.toArray⟩] W (Ret W (.bool (aG y.2.1))):=fun (W:World)=>d9 ⟨y.2.1.toArray⟩ W (by have:=ZX.out y yg;show y.2.1.toArray.size≤_;simpa using this)
         obtain⟨A0,xL⟩:=e_ (ByteArray.mk y.1.toArray);obtain⟨A1,xy⟩:=e_ (ByteArray.mk y.2.1.toArray);obtain⟨A2,xO⟩:=e_ (ByteArray.mk y.2.2.toArray);obtain⟨d0,d1,d2⟩:wr.cell? ⟨b2,xz+j*3,none⟩=some (.string A0)∧wr.cell? ⟨b2,xz+j*3+1,none⟩=some (.string A1)∧wr.cell? ⟨b2,xz+j*3+2,none⟩=some (.string A2):=(by rw[←xL,←xy,←xO];exact⟨xB wr q 0 _ rfl,xB wr q 1 _ rfl,xB wr q 2 _ rfl⟩)
         have xG:cQ y=(!aG y.2.1||((y.1.isEmpty&&y.2.1==[120,109,108,110,115])||y.1==eE)):=rfl
         obtain⟨P,hP⟩:=e_ (aG y.2.1);obtain⟨E,hE⟩:=e_ y.1.isEmpty;obtain⟨C,hC⟩:=e_ ((y.2.1==[120,109,108,110,115]));obtain⟨D,hD⟩:=e_ ((y.1==eE));rw[hP,hE,hC,hD] at xG;rw[xy,hP] at CY;have yh:A0.toList.isEmpty=E:=(by rw[←xL,←hE];simp);have xW:(A1.toList==[120,109,108,110,115])=C:=(by rw[←xy,←hC];exact cw _ _);have yi:(A0.toList==[104,116,116,112,58,47,47,119,119,119,46,119,51,46,111,114,103,47,50,48,48,48,47,120,109,108,110,115,47])=D:=(by rw[←xL,←hD];exact cw _ _);have CY:=h_ CY;have xI:=h_ xG;have yj:=h_ xE;have yk:=h_ yh;clear xw xE hy xK yg xU xB xL xy xO xG hP hE hC hD yh
         cases P with
         | false=>
          obtain⟨x0,x1,x2,x3⟩:=HC.out wr q;have d0:=(bs.lit (wr.heap.size) rfl [.string A0,.string A1,.string A2] 160);have xo:=d0.b3 0;go_wp2_with fail;clear d0 xo;clear x0 x1 x2 x3 d0 d1 d2;obtain⟨xt,xp,xM,al,bs⟩:=bs.alloc (wr.heap.size) rfl [.string A0,.string A1,.string A2] 160;clear al;replace q:=bs.q;rw[xp];refine(CY.out xt).mono ?_;rintro e xN ⟨rfl,hb⟩;replace bs:=bs.ret hb;replace q:=bs.q;clear hb;have HB:=h_ (xH.out (by rw[xI.out];simp));have xr:=bs.b3 0;go_wp2_with fail;go_ret;exact⟨by rw[HB.out];first | done | rfl,q⟩
         | true=>
          cases E with
          | true=>
           obtain rfl:=bO yk.out
           obtain rfl:D=false:=by rw[←yi];simp
           clear yi
           cases C with
           | true=>
            obtain⟨x0,x1,x2,x3⟩:=HC.out wr q;have d0:=(bs.lit (wr.heap.size) rfl [.string ⟨#[]⟩,.string A1,.string A2] 160);have xo:=d0.b3 0;go_wp2_with fail;clear d0 xo;clear x0 x1 x2 x3 d0 d1 d2;obtain⟨xt,xp,xM,al,bs⟩:=bs.alloc (wr.heap.size) rfl [.string ⟨#[]⟩,.string A1,.string A2] 160;clear al;replace q:=bs.q;rw[xp];refine(CY.out xt).mono ?_;rintro e xN ⟨rfl,hb⟩;replace bs:=bs.ret hb;replace q:=bs.q;clear hb;have HB:=h_ (xH.out (by rw[xI.out];simp));have xr:=bs.b3 0;go_wp2_with fail;go_ret;exact⟨by rw[HB.out];first | done | rfl,q⟩
           | false=>
            obtain⟨x0,x1,x2,x3⟩:=HC.out wr q;have d0:=(bs.lit (wr.heap.size) rfl [.string ⟨#[]⟩,.string A1,.string A2] 160);have xo:=d0.b3 0;go_wp2_with fail;clear d0 xo;clear x0 x1 x2 x3 d0 d1 d2;obtain⟨xt,xp,xM,al,bs⟩:=bs.alloc (wr.heap.size) rfl [.string ⟨#[]⟩,.string A1,.string A2] 160;clear al;replace q:=bs.q;rw[xp];refine(CY.out xt).mono ?_;rintro e xN ⟨rfl,hb⟩;replace bs:=bs.ret hb;replace q:=bs.q;clear hb
            have HN:Hid ((XA.take (j+1)).any cQ=false):=h_ (by rw[yj.out,xI.out];simp)
            have xr:=bs.b3 0;go_wp2_with fail;clear xr;go_roundw
            case rel=>exact⟨j+1,by omega,by go_num,HN.out,bs.some 0⟩
            case measure=>simp[intOf];omega
          | false=>
           have p2:=bY yk.out;have e2:=ao (s:=A0) p2;have f2:=ax (s:=A0) p2
           cases D with
           | true=>
            obtain⟨x0,x1,x2,x3⟩:=HC.out wr q;have d0:=(bs.lit (wr.heap.size) rfl [.string A0,.string A1,.string A2] 160);have xo:=d0.b3 0;go_wp2_with fail;clear d0 xo;clear x0 x1 x2 x3 d0 d1 d2;obtain⟨xt,xp,xM,al,bs⟩:=bs.alloc (wr.heap.size) rfl [.string A0,.string A1,.string A2] 160;clear al;replace q:=bs.q;rw[xp];refine(CY.out xt).mono ?_;rintro e xN ⟨rfl,hb⟩;replace bs:=bs.ret hb;replace q:=bs.q;clear hb;have HB:=h_ (xH.out (by rw[xI.out];simp));have xr:=bs.b3 0;go_wp2_with fail;go_ret;exact⟨by rw[HB.out];first | done | rfl,q⟩
           | false=>
            obtain⟨x0,x1,x2,x3⟩:=HC.out wr q;have d0:=(bs.lit (wr.heap.size) rfl [.string A0,.string A1,.string A2] 160);have xo:=d0.b3 0;go_wp2_with fail;clear d0 xo;clear x0 x1 x2 x3 d0 d1 d2;obtain⟨xt,xp,xM,al,bs⟩:=bs.alloc (wr.heap.size) rfl [.string A0,.string A1,.string A2] 160;clear al;replace q:=bs.q;rw[xp];refine(CY.out xt).mono ?_;rintro e xN ⟨rfl,hb⟩;replace bs:=bs.ret hb;replace q:=bs.q;clear hb
            have HN:Hid ((XA.take (j+1)).any cQ=false):=h_ (by rw[yj.out,xI.out];simp)
            have xr:=bs.b3 0;go_wp2_with fail;clear xr;go_roundw
            case rel=>exact⟨j+1,by omega,by go_num,HN.out,bs.some 0⟩
            case measure=>simp[intOf];omega
        ·have wj : ¬ (j : Int) < (LA : Int) := by omega
         have HN:Hid (((M.take (k+1)).any fun x:NdI=>cW x.1)=false):=h_ (by rw[wz (by rw[xY.out];omega)] at xw;rw[zh.out,xP.out,xw])
         clear xw;obtain⟨x0,x1,x2,x3⟩:=HC.out wr q;go_wp2_with fail;clear x0 x1 x2 x3;go_roundw
         case rel=>exact⟨k+1,by omega,by go_num,HN.out,bs⟩
         case measure=>simp[intOf];omega
  ·have wl : ¬ (k : Int) < (L : Int) := by omega
   have HN:=h_ (yZ.out (by rw[wz (by rw[HL.out];omega)] at xw;exact xw));clear xw;go_wp2_with fail;refine(CT.out wr q).mono ?_;rintro e zF ⟨rfl,hb⟩;replace bs:=bs.ret hb;replace q:=bs.q;clear hb;go_wp2_with fail;go_ret;exact⟨by rw[HN.out];first | done | rfl,q⟩
end Go.Proofs.YtjgeiieiinmdnaaGreatDoor
