/- DcU, DcY: put together by mergetpl.py. -/
import Derived.Test.YtjgeiieiinmdnaaGreatDoorLs
open Go.Proofs.Tryz
open Bool renaming true_and→wy,false_and→wz,false_or→wA,not_false→wF
open Go.Value.slice renaming injEq→ws
open List renaming getElem?_eq_getElem→wq,length_map→wu,getElem_mem→wv,take_of_length_le→wB,getElem?_map→wC,mem_map_of_mem→wE
open Nat renaming zero_le→wt,le_refl→ww,sub_self→wD
namespace Go.Proofs.YtjgeiieiinmdnaaGreatDoor
set_option maxHeartbeats 8000000
set_option maxRecDepth 100000
open Go.RowKit Go.Lib

theorem jx {f:Int→Int} {v:List Nd} {l:Int}:∀m:Nat,bB f v m (-1) l=-1
 | 0=>rfl
 | _+1=>i9 (by omega)
theorem ed {f:Int→Int} {v:List Nd} (hf:∀x,0≤x→f x=-1∨x+1≤f x):∀(m:Nat) (nx la:Int),0≤nx→bB f v m nx la=-1∨nx+m≤bB f v m nx la
 | 0,nx,la,h0=>.inr (by show nx+((0:Nat):Int)≤nx;omega)
 | m+1,nx,la,h0=>by
  unfold bB
  split
  ·exact .inl rfl
  ·split
   ·exact .inl rfl
   ·rename_i n hn hc
    rcases hf nx h0 with h | h
    ·rw[h,jx]
     exact .inl rfl
    ·rcases ed hf m (f nx) n.1 (by omega) with h1 | h1
     ·exact .inl h1
     ·exact .inr (by omega)
theorem gv {f:Int→Int} {v:List Nd} (hf:∀x,0≤x→f x=-1∨x+1≤f x) (stop:Bool) (a:Int) (ha:0≤a):dq f v stop a=-1∨a+1≤dq f v stop a:=by
 unfold dq
 split
 ·exact .inl rfl
 ·split
  ·exact .inl rfl
  ·rename_i n hn hc
   rcases ed (v:=v) hf (aW n).toNat (a+1) 1 (by omega) with h | h
   ·exact .inl h
   ·exact .inr (by omega)
theorem jP (v:List Nd):∀(d:Nat) (a:Int),0≤a→fy v d a=-1∨a+1≤fy v d a
 | 0,a,ha=>gv (fun _ _=>.inl rfl) true a ha
 | d+1,a,ha=>gv (jP v d) false a ha
theorem ow {v:List Nd} {d M k:Nat} (h:v.length<M):bB (fy v d) v M ((k:Int)+1) 1=-1:=by
 rcases Nat.lt_or_ge v.length (k+1) with hk | hk
 ·obtain⟨m,rfl⟩:∃m,M=m+1:=⟨M-1,by omega⟩
  exact fx (k:=k+1) (by omega)
 ·rcases ed (v:=v) (jP v d) M ((k:Int)+1) 1 (by omega) with h1 | h1
  ·exact h1
  ·have h2:=(dz (v:=v) (bE v d) M ((k:Int)+1) 1 (by omega) (by omega)).2
   omega
def vK (T:List NdI) (va:Option Addr) (L vc:Nat) (w0:World) (d:Nat):Prop:=∀(k lv:Nat) (W:World),k≤L→lv+d=13→Bl w0 W→
 Calls prog 237 #[.slice va L vc,.int .i64 k,.int .i64 lv] W (Ret W (.int .i64 (fy (T.map Prod.fst) d k)))
theorem es (T:List NdI) (va:Option Addr) (L vc d:Nat) (w0:World) (hv:IsL ndY (.slice va L vc) T w0) (hL:T.length=L) (hL5:L≤100000) (hd:d≤12) (hf:∀x∈T,NdFit x.1)
  (REC:∀d',d'+1=d→vK T va L vc w0 d'):vK T va L vc w0 d:=by
 intro k lv W hk hlv q0;obtain⟨O,hO⟩:=e_ (fy (T.map Prod.fst) d k);rw[hO]
 have hml:(T.map Prod.fst).length=L:=by rw[wu,hL]
 have CM:=h_ fun (x:NdI) (hx:x∈T) (W:World) (hb:Bl w0 W)=>ki x W (ndY.subRet _ _ _ (hv.2.2 x hx) hb) (hf x hx)
 have HV:=h_ hv;have HL:=h_ hL;have HML:=h_ hml;have HFT:=h_ hf;have REC:=h_ REC;have HQ0:=h_ q0;clear hv hL hml hf
 by_cases hkl:k<L
 ·have hkM : k < T.length := by rw [HL.out]; exact hkl
  obtain⟨x,hx⟩:=e_ (T[k])
  have hkx:T[k]?=some x:=by rw[wq hkM,hx]
  have hxm:x∈T:=by rw[←hx];exact wv hkM
  obtain⟨b,off,cp,hv,-,hc⟩:=HV.out.cells hkx;rw[HL.out] at hv;simp only[ws,true_and] at hv;obtain⟨rfl,rfl⟩:=hv;have HC:=h_ hc
  have wk:¬ (L:Int)≤(k:Int):=by omega
  have CX:=CM.out x hxm;have hmx:=(HFT.out x hxm).many;have hbe:=nI (T.map Prod.fst) d k x.1 (by rw[wC,hkx];rfl);rw[hO] at hbe;replace hbe:=hbe.symm;have hmany:=@gA x.1;obtain⟨P1,hP1⟩:=e_ (dn x.1);obtain⟨P2,hP2⟩:=e_ (decide (aW x.1<0));obtain⟨P3,hP3⟩:=e_ ((x.1.1==1));obtain⟨P4,hP4⟩:=e_ ((d==0));rw[hP1] at CX hmany;rw[hP3] at hmany;rw[hP1,hP2,hP3,hP4] at hbe
  have hP5:decide ((12:Int)<(lv:Int))=P4:=by rw[←hP4,Bool.eq_iff_iff,decide_eq_true_eq,beq_iff_eq];omega
  have CX:=h_ CX;have HBE:=h_ hbe;have HMY:=h_ hmany;clear hc hx hkx hxm hkM hO hP1 hP4 hbe hmany
  cases P1 with
  | false=>
   obtain rfl:-1=O:=HBE.out;go_enter func237,ntmps237
   have n0:W.cell? ⟨b,off+k*6,none⟩=some (.int .u8 x.1.1):=HC.out W (HQ0.out) 0 _ rfl
   have n1:W.cell? ⟨b,off+k*6+1,none⟩=some (.string ⟨x.1.2.1.toArray⟩):=HC.out W (HQ0.out) 1 _ rfl
   have n2:W.cell? ⟨b,off+k*6+2,none⟩=some (.string ⟨x.1.2.2.1.toArray⟩):=HC.out W (HQ0.out) 2 _ rfl
   have n3:W.cell? ⟨b,off+k*6+3,none⟩=some (ndV x):=HC.out W (HQ0.out) 3 _ rfl
   have n4:W.cell? ⟨b,off+k*6+4,none⟩=some (.string ⟨x.1.2.2.2.2.1.toArray⟩):=HC.out W (HQ0.out) 4 _ rfl
   have n5:W.cell? ⟨b,off+k*6+5,none⟩=some (.int .i64 x.1.2.2.2.2.2):=HC.out W (HQ0.out) 5 _ rfl
   go_wp2_with fail;refine(CX.out W HQ0.out).mono ?_;rintro e w1 ⟨rfl,q⟩;clear n0 n1 n2 n3 n4 n5;have q1:=HQ0.out.trans (q.mono HQ0.out.size)
   have n0:w1.cell? ⟨b,off+k*6,none⟩=some (.int .u8 x.1.1):=HC.out w1 (q1) 0 _ rfl
   have n1:w1.cell? ⟨b,off+k*6+1,none⟩=some (.string ⟨x.1.2.1.toArray⟩):=HC.out w1 (q1) 1 _ rfl
   have n2:w1.cell? ⟨b,off+k*6+2,none⟩=some (.string ⟨x.1.2.2.1.toArray⟩):=HC.out w1 (q1) 2 _ rfl
   have n3:w1.cell? ⟨b,off+k*6+3,none⟩=some (ndV x):=HC.out w1 (q1) 3 _ rfl
   have n4:w1.cell? ⟨b,off+k*6+4,none⟩=some (.string ⟨x.1.2.2.2.2.1.toArray⟩):=HC.out w1 (q1) 4 _ rfl
   have n5:w1.cell? ⟨b,off+k*6+5,none⟩=some (.int .i64 x.1.2.2.2.2.2):=HC.out w1 (q1) 5 _ rfl
   go_wp2_with fail;go_ret;exact⟨rfl,q⟩
  | true=>
   cases P2 with
   | true=>
    obtain rfl:-1=O:=HBE.out;go_enter func237,ntmps237
    have n0:W.cell? ⟨b,off+k*6,none⟩=some (.int .u8 x.1.1):=HC.out W (HQ0.out) 0 _ rfl
    have n1:W.cell? ⟨b,off+k*6+1,none⟩=some (.string ⟨x.1.2.1.toArray⟩):=HC.out W (HQ0.out) 1 _ rfl
    have n2:W.cell? ⟨b,off+k*6+2,none⟩=some (.string ⟨x.1.2.2.1.toArray⟩):=HC.out W (HQ0.out) 2 _ rfl
    have n3:W.cell? ⟨b,off+k*6+3,none⟩=some (ndV x):=HC.out W (HQ0.out) 3 _ rfl
    have n4:W.cell? ⟨b,off+k*6+4,none⟩=some (.string ⟨x.1.2.2.2.2.1.toArray⟩):=HC.out W (HQ0.out) 4 _ rfl
    have n5:W.cell? ⟨b,off+k*6+5,none⟩=some (.int .i64 x.1.2.2.2.2.2):=HC.out W (HQ0.out) 5 _ rfl
    go_wp2_with fail;refine(CX.out W HQ0.out).mono ?_;rintro e w1 ⟨rfl,q⟩;clear n0 n1 n2 n3 n4 n5;have q1:=HQ0.out.trans (q.mono HQ0.out.size)
    have n0:w1.cell? ⟨b,off+k*6,none⟩=some (.int .u8 x.1.1):=HC.out w1 (q1) 0 _ rfl
    have n1:w1.cell? ⟨b,off+k*6+1,none⟩=some (.string ⟨x.1.2.1.toArray⟩):=HC.out w1 (q1) 1 _ rfl
    have n2:w1.cell? ⟨b,off+k*6+2,none⟩=some (.string ⟨x.1.2.2.1.toArray⟩):=HC.out w1 (q1) 2 _ rfl
    have n3:w1.cell? ⟨b,off+k*6+3,none⟩=some (ndV x):=HC.out w1 (q1) 3 _ rfl
    have n4:w1.cell? ⟨b,off+k*6+4,none⟩=some (.string ⟨x.1.2.2.2.2.1.toArray⟩):=HC.out w1 (q1) 4 _ rfl
    have n5:w1.cell? ⟨b,off+k*6+5,none⟩=some (.int .i64 x.1.2.2.2.2.2):=HC.out w1 (q1) 5 _ rfl
    go_wp2_with fail;go_ret;exact⟨rfl,q⟩
   | false=>
    have hnn:=of_decide_eq_false hP2;obtain⟨M,hM⟩:∃M:Nat,x.1.2.2.2.2.2=M:=⟨(aW x.1).toNat,by show aW x.1=_;omega⟩;have hMt:(aW x.1).toNat=M:=(by show (x.1.2.2.2.2.2).toNat=M;omega)
    have hP6:decide (x.1.2.2.2.2.2<0)=false:=hP2
    have HBE2:=HBE.out;rw[hMt] at HBE2
    by_cases hML:M≤L
    rotate_left
    ·have hML2 : L < M := by omega
     have hg:decide ((L:Int)<x.1.2.2.2.2.2)=true:=decide_eq_true (by omega)
     have hg2:((L:Int)<x.1.2.2.2.2.2)=True:=eq_true (by omega)
     obtain rfl:-1=O:=by
      rw[ow (by rw[HML.out];omega)] at HBE2;rw[←HBE2]
      split <;> rfl
     have HM2:=h_ hM;clear hM HBE2 hMt;go_enter func237,ntmps237
     have n0:W.cell? ⟨b,off+k*6,none⟩=some (.int .u8 x.1.1):=HC.out W (HQ0.out) 0 _ rfl
     have n1:W.cell? ⟨b,off+k*6+1,none⟩=some (.string ⟨x.1.2.1.toArray⟩):=HC.out W (HQ0.out) 1 _ rfl
     have n2:W.cell? ⟨b,off+k*6+2,none⟩=some (.string ⟨x.1.2.2.1.toArray⟩):=HC.out W (HQ0.out) 2 _ rfl
     have n3:W.cell? ⟨b,off+k*6+3,none⟩=some (ndV x):=HC.out W (HQ0.out) 3 _ rfl
     have n4:W.cell? ⟨b,off+k*6+4,none⟩=some (.string ⟨x.1.2.2.2.2.1.toArray⟩):=HC.out W (HQ0.out) 4 _ rfl
     have n5:W.cell? ⟨b,off+k*6+5,none⟩=some (.int .i64 x.1.2.2.2.2.2):=HC.out W (HQ0.out) 5 _ rfl
     go_wp2_with fail;refine(CX.out W HQ0.out).mono ?_;rintro e w1 ⟨rfl,q⟩;clear n0 n1 n2 n3 n4 n5;have q1:=HQ0.out.trans (q.mono HQ0.out.size)
     have n0:w1.cell? ⟨b,off+k*6,none⟩=some (.int .u8 x.1.1):=HC.out w1 (q1) 0 _ rfl
     have n1:w1.cell? ⟨b,off+k*6+1,none⟩=some (.string ⟨x.1.2.1.toArray⟩):=HC.out w1 (q1) 1 _ rfl
     have n2:w1.cell? ⟨b,off+k*6+2,none⟩=some (.string ⟨x.1.2.2.1.toArray⟩):=HC.out w1 (q1) 2 _ rfl
     have n3:w1.cell? ⟨b,off+k*6+3,none⟩=some (ndV x):=HC.out w1 (q1) 3 _ rfl
     have n4:w1.cell? ⟨b,off+k*6+4,none⟩=some (.string ⟨x.1.2.2.2.2.1.toArray⟩):=HC.out w1 (q1) 4 _ rfl
     have n5:w1.cell? ⟨b,off+k*6+5,none⟩=some (.int .i64 x.1.2.2.2.2.2):=HC.out w1 (q1) 5 _ rfl
     go_wp2_with fail;go_ret;exact⟨rfl,q⟩
    ·have hg:decide ((L:Int)<x.1.2.2.2.2.2)=false:=decide_eq_false (by omega)
     have hg2:((L:Int)<x.1.2.2.2.2.2)=False:=eq_false (by omega)
     cases P3 with
     | false=>
      have hzM:=HMY.out rfl rfl
      have HZ:Hid (M=0):=h_ (by have h2:aW x.1=M:=hM;omega)
      rw[wz,Bool.or_false] at HBE2;clear hzM;obtain⟨fr,hfr⟩:=e_ (fy (T.map Prod.fst) (d-1));have HFR:=h_ hfr;rw[hfr] at HBE2;have HB:=h_ HBE2;have HM:=h_ hM;clear hfr HBE2 hM hMt;go_enter func237,ntmps237
      have n0:W.cell? ⟨b,off+k*6,none⟩=some (.int .u8 x.1.1):=HC.out W (HQ0.out) 0 _ rfl
      have n1:W.cell? ⟨b,off+k*6+1,none⟩=some (.string ⟨x.1.2.1.toArray⟩):=HC.out W (HQ0.out) 1 _ rfl
      have n2:W.cell? ⟨b,off+k*6+2,none⟩=some (.string ⟨x.1.2.2.1.toArray⟩):=HC.out W (HQ0.out) 2 _ rfl
      have n3:W.cell? ⟨b,off+k*6+3,none⟩=some (ndV x):=HC.out W (HQ0.out) 3 _ rfl
      have n4:W.cell? ⟨b,off+k*6+4,none⟩=some (.string ⟨x.1.2.2.2.2.1.toArray⟩):=HC.out W (HQ0.out) 4 _ rfl
      have n5:W.cell? ⟨b,off+k*6+5,none⟩=some (.int .i64 x.1.2.2.2.2.2):=HC.out W (HQ0.out) 5 _ rfl
      go_wp2_with fail;refine(CX.out W HQ0.out).mono ?_;rintro e w1 ⟨rfl,q⟩;clear n0 n1 n2 n3 n4 n5;have q1:=HQ0.out.trans (q.mono HQ0.out.size)
      have n0:w1.cell? ⟨b,off+k*6,none⟩=some (.int .u8 x.1.1):=HC.out w1 (q1) 0 _ rfl
      have n1:w1.cell? ⟨b,off+k*6+1,none⟩=some (.string ⟨x.1.2.1.toArray⟩):=HC.out w1 (q1) 1 _ rfl
      have n2:w1.cell? ⟨b,off+k*6+2,none⟩=some (.string ⟨x.1.2.2.1.toArray⟩):=HC.out w1 (q1) 2 _ rfl
      have n3:w1.cell? ⟨b,off+k*6+3,none⟩=some (ndV x):=HC.out w1 (q1) 3 _ rfl
      have n4:w1.cell? ⟨b,off+k*6+4,none⟩=some (.string ⟨x.1.2.2.2.2.1.toArray⟩):=HC.out w1 (q1) 4 _ rfl
      have n5:w1.cell? ⟨b,off+k*6+5,none⟩=some (.int .i64 x.1.2.2.2.2.2):=HC.out w1 (q1) 5 _ rfl
      go_wp2_with fail;clear n0 n1 n2 n3 n4 n5;go_loopw [7,8,9] (fun nx tx i wx=>∃(j z:Nat) (l:Int),nx=.int .i64 z∧tx=.bool (l==2)∧i=.int .i64 j∧j≤M∧z≤L∧bB fr (T.map Prod.fst) (M-j) z l=O∧Bl W wx) (fun _ _ i _=>M-(intOf i).toNat)
      case atStart=>exact⟨0,k+1,1,by go_num,rfl,rfl,wt _,by omega,HB.out,q⟩
      case round=>
       clear q q1;obtain⟨j,z,l,rfl,rfl,rfl,hj,hz,hrel,q⟩:=hrel;have q1:=HQ0.out.trans (q.mono HQ0.out.size)
       have n0:wr.cell? ⟨b,off+k*6,none⟩=some (.int .u8 x.1.1):=HC.out wr (q1) 0 _ rfl
       have n1:wr.cell? ⟨b,off+k*6+1,none⟩=some (.string ⟨x.1.2.1.toArray⟩):=HC.out wr (q1) 1 _ rfl
       have n2:wr.cell? ⟨b,off+k*6+2,none⟩=some (.string ⟨x.1.2.2.1.toArray⟩):=HC.out wr (q1) 2 _ rfl
       have n3:wr.cell? ⟨b,off+k*6+3,none⟩=some (ndV x):=HC.out wr (q1) 3 _ rfl
       have n4:wr.cell? ⟨b,off+k*6+4,none⟩=some (.string ⟨x.1.2.2.2.2.1.toArray⟩):=HC.out wr (q1) 4 _ rfl
       have n5:wr.cell? ⟨b,off+k*6+5,none⟩=some (.int .i64 x.1.2.2.2.2.2):=HC.out wr (q1) 5 _ rfl
       by_cases hlt:j<M
       ·have:=HZ.out
        omega
       ·obtain rfl : j = M := by omega
        rw[wD] at hrel;obtain rfl:(z:Int)=O:=hrel;have hjm:¬ (j:Int)<x.1.2.2.2.2.2:=(by have:=HM.out;omega);go_wp2_with fail;go_ret;exact⟨rfl,q⟩
     | true=>
      cases P4 with
      | true=>
       obtain rfl:-1=O:=HBE2;have HM2:=h_ hM;clear hM hMt;go_enter func237,ntmps237
       have n0:W.cell? ⟨b,off+k*6,none⟩=some (.int .u8 x.1.1):=HC.out W (HQ0.out) 0 _ rfl
       have n1:W.cell? ⟨b,off+k*6+1,none⟩=some (.string ⟨x.1.2.1.toArray⟩):=HC.out W (HQ0.out) 1 _ rfl
       have n2:W.cell? ⟨b,off+k*6+2,none⟩=some (.string ⟨x.1.2.2.1.toArray⟩):=HC.out W (HQ0.out) 2 _ rfl
       have n3:W.cell? ⟨b,off+k*6+3,none⟩=some (ndV x):=HC.out W (HQ0.out) 3 _ rfl
       have n4:W.cell? ⟨b,off+k*6+4,none⟩=some (.string ⟨x.1.2.2.2.2.1.toArray⟩):=HC.out W (HQ0.out) 4 _ rfl
       have n5:W.cell? ⟨b,off+k*6+5,none⟩=some (.int .i64 x.1.2.2.2.2.2):=HC.out W (HQ0.out) 5 _ rfl
       go_wp2_with fail;refine(CX.out W HQ0.out).mono ?_;rintro e w1 ⟨rfl,q⟩;clear n0 n1 n2 n3 n4 n5;have q1:=HQ0.out.trans (q.mono HQ0.out.size)
       have n0:w1.cell? ⟨b,off+k*6,none⟩=some (.int .u8 x.1.1):=HC.out w1 (q1) 0 _ rfl
       have n1:w1.cell? ⟨b,off+k*6+1,none⟩=some (.string ⟨x.1.2.1.toArray⟩):=HC.out w1 (q1) 1 _ rfl
       have n2:w1.cell? ⟨b,off+k*6+2,none⟩=some (.string ⟨x.1.2.2.1.toArray⟩):=HC.out w1 (q1) 2 _ rfl
       have n3:w1.cell? ⟨b,off+k*6+3,none⟩=some (ndV x):=HC.out w1 (q1) 3 _ rfl
       have n4:w1.cell? ⟨b,off+k*6+4,none⟩=some (.string ⟨x.1.2.2.2.2.1.toArray⟩):=HC.out w1 (q1) 4 _ rfl
       have n5:w1.cell? ⟨b,off+k*6+5,none⟩=some (.int .i64 x.1.2.2.2.2.2):=HC.out w1 (q1) 5 _ rfl
       go_wp2_with fail;go_ret;exact⟨rfl,q⟩
      | false=>
       have hd0:0<d:=by
        rcases Nat.eq_zero_or_pos d with h | h
        ·exfalso;subst h;have:=of_decide_eq_false hP5;omega
        ·exact h
       obtain⟨fr,hfr⟩:=e_ (fy (T.map Prod.fst) (d-1));have HFR:=h_ hfr;rw[hfr] at HBE2;have HB:=h_ HBE2;have HM:=h_ hM;clear hfr HBE2 hM hMt;go_enter func237,ntmps237
       have n0:W.cell? ⟨b,off+k*6,none⟩=some (.int .u8 x.1.1):=HC.out W (HQ0.out) 0 _ rfl
       have n1:W.cell? ⟨b,off+k*6+1,none⟩=some (.string ⟨x.1.2.1.toArray⟩):=HC.out W (HQ0.out) 1 _ rfl
       have n2:W.cell? ⟨b,off+k*6+2,none⟩=some (.string ⟨x.1.2.2.1.toArray⟩):=HC.out W (HQ0.out) 2 _ rfl
       have n3:W.cell? ⟨b,off+k*6+3,none⟩=some (ndV x):=HC.out W (HQ0.out) 3 _ rfl
       have n4:W.cell? ⟨b,off+k*6+4,none⟩=some (.string ⟨x.1.2.2.2.2.1.toArray⟩):=HC.out W (HQ0.out) 4 _ rfl
       have n5:W.cell? ⟨b,off+k*6+5,none⟩=some (.int .i64 x.1.2.2.2.2.2):=HC.out W (HQ0.out) 5 _ rfl
       go_wp2_with fail;refine(CX.out W HQ0.out).mono ?_;rintro e w1 ⟨rfl,q⟩;clear n0 n1 n2 n3 n4 n5;have q1:=HQ0.out.trans (q.mono HQ0.out.size)
       have n0:w1.cell? ⟨b,off+k*6,none⟩=some (.int .u8 x.1.1):=HC.out w1 (q1) 0 _ rfl
       have n1:w1.cell? ⟨b,off+k*6+1,none⟩=some (.string ⟨x.1.2.1.toArray⟩):=HC.out w1 (q1) 1 _ rfl
       have n2:w1.cell? ⟨b,off+k*6+2,none⟩=some (.string ⟨x.1.2.2.1.toArray⟩):=HC.out w1 (q1) 2 _ rfl
       have n3:w1.cell? ⟨b,off+k*6+3,none⟩=some (ndV x):=HC.out w1 (q1) 3 _ rfl
       have n4:w1.cell? ⟨b,off+k*6+4,none⟩=some (.string ⟨x.1.2.2.2.2.1.toArray⟩):=HC.out w1 (q1) 4 _ rfl
       have n5:w1.cell? ⟨b,off+k*6+5,none⟩=some (.int .i64 x.1.2.2.2.2.2):=HC.out w1 (q1) 5 _ rfl
       go_wp2_with fail;clear n0 n1 n2 n3 n4 n5;go_loopw [7,8,9] (fun nx tx i wx=>∃(j z:Nat) (l:Int),nx=.int .i64 z∧tx=.bool (l==2)∧i=.int .i64 j∧j≤M∧z≤L∧bB fr (T.map Prod.fst) (M-j) z l=O∧Bl W wx) (fun _ _ i _=>M-(intOf i).toNat)
       case atStart=>exact⟨0,k+1,1,by go_num,rfl,rfl,wt _,by omega,HB.out,q⟩
       case round=>
        clear q q1;obtain⟨j,z,l,rfl,rfl,rfl,hj,hz,hrel,q⟩:=hrel;have q1:=HQ0.out.trans (q.mono HQ0.out.size)
        have n0:wr.cell? ⟨b,off+k*6,none⟩=some (.int .u8 x.1.1):=HC.out wr (q1) 0 _ rfl
        have n1:wr.cell? ⟨b,off+k*6+1,none⟩=some (.string ⟨x.1.2.1.toArray⟩):=HC.out wr (q1) 1 _ rfl
        have n2:wr.cell? ⟨b,off+k*6+2,none⟩=some (.string ⟨x.1.2.2.1.toArray⟩):=HC.out wr (q1) 2 _ rfl
        have n3:wr.cell? ⟨b,off+k*6+3,none⟩=some (ndV x):=HC.out wr (q1) 3 _ rfl
        have n4:wr.cell? ⟨b,off+k*6+4,none⟩=some (.string ⟨x.1.2.2.2.2.1.toArray⟩):=HC.out wr (q1) 4 _ rfl
        have n5:wr.cell? ⟨b,off+k*6+5,none⟩=some (.int .i64 x.1.2.2.2.2.2):=HC.out wr (q1) 5 _ rfl
        by_cases hlt:j<M
        ·have hjm : (j : Int) < x.1.2.2.2.2.2 := by have := HM.out; omega
         obtain⟨m,hm⟩:∃m,M-j=m+1:=⟨M-j-1,by omega⟩;rw[hm] at hrel;have e1:((lv+1:Nat):Int)=(lv:Int)+1:=(by omega);have RC:=REC.out (d-1) (by omega) z (lv+1) wr hz (by omega) q1;rw[e1,HFR.out] at RC
         by_cases hzl:z<L
         ·have hzM : z < T.length := by rw [HL.out]; exact hzl
          obtain⟨x2,hx2⟩:=e_ (T[z]);have hkx2:T[z]?=some x2:=(by rw[wq hzM,hx2]);obtain⟨b2,off2,cp2,hv2,-,hc2⟩:=HV.out.cells hkx2;rw[HL.out] at hv2;simp only[ws,true_and,Option.some.injEq,Addr.mk.injEq,and_true] at hv2;obtain⟨⟨rfl,rfl⟩,rfl⟩:=hv2;have HC2:=h_ hc2;rw[lW (n:=x2.1) (by rw[wC,hkx2];rfl)] at hrel;have hrg:=bE (T.map Prod.fst) (d-1) z;rw[HML.out,HFR.out] at hrg;obtain⟨C1,hC1⟩:=e_ ((l==2))
          have hl2:C1=true→l=2:=fun h=>by rw[h,beq_iff_eq] at hC1;exact hC1
          obtain⟨C2,hC2⟩:=e_ ((x2.1.1==2));rw[hC1] at hrel ⊢;obtain⟨fz,hfz⟩:=e_ (fr z);rw[hfz] at hrel hrg RC;have RC:=h_ RC;have HR:=h_ hrel;have HL2:=h_ hl2;have HRG:=h_ hrg;have HMJ:=h_ hm;clear hc2 hkx2 hx2 hzM hrel hl2 hrg hfz hC1 hm e1
          by_cases hneg:fz<0
          ·obtain rfl : fz = -1 := by have := HRG.out; omega
           obtain rfl:-1=O:=by
            have h:=HR.out;rw[jx] at h;rw[←h]
            split <;> rfl
           go_wp2_with fail;refine RC.out.mono ?_;rintro e w2 ⟨rfl,hb⟩;clear n0 n1 n2 n3 n4 n5;have q2:=q.trans (hb.mono q.size);have q3:=q1.trans (hb.mono q1.size);clear q q1 hb;have q:=q2;have q1:=q3;clear q2 q3
           have n0:w2.cell? ⟨b,off+k*6,none⟩=some (.int .u8 x.1.1):=HC.out w2 (q1) 0 _ rfl
           have n1:w2.cell? ⟨b,off+k*6+1,none⟩=some (.string ⟨x.1.2.1.toArray⟩):=HC.out w2 (q1) 1 _ rfl
           have n2:w2.cell? ⟨b,off+k*6+2,none⟩=some (.string ⟨x.1.2.2.1.toArray⟩):=HC.out w2 (q1) 2 _ rfl
           have n3:w2.cell? ⟨b,off+k*6+3,none⟩=some (ndV x):=HC.out w2 (q1) 3 _ rfl
           have n4:w2.cell? ⟨b,off+k*6+4,none⟩=some (.string ⟨x.1.2.2.2.2.1.toArray⟩):=HC.out w2 (q1) 4 _ rfl
           have n5:w2.cell? ⟨b,off+k*6+5,none⟩=some (.int .i64 x.1.2.2.2.2.2):=HC.out w2 (q1) 5 _ rfl
           have m0:w2.cell? ⟨b,off+z*6,none⟩=some (.int .u8 x2.1.1):=HC2.out w2 (q1) 0 _ rfl
           have m1:w2.cell? ⟨b,off+z*6+1,none⟩=some (.string ⟨x2.1.2.1.toArray⟩):=HC2.out w2 (q1) 1 _ rfl
           have m2:w2.cell? ⟨b,off+z*6+2,none⟩=some (.string ⟨x2.1.2.2.1.toArray⟩):=HC2.out w2 (q1) 2 _ rfl
           have m3:w2.cell? ⟨b,off+z*6+3,none⟩=some (ndV x2):=HC2.out w2 (q1) 3 _ rfl
           have m4:w2.cell? ⟨b,off+z*6+4,none⟩=some (.string ⟨x2.1.2.2.2.2.1.toArray⟩):=HC2.out w2 (q1) 4 _ rfl
           have m5:w2.cell? ⟨b,off+z*6+5,none⟩=some (.int .i64 x2.1.2.2.2.2.2):=HC2.out w2 (q1) 5 _ rfl
           go_wp2_with fail;go_ret;exact⟨rfl,q⟩
          ·obtain⟨y,rfl⟩:∃y:Nat,fz=y:=⟨fz.toNat,by omega⟩
           have hny:¬ ((y:Int)<0):=hneg;clear hneg
           cases C1 with
           | false=>
            have HR2:Hid (bB fr (T.map Prod.fst) m y x2.1.1=O):=h_ (by have h:=HR.out;rwa [wz,if_neg (by decide)] at h)
            go_wp2_with fail;refine RC.out.mono ?_;rintro e w2 ⟨rfl,hb⟩;clear n0 n1 n2 n3 n4 n5;have q2:=q.trans (hb.mono q.size);have q3:=q1.trans (hb.mono q1.size);clear q q1 hb;have q:=q2;have q1:=q3;clear q2 q3
            have n0:w2.cell? ⟨b,off+k*6,none⟩=some (.int .u8 x.1.1):=HC.out w2 (q1) 0 _ rfl
            have n1:w2.cell? ⟨b,off+k*6+1,none⟩=some (.string ⟨x.1.2.1.toArray⟩):=HC.out w2 (q1) 1 _ rfl
            have n2:w2.cell? ⟨b,off+k*6+2,none⟩=some (.string ⟨x.1.2.2.1.toArray⟩):=HC.out w2 (q1) 2 _ rfl
            have n3:w2.cell? ⟨b,off+k*6+3,none⟩=some (ndV x):=HC.out w2 (q1) 3 _ rfl
            have n4:w2.cell? ⟨b,off+k*6+4,none⟩=some (.string ⟨x.1.2.2.2.2.1.toArray⟩):=HC.out w2 (q1) 4 _ rfl
            have n5:w2.cell? ⟨b,off+k*6+5,none⟩=some (.int .i64 x.1.2.2.2.2.2):=HC.out w2 (q1) 5 _ rfl
            have m0:w2.cell? ⟨b,off+z*6,none⟩=some (.int .u8 x2.1.1):=HC2.out w2 (q1) 0 _ rfl
            have m1:w2.cell? ⟨b,off+z*6+1,none⟩=some (.string ⟨x2.1.2.1.toArray⟩):=HC2.out w2 (q1) 1 _ rfl
            have m2:w2.cell? ⟨b,off+z*6+2,none⟩=some (.string ⟨x2.1.2.2.1.toArray⟩):=HC2.out w2 (q1) 2 _ rfl
            have m3:w2.cell? ⟨b,off+z*6+3,none⟩=some (ndV x2):=HC2.out w2 (q1) 3 _ rfl
            have m4:w2.cell? ⟨b,off+z*6+4,none⟩=some (.string ⟨x2.1.2.2.2.2.1.toArray⟩):=HC2.out w2 (q1) 4 _ rfl
            have m5:w2.cell? ⟨b,off+z*6+5,none⟩=some (.int .i64 x2.1.2.2.2.2.2):=HC2.out w2 (q1) 5 _ rfl
            go_wp2_with fail;clear n0 n1 n2 n3 n4 n5 m0 m1 m2 m3 m4 m5;go_roundw
            case rel=>exact⟨j+1,y,x2.1.1,rfl,by first | (rw[hC2]) | rfl,by go_num,by omega,by have:=HRG.out;omega,by rw[show M-(j+1)=m by have:=HMJ.out;omega];exact HR2.out,q⟩
            case measure=>simp[intOf];omega
           | true=>
            cases C2 with
            | true=>
             obtain rfl:-1=O:=by
              have h:=HR.out;have hl:=HL2.out rfl;rw[hl,hC2] at h;exact h
             go_wp2_with fail;refine RC.out.mono ?_;rintro e w2 ⟨rfl,hb⟩;clear n0 n1 n2 n3 n4 n5;have q2:=q.trans (hb.mono q.size);have q3:=q1.trans (hb.mono q1.size);clear q q1 hb;have q:=q2;have q1:=q3;clear q2 q3
             have n0:w2.cell? ⟨b,off+k*6,none⟩=some (.int .u8 x.1.1):=HC.out w2 (q1) 0 _ rfl
             have n1:w2.cell? ⟨b,off+k*6+1,none⟩=some (.string ⟨x.1.2.1.toArray⟩):=HC.out w2 (q1) 1 _ rfl
             have n2:w2.cell? ⟨b,off+k*6+2,none⟩=some (.string ⟨x.1.2.2.1.toArray⟩):=HC.out w2 (q1) 2 _ rfl
             have n3:w2.cell? ⟨b,off+k*6+3,none⟩=some (ndV x):=HC.out w2 (q1) 3 _ rfl
             have n4:w2.cell? ⟨b,off+k*6+4,none⟩=some (.string ⟨x.1.2.2.2.2.1.toArray⟩):=HC.out w2 (q1) 4 _ rfl
             have n5:w2.cell? ⟨b,off+k*6+5,none⟩=some (.int .i64 x.1.2.2.2.2.2):=HC.out w2 (q1) 5 _ rfl
             have m0:w2.cell? ⟨b,off+z*6,none⟩=some (.int .u8 x2.1.1):=HC2.out w2 (q1) 0 _ rfl
             have m1:w2.cell? ⟨b,off+z*6+1,none⟩=some (.string ⟨x2.1.2.1.toArray⟩):=HC2.out w2 (q1) 1 _ rfl
             have m2:w2.cell? ⟨b,off+z*6+2,none⟩=some (.string ⟨x2.1.2.2.1.toArray⟩):=HC2.out w2 (q1) 2 _ rfl
             have m3:w2.cell? ⟨b,off+z*6+3,none⟩=some (ndV x2):=HC2.out w2 (q1) 3 _ rfl
             have m4:w2.cell? ⟨b,off+z*6+4,none⟩=some (.string ⟨x2.1.2.2.2.2.1.toArray⟩):=HC2.out w2 (q1) 4 _ rfl
             have m5:w2.cell? ⟨b,off+z*6+5,none⟩=some (.int .i64 x2.1.2.2.2.2.2):=HC2.out w2 (q1) 5 _ rfl
             go_wp2_with fail;go_ret;exact⟨rfl,q⟩
            | false=>
             have HR2:Hid (bB fr (T.map Prod.fst) m y x2.1.1=O):=h_ (by
              have h:=HR.out;have hl:=HL2.out rfl;rw[hl,hC2] at h;exact h)
             go_wp2_with fail;refine RC.out.mono ?_;rintro e w2 ⟨rfl,hb⟩;clear n0 n1 n2 n3 n4 n5;have q2:=q.trans (hb.mono q.size);have q3:=q1.trans (hb.mono q1.size);clear q q1 hb;have q:=q2;have q1:=q3;clear q2 q3
             have n0:w2.cell? ⟨b,off+k*6,none⟩=some (.int .u8 x.1.1):=HC.out w2 (q1) 0 _ rfl
             have n1:w2.cell? ⟨b,off+k*6+1,none⟩=some (.string ⟨x.1.2.1.toArray⟩):=HC.out w2 (q1) 1 _ rfl
             have n2:w2.cell? ⟨b,off+k*6+2,none⟩=some (.string ⟨x.1.2.2.1.toArray⟩):=HC.out w2 (q1) 2 _ rfl
             have n3:w2.cell? ⟨b,off+k*6+3,none⟩=some (ndV x):=HC.out w2 (q1) 3 _ rfl
             have n4:w2.cell? ⟨b,off+k*6+4,none⟩=some (.string ⟨x.1.2.2.2.2.1.toArray⟩):=HC.out w2 (q1) 4 _ rfl
             have n5:w2.cell? ⟨b,off+k*6+5,none⟩=some (.int .i64 x.1.2.2.2.2.2):=HC.out w2 (q1) 5 _ rfl
             have m0:w2.cell? ⟨b,off+z*6,none⟩=some (.int .u8 x2.1.1):=HC2.out w2 (q1) 0 _ rfl
             have m1:w2.cell? ⟨b,off+z*6+1,none⟩=some (.string ⟨x2.1.2.1.toArray⟩):=HC2.out w2 (q1) 1 _ rfl
             have m2:w2.cell? ⟨b,off+z*6+2,none⟩=some (.string ⟨x2.1.2.2.1.toArray⟩):=HC2.out w2 (q1) 2 _ rfl
             have m3:w2.cell? ⟨b,off+z*6+3,none⟩=some (ndV x2):=HC2.out w2 (q1) 3 _ rfl
             have m4:w2.cell? ⟨b,off+z*6+4,none⟩=some (.string ⟨x2.1.2.2.2.2.1.toArray⟩):=HC2.out w2 (q1) 4 _ rfl
             have m5:w2.cell? ⟨b,off+z*6+5,none⟩=some (.int .i64 x2.1.2.2.2.2.2):=HC2.out w2 (q1) 5 _ rfl
             go_wp2_with fail;clear n0 n1 n2 n3 n4 n5 m0 m1 m2 m3 m4 m5;go_roundw
             case rel=>exact⟨j+1,y,x2.1.1,rfl,by first | (rw[hC2]) | rfl,by go_num,by omega,by have:=HRG.out;omega,by rw[show M-(j+1)=m by have:=HMJ.out;omega];exact HR2.out,q⟩
             case measure=>simp[intOf];omega
         ·obtain rfl : z = L := by omega
          rw[fx (by rw[HML.out];exact ww _)] at hrel;subst hrel;have hfo:fr (z:Int)=-1:=(by rw[←HFR.out];exact iA (by rw[HML.out];exact ww _));rw[hfo] at RC;have RC:=h_ RC;clear hfo hm;go_wp2_with fail;refine RC.out.mono ?_;rintro e w2 ⟨rfl,hb⟩;clear n0 n1 n2 n3 n4 n5;have q2:=q.trans (hb.mono q.size);go_wp2_with fail;go_ret;exact⟨rfl,q2⟩
        ·obtain rfl : j = M := by omega
         rw[wD] at hrel;obtain rfl:(z:Int)=O:=hrel;have hjm:¬ (j:Int)<x.1.2.2.2.2.2:=(by have:=HM.out;omega);go_wp2_with fail;go_ret;exact⟨rfl,q⟩
 ·obtain rfl : k = L := by omega
  rw[iA (by rw[HML.out];exact ww _)] at hO;subst hO
  have wk:(k:Int)≤(k:Int):=by omega
  go_enter func237,ntmps237;go_wp2_with fail;go_ret;exact⟨rfl,bQ _⟩
theorem me (T:List NdI) (va:Option Addr) (L vc:Nat) (w0:World) (hv:IsL ndY (.slice va L vc) T w0) (hL:T.length=L) (hL5:L≤100000) (hf:∀x∈T,NdFit x.1):∀d,d≤12→vK T va L vc w0 d:=by
 intro d
 induction d with
 | zero=>exact fun h=>es T va L vc 0 w0 hv hL hL5 h hf fun d' hd'=>by omega
 | succ d ih=>
  exact fun h=>es T va L vc (d+1) w0 hv hL hL5 h hf fun d' hd'=>by
   obtain rfl:d'=d:=by omega
   exact ih (by omega)
theorem sM (T:TrI) (w:World) (hs:trY.sub T w) (hf:jI (trD T)):Calls prog 202 #[trV T] w (Ret w (.bool (dH (trD T)))):=by
 obtain⟨M,⟨va,vc⟩⟩:=T;have hv:IsL ndY (.slice va M.length vc) M w:=hs
 have hfit:∀x∈M,NdFit x.1:=fun x hx=>hf.2 x.1 (wE hx)
 have hz:M.length≤1000:=by have:=hf.1;rwa [wu] at this
 have CB:=me M va M.length vc w hv rfl (by omega) hfit 12 (ww _) 0 1 w (wt _) rfl (bQ _)
 show Calls prog 202 #[.slice va M.length vc] w (Ret w (.bool (dH (M.map Prod.fst))))
 obtain⟨O,hO⟩:=e_ (dH (M.map Prod.fst));rw[hO];unfold dH at hO
 have hml:(M.map Prod.fst).length=M.length:=wu _
 rw[hml] at hO;obtain⟨L,hL⟩:=e_ M.length;rw[hL] at hv hz CB hO hml ⊢;obtain⟨Z,hZ⟩:=e_ (fy (M.map Prod.fst) 12 ((0:Nat):Int));rw[hZ] at CB;rw[show fy (M.map Prod.fst) 12 0=Z from hZ] at hO;have CB:=h_ CB
 by_cases h0:L=0
 ·subst h0
  have e:M=[]:=List.eq_nil_of_length_eq_zero hL
  rw[e] at hO;obtain rfl:false=O:=hO;clear e hL hv hfit CB hml hZ hs hf;go_enter func202,ntmps202;go_wp2_with fail;go_ret;exact⟨rfl,bQ _⟩
 ·have g0 : (0 : Int) < (L : Int) := by omega
  have hk0:0<M.length:=by omega
  obtain⟨x,hx⟩:=e_ (M[0])
  have hkx:M[0]?=some x:=by rw[wq hk0,hx]
  obtain⟨b,off,cp,hfm,-,hc⟩:=hv.cells hkx;rw[hL] at hfm;simp only[ws,true_and] at hfm;obtain⟨rfl,rfl⟩:=hfm
  have hk:nj (M.map Prod.fst)=x.1.1:=by unfold nj;rw[List.head?_map,List.head?_eq_getElem?,hkx];rfl
  have hie:(M.map Prod.fst).isEmpty=false:=by cases hT:M.map Prod.fst with | nil=>rw[hT] at hml;simp at hml;omega | cons _ _=>rfl
  rw[hk,hie,wF,wy] at hO
  have n0:w.cell? ⟨b,off,none⟩=some (.int .u8 x.1.1):=by
   have:=hc w (bQ _) 0 _ rfl
   simpa using this
  obtain⟨K,hK⟩:=e_ ((x.1.1==1));rw[hK] at hO
  by_cases h5:L≤512
  ·have g5 : (L : Int) ≤ 512 := by omega
   rw[decide_eq_true h5,wy] at hO
   cases K with
   | false=>
    obtain rfl:false=O:=hO;clear hc hkx hx hk hie hk0 hv hL hfit CB hml hZ hs hf;go_enter func202,ntmps202;go_wp2_with fail;go_ret;exact⟨rfl,bQ _⟩
   | true=>
    rw[wy] at hO;have HO:=h_ hO;clear hc hkx hx hk hie hk0 hv hL hfit hml hZ hs hf hO;go_enter func202,ntmps202;go_wp2_with fail;refine CB.out.mono ?_;rintro e w1 ⟨rfl,hb⟩;have hq:=HO.out;clear n0;go_wp2_with fail;go_ret;exact⟨by first | rfl | exact bY hq,hb⟩
  ·have g5 : ¬ (L : Int) ≤ 512 := by omega
   rw[decide_eq_false h5,wz] at hO;subst hO;clear hc hkx hx hk hie hk0 hv hL hfit CB hml hZ hs hf;go_enter func202,ntmps202;go_wp2_with fail;go_ret;exact⟨rfl,bQ _⟩

theorem kk {α:Type} {q:α→Bool} {l:List α} {k:Nat} {x:α} (hx:l[k]?=some x) (h:q x=true):l.any q=true:=List.any_eq_true.2 ⟨x,List.mem_of_getElem? hx,h⟩
theorem sF (T:TrI) (w:World) (hs:trY.sub T w) (hf:jI (trD T)):Calls prog 160 #[trV T] w (Ret w (.bool (aA (trD T)))):=by
 have CT:=fun (W:World) (hb:Bl w W)=>sM T W (trY.subRet _ _ _ hs hb) hf
 obtain⟨M,⟨va,vc⟩⟩:=T;have hv:IsL ndY (.slice va M.length vc) M w:=hs
 have hfit:∀x∈M,NdFit x.1:=fun x hx=>hf.2 x.1 (wE hx)
 have hz:M.length≤1000:=by have:=hf.1;rwa [wu] at this
 have CT:∀W,Bl w W→Calls prog 202 #[.slice va M.length vc] W (Ret W (.bool (dH (M.map Prod.fst)))):=CT
 show Calls prog 160 #[.slice va M.length vc] w (Ret w (.bool (aA (M.map Prod.fst))))
 obtain⟨O,hO⟩:=e_ (aA (M.map Prod.fst));rw[hO];obtain⟨Z,hZ⟩:=e_ (dH (M.map Prod.fst));unfold aA at hO;rw[hZ] at hO CT;rw[List.any_map,show (cH ∘ Prod.fst)=(fun x:NdI=>cH x.1) from rfl] at hO
 have hbad:(M.any fun x:NdI=>cH x.1)=true→O=false:=fun h=>by rw[←hO,h];rfl
 have hend:(M.any fun x:NdI=>cH x.1)=false→O=Z:=fun h=>by rw[←hO,h,wF,wy]
 obtain⟨L,hL⟩:=e_ M.length;rw[hL] at hv hz CT ⊢;have HV:=h_ hv;have HL:=h_ hL;have HF:=h_ hfit;have HBAD:=h_ hbad;have HEND:=h_ hend;have CT:=h_ CT;have bs:=Sx.start w;clear hv hL hO hf hfit hs hZ hbad hend;go_enter func160,ntmps160;go_wp2_with fail;go_loopw [3] (fun i wx=>∃k:Nat,k≤L∧i=.int .i64 k∧((M.take k).any fun x:NdI=>cH x.1)=false∧Sx w [] wx) (fun i _=>L-(intOf i).toNat)
 case atStart=>exact⟨0,wt _,rfl,rfl,bs⟩
 case round=>
  clear bs;obtain⟨k,hk,rfl,hno,bs⟩:=hrel;have q:=bs.q
  by_cases hlt:k<L
  ·have hkM : k < M.length := by rw [HL.out]; exact hlt
   have wl:(k:Int)<(L:Int):=(by omega);obtain⟨x,hx⟩:=e_ (M[k]);have hkx:M[k]?=some x:=(by rw[wq hkM,hx]);have hxm:x∈M:=(by rw[←hx];exact wv hkM);have hsn:=ie (q:=fun x:NdI=>cH x.1) hkx;rw[hno,wA] at hsn
   have HODD:=h_ fun h=>HBAD.out (kk (q:=fun x:NdI=>cH x.1) hkx h)
   obtain⟨b,off,cp,hv,-,hc⟩:=HV.out.cells hkx;rw[HL.out] at hv;simp only[ws,true_and] at hv;obtain⟨rfl,rfl⟩:=hv;have hA:IsL atY (ndV x) (ndA x) w:=HV.out.2.2 x hxm;have hfx:=HF.out x hxm
   have CN:∀W:World,Calls prog 201 #[.string ⟨x.1.2.2.1.toArray⟩] W (Ret W (.bool (aE x.1.2.2.1))):=fun (W:World)=>dI ⟨x.1.2.2.1.toArray⟩ W (by have:=hfx.nm;show x.1.2.2.1.toArray.size≤_;simpa using this)
   have zA:=hfx.at'.1;have zA2:=hfx.at'.2;obtain⟨SP,hSP⟩:=e_ (ByteArray.mk x.1.2.1.toArray);obtain⟨NM,hNM⟩:=e_ (ByteArray.mk x.1.2.2.1.toArray);obtain⟨xa,hxa⟩:=e_ x.2.1;obtain⟨xc,hxc⟩:=e_ x.2.2;obtain⟨XA,hXA⟩:=e_ (ndA x);obtain⟨LA,hLA⟩:=e_ XA.length;obtain⟨n0,hn0⟩:=e_ x.1.1
   have HC:=h_ fun (w':World) (hb:Bl w w')=>show w'.cell? ⟨b,off+k*6,none⟩=some (.int .u8 n0)∧w'.cell? ⟨b,off+k*6+1,none⟩=some (.string SP)∧w'.cell? ⟨b,off+k*6+2,none⟩=some (.string NM)∧w'.cell? ⟨b,off+k*6+3,none⟩=some (.slice xa LA xc) from
    (by rw[←hn0,←hSP,←hNM,←hxa,←hLA,←hxc,←hXA];exact⟨hc w' hb 0 _ rfl,hc w' hb 1 _ rfl,hc w' hb 2 _ rfl,hc w' hb 3 _ rfl⟩)
   have hA2:IsL atY (.slice xa LA xc) XA w:=(by rw[←hxa,←hLA,←hxc,←hXA];exact hA);have zL:LA≤1000:=(by rw[←hLA,←hXA];exact zA)
   have zX:∀a∈XA,a.2.1.length≤10000:=fun a ha=>(zA2 a (by rw[←hXA] at ha;exact ha)).2.1
   have g1:(SP.toList==[104,116,116,112,58,47,47,119,119,119,46,119,51,46,111,114,103,47,88,77,76,47,49,57,57,56,47,110,97,109,101,115,112,97,99,101])=(x.1.2.1==vn):=(by rw[←hSP];exact cw _ _);have g2:(SP.toList==[104,116,116,112,58,47,47,119,119,119,46,119,51,46,111,114,103,47,50,48,48,48,47,120,109,108,110,115,47])=(x.1.2.1==dS):=(by rw[←hSP];exact cw _ _);have hod:cH x.1=((n0==1)&&!aE x.1.2.2.1||((x.1.2.1==vn||x.1.2.1==dS)||XA.any cM)):=(by rw[←hn0,←hXA];rfl);obtain⟨K,hK⟩:=e_ ((n0==1));obtain⟨A,hA1⟩:=e_ (aE x.1.2.2.1);obtain⟨G1,hG1⟩:=e_ ((x.1.2.1==vn));obtain⟨G2,hG2⟩:=e_ ((x.1.2.1==dS));rw[hK,hA1,hG1,hG2] at hod;rw[hG1] at g1;rw[hG2] at g2;rw[hNM,hA1] at CN;have CN:=h_ CN;have HOD:=h_ hod;have HSN:=h_ hsn;have HA:=h_ hA2;have HLA:=h_ hLA;have ZX:=h_ zX;clear hno hsn hc hkx hxm hx hkM hA hA2 hfx zA zA2 hSP hNM hxa hxc hXA hLA hn0 hod hA1 hG1 hG2 zX
   cases K with
   | false=>
    cases G1 with
    | true=>
     have HB:=h_ (HODD.out (by rw[HOD.out];simp));obtain⟨x0,x1,x2,x3⟩:=HC.out wr q;go_wp2_with fail;go_ret;exact⟨by rw[HB.out];first | done | rfl,q⟩
    | false=>
     cases G2 with
     | true=>
      have HB:=h_ (HODD.out (by rw[HOD.out];simp));obtain⟨x0,x1,x2,x3⟩:=HC.out wr q;go_wp2_with fail;go_ret;exact⟨by rw[HB.out];first | done | rfl,q⟩
     | false=>
      obtain⟨x0,x1,x2,x3⟩:=HC.out wr q;go_wp2_with fail;clear x0 x1 x2 x3
      have HOD2:Hid (cH x.1=XA.any cM):=h_ (by rw[HOD.out];simp)
      go_loopw [4] (fun i wx=>∃j:Nat,j≤LA∧i=.int .i64 j∧(XA.take j).any cM=false∧Sx w [] wx) (fun i _=>LA-(intOf i).toNat)
      case atStart=>exact⟨0,wt _,rfl,rfl,bs⟩
      case round=>
       clear bs q;obtain⟨j,hj,rfl,hno,bs⟩:=hrel;have q:=bs.q
       by_cases hlj:j<LA
       ·have wj : (j : Int) < (LA : Int) := by omega
        have hjM:j<XA.length:=(by rw[HLA.out];exact hlj);obtain⟨y,hy⟩:=e_ (XA[j]);have hjy:XA[j]?=some y:=(by rw[wq hjM,hy]);have hym:y∈XA:=(by rw[←hy];exact wv hjM);have hsn:=ie (q:=cM) hjy;rw[hno,wA] at hsn
        have HODY:=h_ fun h=>HODD.out (HOD2.out.trans (kk (q:=cM) hjy h))
        obtain⟨b2,off2,cp2,hv2,-,hc2⟩:=HA.out.cells hjy;rw[HLA.out] at hv2;simp only[ws,true_and] at hv2;obtain⟨rfl,rfl⟩:=hv2
        have CY:∀W:World,Calls prog 201 #[.string ⟨y.2.1.toArray⟩] W (Ret W (.bool (aE y.2.1))):=fun (W:World)=>dI ⟨y.2.1.toArray⟩ W (by have:=ZX.out y hym;show y.2.1.toArray.size≤_;simpa using this)
        obtain⟨A0,hA0⟩:=e_ (ByteArray.mk y.1.toArray);obtain⟨A1,hA1⟩:=e_ (ByteArray.mk y.2.1.toArray);obtain⟨A2,hA2⟩:=e_ (ByteArray.mk y.2.2.toArray);obtain⟨d0,d1,d2⟩:wr.cell? ⟨b2,off2+j*3,none⟩=some (.string A0)∧wr.cell? ⟨b2,off2+j*3+1,none⟩=some (.string A1)∧wr.cell? ⟨b2,off2+j*3+2,none⟩=some (.string A2):=(by rw[←hA0,←hA1,←hA2];exact⟨hc2 wr q 0 _ rfl,hc2 wr q 1 _ rfl,hc2 wr q 2 _ rfl⟩)
        have hod:cM y=(!aE y.2.1||((y.1.isEmpty&&y.2.1==[120,109,108,110,115])||y.1==dS)):=rfl
        obtain⟨P,hP⟩:=e_ (aE y.2.1);obtain⟨E,hE⟩:=e_ y.1.isEmpty;obtain⟨C,hC⟩:=e_ ((y.2.1==[120,109,108,110,115]));obtain⟨D,hD⟩:=e_ ((y.1==dS));rw[hP,hE,hC,hD] at hod;rw[hA1,hP] at CY;have hE2:A0.toList.isEmpty=E:=(by rw[←hA0,←hE];simp);have hC2:(A1.toList==[120,109,108,110,115])=C:=(by rw[←hA1,←hC];exact cw _ _);have hD2:(A0.toList==[104,116,116,112,58,47,47,119,119,119,46,119,51,46,111,114,103,47,50,48,48,48,47,120,109,108,110,115,47])=D:=(by rw[←hA0,←hD];exact cw _ _);have CY:=h_ CY;have HOY:=h_ hod;have HSY:=h_ hsn;have HE2:=h_ hE2;clear hno hsn hy hjy hym hjM hc2 hA0 hA1 hA2 hod hP hE hC hD hE2
        cases P with
        | false=>
         obtain⟨x0,x1,x2,x3⟩:=HC.out wr q;have d0:=(bs.lit (wr.heap.size) rfl [.string A0,.string A1,.string A2] 160);have c0_n00:=d0.b3 0;go_wp2_with fail;clear d0 c0_n00;clear x0 x1 x2 x3 d0 d1 d2;obtain⟨w61,hw61,y61,al,bs⟩:=bs.alloc (wr.heap.size) rfl [.string A0,.string A1,.string A2] 160;clear al;replace q:=bs.q;rw[hw61];refine(CY.out w61).mono ?_;rintro e w62 ⟨rfl,hb⟩;replace bs:=bs.ret hb;replace q:=bs.q;clear hb;have HB:=h_ (HODY.out (by rw[HOY.out];simp));have c_a0:=bs.b3 0;go_wp2_with fail;go_ret;exact⟨by rw[HB.out];first | done | rfl,q⟩
        | true=>
         cases E with
         | true=>
          obtain rfl:=bW HE2.out
          obtain rfl:D=false:=by rw[←hD2];simp
          clear hD2
          cases C with
          | true=>
           obtain⟨x0,x1,x2,x3⟩:=HC.out wr q;have d0:=(bs.lit (wr.heap.size) rfl [.string ⟨#[]⟩,.string A1,.string A2] 160);have c0_n00:=d0.b3 0;go_wp2_with fail;clear d0 c0_n00;clear x0 x1 x2 x3 d0 d1 d2;obtain⟨w61,hw61,y61,al,bs⟩:=bs.alloc (wr.heap.size) rfl [.string ⟨#[]⟩,.string A1,.string A2] 160;clear al;replace q:=bs.q;rw[hw61];refine(CY.out w61).mono ?_;rintro e w62 ⟨rfl,hb⟩;replace bs:=bs.ret hb;replace q:=bs.q;clear hb;have HB:=h_ (HODY.out (by rw[HOY.out];simp));have c_a0:=bs.b3 0;go_wp2_with fail;go_ret;exact⟨by rw[HB.out];first | done | rfl,q⟩
          | false=>
           obtain⟨x0,x1,x2,x3⟩:=HC.out wr q;have d0:=(bs.lit (wr.heap.size) rfl [.string ⟨#[]⟩,.string A1,.string A2] 160);have c0_n00:=d0.b3 0;go_wp2_with fail;clear d0 c0_n00;clear x0 x1 x2 x3 d0 d1 d2;obtain⟨w61,hw61,y61,al,bs⟩:=bs.alloc (wr.heap.size) rfl [.string ⟨#[]⟩,.string A1,.string A2] 160;clear al;replace q:=bs.q;rw[hw61];refine(CY.out w61).mono ?_;rintro e w62 ⟨rfl,hb⟩;replace bs:=bs.ret hb;replace q:=bs.q;clear hb
           have HN:Hid ((XA.take (j+1)).any cM=false):=h_ (by rw[HSY.out,HOY.out];simp)
           have c_a0:=bs.b3 0;go_wp2_with fail;clear c_a0;go_roundw
           case rel=>exact⟨j+1,by omega,by go_num,HN.out,bs.some 0⟩
           case measure=>simp[intOf];omega
         | false=>
          have p2:=bH HE2.out;have e2:=am (s:=A0) p2;have f2:=au (s:=A0) p2
          cases D with
          | true=>
           obtain⟨x0,x1,x2,x3⟩:=HC.out wr q;have d0:=(bs.lit (wr.heap.size) rfl [.string A0,.string A1,.string A2] 160);have c0_n00:=d0.b3 0;go_wp2_with fail;clear d0 c0_n00;clear x0 x1 x2 x3 d0 d1 d2;obtain⟨w61,hw61,y61,al,bs⟩:=bs.alloc (wr.heap.size) rfl [.string A0,.string A1,.string A2] 160;clear al;replace q:=bs.q;rw[hw61];refine(CY.out w61).mono ?_;rintro e w62 ⟨rfl,hb⟩;replace bs:=bs.ret hb;replace q:=bs.q;clear hb;have HB:=h_ (HODY.out (by rw[HOY.out];simp));have c_a0:=bs.b3 0;go_wp2_with fail;go_ret;exact⟨by rw[HB.out];first | done | rfl,q⟩
          | false=>
           obtain⟨x0,x1,x2,x3⟩:=HC.out wr q;have d0:=(bs.lit (wr.heap.size) rfl [.string A0,.string A1,.string A2] 160);have c0_n00:=d0.b3 0;go_wp2_with fail;clear d0 c0_n00;clear x0 x1 x2 x3 d0 d1 d2;obtain⟨w61,hw61,y61,al,bs⟩:=bs.alloc (wr.heap.size) rfl [.string A0,.string A1,.string A2] 160;clear al;replace q:=bs.q;rw[hw61];refine(CY.out w61).mono ?_;rintro e w62 ⟨rfl,hb⟩;replace bs:=bs.ret hb;replace q:=bs.q;clear hb
           have HN:Hid ((XA.take (j+1)).any cM=false):=h_ (by rw[HSY.out,HOY.out];simp)
           have c_a0:=bs.b3 0;go_wp2_with fail;clear c_a0;go_roundw
           case rel=>exact⟨j+1,by omega,by go_num,HN.out,bs.some 0⟩
           case measure=>simp[intOf];omega
       ·have wj : ¬ (j : Int) < (LA : Int) := by omega
        have HN:Hid (((M.take (k+1)).any fun x:NdI=>cH x.1)=false):=h_ (by rw[wB (by rw[HLA.out];omega)] at hno;rw[HSN.out,HOD2.out,hno])
        clear hno;obtain⟨x0,x1,x2,x3⟩:=HC.out wr q;go_wp2_with fail;clear x0 x1 x2 x3;go_roundw
        case rel=>exact⟨k+1,by omega,by go_num,HN.out,bs⟩
        case measure=>simp[intOf];omega
   | true=>
    obtain⟨x0,x1,x2,x3⟩:=HC.out wr q;go_wp2_with fail;refine(CN.out wr).mono ?_;rintro e w31 ⟨rfl,hb⟩;clear x0 x1 x2 x3;replace bs:=bs.ret hb;replace q:=bs.q;clear hb
    cases A with
    | false=>
     have HB:=h_ (HODD.out (by rw[HOD.out];simp));obtain⟨x0,x1,x2,x3⟩:=HC.out w31 q;go_wp2_with fail;go_ret;exact⟨by rw[HB.out];first | done | rfl,q⟩
    | true=>
     cases G1 with
     | true=>
      have HB:=h_ (HODD.out (by rw[HOD.out];simp));obtain⟨x0,x1,x2,x3⟩:=HC.out w31 q;go_wp2_with fail;go_ret;exact⟨by rw[HB.out];first | done | rfl,q⟩
     | false=>
      cases G2 with
      | true=>
       have HB:=h_ (HODD.out (by rw[HOD.out];simp));obtain⟨x0,x1,x2,x3⟩:=HC.out w31 q;go_wp2_with fail;go_ret;exact⟨by rw[HB.out];first | done | rfl,q⟩
      | false=>
       obtain⟨x0,x1,x2,x3⟩:=HC.out w31 q;go_wp2_with fail;clear x0 x1 x2 x3
       have HOD2:Hid (cH x.1=XA.any cM):=h_ (by rw[HOD.out];simp)
       go_loopw [4] (fun i wx=>∃j:Nat,j≤LA∧i=.int .i64 j∧(XA.take j).any cM=false∧Sx w [] wx) (fun i _=>LA-(intOf i).toNat)
       case atStart=>exact⟨0,wt _,rfl,rfl,bs⟩
       case round=>
        clear bs q;obtain⟨j,hj,rfl,hno,bs⟩:=hrel;have q:=bs.q
        by_cases hlj:j<LA
        ·have wj : (j : Int) < (LA : Int) := by omega
         have hjM:j<XA.length:=(by rw[HLA.out];exact hlj);obtain⟨y,hy⟩:=e_ (XA[j]);have hjy:XA[j]?=some y:=(by rw[wq hjM,hy]);have hym:y∈XA:=(by rw[←hy];exact wv hjM);have hsn:=ie (q:=cM) hjy;rw[hno,wA] at hsn
         have HODY:=h_ fun h=>HODD.out (HOD2.out.trans (kk (q:=cM) hjy h))
         obtain⟨b2,off2,cp2,hv2,-,hc2⟩:=HA.out.cells hjy;rw[HLA.out] at hv2;simp only[ws,true_and] at hv2;obtain⟨rfl,rfl⟩:=hv2
         have CY:∀W:World,Calls prog 201 #[.string ⟨y.2.1.toArray⟩] W (Ret W (.bool (aE y.2.1))):=fun (W:World)=>dI ⟨y.2.1.toArray⟩ W (by have:=ZX.out y hym;show y.2.1.toArray.size≤_;simpa using this)
         obtain⟨A0,hA0⟩:=e_ (ByteArray.mk y.1.toArray);obtain⟨A1,hA1⟩:=e_ (ByteArray.mk y.2.1.toArray);obtain⟨A2,hA2⟩:=e_ (ByteArray.mk y.2.2.toArray);obtain⟨d0,d1,d2⟩:wr.cell? ⟨b2,off2+j*3,none⟩=some (.string A0)∧wr.cell? ⟨b2,off2+j*3+1,none⟩=some (.string A1)∧wr.cell? ⟨b2,off2+j*3+2,none⟩=some (.string A2):=(by rw[←hA0,←hA1,←hA2];exact⟨hc2 wr q 0 _ rfl,hc2 wr q 1 _ rfl,hc2 wr q 2 _ rfl⟩)
         have hod:cM y=(!aE y.2.1||((y.1.isEmpty&&y.2.1==[120,109,108,110,115])||y.1==dS)):=rfl
         obtain⟨P,hP⟩:=e_ (aE y.2.1);obtain⟨E,hE⟩:=e_ y.1.isEmpty;obtain⟨C,hC⟩:=e_ ((y.2.1==[120,109,108,110,115]));obtain⟨D,hD⟩:=e_ ((y.1==dS));rw[hP,hE,hC,hD] at hod;rw[hA1,hP] at CY;have hE2:A0.toList.isEmpty=E:=(by rw[←hA0,←hE];simp);have hC2:(A1.toList==[120,109,108,110,115])=C:=(by rw[←hA1,←hC];exact cw _ _);have hD2:(A0.toList==[104,116,116,112,58,47,47,119,119,119,46,119,51,46,111,114,103,47,50,48,48,48,47,120,109,108,110,115,47])=D:=(by rw[←hA0,←hD];exact cw _ _);have CY:=h_ CY;have HOY:=h_ hod;have HSY:=h_ hsn;have HE2:=h_ hE2;clear hno hsn hy hjy hym hjM hc2 hA0 hA1 hA2 hod hP hE hC hD hE2
         cases P with
         | false=>
          obtain⟨x0,x1,x2,x3⟩:=HC.out wr q;have d0:=(bs.lit (wr.heap.size) rfl [.string A0,.string A1,.string A2] 160);have c0_n00:=d0.b3 0;go_wp2_with fail;clear d0 c0_n00;clear x0 x1 x2 x3 d0 d1 d2;obtain⟨w61,hw61,y61,al,bs⟩:=bs.alloc (wr.heap.size) rfl [.string A0,.string A1,.string A2] 160;clear al;replace q:=bs.q;rw[hw61];refine(CY.out w61).mono ?_;rintro e w62 ⟨rfl,hb⟩;replace bs:=bs.ret hb;replace q:=bs.q;clear hb;have HB:=h_ (HODY.out (by rw[HOY.out];simp));have c_a0:=bs.b3 0;go_wp2_with fail;go_ret;exact⟨by rw[HB.out];first | done | rfl,q⟩
         | true=>
          cases E with
          | true=>
           obtain rfl:=bW HE2.out
           obtain rfl:D=false:=by rw[←hD2];simp
           clear hD2
           cases C with
           | true=>
            obtain⟨x0,x1,x2,x3⟩:=HC.out wr q;have d0:=(bs.lit (wr.heap.size) rfl [.string ⟨#[]⟩,.string A1,.string A2] 160);have c0_n00:=d0.b3 0;go_wp2_with fail;clear d0 c0_n00;clear x0 x1 x2 x3 d0 d1 d2;obtain⟨w61,hw61,y61,al,bs⟩:=bs.alloc (wr.heap.size) rfl [.string ⟨#[]⟩,.string A1,.string A2] 160;clear al;replace q:=bs.q;rw[hw61];refine(CY.out w61).mono ?_;rintro e w62 ⟨rfl,hb⟩;replace bs:=bs.ret hb;replace q:=bs.q;clear hb;have HB:=h_ (HODY.out (by rw[HOY.out];simp));have c_a0:=bs.b3 0;go_wp2_with fail;go_ret;exact⟨by rw[HB.out];first | done | rfl,q⟩
           | false=>
            obtain⟨x0,x1,x2,x3⟩:=HC.out wr q;have d0:=(bs.lit (wr.heap.size) rfl [.string ⟨#[]⟩,.string A1,.string A2] 160);have c0_n00:=d0.b3 0;go_wp2_with fail;clear d0 c0_n00;clear x0 x1 x2 x3 d0 d1 d2;obtain⟨w61,hw61,y61,al,bs⟩:=bs.alloc (wr.heap.size) rfl [.string ⟨#[]⟩,.string A1,.string A2] 160;clear al;replace q:=bs.q;rw[hw61];refine(CY.out w61).mono ?_;rintro e w62 ⟨rfl,hb⟩;replace bs:=bs.ret hb;replace q:=bs.q;clear hb
            have HN:Hid ((XA.take (j+1)).any cM=false):=h_ (by rw[HSY.out,HOY.out];simp)
            have c_a0:=bs.b3 0;go_wp2_with fail;clear c_a0;go_roundw
            case rel=>exact⟨j+1,by omega,by go_num,HN.out,bs.some 0⟩
            case measure=>simp[intOf];omega
          | false=>
           have p2:=bH HE2.out;have e2:=am (s:=A0) p2;have f2:=au (s:=A0) p2
           cases D with
           | true=>
            obtain⟨x0,x1,x2,x3⟩:=HC.out wr q;have d0:=(bs.lit (wr.heap.size) rfl [.string A0,.string A1,.string A2] 160);have c0_n00:=d0.b3 0;go_wp2_with fail;clear d0 c0_n00;clear x0 x1 x2 x3 d0 d1 d2;obtain⟨w61,hw61,y61,al,bs⟩:=bs.alloc (wr.heap.size) rfl [.string A0,.string A1,.string A2] 160;clear al;replace q:=bs.q;rw[hw61];refine(CY.out w61).mono ?_;rintro e w62 ⟨rfl,hb⟩;replace bs:=bs.ret hb;replace q:=bs.q;clear hb;have HB:=h_ (HODY.out (by rw[HOY.out];simp));have c_a0:=bs.b3 0;go_wp2_with fail;go_ret;exact⟨by rw[HB.out];first | done | rfl,q⟩
           | false=>
            obtain⟨x0,x1,x2,x3⟩:=HC.out wr q;have d0:=(bs.lit (wr.heap.size) rfl [.string A0,.string A1,.string A2] 160);have c0_n00:=d0.b3 0;go_wp2_with fail;clear d0 c0_n00;clear x0 x1 x2 x3 d0 d1 d2;obtain⟨w61,hw61,y61,al,bs⟩:=bs.alloc (wr.heap.size) rfl [.string A0,.string A1,.string A2] 160;clear al;replace q:=bs.q;rw[hw61];refine(CY.out w61).mono ?_;rintro e w62 ⟨rfl,hb⟩;replace bs:=bs.ret hb;replace q:=bs.q;clear hb
            have HN:Hid ((XA.take (j+1)).any cM=false):=h_ (by rw[HSY.out,HOY.out];simp)
            have c_a0:=bs.b3 0;go_wp2_with fail;clear c_a0;go_roundw
            case rel=>exact⟨j+1,by omega,by go_num,HN.out,bs.some 0⟩
            case measure=>simp[intOf];omega
        ·have wj : ¬ (j : Int) < (LA : Int) := by omega
         have HN:Hid (((M.take (k+1)).any fun x:NdI=>cH x.1)=false):=h_ (by rw[wB (by rw[HLA.out];omega)] at hno;rw[HSN.out,HOD2.out,hno])
         clear hno;obtain⟨x0,x1,x2,x3⟩:=HC.out wr q;go_wp2_with fail;clear x0 x1 x2 x3;go_roundw
         case rel=>exact⟨k+1,by omega,by go_num,HN.out,bs⟩
         case measure=>simp[intOf];omega
  ·have wl : ¬ (k : Int) < (L : Int) := by omega
   have HN:=h_ (HEND.out (by rw[wB (by rw[HL.out];omega)] at hno;exact hno));clear hno;go_wp2_with fail;refine(CT.out wr q).mono ?_;rintro e w91 ⟨rfl,hb⟩;replace bs:=bs.ret hb;replace q:=bs.q;clear hb;go_wp2_with fail;go_ret;exact⟨by rw[HN.out];first | done | rfl,q⟩
end Go.Proofs.YtjgeiieiinmdnaaGreatDoor
