/- TrD, TrE, SpA: put together by mergetpl.py. -/
import Derived.Test.YtjgeiieiinmdnaaGreatDoorLm
open Go.Proofs.Tryz
open Bool renaming true_and→ww
open Go.Value renaming int→wv
open Go.Value.slice renaming injEq→wo
open Go.World renaming setCells→wD
open List renaming getElem?_eq_getElem→wh,replicate→wq,length_take→ws,length_map→wt,mem_of_getElem?→wy,getElem?_eq_none→wz,getElem?_map→wA,mem_map_of_mem→wF
open Nat renaming le_refl→wu,zero_le→wB,sub_self→wC,lt_of_lt_of_le→wE
namespace Go.Proofs.YtjgeiieiinmdnaaGreatDoor
set_option maxHeartbeats 8000000
set_option maxRecDepth 100000
open Go.RowKit Go.Lib

theorem og {f:Int→Int} {v:List Nd} {s:Bool} {a:Int} (h:a<0):dK f v s a=-1:=by
 unfold dK
 split
 ·rfl
 ·rw[decide_eq_true h];rfl
theorem rA {v:List Nd} {d:Nat} {a:Int} (h:a<0):gp v d a=-1:=by
 cases d <;> exact og h
theorem od {f:Int→Int} {v:List Nd} {s:Bool} {k:Nat} (h:v.length≤k):dK f v s k=-1:=by
 unfold dK;rw[show ((k:Int)).toNat=k by omega,wz h]
theorem iC {v:List Nd} {d k:Nat} (h:v.length≤k):gp v d k=-1:=by
 cases d <;> exact od h
theorem kq {f:Int→Int} {v:List Nd} {m:Nat} {y l:Int} (h:y<0):bA f v (m+1) y l=-1:=by
 unfold bA
 split
 ·rfl
 ·rw[decide_eq_true h];rfl
theorem gh {f:Int→Int} {v:List Nd} {m k:Nat} {l:Int} (h:v.length≤k):bA f v (m+1) k l=-1:=by
 unfold bA;rw[show ((k:Int)).toNat=k by omega,wz h]
theorem mt {f:Int→Int} {v:List Nd} {m k:Nat} {l:Int} {n:Nd} (h:v[k]?=some n):bA f v (m+1) k l=if (l==2&&n.1==l) then -1 else bA f v m (f k) n.1:=by
 have h0:decide ((k:Int)<0)=false:=decide_eq_false (by omega)
 rw[bA,show ((k:Int)).toNat=k by omega,h];simp only[h0,Bool.false_or]
theorem ic {n:Nd} (hm:dL n=true) (h1:(n.1==1)=false):aY n=0:=by
 unfold dL uY at hm;rw[h1] at hm
 cases h2:(n.1==2) with
 | false=>rw[h2] at hm;simp at hm
 | true=>rw[h2] at hm;simp at hm;exact hm.2.2.2.1
theorem kx (T:List NdI) (va:Option Addr) (L vc B1 E B3 B4 d:Nat) (w0:World) (hv:IsL ndY (.slice va L vc) T w0) (hL:T.length=L) (xW:L≤512) (hd:d≤12) (xA:∀x∈T,aY x.1≤9223372036854775807)
  (CM:∀x∈T,∀W,Bl w0 W→Calls prog 247 #[.agg #[.int .u8 x.1.1,.string ⟨x.1.2.1.toArray⟩,.string ⟨x.1.2.2.1.toArray⟩,ndV x,.string ⟨x.1.2.2.2.2.1.toArray⟩,.int .i64 x.1.2.2.2.2.2]] W (Ret W (.bool (dL x.1))))
  (xX:∀d',d'+1=d→sy T va L vc B1 E B3 B4 w0 d'):sy T va L vc B1 E B3 B4 w0 d:=by
 intro a W xs yN yO hx bs;obtain⟨O,hO⟩:=e_ (gp (T.map Prod.fst) d a);rw[hO];have q:=bs.q
 have xB:(T.map Prod.fst).length=L:=by rw[wt,hL]
 have HV:=h_ hv;have HL:=h_ hL;have xT:=h_ xB;have HM:=h_ xA;have CM:=h_ CM;have xX:=h_ xX;have HX:=h_ hx;clear hv hL xB xA hx
 by_cases ha:a<0
 ·rw[rA ha] at hO
  subst hO;go_enter func246,ntmps246;have xo:=bs.at 0 0;have xq:=bs.at 2 0;have xr:=bs.at 3 0;go_wp2_with fail;go_ret;exact⟨rfl,xs,HX.out,bs⟩
 ·obtain⟨k,rfl⟩:∃k:Nat,a=k:=⟨a.toNat,by omega⟩
  by_cases hk:k<L
  ·have xY : k < T.length := by rw [HL.out]; exact hk
   obtain⟨x,hx⟩:=e_ (T[k]);have xG:T[k]?=some x:=(by rw[wh xY,hx]);have xZ:x∈T:=(by rw[←hx];exact List.getElem_mem xY);obtain⟨b,off,cp,hv,-,hc⟩:=HV.out.cells xG;rw[HL.out] at hv;simp only[wo,true_and] at hv;obtain⟨rfl,rfl⟩:=hv;have HC:=h_ hc
   have yP:decide (L≤k)=false:=decide_eq_false (by omega)
   have xE:=CM.out x xZ;have yj:=HM.out x xZ;have xy:=pI (T.map Prod.fst) d k x.1 (by rw[wA,xG];rfl);rw[hO] at xy;replace xy:=xy.symm;have xw:=@ic x.1;obtain⟨P1,yd⟩:=e_ (dL x.1);obtain⟨P2,ye⟩:=e_ (decide (aY x.1<0));obtain⟨P3,xC⟩:=e_ ((x.1.1==1));obtain⟨P4,xL⟩:=e_ ((d==0));rw[yd] at xE xw;rw[xC] at xw;rw[yd,ye,xC,xL] at xy;have yf:((d:Int)==0)=P4:=(by rw[←xL,Bool.eq_iff_iff,beq_iff_eq,beq_iff_eq];omega);replace xE:=h_ xE;clear hc hx xG xZ xY hO yd
   cases P1 with
   | false=>
    obtain rfl:-1=O:=xy;clear xw;go_enter func246,ntmps246;have xo:=bs.at 0 0;have xq:=bs.at 2 0;have xr:=bs.at 3 0
    have n0:W.cell? ⟨b,off+k*6,none⟩=some (.int .u8 x.1.1):=HC.out W q 0 _ rfl
    have n1:W.cell? ⟨b,off+k*6+1,none⟩=some (.string ⟨x.1.2.1.toArray⟩):=HC.out W q 1 _ rfl
    have n2:W.cell? ⟨b,off+k*6+2,none⟩=some (.string ⟨x.1.2.2.1.toArray⟩):=HC.out W q 2 _ rfl
    have n3:W.cell? ⟨b,off+k*6+3,none⟩=some (ndV x):=HC.out W q 3 _ rfl
    have n4:W.cell? ⟨b,off+k*6+4,none⟩=some (.string ⟨x.1.2.2.2.2.1.toArray⟩):=HC.out W q 4 _ rfl
    have n5:W.cell? ⟨b,off+k*6+5,none⟩=some (.int .i64 x.1.2.2.2.2.2):=HC.out W q 5 _ rfl
    go_wp2_with fail;refine(xE.out W q).mono ?_;rintro e xn ⟨rfl,hb⟩;clear xo xq xr n0 n1 n2 n3 n4 n5;replace bs:=bs.ret hb;replace q:=bs.q;clear hb;have xo:=bs.at 0 0;have xq:=bs.at 2 0;have xr:=bs.at 3 0
    have n0:xn.cell? ⟨b,off+k*6,none⟩=some (.int .u8 x.1.1):=HC.out xn q 0 _ rfl
    have n1:xn.cell? ⟨b,off+k*6+1,none⟩=some (.string ⟨x.1.2.1.toArray⟩):=HC.out xn q 1 _ rfl
    have n2:xn.cell? ⟨b,off+k*6+2,none⟩=some (.string ⟨x.1.2.2.1.toArray⟩):=HC.out xn q 2 _ rfl
    have n3:xn.cell? ⟨b,off+k*6+3,none⟩=some (ndV x):=HC.out xn q 3 _ rfl
    have n4:xn.cell? ⟨b,off+k*6+4,none⟩=some (.string ⟨x.1.2.2.2.2.1.toArray⟩):=HC.out xn q 4 _ rfl
    have n5:xn.cell? ⟨b,off+k*6+5,none⟩=some (.int .i64 x.1.2.2.2.2.2):=HC.out xn q 5 _ rfl
    go_wp2_with fail;go_ret;exact⟨rfl,xs,HX.out,bs⟩
   | true=>
    cases P2 with
    | true=>
     obtain rfl:-1=O:=xy;clear xw;go_enter func246,ntmps246;have xo:=bs.at 0 0;have xq:=bs.at 2 0;have xr:=bs.at 3 0
     have n0:W.cell? ⟨b,off+k*6,none⟩=some (.int .u8 x.1.1):=HC.out W q 0 _ rfl
     have n1:W.cell? ⟨b,off+k*6+1,none⟩=some (.string ⟨x.1.2.1.toArray⟩):=HC.out W q 1 _ rfl
     have n2:W.cell? ⟨b,off+k*6+2,none⟩=some (.string ⟨x.1.2.2.1.toArray⟩):=HC.out W q 2 _ rfl
     have n3:W.cell? ⟨b,off+k*6+3,none⟩=some (ndV x):=HC.out W q 3 _ rfl
     have n4:W.cell? ⟨b,off+k*6+4,none⟩=some (.string ⟨x.1.2.2.2.2.1.toArray⟩):=HC.out W q 4 _ rfl
     have n5:W.cell? ⟨b,off+k*6+5,none⟩=some (.int .i64 x.1.2.2.2.2.2):=HC.out W q 5 _ rfl
     go_wp2_with fail;refine(xE.out W q).mono ?_;rintro e xn ⟨rfl,hb⟩;clear xo xq xr n0 n1 n2 n3 n4 n5;replace bs:=bs.ret hb;replace q:=bs.q;clear hb;have xo:=bs.at 0 0;have xq:=bs.at 2 0;have xr:=bs.at 3 0
     have n0:xn.cell? ⟨b,off+k*6,none⟩=some (.int .u8 x.1.1):=HC.out xn q 0 _ rfl
     have n1:xn.cell? ⟨b,off+k*6+1,none⟩=some (.string ⟨x.1.2.1.toArray⟩):=HC.out xn q 1 _ rfl
     have n2:xn.cell? ⟨b,off+k*6+2,none⟩=some (.string ⟨x.1.2.2.1.toArray⟩):=HC.out xn q 2 _ rfl
     have n3:xn.cell? ⟨b,off+k*6+3,none⟩=some (ndV x):=HC.out xn q 3 _ rfl
     have n4:xn.cell? ⟨b,off+k*6+4,none⟩=some (.string ⟨x.1.2.2.2.2.1.toArray⟩):=HC.out xn q 4 _ rfl
     have n5:xn.cell? ⟨b,off+k*6+5,none⟩=some (.int .i64 x.1.2.2.2.2.2):=HC.out xn q 5 _ rfl
     go_wp2_with fail;go_ret;exact⟨rfl,xs,HX.out,bs⟩
    | false=>
     have yQ:=of_decide_eq_false ye;obtain⟨M,hM⟩:∃M:Nat,x.1.2.2.2.2.2=M:=⟨(aY x.1).toNat,by show aY x.1=_;omega⟩;have xU:(aY x.1).toNat=M:=(by show (x.1.2.2.2.2.2).toNat=M;omega);rw[xU] at xy
     have yR:decide (x.1.2.2.2.2.2<0)=false:=ye
     have yS:decide ((M:Int)<0)=false:=decide_eq_false (by omega)
     cases P3 with
     | false=>
      have hz:M=0:=(by have:=xw rfl rfl;have h2:aY x.1=M:=hM;omega);clear xw xU;have HZ:=h_ hz;clear hz;have xz:=h_ hM;clear hM;have xx:=h_ xC;clear xC;go_enter func246,ntmps246;have xo:=bs.at 0 0;have xq:=bs.at 2 0;have xr:=bs.at 3 0
      have n0:W.cell? ⟨b,off+k*6,none⟩=some (.int .u8 x.1.1):=HC.out W q 0 _ rfl
      have n1:W.cell? ⟨b,off+k*6+1,none⟩=some (.string ⟨x.1.2.1.toArray⟩):=HC.out W q 1 _ rfl
      have n2:W.cell? ⟨b,off+k*6+2,none⟩=some (.string ⟨x.1.2.2.1.toArray⟩):=HC.out W q 2 _ rfl
      have n3:W.cell? ⟨b,off+k*6+3,none⟩=some (ndV x):=HC.out W q 3 _ rfl
      have n4:W.cell? ⟨b,off+k*6+4,none⟩=some (.string ⟨x.1.2.2.2.2.1.toArray⟩):=HC.out W q 4 _ rfl
      have n5:W.cell? ⟨b,off+k*6+5,none⟩=some (.int .i64 x.1.2.2.2.2.2):=HC.out W q 5 _ rfl
      go_wp2_with fail;refine(xE.out W q).mono ?_;rintro e xn ⟨rfl,hb⟩;clear xo xq xr n0 n1 n2 n3 n4 n5;replace bs:=bs.ret hb;replace q:=bs.q;clear hb;have hM:=xz.out;clear xz;have xC:=xx.out;clear xx;obtain⟨fr,xH⟩:=e_ (gp (T.map Prod.fst) (d-1));rw[xH] at xy;have xM:=h_ xH;have yg:=h_ xy;clear xy xH;have xo:=bs.at 0 0;have xq:=bs.at 2 0;have xr:=bs.at 3 0
      have n0:xn.cell? ⟨b,off+k*6,none⟩=some (.int .u8 x.1.1):=HC.out xn q 0 _ rfl
      have n1:xn.cell? ⟨b,off+k*6+1,none⟩=some (.string ⟨x.1.2.1.toArray⟩):=HC.out xn q 1 _ rfl
      have n2:xn.cell? ⟨b,off+k*6+2,none⟩=some (.string ⟨x.1.2.2.1.toArray⟩):=HC.out xn q 2 _ rfl
      have n3:xn.cell? ⟨b,off+k*6+3,none⟩=some (ndV x):=HC.out xn q 3 _ rfl
      have n4:xn.cell? ⟨b,off+k*6+4,none⟩=some (.string ⟨x.1.2.2.2.2.1.toArray⟩):=HC.out xn q 4 _ rfl
      have n5:xn.cell? ⟨b,off+k*6+5,none⟩=some (.int .i64 x.1.2.2.2.2.2):=HC.out xn q 5 _ rfl
      go_wp2_with fail;clear xo xq xr n0 n1 n2 n3 n4 n5;go_loopw [8,9,53] (fun nx la i wx=>∃(j:Nat) (y l:Int) (xs:List Value),nx=.int .i64 y∧la=.int .u8 l∧i=.int .i64 j∧j≤M∧-1≤y∧y≤L∧bA fr (T.map Prod.fst) (M-j) y l=O∧xs.length=L∧Sx w0 [(B1,[.slice (some ⟨b,off,none⟩) L vc]),(E,xs),(B3,[.slice (some ⟨E,0,none⟩) L L]),(B4,[bhF B1 B4 B3])] wx) (fun _ _ i _=>M-(intOf i).toNat)
      case atStart=>exact⟨0,k+1,1,xs,by go_num,rfl,rfl,wB _,by omega,by omega,yg.out,HX.out,bs⟩
      case round=>
       clear bs q HX;obtain⟨j,y,l,xs,rfl,rfl,rfl,hj,yy,yz,hrel,hx,bs⟩:=hrel;have q:=bs.q;have HX:=h_ hx;clear hx
       by_cases hlt:j<M
       ·have:=HZ.out
        omega
       ·obtain rfl : j = M := by omega
        rw[wC] at hrel;obtain rfl:y=O:=hrel;have yk:¬ (j:Int)<x.1.2.2.2.2.2:=(by omega)
        by_cases hy:0≤y
        ·have xI : k < xs.length := by rw [HX.out]; exact hk
         have xo:=bs.at 0 0;have xq:=bs.at 2 0;have xr:=bs.at 3 0;have ce:=bs.at 1 k rfl (wh xI);have fe:=bs.fz 1 k rfl (wh xI);obtain⟨W2,xN,y2,xD⟩:=bs.sets 1 k [.int .i64 y] rfl xI;go_wp2_with fail;simp only[wD] at xN;rw[xN];go_wp2_with fail;go_ret;exact⟨rfl,gz xs k [.int .i64 y],by rw[iR];exact HX.out,xD⟩
        ·have yA:¬ (0:Int)≤y:=hy
         have xo:=bs.at 0 0;have xq:=bs.at 2 0;have xr:=bs.at 3 0;go_wp2_with fail;go_ret;exact⟨rfl,xs,HX.out,bs⟩
     | true=>
      cases P4 with
      | true=>
       clear xU;obtain rfl:-1=O:=xy;clear xw;have xz:=h_ hM;clear hM;have xx:=h_ xC;clear xC;have xO:=h_ yf;clear yf;have xP:=h_ xL;clear xL;go_enter func246,ntmps246;have xo:=bs.at 0 0;have xq:=bs.at 2 0;have xr:=bs.at 3 0
       have n0:W.cell? ⟨b,off+k*6,none⟩=some (.int .u8 x.1.1):=HC.out W q 0 _ rfl
       have n1:W.cell? ⟨b,off+k*6+1,none⟩=some (.string ⟨x.1.2.1.toArray⟩):=HC.out W q 1 _ rfl
       have n2:W.cell? ⟨b,off+k*6+2,none⟩=some (.string ⟨x.1.2.2.1.toArray⟩):=HC.out W q 2 _ rfl
       have n3:W.cell? ⟨b,off+k*6+3,none⟩=some (ndV x):=HC.out W q 3 _ rfl
       have n4:W.cell? ⟨b,off+k*6+4,none⟩=some (.string ⟨x.1.2.2.2.2.1.toArray⟩):=HC.out W q 4 _ rfl
       have n5:W.cell? ⟨b,off+k*6+5,none⟩=some (.int .i64 x.1.2.2.2.2.2):=HC.out W q 5 _ rfl
       go_wp2_with fail;refine(xE.out W q).mono ?_;rintro e xn ⟨rfl,hb⟩;clear xo xq xr n0 n1 n2 n3 n4 n5;replace bs:=bs.ret hb;replace q:=bs.q;clear hb;have hM:=xz.out;clear xz;have xC:=xx.out;clear xx;have yf:=xO.out;clear xO;have xL:=xP.out;clear xP;have xo:=bs.at 0 0;have xq:=bs.at 2 0;have xr:=bs.at 3 0
       have n0:xn.cell? ⟨b,off+k*6,none⟩=some (.int .u8 x.1.1):=HC.out xn q 0 _ rfl
       have n1:xn.cell? ⟨b,off+k*6+1,none⟩=some (.string ⟨x.1.2.1.toArray⟩):=HC.out xn q 1 _ rfl
       have n2:xn.cell? ⟨b,off+k*6+2,none⟩=some (.string ⟨x.1.2.2.1.toArray⟩):=HC.out xn q 2 _ rfl
       have n3:xn.cell? ⟨b,off+k*6+3,none⟩=some (ndV x):=HC.out xn q 3 _ rfl
       have n4:xn.cell? ⟨b,off+k*6+4,none⟩=some (.string ⟨x.1.2.2.2.2.1.toArray⟩):=HC.out xn q 4 _ rfl
       have n5:xn.cell? ⟨b,off+k*6+5,none⟩=some (.int .i64 x.1.2.2.2.2.2):=HC.out xn q 5 _ rfl
       go_wp2_with fail;go_ret;exact⟨rfl,xs,HX.out,bs⟩
      | false=>
       have yT:d≠0:=(by simpa using xL);clear xw xU;have xz:=h_ hM;clear hM;have xx:=h_ xC;clear xC;go_enter func246,ntmps246;have xo:=bs.at 0 0;have xq:=bs.at 2 0;have xr:=bs.at 3 0
       have n0:W.cell? ⟨b,off+k*6,none⟩=some (.int .u8 x.1.1):=HC.out W q 0 _ rfl
       have n1:W.cell? ⟨b,off+k*6+1,none⟩=some (.string ⟨x.1.2.1.toArray⟩):=HC.out W q 1 _ rfl
       have n2:W.cell? ⟨b,off+k*6+2,none⟩=some (.string ⟨x.1.2.2.1.toArray⟩):=HC.out W q 2 _ rfl
       have n3:W.cell? ⟨b,off+k*6+3,none⟩=some (ndV x):=HC.out W q 3 _ rfl
       have n4:W.cell? ⟨b,off+k*6+4,none⟩=some (.string ⟨x.1.2.2.2.2.1.toArray⟩):=HC.out W q 4 _ rfl
       have n5:W.cell? ⟨b,off+k*6+5,none⟩=some (.int .i64 x.1.2.2.2.2.2):=HC.out W q 5 _ rfl
       go_wp2_with fail;refine(xE.out W q).mono ?_;rintro e xn ⟨rfl,hb⟩;clear xo xq xr n0 n1 n2 n3 n4 n5;replace bs:=bs.ret hb;replace q:=bs.q;clear hb;have hM:=xz.out;clear xz;have xC:=xx.out;clear xx;obtain⟨fr,xH⟩:=e_ (gp (T.map Prod.fst) (d-1));rw[xH] at xy;have xM:=h_ xH;have yg:=h_ xy;clear xy xH;have xo:=bs.at 0 0;have xq:=bs.at 2 0;have xr:=bs.at 3 0
       have n0:xn.cell? ⟨b,off+k*6,none⟩=some (.int .u8 x.1.1):=HC.out xn q 0 _ rfl
       have n1:xn.cell? ⟨b,off+k*6+1,none⟩=some (.string ⟨x.1.2.1.toArray⟩):=HC.out xn q 1 _ rfl
       have n2:xn.cell? ⟨b,off+k*6+2,none⟩=some (.string ⟨x.1.2.2.1.toArray⟩):=HC.out xn q 2 _ rfl
       have n3:xn.cell? ⟨b,off+k*6+3,none⟩=some (ndV x):=HC.out xn q 3 _ rfl
       have n4:xn.cell? ⟨b,off+k*6+4,none⟩=some (.string ⟨x.1.2.2.2.2.1.toArray⟩):=HC.out xn q 4 _ rfl
       have n5:xn.cell? ⟨b,off+k*6+5,none⟩=some (.int .i64 x.1.2.2.2.2.2):=HC.out xn q 5 _ rfl
       go_wp2_with fail;clear xo xq xr n0 n1 n2 n3 n4 n5;go_loopw [8,9,53] (fun nx la i wx=>∃(j:Nat) (y l:Int) (xs:List Value),nx=.int .i64 y∧la=.int .u8 l∧i=.int .i64 j∧j≤M∧-1≤y∧y≤L∧bA fr (T.map Prod.fst) (M-j) y l=O∧xs.length=L∧Sx w0 [(B1,[.slice (some ⟨b,off,none⟩) L vc]),(E,xs),(B3,[.slice (some ⟨E,0,none⟩) L L]),(B4,[bhF B1 B4 B3])] wx) (fun _ _ i _=>M-(intOf i).toNat)
       case atStart=>exact⟨0,k+1,1,xs,by go_num,rfl,rfl,wB _,by omega,by omega,yg.out,HX.out,bs⟩
       case round=>
        clear bs q HX;obtain⟨j,y,l,xs,rfl,rfl,rfl,hj,yy,yz,hrel,hx,bs⟩:=hrel;have q:=bs.q;have HX:=h_ hx;clear hx
        by_cases hlt:j<M
        ·have yk : (j : Int) < x.1.2.2.2.2.2 := by omega
         obtain⟨m,hm⟩:∃m,M-j=m+1:=⟨M-j-1,by omega⟩;rw[hm] at hrel
         by_cases hy:y<0
         ·rw[kq hy] at hrel
          subst hrel;have xo:=bs.at 0 0;have xq:=bs.at 2 0;have xr:=bs.at 3 0;go_wp2_with fail;go_ret;exact⟨rfl,xs,HX.out,bs⟩
         ·obtain⟨z,rfl⟩:∃z:Nat,y=z:=⟨y.toNat,by omega⟩
          by_cases hz:z<L
          ·have yl : z < T.length := by rw [HL.out]; exact hz
           obtain⟨x2,xJ⟩:=e_ (T[z]);have xQ:T[z]?=some x2:=(by rw[wh yl,xJ]);obtain⟨b2,yM,yU,yh,-,yn⟩:=HV.out.cells xQ;rw[HL.out] at yh;simp only[wo,true_and,Option.some.injEq,Addr.mk.injEq,and_true] at yh;obtain⟨⟨rfl,rfl⟩,rfl⟩:=yh;have xu:=h_ yn;rw[mt (n:=x2.1) (by rw[wA,xQ];rfl)] at hrel;obtain⟨C1,yB⟩:=e_ ((l==2));obtain⟨C2,yC⟩:=e_ ((x2.1.1==l));rw[yB,yC] at hrel;have HR:=h_ hrel;have RC:=h_ (xX.out (d-1) (by omega));have yo:=h_ hm;clear yn xQ xJ yl hrel hm
           cases C1 with
           | false=>
            have xo:=bs.at 0 0;have xq:=bs.at 2 0;have xr:=bs.at 3 0
            have n0:wr.cell? ⟨b,off+z*6,none⟩=some (.int .u8 x2.1.1):=xu.out wr q 0 _ rfl
            have n1:wr.cell? ⟨b,off+z*6+1,none⟩=some (.string ⟨x2.1.2.1.toArray⟩):=xu.out wr q 1 _ rfl
            have n2:wr.cell? ⟨b,off+z*6+2,none⟩=some (.string ⟨x2.1.2.2.1.toArray⟩):=xu.out wr q 2 _ rfl
            have n3:wr.cell? ⟨b,off+z*6+3,none⟩=some (ndV x2):=xu.out wr q 3 _ rfl
            have n4:wr.cell? ⟨b,off+z*6+4,none⟩=some (.string ⟨x2.1.2.2.2.2.1.toArray⟩):=xu.out wr q 4 _ rfl
            have n5:wr.cell? ⟨b,off+z*6+5,none⟩=some (.int .i64 x2.1.2.2.2.2.2):=xu.out wr q 5 _ rfl
            have CR:=h_ (RC.out z wr xs (by omega) (by omega) HX.out bs);have e1:((d-1:Nat):Int)=(d:Int)-1:=(by omega);rw[e1,xM.out] at CR;clear e1;go_wp2_with fail;refine CR.out.mono ?_;rintro e yD ⟨rfl,xV,xJ,xD⟩;clear xo xq xr n0 n1 n2 n3 n4 n5;have hr:=bH (T.map Prod.fst) (d-1) z;rw[xT.out,xM.out] at hr;have yE:(j:Int)+1≤9223372036854775807:=(by have:=yj;have h2:aY x.1=M:=hM;omega);go_wp2_with fail;go_roundw
            case rel=>exact⟨j+1,fr z,x2.1.1,xV,rfl,rfl,by go_num,by omega,hr.1,hr.2,by rw[show M-(j+1)=m by have:=yo.out;omega];exact HR.out,xJ,xD⟩
            case measure=>simp[intOf];omega
           | true=>
            cases C2 with
            | true=>
             have xo:=bs.at 0 0;have xq:=bs.at 2 0;have xr:=bs.at 3 0
             have n0:wr.cell? ⟨b,off+z*6,none⟩=some (.int .u8 x2.1.1):=xu.out wr q 0 _ rfl
             have n1:wr.cell? ⟨b,off+z*6+1,none⟩=some (.string ⟨x2.1.2.1.toArray⟩):=xu.out wr q 1 _ rfl
             have n2:wr.cell? ⟨b,off+z*6+2,none⟩=some (.string ⟨x2.1.2.2.1.toArray⟩):=xu.out wr q 2 _ rfl
             have n3:wr.cell? ⟨b,off+z*6+3,none⟩=some (ndV x2):=xu.out wr q 3 _ rfl
             have n4:wr.cell? ⟨b,off+z*6+4,none⟩=some (.string ⟨x2.1.2.2.2.2.1.toArray⟩):=xu.out wr q 4 _ rfl
             have n5:wr.cell? ⟨b,off+z*6+5,none⟩=some (.int .i64 x2.1.2.2.2.2.2):=xu.out wr q 5 _ rfl
             obtain rfl:-1=O:=HR.out;go_wp2_with fail;go_ret;exact⟨rfl,xs,HX.out,bs⟩
            | false=>
             have xo:=bs.at 0 0;have xq:=bs.at 2 0;have xr:=bs.at 3 0
             have n0:wr.cell? ⟨b,off+z*6,none⟩=some (.int .u8 x2.1.1):=xu.out wr q 0 _ rfl
             have n1:wr.cell? ⟨b,off+z*6+1,none⟩=some (.string ⟨x2.1.2.1.toArray⟩):=xu.out wr q 1 _ rfl
             have n2:wr.cell? ⟨b,off+z*6+2,none⟩=some (.string ⟨x2.1.2.2.1.toArray⟩):=xu.out wr q 2 _ rfl
             have n3:wr.cell? ⟨b,off+z*6+3,none⟩=some (ndV x2):=xu.out wr q 3 _ rfl
             have n4:wr.cell? ⟨b,off+z*6+4,none⟩=some (.string ⟨x2.1.2.2.2.2.1.toArray⟩):=xu.out wr q 4 _ rfl
             have n5:wr.cell? ⟨b,off+z*6+5,none⟩=some (.int .i64 x2.1.2.2.2.2.2):=xu.out wr q 5 _ rfl
             have CR:=h_ (RC.out z wr xs (by omega) (by omega) HX.out bs);have e1:((d-1:Nat):Int)=(d:Int)-1:=(by omega);rw[e1,xM.out] at CR;clear e1;go_wp2_with fail;refine CR.out.mono ?_;rintro e yD ⟨rfl,xV,xJ,xD⟩;clear xo xq xr n0 n1 n2 n3 n4 n5;have hr:=bH (T.map Prod.fst) (d-1) z;rw[xT.out,xM.out] at hr;have yE:(j:Int)+1≤9223372036854775807:=(by have:=yj;have h2:aY x.1=M:=hM;omega);go_wp2_with fail;go_roundw
             case rel=>exact⟨j+1,fr z,x2.1.1,xV,rfl,rfl,by go_num,by omega,hr.1,hr.2,by rw[show M-(j+1)=m by have:=yo.out;omega];exact HR.out,xJ,xD⟩
             case measure=>simp[intOf];omega
          ·obtain rfl : z = L := by omega
           rw[gh (by rw[xT.out];exact wu _)] at hrel;subst hrel;have xo:=bs.at 0 0;have xq:=bs.at 2 0;have xr:=bs.at 3 0;go_wp2_with fail;go_ret;exact⟨rfl,xs,HX.out,bs⟩
        ·obtain rfl : j = M := by omega
         rw[wC] at hrel;obtain rfl:y=O:=hrel;have yk:¬ (j:Int)<x.1.2.2.2.2.2:=(by omega)
         by_cases hy:0≤y
         ·have xI : k < xs.length := by rw [HX.out]; exact hk
          have xo:=bs.at 0 0;have xq:=bs.at 2 0;have xr:=bs.at 3 0;have ce:=bs.at 1 k rfl (wh xI);have fe:=bs.fz 1 k rfl (wh xI);obtain⟨W2,xN,y2,xD⟩:=bs.sets 1 k [.int .i64 y] rfl xI;go_wp2_with fail;simp only[wD] at xN;rw[xN];go_wp2_with fail;go_ret;exact⟨rfl,gz xs k [.int .i64 y],by rw[iR];exact HX.out,xD⟩
         ·have yA:¬ (0:Int)≤y:=hy
          have xo:=bs.at 0 0;have xq:=bs.at 2 0;have xr:=bs.at 3 0;go_wp2_with fail;go_ret;exact⟨rfl,xs,HX.out,bs⟩
  ·obtain rfl : k = L := by omega
   rw[iC (by rw[xT.out];exact wu _)] at hO;subst hO;go_enter func246,ntmps246;have xo:=bs.at 0 0;have xq:=bs.at 2 0;have xr:=bs.at 3 0;go_wp2_with fail;go_ret;exact⟨rfl,xs,HX.out,bs⟩

theorem nO:(prog.info? 3).map (fun i=>(i.zero,i.size,i.bytes))=some (some (.int .i64 0),1,8):=by kernel_rfl
theorem rf (z:Value) (n:Nat):madeCells #[z] n=(wq n z).toArray:=by
 apply Array.ext
 ·simp[madeCells]
 ·intro i h1 h2
  simp[madeCells,Nat.mod_one]
theorem uP (n:Nat) (hn:n≤100000) (w:World):(Instr.makeSlice 202 (.int .i64 n) (.int .i64 n)).run prog w=.ok (.slice (some ⟨w.heap.size,0,none⟩) n n) (w.alloc (.cells (wq n (wv .i64 0)).toArray 3)):=by
 obtain⟨i0,hi,yF,yp,yG⟩:=info_parts nO;have h:=run_makeSlice (P:=prog) w 202 3 i0 (.int .i64 0) underlying202 hi yF .i64 .i64 n n (by omega) (Int.le_refl _) (by rw[yp];simp;omega) (by rw[yG];omega) (by omega);rw[yp] at h;simp only[Int.toNat_natCast,Nat.mul_one] at h;rw[←rf];exact h
theorem tG (T:List NdI) (va:Option Addr) (L vc B1 E B3 B4:Nat) (w0:World) (hv:IsL ndY (.slice va L vc) T w0) (hL:T.length=L) (xW:L≤512) (xA:∀x∈T,aY x.1≤9223372036854775807)
  (CM:∀x∈T,∀W,Bl w0 W→Calls prog 247 #[.agg #[.int .u8 x.1.1,.string ⟨x.1.2.1.toArray⟩,.string ⟨x.1.2.2.1.toArray⟩,ndV x,.string ⟨x.1.2.2.2.2.1.toArray⟩,.int .i64 x.1.2.2.2.2.2]] W (Ret W (.bool (dL x.1)))):∀d,d≤12→sy T va L vc B1 E B3 B4 w0 d:=by
 intro d
 induction d with
 | zero=>exact fun h=>kx T va L vc B1 E B3 B4 0 w0 hv hL xW h xA CM fun d' yH=>by omega
 | succ d ih=>
  exact fun h=>kx T va L vc B1 E B3 B4 (d+1) w0 hv hL xW h xA CM fun d' yH=>by
   obtain rfl:d'=d:=by omega
   exact ih (by omega)
def oq (v:List Nd):Int:=(v.head?.map (·.1)).getD 0
def ed (v:List Nd):Bool:=!v.isEmpty&&(decide (v.length≤512)&&((oq v==1)&&(gp v 12 0==(v.length:Int))))
def vQ (w:World) (b:Bool) (L:Nat) (e:Ending) (w':World):Prop:=(∃v,e=.returned v∧(b=false∧v=.slice none 0 0∨b=true∧∃E,v=.slice (some E) L L))∧Bl w w'
theorem nZ (T:List NdI) (va:Option Addr) (L vc:Nat) (w:World) (hv:IsL ndY (.slice va L vc) T w) (hL:T.length=L) (xA:∀x∈T,aY x.1≤9223372036854775807)
  (CM:∀x∈T,∀W,Bl w W→Calls prog 247 #[.agg #[.int .u8 x.1.1,.string ⟨x.1.2.1.toArray⟩,.string ⟨x.1.2.2.1.toArray⟩,ndV x,.string ⟨x.1.2.2.2.2.1.toArray⟩,.int .i64 x.1.2.2.2.2.2]] W (Ret W (.bool (dL x.1)))):Calls prog 216 #[.slice va L vc] w (vQ w (ed (T.map Prod.fst)) L):=by
 obtain⟨O,hO⟩:=e_ (ed (T.map Prod.fst));rw[hO];unfold ed at hO
 have xB:(T.map Prod.fst).length=L:=by rw[wt,hL]
 rw[xB] at hO
 by_cases h0:L=0
 ·subst h0
  have e:T=[]:=List.eq_nil_of_length_eq_zero hL
  rw[e] at hO;obtain rfl:false=O:=hO;clear e hL xA CM xB;obtain⟨W0,hW,y0,bs⟩:=Sx.start1 w [.slice va 0 vc] 108;have HW:=h_ hW;clear hW;have q:=bs.q;go_enter func216,ntmps216;go_upto_region 1 with fail;rw[HW.out];have xo:=bs.at 0 0;go_wp2_with fail;go_ret;exact⟨⟨_,rfl,.inl ⟨rfl,rfl⟩⟩,q⟩
 by_cases h5:L≤512
 ·have yq : 0 < T.length := by omega
  obtain⟨x,hx⟩:=e_ (T[0])
  have xG:T[0]?=some x:=by rw[wh yq,hx]
  obtain⟨b,off,cp,hf,-,hc⟩:=hv.cells xG;rw[hL] at hf;simp only[wo,true_and] at hf;obtain⟨rfl,rfl⟩:=hf
  have hk:oq (T.map Prod.fst)=x.1.1:=by unfold oq;rw[List.head?_map,List.head?_eq_getElem?,xG];rfl
  have yt:(T.map Prod.fst).isEmpty=false:=by cases hT:T.map Prod.fst with | nil=>rw[hT] at xB;simp at xB;omega | cons _ _=>rfl
  rw[hk,yt,decide_eq_true h5,Bool.not_false,ww,ww] at hO;obtain⟨K,yu⟩:=e_ ((x.1.1==1));rw[yu] at hO
  have yV:(x.1.1 != 1)=!K:=by rw[←yu];rfl
  have HC:=h_ hc
  have c5:¬ (512:Int)<(L:Int):=by omega
  have c0:((L:Int)==0)=false:=beq_eq_false_iff_ne.2 (by omega)
  clear hc xG hx hk yt yq
  cases K with
  | false=>
   obtain rfl:false=O:=hO;clear hv hL xA CM xB;obtain⟨W0,hW,y0,bs⟩:=Sx.start1 w [.slice (some ⟨b,off,none⟩) L vc] 108;have HW:=h_ hW;clear hW;have q:=bs.q;go_enter func216,ntmps216;go_upto_region 1 with fail;rw[HW.out];have xo:=bs.at 0 0
   have n0:W0.cell? ⟨b,off,none⟩=some (.int .u8 x.1.1):=HC.out W0 q 0 _ rfl
   go_wp2_with fail;go_ret;exact⟨⟨_,rfl,.inl ⟨rfl,rfl⟩⟩,q⟩
  | true=>
   rw[ww] at hO;have WK:=h_ (tG T (some ⟨b,off,none⟩) L vc w.heap.size (w.heap.size+1) (w.heap.size+1+1) (w.heap.size+1+1+1) w hv hL h5 xA CM 12 (wu _));have hr:=bH (T.map Prod.fst) 12 0;rw[xB] at hr;obtain⟨Z,hZ⟩:=e_ (gp (T.map Prod.fst) 12 0);rw[hZ] at hr hO;have HO:=h_ hO;have HZ:=h_ hZ;have en:=pe;have mk:=uP L (by omega);clear hv hL xA CM xB hO hZ;obtain⟨W0,hW,y0,bs⟩:=Sx.start1 w [.slice (some ⟨b,off,none⟩) L vc] 108;have HW:=h_ hW;clear hW;have q:=bs.q;go_enter func216,ntmps216;go_upto_region 1 with fail;rw[HW.out];have xo:=bs.at 0 0
   have n0:W0.cell? ⟨b,off,none⟩=some (.int .u8 x.1.1):=HC.out W0 q 0 _ rfl
   go_wp2_with fail;clear xo;clear n0;obtain⟨w2,yv,y2,al,bs⟩:=bs.alloc (w.heap.size+1) y0 (wq L (wv .i64 0)) 3;clear al;obtain⟨w3,yI,y3,al,bs⟩:=bs.alloc (w.heap.size+1+1) y2 [.slice (some ⟨w.heap.size+1,0,none⟩) L L] 202;clear al;obtain⟨w4,yw,y4,al,bs⟩:=bs.alloc (w.heap.size+1+1+1) y3 [bhF w.heap.size (w.heap.size+1+1+1) (w.heap.size+1+1)] 229;clear al;rw[List.toArray_replicate] at yv;simp only[bhF] at yw;rw[yv,yI,yw];replace q:=bs.q;replace bs:=bs.ret (Below.drew (bQ _));replace q:=bs.q
   have yJ:w4.drew.heap.size=w4.heap.size:=rfl
   refine wp_region_held_drew (S:=fun w'=>w'.cell? ⟨w.heap.size,0,none⟩=some (.slice (some ⟨b,off,none⟩) L vc)∧w'.cell? ⟨w.heap.size+1+1+1,0,none⟩=some (bhF w.heap.size (w.heap.size+1+1+1) (w.heap.size+1+1))) (by kernel_rfl) ⟨bs.at 0 0,bs.at 3 0⟩ (fun hH=>?_);generalize w4.drew=w11 at bs q yJ hH ⊢;refine rS [(0,some 24),(2,some 26),(3,some 27)] ?_
   iterate 3 refine aS ?_
   refine rE ?_
   refine aC (i:=1) fun K hK=>?_
   go_simp;have CW:=WK.out 0 w11 (wq L (wv .i64 0)) (by omega) (by omega) (by simp) bs;rw[HZ.out] at CW;replace CW:=h_ CW;refine CW.out.mono ?_;rintro e w9 ⟨rfl,xV,xJ,xD⟩;clear bs q;have bs:=xD;clear xD;have q:=bs.q;go_simp;clear hH;refine hK.out _ _ ⟨bs.at 0 0,bs.at 3 0⟩ (fun hH=>?_);clear hK K;refine rS [(4,some 28)] ?_;refine aS ?_;refine rE ?_;refine aD ?_;clear hH
   cases O with
   | true=>
    have yK:(Z != (L:Int))=false:=(by rw[bne,HO.out];rfl);have xq:=bs.at 2 0;go_wp2_with fail;go_ret;exact⟨⟨_,rfl,.inr ⟨rfl,_,rfl⟩⟩,q⟩
   | false=>
    have yK:(Z != (L:Int))=true:=(by rw[bne,HO.out];rfl);have xq:=bs.at 2 0;go_wp2_with fail;go_ret;exact⟨⟨_,rfl,.inl ⟨rfl,rfl⟩⟩,q⟩
 ·obtain rfl : false = O := by rw [← hO, decide_eq_false h5]; simp
  have c5:(512:Int)<(L:Int):=by omega
  have c0:((L:Int)==0)=false:=beq_eq_false_iff_ne.2 (by omega)
  clear hv hL xA CM xB hO;obtain⟨W0,hW,y0,bs⟩:=Sx.start1 w [.slice va L vc] 108;have HW:=h_ hW;clear hW;have q:=bs.q;go_enter func216,ntmps216;go_upto_region 1 with fail;rw[HW.out];have xo:=bs.at 0 0;go_wp2_with fail;go_ret;exact⟨⟨_,rfl,.inl ⟨rfl,rfl⟩⟩,q⟩

abbrev vj:List UInt8:=[104,116,116,112,58,47,47,119,119,119,46,119,51,46,111,114,103,47,88,77,76,47,49,57,57,56,47,110,97,109,101,115,112,97,99,101]
abbrev eE:List UInt8:=[104,116,116,112,58,47,47,119,119,119,46,119,51,46,111,114,103,47,50,48,48,48,47,120,109,108,110,115,47]
def rP (s:List UInt8):Bool:=s==vj||s==eE
def cQ (a:At):Bool:=!aG a.2.1||((a.1.isEmpty&&a.2.1==[120,109,108,110,115])||a.1==eE)
def cW (n:Nd):Bool:=((n.1==1)&&!aG n.2.2.1)||(rP n.2.1||n.2.2.2.1.any cQ)
def af (v:List Nd):Bool:=!v.any cW&&ed v
theorem cw (a b:List UInt8):((⟨a.toArray⟩:ByteArray).toList==b)=(a==b):=by simp
theorem mI (S:ByteArray) (A B:Bool) (w:World) (h1:(S.toList==[104,116,116,112,58,47,47,119,119,119,46,119,51,46,111,114,103,47,88,77,76,47,49,57,57,56,47,110,97,109,101,115,112,97,99,101])=A) (h2:(S.toList==[104,116,116,112,58,47,47,119,119,119,46,119,51,46,111,114,103,47,50,48,48,48,47,120,109,108,110,115,47])=B):Calls prog 179 #[.string S] w fun e w'=>e=.returned (.bool (A||B))∧w'=w:=by
 cases A with
 | true=>
  go_enter func179,ntmps179;go_wp2_with fail;go_ret;exact⟨rfl,rfl⟩
 | false=>
  cases B with
  | true=>
   go_enter func179,ntmps179;go_wp2_with fail;go_ret;exact⟨rfl,rfl⟩
  | false=>
   go_enter func179,ntmps179;go_wp2_with fail;go_ret;exact⟨rfl,rfl⟩
theorem qo (s:List UInt8) (w:World):Calls prog 179 #[.string ⟨s.toArray⟩] w (Ret w (.bool (rP s))):=
 (mI ⟨s.toArray⟩ _ _ w (cw s _) (cw s _)).mono fun e w' ⟨h1,h2⟩=>⟨h1,by rw[h2];exact bQ _⟩
theorem oK (S NM V:ByteArray) (A B C D:Bool) (w:World) (h2:S.toList.isEmpty=B) (h3:(NM.toList==[120,109,108,110,115])=C) (h4:(S.toList==[104,116,116,112,58,47,47,119,119,119,46,119,51,46,111,114,103,47,50,48,48,48,47,120,109,108,110,115,47])=D)
  (CN:∀W,Calls prog 177 #[.string NM] W (Ret W (.bool A))):
  Calls prog 176 #[.agg #[.string S,.string NM,.string V]] w (Ret w (.bool (!A||((B&&C)||D)))):=by
 have CN:=h_ CN;have h2:=h_ h2
 cases A with
 | false=>
  obtain⟨W0,hW,y0,bs⟩:=Sx.start1 w [.string S,.string NM,.string V] 160;have HW:=h_ hW;clear hW;have q:=bs.q;go_enter func176,ntmps176;go_wp2_with fail;rw[HW.out];have xt:=bs.b3 0;go_wp2_with fail;refine(CN.out W0).mono ?_;rintro e w1 ⟨rfl,hb⟩;clear xt;replace bs:=bs.ret hb;replace q:=bs.q;clear hb;have xt:=bs.b3 0;go_wp2_with fail;go_ret;exact⟨rfl,q⟩
 | true=>
  cases B with
  | true=>
   obtain rfl:=bO h2.out
   obtain rfl:D=false:=by rw[←h4];simp
   clear h2
   cases C with
   | true=>
    obtain⟨W0,hW,y0,bs⟩:=Sx.start1 w [.string ⟨#[]⟩,.string NM,.string V] 160;have HW:=h_ hW;clear hW;have q:=bs.q;go_enter func176,ntmps176;go_wp2_with fail;rw[HW.out];have xt:=bs.b3 0;go_wp2_with fail;refine(CN.out W0).mono ?_;rintro e w1 ⟨rfl,hb⟩;clear xt;replace bs:=bs.ret hb;replace q:=bs.q;clear hb;have xt:=bs.b3 0;go_wp2_with fail;go_ret;exact⟨rfl,q⟩
   | false=>
    obtain⟨W0,hW,y0,bs⟩:=Sx.start1 w [.string ⟨#[]⟩,.string NM,.string V] 160;have HW:=h_ hW;clear hW;have q:=bs.q;go_enter func176,ntmps176;go_wp2_with fail;rw[HW.out];have xt:=bs.b3 0;go_wp2_with fail;refine(CN.out W0).mono ?_;rintro e w1 ⟨rfl,hb⟩;clear xt;replace bs:=bs.ret hb;replace q:=bs.q;clear hb;have xt:=bs.b3 0;go_wp2_with fail;go_ret;exact⟨rfl,q⟩
  | false=>
   have p2:=bY h2.out;have e2:=ao (s:=S) p2;have f2:=ax (s:=S) p2;clear h3
   cases D with
   | true=>
    obtain⟨W0,hW,y0,bs⟩:=Sx.start1 w [.string S,.string NM,.string V] 160;have HW:=h_ hW;clear hW;have q:=bs.q;go_enter func176,ntmps176;go_wp2_with fail;rw[HW.out];have xt:=bs.b3 0;go_wp2_with fail;refine(CN.out W0).mono ?_;rintro e w1 ⟨rfl,hb⟩;clear xt;replace bs:=bs.ret hb;replace q:=bs.q;clear hb;have xt:=bs.b3 0;go_wp2_with fail;go_ret;exact⟨rfl,q⟩
   | false=>
    obtain⟨W0,hW,y0,bs⟩:=Sx.start1 w [.string S,.string NM,.string V] 160;have HW:=h_ hW;clear hW;have q:=bs.q;go_enter func176,ntmps176;go_wp2_with fail;rw[HW.out];have xt:=bs.b3 0;go_wp2_with fail;refine(CN.out W0).mono ?_;rintro e w1 ⟨rfl,hb⟩;clear xt;replace bs:=bs.ret hb;replace q:=bs.q;clear hb;have xt:=bs.b3 0;go_wp2_with fail;go_ret;exact⟨rfl,q⟩
theorem qw:∀args w,(callFunc 176 args).run prog w=.ok (.enter 176 args) w:=enters_of func176 (by kernel_rfl) rfl
theorem fD (s:List UInt8) (w:World) (hs:s.length≤1000000):Calls prog 177 #[.string ⟨s.toArray⟩] w (Ret w (.bool (aG s))):=
 (jk ⟨s.toArray⟩ w (by show s.toArray.size≤_;simpa using hs)).mono fun e w' ⟨h1,h2⟩=>⟨h1,by rw[h2];exact bQ _⟩
theorem tz (x:At) (w:World) (h:x.2.1.length≤10000):Calls prog 176 #[atG x] w (Ret w (.bool (cQ x))):=by
 unfold cQ
 exact oK ⟨x.1.toArray⟩ ⟨x.2.1.toArray⟩ ⟨x.2.2.toArray⟩ _ _ _ _ w (by simp) (cw _ _) (cw _ _) fun W=>fD x.2.1 W (by omega)
theorem oe (k:Int) (S NM TX:ByteArray) (aa:Option Addr) (n cap:Nat) (many:Int) (K A G H:Bool) (L:Nat) (w:World) (hk:(k==1)=K) (hl:L<w.heap.size) (cf:w.cell? ⟨L,0,none⟩=some (.func (.func 176) #[] #[]))
  (CN:∀W,Calls prog 177 #[.string NM] W (Ret W (.bool A)))
  (CG:∀W,Calls prog 179 #[.string S] W (Ret W (.bool G)))
  (CH:∀W,Bl w W→Calls prog 180 #[.slice aa n cap,.func (.func 176) #[] #[]] W (Ret W (.bool H))):
  Calls prog 178 #[.agg #[.int .u8 k,.string S,.string NM,.slice aa n cap,.string TX,.int .i64 many],.pointer (some ⟨L,0,none⟩)] w (Ret w (.bool ((K&&!A)||(G||H)))):=by
 have CN:=h_ CN;have CG:=h_ CG;have CH:=h_ CH
 have CL:=h_ fun (w':World) (hb:Bl w w')=>show w'.cell? ⟨L,0,none⟩=some (.func (.func 176) #[] #[]) from ((ag hb).1 _ _ hl).trans cf
 clear cf hl
 cases K with
 | false=>
  cases G with
  | true=>
   obtain⟨W0,hW,y0,bs⟩:=Sx.start1 w [.int .u8 k,.string S,.string NM,.slice aa n cap,.string TX,.int .i64 many] 114;have HW:=h_ hW;clear hW;have q:=bs.q;go_enter func178,ntmps178;go_wp2_with fail;rw[HW.out];have xp:=bs.b6 0;go_wp2_with fail;refine(CG.out W0).mono ?_;rintro e w1 ⟨rfl,hb⟩;clear xp;replace bs:=bs.ret hb;replace q:=bs.q;clear hb;have xp:=bs.b6 0;go_wp2_with fail;go_ret;exact⟨rfl,q⟩
  | false=>
   cases H with
   | true=>
    obtain⟨W0,hW,y0,bs⟩:=Sx.start1 w [.int .u8 k,.string S,.string NM,.slice aa n cap,.string TX,.int .i64 many] 114;have HW:=h_ hW;clear hW;have q:=bs.q;go_enter func178,ntmps178;go_wp2_with fail;rw[HW.out];have xp:=bs.b6 0;go_wp2_with fail;refine(CG.out W0).mono ?_;rintro e w1 ⟨rfl,hb⟩;clear xp;replace bs:=bs.ret hb;replace q:=bs.q;clear hb;have cl:=CL.out w1 q;have xp:=bs.b6 0;go_wp2_with fail;refine(CH.out w1 q).mono ?_;rintro e w2 ⟨rfl,hb⟩;clear xp;replace bs:=bs.ret hb;replace q:=bs.q;clear hb;clear cl;have xp:=bs.b6 0;go_wp2_with fail;go_ret;exact⟨rfl,q⟩
   | false=>
    obtain⟨W0,hW,y0,bs⟩:=Sx.start1 w [.int .u8 k,.string S,.string NM,.slice aa n cap,.string TX,.int .i64 many] 114;have HW:=h_ hW;clear hW;have q:=bs.q;go_enter func178,ntmps178;go_wp2_with fail;rw[HW.out];have xp:=bs.b6 0;go_wp2_with fail;refine(CG.out W0).mono ?_;rintro e w1 ⟨rfl,hb⟩;clear xp;replace bs:=bs.ret hb;replace q:=bs.q;clear hb;have cl:=CL.out w1 q;have xp:=bs.b6 0;go_wp2_with fail;refine(CH.out w1 q).mono ?_;rintro e w2 ⟨rfl,hb⟩;clear xp;replace bs:=bs.ret hb;replace q:=bs.q;clear hb;clear cl;have xp:=bs.b6 0;go_wp2_with fail;go_ret;exact⟨rfl,q⟩
 | true=>
  cases A with
  | false=>
   obtain⟨W0,hW,y0,bs⟩:=Sx.start1 w [.int .u8 k,.string S,.string NM,.slice aa n cap,.string TX,.int .i64 many] 114;have HW:=h_ hW;clear hW;have q:=bs.q;go_enter func178,ntmps178;go_wp2_with fail;rw[HW.out];have xp:=bs.b6 0;go_wp2_with fail;refine(CN.out W0).mono ?_;rintro e w1 ⟨rfl,hb⟩;clear xp;replace bs:=bs.ret hb;replace q:=bs.q;clear hb;have xp:=bs.b6 0;go_wp2_with fail;go_ret;exact⟨rfl,q⟩
  | true=>
   cases G with
   | true=>
    obtain⟨W0,hW,y0,bs⟩:=Sx.start1 w [.int .u8 k,.string S,.string NM,.slice aa n cap,.string TX,.int .i64 many] 114;have HW:=h_ hW;clear hW;have q:=bs.q;go_enter func178,ntmps178;go_wp2_with fail;rw[HW.out];have xp:=bs.b6 0;go_wp2_with fail;refine(CN.out W0).mono ?_;rintro e w1 ⟨rfl,hb⟩;clear xp;replace bs:=bs.ret hb;replace q:=bs.q;clear hb;have xp:=bs.b6 0;go_wp2_with fail;refine(CG.out w1).mono ?_;rintro e w2 ⟨rfl,hb⟩;clear xp;replace bs:=bs.ret hb;replace q:=bs.q;clear hb;have xp:=bs.b6 0;go_wp2_with fail;go_ret;exact⟨rfl,q⟩
   | false=>
    cases H with
    | true=>
     obtain⟨W0,hW,y0,bs⟩:=Sx.start1 w [.int .u8 k,.string S,.string NM,.slice aa n cap,.string TX,.int .i64 many] 114;have HW:=h_ hW;clear hW;have q:=bs.q;go_enter func178,ntmps178;go_wp2_with fail;rw[HW.out];have xp:=bs.b6 0;go_wp2_with fail;refine(CN.out W0).mono ?_;rintro e w1 ⟨rfl,hb⟩;clear xp;replace bs:=bs.ret hb;replace q:=bs.q;clear hb;have xp:=bs.b6 0;go_wp2_with fail;refine(CG.out w1).mono ?_;rintro e w2 ⟨rfl,hb⟩;clear xp;replace bs:=bs.ret hb;replace q:=bs.q;clear hb;have cl:=CL.out w2 q;have xp:=bs.b6 0;go_wp2_with fail;refine(CH.out w2 q).mono ?_;rintro e w3 ⟨rfl,hb⟩;clear xp;replace bs:=bs.ret hb;replace q:=bs.q;clear hb;clear cl;have xp:=bs.b6 0;go_wp2_with fail;go_ret;exact⟨rfl,q⟩
    | false=>
     obtain⟨W0,hW,y0,bs⟩:=Sx.start1 w [.int .u8 k,.string S,.string NM,.slice aa n cap,.string TX,.int .i64 many] 114;have HW:=h_ hW;clear hW;have q:=bs.q;go_enter func178,ntmps178;go_wp2_with fail;rw[HW.out];have xp:=bs.b6 0;go_wp2_with fail;refine(CN.out W0).mono ?_;rintro e w1 ⟨rfl,hb⟩;clear xp;replace bs:=bs.ret hb;replace q:=bs.q;clear hb;have xp:=bs.b6 0;go_wp2_with fail;refine(CG.out w1).mono ?_;rintro e w2 ⟨rfl,hb⟩;clear xp;replace bs:=bs.ret hb;replace q:=bs.q;clear hb;have cl:=CL.out w2 q;have xp:=bs.b6 0;go_wp2_with fail;refine(CH.out w2 q).mono ?_;rintro e w3 ⟨rfl,hb⟩;clear xp;replace bs:=bs.ret hb;replace q:=bs.q;clear hb;clear cl;have xp:=bs.b6 0;go_wp2_with fail;go_ret;exact⟨rfl,q⟩
theorem qe:∀args w,(callFunc 178 args).run prog w=.ok (.enter 178 args) w:=enters_of func178 (by kernel_rfl) rfl
structure NdFit (n:Nd):Prop where
 sp:n.2.1.length≤10000
 nm:n.2.2.1.length≤10000
 tx:n.2.2.2.2.1.length≤10000
 at':rF n.2.2.2.1
 many:n.2.2.2.2.2≤9223372036854775807
def ku (t:List Nd):Prop:=t.length≤1000∧∀n∈t,NdFit n
theorem sV (x:NdI) (L:Nat) (w:World) (hs:ndY.sub x w) (hf:NdFit x.1) (hl:L<w.heap.size) (cf:w.cell? ⟨L,0,none⟩=some (.func (.func 176) #[] #[])):Calls prog 178 #[ndG x,.pointer (some ⟨L,0,none⟩)] w (Ret w (.bool (cW x.1))):=by
 have hA:IsL atY (ndV x) (ndA x) w:=hs;unfold cW
 exact oe x.1.1 ⟨x.1.2.1.toArray⟩ ⟨x.1.2.2.1.toArray⟩ ⟨x.1.2.2.2.2.1.toArray⟩ x.2.1 (ndA x).length x.2.2 x.1.2.2.2.2.2 _ _ _ _ L w rfl hl cf (fun W=>fD _ W (by have:=hf.nm;omega)) (fun W=>qo _ W)
  fun W hb=>kO (ndV x) (.func (.func 176) #[] #[]) cQ (ndA x) W (hA.ret hb) (by have:=hf.at'.1;show x.1.2.2.2.1.length≤_;omega) ⟨_,_,rfl,qw,fun a ha W' xF=>tz a W' (hf.at'.2 a ha).2.1⟩
theorem IsL.takeS {α:Type} {Y:Ly α} {a:Addr} {n cap k:Nat} {M:List α} {w:World} (h:IsL Y (.slice (some a) n cap) M w) (hk:k≤n):IsL Y (.slice (some a) k cap) (M.take k) w:=by
 obtain⟨⟨hl,a',c',he,h1,h2⟩,⟨a2,c2,xR,hc⟩,h3⟩:=h;simp only[wo] at he xR;obtain⟨rfl,hn,rfl⟩:=he;obtain⟨rfl,_,rfl⟩:=xR
 have xK:(M.take k).length=k:=by rw[ws];omega
 refine⟨?_,⟨some a,cap,by rw[xK],by rw[xK];omega⟩,fun x hx=>h3 x (List.mem_of_mem_take hx)⟩;rw[xK];refine⟨by rw[dq,xK],some a,cap,rfl,(fun h=>by cases h),?_⟩
 rcases h2 with h2 | ⟨b,off,e,hb,yi⟩
 ·left
  omega
 ·right
  refine⟨b,off,e,hb,fun j hj=>?_⟩
  have yL:j<k*Y.n:=by rw[iN,ws] at hj;omega
  have yx:j<(Y.fl M).length:=by rw[iN,ws] at hj;omega
  have e2:(Y.fl (M.take k))[j]?=(Y.fl M)[j]?:=by rw[iN,List.getElem?_take_of_lt yL]
  rw[wh hj,wh yx] at e2;rw[yi j yx,←e2]
theorem qE (M:List At) (aa:Option Addr) (cap:Nat) (w:World) (hv:IsL atY (.slice aa M.length cap) M w) (hf:rF M):Calls prog 269 #[.slice aa M.length cap] w (Ret w (.bool (dQ M))):=by
 obtain⟨a2,c2,xR,hc⟩:=hv.form;simp only[wo,true_and] at xR;obtain⟨-,rfl⟩:=xR
 refine mZ M aa M.length cap w hv rfl hc hf fun k hk a ha W hb Lc A0 A1 hl h0 h1=>?_
 subst ha;refine kO (.slice (some a) k cap) (.func (.func 282) #[] #[.pointer (some ⟨Lc,0,none⟩)]) (fun b=>A0.toList==b.1&&A1.toList==b.2.1) (M.take k) W ((hv.takeS hk).ret hb) (by rw[ws];have:=hf.1;omega) ⟨_,_,rfl,rp,fun x hx W' xF=>?_⟩;have h:=lp A0 A1 ⟨x.1.toArray⟩ ⟨x.2.1.toArray⟩ ⟨x.2.2.toArray⟩ Lc W' (wE hl xF.size) (((ag xF).1 _ _ hl).trans h0) (((ag xF).1 _ _ hl).trans h1)
 have e:∀l:List UInt8,(⟨l.toArray⟩:ByteArray).toList=l:=fun l=>by simp
 rw[e x.1,e x.2.1] at h;exact h
theorem uF (x:NdI) (w:World) (hs:ndY.sub x w) (hf:NdFit x.1):Calls prog 247 #[ndG x] w (Ret w (.bool (dL x.1))):=by
 have hA:IsL atY (ndV x) (ndA x) w:=hs
 have hz:∀(l:List UInt8),l.length≤10000→(⟨l.toArray⟩:ByteArray).size≤10000:=fun l h=>by show l.toArray.size≤_;simpa using h
 have e0:∀(l:List UInt8),(⟨l.toArray⟩:ByteArray).toList.isEmpty=l.isEmpty:=fun l=>by simp
 have e1:((ndA x).length==0)=(ndA x).isEmpty:=by cases ndA x <;> rfl
 have h:=qx x.1.1 ⟨x.1.2.1.toArray⟩ ⟨x.1.2.2.1.toArray⟩ ⟨x.1.2.2.2.2.1.toArray⟩ x.2.1 (ndA x).length x.2.2 x.1.2.2.2.2.2 (txP x.1.2.2.2.2.1) (dg x.1.2.2.1) (txP x.1.2.1) (dQ (ndA x)) w
  (fun W hb=>qE (ndA x) x.2.1 x.2.2 W (hA.ret hb) hf.at') (fun W=>dz _ W (hz _ hf.tx)) (fun W=>dz _ W (hz _ hf.sp)) (fun W=>po _ W (by have:=hz _ hf.nm;omega))
 rw[e0,e0,e0,e1] at h;exact h
theorem rm (T:TrI) (w:World) (hs:trY.sub T w) (hf:ku (trD T)):Calls prog 182 #[trV T] w (Ret w (.int .i64 (if ed (trD T) then 0 else 8))):=by
 obtain⟨M,⟨va,vc⟩⟩:=T;have hv:IsL ndY (.slice va M.length vc) M w:=hs
 have xS:∀x∈M,NdFit x.1:=fun x hx=>hf.2 x.1 (wF hx)
 have CB:=nZ M va M.length vc w hv rfl (fun x hx=>(xS x hx).many) fun x hx W hb=>uF x W (ndY.subRet _ _ _ (hv.2.2 x hx) hb) (xS x hx)
 show Calls prog 182 #[.slice va M.length vc] w (Ret w (.int .i64 (if ed (M.map Prod.fst) then 0 else 8)))
 obtain⟨L,hL⟩:=e_ M.length;obtain⟨O,hO⟩:=e_ (ed (M.map Prod.fst));rw[hL,hO] at CB;rw[hL,hO];have CB:=h_ CB
 have NN:=fun (a:Option Addr) (n c:Nat) (W:World)=>Lib.run_eql_slice_nil (P:=prog) W 202 3 a n c 0 0 underlying202
 clear hs hf hv xS hL hO
 cases O with
 | false=>
  go_enter func182,ntmps182;go_wp2_with fail;refine CB.out.mono ?_;rintro e w1 ⟨⟨v,rfl,⟨-,rfl⟩ | ⟨h,-⟩⟩,hb⟩
  ·go_wp2_with fail
   go_ret;exact⟨rfl,hb⟩
  ·cases h
 | true=>
  go_enter func182,ntmps182;go_wp2_with fail;refine CB.out.mono ?_;rintro e w1 ⟨⟨v,rfl,⟨h,-⟩ | ⟨-,E,rfl⟩⟩,hb⟩
  ·cases h
  ·go_wp2_with fail
   go_ret;exact⟨rfl,hb⟩
theorem qO (T:TrI) (w:World) (hs:trY.sub T w) (hf:ku (trD T)):Calls prog 134 #[trV T] w (Ret w (.int .i64 (if af (trD T) then 0 else 8))):=by
 have CT:=fun (W:World) (hb:Bl w W)=>rm T W (trY.subRet _ _ _ hs hb) hf
 have CH:=fun (W:World) (hb:Bl w W) (L:Nat) (hl:L<W.heap.size) (cf:W.cell? ⟨L,0,none⟩=some (.func (.func 176) #[] #[]))=>
  o6 (trV T) (.func (.func 178) #[] #[.pointer (some ⟨L,0,none⟩)]) (fun x:NdI=>cW x.1) T.1 W (IsL.ret hs hb) (by have h:=hf.1;rw[wt] at h;omega)
   ⟨_,_,rfl,qe,fun x hx W' xF=>sV x L W' (ndY.subRet _ _ _ (hs.2.2 x hx) (hb.trans (xF.mono hb.size))) (hf.2 x.1 (wF hx)) (wE hl xF.size) (((ag xF).1 _ _ hl).trans cf)⟩
 have e:(T.1.any fun x:NdI=>cW x.1)=(trD T).any cW:=by rw[List.any_map];rfl
 simp only[e] at CH;unfold af;obtain⟨O1,h1⟩:=e_ ((trD T).any cW);obtain⟨O2,h2⟩:=e_ (ed (trD T));simp only[h1] at CH;simp only[h2] at CT;rw[h1,h2];obtain⟨v,hv⟩:=e_ (trV T);rw[hv] at CH CT ⊢;have CT:=h_ CT;have CH:=h_ CH;clear hs hf e h1 h2 hv
 cases O1 with
 | true=>
  simp only[Bool.not_true,Bool.false_and,Bool.false_eq_true,if_false];obtain⟨W0,hW,y0,bs⟩:=Sx.start1 w [.func (.func 176) #[] #[]] 178;have HW:=h_ hW;clear hW;have q:=bs.q;go_enter func134,ntmps134;go_wp2_with fail;rw[HW.out];refine(CH.out W0 q w.heap.size (bs.lt _ (wy (i:=0) rfl)) (bs.at 0 0)).mono ?_;rintro e w1 ⟨rfl,hb⟩;replace bs:=bs.ret hb;replace q:=bs.q;clear hb;go_wp2_with fail;go_ret;exact⟨rfl,q⟩
 | false=>
  cases O2 with
  | true=>
   obtain⟨W0,hW,y0,bs⟩:=Sx.start1 w [.func (.func 176) #[] #[]] 178;have HW:=h_ hW;clear hW;have q:=bs.q;go_enter func134,ntmps134;go_wp2_with fail;rw[HW.out];refine(CH.out W0 q w.heap.size (bs.lt _ (wy (i:=0) rfl)) (bs.at 0 0)).mono ?_;rintro e w1 ⟨rfl,hb⟩;replace bs:=bs.ret hb;replace q:=bs.q;clear hb;go_wp2_with fail;refine(CT.out w1 q).mono ?_;rintro e w2 ⟨rfl,hb⟩;replace bs:=bs.ret hb;replace q:=bs.q;clear hb;go_wp2_with fail;go_ret;exact⟨rfl,q⟩
  | false=>
   obtain⟨W0,hW,y0,bs⟩:=Sx.start1 w [.func (.func 176) #[] #[]] 178;have HW:=h_ hW;clear hW;have q:=bs.q;go_enter func134,ntmps134;go_wp2_with fail;rw[HW.out];refine(CH.out W0 q w.heap.size (bs.lt _ (wy (i:=0) rfl)) (bs.at 0 0)).mono ?_;rintro e w1 ⟨rfl,hb⟩;replace bs:=bs.ret hb;replace q:=bs.q;clear hb;go_wp2_with fail;refine(CT.out w1 q).mono ?_;rintro e w2 ⟨rfl,hb⟩;replace bs:=bs.ret hb;replace q:=bs.q;clear hb;go_wp2_with fail;go_ret;exact⟨rfl,q⟩
end Go.Proofs.YtjgeiieiinmdnaaGreatDoor
