/- TrD, TrE, SpA: put together by mergetpl.py. -/
import Derived.Test.YtjgeiieiinmdnaaGreatDoorLm
import Derived.Laws.MakeOwn
import Derived.Test.YtjgeiieiinmdnaaGreatDoorLb
import Derived.Lib.SliceRun
open Go.Proofs.Tryz
open Bool renaming true_and→wz
open Go.Value renaming int→wy
open Go.Value.slice renaming injEq→ws
open Go.World renaming setCells→wF
open List renaming getElem?_eq_getElem→wq,replicate→wt,length_take→wu,length_map→wv,mem_of_getElem?→wA,getElem?_eq_none→wB,getElem?_map→wC,mem_map_of_mem→wH
open Nat renaming le_refl→ww,zero_le→wD,sub_self→wE,lt_of_lt_of_le→wG
namespace Go.Proofs.YtjgeiieiinmdnaaGreatDoor
set_option maxHeartbeats 8000000
set_option maxRecDepth 100000
open Go.RowKit Go.Lib

theorem oz {f:Int→Int} {v:List Nd} {s:Bool} {a:Int} (h:a<0):dq f v s a=-1:=by
 unfold dq
 split
 ·rfl
 ·rw[decide_eq_true h];rfl
theorem p7 {v:List Nd} {d:Nat} {a:Int} (h:a<0):fy v d a=-1:=by
 cases d <;> exact oz h
theorem oI {f:Int→Int} {v:List Nd} {s:Bool} {k:Nat} (h:v.length≤k):dq f v s k=-1:=by
 unfold dq;rw[show ((k:Int)).toNat=k by omega,wB h]
theorem iA {v:List Nd} {d k:Nat} (h:v.length≤k):fy v d k=-1:=by
 cases d <;> exact oI h
theorem i9 {f:Int→Int} {v:List Nd} {m:Nat} {y l:Int} (h:y<0):bB f v (m+1) y l=-1:=by
 unfold bB
 split
 ·rfl
 ·rw[decide_eq_true h];rfl
theorem fx {f:Int→Int} {v:List Nd} {m k:Nat} {l:Int} (h:v.length≤k):bB f v (m+1) k l=-1:=by
 unfold bB;rw[show ((k:Int)).toNat=k by omega,wB h]
theorem lW {f:Int→Int} {v:List Nd} {m k:Nat} {l:Int} {n:Nd} (h:v[k]?=some n):bB f v (m+1) k l=if (l==2&&n.1==l) then -1 else bB f v m (f k) n.1:=by
 have h0:decide ((k:Int)<0)=false:=decide_eq_false (by omega)
 rw[bB,show ((k:Int)).toNat=k by omega,h];simp only[h0,Bool.false_or]
theorem gA {n:Nd} (hm:dn n=true) (h1:(n.1==1)=false):aW n=0:=by
 unfold dn uN at hm;rw[h1] at hm
 cases h2:(n.1==2) with
 | false=>rw[h2] at hm;simp at hm
 | true=>rw[h2] at hm;simp at hm;exact hm.2.2.2.1
theorem jv (T:List NdI) (va:Option Addr) (L vc B1 E B3 B4 d:Nat) (w0:World) (hv:IsL ndY (.slice va L vc) T w0) (hL:T.length=L) (hL5:L≤512) (hd:d≤12) (hmm:∀x∈T,aW x.1≤9223372036854775807)
  (CM:∀x∈T,∀W,Bl w0 W→Calls prog 247 #[.agg #[.int .u8 x.1.1,.string ⟨x.1.2.1.toArray⟩,.string ⟨x.1.2.2.1.toArray⟩,ndV x,.string ⟨x.1.2.2.2.2.1.toArray⟩,.int .i64 x.1.2.2.2.2.2]] W (Ret W (.bool (dn x.1))))
  (REC:∀d',d'+1=d→rX T va L vc B1 E B3 B4 w0 d'):rX T va L vc B1 E B3 B4 w0 d:=by
 intro a W xs ha1 ha2 hx bs;obtain⟨O,hO⟩:=e_ (fy (T.map Prod.fst) d a);rw[hO];have q:=bs.q
 have hml:(T.map Prod.fst).length=L:=by rw[wv,hL]
 have HV:=h_ hv;have HL:=h_ hL;have HML:=h_ hml;have HM:=h_ hmm;have CM:=h_ CM;have REC:=h_ REC;have HX:=h_ hx;clear hv hL hml hmm hx
 by_cases ha:a<0
 ·rw[p7 ha] at hO
  subst hO;go_enter func246,ntmps246;have c_v0:=bs.at 0 0;have c_s0:=bs.at 2 0;have c_f0:=bs.at 3 0;go_wp2_with fail;go_ret;exact⟨rfl,xs,HX.out,bs⟩
 ·obtain⟨k,rfl⟩:∃k:Nat,a=k:=⟨a.toNat,by omega⟩
  by_cases hk:k<L
  ·have hkM : k < T.length := by rw [HL.out]; exact hk
   obtain⟨x,hx⟩:=e_ (T[k]);have hkx:T[k]?=some x:=(by rw[wq hkM,hx]);have hxm:x∈T:=(by rw[←hx];exact List.getElem_mem hkM);obtain⟨b,off,cp,hv,-,hc⟩:=HV.out.cells hkx;rw[HL.out] at hv;simp only[ws,true_and] at hv;obtain⟨rfl,rfl⟩:=hv;have HC:=h_ hc
   have hkb:decide (L≤k)=false:=decide_eq_false (by omega)
   have CMX:=CM.out x hxm;have hmx:=HM.out x hxm;have hbe:=nI (T.map Prod.fst) d k x.1 (by rw[wC,hkx];rfl);rw[hO] at hbe;replace hbe:=hbe.symm;have hmany:=@gA x.1;obtain⟨P1,hP1⟩:=e_ (dn x.1);obtain⟨P2,hP2⟩:=e_ (decide (aW x.1<0));obtain⟨P3,hP3⟩:=e_ ((x.1.1==1));obtain⟨P4,hP4⟩:=e_ ((d==0));rw[hP1] at CMX hmany;rw[hP3] at hmany;rw[hP1,hP2,hP3,hP4] at hbe;have hP5:((d:Int)==0)=P4:=(by rw[←hP4,Bool.eq_iff_iff,beq_iff_eq,beq_iff_eq];omega);replace CMX:=h_ CMX;clear hc hx hkx hxm hkM hO hP1
   cases P1 with
   | false=>
    obtain rfl:-1=O:=hbe;clear hmany;go_enter func246,ntmps246;have c_v0:=bs.at 0 0;have c_s0:=bs.at 2 0;have c_f0:=bs.at 3 0
    have n0:W.cell? ⟨b,off+k*6,none⟩=some (.int .u8 x.1.1):=HC.out W q 0 _ rfl
    have n1:W.cell? ⟨b,off+k*6+1,none⟩=some (.string ⟨x.1.2.1.toArray⟩):=HC.out W q 1 _ rfl
    have n2:W.cell? ⟨b,off+k*6+2,none⟩=some (.string ⟨x.1.2.2.1.toArray⟩):=HC.out W q 2 _ rfl
    have n3:W.cell? ⟨b,off+k*6+3,none⟩=some (ndV x):=HC.out W q 3 _ rfl
    have n4:W.cell? ⟨b,off+k*6+4,none⟩=some (.string ⟨x.1.2.2.2.2.1.toArray⟩):=HC.out W q 4 _ rfl
    have n5:W.cell? ⟨b,off+k*6+5,none⟩=some (.int .i64 x.1.2.2.2.2.2):=HC.out W q 5 _ rfl
    go_wp2_with fail;refine(CMX.out W q).mono ?_;rintro e w31 ⟨rfl,hb⟩;clear c_v0 c_s0 c_f0 n0 n1 n2 n3 n4 n5;replace bs:=bs.ret hb;replace q:=bs.q;clear hb;have c_v0:=bs.at 0 0;have c_s0:=bs.at 2 0;have c_f0:=bs.at 3 0
    have n0:w31.cell? ⟨b,off+k*6,none⟩=some (.int .u8 x.1.1):=HC.out w31 q 0 _ rfl
    have n1:w31.cell? ⟨b,off+k*6+1,none⟩=some (.string ⟨x.1.2.1.toArray⟩):=HC.out w31 q 1 _ rfl
    have n2:w31.cell? ⟨b,off+k*6+2,none⟩=some (.string ⟨x.1.2.2.1.toArray⟩):=HC.out w31 q 2 _ rfl
    have n3:w31.cell? ⟨b,off+k*6+3,none⟩=some (ndV x):=HC.out w31 q 3 _ rfl
    have n4:w31.cell? ⟨b,off+k*6+4,none⟩=some (.string ⟨x.1.2.2.2.2.1.toArray⟩):=HC.out w31 q 4 _ rfl
    have n5:w31.cell? ⟨b,off+k*6+5,none⟩=some (.int .i64 x.1.2.2.2.2.2):=HC.out w31 q 5 _ rfl
    go_wp2_with fail;go_ret;exact⟨rfl,xs,HX.out,bs⟩
   | true=>
    cases P2 with
    | true=>
     obtain rfl:-1=O:=hbe;clear hmany;go_enter func246,ntmps246;have c_v0:=bs.at 0 0;have c_s0:=bs.at 2 0;have c_f0:=bs.at 3 0
     have n0:W.cell? ⟨b,off+k*6,none⟩=some (.int .u8 x.1.1):=HC.out W q 0 _ rfl
     have n1:W.cell? ⟨b,off+k*6+1,none⟩=some (.string ⟨x.1.2.1.toArray⟩):=HC.out W q 1 _ rfl
     have n2:W.cell? ⟨b,off+k*6+2,none⟩=some (.string ⟨x.1.2.2.1.toArray⟩):=HC.out W q 2 _ rfl
     have n3:W.cell? ⟨b,off+k*6+3,none⟩=some (ndV x):=HC.out W q 3 _ rfl
     have n4:W.cell? ⟨b,off+k*6+4,none⟩=some (.string ⟨x.1.2.2.2.2.1.toArray⟩):=HC.out W q 4 _ rfl
     have n5:W.cell? ⟨b,off+k*6+5,none⟩=some (.int .i64 x.1.2.2.2.2.2):=HC.out W q 5 _ rfl
     go_wp2_with fail;refine(CMX.out W q).mono ?_;rintro e w31 ⟨rfl,hb⟩;clear c_v0 c_s0 c_f0 n0 n1 n2 n3 n4 n5;replace bs:=bs.ret hb;replace q:=bs.q;clear hb;have c_v0:=bs.at 0 0;have c_s0:=bs.at 2 0;have c_f0:=bs.at 3 0
     have n0:w31.cell? ⟨b,off+k*6,none⟩=some (.int .u8 x.1.1):=HC.out w31 q 0 _ rfl
     have n1:w31.cell? ⟨b,off+k*6+1,none⟩=some (.string ⟨x.1.2.1.toArray⟩):=HC.out w31 q 1 _ rfl
     have n2:w31.cell? ⟨b,off+k*6+2,none⟩=some (.string ⟨x.1.2.2.1.toArray⟩):=HC.out w31 q 2 _ rfl
     have n3:w31.cell? ⟨b,off+k*6+3,none⟩=some (ndV x):=HC.out w31 q 3 _ rfl
     have n4:w31.cell? ⟨b,off+k*6+4,none⟩=some (.string ⟨x.1.2.2.2.2.1.toArray⟩):=HC.out w31 q 4 _ rfl
     have n5:w31.cell? ⟨b,off+k*6+5,none⟩=some (.int .i64 x.1.2.2.2.2.2):=HC.out w31 q 5 _ rfl
     go_wp2_with fail;go_ret;exact⟨rfl,xs,HX.out,bs⟩
    | false=>
     have hnn:=of_decide_eq_false hP2;obtain⟨M,hM⟩:∃M:Nat,x.1.2.2.2.2.2=M:=⟨(aW x.1).toNat,by show aW x.1=_;omega⟩;have hMt:(aW x.1).toNat=M:=(by show (x.1.2.2.2.2.2).toNat=M;omega);rw[hMt] at hbe
     have hP6:decide (x.1.2.2.2.2.2<0)=false:=hP2
     have hM0:decide ((M:Int)<0)=false:=decide_eq_false (by omega)
     cases P3 with
     | false=>
      have hz:M=0:=(by have:=hmany rfl rfl;have h2:aW x.1=M:=hM;omega);clear hmany hMt;have HZ:=h_ hz;clear hz;have H_hM:=h_ hM;clear hM;have H_hP3:=h_ hP3;clear hP3;go_enter func246,ntmps246;have c_v0:=bs.at 0 0;have c_s0:=bs.at 2 0;have c_f0:=bs.at 3 0
      have n0:W.cell? ⟨b,off+k*6,none⟩=some (.int .u8 x.1.1):=HC.out W q 0 _ rfl
      have n1:W.cell? ⟨b,off+k*6+1,none⟩=some (.string ⟨x.1.2.1.toArray⟩):=HC.out W q 1 _ rfl
      have n2:W.cell? ⟨b,off+k*6+2,none⟩=some (.string ⟨x.1.2.2.1.toArray⟩):=HC.out W q 2 _ rfl
      have n3:W.cell? ⟨b,off+k*6+3,none⟩=some (ndV x):=HC.out W q 3 _ rfl
      have n4:W.cell? ⟨b,off+k*6+4,none⟩=some (.string ⟨x.1.2.2.2.2.1.toArray⟩):=HC.out W q 4 _ rfl
      have n5:W.cell? ⟨b,off+k*6+5,none⟩=some (.int .i64 x.1.2.2.2.2.2):=HC.out W q 5 _ rfl
      go_wp2_with fail;refine(CMX.out W q).mono ?_;rintro e w31 ⟨rfl,hb⟩;clear c_v0 c_s0 c_f0 n0 n1 n2 n3 n4 n5;replace bs:=bs.ret hb;replace q:=bs.q;clear hb;have hM:=H_hM.out;clear H_hM;have hP3:=H_hP3.out;clear H_hP3;obtain⟨fr,hfr⟩:=e_ (fy (T.map Prod.fst) (d-1));rw[hfr] at hbe;have HFR:=h_ hfr;have HBE:=h_ hbe;clear hbe hfr;have c_v0:=bs.at 0 0;have c_s0:=bs.at 2 0;have c_f0:=bs.at 3 0
      have n0:w31.cell? ⟨b,off+k*6,none⟩=some (.int .u8 x.1.1):=HC.out w31 q 0 _ rfl
      have n1:w31.cell? ⟨b,off+k*6+1,none⟩=some (.string ⟨x.1.2.1.toArray⟩):=HC.out w31 q 1 _ rfl
      have n2:w31.cell? ⟨b,off+k*6+2,none⟩=some (.string ⟨x.1.2.2.1.toArray⟩):=HC.out w31 q 2 _ rfl
      have n3:w31.cell? ⟨b,off+k*6+3,none⟩=some (ndV x):=HC.out w31 q 3 _ rfl
      have n4:w31.cell? ⟨b,off+k*6+4,none⟩=some (.string ⟨x.1.2.2.2.2.1.toArray⟩):=HC.out w31 q 4 _ rfl
      have n5:w31.cell? ⟨b,off+k*6+5,none⟩=some (.int .i64 x.1.2.2.2.2.2):=HC.out w31 q 5 _ rfl
      go_wp2_with fail;clear c_v0 c_s0 c_f0 n0 n1 n2 n3 n4 n5;go_loopw [8,9,53] (fun nx la i wx=>∃(j:Nat) (y l:Int) (xs:List Value),nx=.int .i64 y∧la=.int .u8 l∧i=.int .i64 j∧j≤M∧-1≤y∧y≤L∧bB fr (T.map Prod.fst) (M-j) y l=O∧xs.length=L∧Sx w0 [(B1,[.slice (some ⟨b,off,none⟩) L vc]),(E,xs),(B3,[.slice (some ⟨E,0,none⟩) L L]),(B4,[bhF B1 B4 B3])] wx) (fun _ _ i _=>M-(intOf i).toNat)
      case atStart=>exact⟨0,k+1,1,xs,by go_num,rfl,rfl,wD _,by omega,by omega,HBE.out,HX.out,bs⟩
      case round=>
       clear bs q HX;obtain⟨j,y,l,xs,rfl,rfl,rfl,hj,hy1,hy2,hrel,hx,bs⟩:=hrel;have q:=bs.q;have HX:=h_ hx;clear hx
       by_cases hlt:j<M
       ·have:=HZ.out
        omega
       ·obtain rfl : j = M := by omega
        rw[wE] at hrel;obtain rfl:y=O:=hrel;have hjm:¬ (j:Int)<x.1.2.2.2.2.2:=(by omega)
        by_cases hy:0≤y
        ·have hke : k < xs.length := by rw [HX.out]; exact hk
         have c_v0:=bs.at 0 0;have c_s0:=bs.at 2 0;have c_f0:=bs.at 3 0;have ce:=bs.at 1 k rfl (wq hke);have fe:=bs.fz 1 k rfl (wq hke);obtain⟨W2,hW2,y2,bs2⟩:=bs.sets 1 k [.int .i64 y] rfl hke;go_wp2_with fail;simp only[wF] at hW2;rw[hW2];go_wp2_with fail;go_ret;exact⟨rfl,fL xs k [.int .i64 y],by rw[iP];exact HX.out,bs2⟩
        ·have hy0:¬ (0:Int)≤y:=hy
         have c_v0:=bs.at 0 0;have c_s0:=bs.at 2 0;have c_f0:=bs.at 3 0;go_wp2_with fail;go_ret;exact⟨rfl,xs,HX.out,bs⟩
     | true=>
      cases P4 with
      | true=>
       clear hMt;obtain rfl:-1=O:=hbe;clear hmany;have H_hM:=h_ hM;clear hM;have H_hP3:=h_ hP3;clear hP3;have H_hP5:=h_ hP5;clear hP5;have H_hP4:=h_ hP4;clear hP4;go_enter func246,ntmps246;have c_v0:=bs.at 0 0;have c_s0:=bs.at 2 0;have c_f0:=bs.at 3 0
       have n0:W.cell? ⟨b,off+k*6,none⟩=some (.int .u8 x.1.1):=HC.out W q 0 _ rfl
       have n1:W.cell? ⟨b,off+k*6+1,none⟩=some (.string ⟨x.1.2.1.toArray⟩):=HC.out W q 1 _ rfl
       have n2:W.cell? ⟨b,off+k*6+2,none⟩=some (.string ⟨x.1.2.2.1.toArray⟩):=HC.out W q 2 _ rfl
       have n3:W.cell? ⟨b,off+k*6+3,none⟩=some (ndV x):=HC.out W q 3 _ rfl
       have n4:W.cell? ⟨b,off+k*6+4,none⟩=some (.string ⟨x.1.2.2.2.2.1.toArray⟩):=HC.out W q 4 _ rfl
       have n5:W.cell? ⟨b,off+k*6+5,none⟩=some (.int .i64 x.1.2.2.2.2.2):=HC.out W q 5 _ rfl
       go_wp2_with fail;refine(CMX.out W q).mono ?_;rintro e w31 ⟨rfl,hb⟩;clear c_v0 c_s0 c_f0 n0 n1 n2 n3 n4 n5;replace bs:=bs.ret hb;replace q:=bs.q;clear hb;have hM:=H_hM.out;clear H_hM;have hP3:=H_hP3.out;clear H_hP3;have hP5:=H_hP5.out;clear H_hP5;have hP4:=H_hP4.out;clear H_hP4;have c_v0:=bs.at 0 0;have c_s0:=bs.at 2 0;have c_f0:=bs.at 3 0
       have n0:w31.cell? ⟨b,off+k*6,none⟩=some (.int .u8 x.1.1):=HC.out w31 q 0 _ rfl
       have n1:w31.cell? ⟨b,off+k*6+1,none⟩=some (.string ⟨x.1.2.1.toArray⟩):=HC.out w31 q 1 _ rfl
       have n2:w31.cell? ⟨b,off+k*6+2,none⟩=some (.string ⟨x.1.2.2.1.toArray⟩):=HC.out w31 q 2 _ rfl
       have n3:w31.cell? ⟨b,off+k*6+3,none⟩=some (ndV x):=HC.out w31 q 3 _ rfl
       have n4:w31.cell? ⟨b,off+k*6+4,none⟩=some (.string ⟨x.1.2.2.2.2.1.toArray⟩):=HC.out w31 q 4 _ rfl
       have n5:w31.cell? ⟨b,off+k*6+5,none⟩=some (.int .i64 x.1.2.2.2.2.2):=HC.out w31 q 5 _ rfl
       go_wp2_with fail;go_ret;exact⟨rfl,xs,HX.out,bs⟩
      | false=>
       have hd0:d≠0:=(by simpa using hP4);clear hmany hMt;have H_hM:=h_ hM;clear hM;have H_hP3:=h_ hP3;clear hP3;go_enter func246,ntmps246;have c_v0:=bs.at 0 0;have c_s0:=bs.at 2 0;have c_f0:=bs.at 3 0
       have n0:W.cell? ⟨b,off+k*6,none⟩=some (.int .u8 x.1.1):=HC.out W q 0 _ rfl
       have n1:W.cell? ⟨b,off+k*6+1,none⟩=some (.string ⟨x.1.2.1.toArray⟩):=HC.out W q 1 _ rfl
       have n2:W.cell? ⟨b,off+k*6+2,none⟩=some (.string ⟨x.1.2.2.1.toArray⟩):=HC.out W q 2 _ rfl
       have n3:W.cell? ⟨b,off+k*6+3,none⟩=some (ndV x):=HC.out W q 3 _ rfl
       have n4:W.cell? ⟨b,off+k*6+4,none⟩=some (.string ⟨x.1.2.2.2.2.1.toArray⟩):=HC.out W q 4 _ rfl
       have n5:W.cell? ⟨b,off+k*6+5,none⟩=some (.int .i64 x.1.2.2.2.2.2):=HC.out W q 5 _ rfl
       go_wp2_with fail;refine(CMX.out W q).mono ?_;rintro e w31 ⟨rfl,hb⟩;clear c_v0 c_s0 c_f0 n0 n1 n2 n3 n4 n5;replace bs:=bs.ret hb;replace q:=bs.q;clear hb;have hM:=H_hM.out;clear H_hM;have hP3:=H_hP3.out;clear H_hP3;obtain⟨fr,hfr⟩:=e_ (fy (T.map Prod.fst) (d-1));rw[hfr] at hbe;have HFR:=h_ hfr;have HBE:=h_ hbe;clear hbe hfr;have c_v0:=bs.at 0 0;have c_s0:=bs.at 2 0;have c_f0:=bs.at 3 0
       have n0:w31.cell? ⟨b,off+k*6,none⟩=some (.int .u8 x.1.1):=HC.out w31 q 0 _ rfl
       have n1:w31.cell? ⟨b,off+k*6+1,none⟩=some (.string ⟨x.1.2.1.toArray⟩):=HC.out w31 q 1 _ rfl
       have n2:w31.cell? ⟨b,off+k*6+2,none⟩=some (.string ⟨x.1.2.2.1.toArray⟩):=HC.out w31 q 2 _ rfl
       have n3:w31.cell? ⟨b,off+k*6+3,none⟩=some (ndV x):=HC.out w31 q 3 _ rfl
       have n4:w31.cell? ⟨b,off+k*6+4,none⟩=some (.string ⟨x.1.2.2.2.2.1.toArray⟩):=HC.out w31 q 4 _ rfl
       have n5:w31.cell? ⟨b,off+k*6+5,none⟩=some (.int .i64 x.1.2.2.2.2.2):=HC.out w31 q 5 _ rfl
       go_wp2_with fail;clear c_v0 c_s0 c_f0 n0 n1 n2 n3 n4 n5;go_loopw [8,9,53] (fun nx la i wx=>∃(j:Nat) (y l:Int) (xs:List Value),nx=.int .i64 y∧la=.int .u8 l∧i=.int .i64 j∧j≤M∧-1≤y∧y≤L∧bB fr (T.map Prod.fst) (M-j) y l=O∧xs.length=L∧Sx w0 [(B1,[.slice (some ⟨b,off,none⟩) L vc]),(E,xs),(B3,[.slice (some ⟨E,0,none⟩) L L]),(B4,[bhF B1 B4 B3])] wx) (fun _ _ i _=>M-(intOf i).toNat)
       case atStart=>exact⟨0,k+1,1,xs,by go_num,rfl,rfl,wD _,by omega,by omega,HBE.out,HX.out,bs⟩
       case round=>
        clear bs q HX;obtain⟨j,y,l,xs,rfl,rfl,rfl,hj,hy1,hy2,hrel,hx,bs⟩:=hrel;have q:=bs.q;have HX:=h_ hx;clear hx
        by_cases hlt:j<M
        ·have hjm : (j : Int) < x.1.2.2.2.2.2 := by omega
         obtain⟨m,hm⟩:∃m,M-j=m+1:=⟨M-j-1,by omega⟩;rw[hm] at hrel
         by_cases hy:y<0
         ·rw[i9 hy] at hrel
          subst hrel;have c_v0:=bs.at 0 0;have c_s0:=bs.at 2 0;have c_f0:=bs.at 3 0;go_wp2_with fail;go_ret;exact⟨rfl,xs,HX.out,bs⟩
         ·obtain⟨z,rfl⟩:∃z:Nat,y=z:=⟨y.toNat,by omega⟩
          by_cases hz:z<L
          ·have hzM : z < T.length := by rw [HL.out]; exact hz
           obtain⟨x2,hx2⟩:=e_ (T[z]);have hkx2:T[z]?=some x2:=(by rw[wq hzM,hx2]);obtain⟨b2,off2,cp2,hv2,-,hc2⟩:=HV.out.cells hkx2;rw[HL.out] at hv2;simp only[ws,true_and,Option.some.injEq,Addr.mk.injEq,and_true] at hv2;obtain⟨⟨rfl,rfl⟩,rfl⟩:=hv2;have HC2:=h_ hc2;rw[lW (n:=x2.1) (by rw[wC,hkx2];rfl)] at hrel;obtain⟨C1,hC1⟩:=e_ ((l==2));obtain⟨C2,hC2⟩:=e_ ((x2.1.1==l));rw[hC1,hC2] at hrel;have HR:=h_ hrel;have RC:=h_ (REC.out (d-1) (by omega));have HMJ:=h_ hm;clear hc2 hkx2 hx2 hzM hrel hm
           cases C1 with
           | false=>
            have c_v0:=bs.at 0 0;have c_s0:=bs.at 2 0;have c_f0:=bs.at 3 0
            have n0:wr.cell? ⟨b,off+z*6,none⟩=some (.int .u8 x2.1.1):=HC2.out wr q 0 _ rfl
            have n1:wr.cell? ⟨b,off+z*6+1,none⟩=some (.string ⟨x2.1.2.1.toArray⟩):=HC2.out wr q 1 _ rfl
            have n2:wr.cell? ⟨b,off+z*6+2,none⟩=some (.string ⟨x2.1.2.2.1.toArray⟩):=HC2.out wr q 2 _ rfl
            have n3:wr.cell? ⟨b,off+z*6+3,none⟩=some (ndV x2):=HC2.out wr q 3 _ rfl
            have n4:wr.cell? ⟨b,off+z*6+4,none⟩=some (.string ⟨x2.1.2.2.2.2.1.toArray⟩):=HC2.out wr q 4 _ rfl
            have n5:wr.cell? ⟨b,off+z*6+5,none⟩=some (.int .i64 x2.1.2.2.2.2.2):=HC2.out wr q 5 _ rfl
            have CR:=h_ (RC.out z wr xs (by omega) (by omega) HX.out bs);have e1:((d-1:Nat):Int)=(d:Int)-1:=(by omega);rw[e1,HFR.out] at CR;clear e1;go_wp2_with fail;refine CR.out.mono ?_;rintro e w60 ⟨rfl,xs2,hx2,bs2⟩;clear c_v0 c_s0 c_f0 n0 n1 n2 n3 n4 n5;have hr:=bE (T.map Prod.fst) (d-1) z;rw[HML.out,HFR.out] at hr;have hjb:(j:Int)+1≤9223372036854775807:=(by have:=hmx;have h2:aW x.1=M:=hM;omega);go_wp2_with fail;go_roundw
            case rel=>exact⟨j+1,fr z,x2.1.1,xs2,rfl,rfl,by go_num,by omega,hr.1,hr.2,by rw[show M-(j+1)=m by have:=HMJ.out;omega];exact HR.out,hx2,bs2⟩
            case measure=>simp[intOf];omega
           | true=>
            cases C2 with
            | true=>
             have c_v0:=bs.at 0 0;have c_s0:=bs.at 2 0;have c_f0:=bs.at 3 0
             have n0:wr.cell? ⟨b,off+z*6,none⟩=some (.int .u8 x2.1.1):=HC2.out wr q 0 _ rfl
             have n1:wr.cell? ⟨b,off+z*6+1,none⟩=some (.string ⟨x2.1.2.1.toArray⟩):=HC2.out wr q 1 _ rfl
             have n2:wr.cell? ⟨b,off+z*6+2,none⟩=some (.string ⟨x2.1.2.2.1.toArray⟩):=HC2.out wr q 2 _ rfl
             have n3:wr.cell? ⟨b,off+z*6+3,none⟩=some (ndV x2):=HC2.out wr q 3 _ rfl
             have n4:wr.cell? ⟨b,off+z*6+4,none⟩=some (.string ⟨x2.1.2.2.2.2.1.toArray⟩):=HC2.out wr q 4 _ rfl
             have n5:wr.cell? ⟨b,off+z*6+5,none⟩=some (.int .i64 x2.1.2.2.2.2.2):=HC2.out wr q 5 _ rfl
             obtain rfl:-1=O:=HR.out;go_wp2_with fail;go_ret;exact⟨rfl,xs,HX.out,bs⟩
            | false=>
             have c_v0:=bs.at 0 0;have c_s0:=bs.at 2 0;have c_f0:=bs.at 3 0
             have n0:wr.cell? ⟨b,off+z*6,none⟩=some (.int .u8 x2.1.1):=HC2.out wr q 0 _ rfl
             have n1:wr.cell? ⟨b,off+z*6+1,none⟩=some (.string ⟨x2.1.2.1.toArray⟩):=HC2.out wr q 1 _ rfl
             have n2:wr.cell? ⟨b,off+z*6+2,none⟩=some (.string ⟨x2.1.2.2.1.toArray⟩):=HC2.out wr q 2 _ rfl
             have n3:wr.cell? ⟨b,off+z*6+3,none⟩=some (ndV x2):=HC2.out wr q 3 _ rfl
             have n4:wr.cell? ⟨b,off+z*6+4,none⟩=some (.string ⟨x2.1.2.2.2.2.1.toArray⟩):=HC2.out wr q 4 _ rfl
             have n5:wr.cell? ⟨b,off+z*6+5,none⟩=some (.int .i64 x2.1.2.2.2.2.2):=HC2.out wr q 5 _ rfl
             have CR:=h_ (RC.out z wr xs (by omega) (by omega) HX.out bs);have e1:((d-1:Nat):Int)=(d:Int)-1:=(by omega);rw[e1,HFR.out] at CR;clear e1;go_wp2_with fail;refine CR.out.mono ?_;rintro e w60 ⟨rfl,xs2,hx2,bs2⟩;clear c_v0 c_s0 c_f0 n0 n1 n2 n3 n4 n5;have hr:=bE (T.map Prod.fst) (d-1) z;rw[HML.out,HFR.out] at hr;have hjb:(j:Int)+1≤9223372036854775807:=(by have:=hmx;have h2:aW x.1=M:=hM;omega);go_wp2_with fail;go_roundw
             case rel=>exact⟨j+1,fr z,x2.1.1,xs2,rfl,rfl,by go_num,by omega,hr.1,hr.2,by rw[show M-(j+1)=m by have:=HMJ.out;omega];exact HR.out,hx2,bs2⟩
             case measure=>simp[intOf];omega
          ·obtain rfl : z = L := by omega
           rw[fx (by rw[HML.out];exact ww _)] at hrel;subst hrel;have c_v0:=bs.at 0 0;have c_s0:=bs.at 2 0;have c_f0:=bs.at 3 0;go_wp2_with fail;go_ret;exact⟨rfl,xs,HX.out,bs⟩
        ·obtain rfl : j = M := by omega
         rw[wE] at hrel;obtain rfl:y=O:=hrel;have hjm:¬ (j:Int)<x.1.2.2.2.2.2:=(by omega)
         by_cases hy:0≤y
         ·have hke : k < xs.length := by rw [HX.out]; exact hk
          have c_v0:=bs.at 0 0;have c_s0:=bs.at 2 0;have c_f0:=bs.at 3 0;have ce:=bs.at 1 k rfl (wq hke);have fe:=bs.fz 1 k rfl (wq hke);obtain⟨W2,hW2,y2,bs2⟩:=bs.sets 1 k [.int .i64 y] rfl hke;go_wp2_with fail;simp only[wF] at hW2;rw[hW2];go_wp2_with fail;go_ret;exact⟨rfl,fL xs k [.int .i64 y],by rw[iP];exact HX.out,bs2⟩
         ·have hy0:¬ (0:Int)≤y:=hy
          have c_v0:=bs.at 0 0;have c_s0:=bs.at 2 0;have c_f0:=bs.at 3 0;go_wp2_with fail;go_ret;exact⟨rfl,xs,HX.out,bs⟩
  ·obtain rfl : k = L := by omega
   rw[iA (by rw[HML.out];exact ww _)] at hO;subst hO;go_enter func246,ntmps246;have c_v0:=bs.at 0 0;have c_s0:=bs.at 2 0;have c_f0:=bs.at 3 0;go_wp2_with fail;go_ret;exact⟨rfl,xs,HX.out,bs⟩

theorem oR:(prog.info? 3).map (fun i=>(i.zero,i.size,i.bytes))=some (some (.int .i64 0),1,8):=by kernel_rfl
theorem pt (z:Value) (n:Nat):madeCells #[z] n=(wt n z).toArray:=by
 apply Array.ext
 ·simp[madeCells]
 ·intro i h1 h2
  simp[madeCells,Nat.mod_one]
theorem uO (n:Nat) (hn:n≤100000) (w:World):(Instr.makeSlice 202 (.int .i64 n) (.int .i64 n)).run prog w=.ok (.slice (some ⟨w.heap.size,0,none⟩) n n) (w.alloc (.cells (wt n (wy .i64 0)).toArray 3)):=by
 obtain⟨i0,hi,hz0,hz1,hz2⟩:=info_parts oR;have h:=run_makeSlice (P:=prog) w 202 3 i0 (.int .i64 0) underlying202 hi hz0 .i64 .i64 n n (by omega) (Int.le_refl _) (by rw[hz1];simp;omega) (by rw[hz2];omega) (by omega);rw[hz1] at h;simp only[Int.toNat_natCast,Nat.mul_one] at h;rw[←pt];exact h
theorem sY (T:List NdI) (va:Option Addr) (L vc B1 E B3 B4:Nat) (w0:World) (hv:IsL ndY (.slice va L vc) T w0) (hL:T.length=L) (hL5:L≤512) (hmm:∀x∈T,aW x.1≤9223372036854775807)
  (CM:∀x∈T,∀W,Bl w0 W→Calls prog 247 #[.agg #[.int .u8 x.1.1,.string ⟨x.1.2.1.toArray⟩,.string ⟨x.1.2.2.1.toArray⟩,ndV x,.string ⟨x.1.2.2.2.2.1.toArray⟩,.int .i64 x.1.2.2.2.2.2]] W (Ret W (.bool (dn x.1)))):∀d,d≤12→rX T va L vc B1 E B3 B4 w0 d:=by
 intro d
 induction d with
 | zero=>exact fun h=>jv T va L vc B1 E B3 B4 0 w0 hv hL hL5 h hmm CM fun d' hd'=>by omega
 | succ d ih=>
  exact fun h=>jv T va L vc B1 E B3 B4 (d+1) w0 hv hL hL5 h hmm CM fun d' hd'=>by
   obtain rfl:d'=d:=by omega
   exact ih (by omega)
def nj (v:List Nd):Int:=(v.head?.map (·.1)).getD 0
def dH (v:List Nd):Bool:=!v.isEmpty&&(decide (v.length≤512)&&((nj v==1)&&(fy v 12 0==(v.length:Int))))
def vu (w:World) (b:Bool) (L:Nat) (e:Ending) (w':World):Prop:=(∃v,e=.returned v∧(b=false∧v=.slice none 0 0∨b=true∧∃E,v=.slice (some E) L L))∧Bl w w'
theorem oY (T:List NdI) (va:Option Addr) (L vc:Nat) (w:World) (hv:IsL ndY (.slice va L vc) T w) (hL:T.length=L) (hmm:∀x∈T,aW x.1≤9223372036854775807)
  (CM:∀x∈T,∀W,Bl w W→Calls prog 247 #[.agg #[.int .u8 x.1.1,.string ⟨x.1.2.1.toArray⟩,.string ⟨x.1.2.2.1.toArray⟩,ndV x,.string ⟨x.1.2.2.2.2.1.toArray⟩,.int .i64 x.1.2.2.2.2.2]] W (Ret W (.bool (dn x.1)))):Calls prog 216 #[.slice va L vc] w (vu w (dH (T.map Prod.fst)) L):=by
 obtain⟨O,hO⟩:=e_ (dH (T.map Prod.fst));rw[hO];unfold dH at hO
 have hml:(T.map Prod.fst).length=L:=by rw[wv,hL]
 rw[hml] at hO
 by_cases h0:L=0
 ·subst h0
  have e:T=[]:=List.eq_nil_of_length_eq_zero hL
  rw[e] at hO;obtain rfl:false=O:=hO;clear e hL hmm CM hml;obtain⟨W0,hW,y0,bs⟩:=Sx.start1 w [.slice va 0 vc] 108;have HW:=h_ hW;clear hW;have q:=bs.q;go_enter func216,ntmps216;go_upto_region 1 with fail;rw[HW.out];have c_v0:=bs.at 0 0;go_wp2_with fail;go_ret;exact⟨⟨_,rfl,.inl ⟨rfl,rfl⟩⟩,q⟩
 by_cases h5:L≤512
 ·have hk0 : 0 < T.length := by omega
  obtain⟨x,hx⟩:=e_ (T[0])
  have hkx:T[0]?=some x:=by rw[wq hk0,hx]
  obtain⟨b,off,cp,hf,-,hc⟩:=hv.cells hkx;rw[hL] at hf;simp only[ws,true_and] at hf;obtain⟨rfl,rfl⟩:=hf
  have hk:nj (T.map Prod.fst)=x.1.1:=by unfold nj;rw[List.head?_map,List.head?_eq_getElem?,hkx];rfl
  have hie:(T.map Prod.fst).isEmpty=false:=by cases hT:T.map Prod.fst with | nil=>rw[hT] at hml;simp at hml;omega | cons _ _=>rfl
  rw[hk,hie,decide_eq_true h5,Bool.not_false,wz,wz] at hO;obtain⟨K,hK1⟩:=e_ ((x.1.1==1));rw[hK1] at hO
  have hK2:(x.1.1 != 1)=!K:=by rw[←hK1];rfl
  have HC:=h_ hc
  have c5:¬ (512:Int)<(L:Int):=by omega
  have c0:((L:Int)==0)=false:=beq_eq_false_iff_ne.2 (by omega)
  clear hc hkx hx hk hie hk0
  cases K with
  | false=>
   obtain rfl:false=O:=hO;clear hv hL hmm CM hml;obtain⟨W0,hW,y0,bs⟩:=Sx.start1 w [.slice (some ⟨b,off,none⟩) L vc] 108;have HW:=h_ hW;clear hW;have q:=bs.q;go_enter func216,ntmps216;go_upto_region 1 with fail;rw[HW.out];have c_v0:=bs.at 0 0
   have n0:W0.cell? ⟨b,off,none⟩=some (.int .u8 x.1.1):=HC.out W0 q 0 _ rfl
   go_wp2_with fail;go_ret;exact⟨⟨_,rfl,.inl ⟨rfl,rfl⟩⟩,q⟩
  | true=>
   rw[wz] at hO;have WK:=h_ (sY T (some ⟨b,off,none⟩) L vc w.heap.size (w.heap.size+1) (w.heap.size+1+1) (w.heap.size+1+1+1) w hv hL h5 hmm CM 12 (ww _));have hr:=bE (T.map Prod.fst) 12 0;rw[hml] at hr;obtain⟨Z,hZ⟩:=e_ (fy (T.map Prod.fst) 12 0);rw[hZ] at hr hO;have HO:=h_ hO;have HZ:=h_ hZ;have en:=oX;have mk:=uO L (by omega);clear hv hL hmm CM hml hO hZ;obtain⟨W0,hW,y0,bs⟩:=Sx.start1 w [.slice (some ⟨b,off,none⟩) L vc] 108;have HW:=h_ hW;clear hW;have q:=bs.q;go_enter func216,ntmps216;go_upto_region 1 with fail;rw[HW.out];have c_v0:=bs.at 0 0
   have n0:W0.cell? ⟨b,off,none⟩=some (.int .u8 x.1.1):=HC.out W0 q 0 _ rfl
   go_wp2_with fail;clear c_v0;clear n0;obtain⟨w2,hw2,y2,al,bs⟩:=bs.alloc (w.heap.size+1) y0 (wt L (wy .i64 0)) 3;clear al;obtain⟨w3,hw3,y3,al,bs⟩:=bs.alloc (w.heap.size+1+1) y2 [.slice (some ⟨w.heap.size+1,0,none⟩) L L] 202;clear al;obtain⟨w4,hw4,y4,al,bs⟩:=bs.alloc (w.heap.size+1+1+1) y3 [bhF w.heap.size (w.heap.size+1+1+1) (w.heap.size+1+1)] 229;clear al;rw[List.toArray_replicate] at hw2;simp only[bhF] at hw4;rw[hw2,hw3,hw4];replace q:=bs.q;replace bs:=bs.ret (Below.drew (bQ _));replace q:=bs.q
   have y11:w4.drew.heap.size=w4.heap.size:=rfl
   refine wp_region_held_drew (S:=fun w'=>w'.cell? ⟨w.heap.size,0,none⟩=some (.slice (some ⟨b,off,none⟩) L vc)∧w'.cell? ⟨w.heap.size+1+1+1,0,none⟩=some (bhF w.heap.size (w.heap.size+1+1+1) (w.heap.size+1+1))) (by kernel_rfl) ⟨bs.at 0 0,bs.at 3 0⟩ (fun hH=>?_);generalize w4.drew=w11 at bs q y11 hH ⊢;refine rS [(0,some 24),(2,some 26),(3,some 27)] ?_
   iterate 3 refine aS ?_
   refine rE ?_
   refine aC (i:=1) fun K hK=>?_
   go_simp;have CW:=WK.out 0 w11 (wt L (wy .i64 0)) (by omega) (by omega) (by simp) bs;rw[HZ.out] at CW;replace CW:=h_ CW;refine CW.out.mono ?_;rintro e w9 ⟨rfl,xs2,hx2,bs2⟩;clear bs q;have bs:=bs2;clear bs2;have q:=bs.q;go_simp;clear hH;refine hK.out _ _ ⟨bs.at 0 0,bs.at 3 0⟩ (fun hH=>?_);clear hK K;refine rS [(4,some 28)] ?_;refine aS ?_;refine rE ?_;refine aD ?_;clear hH
   cases O with
   | true=>
    have hne:(Z != (L:Int))=false:=(by rw[bne,HO.out];rfl);have c_s0:=bs.at 2 0;go_wp2_with fail;go_ret;exact⟨⟨_,rfl,.inr ⟨rfl,_,rfl⟩⟩,q⟩
   | false=>
    have hne:(Z != (L:Int))=true:=(by rw[bne,HO.out];rfl);have c_s0:=bs.at 2 0;go_wp2_with fail;go_ret;exact⟨⟨_,rfl,.inl ⟨rfl,rfl⟩⟩,q⟩
 ·obtain rfl : false = O := by rw [← hO, decide_eq_false h5]; simp
  have c5:(512:Int)<(L:Int):=by omega
  have c0:((L:Int)==0)=false:=beq_eq_false_iff_ne.2 (by omega)
  clear hv hL hmm CM hml hO;obtain⟨W0,hW,y0,bs⟩:=Sx.start1 w [.slice va L vc] 108;have HW:=h_ hW;clear hW;have q:=bs.q;go_enter func216,ntmps216;go_upto_region 1 with fail;rw[HW.out];have c_v0:=bs.at 0 0;go_wp2_with fail;go_ret;exact⟨⟨_,rfl,.inl ⟨rfl,rfl⟩⟩,q⟩

abbrev vn:List UInt8:=[104,116,116,112,58,47,47,119,119,119,46,119,51,46,111,114,103,47,88,77,76,47,49,57,57,56,47,110,97,109,101,115,112,97,99,101]
abbrev dS:List UInt8:=[104,116,116,112,58,47,47,119,119,119,46,119,51,46,111,114,103,47,50,48,48,48,47,120,109,108,110,115,47]
def rA (s:List UInt8):Bool:=s==vn||s==dS
def cM (a:At):Bool:=!aE a.2.1||((a.1.isEmpty&&a.2.1==[120,109,108,110,115])||a.1==dS)
def cH (n:Nd):Bool:=((n.1==1)&&!aE n.2.2.1)||(rA n.2.1||n.2.2.2.1.any cM)
def aA (v:List Nd):Bool:=!v.any cH&&dH v
theorem cw (a b:List UInt8):((⟨a.toArray⟩:ByteArray).toList==b)=(a==b):=by simp
theorem mv (S:ByteArray) (A B:Bool) (w:World) (h1:(S.toList==[104,116,116,112,58,47,47,119,119,119,46,119,51,46,111,114,103,47,88,77,76,47,49,57,57,56,47,110,97,109,101,115,112,97,99,101])=A) (h2:(S.toList==[104,116,116,112,58,47,47,119,119,119,46,119,51,46,111,114,103,47,50,48,48,48,47,120,109,108,110,115,47])=B):Calls prog 179 #[.string S] w fun e w'=>e=.returned (.bool (A||B))∧w'=w:=by
 cases A with
 | true=>
  go_enter func179,ntmps179;go_wp2_with fail;go_ret;exact⟨rfl,rfl⟩
 | false=>
  cases B with
  | true=>
   go_enter func179,ntmps179;go_wp2_with fail;go_ret;exact⟨rfl,rfl⟩
  | false=>
   go_enter func179,ntmps179;go_wp2_with fail;go_ret;exact⟨rfl,rfl⟩
theorem qv (s:List UInt8) (w:World):Calls prog 179 #[.string ⟨s.toArray⟩] w (Ret w (.bool (rA s))):=
 (mv ⟨s.toArray⟩ _ _ w (cw s _) (cw s _)).mono fun e w' ⟨h1,h2⟩=>⟨h1,by rw[h2];exact bQ _⟩
theorem nB (S NM V:ByteArray) (A B C D:Bool) (w:World) (h2:S.toList.isEmpty=B) (h3:(NM.toList==[120,109,108,110,115])=C) (h4:(S.toList==[104,116,116,112,58,47,47,119,119,119,46,119,51,46,111,114,103,47,50,48,48,48,47,120,109,108,110,115,47])=D)
  (CN:∀W,Calls prog 177 #[.string NM] W (Ret W (.bool A))):
  Calls prog 176 #[.agg #[.string S,.string NM,.string V]] w (Ret w (.bool (!A||((B&&C)||D)))):=by
 have CN:=h_ CN;have h2:=h_ h2
 cases A with
 | false=>
  obtain⟨W0,hW,y0,bs⟩:=Sx.start1 w [.string S,.string NM,.string V] 160;have HW:=h_ hW;clear hW;have q:=bs.q;go_enter func176,ntmps176;go_wp2_with fail;rw[HW.out];have c_a0:=bs.b3 0;go_wp2_with fail;refine(CN.out W0).mono ?_;rintro e w1 ⟨rfl,hb⟩;clear c_a0;replace bs:=bs.ret hb;replace q:=bs.q;clear hb;have c_a0:=bs.b3 0;go_wp2_with fail;go_ret;exact⟨rfl,q⟩
 | true=>
  cases B with
  | true=>
   obtain rfl:=bW h2.out
   obtain rfl:D=false:=by rw[←h4];simp
   clear h2
   cases C with
   | true=>
    obtain⟨W0,hW,y0,bs⟩:=Sx.start1 w [.string ⟨#[]⟩,.string NM,.string V] 160;have HW:=h_ hW;clear hW;have q:=bs.q;go_enter func176,ntmps176;go_wp2_with fail;rw[HW.out];have c_a0:=bs.b3 0;go_wp2_with fail;refine(CN.out W0).mono ?_;rintro e w1 ⟨rfl,hb⟩;clear c_a0;replace bs:=bs.ret hb;replace q:=bs.q;clear hb;have c_a0:=bs.b3 0;go_wp2_with fail;go_ret;exact⟨rfl,q⟩
   | false=>
    obtain⟨W0,hW,y0,bs⟩:=Sx.start1 w [.string ⟨#[]⟩,.string NM,.string V] 160;have HW:=h_ hW;clear hW;have q:=bs.q;go_enter func176,ntmps176;go_wp2_with fail;rw[HW.out];have c_a0:=bs.b3 0;go_wp2_with fail;refine(CN.out W0).mono ?_;rintro e w1 ⟨rfl,hb⟩;clear c_a0;replace bs:=bs.ret hb;replace q:=bs.q;clear hb;have c_a0:=bs.b3 0;go_wp2_with fail;go_ret;exact⟨rfl,q⟩
  | false=>
   have p2:=bH h2.out;have e2:=am (s:=S) p2;have f2:=au (s:=S) p2;clear h3
   cases D with
   | true=>
    obtain⟨W0,hW,y0,bs⟩:=Sx.start1 w [.string S,.string NM,.string V] 160;have HW:=h_ hW;clear hW;have q:=bs.q;go_enter func176,ntmps176;go_wp2_with fail;rw[HW.out];have c_a0:=bs.b3 0;go_wp2_with fail;refine(CN.out W0).mono ?_;rintro e w1 ⟨rfl,hb⟩;clear c_a0;replace bs:=bs.ret hb;replace q:=bs.q;clear hb;have c_a0:=bs.b3 0;go_wp2_with fail;go_ret;exact⟨rfl,q⟩
   | false=>
    obtain⟨W0,hW,y0,bs⟩:=Sx.start1 w [.string S,.string NM,.string V] 160;have HW:=h_ hW;clear hW;have q:=bs.q;go_enter func176,ntmps176;go_wp2_with fail;rw[HW.out];have c_a0:=bs.b3 0;go_wp2_with fail;refine(CN.out W0).mono ?_;rintro e w1 ⟨rfl,hb⟩;clear c_a0;replace bs:=bs.ret hb;replace q:=bs.q;clear hb;have c_a0:=bs.b3 0;go_wp2_with fail;go_ret;exact⟨rfl,q⟩
theorem qa:∀args w,(callFunc 176 args).run prog w=.ok (.enter 176 args) w:=enters_of func176 (by kernel_rfl) rfl
theorem fu (s:List UInt8) (w:World) (hs:s.length≤1000000):Calls prog 177 #[.string ⟨s.toArray⟩] w (Ret w (.bool (aE s))):=
 (io ⟨s.toArray⟩ w (by show s.toArray.size≤_;simpa using hs)).mono fun e w' ⟨h1,h2⟩=>⟨h1,by rw[h2];exact bQ _⟩
theorem si (x:At) (w:World) (h:x.2.1.length≤10000):Calls prog 176 #[atG x] w (Ret w (.bool (cM x))):=by
 unfold cM
 exact nB ⟨x.1.toArray⟩ ⟨x.2.1.toArray⟩ ⟨x.2.2.toArray⟩ _ _ _ _ w (by simp) (cw _ _) (cw _ _) fun W=>fu x.2.1 W (by omega)
theorem oZ (k:Int) (S NM TX:ByteArray) (aa:Option Addr) (n cap:Nat) (many:Int) (K A G H:Bool) (L:Nat) (w:World) (hk:(k==1)=K) (hl:L<w.heap.size) (cf:w.cell? ⟨L,0,none⟩=some (.func (.func 176) #[] #[]))
  (CN:∀W,Calls prog 177 #[.string NM] W (Ret W (.bool A)))
  (CG:∀W,Calls prog 179 #[.string S] W (Ret W (.bool G)))
  (CH:∀W,Bl w W→Calls prog 180 #[.slice aa n cap,.func (.func 176) #[] #[]] W (Ret W (.bool H))):
  Calls prog 178 #[.agg #[.int .u8 k,.string S,.string NM,.slice aa n cap,.string TX,.int .i64 many],.pointer (some ⟨L,0,none⟩)] w (Ret w (.bool ((K&&!A)||(G||H)))):=by
 have CN:=h_ CN;have CG:=h_ CG;have CH:=h_ CH
 have CL:=h_ fun (w':World) (hb:Bl w w')=>show w'.cell? ⟨L,0,none⟩=some (.func (.func 176) #[] #[]) from ((af hb).1 _ _ hl).trans cf
 clear cf hl
 cases K with
 | false=>
  cases G with
  | true=>
   obtain⟨W0,hW,y0,bs⟩:=Sx.start1 w [.int .u8 k,.string S,.string NM,.slice aa n cap,.string TX,.int .i64 many] 114;have HW:=h_ hW;clear hW;have q:=bs.q;go_enter func178,ntmps178;go_wp2_with fail;rw[HW.out];have c_n0:=bs.b6 0;go_wp2_with fail;refine(CG.out W0).mono ?_;rintro e w1 ⟨rfl,hb⟩;clear c_n0;replace bs:=bs.ret hb;replace q:=bs.q;clear hb;have c_n0:=bs.b6 0;go_wp2_with fail;go_ret;exact⟨rfl,q⟩
  | false=>
   cases H with
   | true=>
    obtain⟨W0,hW,y0,bs⟩:=Sx.start1 w [.int .u8 k,.string S,.string NM,.slice aa n cap,.string TX,.int .i64 many] 114;have HW:=h_ hW;clear hW;have q:=bs.q;go_enter func178,ntmps178;go_wp2_with fail;rw[HW.out];have c_n0:=bs.b6 0;go_wp2_with fail;refine(CG.out W0).mono ?_;rintro e w1 ⟨rfl,hb⟩;clear c_n0;replace bs:=bs.ret hb;replace q:=bs.q;clear hb;have cl:=CL.out w1 q;have c_n0:=bs.b6 0;go_wp2_with fail;refine(CH.out w1 q).mono ?_;rintro e w2 ⟨rfl,hb⟩;clear c_n0;replace bs:=bs.ret hb;replace q:=bs.q;clear hb;clear cl;have c_n0:=bs.b6 0;go_wp2_with fail;go_ret;exact⟨rfl,q⟩
   | false=>
    obtain⟨W0,hW,y0,bs⟩:=Sx.start1 w [.int .u8 k,.string S,.string NM,.slice aa n cap,.string TX,.int .i64 many] 114;have HW:=h_ hW;clear hW;have q:=bs.q;go_enter func178,ntmps178;go_wp2_with fail;rw[HW.out];have c_n0:=bs.b6 0;go_wp2_with fail;refine(CG.out W0).mono ?_;rintro e w1 ⟨rfl,hb⟩;clear c_n0;replace bs:=bs.ret hb;replace q:=bs.q;clear hb;have cl:=CL.out w1 q;have c_n0:=bs.b6 0;go_wp2_with fail;refine(CH.out w1 q).mono ?_;rintro e w2 ⟨rfl,hb⟩;clear c_n0;replace bs:=bs.ret hb;replace q:=bs.q;clear hb;clear cl;have c_n0:=bs.b6 0;go_wp2_with fail;go_ret;exact⟨rfl,q⟩
 | true=>
  cases A with
  | false=>
   obtain⟨W0,hW,y0,bs⟩:=Sx.start1 w [.int .u8 k,.string S,.string NM,.slice aa n cap,.string TX,.int .i64 many] 114;have HW:=h_ hW;clear hW;have q:=bs.q;go_enter func178,ntmps178;go_wp2_with fail;rw[HW.out];have c_n0:=bs.b6 0;go_wp2_with fail;refine(CN.out W0).mono ?_;rintro e w1 ⟨rfl,hb⟩;clear c_n0;replace bs:=bs.ret hb;replace q:=bs.q;clear hb;have c_n0:=bs.b6 0;go_wp2_with fail;go_ret;exact⟨rfl,q⟩
  | true=>
   cases G with
   | true=>
    obtain⟨W0,hW,y0,bs⟩:=Sx.start1 w [.int .u8 k,.string S,.string NM,.slice aa n cap,.string TX,.int .i64 many] 114;have HW:=h_ hW;clear hW;have q:=bs.q;go_enter func178,ntmps178;go_wp2_with fail;rw[HW.out];have c_n0:=bs.b6 0;go_wp2_with fail;refine(CN.out W0).mono ?_;rintro e w1 ⟨rfl,hb⟩;clear c_n0;replace bs:=bs.ret hb;replace q:=bs.q;clear hb;have c_n0:=bs.b6 0;go_wp2_with fail;refine(CG.out w1).mono ?_;rintro e w2 ⟨rfl,hb⟩;clear c_n0;replace bs:=bs.ret hb;replace q:=bs.q;clear hb;have c_n0:=bs.b6 0;go_wp2_with fail;go_ret;exact⟨rfl,q⟩
   | false=>
    cases H with
    | true=>
     obtain⟨W0,hW,y0,bs⟩:=Sx.start1 w [.int .u8 k,.string S,.string NM,.slice aa n cap,.string TX,.int .i64 many] 114;have HW:=h_ hW;clear hW;have q:=bs.q;go_enter func178,ntmps178;go_wp2_with fail;rw[HW.out];have c_n0:=bs.b6 0;go_wp2_with fail;refine(CN.out W0).mono ?_;rintro e w1 ⟨rfl,hb⟩;clear c_n0;replace bs:=bs.ret hb;replace q:=bs.q;clear hb;have c_n0:=bs.b6 0;go_wp2_with fail;refine(CG.out w1).mono ?_;rintro e w2 ⟨rfl,hb⟩;clear c_n0;replace bs:=bs.ret hb;replace q:=bs.q;clear hb;have cl:=CL.out w2 q;have c_n0:=bs.b6 0;go_wp2_with fail;refine(CH.out w2 q).mono ?_;rintro e w3 ⟨rfl,hb⟩;clear c_n0;replace bs:=bs.ret hb;replace q:=bs.q;clear hb;clear cl;have c_n0:=bs.b6 0;go_wp2_with fail;go_ret;exact⟨rfl,q⟩
    | false=>
     obtain⟨W0,hW,y0,bs⟩:=Sx.start1 w [.int .u8 k,.string S,.string NM,.slice aa n cap,.string TX,.int .i64 many] 114;have HW:=h_ hW;clear hW;have q:=bs.q;go_enter func178,ntmps178;go_wp2_with fail;rw[HW.out];have c_n0:=bs.b6 0;go_wp2_with fail;refine(CN.out W0).mono ?_;rintro e w1 ⟨rfl,hb⟩;clear c_n0;replace bs:=bs.ret hb;replace q:=bs.q;clear hb;have c_n0:=bs.b6 0;go_wp2_with fail;refine(CG.out w1).mono ?_;rintro e w2 ⟨rfl,hb⟩;clear c_n0;replace bs:=bs.ret hb;replace q:=bs.q;clear hb;have cl:=CL.out w2 q;have c_n0:=bs.b6 0;go_wp2_with fail;refine(CH.out w2 q).mono ?_;rintro e w3 ⟨rfl,hb⟩;clear c_n0;replace bs:=bs.ret hb;replace q:=bs.q;clear hb;clear cl;have c_n0:=bs.b6 0;go_wp2_with fail;go_ret;exact⟨rfl,q⟩
theorem qV:∀args w,(callFunc 178 args).run prog w=.ok (.enter 178 args) w:=enters_of func178 (by kernel_rfl) rfl
structure NdFit (n:Nd):Prop where
 sp:n.2.1.length≤10000
 nm:n.2.2.1.length≤10000
 tx:n.2.2.2.2.1.length≤10000
 at':pJ n.2.2.2.1
 many:n.2.2.2.2.2≤9223372036854775807
def jI (t:List Nd):Prop:=t.length≤1000∧∀n∈t,NdFit n
theorem tE (x:NdI) (L:Nat) (w:World) (hs:ndY.sub x w) (hf:NdFit x.1) (hl:L<w.heap.size) (cf:w.cell? ⟨L,0,none⟩=some (.func (.func 176) #[] #[])):Calls prog 178 #[ndG x,.pointer (some ⟨L,0,none⟩)] w (Ret w (.bool (cH x.1))):=by
 have hA:IsL atY (ndV x) (ndA x) w:=hs;unfold cH
 exact oZ x.1.1 ⟨x.1.2.1.toArray⟩ ⟨x.1.2.2.1.toArray⟩ ⟨x.1.2.2.2.2.1.toArray⟩ x.2.1 (ndA x).length x.2.2 x.1.2.2.2.2.2 _ _ _ _ L w rfl hl cf (fun W=>fu _ W (by have:=hf.nm;omega)) (fun W=>qv _ W)
  fun W hb=>jc (ndV x) (.func (.func 176) #[] #[]) cM (ndA x) W (hA.ret hb) (by have:=hf.at'.1;show x.1.2.2.2.1.length≤_;omega) ⟨_,_,rfl,qa,fun a ha W' hW'=>si a W' (hf.at'.2 a ha).2.1⟩
theorem IsL.takeS {α:Type} {Y:Ly α} {a:Addr} {n cap k:Nat} {M:List α} {w:World} (h:IsL Y (.slice (some a) n cap) M w) (hk:k≤n):IsL Y (.slice (some a) k cap) (M.take k) w:=by
 obtain⟨⟨hl,a',c',he,h1,h2⟩,⟨a2,c2,he2,hc⟩,h3⟩:=h;simp only[ws] at he he2;obtain⟨rfl,hn,rfl⟩:=he;obtain⟨rfl,_,rfl⟩:=he2
 have hlen:(M.take k).length=k:=by rw[wu];omega
 refine⟨?_,⟨some a,cap,by rw[hlen],by rw[hlen];omega⟩,fun x hx=>h3 x (List.mem_of_mem_take hx)⟩;rw[hlen];refine⟨by rw[dv,hlen],some a,cap,rfl,(fun h=>by cases h),?_⟩
 rcases h2 with h2 | ⟨b,off,e,hb,hcell⟩
 ·left
  omega
 ·right
  refine⟨b,off,e,hb,fun j hj=>?_⟩
  have hj3:j<k*Y.n:=by rw[kY,wu] at hj;omega
  have hj2:j<(Y.fl M).length:=by rw[kY,wu] at hj;omega
  have e2:(Y.fl (M.take k))[j]?=(Y.fl M)[j]?:=by rw[kY,List.getElem?_take_of_lt hj3]
  rw[wq hj,wq hj2] at e2;rw[hcell j hj2,←e2]
theorem qt (M:List At) (aa:Option Addr) (cap:Nat) (w:World) (hv:IsL atY (.slice aa M.length cap) M w) (hf:pJ M):Calls prog 269 #[.slice aa M.length cap] w (Ret w (.bool (dr M))):=by
 obtain⟨a2,c2,he2,hc⟩:=hv.form;simp only[ws,true_and] at he2;obtain⟨-,rfl⟩:=he2
 refine mz M aa M.length cap w hv rfl hc hf fun k hk a ha W hb Lc A0 A1 hl h0 h1=>?_
 subst ha;refine jc (.slice (some a) k cap) (.func (.func 282) #[] #[.pointer (some ⟨Lc,0,none⟩)]) (fun b=>A0.toList==b.1&&A1.toList==b.2.1) (M.take k) W ((hv.takeS hk).ret hb) (by rw[wu];have:=hf.1;omega) ⟨_,_,rfl,pW,fun x hx W' hW'=>?_⟩;have h:=kK A0 A1 ⟨x.1.toArray⟩ ⟨x.2.1.toArray⟩ ⟨x.2.2.toArray⟩ Lc W' (wG hl hW'.size) (((af hW').1 _ _ hl).trans h0) (((af hW').1 _ _ hl).trans h1)
 have e:∀l:List UInt8,(⟨l.toArray⟩:ByteArray).toList=l:=fun l=>by simp
 rw[e x.1,e x.2.1] at h;exact h
theorem uX (x:NdI) (w:World) (hs:ndY.sub x w) (hf:NdFit x.1):Calls prog 247 #[ndG x] w (Ret w (.bool (dn x.1))):=by
 have hA:IsL atY (ndV x) (ndA x) w:=hs
 have hz:∀(l:List UInt8),l.length≤10000→(⟨l.toArray⟩:ByteArray).size≤10000:=fun l h=>by show l.toArray.size≤_;simpa using h
 have e0:∀(l:List UInt8),(⟨l.toArray⟩:ByteArray).toList.isEmpty=l.isEmpty:=fun l=>by simp
 have e1:((ndA x).length==0)=(ndA x).isEmpty:=by cases ndA x <;> rfl
 have h:=qg x.1.1 ⟨x.1.2.1.toArray⟩ ⟨x.1.2.2.1.toArray⟩ ⟨x.1.2.2.2.2.1.toArray⟩ x.2.1 (ndA x).length x.2.2 x.1.2.2.2.2.2 (txP x.1.2.2.2.2.1) (cU x.1.2.2.1) (txP x.1.2.1) (dr (ndA x)) w
  (fun W hb=>qt (ndA x) x.2.1 x.2.2 W (hA.ret hb) hf.at') (fun W=>dd _ W (hz _ hf.tx)) (fun W=>dd _ W (hz _ hf.sp)) (fun W=>nX _ W (by have:=hz _ hf.nm;omega))
 rw[e0,e0,e0,e1] at h;exact h
theorem qX (T:TrI) (w:World) (hs:trY.sub T w) (hf:jI (trD T)):Calls prog 182 #[trV T] w (Ret w (.int .i64 (if dH (trD T) then 0 else 8))):=by
 obtain⟨M,⟨va,vc⟩⟩:=T;have hv:IsL ndY (.slice va M.length vc) M w:=hs
 have hfit:∀x∈M,NdFit x.1:=fun x hx=>hf.2 x.1 (wH hx)
 have CB:=oY M va M.length vc w hv rfl (fun x hx=>(hfit x hx).many) fun x hx W hb=>uX x W (ndY.subRet _ _ _ (hv.2.2 x hx) hb) (hfit x hx)
 show Calls prog 182 #[.slice va M.length vc] w (Ret w (.int .i64 (if dH (M.map Prod.fst) then 0 else 8)))
 obtain⟨L,hL⟩:=e_ M.length;obtain⟨O,hO⟩:=e_ (dH (M.map Prod.fst));rw[hL,hO] at CB;rw[hL,hO];have CB:=h_ CB
 have NN:=fun (a:Option Addr) (n c:Nat) (W:World)=>Lib.run_eql_slice_nil (P:=prog) W 202 3 a n c 0 0 underlying202
 clear hs hf hv hfit hL hO
 cases O with
 | false=>
  go_enter func182,ntmps182;go_wp2_with fail;refine CB.out.mono ?_;rintro e w1 ⟨⟨v,rfl,⟨-,rfl⟩ | ⟨h,-⟩⟩,hb⟩
  ·go_wp2_with fail
   go_ret;exact⟨rfl,hb⟩
  ·cases h
 | true=>
  go_enter func182,ntmps182;go_wp2_with fail;refine CB.out.mono ?_;rintro e w1 ⟨⟨v,rfl,⟨h,-⟩ | ⟨-,E,rfl⟩⟩,hb⟩
  ·cases h
  ·go_wp2_with fail
   go_ret;exact⟨rfl,hb⟩
theorem re (T:TrI) (w:World) (hs:trY.sub T w) (hf:jI (trD T)):Calls prog 134 #[trV T] w (Ret w (.int .i64 (if aA (trD T) then 0 else 8))):=by
 have CT:=fun (W:World) (hb:Bl w W)=>qX T W (trY.subRet _ _ _ hs hb) hf
 have CH:=fun (W:World) (hb:Bl w W) (L:Nat) (hl:L<W.heap.size) (cf:W.cell? ⟨L,0,none⟩=some (.func (.func 176) #[] #[]))=>
  oG (trV T) (.func (.func 178) #[] #[.pointer (some ⟨L,0,none⟩)]) (fun x:NdI=>cH x.1) T.1 W (IsL.ret hs hb) (by have h:=hf.1;rw[wv] at h;omega)
   ⟨_,_,rfl,qV,fun x hx W' hW'=>tE x L W' (ndY.subRet _ _ _ (hs.2.2 x hx) (hb.trans (hW'.mono hb.size))) (hf.2 x.1 (wH hx)) (wG hl hW'.size) (((af hW').1 _ _ hl).trans cf)⟩
 have e:(T.1.any fun x:NdI=>cH x.1)=(trD T).any cH:=by rw[List.any_map];rfl
 simp only[e] at CH;unfold aA;obtain⟨O1,h1⟩:=e_ ((trD T).any cH);obtain⟨O2,h2⟩:=e_ (dH (trD T));simp only[h1] at CH;simp only[h2] at CT;rw[h1,h2];obtain⟨v,hv⟩:=e_ (trV T);rw[hv] at CH CT ⊢;have CT:=h_ CT;have CH:=h_ CH;clear hs hf e h1 h2 hv
 cases O1 with
 | true=>
  simp only[Bool.not_true,Bool.false_and,Bool.false_eq_true,if_false];obtain⟨W0,hW,y0,bs⟩:=Sx.start1 w [.func (.func 176) #[] #[]] 178;have HW:=h_ hW;clear hW;have q:=bs.q;go_enter func134,ntmps134;go_wp2_with fail;rw[HW.out];refine(CH.out W0 q w.heap.size (bs.lt _ (wA (i:=0) rfl)) (bs.at 0 0)).mono ?_;rintro e w1 ⟨rfl,hb⟩;replace bs:=bs.ret hb;replace q:=bs.q;clear hb;go_wp2_with fail;go_ret;exact⟨rfl,q⟩
 | false=>
  cases O2 with
  | true=>
   obtain⟨W0,hW,y0,bs⟩:=Sx.start1 w [.func (.func 176) #[] #[]] 178;have HW:=h_ hW;clear hW;have q:=bs.q;go_enter func134,ntmps134;go_wp2_with fail;rw[HW.out];refine(CH.out W0 q w.heap.size (bs.lt _ (wA (i:=0) rfl)) (bs.at 0 0)).mono ?_;rintro e w1 ⟨rfl,hb⟩;replace bs:=bs.ret hb;replace q:=bs.q;clear hb;go_wp2_with fail;refine(CT.out w1 q).mono ?_;rintro e w2 ⟨rfl,hb⟩;replace bs:=bs.ret hb;replace q:=bs.q;clear hb;go_wp2_with fail;go_ret;exact⟨rfl,q⟩
  | false=>
   obtain⟨W0,hW,y0,bs⟩:=Sx.start1 w [.func (.func 176) #[] #[]] 178;have HW:=h_ hW;clear hW;have q:=bs.q;go_enter func134,ntmps134;go_wp2_with fail;rw[HW.out];refine(CH.out W0 q w.heap.size (bs.lt _ (wA (i:=0) rfl)) (bs.at 0 0)).mono ?_;rintro e w1 ⟨rfl,hb⟩;replace bs:=bs.ret hb;replace q:=bs.q;clear hb;go_wp2_with fail;refine(CT.out w1 q).mono ?_;rintro e w2 ⟨rfl,hb⟩;replace bs:=bs.ret hb;replace q:=bs.q;clear hb;go_wp2_with fail;go_ret;exact⟨rfl,q⟩
end Go.Proofs.YtjgeiieiinmdnaaGreatDoor
