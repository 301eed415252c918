/- DdC, HtT: put together by mergetpl.py. -/
import Derived.Test.YtjgeiieiinmdnaaGreatDoorLw
import Derived.Test.YtjgeiieiinmdnaaGreatDoorLu
import Derived.Test.YtjgeiieiinmdnaaGreatDoorLv
import Derived.Test.YtjgeiieiinmdnaaGreatDoorLq
import Derived.Test.YtjgeiieiinmdnaaGreatDoorLh
import Derived.Test.YtjgeiieiinmdnaaGreatDoorLf
import Derived.Test.YtjgeiieiinmdnaaGreatDoorGrE
import Derived.Test.YtjgeiieiinmdnaaGreatDoorLs
section
open Go.Proofs.Tryz
open Go.RowKit.Below renaming drew→wv
open Go.Value.slice renaming injEq→wu
open List renaming length_map→wq,getElem?_eq_getElem→ws,getElem_mem→wt,getElem?_map→ww,take_of_length_le→wy,length→wz
open Nat renaming zero_le→wA
namespace Go.Proofs.YtjgeiieiinmdnaaGreatDoor
set_option maxHeartbeats 8000000
set_option maxRecDepth 100000
open Go.RowKit Go.Lib

theorem rq {α β:Type} {f:α→β} {A A':List α} {k:Nat} {p q:α} (h1:A[k]?=some p) (h2:A'[k]?=some q) (h:f p≠f q):A.map f≠A'.map f:=fun e=>h (by
 have:=congrArg (fun l:List β=>l[k]?) e
 simpa [h1,h2] using this)
theorem rm {α β:Type} {f:α→β} {A A':List α} {k:Nat} {p q:α} (h1:A[k]?=some p) (h2:A'[k]?=some q) (ht:(A.map f).take k=(A'.map f).take k) (h:f p=f q):(A.map f).take (k+1)=(A'.map f).take (k+1):=by
 rw[aM (l:=A.map f) (x:=f p) (by rw[ww,h1];rfl),aM (l:=A'.map f) (x:=f q) (by rw[ww,h2];rfl),ht,h]
theorem rG {α β:Type} {f:α→β} {A A':List α} {k:Nat} (h1:A.length≤k) (h2:A'.length≤k) (ht:(A.map f).take k=(A'.map f).take k):A.map f=A'.map f:=by
 rwa [wy (by rw[wq];exact h1),wy (by rw[wq];exact h2)] at ht
theorem lV (x y:CoI) (w:World) (hx:x.sub w) (hy:y.sub w) (zx:EqC x) (zy:EqC y):Calls prog 20 #[x.v,y.v] w (Ret w (.bool (decide (x.d=y.d)))):=by
 obtain⟨A1,⟨a1,b1⟩,R1,⟨r1,s1⟩,m1⟩:=x;obtain⟨A2,⟨a2,b2⟩,R2,⟨r2,s2⟩,m2⟩:=y;have hA1:IsL acY (.slice a1 A1.length b1) A1 w:=hx.1;have hR1:IsL rsY (.slice r1 R1.length s1) R1 w:=hx.2;have hA2:IsL acY (.slice a2 A2.length b2) A2 w:=hy.1;have hR2:IsL rsY (.slice r2 R2.length s2) R2 w:=hy.2;have zA1:A1.length≤100000:=zx.1;have zR1:R1.length≤100000:=zx.2.1
 have CA:=h_ fun (p:AcI) (hp:p∈A1) (q:AcI) (hq:q∈A2) (W:World) (hb:Bl w W)=>lO p.iv q.iv p.it q.it W (aw.ret (hA1.2.2 p hp) hb) (aw.ret (hA2.2.2 q hq) hb) (zx.2.2.1 p hp).1 (zy.2.2.1 q hq).1 (zx.2.2.1 p hp).2 (zy.2.2.1 q hq).2 p.ver q.ver
 have CR:=h_ fun (p:RsI) (hp:p∈R1) (q:RsI) (hq:q∈R2) (W:World) (hb:Bl w W)=>eY p q W (rsY.subRet _ _ _ (hR1.2.2 p hp) hb) (rsY.subRet _ _ _ (hR2.2.2 q hq) hb) (zx.2.2.2 p hp) (zy.2.2.2 q hq)
 show Calls _ _ #[.agg #[.slice a1 A1.length b1,.slice r1 R1.length s1,.int .i64 m1],.agg #[.slice a2 A2.length b2,.slice r2 R2.length s2,.int .i64 m2]] w (Ret w (.bool (decide ((A1.map AcI.d,R1.map RsI.d,m1)=(A2.map AcI.d,R2.map RsI.d,m2)))))
 obtain⟨O,hO⟩:=e_ (decide ((A1.map AcI.d,R1.map RsI.d,m1)=(A2.map AcI.d,R2.map RsI.d,m2)));rw[hO]
 have hA:A1.map AcI.d≠A2.map AcI.d→O=false:=fun h=>by rw[←hO];exact decide_eq_false fun e=>h (Prod.mk.inj e).1
 have hR:R1.map RsI.d≠R2.map RsI.d→O=false:=fun h=>by rw[←hO];exact decide_eq_false fun e=>h (Prod.mk.inj (Prod.mk.inj e).2).1
 have hM:m1≠m2→O=false:=fun h=>by rw[←hO];exact decide_eq_false fun e=>h (Prod.mk.inj (Prod.mk.inj e).2).2
 have hE:A1.map AcI.d=A2.map AcI.d→R1.map RsI.d=R2.map RsI.d→m1=m2→O=true:=fun h1 h2 h3=>by rw[←hO,h1,h2,h3];exact decide_eq_true rfl
 have hAl:A1.length≠A2.length→O=false:=fun h=>hA fun e=>h (by have:=congrArg wz e;rwa [wq,wq] at this)
 have hRl:R1.length≠R2.length→O=false:=fun h=>hR fun e=>h (by have:=congrArg wz e;rwa [wq,wq] at this)
 obtain⟨LA1,hLA1⟩:=e_ A1.length;obtain⟨LR1,hLR1⟩:=e_ R1.length;obtain⟨LA2,hLA2⟩:=e_ A2.length;obtain⟨LR2,hLR2⟩:=e_ R2.length;rw[hLA1] at hA1 hAl zA1 ⊢;rw[hLR1] at hR1 hRl zR1 ⊢;rw[hLA2] at hA2 hAl ⊢;rw[hLR2] at hR2 hRl ⊢;have HA1:=h_ hA1;have HA2:=h_ hA2;have HR1:=h_ hR1;have HR2:=h_ hR2;have HLA1:=h_ hLA1;have HLA2:=h_ hLA2;have HLR1:=h_ hLR1;have HLR2:=h_ hLR2;have HNA:=h_ hA;have HNR:=h_ hR;have HE:=h_ hE;have HAl:=h_ hAl;have HRl:=h_ hRl;have HM:=h_ hM;clear hx hy zx zy hA1 hR1 hA2 hR2 hO hA hR hM hE hAl hRl hLA1 hLA2 hLR1 hLR2;obtain⟨W0,hW,y0,bs⟩:=Sx.start2 w [.slice a1 LA1 b1,.slice r1 LR1 s1,.int .i64 m1] 25 [.slice a2 LA2 b2,.slice r2 LR2 s2,.int .i64 m2] 25;have HW:=h_ hW;clear hW;have q:=bs.q;go_enter func20,ntmps20;go_upto_region 1 with fail;rw[HW.out]
 by_cases hla:LA1=LA2
 rotate_left
 ·have ghla : ((LA1 : Int) != LA2) = true := by simp [bne]; omega
  have HB:=h_ (HAl.out hla);clear hla;have c_x0:=bs.b3 0;have c_y0:=bs.b3 1;go_wp2_with fail;go_ret;exact⟨by rw[HB.out];first | done | rfl,q⟩
 ·subst hla
  by_cases hlr:LR1=LR2
  rotate_left
  ·have ghlr : ((LR1 : Int) != LR2) = true := by simp [bne]; omega
   have HB:=h_ (HRl.out hlr);clear hlr;have c_x0:=bs.b3 0;have c_y0:=bs.b3 1;go_wp2_with fail;go_ret;exact⟨by rw[HB.out];first | done | rfl,q⟩
  ·subst hlr
   by_cases hmm:m1=m2
   rotate_left
   ·have ghmm : (m1 != m2) = true := by simp [bne]; exact hmm
    have HB:=h_ (HM.out hmm);clear hmm;have c_x0:=bs.b3 0;have c_y0:=bs.b3 1;go_wp2_with fail;go_ret;exact⟨by rw[HB.out];first | done | rfl,q⟩
   ·subst hmm
    have c_x0:=bs.b3 0;have c_y0:=bs.b3 1;go_wp2_with fail;clear c_x0 c_y0;go_loopw [5] (fun i wx=>∃k:Nat,i=.int .i64 k∧k≤LA1∧(A1.map AcI.d).take k=(A2.map AcI.d).take k∧Sx w [(w.heap.size,[.slice a1 LA1 b1,.slice r1 LR1 s1,.int .i64 m1]),(w.heap.size+1,[.slice a2 LA1 b2,.slice r2 LR1 s2,.int .i64 m1])] wx) (fun i _=>LA1-(intOf i).toNat)
    case atStart=>exact⟨0,rfl,wA _,rfl,bs⟩
    case round=>
     clear bs q;obtain⟨k,rfl,hk,hT,bs⟩:=hrel;have q:=bs.q
     by_cases hlt:k<LA1
     ·have wl : (k : Int) < (LA1 : Int) := by omega
      have hkM1:k<A1.length:=(by rw[HLA1.out];exact hlt);obtain⟨p1,hp1⟩:=e_ (A1[k]);have hkp1:A1[k]?=some p1:=(by rw[ws hkM1,hp1]);have hpm1:p1∈A1:=(by rw[←hp1];exact wt hkM1);obtain⟨e1,off1,cp1,hf,-,hc1⟩:=HA1.out.cells hkp1;rw[HLA1.out] at hf;simp only[wu,true_and] at hf;obtain⟨rfl,rfl⟩:=hf;have hkM2:k<A2.length:=(by rw[HLA2.out];exact hlt);obtain⟨p2,hp2⟩:=e_ (A2[k]);have hkp2:A2[k]?=some p2:=(by rw[ws hkM2,hp2]);have hpm2:p2∈A2:=(by rw[←hp2];exact wt hkM2);obtain⟨e2,off2,cp2,hf,-,hc2⟩:=HA2.out.cells hkp2;rw[HLA2.out] at hf;simp only[wu,true_and] at hf;obtain⟨rfl,rfl⟩:=hf;have HTK:=h_ (rm hkp1 hkp2 hT)
      have HNE:=h_ fun h=>HNA.out (rq hkp1 hkp2 h)
      have CR1:=CA.out p1 hpm1 p2 hpm2;obtain⟨G,hG⟩:=e_ ((decide (p1.it.map Prod.fst=p2.it.map Prod.fst)&&p1.ver==p2.ver));rw[hG] at CR1;obtain⟨D,hD⟩:=e_ (decide (p1.j=p2.j));have hE:decide (p1.d=p2.d)=(D&&G):=(by rw[uu,←hD,←hG]);have HEE:=h_ hE;clear hE hG;obtain⟨xj1,xit1,⟨xa1,xc1⟩,xver1⟩:=p1;obtain⟨xl1,hxl1⟩:=e_ xit1.length;obtain⟨jb1,hjb1⟩:=e_ (ByteArray.mk xj1.toArray);obtain⟨xj2,xit2,⟨xa2,xc2⟩,xver2⟩:=p2;obtain⟨xl2,hxl2⟩:=e_ xit2.length;obtain⟨jb2,hjb2⟩:=e_ (ByteArray.mk xj2.toArray);have hj:(jb1.toList==jb2.toList)=D:=(by rw[←hjb1,←hjb2,←hD,fi]);have hjn:(jb1.toList != jb2.toList)=!D:=(by unfold bne;rw[hj]);simp only[AcI.iv,hxl1,hxl2] at CR1;have CX:=h_ CR1;clear CR1 hD
      have HC10:Hid (∀W',Bl w W'→W'.cell? ⟨e1,off1+k*3,none⟩=some (.string jb1)):=h_ (fun W' hb=>by(try rw[←hjb1]);(try rw[←hxl1]);exact hc1 W' hb 0 _ rfl)
      have HC11:Hid (∀W',Bl w W'→W'.cell? ⟨e1,off1+k*3+1,none⟩=some (.slice xa1 xl1 xc1)):=h_ (fun W' hb=>by(try rw[←hjb1]);(try rw[←hxl1]);exact hc1 W' hb 1 _ rfl)
      have HC12:Hid (∀W',Bl w W'→W'.cell? ⟨e1,off1+k*3+2,none⟩=some (.int .i64 xver1)):=h_ (fun W' hb=>by(try rw[←hjb1]);(try rw[←hxl1]);exact hc1 W' hb 2 _ rfl)
      have HC20:Hid (∀W',Bl w W'→W'.cell? ⟨e2,off2+k*3,none⟩=some (.string jb2)):=h_ (fun W' hb=>by(try rw[←hjb2]);(try rw[←hxl2]);exact hc2 W' hb 0 _ rfl)
      have HC21:Hid (∀W',Bl w W'→W'.cell? ⟨e2,off2+k*3+1,none⟩=some (.slice xa2 xl2 xc2)):=h_ (fun W' hb=>by(try rw[←hjb2]);(try rw[←hxl2]);exact hc2 W' hb 1 _ rfl)
      have HC22:Hid (∀W',Bl w W'→W'.cell? ⟨e2,off2+k*3+2,none⟩=some (.int .i64 xver2)):=h_ (fun W' hb=>by(try rw[←hjb2]);(try rw[←hxl2]);exact hc2 W' hb 2 _ rfl)
      clear hp1 hkp1 hpm1 hkM1 hc1 hjb1 hxl1 hp2 hkp2 hpm2 hkM2 hc2 hjb2 hxl2 hT
      cases D with
      | false=>
       have c_x0:=bs.b3 0;have c_y0:=bs.b3 1;go_upto_region 6 with fail;clear c_x0 c_y0;replace bs:=bs.ret (wv (bQ _));replace q:=bs.q
       have y21:wr.drew.heap.size=wr.heap.size:=rfl
       refine wp_region_held_drew (S:=fun w'=>w'.cell? ⟨w.heap.size,0,none⟩=some (.slice (some ⟨e1,off1,none⟩) LA1 b1)∧w'.cell? ⟨w.heap.size+1,0,none⟩=some (.slice (some ⟨e2,off2,none⟩) LA1 b2)∧w'.cell? ⟨e1,off1+k*3,none⟩=some (.string jb1)∧w'.cell? ⟨e1,off1+k*3+1,none⟩=some (.slice xa1 xl1 xc1)∧w'.cell? ⟨e1,off1+k*3+2,none⟩=some (.int .i64 xver1)∧w'.cell? ⟨e2,off2+k*3,none⟩=some (.string jb2)∧w'.cell? ⟨e2,off2+k*3+1,none⟩=some (.slice xa2 xl2 xc2)∧w'.cell? ⟨e2,off2+k*3+2,none⟩=some (.int .i64 xver2)) (by kernel_rfl) ⟨bs.at 0 0,bs.at 1 0,HC10.out _ q,HC11.out _ q,HC12.out _ q,HC20.out _ q,HC21.out _ q,HC22.out _ q⟩ (fun hH=>?_);generalize wr.drew=w21 at bs q y21 hH ⊢;refine rS [(0,some 37),(1,some 38),(2,some 39),(3,some 40),(4,some 41),(5,some 42),(6,some 43),(7,some 44),(8,some 45),(9,some 46),(10,some 47),(11,some 48),(12,some 49),(13,some 50)] ?_
       iterate 14 refine aS ?_
       refine rE ?_;refine rS [(14,some 51),(15,some 52),(16,some 53),(17,some 54),(18,some 55),(19,some 56),(20,some 57),(21,some 58),(22,some 59),(23,some 60),(24,some 61),(25,some 62),(26,some 63),(27,some 64)] ?_
       iterate 14 refine aF ?_
       refine rE ?_;refine rS [(28,some 65)] ?_;refine aS ?_;refine rE ?_;refine aD ?_;clear hH;have HB:=h_ (HNE.out (of_decide_eq_false HEE.out));go_wp2_with fail;go_ret;exact⟨by rw[HB.out];first | done | rfl,q⟩
      | true=>
       have c_x0:=bs.b3 0;have c_y0:=bs.b3 1;go_upto_region 6 with fail;clear c_x0 c_y0;replace bs:=bs.ret (wv (bQ _));replace q:=bs.q
       have y21:wr.drew.heap.size=wr.heap.size:=rfl
       refine wp_region_held_drew (S:=fun w'=>w'.cell? ⟨w.heap.size,0,none⟩=some (.slice (some ⟨e1,off1,none⟩) LA1 b1)∧w'.cell? ⟨w.heap.size+1,0,none⟩=some (.slice (some ⟨e2,off2,none⟩) LA1 b2)∧w'.cell? ⟨e1,off1+k*3,none⟩=some (.string jb1)∧w'.cell? ⟨e1,off1+k*3+1,none⟩=some (.slice xa1 xl1 xc1)∧w'.cell? ⟨e1,off1+k*3+2,none⟩=some (.int .i64 xver1)∧w'.cell? ⟨e2,off2+k*3,none⟩=some (.string jb2)∧w'.cell? ⟨e2,off2+k*3+1,none⟩=some (.slice xa2 xl2 xc2)∧w'.cell? ⟨e2,off2+k*3+2,none⟩=some (.int .i64 xver2)) (by kernel_rfl) ⟨bs.at 0 0,bs.at 1 0,HC10.out _ q,HC11.out _ q,HC12.out _ q,HC20.out _ q,HC21.out _ q,HC22.out _ q⟩ (fun hH=>?_);generalize wr.drew=w21 at bs q y21 hH ⊢;refine rS [(0,some 37),(1,some 38),(2,some 39),(3,some 40),(4,some 41),(5,some 42),(6,some 43),(7,some 44),(8,some 45),(9,some 46),(10,some 47),(11,some 48),(12,some 49),(13,some 50),(14,some 51),(15,some 52),(16,some 53),(17,some 54),(18,some 55),(19,some 56),(20,some 57),(21,some 58),(22,some 59),(23,some 60),(24,some 61),(25,some 62)] ?_
       iterate 26 refine aS ?_
       refine rE ?_
       refine aC (i:=26) fun K hK=>?_
       go_simp;refine(CX.out w21 q).mono ?_;rintro e w22 ⟨rfl,hb⟩;replace bs:=bs.ret hb;replace q:=bs.q;clear hb;go_simp;clear hH;refine hK.out _ _ ⟨bs.at 0 0,bs.at 1 0,HC10.out _ q,HC11.out _ q,HC12.out _ q,HC20.out _ q,HC21.out _ q,HC22.out _ q⟩ (fun hH=>?_);clear hK K;refine rS [(27,some 64),(28,some 65)] ?_
       iterate 2 refine aS ?_
       refine rE ?_;refine aD ?_;clear hH
       cases G with
       | false=>
        have HB:=h_ (HNE.out (of_decide_eq_false HEE.out));go_wp2_with fail;go_ret;exact⟨by rw[HB.out];first | done | rfl,q⟩
       | true=>
        have HB:=h_ (HTK.out (of_decide_eq_true HEE.out));go_wp2_with fail;go_roundw
        case rel=>exact⟨k+1,by go_num,by omega,HB.out,bs⟩
        case measure=>simp[intOf];omega
     ·have wl : ¬ (k : Int) < (LA1 : Int) := by omega
      have HTA:=h_ (rG (by rw[HLA1.out];omega) (by rw[HLA2.out];omega) hT);clear hT hk;have c_x0:=bs.b3 0;have c_y0:=bs.b3 1;go_wp2_with fail;clear c_x0 c_y0;go_loopw [6] (fun i wx=>∃k:Nat,i=.int .i64 k∧k≤LR1∧(R1.map RsI.d).take k=(R2.map RsI.d).take k∧Sx w [(w.heap.size,[.slice a1 LA1 b1,.slice r1 LR1 s1,.int .i64 m1]),(w.heap.size+1,[.slice a2 LA1 b2,.slice r2 LR1 s2,.int .i64 m1])] wx) (fun i _=>LR1-(intOf i).toNat)
      case atStart=>exact⟨0,rfl,wA _,rfl,bs⟩
      case round=>
       clear bs q;obtain⟨k,rfl,hk,hT,bs⟩:=hrel;have q:=bs.q
       by_cases hlt:k<LR1
       ·have wl : (k : Int) < (LR1 : Int) := by omega
        have hkM1:k<R1.length:=(by rw[HLR1.out];exact hlt);obtain⟨p1,hp1⟩:=e_ (R1[k]);have hkp1:R1[k]?=some p1:=(by rw[ws hkM1,hp1]);have hpm1:p1∈R1:=(by rw[←hp1];exact wt hkM1);obtain⟨e1,off1,cp1,hf,-,hc1⟩:=HR1.out.cells hkp1;rw[HLR1.out] at hf;simp only[wu,true_and] at hf;obtain⟨rfl,rfl⟩:=hf;have hkM2:k<R2.length:=(by rw[HLR2.out];exact hlt);obtain⟨p2,hp2⟩:=e_ (R2[k]);have hkp2:R2[k]?=some p2:=(by rw[ws hkM2,hp2]);have hpm2:p2∈R2:=(by rw[←hp2];exact wt hkM2);obtain⟨e2,off2,cp2,hf,-,hc2⟩:=HR2.out.cells hkp2;rw[HLR2.out] at hf;simp only[wu,true_and] at hf;obtain⟨rfl,rfl⟩:=hf;have HTK:=h_ (rm hkp1 hkp2 hT)
        have HNE:=h_ fun h=>HNR.out (rq hkp1 hkp2 h)
        have CR1:=CR.out p1 hpm1 p2 hpm2;obtain⟨E,hE⟩:=e_ (decide (p1.d=p2.d));rw[hE] at CR1;have HEE:=h_ hE;clear hE;obtain⟨xj1,on1,pr1,xl1,⟨la1,lb1⟩,ask1,xs1,⟨sa1,sb1⟩⟩:=p1;obtain⟨ll1,hll1⟩:=e_ xl1.length;obtain⟨sl1,hsl1⟩:=e_ xs1.length;obtain⟨jb1,hjb1⟩:=e_ (ByteArray.mk xj1.toArray);obtain⟨xj2,on2,pr2,xl2,⟨la2,lb2⟩,ask2,xs2,⟨sa2,sb2⟩⟩:=p2;obtain⟨ll2,hll2⟩:=e_ xl2.length;obtain⟨sl2,hsl2⟩:=e_ xs2.length;obtain⟨jb2,hjb2⟩:=e_ (ByteArray.mk xj2.toArray);have CX:∀W,Bl w W→Calls prog 19 #[.agg #[.string jb1,.bool on1,.int .i64 pr1,.slice la1 ll1 lb1,.bool ask1,.slice sa1 sl1 sb1],.agg #[.string jb2,.bool on2,.int .i64 pr2,.slice la2 ll2 lb2,.bool ask2,.slice sa2 sl2 sb2]] W (Ret W (.bool E)):=(by rw[←hjb1,←hll1,←hsl1,←hjb2,←hll2,←hsl2];exact CR1);replace CX:=h_ CX;clear CR1
        have HC10:Hid (∀W',Bl w W'→W'.cell? ⟨e1,off1+k*6,none⟩=some (.string jb1)):=h_ (fun W' hb=>by(try rw[←hjb1]);(try rw[←hll1]);(try rw[←hsl1]);exact hc1 W' hb 0 _ rfl)
        have HC11:Hid (∀W',Bl w W'→W'.cell? ⟨e1,off1+k*6+1,none⟩=some (.bool on1)):=h_ (fun W' hb=>by(try rw[←hjb1]);(try rw[←hll1]);(try rw[←hsl1]);exact hc1 W' hb 1 _ rfl)
        have HC12:Hid (∀W',Bl w W'→W'.cell? ⟨e1,off1+k*6+2,none⟩=some (.int .i64 pr1)):=h_ (fun W' hb=>by(try rw[←hjb1]);(try rw[←hll1]);(try rw[←hsl1]);exact hc1 W' hb 2 _ rfl)
        have HC13:Hid (∀W',Bl w W'→W'.cell? ⟨e1,off1+k*6+3,none⟩=some (.slice la1 ll1 lb1)):=h_ (fun W' hb=>by(try rw[←hjb1]);(try rw[←hll1]);(try rw[←hsl1]);exact hc1 W' hb 3 _ rfl)
        have HC14:Hid (∀W',Bl w W'→W'.cell? ⟨e1,off1+k*6+4,none⟩=some (.bool ask1)):=h_ (fun W' hb=>by(try rw[←hjb1]);(try rw[←hll1]);(try rw[←hsl1]);exact hc1 W' hb 4 _ rfl)
        have HC15:Hid (∀W',Bl w W'→W'.cell? ⟨e1,off1+k*6+5,none⟩=some (.slice sa1 sl1 sb1)):=h_ (fun W' hb=>by(try rw[←hjb1]);(try rw[←hll1]);(try rw[←hsl1]);exact hc1 W' hb 5 _ rfl)
        have HC20:Hid (∀W',Bl w W'→W'.cell? ⟨e2,off2+k*6,none⟩=some (.string jb2)):=h_ (fun W' hb=>by(try rw[←hjb2]);(try rw[←hll2]);(try rw[←hsl2]);exact hc2 W' hb 0 _ rfl)
        have HC21:Hid (∀W',Bl w W'→W'.cell? ⟨e2,off2+k*6+1,none⟩=some (.bool on2)):=h_ (fun W' hb=>by(try rw[←hjb2]);(try rw[←hll2]);(try rw[←hsl2]);exact hc2 W' hb 1 _ rfl)
        have HC22:Hid (∀W',Bl w W'→W'.cell? ⟨e2,off2+k*6+2,none⟩=some (.int .i64 pr2)):=h_ (fun W' hb=>by(try rw[←hjb2]);(try rw[←hll2]);(try rw[←hsl2]);exact hc2 W' hb 2 _ rfl)
        have HC23:Hid (∀W',Bl w W'→W'.cell? ⟨e2,off2+k*6+3,none⟩=some (.slice la2 ll2 lb2)):=h_ (fun W' hb=>by(try rw[←hjb2]);(try rw[←hll2]);(try rw[←hsl2]);exact hc2 W' hb 3 _ rfl)
        have HC24:Hid (∀W',Bl w W'→W'.cell? ⟨e2,off2+k*6+4,none⟩=some (.bool ask2)):=h_ (fun W' hb=>by(try rw[←hjb2]);(try rw[←hll2]);(try rw[←hsl2]);exact hc2 W' hb 4 _ rfl)
        have HC25:Hid (∀W',Bl w W'→W'.cell? ⟨e2,off2+k*6+5,none⟩=some (.slice sa2 sl2 sb2)):=h_ (fun W' hb=>by(try rw[←hjb2]);(try rw[←hll2]);(try rw[←hsl2]);exact hc2 W' hb 5 _ rfl)
        clear hp1 hkp1 hpm1 hkM1 hc1 hjb1 hll1 hsl1 hp2 hkp2 hpm2 hkM2 hc2 hjb2 hll2 hsl2 hT;have c_x0:=bs.b3 0;have c_y0:=bs.b3 1;go_upto_region 11 with fail;clear c_x0 c_y0;replace bs:=bs.ret (wv (bQ _));replace q:=bs.q
        have y21:wr.drew.heap.size=wr.heap.size:=rfl
        refine wp_region_held_drew (S:=fun w'=>w'.cell? ⟨w.heap.size,1,none⟩=some (.slice (some ⟨e1,off1,none⟩) LR1 s1)∧w'.cell? ⟨w.heap.size+1,1,none⟩=some (.slice (some ⟨e2,off2,none⟩) LR1 s2)∧w'.cell? ⟨e1,off1+k*6,none⟩=some (.string jb1)∧w'.cell? ⟨e1,off1+k*6+1,none⟩=some (.bool on1)∧w'.cell? ⟨e1,off1+k*6+2,none⟩=some (.int .i64 pr1)∧w'.cell? ⟨e1,off1+k*6+3,none⟩=some (.slice la1 ll1 lb1)∧w'.cell? ⟨e1,off1+k*6+4,none⟩=some (.bool ask1)∧w'.cell? ⟨e1,off1+k*6+5,none⟩=some (.slice sa1 sl1 sb1)∧w'.cell? ⟨e2,off2+k*6,none⟩=some (.string jb2)∧w'.cell? ⟨e2,off2+k*6+1,none⟩=some (.bool on2)∧w'.cell? ⟨e2,off2+k*6+2,none⟩=some (.int .i64 pr2)∧w'.cell? ⟨e2,off2+k*6+3,none⟩=some (.slice la2 ll2 lb2)∧w'.cell? ⟨e2,off2+k*6+4,none⟩=some (.bool ask2)∧w'.cell? ⟨e2,off2+k*6+5,none⟩=some (.slice sa2 sl2 sb2)) (by kernel_rfl) ⟨bs.at 0 1,bs.at 1 1,HC10.out _ q,HC11.out _ q,HC12.out _ q,HC13.out _ q,HC14.out _ q,HC15.out _ q,HC20.out _ q,HC21.out _ q,HC22.out _ q,HC23.out _ q,HC24.out _ q,HC25.out _ q⟩ (fun hH=>?_);generalize wr.drew=w21 at bs q y21 hH ⊢;refine rS [(0,some 73),(1,some 74),(2,some 75),(3,some 76),(4,some 77),(5,some 78),(6,some 79),(7,some 80),(8,some 81),(9,some 82)] ?_
        iterate 10 refine aS ?_
        refine rE ?_
        refine aC (i:=10) fun K hK=>?_
        go_simp;refine(CX.out w21 q).mono ?_;rintro e w22 ⟨rfl,hb⟩;replace bs:=bs.ret hb;replace q:=bs.q;clear hb;go_simp;clear hH;refine hK.out _ _ ⟨bs.at 0 1,bs.at 1 1,HC10.out _ q,HC11.out _ q,HC12.out _ q,HC13.out _ q,HC14.out _ q,HC15.out _ q,HC20.out _ q,HC21.out _ q,HC22.out _ q,HC23.out _ q,HC24.out _ q,HC25.out _ q⟩ (fun hH=>?_);clear hK K;refine rS [(11,some 84)] ?_;refine aS ?_;refine rE ?_;refine aD ?_;clear hH
        cases E with
        | false=>
         have HB:=h_ (HNE.out (of_decide_eq_false HEE.out));go_wp2_with fail;go_ret;exact⟨by rw[HB.out];first | done | rfl,q⟩
        | true=>
         have HB:=h_ (HTK.out (of_decide_eq_true HEE.out));go_wp2_with fail;go_roundw
         case rel=>exact⟨k+1,by go_num,by omega,HB.out,bs⟩
         case measure=>simp[intOf];omega
       ·have wl : ¬ (k : Int) < (LR1 : Int) := by omega
        have HTR:=h_ (rG (by rw[HLR1.out];omega) (by rw[HLR2.out];omega) hT);clear hT hk;have HB:=h_ (HE.out HTA.out HTR.out (by first | rfl | trivial));have c_x0:=bs.b3 0;have c_y0:=bs.b3 1;go_wp2_with fail;go_ret;exact⟨by rw[HB.out];first | done | rfl,q⟩
end Go.Proofs.YtjgeiieiinmdnaaGreatDoor
end
open Go.Proofs.Tryz
open Go.RowKit.Below renaming drew→ws
open List renaming mem_of_getElem?→wu,find?_map→wv,mem_of_find?_eq_some→wy
open Nat renaming zero_le→wq,le_trans→wt
open Option renaming isSome_map→ww
namespace Go.Proofs.YtjgeiieiinmdnaaGreatDoor
set_option maxHeartbeats 20000000
set_option maxRecDepth 100000
open Go.RowKit Go.Lib

def vo (n:Nat) (w:World):Prop:=n≤w.heap.size
theorem vo.ret {n:Nat} {w w':World} (h:vo n w) (hb:Bl w w'):vo n w':=wt h hb.size
theorem gU (x y:AcI) (W:World) (hx:aw x.iv x.it W) (hy:aw y.iv y.it W) (zx:EqA x) (zy:EqA y) (e:x.d=y.d):Calls prog 18 #[.agg #[x.iv,.int .i64 x.ver],.agg #[y.iv,.int .i64 y.ver]] W (Ret W (.bool true)):=by
 have h:=lO x.iv y.iv x.it y.it W hx hy zx.1 zy.1 zx.2 zy.2 x.ver y.ver
 have e1:x.it.map Prod.fst=y.it.map Prod.fst:=congrArg (fun a:Ac=>a.2.1) e
 have e2:x.ver=y.ver:=congrArg (fun a:Ac=>a.2.2) e
 rw[decide_eq_true e1,e2] at h
 simpa [e2] using h
theorem ex (x y:RsI) (W:World) (hx:rsY.sub x W) (hy:rsY.sub y W) (zx:EqR x) (zy:EqR y) (e:x.d=y.d):Calls prog 19 #[x.v,y.v] W (Ret W (.bool true)):=by
 have h:=eY x y W hx hy zx zy
 rwa [decide_eq_true e] at h
theorem dJ (x y:CoI) (W:World) (hx:x.sub W) (hy:y.sub W) (zx:EqC x) (zy:EqC y) (e:x.d=y.d):Calls prog 20 #[x.v,y.v] W (Ret W (.bool true)):=by
 have h:=lV x y W hx hy zx zy
 rwa [decide_eq_true e] at h
theorem js (x y:CoI) (W:World) (hx:x.sub W) (hy:y.sub W) (zx:EqC x) (zy:EqC y) (e:x.d=y.d):Calls prog 32 #[x.v,y.v] W (Ret W (.bool true)):=by
 have h:=mZ x y W hx hy zx zy
 rwa [decide_eq_true e] at h
theorem cm (v u:Value) (g:List (List UInt8)) (W:World) (hv:aB v g W) (hu:aB u g W) (hl:g.length≤1000000):Calls prog 21 #[v,u] W (Ret W (.bool true)):=by
 have h:=fo v u g g W hv hu hl
 rwa [decide_eq_true rfl] at h
theorem fq (R:List Re) (t:List UInt8) (q:Re→Bool):(kD R t q).length≤R.length:=by
 unfold kD;rw[List.length_map];exact List.length_filter_le _ _
theorem ly:∀(l:List (List UInt8)),(∀s∈l,s.length≤10000)→l.length≤1000→∀(A:List Ac),A.length+l.length≤1000→(∀a∈A,AcFit a)→(l.foldl (fun A s=>puO acN A (s,[],0)) A).length≤1000∧∀a∈l.foldl (fun A s=>puO acN A (s,[],0)) A,AcFit a
 | [],_,_,A,hA,hf=>⟨by simpa using hA,hf⟩
 | s :: l,hs,hl,A,hA,hf=>by
  rw[List.foldl_cons];rw[List.length_cons] at hA hl
  refine ly l (fun t ht=>hs t (List.mem_cons_of_mem _ ht)) (by omega) _ (by have:=oE (nm:=acN) (L:=A) (x:=(s,[],0));omega) fun a ha=>?_
  rcases im ha with ha | ha
  ·exact hf a ha
  ·rw[ha]
   exact⟨hs s (List.mem_cons_self ..),wq _,fun p hp=>by cases hp⟩
theorem qY {l:List (List UInt8)} (hs:∀s∈l,s.length≤10000) (hl:l.length≤1000):CoFitD (mT l).1:=by
 unfold mT
 split
 ·obtain⟨h1,h2⟩:=ly l hs hl [] (by simpa using hl) (fun a ha=>by cases ha)
  exact⟨h1,wq _,h2,fun r hr=>by cases hr⟩
 ·exact tK
theorem ve (c:CoI) (t:List UInt8) (w:World) (hs:c.sub w) (hf:CoFitD c.d):((fdA c.A t).getD oL).d=(fiG acN (c.A.map AcI.d) t).getD ac0∧(fdA c.A t).isSome=(fiG acN (c.A.map AcI.d) t).isSome∧aw ((fdA c.A t).getD oL).iv ((fdA c.A t).getD oL).it w∧EqA ((fdA c.A t).getD oL):=by
 have e:fiG acN (c.A.map AcI.d) t=(fdA c.A t).map AcI.d:=by
  unfold fiG fdA;rw[wv]
  rfl
 rw[e,ww]
 cases h:fdA c.A t with
 | none=>exact⟨rfl,rfl,aw.nil w,wq _,fun p hp=>by cases hp⟩
 | some x=>
  have hm:x∈c.A:=wy h;exact⟨rfl,rfl,hs.1.2.2 x hm,(hf.ac' x hm).eq⟩
theorem uG (c:CoI) (t:List UInt8) (w:World) (hs:c.sub w) (hf:CoFitD c.d):((fdR c.R t).getD tV).d=(fiG reN (c.R.map RsI.d) t).getD re0∧(fdR c.R t).isSome=(fiG reN (c.R.map RsI.d) t).isSome∧rsY.sub ((fdR c.R t).getD tV) w∧EqR ((fdR c.R t).getD tV):=by
 have e:fiG reN (c.R.map RsI.d) t=(fdR c.R t).map RsI.d:=by
  unfold fiG fdR;rw[wv]
  rfl
 rw[e,ww]
 cases h:fdR c.R t with
 | none=>exact⟨rfl,rfl,(⟨IsL.nil _ _,aB.nil w⟩:IsL trY tV.lv tV.ld w∧aB tV.sv tV.st w),wq _,wq _,fun p hp=>by cases hp⟩
 | some x=>
  have hm:x∈c.R:=wy h;exact⟨rfl,rfl,hs.2.2.2 x hm,(hf.rs' x hm).eq⟩
theorem tZ {x:AcI} {a:Ac} (e:x.d=a) (h:AcFit a):EqA x:=AcFit.eq (by rw[e];exact h)
theorem qS {c:Co} (h:CoFitD c) (t:List UInt8):AcFit ((fiG acN c.1 t).getD ac0):=by
 cases hf:fiG acN c.1 t with
 | none=>exact⟨wq _,wq _,fun p hp=>by cases hp⟩
 | some x=>exact h.ac x (dZ hf).1
theorem pV {c:Co} (h:CoFitD c) (t:List UInt8):ReFit ((fiG reN c.2.1 t).getD re0):=by
 cases hf:fiG reN c.2.1 t with
 | none=>exact⟨wq _,wq _,(fun s hs=>by cases hs),wq _,fun s hs=>by cases hs⟩
 | some x=>exact h.rs x (dZ hf).1
theorem l24_tells (c o:CoI) (l:List (List UInt8)) (lv:Value) (jb fb:ByteArray) (w:World) (hs:c.sub w) (hq:∀r∈c.R,QR r) (hso:o.sub w) (hqo:∀r∈o.R,QR r) (hl:aB lv l w) (hm:ML w):Calls prog 3 #[c.v,o.v,lv,.string jb,.string fb] w (Ret w (.bool true)):=by
 have CG:=fun (W:World) (hb:Bl w W)=>jC c W (hs.ret hb)
 have CGo:=fun (W:World) (hb:Bl w W)=>jC o W (hso.ret hb)
 have FT:=fun (h:CoSm c.d)=>h.fit hq
 have FTo:=fun (h:CoSm o.d)=>h.fit hqo
 have CT:=fun (W:World) (hb:Bl w W) (hf:CoFitD c.d)=>p5 c W (hs.ret hb) hf.zA' hf.zR' (fun a ha=>(hf.ac' a ha).small) (fun r hr=>(hf.rs' r hr).tw)
 have CFc:=fun (W:World) (hb:Bl w W) (hf:CoFitD c.d)=>eF c jb W (hs.ret hb).1 (by have:=hf.zA';omega)
 have CWc:=fun (W:World) (hb:Bl w W) (hf:CoFitD c.d)=>sP c fb W (hs.ret hb).2 (by have:=hf.zR';omega)
 have IFA:=fun (hf:CoFitD c.d)=>ve c jb.data.toList w hs hf
 have IFR:=fun (hf:CoFitD c.d)=>uG c fb.data.toList w hs hf
 have COn:=fun (W:World) (hb:Bl w W) (hf:CoFitD c.d)=>uH c jb W (hs.ret hb).2 hf.zR' (fun r hr=>(hf.rs' r hr).j)
 have CBe:=fun (W:World) (hb:Bl w W) (hf:CoFitD c.d)=>pU c jb W (hs.ret hb).2 hf.zR' (fun r hr=>(hf.rs' r hr).j)
 have CAs:=fun (W:World) (hb:Bl w W) (hf:CoFitD c.d)=>n7 c jb W (hs.ret hb).2 hf.zR' (fun r hr=>(hf.rs' r hr).j)
 have CFa:=fun (W:World) (hb:Bl w W) (hf:CoFitD c.d)=>qw c jb W (hs.ret hb).1 hf.zA' (fun a ha=>(hf.ac' a ha).small.1)
 have CCh:=fun (W:World) (hb:Bl w W) (hf:CoFitD c.d)=>pm c W (hs.ret hb) hf
 have CSo:=fun (W:World) (hb:Bl w W) (hf:CoFitD c.d) (hfo:CoFitD o.d)=>lV c o W (hs.ret hb) (hso.ret hb) hf.eq hfo.eq
 have XSo:=fun (W:World) (hb:Bl w W) (hfo:CoFitD o.d) (X:CoI) (hX:X.sub W) (hE:EqC X)=>mZ X o W hX (hso.ret hb) hE hfo.eq
 have XSc:=fun (W:World) (hb:Bl w W) (hf:CoFitD c.d) (X:CoI) (hX:X.sub W) (e:X.d=c.d)=>js X c W hX (hs.ret hb) (CoFitD.eq (by rw[e];exact hf)) hf.eq e
 have RSc:=fun (W:World) (hb:Bl w W) (hf:CoFitD c.d) (X:CoI) (hX:X.sub W) (e:X.d=c.d)=>dJ X c W hX (hs.ret hb) (CoFitD.eq (by rw[e];exact hf)) hf.eq e
 have HML:=h_ hm;obtain⟨D,hD⟩:=e_ c.d;obtain⟨E,hE⟩:=e_ o.d
 have e1:c.R.map RsI.d=D.2.1:=by rw[←hD]
 have e2:c.A.map AcI.d=D.1:=by rw[←hD]
 simp only[e1] at COn CBe CAs IFR;simp only[e2] at CFa IFA;obtain⟨ga,gc,rfl,-⟩:=hl.2;obtain⟨GL,hGL⟩:=e_ l.length;rw[hGL] at hl ⊢;obtain⟨jl,hjl⟩:=e_ jb.data.toList;obtain⟨fl,hfl⟩:=e_ fb.data.toList
 have EJ:Hid ((⟨jl.toArray⟩:ByteArray)=jb):=h_ (by rw[←hjl])
 have EF:Hid ((⟨fl.toArray⟩:ByteArray)=fb):=h_ (by rw[←hfl])
 simp only[hjl] at CFc COn CBe CAs CFa IFA;simp only[hfl] at CWc IFR;obtain⟨a1,ha1⟩:=e_ c.aa.1;obtain⟨b1,hb1⟩:=e_ c.aa.2;obtain⟨LA1,hLA1⟩:=e_ c.A.length;obtain⟨r1,hr1⟩:=e_ c.ra.1;obtain⟨s1,hs1⟩:=e_ c.ra.2;obtain⟨LR1,hLR1⟩:=e_ c.R.length;obtain⟨m1,hm1⟩:=e_ c.m
 have e_c:c.v=.agg #[.slice a1 LA1 b1,.slice r1 LR1 s1,.int .i64 m1]:=by rw[←ha1,←hb1,←hLA1,←hr1,←hs1,←hLR1,←hm1]
 simp only[e_c] at CG CT CFc CWc COn CBe CAs CFa CCh CSo XSc RSc ⊢;obtain⟨a2,ha2⟩:=e_ o.aa.1;obtain⟨b2,hb2⟩:=e_ o.aa.2;obtain⟨LA2,hLA2⟩:=e_ o.A.length;obtain⟨r2,hr2⟩:=e_ o.ra.1;obtain⟨s2,hs2⟩:=e_ o.ra.2;obtain⟨LR2,hLR2⟩:=e_ o.R.length;obtain⟨m2,hm2⟩:=e_ o.m
 have e_o:o.v=.agg #[.slice a2 LA2 b2,.slice r2 LR2 s2,.int .i64 m2]:=by rw[←ha2,←hb2,←hLA2,←hr2,←hs2,←hLR2,←hm2]
 simp only[e_o] at CGo CSo XSo ⊢;rw[hD] at CG FT CT CFc CWc COn CBe CAs CFa CCh CSo XSc RSc IFA IFR;rw[hE] at CGo FTo CSo XSo;have HGR:=h_ hl;have HGL:=h_ hGL;clear hs hq hso hqo hl hm hGL e1 e2 e_c e_o hD hE hjl hfl ha1 hb1 hLA1 hr1 hs1 hLR1 hm1 ha2 hb2 hLA2 hr2 hs2 hLR2 hm2;replace CG:=h_ CG;replace CGo:=h_ CGo;replace FT:=h_ FT;replace FTo:=h_ FTo;replace CT:=h_ CT;replace CFc:=h_ CFc;replace CWc:=h_ CWc;replace IFA:=h_ IFA;replace IFR:=h_ IFR;replace COn:=h_ COn;replace CBe:=h_ CBe;replace CAs:=h_ CAs;replace CFa:=h_ CFa;replace CCh:=h_ CCh;replace CSo:=h_ CSo;replace XSo:=h_ XSo;replace XSc:=h_ XSc;replace RSc:=h_ RSc;obtain⟨W0,hW,y0,bs⟩:=Sx.start2 w [.slice a1 LA1 b1,.slice r1 LR1 s1,.int .i64 m1] 25 [.slice a2 LA2 b2,.slice r2 LR2 s2,.int .i64 m2] 25;have HW:=h_ hW;clear hW;have q:=bs.q;go_enter func3,ntmps3;go_wp2_with fail;rw[HW.out];have CG1:=CG.out W0 q;replace CG1:=h_ CG1;have c_c0:=bs.b3 0;have c_o0:=bs.b3 1;go_wp2_with fail;refine(CG1.out).mono ?_;rintro e w1 ⟨g,rfl,hg,hb⟩;clear c_c0 c_o0;replace bs:=bs.ret hb;replace q:=bs.q;clear hb;clear CG1
 cases g with
 | true=>
  have c_c0:=bs.b3 0;have c_o0:=bs.b3 1;go_wp2_with fail;go_ret;exact⟨rfl,q⟩
 | false=>
  have Hg:=h_ (hg rfl);clear hg;have CG1:=CGo.out w1 q;replace CG1:=h_ CG1;have c_c0:=bs.b3 0;have c_o0:=bs.b3 1;go_wp2_with fail;refine(CG1.out).mono ?_;rintro e w2 ⟨gr,rfl,hgr,hb⟩;clear c_c0 c_o0;replace bs:=bs.ret hb;replace q:=bs.q;clear hb;clear CG1
  cases gr with
  | true=>
   have c_c0:=bs.b3 0;have c_o0:=bs.b3 1;go_wp2_with fail;go_ret;exact⟨rfl,q⟩
  | false=>
   have Hgr:=h_ (hgr rfl);clear hgr
   by_cases h3:(12:Int)<(GL:Int)
   ·have h3d:decide ((12:Int)<(GL:Int))=true:=decide_eq_true h3
    have c_c0:=bs.b3 0;have c_o0:=bs.b3 1;go_wp2_with fail;go_ret;exact⟨rfl,q⟩
   ·have h3d:decide ((12:Int)<(GL:Int))=false:=decide_eq_false h3
    by_cases h4:(300:Int)<(jb.size:Int)
    ·have h4d:decide ((300:Int)<(jb.size:Int))=true:=decide_eq_true h4
     have c_c0:=bs.b3 0;have c_o0:=bs.b3 1;go_wp2_with fail;go_ret;exact⟨rfl,q⟩
    ·have h4d:decide ((300:Int)<(jb.size:Int))=false:=decide_eq_false h4
     by_cases h5:(300:Int)<(fb.size:Int)
     ·have h5d:decide ((300:Int)<(fb.size:Int))=true:=decide_eq_true h5
      have c_c0:=bs.b3 0;have c_o0:=bs.b3 1;go_wp2_with fail;go_ret;exact⟨rfl,q⟩
     ·have h5d:decide ((300:Int)<(fb.size:Int))=false:=decide_eq_false h5
      have c_c0:=bs.b3 0;have c_o0:=bs.b3 1;go_wp2_with fail;clear c_c0 c_o0;go_loopw [11] (fun i wx=>∃k:Nat,i=.int .i64 k∧k≤GL∧(∀s∈l.take k,s.length≤300)∧Sx w [(w.heap.size,[.slice a1 LA1 b1,.slice r1 LR1 s1,.int .i64 m1]),(w.heap.size+1,[.slice a2 LA2 b2,.slice r2 LR2 s2,.int .i64 m2])] wx) (fun i _=>GL-(intOf i).toNat)
      case atStart=>exact⟨0,rfl,wq _,(fun t ht=>by simp at ht),bs⟩
      case round=>
       clear bs q;obtain⟨e,rfl,he,hT,bs⟩:=hrel;have q:=bs.q
       by_cases hle:e<GL
       ·have hkM : e < l.length := by rw [HGL.out]; exact hle
        obtain⟨t,ht⟩:=e_ (l[e]);have hkt:l[e]?=some t:=(by rw[List.getElem?_eq_getElem hkM,ht]);obtain⟨b,off,rfl,hc⟩:=dL HGR.out hkt
        have HSN:=h_ fun h=>dC (P:=fun s:List UInt8=>s.length≤300) hkt hT h
        obtain⟨tb,htb⟩:=e_ (ByteArray.mk t.toArray);have hz2:tb.size=t.length:=(by rw[←htb,←ab]);have c9:=hc wr q;rw[htb] at c9;have HZ2:=h_ hz2;have wl:(e:Int)<(GL:Int):=(by omega);clear ht hkt hc htb hT hz2
        by_cases h9:(300:Int)<(tb.size:Int)
        ·have h9d:decide ((300:Int)<(tb.size:Int))=true:=decide_eq_true h9
         go_wp2_with fail;go_ret;exact⟨rfl,q⟩
        ·have h9d:decide ((300:Int)<(tb.size:Int))=false:=decide_eq_false h9
         go_wp2_with fail;go_roundw
         case rel=>exact⟨e+1,by go_num,by omega,HSN.out (by have:=HZ2.out;omega),bs⟩
         case measure=>simp[intOf];omega
       ·have wl : ¬ (e : Int) < (GL : Int) := by omega
        have hT2:=dY (by rw[HGL.out];omega) hT
        have HZX:Hid (∀s∈l,s.length≤10000):=h_ fun s hs=>by have:=hT2 s hs;omega
        have HF:=h_ (FT.out Hg.out);have HFO:=h_ (FTo.out Hgr.out);have hzl:l.length≤12:=(by rw[HGL.out];omega);have HZL:=h_ hzl;clear hT hT2 hzl Hg Hgr h3 h4 h5 h3d h4d h5d he hle;have HC:=CT.out wr q HF.out;replace HC:=h_ HC;have c_c0:=bs.b3 0;go_wp2_with fail;obtain⟨za3,hza3⟩:=e_ wr.heap.size;refine HC.out.mono ?_;rintro e w21 ⟨X3,rfl,hd,ho,hb⟩;clear c_c0;have o_v3:X3.own (Iv za3 w21.heap.size) w21:=(by rw[←hza3];exact(ho.own).iv);have hz3:za3≤w21.heap.size:=(by rw[←hza3];exact hb.size);have hA3_c:w.heap.size<za3:=(by rw[←hza3];exact bs.lt _ (wu (i:=0) rfl));obtain⟨zb3,hzb3⟩:=e_ w21.heap.size;rw[hzb3] at o_v3 hz3;have o_z3:vo zb3 w21:=(by show zb3≤w21.heap.size;omega);clear ho HC;replace bs:=bs.ret hb;replace q:=bs.q;clear hb;clear hza3 hzb3;have HD3:=h_ hd;clear hd;obtain⟨a3,ha3⟩:=e_ X3.aa.1;obtain⟨b3,hb3⟩:=e_ X3.aa.2;obtain⟨LA3,hLA3⟩:=e_ X3.A.length;obtain⟨r3,hr3⟩:=e_ X3.ra.1;obtain⟨s3,hs3⟩:=e_ X3.ra.2;obtain⟨LR3,hLR3⟩:=e_ X3.R.length;obtain⟨m3,hm3⟩:=e_ X3.m;have e_X3:X3.v=.agg #[.slice a3 LA3 b3,.slice r3 LR3 s3,.int .i64 m3]:=(by rw[←ha3,←hb3,←hLA3,←hr3,←hs3,←hLR3,←hm3]);rw[e_X3];replace ha3:=h_ ha3;replace hb3:=h_ hb3;replace hLA3:=h_ hLA3;replace hr3:=h_ hr3;replace hs3:=h_ hs3;replace hLR3:=h_ hLR3;replace hm3:=h_ hm3;replace e_X3:=h_ e_X3;have FX3:CoFitD X3.d:=(by rw[HD3.out];exact HF.out);replace FX3:=h_ FX3
        have EA3:Hid (X3.A.map AcI.d=D.1):=h_ (congrArg (fun d:Co=>d.1) HD3.out)
        have ER3:Hid (X3.R.map RsI.d=D.2.1):=h_ (congrArg (fun d:Co=>d.2.1) HD3.out)
        have c_c0:=bs.b3 0;have d0:=(bs.lit (w21.heap.size) rfl [.slice a3 LA3 b3,.slice r3 LR3 s3,.int .i64 m3] 25);have c0_n00:=d0.b3 2;have c0_c0:=d0.b3 0;go_wp2_with fail;clear c_c0 d0 c0_n00 c0_c0;obtain⟨w22,hw22,y22,al,bs⟩:=bs.alloc (w21.heap.size) rfl [.slice a3 LA3 b3,.slice r3 LR3 s3,.int .i64 m3] 25;replace o_v3:=o_v3.ret al;replace o_z3:=o_z3.ret al;clear al;replace q:=bs.q;rw[hw22];obtain⟨IS,hIS⟩:=e_ ((fiG acN D.1 jl).isSome);have HIS:=h_ hIS;clear hIS;have HC:=oA X3 jl w22 o_v3.sub.1 FX3.out.zA' (fun a ha=>(FX3.out.ac' a ha).small);rw[EA3.out,EJ.out,e_X3.out] at HC;replace HC:=h_ HC;have c_c0:=bs.b3 0;have c_own0:=bs.b3 2;go_wp2_with fail;refine HC.out.mono ?_;rintro e w23 ⟨Z11,rfl,hd,ho,hb⟩;clear c_c0 c_own0;rw[HIS.out];have o_i11:aw Z11.iv Z11.it w23:=OwI.items ho;clear ho HC;replace o_v3:=o_v3.ret hb;replace o_z3:=o_z3.ret hb;replace bs:=bs.ret hb;replace q:=bs.q;clear hb;have HZ11:=h_ hd;clear hd;obtain⟨ia11,hia11⟩:=e_ Z11.ia.1;obtain⟨ib11,hib11⟩:=e_ Z11.ia.2;obtain⟨IL11,hIL11⟩:=e_ Z11.it.length;obtain⟨ver11,hver11⟩:=e_ Z11.ver;obtain⟨jb11,hjb11⟩:=e_ (ByteArray.mk Z11.j.toArray);have e_Z11:Z11.v=.agg #[.string jb11,.slice ia11 IL11 ib11,.int .i64 ver11]:=(by rw[←hia11,←hib11,←hIL11,←hver11,←hjb11]);rw[e_Z11];replace hia11:=h_ hia11;replace hib11:=h_ hib11;replace hIL11:=h_ hIL11;replace hver11:=h_ hver11;replace hjb11:=h_ hjb11;replace e_Z11:=h_ e_Z11;have c_c0:=bs.b3 0;have c_own0:=bs.b3 2;have d0:=(bs.lit (w23.heap.size) rfl [.string jb11,.slice ia11 IL11 ib11,.int .i64 ver11] 33);have c0_n00:=d0.b3 3;have c0_c0:=d0.b3 0;have c0_own0:=d0.b3 2;go_wp2_with fail;clear c_c0 c_own0 d0 c0_n00 c0_c0 c0_own0;obtain⟨w24,hw24,y24,al,bs⟩:=bs.alloc (w23.heap.size) rfl [.string jb11,.slice ia11 IL11 ib11,.int .i64 ver11] 33;replace o_v3:=o_v3.ret al;replace o_z3:=o_z3.ret al;replace o_i11:=o_i11.ret al
        clear al;replace q:=bs.q;rw[hw24];obtain⟨h1,h2,h3,h4⟩:=IFA.out HF.out
        have CF2:=fun (W:World) (hb:Bl w W)=>CFc.out W hb HF.out
        obtain⟨Z12,hZ12⟩:=e_ ((fdA c.A jl).getD oL);simp only[hZ12,h2,HIS.out] at CF2 h1 h3 h4;have HZ12:=h_ h1;have HI12:=h_ h3;have HQ12:=h_ h4;clear h1 h2 h3 h4 hZ12;obtain⟨ia12,hia12⟩:=e_ Z12.ia.1;obtain⟨ib12,hib12⟩:=e_ Z12.ia.2;obtain⟨IL12,hIL12⟩:=e_ Z12.it.length;obtain⟨ver12,hver12⟩:=e_ Z12.ver;obtain⟨jb12,hjb12⟩:=e_ (ByteArray.mk Z12.j.toArray);have e_Z12:Z12.v=.agg #[.string jb12,.slice ia12 IL12 ib12,.int .i64 ver12]:=(by rw[←hia12,←hib12,←hIL12,←hver12,←hjb12]);simp only[e_Z12] at CF2;replace CF2:=h_ CF2;replace hia12:=h_ hia12;replace hib12:=h_ hib12;replace hIL12:=h_ hIL12;replace hver12:=h_ hver12;replace hjb12:=h_ hjb12;replace e_Z12:=h_ e_Z12;have HC:=CF2.out w24 q;replace HC:=h_ HC;have c_c0:=bs.b3 0;have c_own0:=bs.b3 2;go_wp2_with fail;refine(HC.out).mono ?_;rintro e w25 ⟨rfl,hb⟩;clear c_c0 c_own0;replace o_v3:=o_v3.ret hb;replace o_z3:=o_z3.ret hb;replace o_i11:=o_i11.ret hb;replace bs:=bs.ret hb;replace q:=bs.q;clear hb;clear HC;have c_c0:=bs.b3 0;have c_own0:=bs.b3 2;have d0:=(bs.lit (w25.heap.size) rfl [.string jb12,.slice ia12 IL12 ib12,.int .i64 ver12] 33);have c0_n00:=d0.b3 4;have c0_c0:=d0.b3 0;have c0_own0:=d0.b3 2;go_wp2_with fail;clear c_c0 c_own0 d0 c0_n00 c0_c0 c0_own0;obtain⟨w26,hw26,y26,al,bs⟩:=bs.alloc (w25.heap.size) rfl [.string jb12,.slice ia12 IL12 ib12,.int .i64 ver12] 33;replace o_v3:=o_v3.ret al;replace o_z3:=o_z3.ret al;replace o_i11:=o_i11.ret al;clear al;replace q:=bs.q;rw[hw26];obtain⟨JS,hJS⟩:=e_ ((fiG reN D.2.1 fl).isSome);have HJS:=h_ hJS;clear hJS;have HC:=tY X3 fl w26 o_v3.sub.2 FX3.out.zR' (fun r hr=>(FX3.out.rs' r hr).tw);rw[ER3.out,EF.out,e_X3.out] at HC;replace HC:=h_ HC;have c_c0:=bs.b3 0;have c_own0:=bs.b3 2;go_wp2_with fail;refine HC.out.mono ?_;rintro e w27 ⟨Y13,rfl,hd,ho,hb⟩;clear c_c0 c_own0;rw[HJS.out];have o_l13:IsL trY Y13.lv Y13.ld w27:=OwL.isL ho.1;have o_s13:aB Y13.sv Y13.st w27:=OwG.grp ho.2
        clear ho HC;replace o_v3:=o_v3.ret hb;replace o_z3:=o_z3.ret hb;replace o_i11:=o_i11.ret hb;replace bs:=bs.ret hb;replace q:=bs.q;clear hb;have HY13:=h_ hd;clear hd;obtain⟨on13,hon13⟩:=e_ Y13.on;obtain⟨pr13,hpr13⟩:=e_ Y13.pr;obtain⟨la13,hla13⟩:=e_ Y13.la.1;obtain⟨lb13,hlb13⟩:=e_ Y13.la.2;obtain⟨LL13,hLL13⟩:=e_ Y13.ld.length;obtain⟨ask13,hask13⟩:=e_ Y13.ask;obtain⟨sa13,hsa13⟩:=e_ Y13.sa.1;obtain⟨sb13,hsb13⟩:=e_ Y13.sa.2;obtain⟨SL13,hSL13⟩:=e_ Y13.st.length;obtain⟨jb13,hjb13⟩:=e_ (ByteArray.mk Y13.j.toArray);have e_Y13:Y13.v=.agg #[.string jb13,.bool on13,.int .i64 pr13,.slice la13 LL13 lb13,.bool ask13,.slice sa13 SL13 sb13]:=(by rw[←hon13,←hpr13,←hla13,←hlb13,←hLL13,←hask13,←hsa13,←hsb13,←hSL13,←hjb13]);rw[e_Y13];replace hon13:=h_ hon13;replace hpr13:=h_ hpr13;replace hla13:=h_ hla13;replace hlb13:=h_ hlb13;replace hLL13:=h_ hLL13;replace hask13:=h_ hask13;replace hsa13:=h_ hsa13;replace hsb13:=h_ hsb13;replace hSL13:=h_ hSL13;replace hjb13:=h_ hjb13;replace e_Y13:=h_ e_Y13;have c_c0:=bs.b3 0;have c_own0:=bs.b3 2;have d0:=(bs.lit (w27.heap.size) rfl [.string jb13,.bool on13,.int .i64 pr13,.slice la13 LL13 lb13,.bool ask13,.slice sa13 SL13 sb13] 38);have c0_n00:=d0.b6 5;have c0_c0:=d0.b3 0;have c0_own0:=d0.b3 2;go_wp2_with fail;clear c_c0 c_own0 d0 c0_n00 c0_c0 c0_own0;obtain⟨w28,hw28,y28,al,bs⟩:=bs.alloc (w27.heap.size) rfl [.string jb13,.bool on13,.int .i64 pr13,.slice la13 LL13 lb13,.bool ask13,.slice sa13 SL13 sb13] 38;replace o_v3:=o_v3.ret al;replace o_z3:=o_z3.ret al;replace o_i11:=o_i11.ret al;replace o_l13:=o_l13.ret al;replace o_s13:=o_s13.ret al;clear al;replace q:=bs.q;rw[hw28];obtain⟨h1,h2,h3,h4⟩:=IFR.out HF.out
        have CF3:=fun (W:World) (hb:Bl w W)=>CWc.out W hb HF.out
        obtain⟨Y14,hY14⟩:=e_ ((fdR c.R fl).getD tV);simp only[hY14,h2,HJS.out] at CF3 h1 h3 h4;have HY14:=h_ h1;have HI14:=h_ h3;have HQ14:=h_ h4;clear h1 h2 h3 h4 hY14;obtain⟨on14,hon14⟩:=e_ Y14.on;obtain⟨pr14,hpr14⟩:=e_ Y14.pr;obtain⟨la14,hla14⟩:=e_ Y14.la.1;obtain⟨lb14,hlb14⟩:=e_ Y14.la.2;obtain⟨LL14,hLL14⟩:=e_ Y14.ld.length;obtain⟨ask14,hask14⟩:=e_ Y14.ask;obtain⟨sa14,hsa14⟩:=e_ Y14.sa.1;obtain⟨sb14,hsb14⟩:=e_ Y14.sa.2;obtain⟨SL14,hSL14⟩:=e_ Y14.st.length;obtain⟨jb14,hjb14⟩:=e_ (ByteArray.mk Y14.j.toArray);have e_Y14:Y14.v=.agg #[.string jb14,.bool on14,.int .i64 pr14,.slice la14 LL14 lb14,.bool ask14,.slice sa14 SL14 sb14]:=(by rw[←hon14,←hpr14,←hla14,←hlb14,←hLL14,←hask14,←hsa14,←hsb14,←hSL14,←hjb14]);simp only[e_Y14] at CF3;replace CF3:=h_ CF3;replace hon14:=h_ hon14;replace hpr14:=h_ hpr14;replace hla14:=h_ hla14;replace hlb14:=h_ hlb14;replace hLL14:=h_ hLL14;replace hask14:=h_ hask14;replace hsa14:=h_ hsa14;replace hsb14:=h_ hsb14;replace hSL14:=h_ hSL14;replace hjb14:=h_ hjb14;replace e_Y14:=h_ e_Y14;have HC:=CF3.out w28 q;replace HC:=h_ HC;have c_c0:=bs.b3 0;have c_own0:=bs.b3 2;go_wp2_with fail;refine(HC.out).mono ?_;rintro e w29 ⟨rfl,hb⟩;clear c_c0 c_own0;replace o_v3:=o_v3.ret hb;replace o_z3:=o_z3.ret hb;replace o_i11:=o_i11.ret hb;replace o_l13:=o_l13.ret hb;replace o_s13:=o_s13.ret hb;replace bs:=bs.ret hb;replace q:=bs.q;clear hb;clear HC;have c_c0:=bs.b3 0;have c_own0:=bs.b3 2;have d0:=(bs.lit (w29.heap.size) rfl [.string jb14,.bool on14,.int .i64 pr14,.slice la14 LL14 lb14,.bool ask14,.slice sa14 SL14 sb14] 38);have c0_n00:=d0.b6 6;have c0_c0:=d0.b3 0;have c0_own0:=d0.b3 2;go_wp2_with fail;clear c_c0 c_own0 d0 c0_n00 c0_c0 c0_own0;obtain⟨w30,hw30,y30,al,bs⟩:=bs.alloc (w29.heap.size) rfl [.string jb14,.bool on14,.int .i64 pr14,.slice la14 LL14 lb14,.bool ask14,.slice sa14 SL14 sb14] 38;replace o_v3:=o_v3.ret al
        replace o_z3:=o_z3.ret al;replace o_i11:=o_i11.ret al;replace o_l13:=o_l13.ret al;replace o_s13:=o_s13.ret al;clear al;replace q:=bs.q;rw[hw30];have HFN:=h_ (qY HZX.out (by have:=HZL.out;omega));obtain⟨NF,hNF⟩:=e_ (mT l);have HNF:=h_ hNF;have HFN2:Hid (CoFitD NF.1):=h_ (by rw[←hNF];exact HFN.out);obtain⟨ND,ne⟩:=NF;clear hNF HFN;have HC:=um (.slice ga GL gc) l w30 (HGR.out.ret q) (by have:=HZL.out;omega) HZX.out (HML.out.ret q);rw[HNF.out] at HC;replace HC:=h_ HC;have c_c0:=bs.b3 0;have c_own0:=bs.b3 2;go_wp2_with fail;refine HC.out.mono ?_;rintro e w31 ⟨X5,rfl,hd,ho,hb⟩;clear c_c0 c_own0;have o_u5:X5.sub w31:=ho.sub;clear ho HC;replace o_v3:=o_v3.ret hb;replace o_z3:=o_z3.ret hb;replace o_i11:=o_i11.ret hb;replace o_l13:=o_l13.ret hb;replace o_s13:=o_s13.ret hb;replace bs:=bs.ret hb;replace q:=bs.q;clear hb;have HD5:=h_ hd;clear hd;obtain⟨a5,ha5⟩:=e_ X5.aa.1;obtain⟨b5,hb5⟩:=e_ X5.aa.2;obtain⟨LA5,hLA5⟩:=e_ X5.A.length;obtain⟨r5,hr5⟩:=e_ X5.ra.1;obtain⟨s5,hs5⟩:=e_ X5.ra.2;obtain⟨LR5,hLR5⟩:=e_ X5.R.length;obtain⟨m5,hm5⟩:=e_ X5.m;have e_X5:X5.v=.agg #[.slice a5 LA5 b5,.slice r5 LR5 s5,.int .i64 m5]:=(by rw[←ha5,←hb5,←hLA5,←hr5,←hs5,←hLR5,←hm5]);rw[e_X5];replace ha5:=h_ ha5;replace hb5:=h_ hb5;replace hLA5:=h_ hLA5;replace hr5:=h_ hr5;replace hs5:=h_ hs5;replace hLR5:=h_ hLR5;replace hm5:=h_ hm5;replace e_X5:=h_ e_X5;have c_c0:=bs.b3 0;have c_own0:=bs.b3 2;have d0:=(bs.lit (w31.heap.size) rfl [.slice a5 LA5 b5,.slice r5 LR5 s5,.int .i64 m5] 25);have c0_n00:=d0.b3 7;have c0_c0:=d0.b3 0;have c0_own0:=d0.b3 2;go_wp2_with fail;clear c_c0 c_own0 d0 c0_n00 c0_c0 c0_own0;obtain⟨w32,hw32,y32,al,bs⟩:=bs.alloc (w31.heap.size) rfl [.slice a5 LA5 b5,.slice r5 LR5 s5,.int .i64 m5] 25;replace o_v3:=o_v3.ret al;replace o_z3:=o_z3.ret al;replace o_i11:=o_i11.ret al;replace o_l13:=o_l13.ret al;replace o_s13:=o_s13.ret al;replace o_u5:=o_u5.ret al
        clear al;replace q:=bs.q;rw[hw32];have HC:=rR (.slice ga GL gc) l w32 (HGR.out.ret q) (by have:=HZL.out;omega) HZX.out;rw[HNF.out] at HC;replace HC:=h_ HC;have c_c0:=bs.b3 0;have c_own0:=bs.b3 2;go_wp2_with fail;refine HC.out.mono ?_;rintro e w33 ⟨X6,rfl,hd,ho,hb⟩;clear c_c0 c_own0;have o_u6:X6.sub w33:=ho;clear ho HC;replace o_v3:=o_v3.ret hb;replace o_z3:=o_z3.ret hb;replace o_i11:=o_i11.ret hb;replace o_l13:=o_l13.ret hb;replace o_s13:=o_s13.ret hb;replace o_u5:=o_u5.ret hb;replace bs:=bs.ret hb;replace q:=bs.q;clear hb;have HD6:=h_ hd;clear hd;obtain⟨a6,ha6⟩:=e_ X6.aa.1;obtain⟨b6,hb6⟩:=e_ X6.aa.2;obtain⟨LA6,hLA6⟩:=e_ X6.A.length;obtain⟨r6,hr6⟩:=e_ X6.ra.1;obtain⟨s6,hs6⟩:=e_ X6.ra.2;obtain⟨LR6,hLR6⟩:=e_ X6.R.length;obtain⟨m6,hm6⟩:=e_ X6.m;have e_X6:X6.v=.agg #[.slice a6 LA6 b6,.slice r6 LR6 s6,.int .i64 m6]:=(by rw[←ha6,←hb6,←hLA6,←hr6,←hs6,←hLR6,←hm6]);rw[e_X6];replace ha6:=h_ ha6;replace hb6:=h_ hb6;replace hLA6:=h_ hLA6;replace hr6:=h_ hr6;replace hs6:=h_ hs6;replace hLR6:=h_ hLR6;replace hm6:=h_ hm6;replace e_X6:=h_ e_X6;have c_c0:=bs.b3 0;have c_own0:=bs.b3 2;have d0:=(bs.lit (w33.heap.size) rfl [.slice a6 LA6 b6,.slice r6 LR6 s6,.int .i64 m6] 25);have c0_n00:=d0.b3 8;have c0_c0:=d0.b3 0;have c0_own0:=d0.b3 2;go_wp2_with fail;clear c_c0 c_own0 d0 c0_n00 c0_c0 c0_own0;obtain⟨w34,hw34,y34,al,bs⟩:=bs.alloc (w33.heap.size) rfl [.slice a6 LA6 b6,.slice r6 LR6 s6,.int .i64 m6] 25;replace o_v3:=o_v3.ret al;replace o_z3:=o_z3.ret al;replace o_i11:=o_i11.ret al;replace o_l13:=o_l13.ret al;replace o_s13:=o_s13.ret al;replace o_u5:=o_u5.ret al;replace o_u6:=o_u6.ret al;clear al;replace q:=bs.q;rw[hw34];have HC:=su X3 w34 o_v3.sub FX3.out.zA' FX3.out.zR' (fun a ha=>(FX3.out.ac' a ha).small) (fun r hr=>(FX3.out.rs' r hr).tw);rw[HD3.out,e_X3.out] at HC;replace HC:=h_ HC;have c_c0:=bs.b3 0;have c_own0:=bs.b3 2;go_wp2_with fail
        obtain⟨za7,hza7⟩:=e_ w34.heap.size;refine HC.out.mono ?_;rintro e w35 ⟨X7,rfl,hd,ho,hb⟩;clear c_c0 c_own0;have o_v7:X7.own (Iv za7 w35.heap.size) w35:=(by rw[←hza7];exact(ho.own).iv);have hz7:za7≤w35.heap.size:=(by rw[←hza7];exact hb.size);have hzz3_7:zb3≤za7:=(by rw[←hza7];exact o_z3);have hA7_c:w.heap.size<za7:=(by rw[←hza7];exact bs.lt _ (wu (i:=0) rfl));have hA7_own:w21.heap.size<za7:=(by rw[←hza7];exact bs.lt _ (wu (i:=2) rfl));obtain⟨zb7,hzb7⟩:=e_ w35.heap.size;rw[hzb7] at o_v7 hz7;have o_z7:vo zb7 w35:=(by show zb7≤w35.heap.size;omega);clear ho HC;replace o_v3:=o_v3.ret hb;replace o_z3:=o_z3.ret hb;replace o_i11:=o_i11.ret hb;replace o_l13:=o_l13.ret hb;replace o_s13:=o_s13.ret hb;replace o_u5:=o_u5.ret hb;replace o_u6:=o_u6.ret hb;replace bs:=bs.ret hb;replace q:=bs.q;clear hb;clear hza7 hzb7;have HD7:=h_ hd;clear hd;obtain⟨a7,ha7⟩:=e_ X7.aa.1;obtain⟨b7,hb7⟩:=e_ X7.aa.2;obtain⟨LA7,hLA7⟩:=e_ X7.A.length;obtain⟨r7,hr7⟩:=e_ X7.ra.1;obtain⟨s7,hs7⟩:=e_ X7.ra.2;obtain⟨LR7,hLR7⟩:=e_ X7.R.length;obtain⟨m7,hm7⟩:=e_ X7.m;have e_X7:X7.v=.agg #[.slice a7 LA7 b7,.slice r7 LR7 s7,.int .i64 m7]:=(by rw[←ha7,←hb7,←hLA7,←hr7,←hs7,←hLR7,←hm7]);rw[e_X7];replace ha7:=h_ ha7;replace hb7:=h_ hb7;replace hLA7:=h_ hLA7;replace hr7:=h_ hr7;replace hs7:=h_ hs7;replace hLR7:=h_ hLR7;replace hm7:=h_ hm7;replace e_X7:=h_ e_X7
        have EQJ:Hid ((jb11.toList==jb12.toList)=true):=h_ (by
         have e:Z11.j=Z12.j:=congrArg (fun a:Ac=>a.1) (HZ11.out.trans HZ12.out.symm)
         rw[←hjb11.out,←hjb12.out,e]
         simp)
        have ej:=EQJ.out
        have bIS:(IS==IS)=true:=beq_self_eq_true IS
        have bJS:(JS==JS)=true:=beq_self_eq_true JS
        have bne:(ne==ne)=true:=beq_self_eq_true ne
        have c_c0:=bs.b3 0;have c_own0:=bs.b3 2;have c_a0:=bs.b3 3;have c_b0:=bs.b3 4;have d0:=(bs.lit (w35.heap.size) rfl [.slice a7 LA7 b7,.slice r7 LR7 s7,.int .i64 m7] 25);have c0_n00:=d0.b3 9;have c0_c0:=d0.b3 0;have c0_own0:=d0.b3 2;have c0_a0:=d0.b3 3;have c0_b0:=d0.b3 4;go_wp2_with fail;clear c_c0 c_own0 c_a0 c_b0 d0 c0_n00 c0_c0 c0_own0 c0_a0 c0_b0;obtain⟨w36,hw36,y36,al,bs⟩:=bs.alloc (w35.heap.size) rfl [.slice a7 LA7 b7,.slice r7 LR7 s7,.int .i64 m7] 25;replace o_v3:=o_v3.ret al;replace o_z3:=o_z3.ret al;replace o_i11:=o_i11.ret al;replace o_l13:=o_l13.ret al;replace o_s13:=o_s13.ret al;replace o_u5:=o_u5.ret al;replace o_u6:=o_u6.ret al;replace o_v7:=o_v7.ret al;replace o_z7:=o_z7.ret al;clear al;replace q:=bs.q;rw[hw36];have CS1:Calls prog 18 #[.agg #[.slice ia11 IL11 ib11,.int .i64 ver11],.agg #[.slice ia12 IL12 ib12,.int .i64 ver12]] w36 (Ret w36 (.bool true)):=(by have h:=gU Z11 Z12 w36 o_i11 (aw.ret HI12.out q) (tZ HZ11.out (qS HF.out jl)) HQ12.out (HZ11.out.trans HZ12.out.symm);simp only[AcI.iv,hia11.out,hib11.out,hIL11.out,hver11.out,hia12.out,hib12.out,hIL12.out,hver12.out] at h;exact h);replace CS1:=h_ CS1;have c_a0:=bs.b3 3;have c_b0:=bs.b3 4;go_wp2_with fail;refine(CS1.out).mono ?_;rintro e w37 ⟨rfl,hb⟩;clear c_a0 c_b0;replace o_v3:=o_v3.ret hb;replace o_z3:=o_z3.ret hb;replace o_i11:=o_i11.ret hb;replace o_l13:=o_l13.ret hb;replace o_s13:=o_s13.ret hb;replace o_u5:=o_u5.ret hb;replace o_u6:=o_u6.ret hb;replace o_v7:=o_v7.ret hb;replace o_z7:=o_z7.ret hb;replace bs:=bs.ret hb;replace q:=bs.q;clear hb;clear CS1;have CS2:Calls prog 19 #[.agg #[.string jb13,.bool on13,.int .i64 pr13,.slice la13 LL13 lb13,.bool ask13,.slice sa13 SL13 sb13],.agg #[.string jb14,.bool on14,.int .i64 pr14,.slice la14 LL14 lb14,.bool ask14,.slice sa14 SL14 sb14]] w37 (Ret w37 (.bool true)):=(by have h:=ex Y13 Y14 w37 ⟨o_l13,o_s13⟩ (rsY.subRet _ _ _ HI14.out q) (ReFit.eq (by rw[HY13.out];exact pV HF.out fl)) HQ14.out (HY13.out.trans HY14.out.symm);rw[e_Y13.out,e_Y14.out] at h;exact h)
        replace CS2:=h_ CS2;have c_r0:=bs.b6 5;have c_q0:=bs.b6 6;go_wp2_with fail;refine(CS2.out).mono ?_;rintro e w38 ⟨rfl,hb⟩;clear c_r0 c_q0;replace o_v3:=o_v3.ret hb;replace o_z3:=o_z3.ret hb;replace o_i11:=o_i11.ret hb;replace o_l13:=o_l13.ret hb;replace o_s13:=o_s13.ret hb;replace o_u5:=o_u5.ret hb;replace o_u6:=o_u6.ret hb;replace o_v7:=o_v7.ret hb;replace o_z7:=o_z7.ret hb;replace bs:=bs.ret hb;replace q:=bs.q;clear hb;clear CS2;have CS3:Calls prog 20 #[.agg #[.slice a5 LA5 b5,.slice r5 LR5 s5,.int .i64 m5],.agg #[.slice a6 LA6 b6,.slice r6 LR6 s6,.int .i64 m6]] w38 (Ret w38 (.bool true)):=(by have h:=dJ X5 X6 w38 o_u5 o_u6 (CoFitD.eq (by rw[HD5.out];exact HFN2.out)) (CoFitD.eq (by rw[HD6.out];exact HFN2.out)) (HD5.out.trans HD6.out.symm);rw[e_X5.out,e_X6.out] at h;exact h);replace CS3:=h_ CS3;have c_x0:=bs.b3 7;have c_y0:=bs.b3 8;go_wp2_with fail;refine(CS3.out).mono ?_;rintro e w39 ⟨rfl,hb⟩;clear c_x0 c_y0;replace o_v3:=o_v3.ret hb;replace o_z3:=o_z3.ret hb;replace o_i11:=o_i11.ret hb;replace o_l13:=o_l13.ret hb;replace o_s13:=o_s13.ret hb;replace o_u5:=o_u5.ret hb;replace o_u6:=o_u6.ret hb;replace o_v7:=o_v7.ret hb;replace o_z7:=o_z7.ret hb;replace bs:=bs.ret hb;replace q:=bs.q;clear hb;clear CS3;clear o_i11 o_l13 o_s13 o_u5 o_u6 ej bIS bJS;have c_c0:=bs.b3 0;have c_own0:=bs.b3 2;go_upto_region 17 with fail;clear c_c0 c_own0;clear bne;replace o_v3:=o_v3.ret (ws (bQ _));replace o_z3:=o_z3.ret (ws (bQ _));replace o_v7:=o_v7.ret (ws (bQ _));replace o_z7:=o_z7.ret (ws (bQ _));replace bs:=bs.ret (ws (bQ _));replace q:=bs.q
        have y40:w39.drew.heap.size=w39.heap.size:=rfl
        refine wp_region_held_drew (S:=fun w'=>w'.cell? ⟨w21.heap.size,0,none⟩=some (.slice a3 LA3 b3)∧w'.cell? ⟨w21.heap.size,1,none⟩=some (.slice r3 LR3 s3)∧w'.cell? ⟨w21.heap.size,2,none⟩=some (.int .i64 m3)∧w'.cell? ⟨w.heap.size,0,none⟩=some (.slice a1 LA1 b1)∧w'.cell? ⟨w.heap.size,1,none⟩=some (.slice r1 LR1 s1)∧w'.cell? ⟨w.heap.size,2,none⟩=some (.int .i64 m1)) (by kernel_rfl) ⟨bs.at 2 0,bs.at 2 1,bs.at 2 2,bs.at 0 0,bs.at 0 1,bs.at 0 2⟩ (fun hH=>?_);generalize w39.drew=w40 at bs o_v3 o_z3 o_v7 o_z7 q y40 hH ⊢;refine rS [(0,some 137),(1,some 138),(3,some 140),(4,some 141)] ?_
        iterate 4 refine aS ?_
        refine rE ?_
        refine aC (i:=2) fun K hK=>?_
        go_simp;have HC:=vy X3 jl w40 o_v3.sub.2 FX3.out.zR' (fun r hr=>(FX3.out.rs' r hr).j) (HML.out.ret q);rw[ER3.out,EJ.out,e_X3.out] at HC;replace HC:=h_ HC;refine HC.out.mono ?_;rintro e w41 ⟨v1,rfl,ho,hb⟩;have o_g1:aB v1 (onF D.2.1 jl) w41:=OwG.grp ho;clear ho HC;replace o_v3:=o_v3.ret hb;replace o_z3:=o_z3.ret hb;replace o_v7:=o_v7.ret hb;replace o_z7:=o_z7.ret hb;replace bs:=bs.ret hb;replace q:=bs.q;clear hb;go_simp;clear hH;refine hK.out _ _ ⟨bs.at 2 0,bs.at 2 1,bs.at 2 2,bs.at 0 0,bs.at 0 1,bs.at 0 2⟩ (fun hH=>?_);clear hK K
        refine aC (i:=5) fun K hK=>?_
        go_simp;have HC:=COn.out w41 q HF.out;replace HC:=h_ HC;refine HC.out.mono ?_;rintro e w42 ⟨v2,rfl,ho,hb⟩;have o_g2:aB v2 (onF D.2.1 jl) w42:=OwG.grp ho;clear ho HC;replace o_v3:=o_v3.ret hb;replace o_z3:=o_z3.ret hb;replace o_v7:=o_v7.ret hb;replace o_z7:=o_z7.ret hb;replace o_g1:=o_g1.ret hb;replace bs:=bs.ret hb;replace q:=bs.q;clear hb;go_simp;clear hH;refine hK.out _ _ ⟨bs.at 2 0,bs.at 2 1,bs.at 2 2,bs.at 0 0,bs.at 0 1,bs.at 0 2⟩ (fun hH=>?_);clear hK K
        refine aC (i:=6) fun K hK=>?_
        go_simp;refine(cm v1 v2 (onF D.2.1 jl) w42 o_g1 o_g2 (wt (fq _ _ _) (by have:=HF.out.zR;omega))).mono ?_;rintro e w43 ⟨rfl,hb⟩;replace o_v3:=o_v3.ret hb;replace o_z3:=o_z3.ret hb;replace o_v7:=o_v7.ret hb;replace o_z7:=o_z7.ret hb;replace o_g1:=o_g1.ret hb;replace o_g2:=o_g2.ret hb;replace bs:=bs.ret hb;replace q:=bs.q;clear hb;clear o_g1 o_g2;go_simp;clear hH;refine hK.out _ _ ⟨bs.at 2 0,bs.at 2 1,bs.at 2 2,bs.at 0 0,bs.at 0 1,bs.at 0 2⟩ (fun hH=>?_);clear hK K;refine rS [(7,some 144),(8,some 145),(9,some 146),(11,some 148),(12,some 149)] ?_
        iterate 5 refine aS ?_
        refine rE ?_
        refine aC (i:=10) fun K hK=>?_
        go_simp;have HC:=tv X3 jl w43 o_v3.sub.2 FX3.out.zR' (fun r hr=>(FX3.out.rs' r hr).j) (HML.out.ret q);rw[ER3.out,EJ.out,e_X3.out] at HC;replace HC:=h_ HC;refine HC.out.mono ?_;rintro e w44 ⟨v1,rfl,ho,hb⟩;have o_g1:aB v1 (ic D.2.1 jl) w44:=OwG.grp ho;clear ho HC;replace o_v3:=o_v3.ret hb;replace o_z3:=o_z3.ret hb;replace o_v7:=o_v7.ret hb;replace o_z7:=o_z7.ret hb;replace bs:=bs.ret hb;replace q:=bs.q;clear hb;go_simp;clear hH;refine hK.out _ _ ⟨bs.at 2 0,bs.at 2 1,bs.at 2 2,bs.at 0 0,bs.at 0 1,bs.at 0 2⟩ (fun hH=>?_);clear hK K
        refine aC (i:=13) fun K hK=>?_
        go_simp;have HC:=CBe.out w44 q HF.out;replace HC:=h_ HC;refine HC.out.mono ?_;rintro e w45 ⟨v2,rfl,ho,hb⟩;have o_g2:aB v2 (ic D.2.1 jl) w45:=OwG.grp ho;clear ho HC;replace o_v3:=o_v3.ret hb;replace o_z3:=o_z3.ret hb;replace o_v7:=o_v7.ret hb;replace o_z7:=o_z7.ret hb;replace o_g1:=o_g1.ret hb;replace bs:=bs.ret hb;replace q:=bs.q;clear hb;go_simp;clear hH;refine hK.out _ _ ⟨bs.at 2 0,bs.at 2 1,bs.at 2 2,bs.at 0 0,bs.at 0 1,bs.at 0 2⟩ (fun hH=>?_);clear hK K
        refine aC (i:=14) fun K hK=>?_
        go_simp;refine(cm v1 v2 (ic D.2.1 jl) w45 o_g1 o_g2 (wt (fq _ _ _) (by have:=HF.out.zR;omega))).mono ?_;rintro e w46 ⟨rfl,hb⟩;replace o_v3:=o_v3.ret hb;replace o_z3:=o_z3.ret hb;replace o_v7:=o_v7.ret hb;replace o_z7:=o_z7.ret hb;replace o_g1:=o_g1.ret hb;replace o_g2:=o_g2.ret hb;replace bs:=bs.ret hb;replace q:=bs.q;clear hb;clear o_g1 o_g2;go_simp;clear hH;refine hK.out _ _ ⟨bs.at 2 0,bs.at 2 1,bs.at 2 2,bs.at 0 0,bs.at 0 1,bs.at 0 2⟩ (fun hH=>?_);clear hK K;refine rS [(15,some 152),(16,some 153),(17,some 154),(18,some 155),(20,some 157),(21,some 158)] ?_
        iterate 6 refine aS ?_
        refine rE ?_
        refine aC (i:=19) fun K hK=>?_
        go_simp;have HC:=pC X3 jl w46 o_v3.sub.2 FX3.out.zR' (fun r hr=>(FX3.out.rs' r hr).j) (HML.out.ret q);rw[ER3.out,EJ.out,e_X3.out] at HC;replace HC:=h_ HC;refine HC.out.mono ?_;rintro e w47 ⟨v1,rfl,ho,hb⟩;have o_g1:aB v1 (fh D.2.1 jl) w47:=OwG.grp ho;clear ho HC;replace o_v3:=o_v3.ret hb;replace o_z3:=o_z3.ret hb;replace o_v7:=o_v7.ret hb;replace o_z7:=o_z7.ret hb;replace bs:=bs.ret hb;replace q:=bs.q;clear hb;go_simp;clear hH;refine hK.out _ _ ⟨bs.at 2 0,bs.at 2 1,bs.at 2 2,bs.at 0 0,bs.at 0 1,bs.at 0 2⟩ (fun hH=>?_);clear hK K
        refine aC (i:=22) fun K hK=>?_
        go_simp;have HC:=CAs.out w47 q HF.out;replace HC:=h_ HC;refine HC.out.mono ?_;rintro e w48 ⟨v2,rfl,ho,hb⟩;have o_g2:aB v2 (fh D.2.1 jl) w48:=OwG.grp ho;clear ho HC;replace o_v3:=o_v3.ret hb;replace o_z3:=o_z3.ret hb;replace o_v7:=o_v7.ret hb;replace o_z7:=o_z7.ret hb;replace o_g1:=o_g1.ret hb;replace bs:=bs.ret hb;replace q:=bs.q;clear hb;go_simp;clear hH;refine hK.out _ _ ⟨bs.at 2 0,bs.at 2 1,bs.at 2 2,bs.at 0 0,bs.at 0 1,bs.at 0 2⟩ (fun hH=>?_);clear hK K
        refine aC (i:=23) fun K hK=>?_
        go_simp;refine(cm v1 v2 (fh D.2.1 jl) w48 o_g1 o_g2 (wt (fq _ _ _) (by have:=HF.out.zR;omega))).mono ?_;rintro e w49 ⟨rfl,hb⟩;replace o_v3:=o_v3.ret hb;replace o_z3:=o_z3.ret hb;replace o_v7:=o_v7.ret hb;replace o_z7:=o_z7.ret hb;replace o_g1:=o_g1.ret hb;replace o_g2:=o_g2.ret hb;replace bs:=bs.ret hb;replace q:=bs.q;clear hb;clear o_g1 o_g2;go_simp;clear hH;refine hK.out _ _ ⟨bs.at 2 0,bs.at 2 1,bs.at 2 2,bs.at 0 0,bs.at 0 1,bs.at 0 2⟩ (fun hH=>?_);clear hK K;refine rS [(24,some 161),(25,some 162),(26,some 163),(27,some 164),(29,some 166),(30,some 167)] ?_
        iterate 6 refine aS ?_
        refine rE ?_
        refine aC (i:=28) fun K hK=>?_
        go_simp;have HC0:=rN X3 ⟨jl.toArray⟩ w49 o_v3.sub.1 FX3.out.zA' (fun a ha=>(FX3.out.ac' a ha).small);have e9:(⟨jl.toArray⟩:ByteArray).data.toList=jl:=(by simp);rw[e9,EA3.out,EJ.out,e_X3.out] at HC0;have HC:=h_ HC0;clear HC0 e9;refine HC.out.mono ?_;rintro e w50 ⟨v1,rfl,ho,hb⟩;have o_g1:aB v1 (ku D.1 jl) w50:=OwG.grp ho;clear ho HC;replace o_v3:=o_v3.ret hb;replace o_z3:=o_z3.ret hb;replace o_v7:=o_v7.ret hb;replace o_z7:=o_z7.ret hb;replace bs:=bs.ret hb;replace q:=bs.q;clear hb;go_simp;clear hH;refine hK.out _ _ ⟨bs.at 2 0,bs.at 2 1,bs.at 2 2,bs.at 0 0,bs.at 0 1,bs.at 0 2⟩ (fun hH=>?_);clear hK K
        refine aC (i:=31) fun K hK=>?_
        go_simp;have HC:=CFa.out w50 q HF.out;replace HC:=h_ HC;refine HC.out.mono ?_;rintro e w51 ⟨v2,rfl,ho,hb⟩;have o_g2:aB v2 (ku D.1 jl) w51:=OwG.grp ho;clear ho HC;replace o_v3:=o_v3.ret hb;replace o_z3:=o_z3.ret hb;replace o_v7:=o_v7.ret hb;replace o_z7:=o_z7.ret hb;replace o_g1:=o_g1.ret hb;replace bs:=bs.ret hb;replace q:=bs.q;clear hb;go_simp;clear hH;refine hK.out _ _ ⟨bs.at 2 0,bs.at 2 1,bs.at 2 2,bs.at 0 0,bs.at 0 1,bs.at 0 2⟩ (fun hH=>?_);clear hK K
        refine aC (i:=32) fun K hK=>?_
        go_simp;refine(cm v1 v2 (ku D.1 jl) w51 o_g1 o_g2 (wt (gX _ _) (by have:=HF.out.zA;omega))).mono ?_;rintro e w52 ⟨rfl,hb⟩;replace o_v3:=o_v3.ret hb;replace o_z3:=o_z3.ret hb;replace o_v7:=o_v7.ret hb;replace o_z7:=o_z7.ret hb;replace o_g1:=o_g1.ret hb;replace o_g2:=o_g2.ret hb;replace bs:=bs.ret hb;replace q:=bs.q;clear hb;clear o_g1 o_g2;go_simp;clear hH;refine hK.out _ _ ⟨bs.at 2 0,bs.at 2 1,bs.at 2 2,bs.at 0 0,bs.at 0 1,bs.at 0 2⟩ (fun hH=>?_);clear hK K;refine rS [(33,some 170),(34,some 27)] ?_
        iterate 2 refine aS ?_
        refine rE ?_;refine aD ?_;clear hH;have c_c0:=bs.b3 0;have c_own0:=bs.b3 2;go_upto_region 18 with fail;clear c_c0 c_own0;obtain⟨KC,hKC⟩:∃k:Int,(if kq aA D=true then (0:Int) else 8)=k:=⟨_,rfl⟩;obtain⟨SB,hSB⟩:∃k:Bool,decide (D=E)=k:=⟨_,rfl⟩;have HKC:=h_ hKC;have HSB:=h_ hSB;clear hKC hSB
        have bKC:(KC==KC)=true:=beq_self_eq_true KC
        have bSB:(SB==SB)=true:=beq_self_eq_true SB
        replace o_v3:=o_v3.ret (ws (bQ _));replace o_z3:=o_z3.ret (ws (bQ _));replace o_v7:=o_v7.ret (ws (bQ _));replace o_z7:=o_z7.ret (ws (bQ _));replace bs:=bs.ret (ws (bQ _));replace q:=bs.q
        have y53:w52.drew.heap.size=w52.heap.size:=rfl
        refine wp_region_held_drew (S:=fun w'=>w'.cell? ⟨w21.heap.size,0,none⟩=some (.slice a3 LA3 b3)∧w'.cell? ⟨w21.heap.size,1,none⟩=some (.slice r3 LR3 s3)∧w'.cell? ⟨w21.heap.size,2,none⟩=some (.int .i64 m3)∧w'.cell? ⟨w.heap.size,0,none⟩=some (.slice a1 LA1 b1)∧w'.cell? ⟨w.heap.size,1,none⟩=some (.slice r1 LR1 s1)∧w'.cell? ⟨w.heap.size,2,none⟩=some (.int .i64 m1)∧w'.cell? ⟨w.heap.size+1,0,none⟩=some (.slice a2 LA2 b2)∧w'.cell? ⟨w.heap.size+1,1,none⟩=some (.slice r2 LR2 s2)∧w'.cell? ⟨w.heap.size+1,2,none⟩=some (.int .i64 m2)∧w'.cell? ⟨w35.heap.size,0,none⟩=some (.slice a7 LA7 b7)∧w'.cell? ⟨w35.heap.size,1,none⟩=some (.slice r7 LR7 s7)∧w'.cell? ⟨w35.heap.size,2,none⟩=some (.int .i64 m7)) (by kernel_rfl) ⟨bs.at 2 0,bs.at 2 1,bs.at 2 2,bs.at 0 0,bs.at 0 1,bs.at 0 2,bs.at 1 0,bs.at 1 1,bs.at 1 2,bs.at 9 0,bs.at 9 1,bs.at 9 2⟩ (fun hH=>?_);generalize w52.drew=w53 at bs o_v3 o_z3 o_v7 o_z7 q y53 hH ⊢;refine rS [(0,some 171),(2,some 173)] ?_
        iterate 2 refine aS ?_
        refine rE ?_
        refine aC (i:=1) fun K hK=>?_
        go_simp;have HC:Calls prog 30 #[.agg #[.slice a3 LA3 b3,.slice r3 LR3 s3,.int .i64 m3]] w53 (Ret w53 (.int .i64 KC)):=(by have h:=qy aA X3 w53 (FX3.out.fit o_v3.sub) (HML.out.ret q);rw[HD3.out,HKC.out,e_X3.out] at h;exact h);replace HC:=h_ HC;refine(HC.out).mono ?_;rintro e w54 ⟨rfl,hb⟩;replace o_v3:=o_v3.ret hb;replace o_z3:=o_z3.ret hb;replace o_v7:=o_v7.ret hb;replace o_z7:=o_z7.ret hb;replace bs:=bs.ret hb;replace q:=bs.q;clear hb;clear HC;go_simp;clear hH;refine hK.out _ _ ⟨bs.at 2 0,bs.at 2 1,bs.at 2 2,bs.at 0 0,bs.at 0 1,bs.at 0 2,bs.at 1 0,bs.at 1 1,bs.at 1 2,bs.at 9 0,bs.at 9 1,bs.at 9 2⟩ (fun hH=>?_);clear hK K
        refine aC (i:=3) fun K hK=>?_
        go_simp;have HC:Calls prog 31 #[.agg #[.slice a1 LA1 b1,.slice r1 LR1 s1,.int .i64 m1]] w54 (Ret w54 (.int .i64 KC)):=(by have h:=CCh.out w54 q HF.out;rw[HKC.out] at h;exact h);replace HC:=h_ HC;refine(HC.out).mono ?_;rintro e w55 ⟨rfl,hb⟩;replace o_v3:=o_v3.ret hb;replace o_z3:=o_z3.ret hb;replace o_v7:=o_v7.ret hb;replace o_z7:=o_z7.ret hb;replace bs:=bs.ret hb;replace q:=bs.q;clear hb;clear HC;go_simp;clear hH;refine hK.out _ _ ⟨bs.at 2 0,bs.at 2 1,bs.at 2 2,bs.at 0 0,bs.at 0 1,bs.at 0 2,bs.at 1 0,bs.at 1 1,bs.at 1 2,bs.at 9 0,bs.at 9 1,bs.at 9 2⟩ (fun hH=>?_);clear hK K;refine rS [(4,some 175),(5,some 176),(6,some 177),(7,some 178),(9,some 180),(10,some 181)] ?_
        iterate 6 refine aS ?_
        refine rE ?_
        refine aC (i:=8) fun K hK=>?_
        go_simp;have HC:Calls prog 32 #[.agg #[.slice a3 LA3 b3,.slice r3 LR3 s3,.int .i64 m3],.agg #[.slice a2 LA2 b2,.slice r2 LR2 s2,.int .i64 m2]] w55 (Ret w55 (.bool SB)):=(by have h:=XSo.out w55 q HFO.out X3 o_v3.sub FX3.out.eq;rw[HD3.out,HSB.out,e_X3.out] at h;exact h);replace HC:=h_ HC;refine(HC.out).mono ?_;rintro e w56 ⟨rfl,hb⟩;replace o_v3:=o_v3.ret hb;replace o_z3:=o_z3.ret hb;replace o_v7:=o_v7.ret hb;replace o_z7:=o_z7.ret hb;replace bs:=bs.ret hb;replace q:=bs.q;clear hb;clear HC;go_simp;clear hH;refine hK.out _ _ ⟨bs.at 2 0,bs.at 2 1,bs.at 2 2,bs.at 0 0,bs.at 0 1,bs.at 0 2,bs.at 1 0,bs.at 1 1,bs.at 1 2,bs.at 9 0,bs.at 9 1,bs.at 9 2⟩ (fun hH=>?_);clear hK K
        refine aC (i:=11) fun K hK=>?_
        go_simp;have HC:Calls prog 20 #[.agg #[.slice a1 LA1 b1,.slice r1 LR1 s1,.int .i64 m1],.agg #[.slice a2 LA2 b2,.slice r2 LR2 s2,.int .i64 m2]] w56 (Ret w56 (.bool SB)):=(by have h:=CSo.out w56 q HF.out HFO.out;rw[HSB.out] at h;exact h);replace HC:=h_ HC;refine(HC.out).mono ?_;rintro e w57 ⟨rfl,hb⟩;replace o_v3:=o_v3.ret hb;replace o_z3:=o_z3.ret hb;replace o_v7:=o_v7.ret hb;replace o_z7:=o_z7.ret hb;replace bs:=bs.ret hb;replace q:=bs.q;clear hb;clear HC;go_simp;clear hH;refine hK.out _ _ ⟨bs.at 2 0,bs.at 2 1,bs.at 2 2,bs.at 0 0,bs.at 0 1,bs.at 0 2,bs.at 1 0,bs.at 1 1,bs.at 1 2,bs.at 9 0,bs.at 9 1,bs.at 9 2⟩ (fun hH=>?_);clear hK K;refine rS [(12,some 183),(13,some 184),(14,some 185),(15,some 186),(16,some 187)] ?_
        iterate 5 refine aS ?_
        refine rE ?_
        refine aC (i:=17) fun K hK=>?_
        go_simp;have HC:Calls prog 32 #[.agg #[.slice a3 LA3 b3,.slice r3 LR3 s3,.int .i64 m3],.agg #[.slice a1 LA1 b1,.slice r1 LR1 s1,.int .i64 m1]] w57 (Ret w57 (.bool true)):=(by have h:=XSc.out w57 q HF.out X3 o_v3.sub HD3.out;rw[e_X3.out] at h;exact h);replace HC:=h_ HC;refine(HC.out).mono ?_;rintro e w58 ⟨rfl,hb⟩;replace o_v3:=o_v3.ret hb;replace o_z3:=o_z3.ret hb;replace o_v7:=o_v7.ret hb;replace o_z7:=o_z7.ret hb;replace bs:=bs.ret hb;replace q:=bs.q;clear hb;clear HC;go_simp;clear hH;refine hK.out _ _ ⟨bs.at 2 0,bs.at 2 1,bs.at 2 2,bs.at 0 0,bs.at 0 1,bs.at 0 2,bs.at 1 0,bs.at 1 1,bs.at 1 2,bs.at 9 0,bs.at 9 1,bs.at 9 2⟩ (fun hH=>?_);clear hK K;refine rS [(18,some 189),(19,some 190),(20,some 191),(21,some 192)] ?_
        iterate 4 refine aS ?_
        refine rE ?_
        refine aC (i:=22) fun K hK=>?_
        go_simp;have HC:Calls prog 20 #[.agg #[.slice a7 LA7 b7,.slice r7 LR7 s7,.int .i64 m7],.agg #[.slice a1 LA1 b1,.slice r1 LR1 s1,.int .i64 m1]] w58 (Ret w58 (.bool true)):=(by have h:=RSc.out w58 q HF.out X7 o_v7.sub HD7.out;rw[e_X7.out] at h;exact h);replace HC:=h_ HC;refine(HC.out).mono ?_;rintro e w59 ⟨rfl,hb⟩;replace o_v3:=o_v3.ret hb;replace o_z3:=o_z3.ret hb;replace o_v7:=o_v7.ret hb;replace o_z7:=o_z7.ret hb;replace bs:=bs.ret hb;replace q:=bs.q;clear hb;clear HC;go_simp;clear hH;refine hK.out _ _ ⟨bs.at 2 0,bs.at 2 1,bs.at 2 2,bs.at 0 0,bs.at 0 1,bs.at 0 2,bs.at 1 0,bs.at 1 1,bs.at 1 2,bs.at 9 0,bs.at 9 1,bs.at 9 2⟩ (fun hH=>?_);clear hK K;refine rS [(23,some 194),(24,some 28)] ?_
        iterate 2 refine aS ?_
        refine rE ?_;refine aD ?_;clear hH;clear bKC bSB;have HC:Calls prog 33 #[.agg #[.slice a7 LA7 b7,.slice r7 LR7 s7,.int .i64 m7]] w59 (vV w.heap.size za7 zb7 w59):=(by have h:=mc X7 w.heap.size za7 zb7 w59 o_v7 (by omega) hz7 o_z7 (by rw[HD7.out];exact HF.out);rw[e_X7.out] at h;exact h);replace HC:=h_ HC;have c_t0:=bs.b3 9;go_wp2_with fail;refine HC.out.mono ?_;rintro e w60 ⟨rfl,hbl,hkeep⟩;clear c_t0;clear HC;have o_v3s:X3.own (Iv za3 zb3) w60:=o_v3.beside o_z3 (.inl hzz3_7) hkeep
        have bs2:Sx w [(w.heap.size,[.slice a1 LA1 b1,.slice r1 LR1 s1,.int .i64 m1]),(w21.heap.size,[.slice a3 LA3 b3,.slice r3 LR3 s3,.int .i64 m3])] w60:=bs.spoilt (.cons_cons _ (.cons _ (.cons_cons _ (List.nil_sublist _)))) hbl (Nat.le_refl _) hkeep (by
         intro x hx;simp only[List.map_cons,List.map_nil,List.mem_cons,List.not_mem_nil,or_false] at hx
         rcases hx with rfl | rfl
         ·exact .inl hA7_c
         ·exact .inl hA7_own)
        clear bs q o_v3 o_v7 o_z3 o_z7 hbl hkeep;have bs:=bs2;have o_v3:=o_v3s;clear bs2 o_v3s;have q:=bs.q;have HC:Calls prog 20 #[.agg #[.slice a3 LA3 b3,.slice r3 LR3 s3,.int .i64 m3],.agg #[.slice a1 LA1 b1,.slice r1 LR1 s1,.int .i64 m1]] w60 (Ret w60 (.bool true)):=(by have h:=RSc.out w60 q HF.out X3 o_v3.sub HD3.out;rw[e_X3.out] at h;exact h);replace HC:=h_ HC;have c_c0:=bs.b3 0;have c_own0:=bs.b3 1;go_wp2_with fail;refine(HC.out).mono ?_;rintro e w61 ⟨rfl,hb⟩;clear c_c0 c_own0;replace o_v3:=o_v3.ret hb;replace bs:=bs.ret hb;replace q:=bs.q;clear hb;clear HC;go_wp2_with fail;go_ret;exact⟨rfl,q⟩
end Go.Proofs.YtjgeiieiinmdnaaGreatDoor
