/- HaD, HaH: put together by mergetpl.py. -/
import Derived.Test.YtjgeiieiinmdnaaGreatDoorLd
import Derived.Test.YtjgeiieiinmdnaaGreatDoorLc
import Derived.Test.YtjgeiieiinmdnaaGreatDoorLb
import Derived.Test.YtjgeiieiinmdnaaGreatDoorKl
open Go.Proofs.Tryz
open Go.RowKit.Below renaming drew→wy
open Go.Value.slice renaming injEq→wv
open List renaming all_append→wq,mem_of_getElem?→ws,length_map→wt,all_map→wu,take_append_drop→ww
namespace Go.Proofs.YtjgeiieiinmdnaaGreatDoor
set_option maxHeartbeats 16000000
set_option maxRecDepth 100000
open Go.RowKit Go.Lib

theorem rP (p:List Nd→Bool) (T:TrI) (w:World) (h:jS p T w):Calls prog 133 #[trV T] w (Ret w (.bool (!p (trD T)))):=by
 have k:=h w (bQ _);obtain⟨b,hb⟩:=e_ (p (trD T));rw[hb] at k ⊢;have K:=h_ k;clear k h hb
 cases b with
 | false=>
  have K2:=h_ (show Calls prog 134 #[trV T] w (Ret w (.int .i64 8)) from K.out);clear K;go_enter func133,ntmps133;go_wp2_with fail;refine K2.out.mono ?_;rintro e w1 ⟨rfl,hb⟩;go_wp2_with fail;go_ret;exact⟨rfl,hb⟩
 | true=>
  have K2:=h_ (show Calls prog 134 #[trV T] w (Ret w (.int .i64 0)) from K.out);clear K;go_enter func133,ntmps133;go_wp2_with fail;refine K2.out.mono ?_;rintro e w1 ⟨rfl,hb⟩;go_wp2_with fail;go_ret;exact⟨rfl,hb⟩
theorem uM:∀args w,(callFunc 133 args).run prog w=.ok (.enter 133 args) w:=enters_of func133 (by kernel_rfl) rfl
theorem sd (p:List Nd→Bool) (x:RsI):fR p x.d=(ms x.j&&((decide (x.ld.length≤16)&&(decide (x.st.length≤8)&&(decide (-128≤x.pr)&&decide (x.pr≤127))))&&(!(x.ld.any fun t=>!p (trD t))&&((aV x.st&&x.st.all bz)&&(x.on||(decide (x.pr=0)&&decide (x.ld.length=0))))))):=by
 unfold fR
 have e1:x.d.ld.length=x.ld.length:=by
  show (x.ld.map trD).length=_
  rw[wt]
 have e2:x.d.ld.all p=!(x.ld.any fun t=>!p (trD t)):=by
  show (x.ld.map trD).all p=_
  rw[wu,List.any_eq_not_all_not]
  simp
  rfl
 have e3:x.d.ld.isEmpty=decide (x.ld.length=0):=by
  show (x.ld.map trD).isEmpty=_
  cases x.ld <;> simp
 rw[e1,e2,e3];simp only[Bool.and_assoc]
theorem pA (xj:List UInt8) (xon:Bool) (xpr:Int) (la:Option Addr) (lc:Nat) (xask:Bool) (xst:List (List UInt8)) (sa:Option Addr) (sc L D:Nat) (B Fu H Ok So:Bool) (X Y Z:ByteArray) (w:World) (hm:ML w) (hL:xst.length=L) (hLm:L≤1000)
  (hst:aB (.slice sa L sc) xst w) (hsc:L≤sc) (hD:D≤1000) (hSo:So=(decide (D≤16)&&(decide (L≤8)&&(decide (-128≤xpr)&&decide (xpr≤127))))) (hOk:Ok=(aV xst&&xst.all bz))
  (CA:∀w',Bl w w'→Calls prog 114 #[.string ⟨xj.toArray⟩] w' (Ret w' (.tuple #[jV X Y Z,.bool B])))
  (CS:∀s∈xst,∀w',Bl w w'→∃X Y Z:ByteArray,Calls prog 114 #[.string ⟨s.toArray⟩] w' (Ret w' (.tuple #[jV X Y Z,.bool (bz s)])))
  (CF:∀w',ML w'→B=true→Calls prog 135 #[jV X Y Z] w' (Ret w' (.bool Fu)))
  (CH:∀w',Bl w w'→Calls prog 136 #[.slice la D lc,.func (.func 133) #[] #[]] w' (Ret w' (.bool H))):
  Calls prog 76 #[.agg #[.string ⟨xj.toArray⟩,.bool xon,.int .i64 xpr,.slice la D lc,.bool xask,.slice sa L sc]] w (Ret w (.bool (Ok&&((B&&Fu)&&(So&&(!H&&(xon||(decide (xpr=0)&&decide (D=0))))))))):=by
 have HM:=h_ hm;have CA:=h_ CA;have CS:=h_ CS;have CF:=h_ CF;have CH:=h_ CH;have HS:=h_ hst;have HL:=h_ hL;have HOK:=h_ hOk;have HSO:=h_ hSo;clear hm hL hst hOk hSo;obtain⟨W0,hW,y0,bs⟩:=Sx.start1 w [.string ⟨xj.toArray⟩,.bool xon,.int .i64 xpr,.slice la D lc,.bool xask,.slice sa L sc] 38;have HW:=h_ hW;clear hW;have q:=bs.q;go_enter func76,ntmps76;have c_r0:=bs.b6 0;go_wp2_with fail;rw[HW.out];refine(CA.out W0 q).mono ?_;rintro e w1 ⟨rfl,hb⟩;clear c_r0;replace bs:=bs.ret hb;replace q:=bs.q;clear hb;have c_r0:=bs.b6 0;have d0:=(bs.lit (w1.heap.size) rfl [.string X,.string Y,.string Z] 117);have c0_r0:=d0.b6 0;go_wp2_with fail;clear c_r0 d0 c0_r0;obtain⟨w2,hw2,y2,al,bs⟩:=bs.alloc (w1.heap.size) rfl [.string X,.string Y,.string Z] 117;clear al;replace q:=bs.q;rw[hw2];go_loopw [20] (fun i wx=>∃k:Nat,k≤L∧i=.int .i64 k∧(xst.take k).all bz=true∧aV (xst.take k)=true∧Sx w [(w.heap.size,[.string ⟨xj.toArray⟩,.bool xon,.int .i64 xpr,.slice la D lc,.bool xask,.slice sa L sc]),(w1.heap.size,[.string X,.string Y,.string Z])] wx) (fun i _=>L-(intOf i).toNat)
 case atStart=>exact⟨0,Nat.zero_le _,rfl,rfl,rfl,bs⟩
 case round=>
  clear bs q;obtain⟨k,hk,rfl,hall,honce,bs⟩:=hrel;have q:=bs.q
  by_cases hlt:k<L
  ·have hkg : k < xst.length := by rw [HL.out]; exact hlt
   have hkc:k≤sc:=(by omega);have hV:=(HS.out.ret q).1;obtain⟨b,off,cp,hf,hb0,hc⟩:=bn hV (k:=k) (by rw[aj];exact hkg);rw[aj,HL.out] at hf;simp only[wv,true_and] at hf;obtain⟨rfl,rfl⟩:=hf;have hck:=hc k (by rw[aj];exact hkg);have hT:=hV.take k (by rw[aj];omega) (some ⟨b,off,none⟩) L sc rfl;rw[fk] at hT
   have e1:(aY xst)[k]'(by rw[aj];exact hkg)=.string ⟨(xst[k]).toArray⟩:=by simp[aY]
   rw[e1] at hck;obtain⟨X',Y',Z',hW⟩:=CS.out _ (List.getElem_mem hkg) wr q
   have hC:=fun (w':World) (hb:Bl wr w')=>cL (.slice (some ⟨b,off,none⟩) k sc) (xst.take k) xst[k] w' (hT.ret hb) (by rw[List.length_take];omega)
   have hsn:(xst.take (k+1))=xst.take k++[xst[k]]:=List.take_succ_eq_append_getElem hkg
   have hl1:bz xst[k]=false→Ok=false:=fun h=>by
    rw[HOK.out]
    have:xst.all bz=false:=by
     rw[←ww (k+1) xst,wq,hsn,wq]
     simp[h]
    rw[this,Bool.and_false]
   have hl2:(xst.take k).contains xst[k]=true→Ok=false:=fun h=>by
    rw[HOK.out]
    have:aV xst=false:=by
     rw[←ww (k+1) xst];exact cB (by rw[hsn,aJ,h];simp)
    rw[this,Bool.false_and]
   have hs1:bz xst[k]=true→(xst.take (k+1)).all bz=true:=fun h=>by
    rw[hsn,wq,hall]
    simp[h]
   have hs2:(xst.take k).contains xst[k]=false→aV (xst.take (k+1))=true:=fun h=>by
    rw[hsn,aJ,h,honce];rfl
   have hm2:decide (xst[k]∈xst.take k)=(xst.take k).contains xst[k]:=(by simp);rw[hm2] at hC;obtain⟨x,hx⟩:∃x:ByteArray,⟨(xst[k]).toArray⟩=x:=⟨_,rfl⟩;rw[hx] at hck hW hC;obtain⟨P1,hP1⟩:=e_ (bz xst[k]);obtain⟨P2,hP2⟩:=e_ ((xst.take k).contains xst[k]);rw[hP1] at hl1 hs1 hW;rw[hP2] at hl2 hs2 hC;have WH:=h_ hW;have CC:=h_ hC;have L1:=h_ hl1;have L2:=h_ hl2;have S1:=h_ hs1;have S2:=h_ hs2;clear hW hC hl1 hl2 hs1 hs2 hx hP1 hP2 hsn hm2 hT hV hc e1 hall honce
   cases P1 with
   | false=>
    have:=L1.out (by first | exact rfl | exact trivial);subst this;have q0:=bR wr;have c_r0:=bs.b6 0;go_wp2_with fail;refine(WH.out).mono ?_;rintro e w31 ⟨rfl,hb⟩;clear c_r0;replace bs:=bs.ret hb;replace q:=bs.q;clear hb;have c_r0:=bs.b6 0;have d0:=(bs.lit (w31.heap.size) rfl [.string X',.string Y',.string Z'] 117);have c0_r0:=d0.b6 0;go_wp2_with fail;clear c_r0 d0 c0_r0;obtain⟨w32,hw32,y32,al,bs⟩:=bs.alloc (w31.heap.size) rfl [.string X',.string Y',.string Z'] 117;clear al;replace q:=bs.q;rw[hw32];go_ret;exact⟨rfl,q⟩
   | true=>
    have q0:=bR wr;have c_r0:=bs.b6 0;go_wp2_with fail;refine(WH.out).mono ?_;rintro e w31 ⟨rfl,hb⟩;clear c_r0;replace bs:=bs.ret hb;replace q:=bs.q;have HB:=h_ hb;clear hb;have c_r0:=bs.b6 0;have d0:=(bs.lit (w31.heap.size) rfl [.string X',.string Y',.string Z'] 117);have c0_r0:=d0.b6 0;go_wp2_with fail;clear c_r0 d0 c0_r0;obtain⟨w32,hw32,y32,al,bs⟩:=bs.alloc (w31.heap.size) rfl [.string X',.string Y',.string Z'] 117;clear al;replace q:=bs.q;rw[hw32];have C1:=h_ (CC.out w32 (by have h1:=HB.out;have h2:=(bR w31).alloc (Nat.le_refl _) (.cells #[.string X',.string Y',.string Z'] 117);rw[hw32] at h2;exact h1.trans (h2.mono h1.size)))
    cases P2 with
    | true=>
     have:=L2.out (by first | exact rfl | exact trivial);subst this;have c_r0:=bs.b6 0;go_wp2_with fail;refine(C1.out).mono ?_;rintro e w33 ⟨rfl,hb⟩;clear c_r0;replace bs:=bs.ret hb;replace q:=bs.q;clear hb;go_wp2_with fail;go_ret;exact⟨rfl,q⟩
    | false=>
     have c_r0:=bs.b6 0;go_wp2_with fail;refine(C1.out).mono ?_;rintro e w33 ⟨rfl,hb⟩;clear c_r0;replace bs:=bs.ret hb;replace q:=bs.q;clear hb;go_wp2_with fail;go_roundw
     case rel=>exact⟨k+1,by omega,by go_num,S1.out (by first | exact rfl | exact trivial),S2.out (by first | exact rfl | exact trivial),bs.some 2⟩
     case measure=>simp[intOf];omega
  ·have e:xst.take k=xst:=List.take_of_length_le (by rw[HL.out];omega)
   rw[e] at hall honce;have hO:=HOK.out;rw[hall,honce] at hO;subst hO;clear hall honce e HOK HS CS;have hSo:=HSO.out;clear HSO
   by_cases g0:D≤16
   ·have v0 : (D : Int) ≤ 16 := by omega
    by_cases g1:L≤8
    ·have v1 : (L : Int) ≤ 8 := by omega
     by_cases g2:-128≤xpr
     ·have v2 : -128 ≤ xpr := by omega
      by_cases g3:xpr≤127
      ·have v3 : xpr ≤ 127 := by omega
       have:So=true:=(by rw[hSo,decide_eq_true g0,decide_eq_true g1,decide_eq_true g2,decide_eq_true g3];rfl);subst this;clear hSo
       cases B with
       | false=>
        have c_r0:=bs.b6 0;have c_j0:=bs.b3 1;go_wp2_with fail;go_ret;exact⟨by first | rfl | simp,q⟩
       | true=>
        cases Fu with
        | false=>
         have CF1:=h_ fun w' m=>CF.out w' m (by first | exact rfl | exact trivial)
         have c_r0:=bs.b6 0;have c_j0:=bs.b3 1;go_wp2_with fail;refine(CF1.out wr (HM.out.ret q)).mono ?_;rintro e w61 ⟨rfl,hb⟩;clear c_r0 c_j0;replace bs:=bs.ret hb;replace q:=bs.q;clear hb;have c_r0:=bs.b6 0;go_wp2_with fail;go_ret;exact⟨by first | rfl | simp,q⟩
        | true=>
         have CF1:=h_ fun w' m=>CF.out w' m (by first | exact rfl | exact trivial)
         have c_r0:=bs.b6 0;have c_j0:=bs.b3 1;go_wp2_with fail;refine(CF1.out wr (HM.out.ret q)).mono ?_;rintro e w61 ⟨rfl,hb⟩;clear c_r0 c_j0;replace bs:=bs.ret hb;replace q:=bs.q;clear hb
         cases H with
         | true=>
          have c_r0:=bs.b6 0;go_wp2_with fail;refine(CH.out w61 q).mono ?_;rintro e w62 ⟨rfl,hb⟩;clear c_r0;replace bs:=bs.ret hb;replace q:=bs.q;clear hb;have c_r0:=bs.b6 0;go_wp2_with fail;go_ret;exact⟨by first | rfl | simp,q⟩
         | false=>
          have c_r0:=bs.b6 0;go_wp2_with fail;refine(CH.out w61 q).mono ?_;rintro e w62 ⟨rfl,hb⟩;clear c_r0;replace bs:=bs.ret hb;replace q:=bs.q;clear hb
          cases xon with
          | true=>
           have c_r0:=bs.b6 0;go_wp2_with fail;go_ret;exact⟨by first | rfl | simp,q⟩
          | false=>
           by_cases hpr:xpr=0
           ·have wpr:(xpr==0)=true:=beq_iff_eq.2 hpr
            by_cases hd:D=0
            ·have wd:((D:Int)==0)=true:=beq_iff_eq.2 (by omega)
             have c_r0:=bs.b6 0;go_wp2_with fail;go_ret;exact⟨by first | rfl | simp[hpr,hd],q⟩
            ·have wd:((D:Int)==0)=false:=beq_eq_false_iff_ne.2 (by omega)
             have c_r0:=bs.b6 0;go_wp2_with fail;go_ret;exact⟨by first | rfl | simp[hpr,hd],q⟩
           ·have wpr:(xpr==0)=false:=beq_eq_false_iff_ne.2 hpr
            have c_r0:=bs.b6 0;go_wp2_with fail;go_ret;exact⟨by first | rfl | simp[hpr],q⟩
      ·have v3 : ¬ xpr ≤ 127 := by omega
       have:So=false:=(by rw[hSo,decide_eq_true g0,decide_eq_true g1,decide_eq_true g2,decide_eq_false g3];rfl);subst this;clear hSo
       cases B with
       | false=>
        have c_r0:=bs.b6 0;have c_j0:=bs.b3 1;go_wp2_with fail;go_ret;exact⟨by first | rfl | simp,q⟩
       | true=>
        cases Fu with
        | false=>
         have CF1:=h_ fun w' m=>CF.out w' m (by first | exact rfl | exact trivial)
         have c_r0:=bs.b6 0;have c_j0:=bs.b3 1;go_wp2_with fail;refine(CF1.out wr (HM.out.ret q)).mono ?_;rintro e w61 ⟨rfl,hb⟩;clear c_r0 c_j0;replace bs:=bs.ret hb;replace q:=bs.q;clear hb;have c_r0:=bs.b6 0;go_wp2_with fail;go_ret;exact⟨by first | rfl | simp,q⟩
        | true=>
         have CF1:=h_ fun w' m=>CF.out w' m (by first | exact rfl | exact trivial)
         have c_r0:=bs.b6 0;have c_j0:=bs.b3 1;go_wp2_with fail;refine(CF1.out wr (HM.out.ret q)).mono ?_;rintro e w61 ⟨rfl,hb⟩;clear c_r0 c_j0;replace bs:=bs.ret hb;replace q:=bs.q;clear hb;have c_r0:=bs.b6 0;go_wp2_with fail;go_ret;exact⟨by first | rfl | simp,q⟩
     ·have v2 : ¬ -128 ≤ xpr := by omega
      have:So=false:=(by rw[hSo,decide_eq_true g0,decide_eq_true g1,decide_eq_false g2];rfl);subst this;clear hSo
      cases B with
      | false=>
       have c_r0:=bs.b6 0;have c_j0:=bs.b3 1;go_wp2_with fail;go_ret;exact⟨by first | rfl | simp,q⟩
      | true=>
       cases Fu with
       | false=>
        have CF1:=h_ fun w' m=>CF.out w' m (by first | exact rfl | exact trivial)
        have c_r0:=bs.b6 0;have c_j0:=bs.b3 1;go_wp2_with fail;refine(CF1.out wr (HM.out.ret q)).mono ?_;rintro e w61 ⟨rfl,hb⟩;clear c_r0 c_j0;replace bs:=bs.ret hb;replace q:=bs.q;clear hb;have c_r0:=bs.b6 0;go_wp2_with fail;go_ret;exact⟨by first | rfl | simp,q⟩
       | true=>
        have CF1:=h_ fun w' m=>CF.out w' m (by first | exact rfl | exact trivial)
        have c_r0:=bs.b6 0;have c_j0:=bs.b3 1;go_wp2_with fail;refine(CF1.out wr (HM.out.ret q)).mono ?_;rintro e w61 ⟨rfl,hb⟩;clear c_r0 c_j0;replace bs:=bs.ret hb;replace q:=bs.q;clear hb;have c_r0:=bs.b6 0;go_wp2_with fail;go_ret;exact⟨by first | rfl | simp,q⟩
    ·have v1 : ¬ (L : Int) ≤ 8 := by omega
     have:So=false:=(by rw[hSo,decide_eq_true g0,decide_eq_false g1];rfl);subst this;clear hSo
     cases B with
     | false=>
      have c_r0:=bs.b6 0;have c_j0:=bs.b3 1;go_wp2_with fail;go_ret;exact⟨by first | rfl | simp,q⟩
     | true=>
      cases Fu with
      | false=>
       have CF1:=h_ fun w' m=>CF.out w' m (by first | exact rfl | exact trivial)
       have c_r0:=bs.b6 0;have c_j0:=bs.b3 1;go_wp2_with fail;refine(CF1.out wr (HM.out.ret q)).mono ?_;rintro e w61 ⟨rfl,hb⟩;clear c_r0 c_j0;replace bs:=bs.ret hb;replace q:=bs.q;clear hb;have c_r0:=bs.b6 0;go_wp2_with fail;go_ret;exact⟨by first | rfl | simp,q⟩
      | true=>
       have CF1:=h_ fun w' m=>CF.out w' m (by first | exact rfl | exact trivial)
       have c_r0:=bs.b6 0;have c_j0:=bs.b3 1;go_wp2_with fail;refine(CF1.out wr (HM.out.ret q)).mono ?_;rintro e w61 ⟨rfl,hb⟩;clear c_r0 c_j0;replace bs:=bs.ret hb;replace q:=bs.q;clear hb;have c_r0:=bs.b6 0;go_wp2_with fail;go_ret;exact⟨by first | rfl | simp,q⟩
   ·have v0 : ¬ (D : Int) ≤ 16 := by omega
    have:So=false:=(by rw[hSo,decide_eq_false g0];rfl);subst this;clear hSo
    cases B with
    | false=>
     have c_r0:=bs.b6 0;have c_j0:=bs.b3 1;go_wp2_with fail;go_ret;exact⟨by first | rfl | simp,q⟩
    | true=>
     cases Fu with
     | false=>
      have CF1:=h_ fun w' m=>CF.out w' m (by first | exact rfl | exact trivial)
      have c_r0:=bs.b6 0;have c_j0:=bs.b3 1;go_wp2_with fail;refine(CF1.out wr (HM.out.ret q)).mono ?_;rintro e w61 ⟨rfl,hb⟩;clear c_r0 c_j0;replace bs:=bs.ret hb;replace q:=bs.q;clear hb;have c_r0:=bs.b6 0;go_wp2_with fail;go_ret;exact⟨by first | rfl | simp,q⟩
     | true=>
      have CF1:=h_ fun w' m=>CF.out w' m (by first | exact rfl | exact trivial)
      have c_r0:=bs.b6 0;have c_j0:=bs.b3 1;go_wp2_with fail;refine(CF1.out wr (HM.out.ret q)).mono ?_;rintro e w61 ⟨rfl,hb⟩;clear c_r0 c_j0;replace bs:=bs.ret hb;replace q:=bs.q;clear hb;have c_r0:=bs.b6 0;go_wp2_with fail;go_ret;exact⟨by first | rfl | simp,q⟩
theorem ng (a b c d e:Bool):(a&&(b&&(c&&(d&&e))))=(b&&(c&&(d&&(a&&e)))):=by
 cases a <;> cases b <;> cases c <;> cases d <;> cases e <;> rfl
theorem vf (p:List Nd→Bool) (x:RsI) (w:World) (h:RsFit p x w) (hm:ML w):Calls prog 76 #[x.v] w (Ret w (.bool (fR p x.d))):=by
 obtain⟨hsub,hj,hst,hsx,hld,htr⟩:=h;obtain⟨hl,hg⟩:=hsub;obtain⟨-,a,cap,he,hcap⟩:=id hg
 have CA:=fun w' (hb:Bl w w')=>ec ⟨x.j.toArray⟩ w' (by rw[←ab];exact hj) (hm.ret hb)
 unfold fd at CA
 have CS:∀s∈x.st,∀w',Bl w w'→∃X Y Z:ByteArray,Calls prog 114 #[.string ⟨s.toArray⟩] w' (Ret w' (.tuple #[jV X Y Z,.bool (bz s)])):=fun s hs w' hb=>by
  have:=ec ⟨s.toArray⟩ w' (by rw[←ab];exact hsx s hs) (hm.ret hb);unfold fd at this;exact⟨_,_,_,this⟩
 obtain⟨z1,z2,z3⟩:=bV x.j
 have CF:∀w',ML w'→bz x.j=true→Calls prog 135 #[jV (jB (adr x.j).1) (jB (adr x.j).2.1) (jB (adr x.j).2.2)] w' (Ret w' (.bool (!(aU x.j).isEmpty&&!(aL x.j).isEmpty))):=fun w' m hB=>by
  unfold bz at hB;rw[Bool.and_eq_true] at hB;have hk:=dx hB.1;unfold adr;rw[if_pos hB.1];have:=se (jB (aU x.j)) (jB (aZ x.j)) (jB (aL x.j)) w' (by rw[ah];omega) (by rw[ah];omega) (by rw[ah];omega) m;rw[ag,ag,ag,hk,Bool.true_and] at this;exact this
 have CH:=fun w' (hb:Bl w w')=>mW x.lv (.func (.func 133) #[] #[]) (fun t=>!p (trD t)) x.ld w' (hl.ret hb) (by omega) ⟨_,_,rfl,uM,fun t ht W hW=>rP p t W ((htr t ht).ret (hb.trans (hW.mono hb.size)))⟩
 have key:=pA x.j x.on x.pr x.la.1 x.la.2 x.ask x.st x.sa.1 x.sa.2 x.st.length x.ld.length (bz x.j) (!(aU x.j).isEmpty&&!(aL x.j).isEmpty) (x.ld.any fun t=>!p (trD t)) (aV x.st&&x.st.all bz) _ _ _ _ w hm rfl hst hg (by
  simp only[wv] at he;obtain⟨_,_,rfl⟩:=he;exact hcap) hld rfl rfl CA CS CF CH
 rw[sd,←ng];exact key

theorem pY {α:Type} (q:α→Bool) (L:List α):decide (dV q L<0)=!L.any q:=by
 rw[←dh]
 by_cases h:0≤dV q L
 ·rw[decide_eq_true h,decide_eq_false (by omega)];rfl
 ·rw[decide_eq_false h,decide_eq_true (by omega)];rfl
theorem nL (x:AcI) (w:World) (hv:aw x.iv x.it w) (hs:cq x.it) (hj:x.j.length≤10000) (hm:ML w):Calls prog 73 #[x.v] w (Ret w (.bool (!kC x.d))):=by
 have CA:=h_ fun (W:World) (hb:Bl w W)=>mB x W (hv.ret hb) hs hj (hm.ret hb)
 obtain⟨b,hb⟩:=e_ (kC x.d);rw[hb] at CA ⊢;clear hb hv hs hj hm;obtain⟨W0,hW,y0,bs⟩:=Sx.start1 w [.string ⟨x.j.toArray⟩,x.iv,.int .i64 x.ver] 33;have HW:=h_ hW;clear hW;have q:=bs.q;go_enter func73,ntmps73;go_wp2_with fail;rw[HW.out];have c_x0:=bs.b3 0;go_wp2_with fail;refine(CA.out W0 q).mono ?_;rintro e w1 ⟨rfl,hb⟩;clear c_x0;replace bs:=bs.ret hb;replace q:=bs.q;clear hb;go_wp2_with fail;go_ret;exact⟨rfl,q⟩
theorem qr:∀args w,(callFunc 73 args).run prog w=.ok (.enter 73 args) w:=enters_of func73 (by kernel_rfl) rfl
theorem rk:∀args w,(callFunc 75 args).run prog w=.ok (.enter 75 args) w:=enters_of func75 (by kernel_rfl) rfl
theorem lq (x:RsI) (aa ra:Option Addr) (LA ac LR rc:Nat) (m:Int) (b:ByteArray) (R:Bool) (I:Int) (Lc:Nat) (w:World) (hl:Lc<w.heap.size) (c0:w.cell? ⟨Lc,0,none⟩=some (.slice aa LA ac)) (c1:w.cell? ⟨Lc,1,none⟩=some (.slice ra LR rc)) (c2:w.cell? ⟨Lc,2,none⟩=some (.int .i64 m))
  (CR:∀W,Bl w W→Calls prog 76 #[x.v] W (Ret W (.bool R)))
  (CB:∀W,Bl w W→Calls prog 77 #[.string ⟨x.j.toArray⟩] W (Ret W (.string b)))
  (CF:∀W,Bl w W→Calls prog 51 #[.agg #[.slice aa LA ac,cz],.string b] W (Ret W (.int .i64 I))):
  Calls prog 75 #[x.v,.pointer (some ⟨Lc,0,none⟩)] w (Ret w (.bool (!R||decide (I<0)))):=by
 have HC:=h_ fun (w':World) (hb:Bl w w')=>show w'.cell? ⟨Lc,0,none⟩=some (.slice aa LA ac)∧w'.cell? ⟨Lc,1,none⟩=some (.slice ra LR rc)∧w'.cell? ⟨Lc,2,none⟩=some (.int .i64 m) from ⟨((af hb).1 _ _ hl).trans c0,((af hb).1 _ _ hl).trans c1,((af hb).1 _ _ hl).trans c2⟩
 have CR:=h_ CR;have CB:=h_ CB;have CF:=h_ CF;clear c0 c1 c2
 cases R with
 | true=>
  obtain⟨W0,hW,y0,bs⟩:=Sx.start1 w [.string ⟨x.j.toArray⟩,.bool x.on,.int .i64 x.pr,x.lv,.bool x.ask,x.sv] 38;have HW:=h_ hW;clear hW;have q:=bs.q;go_enter func75,ntmps75;go_wp2_with fail;rw[HW.out];replace bs:=bs.ret (wy (bQ _));replace q:=bs.q
  have y1:W0.drew.heap.size=W0.heap.size:=rfl
  refine wp_region_held_drew (S:=fun w'=>w'.cell? ⟨Lc,0,none⟩=some (.slice aa LA ac)∧w'.cell? ⟨Lc,1,none⟩=some (.slice ra LR rc)∧w'.cell? ⟨Lc,2,none⟩=some (.int .i64 m)∧w'.cell? ⟨w.heap.size,0,none⟩=some (.string ⟨x.j.toArray⟩)∧w'.cell? ⟨w.heap.size,1,none⟩=some (.bool x.on)∧w'.cell? ⟨w.heap.size,2,none⟩=some (.int .i64 x.pr)∧w'.cell? ⟨w.heap.size,3,none⟩=some (x.lv)∧w'.cell? ⟨w.heap.size,4,none⟩=some (.bool x.ask)∧w'.cell? ⟨w.heap.size,5,none⟩=some (x.sv)) (by kernel_rfl) ⟨(HC.out _ q).1,(HC.out _ q).2.1,(HC.out _ q).2.2,bs.at 0 0,bs.at 0 1,bs.at 0 2,bs.at 0 3,bs.at 0 4,bs.at 0 5⟩ (fun hH=>?_);generalize W0.drew=w1 at bs q y1 hH ⊢;refine rS [(0,some 4)] ?_;refine aS ?_;refine rE ?_
  refine aC (i:=1) fun K hK=>?_
  go_simp;refine(CR.out w1 q).mono ?_;rintro e w2 ⟨rfl,hb⟩;replace bs:=bs.ret hb;replace q:=bs.q;clear hb;go_simp;clear hH;refine hK.out _ _ ⟨(HC.out _ q).1,(HC.out _ q).2.1,(HC.out _ q).2.2,bs.at 0 0,bs.at 0 1,bs.at 0 2,bs.at 0 3,bs.at 0 4,bs.at 0 5⟩ (fun hH=>?_);clear hK K;refine rS [(2,some 6),(3,some 7),(4,some 8),(6,some 10),(7,some 11)] ?_
  iterate 5 refine aS ?_
  refine rE ?_
  refine aC (i:=5) fun K hK=>?_
  go_simp;refine(aX aa ra LA ac LR rc m w2).mono ?_;rintro e w3 ⟨rfl,hb⟩;replace bs:=bs.ret hb;replace q:=bs.q;clear hb;go_simp;clear hH;refine hK.out _ _ ⟨(HC.out _ q).1,(HC.out _ q).2.1,(HC.out _ q).2.2,bs.at 0 0,bs.at 0 1,bs.at 0 2,bs.at 0 3,bs.at 0 4,bs.at 0 5⟩ (fun hH=>?_);clear hK K
  refine aC (i:=8) fun K hK=>?_
  go_simp;refine(CB.out w3 q).mono ?_;rintro e w4 ⟨rfl,hb⟩;replace bs:=bs.ret hb;replace q:=bs.q;clear hb;go_simp;clear hH;refine hK.out _ _ ⟨(HC.out _ q).1,(HC.out _ q).2.1,(HC.out _ q).2.2,bs.at 0 0,bs.at 0 1,bs.at 0 2,bs.at 0 3,bs.at 0 4,bs.at 0 5⟩ (fun hH=>?_);clear hK K
  refine aC (i:=9) fun K hK=>?_
  go_simp;refine(CF.out w4 q).mono ?_;rintro e w5 ⟨rfl,hb⟩;replace bs:=bs.ret hb;replace q:=bs.q;clear hb;go_simp;clear hH;refine hK.out _ _ ⟨(HC.out _ q).1,(HC.out _ q).2.1,(HC.out _ q).2.2,bs.at 0 0,bs.at 0 1,bs.at 0 2,bs.at 0 3,bs.at 0 4,bs.at 0 5⟩ (fun hH=>?_);clear hK K;refine rS [(10,some 14),(11,some 15),(12,some 3)] ?_
  iterate 3 refine aS ?_
  refine rE ?_;refine aD ?_;clear hH;go_wp2_with fail;go_ret;exact⟨by first | rfl | simp,q⟩
 | false=>
  obtain⟨W0,hW,y0,bs⟩:=Sx.start1 w [.string ⟨x.j.toArray⟩,.bool x.on,.int .i64 x.pr,x.lv,.bool x.ask,x.sv] 38;have HW:=h_ hW;clear hW;have q:=bs.q;go_enter func75,ntmps75;go_wp2_with fail;rw[HW.out];replace bs:=bs.ret (wy (bQ _));replace q:=bs.q
  have y1:W0.drew.heap.size=W0.heap.size:=rfl
  refine wp_region_held_drew (S:=fun w'=>w'.cell? ⟨Lc,0,none⟩=some (.slice aa LA ac)∧w'.cell? ⟨Lc,1,none⟩=some (.slice ra LR rc)∧w'.cell? ⟨Lc,2,none⟩=some (.int .i64 m)∧w'.cell? ⟨w.heap.size,0,none⟩=some (.string ⟨x.j.toArray⟩)∧w'.cell? ⟨w.heap.size,1,none⟩=some (.bool x.on)∧w'.cell? ⟨w.heap.size,2,none⟩=some (.int .i64 x.pr)∧w'.cell? ⟨w.heap.size,3,none⟩=some (x.lv)∧w'.cell? ⟨w.heap.size,4,none⟩=some (.bool x.ask)∧w'.cell? ⟨w.heap.size,5,none⟩=some (x.sv)) (by kernel_rfl) ⟨(HC.out _ q).1,(HC.out _ q).2.1,(HC.out _ q).2.2,bs.at 0 0,bs.at 0 1,bs.at 0 2,bs.at 0 3,bs.at 0 4,bs.at 0 5⟩ (fun hH=>?_);generalize W0.drew=w1 at bs q y1 hH ⊢;refine rS [(0,some 4)] ?_;refine aS ?_;refine rE ?_
  refine aC (i:=1) fun K hK=>?_
  go_simp;refine(CR.out w1 q).mono ?_;rintro e w2 ⟨rfl,hb⟩;replace bs:=bs.ret hb;replace q:=bs.q;clear hb;go_simp;clear hH;refine hK.out _ _ ⟨(HC.out _ q).1,(HC.out _ q).2.1,(HC.out _ q).2.2,bs.at 0 0,bs.at 0 1,bs.at 0 2,bs.at 0 3,bs.at 0 4,bs.at 0 5⟩ (fun hH=>?_);clear hK K;refine rS [(2,some 6),(3,some 7)] ?_
  iterate 2 refine aS ?_
  refine rE ?_;refine rS [(4,some 8),(5,some 9),(6,some 10),(7,some 11),(8,some 12),(9,some 13),(10,some 14)] ?_
  iterate 7 refine aF ?_
  refine rE ?_;refine rS [(11,some 15),(12,some 3)] ?_
  iterate 2 refine aS ?_
  refine rE ?_;refine aD ?_;clear hH;go_wp2_with fail;go_ret;exact⟨by first | rfl | simp,q⟩
theorem iz {α β:Type} (f:α→β) (nm:β→List UInt8):∀l:List α,chG nm (l.map f)=chG (fun x=>nm (f x)) l
 | []=>rfl
 | [_]=>rfl
 | a :: b :: l=>by
  have:=iz f nm (b :: l);simp only[List.map_cons] at this ⊢;unfold chG;rw[this]
theorem mr (aa ra:Option Addr) (LA ac LR rc:Nat) (m:Int) (O1 O2 O3 O4:Bool) (w:World)
  (C1:∀W,Bl w W→Calls prog 78 #[.slice aa LA ac,.func (.func 73) #[] #[]] W (Ret W (.bool O1)))
  (C2:∀W,Bl w W→Calls prog 79 #[.agg #[.slice aa LA ac,cz]] W (Ret W (.bool O2)))
  (C3:∀W,Bl w W→∀Lc,Lc<W.heap.size→W.cell? ⟨Lc,0,none⟩=some (.slice aa LA ac)→W.cell? ⟨Lc,1,none⟩=some (.slice ra LR rc)→W.cell? ⟨Lc,2,none⟩=some (.int .i64 m)→Calls prog 80 #[.slice ra LR rc,.func (.func 75) #[] #[.pointer (some ⟨Lc,0,none⟩)]] W (Ret W (.bool O3)))
  (C4:∀W,Bl w W→Calls prog 81 #[.agg #[.slice ra LR rc,ew]] W (Ret W (.bool O4))):
  Calls prog 30 #[.agg #[.slice aa LA ac,.slice ra LR rc,.int .i64 m]] w (Ret w (.int .i64 (if decide (LA≤8)&&(decide (LR≤16)&&(decide (0≤m)&&(decide (m<fw)&&(!O1&&(O2&&(!O3&&O4)))))) then 0 else 8))):=by
 have C1:=h_ C1;have C2:=h_ C2;have C3:=h_ C3;have C4:=h_ C4;obtain⟨V,hV⟩:=e_ ((if decide (LA≤8)&&(decide (LR≤16)&&(decide (0≤m)&&(decide (m<fw)&&(!O1&&(O2&&(!O3&&O4)))))) then (0:Int) else 8));rw[hV];unfold fw at hV
 by_cases g0:LA≤8
 ·have v0 : ¬ (8 : Int) < (LA : Int) := by omega
  by_cases g1:LR≤16
  ·have v1 : ¬ (16 : Int) < (LR : Int) := by omega
   by_cases g2:0≤m
   ·have v2 : ¬ m < 0 := by omega
    by_cases g3:m<9007199254740991
    ·have v3 : ¬ (9007199254740991 : Int) ≤ m := by omega
     cases O1 with
     | true=>
      have:V=8:=(by rw[←hV,decide_eq_true g0,decide_eq_true g1,decide_eq_true g2,decide_eq_true g3];rfl);subst this;clear hV;obtain⟨W0,hW,y0,bs⟩:=Sx.start1 w [.slice aa LA ac,.slice ra LR rc,.int .i64 m] 25;have HW:=h_ hW;clear hW;have q:=bs.q;go_enter func30,ntmps30;go_wp2_with fail;rw[HW.out];have c_c0:=bs.b3 0;go_wp2_with fail;refine(C1.out W0 q).mono ?_;rintro e w1 ⟨rfl,hb⟩;clear c_c0;replace bs:=bs.ret hb;replace q:=bs.q;clear hb;have c_c0:=bs.b3 0;go_wp2_with fail;go_ret;exact⟨rfl,q⟩
     | false=>
      cases O2 with
      | false=>
       have:V=8:=(by rw[←hV,decide_eq_true g0,decide_eq_true g1,decide_eq_true g2,decide_eq_true g3];rfl);subst this;clear hV;obtain⟨W0,hW,y0,bs⟩:=Sx.start1 w [.slice aa LA ac,.slice ra LR rc,.int .i64 m] 25;have HW:=h_ hW;clear hW;have q:=bs.q;go_enter func30,ntmps30;go_wp2_with fail;rw[HW.out];have c_c0:=bs.b3 0;go_wp2_with fail;refine(C1.out W0 q).mono ?_;rintro e w1 ⟨rfl,hb⟩;clear c_c0;replace bs:=bs.ret hb;replace q:=bs.q;clear hb;have c_c0:=bs.b3 0;go_wp2_with fail;refine(aX aa ra LA ac LR rc m w1).mono ?_;rintro e w2 ⟨rfl,hb⟩;clear c_c0;replace bs:=bs.ret hb;replace q:=bs.q;clear hb;have c_c0:=bs.b3 0;go_wp2_with fail;refine(C2.out w2 q).mono ?_;rintro e w3 ⟨rfl,hb⟩;clear c_c0;replace bs:=bs.ret hb;replace q:=bs.q;clear hb;have c_c0:=bs.b3 0;go_wp2_with fail;go_ret;exact⟨rfl,q⟩
      | true=>
       cases O3 with
       | true=>
        have:V=8:=(by rw[←hV,decide_eq_true g0,decide_eq_true g1,decide_eq_true g2,decide_eq_true g3];rfl);subst this;clear hV;obtain⟨W0,hW,y0,bs⟩:=Sx.start1 w [.slice aa LA ac,.slice ra LR rc,.int .i64 m] 25;have HW:=h_ hW;clear hW;have q:=bs.q;go_enter func30,ntmps30;go_wp2_with fail;rw[HW.out];have c_c0:=bs.b3 0;go_wp2_with fail;refine(C1.out W0 q).mono ?_;rintro e w1 ⟨rfl,hb⟩;clear c_c0;replace bs:=bs.ret hb;replace q:=bs.q;clear hb;have c_c0:=bs.b3 0;go_wp2_with fail;refine(aX aa ra LA ac LR rc m w1).mono ?_;rintro e w2 ⟨rfl,hb⟩;clear c_c0;replace bs:=bs.ret hb;replace q:=bs.q;clear hb;have c_c0:=bs.b3 0;go_wp2_with fail;refine(C2.out w2 q).mono ?_;rintro e w3 ⟨rfl,hb⟩;clear c_c0;replace bs:=bs.ret hb;replace q:=bs.q;clear hb;have c_c0:=bs.b3 0;go_wp2_with fail;refine(C3.out w3 q w.heap.size (bs.lt _ (ws (i:=0) rfl)) (bs.at 0 0) (bs.at 0 1) (bs.at 0 2)).mono ?_;rintro e w4 ⟨rfl,hb⟩;clear c_c0;replace bs:=bs.ret hb;replace q:=bs.q;clear hb;have c_c0:=bs.b3 0;go_wp2_with fail;go_ret;exact⟨rfl,q⟩
       | false=>
        cases O4 with
        | false=>
         have:V=8:=(by rw[←hV,decide_eq_true g0,decide_eq_true g1,decide_eq_true g2,decide_eq_true g3];rfl);subst this;clear hV;obtain⟨W0,hW,y0,bs⟩:=Sx.start1 w [.slice aa LA ac,.slice ra LR rc,.int .i64 m] 25;have HW:=h_ hW;clear hW;have q:=bs.q;go_enter func30,ntmps30;go_wp2_with fail;rw[HW.out];have c_c0:=bs.b3 0;go_wp2_with fail;refine(C1.out W0 q).mono ?_;rintro e w1 ⟨rfl,hb⟩;clear c_c0;replace bs:=bs.ret hb;replace q:=bs.q;clear hb;have c_c0:=bs.b3 0;go_wp2_with fail;refine(aX aa ra LA ac LR rc m w1).mono ?_;rintro e w2 ⟨rfl,hb⟩;clear c_c0;replace bs:=bs.ret hb;replace q:=bs.q;clear hb;have c_c0:=bs.b3 0;go_wp2_with fail;refine(C2.out w2 q).mono ?_;rintro e w3 ⟨rfl,hb⟩;clear c_c0;replace bs:=bs.ret hb;replace q:=bs.q;clear hb;have c_c0:=bs.b3 0;go_wp2_with fail;refine(C3.out w3 q w.heap.size (bs.lt _ (ws (i:=0) rfl)) (bs.at 0 0) (bs.at 0 1) (bs.at 0 2)).mono ?_;rintro e w4 ⟨rfl,hb⟩;clear c_c0;replace bs:=bs.ret hb;replace q:=bs.q;clear hb;have c_c0:=bs.b3 0;go_wp2_with fail;refine(eE aa ra LA ac LR rc m w4).mono ?_;rintro e w5 ⟨rfl,hb⟩;clear c_c0;replace bs:=bs.ret hb;replace q:=bs.q;clear hb;have c_c0:=bs.b3 0;go_wp2_with fail;refine(C4.out w5 q).mono ?_;rintro e w6 ⟨rfl,hb⟩;clear c_c0;replace bs:=bs.ret hb;replace q:=bs.q;clear hb;have c_c0:=bs.b3 0;go_wp2_with fail;go_ret;exact⟨rfl,q⟩
        | true=>
         have:V=0:=(by rw[←hV,decide_eq_true g0,decide_eq_true g1,decide_eq_true g2,decide_eq_true g3];rfl);subst this;clear hV;obtain⟨W0,hW,y0,bs⟩:=Sx.start1 w [.slice aa LA ac,.slice ra LR rc,.int .i64 m] 25;have HW:=h_ hW;clear hW;have q:=bs.q;go_enter func30,ntmps30;go_wp2_with fail;rw[HW.out];have c_c0:=bs.b3 0;go_wp2_with fail;refine(C1.out W0 q).mono ?_;rintro e w1 ⟨rfl,hb⟩;clear c_c0;replace bs:=bs.ret hb;replace q:=bs.q;clear hb;have c_c0:=bs.b3 0;go_wp2_with fail;refine(aX aa ra LA ac LR rc m w1).mono ?_;rintro e w2 ⟨rfl,hb⟩;clear c_c0;replace bs:=bs.ret hb;replace q:=bs.q;clear hb;have c_c0:=bs.b3 0;go_wp2_with fail;refine(C2.out w2 q).mono ?_;rintro e w3 ⟨rfl,hb⟩;clear c_c0;replace bs:=bs.ret hb;replace q:=bs.q;clear hb;have c_c0:=bs.b3 0;go_wp2_with fail;refine(C3.out w3 q w.heap.size (bs.lt _ (ws (i:=0) rfl)) (bs.at 0 0) (bs.at 0 1) (bs.at 0 2)).mono ?_;rintro e w4 ⟨rfl,hb⟩;clear c_c0;replace bs:=bs.ret hb;replace q:=bs.q;clear hb;have c_c0:=bs.b3 0;go_wp2_with fail;refine(eE aa ra LA ac LR rc m w4).mono ?_;rintro e w5 ⟨rfl,hb⟩;clear c_c0;replace bs:=bs.ret hb;replace q:=bs.q;clear hb;have c_c0:=bs.b3 0;go_wp2_with fail;refine(C4.out w5 q).mono ?_;rintro e w6 ⟨rfl,hb⟩;clear c_c0;replace bs:=bs.ret hb;replace q:=bs.q;clear hb;have c_c0:=bs.b3 0;go_wp2_with fail;go_ret;exact⟨rfl,q⟩
    ·have v3 : (9007199254740991 : Int) ≤ m := by omega
     have:V=8:=(by rw[←hV,decide_eq_true g0,decide_eq_true g1,decide_eq_true g2,decide_eq_false g3];rfl);subst this;clear hV;obtain⟨W0,hW,y0,bs⟩:=Sx.start1 w [.slice aa LA ac,.slice ra LR rc,.int .i64 m] 25;have HW:=h_ hW;clear hW;have q:=bs.q;go_enter func30,ntmps30;go_wp2_with fail;rw[HW.out];have c_c0:=bs.b3 0;go_wp2_with fail;go_ret;exact⟨rfl,q⟩
   ·have v2 : m < 0 := by omega
    have:V=8:=(by rw[←hV,decide_eq_true g0,decide_eq_true g1,decide_eq_false g2];rfl);subst this;clear hV;obtain⟨W0,hW,y0,bs⟩:=Sx.start1 w [.slice aa LA ac,.slice ra LR rc,.int .i64 m] 25;have HW:=h_ hW;clear hW;have q:=bs.q;go_enter func30,ntmps30;go_wp2_with fail;rw[HW.out];have c_c0:=bs.b3 0;go_wp2_with fail;go_ret;exact⟨rfl,q⟩
  ·have v1 : (16 : Int) < (LR : Int) := by omega
   have:V=8:=(by rw[←hV,decide_eq_true g0,decide_eq_false g1];rfl);subst this;clear hV;obtain⟨W0,hW,y0,bs⟩:=Sx.start1 w [.slice aa LA ac,.slice ra LR rc,.int .i64 m] 25;have HW:=h_ hW;clear hW;have q:=bs.q;go_enter func30,ntmps30;go_wp2_with fail;rw[HW.out];have c_c0:=bs.b3 0;go_wp2_with fail;go_ret;exact⟨rfl,q⟩
 ·have v0 : (8 : Int) < (LA : Int) := by omega
  have:V=8:=by rw[←hV,decide_eq_false g0];rfl
  subst this;clear hV;obtain⟨W0,hW,y0,bs⟩:=Sx.start1 w [.slice aa LA ac,.slice ra LR rc,.int .i64 m] 25;have HW:=h_ hW;clear hW;have q:=bs.q;go_enter func30,ntmps30;go_wp2_with fail;rw[HW.out];have c_c0:=bs.b3 0;go_wp2_with fail;go_ret;exact⟨rfl,q⟩
theorem qy (p:List Nd→Bool) (c:CoI) (w:World) (h:CoFit p c w) (hm:ML w):Calls prog 30 #[c.v] w (Ret w (.int .i64 (if kq p c.d then 0 else 8))):=by
 obtain⟨A,⟨aa,ac⟩,R,⟨ra,rc⟩,m⟩:=c;obtain⟨⟨hA,hR⟩,zA,zR,hac,hrs⟩:=h
 simp only at zA zR hac hrs
 have hA:IsL acY (.slice aa A.length ac) A w:=hA;have hR:IsL rsY (.slice ra R.length rc) R w:=hR
 have key:=mr aa ra A.length ac R.length rc m (A.any fun x=>!kC x.d) (chG (fun x:AcI=>x.j) A) (R.any fun x=>!(fR p x.d&&bP (A.map AcI.d) x.d)) (chG (fun x:RsI=>x.j) R) w
  (fun W hb=>oq _ _ (fun x=>!kC x.d) A W (hA.ret hb) (by omega) ⟨_,_,rfl,qr,fun x hx V hV=>nL x V ((hA.2.2 x hx).ret (hb.trans (hV.mono hb.size))) (hac x hx).2 (hac x hx).1 (hm.ret (hb.trans (hV.mono hb.size)))⟩)
  (fun W hb=>kM aa ac A W (hA.ret hb) (by omega) (fun x hx=>(hac x hx).1) (hm.ret hb))
  (fun W hb Lc hl c0 c1 c2=>ni _ _ (fun x=>!(fR p x.d&&bP (A.map AcI.d) x.d)) R W (hR.ret hb) (by omega) ⟨_,_,rfl,rk,fun x hx V hV=>by
   have hbV:=hb.trans (hV.mono hb.size)
   have k:=lq x aa ra A.length ac R.length rc m (jB (a9 x.j)) (fR p x.d) (dV (fun a:AcI=>a.j==a9 x.j) A) Lc V (Nat.lt_of_lt_of_le hl hV.size) (((af hV).1 _ _ hl).trans c0) (((af hV).1 _ _ hl).trans c1) (((af hV).1 _ _ hl).trans c2)
    (fun U hU=>vf p x U ((hrs x hx).1.ret (hbV.trans (hU.mono hbV.size))) (hm.ret (hbV.trans (hU.mono hbV.size))))
    (fun U hU=>kG ⟨x.j.toArray⟩ U (by rw[←ab];exact(hrs x hx).1.j) (hm.ret (hbV.trans (hU.mono hbV.size))))
    (fun U hU=>gj aa A.length ac A (a9 x.j) U (hA.ret (hbV.trans (hU.mono hbV.size))) (by omega))
   have e:(!fR p x.d||decide (dV (fun a:AcI=>a.j==a9 x.j) A<0))=!(fR p x.d&&bP (A.map AcI.d) x.d):=by
    rw[pY];unfold bP;rw[List.any_map,Bool.not_and]
    rfl
   rw[e] at k;exact k⟩)
  (fun W hb=>kP ra rc R W (hR.ret hb) (by omega) (fun x hx=>(hrs x hx).1.j) (hm.ret hb))
 have e:kq p (CoI.d ⟨A,(aa,ac),R,(ra,rc),m⟩)=(decide (A.length≤8)&&(decide (R.length≤16)&&(decide (0≤m)&&(decide (m<fw)&&(!(A.any fun x=>!kC x.d)&&(chG (fun x:AcI=>x.j) A&&(!(R.any fun x=>!(fR p x.d&&bP (A.map AcI.d) x.d))&&chG (fun x:RsI=>x.j) R))))))):=by
  unfold kq dG CoI.d;simp only[wt,wu,←List.not_all_eq_any_not,Bool.not_not,Function.comp_def];rw[iz,iz]
 rw[e];exact key
end Go.Proofs.YtjgeiieiinmdnaaGreatDoor
