/- HaD, HaH: put together by mergetpl.py. -/
import Derived.Test.YtjgeiieiinmdnaaGreatDoorLc
import Derived.Test.YtjgeiieiinmdnaaGreatDoorLd
open Go.Proofs.Tryz
open Go.RowKit.Below renaming drew→wv
open Go.Value.slice renaming injEq→wt
open List renaming all_append→wh,mem_of_getElem?→wo,length_map→wq,all_map→ws,take_append_drop→wu
namespace Go.Proofs.YtjgeiieiinmdnaaGreatDoor
set_option maxHeartbeats 16000000
set_option maxRecDepth 100000
open Go.RowKit Go.Lib

theorem sK (p:List Nd→Bool) (T:TrI) (w:World) (h:ka p T w):Calls prog 133 #[trV T] w (Ret w (.bool (!p (trD T)))):=by
 have k:=h w (bQ _);obtain⟨b,hb⟩:=e_ (p (trD T));rw[hb] at k ⊢;have K:=h_ k;clear k h hb
 cases b with
 | false=>
  have K2:=h_ (show Calls prog 134 #[trV T] w (Ret w (.int .i64 8)) from K.out);clear K;go_enter func133,ntmps133;go_wp2_with fail;refine K2.out.mono ?_;rintro e w1 ⟨rfl,hb⟩;go_wp2_with fail;go_ret;exact⟨rfl,hb⟩
 | true=>
  have K2:=h_ (show Calls prog 134 #[trV T] w (Ret w (.int .i64 0)) from K.out);clear K;go_enter func133,ntmps133;go_wp2_with fail;refine K2.out.mono ?_;rintro e w1 ⟨rfl,hb⟩;go_wp2_with fail;go_ret;exact⟨rfl,hb⟩
theorem uT:∀args w,(callFunc 133 args).run prog w=.ok (.enter 133 args) w:=enters_of func133 (by kernel_rfl) rfl
theorem tP (p:List Nd→Bool) (x:RsI):dJ p x.d=(fM x.j&&((decide (x.ld.length≤16)&&(decide (x.st.length≤8)&&(decide (-128≤x.pr)&&decide (x.pr≤127))))&&(!(x.ld.any fun t=>!p (trD t))&&((bq x.st&&x.st.all bm)&&(x.on||(decide (x.pr=0)&&decide (x.ld.length=0))))))):=by
 unfold dJ
 have e1:x.d.ld.length=x.ld.length:=by
  show (x.ld.map trD).length=_
  rw[wq]
 have e2:x.d.ld.all p=!(x.ld.any fun t=>!p (trD t)):=by
  show (x.ld.map trD).all p=_
  rw[ws,List.any_eq_not_all_not]
  simp
  rfl
 have e3:x.d.ld.isEmpty=decide (x.ld.length=0):=by
  show (x.ld.map trD).isEmpty=_
  cases x.ld <;> simp
 rw[e1,e2,e3];simp only[Bool.and_assoc]
theorem pX (xj:List UInt8) (xD:Bool) (xt:Int) (la:Option Addr) (lc:Nat) (xE:Bool) (xp:List (List UInt8)) (sa:Option Addr) (sc L D:Nat) (B Fu H Ok So:Bool) (X Y Z:ByteArray) (w:World) (hm:ML w) (hL:xp.length=L) (yj:L≤1000)
  (hst:be (.slice sa L sc) xp w) (yk:L≤sc) (hD:D≤1000) (xu:So=(decide (D≤16)&&(decide (L≤8)&&(decide (-128≤xt)&&decide (xt≤127))))) (xO:Ok=(bq xp&&xp.all bm))
  (CA:∀w',Bl w w'→Calls prog 114 #[.string ⟨xj.toArray⟩] w' (Ret w' (.tuple #[jV X Y Z,.bool B])))
  (CS:∀s∈xp,∀w',Bl w w'→∃X Y Z:ByteArray,Calls prog 114 #[.string ⟨s.toArray⟩] w' (Ret w' (.tuple #[jV X Y Z,.bool (bm s)])))
  (CF:∀w',ML w'→B=true→Calls prog 135 #[jV X Y Z] w' (Ret w' (.bool Fu)))
  (CH:∀w',Bl w w'→Calls prog 136 #[.slice la D lc,.func (.func 133) #[] #[]] w' (Ret w' (.bool H))):
  Calls prog 76 #[.agg #[.string ⟨xj.toArray⟩,.bool xD,.int .i64 xt,.slice la D lc,.bool xE,.slice sa L sc]] w (Ret w (.bool (Ok&&((B&&Fu)&&(So&&(!H&&(xD||(decide (xt=0)&&decide (D=0))))))))):=by
 have HM:=h_ hm;have CA:=h_ CA;have CS:=h_ CS;have CF:=h_ CF;have CH:=h_ CH;have HS:=h_ hst;have HL:=h_ hL;have xH:=h_ xO;have xP:=h_ xu;clear hm hL hst xO xu;obtain⟨W0,hW,y0,bs⟩:=Sx.start1 w [.string ⟨xj.toArray⟩,.bool xD,.int .i64 xt,.slice la D lc,.bool xE,.slice sa L sc] 38;have HW:=h_ hW;clear hW;have q:=bs.q;go_enter func76,ntmps76;have xn:=bs.b6 0;go_wp2_with fail;rw[HW.out];refine(CA.out W0 q).mono ?_;rintro e w1 ⟨rfl,hb⟩;clear xn;replace bs:=bs.ret hb;replace q:=bs.q;clear hb;have xn:=bs.b6 0;have d0:=(bs.lit (w1.heap.size) rfl [.string X,.string Y,.string Z] 117);have xw:=d0.b6 0;go_wp2_with fail;clear xn d0 xw;obtain⟨w2,xY,y2,al,bs⟩:=bs.alloc (w1.heap.size) rfl [.string X,.string Y,.string Z] 117;clear al;replace q:=bs.q;rw[xY];go_loopw [20] (fun i wx=>∃k:Nat,k≤L∧i=.int .i64 k∧(xp.take k).all bm=true∧bq (xp.take k)=true∧Sx w [(w.heap.size,[.string ⟨xj.toArray⟩,.bool xD,.int .i64 xt,.slice la D lc,.bool xE,.slice sa L sc]),(w1.heap.size,[.string X,.string Y,.string Z])] wx) (fun i _=>L-(intOf i).toNat)
 case atStart=>exact⟨0,Nat.zero_le _,rfl,rfl,rfl,bs⟩
 case round=>
  clear bs q;obtain⟨k,hk,rfl,xz,xx,bs⟩:=hrel;have q:=bs.q
  by_cases hlt:k<L
  ·have xF : k < xp.length := by rw [HL.out]; exact hlt
   have yl:k≤sc:=(by omega);have hV:=(HS.out.ret q).1;obtain⟨b,off,cp,hf,yn,hc⟩:=bJ hV (k:=k) (by rw[aq];exact xF);rw[aq,HL.out] at hf;simp only[wt,true_and] at hf;obtain⟨rfl,rfl⟩:=hf;have xQ:=hc k (by rw[aq];exact xF);have hT:=hV.take k (by rw[aq];omega) (some ⟨b,off,none⟩) L sc rfl;rw[jK] at hT
   have e1:(cJ xp)[k]'(by rw[aq];exact xF)=.string ⟨(xp[k]).toArray⟩:=by simp[cJ]
   rw[e1] at xQ;obtain⟨X',Y',Z',hW⟩:=CS.out _ (List.getElem_mem xF) wr q
   have hC:=fun (w':World) (hb:Bl wr w')=>eb (.slice (some ⟨b,off,none⟩) k sc) (xp.take k) xp[k] w' (hT.ret hb) (by rw[List.length_take];omega)
   have xG:(xp.take (k+1))=xp.take k++[xp[k]]:=List.take_succ_eq_append_getElem xF
   have xK:bm xp[k]=false→Ok=false:=fun h=>by
    rw[xH.out]
    have:xp.all bm=false:=by
     rw[←wu (k+1) xp,wh,xG,wh]
     simp[h]
    rw[this,Bool.and_false]
   have xL:(xp.take k).contains xp[k]=true→Ok=false:=fun h=>by
    rw[xH.out]
    have:bq xp=false:=by
     rw[←wu (k+1) xp];exact ej (by rw[xG,bk,h];simp)
    rw[this,Bool.false_and]
   have xM:bm xp[k]=true→(xp.take (k+1)).all bm=true:=fun h=>by
    rw[xG,wh,xz]
    simp[h]
   have xN:(xp.take k).contains xp[k]=false→bq (xp.take (k+1))=true:=fun h=>by
    rw[xG,bk,h,xx];rfl
   have xR:decide (xp[k]∈xp.take k)=(xp.take k).contains xp[k]:=(by simp);rw[xR] at hC;obtain⟨x,hx⟩:∃x:ByteArray,⟨(xp[k]).toArray⟩=x:=⟨_,rfl⟩;rw[hx] at xQ hW hC;obtain⟨P1,xS⟩:=e_ (bm xp[k]);obtain⟨P2,xT⟩:=e_ ((xp.take k).contains xp[k]);rw[xS] at xK xM hW;rw[xT] at xL xN hC;have WH:=h_ hW;have CC:=h_ hC;have L1:=h_ xK;have L2:=h_ xL;have S1:=h_ xM;have S2:=h_ xN;clear hW hC xK xL xM xN hx xS xT xG xR hT hV hc e1 xz xx
   cases P1 with
   | false=>
    have:=L1.out (by first | exact rfl | exact trivial);subst this;have q0:=bR wr;have xn:=bs.b6 0;go_wp2_with fail;refine(WH.out).mono ?_;rintro e xC ⟨rfl,hb⟩;clear xn;replace bs:=bs.ret hb;replace q:=bs.q;clear hb;have xn:=bs.b6 0;have d0:=(bs.lit (xC.heap.size) rfl [.string X',.string Y',.string Z'] 117);have xw:=d0.b6 0;go_wp2_with fail;clear xn d0 xw;obtain⟨xU,xB,xZ,al,bs⟩:=bs.alloc (xC.heap.size) rfl [.string X',.string Y',.string Z'] 117;clear al;replace q:=bs.q;rw[xB];go_ret;exact⟨rfl,q⟩
   | true=>
    have q0:=bR wr;have xn:=bs.b6 0;go_wp2_with fail;refine(WH.out).mono ?_;rintro e xC ⟨rfl,hb⟩;clear xn;replace bs:=bs.ret hb;replace q:=bs.q;have HB:=h_ hb;clear hb;have xn:=bs.b6 0;have d0:=(bs.lit (xC.heap.size) rfl [.string X',.string Y',.string Z'] 117);have xw:=d0.b6 0;go_wp2_with fail;clear xn d0 xw;obtain⟨xU,xB,xZ,al,bs⟩:=bs.alloc (xC.heap.size) rfl [.string X',.string Y',.string Z'] 117;clear al;replace q:=bs.q;rw[xB];have C1:=h_ (CC.out xU (by have h1:=HB.out;have h2:=(bR xC).alloc (Nat.le_refl _) (.cells #[.string X',.string Y',.string Z'] 117);rw[xB] at h2;exact h1.trans (h2.mono h1.size)))
    cases P2 with
    | true=>
     have:=L2.out (by first | exact rfl | exact trivial);subst this;have xn:=bs.b6 0;go_wp2_with fail;refine(C1.out).mono ?_;rintro e yd ⟨rfl,hb⟩;clear xn;replace bs:=bs.ret hb;replace q:=bs.q;clear hb;go_wp2_with fail;go_ret;exact⟨rfl,q⟩
    | false=>
     have xn:=bs.b6 0;go_wp2_with fail;refine(C1.out).mono ?_;rintro e yd ⟨rfl,hb⟩;clear xn;replace bs:=bs.ret hb;replace q:=bs.q;clear hb;go_wp2_with fail;go_roundw
     case rel=>exact⟨k+1,by omega,by go_num,S1.out (by first | exact rfl | exact trivial),S2.out (by first | exact rfl | exact trivial),bs.some 2⟩
     case measure=>simp[intOf];omega
  ·have e:xp.take k=xp:=List.take_of_length_le (by rw[HL.out];omega)
   rw[e] at xz xx;have hO:=xH.out;rw[xz,xx] at hO;subst hO;clear xz xx e xH HS CS;have xu:=xP.out;clear xP
   by_cases g0:D≤16
   ·have v0 : (D : Int) ≤ 16 := by omega
    by_cases g1:L≤8
    ·have v1 : (L : Int) ≤ 8 := by omega
     by_cases g2:-128≤xt
     ·have v2 : -128 ≤ xt := by omega
      by_cases g3:xt≤127
      ·have v3 : xt ≤ 127 := by omega
       have:So=true:=(by rw[xu,decide_eq_true g0,decide_eq_true g1,decide_eq_true g2,decide_eq_true g3];rfl);subst this;clear xu
       cases B with
       | false=>
        have xn:=bs.b6 0;have xq:=bs.b3 1;go_wp2_with fail;go_ret;exact⟨by first | rfl | simp,q⟩
       | true=>
        cases Fu with
        | false=>
         have xr:=h_ fun w' m=>CF.out w' m (by first | exact rfl | exact trivial)
         have xn:=bs.b6 0;have xq:=bs.b3 1;go_wp2_with fail;refine(xr.out wr (HM.out.ret q)).mono ?_;rintro e xy ⟨rfl,hb⟩;clear xn xq;replace bs:=bs.ret hb;replace q:=bs.q;clear hb;have xn:=bs.b6 0;go_wp2_with fail;go_ret;exact⟨by first | rfl | simp,q⟩
        | true=>
         have xr:=h_ fun w' m=>CF.out w' m (by first | exact rfl | exact trivial)
         have xn:=bs.b6 0;have xq:=bs.b3 1;go_wp2_with fail;refine(xr.out wr (HM.out.ret q)).mono ?_;rintro e xy ⟨rfl,hb⟩;clear xn xq;replace bs:=bs.ret hb;replace q:=bs.q;clear hb
         cases H with
         | true=>
          have xn:=bs.b6 0;go_wp2_with fail;refine(CH.out xy q).mono ?_;rintro e ye ⟨rfl,hb⟩;clear xn;replace bs:=bs.ret hb;replace q:=bs.q;clear hb;have xn:=bs.b6 0;go_wp2_with fail;go_ret;exact⟨by first | rfl | simp,q⟩
         | false=>
          have xn:=bs.b6 0;go_wp2_with fail;refine(CH.out xy q).mono ?_;rintro e ye ⟨rfl,hb⟩;clear xn;replace bs:=bs.ret hb;replace q:=bs.q;clear hb
          cases xD with
          | true=>
           have xn:=bs.b6 0;go_wp2_with fail;go_ret;exact⟨by first | rfl | simp,q⟩
          | false=>
           by_cases hpr:xt=0
           ·have yf:(xt==0)=true:=beq_iff_eq.2 hpr
            by_cases hd:D=0
            ·have wd:((D:Int)==0)=true:=beq_iff_eq.2 (by omega)
             have xn:=bs.b6 0;go_wp2_with fail;go_ret;exact⟨by first | rfl | simp[hpr,hd],q⟩
            ·have wd:((D:Int)==0)=false:=beq_eq_false_iff_ne.2 (by omega)
             have xn:=bs.b6 0;go_wp2_with fail;go_ret;exact⟨by first | rfl | simp[hpr,hd],q⟩
           ·have yf:(xt==0)=false:=beq_eq_false_iff_ne.2 hpr
            have xn:=bs.b6 0;go_wp2_with fail;go_ret;exact⟨by first | rfl | simp[hpr],q⟩
      ·have v3 : ¬ xt ≤ 127 := by omega
       have:So=false:=(by rw[xu,decide_eq_true g0,decide_eq_true g1,decide_eq_true g2,decide_eq_false g3];rfl);subst this;clear xu
       cases B with
       | false=>
        have xn:=bs.b6 0;have xq:=bs.b3 1;go_wp2_with fail;go_ret;exact⟨by first | rfl | simp,q⟩
       | true=>
        cases Fu with
        | false=>
         have xr:=h_ fun w' m=>CF.out w' m (by first | exact rfl | exact trivial)
         have xn:=bs.b6 0;have xq:=bs.b3 1;go_wp2_with fail;refine(xr.out wr (HM.out.ret q)).mono ?_;rintro e xy ⟨rfl,hb⟩;clear xn xq;replace bs:=bs.ret hb;replace q:=bs.q;clear hb;have xn:=bs.b6 0;go_wp2_with fail;go_ret;exact⟨by first | rfl | simp,q⟩
        | true=>
         have xr:=h_ fun w' m=>CF.out w' m (by first | exact rfl | exact trivial)
         have xn:=bs.b6 0;have xq:=bs.b3 1;go_wp2_with fail;refine(xr.out wr (HM.out.ret q)).mono ?_;rintro e xy ⟨rfl,hb⟩;clear xn xq;replace bs:=bs.ret hb;replace q:=bs.q;clear hb;have xn:=bs.b6 0;go_wp2_with fail;go_ret;exact⟨by first | rfl | simp,q⟩
     ·have v2 : ¬ -128 ≤ xt := by omega
      have:So=false:=(by rw[xu,decide_eq_true g0,decide_eq_true g1,decide_eq_false g2];rfl);subst this;clear xu
      cases B with
      | false=>
       have xn:=bs.b6 0;have xq:=bs.b3 1;go_wp2_with fail;go_ret;exact⟨by first | rfl | simp,q⟩
      | true=>
       cases Fu with
       | false=>
        have xr:=h_ fun w' m=>CF.out w' m (by first | exact rfl | exact trivial)
        have xn:=bs.b6 0;have xq:=bs.b3 1;go_wp2_with fail;refine(xr.out wr (HM.out.ret q)).mono ?_;rintro e xy ⟨rfl,hb⟩;clear xn xq;replace bs:=bs.ret hb;replace q:=bs.q;clear hb;have xn:=bs.b6 0;go_wp2_with fail;go_ret;exact⟨by first | rfl | simp,q⟩
       | true=>
        have xr:=h_ fun w' m=>CF.out w' m (by first | exact rfl | exact trivial)
        have xn:=bs.b6 0;have xq:=bs.b3 1;go_wp2_with fail;refine(xr.out wr (HM.out.ret q)).mono ?_;rintro e xy ⟨rfl,hb⟩;clear xn xq;replace bs:=bs.ret hb;replace q:=bs.q;clear hb;have xn:=bs.b6 0;go_wp2_with fail;go_ret;exact⟨by first | rfl | simp,q⟩
    ·have v1 : ¬ (L : Int) ≤ 8 := by omega
     have:So=false:=(by rw[xu,decide_eq_true g0,decide_eq_false g1];rfl);subst this;clear xu
     cases B with
     | false=>
      have xn:=bs.b6 0;have xq:=bs.b3 1;go_wp2_with fail;go_ret;exact⟨by first | rfl | simp,q⟩
     | true=>
      cases Fu with
      | false=>
       have xr:=h_ fun w' m=>CF.out w' m (by first | exact rfl | exact trivial)
       have xn:=bs.b6 0;have xq:=bs.b3 1;go_wp2_with fail;refine(xr.out wr (HM.out.ret q)).mono ?_;rintro e xy ⟨rfl,hb⟩;clear xn xq;replace bs:=bs.ret hb;replace q:=bs.q;clear hb;have xn:=bs.b6 0;go_wp2_with fail;go_ret;exact⟨by first | rfl | simp,q⟩
      | true=>
       have xr:=h_ fun w' m=>CF.out w' m (by first | exact rfl | exact trivial)
       have xn:=bs.b6 0;have xq:=bs.b3 1;go_wp2_with fail;refine(xr.out wr (HM.out.ret q)).mono ?_;rintro e xy ⟨rfl,hb⟩;clear xn xq;replace bs:=bs.ret hb;replace q:=bs.q;clear hb;have xn:=bs.b6 0;go_wp2_with fail;go_ret;exact⟨by first | rfl | simp,q⟩
   ·have v0 : ¬ (D : Int) ≤ 16 := by omega
    have:So=false:=(by rw[xu,decide_eq_false g0];rfl);subst this;clear xu
    cases B with
    | false=>
     have xn:=bs.b6 0;have xq:=bs.b3 1;go_wp2_with fail;go_ret;exact⟨by first | rfl | simp,q⟩
    | true=>
     cases Fu with
     | false=>
      have xr:=h_ fun w' m=>CF.out w' m (by first | exact rfl | exact trivial)
      have xn:=bs.b6 0;have xq:=bs.b3 1;go_wp2_with fail;refine(xr.out wr (HM.out.ret q)).mono ?_;rintro e xy ⟨rfl,hb⟩;clear xn xq;replace bs:=bs.ret hb;replace q:=bs.q;clear hb;have xn:=bs.b6 0;go_wp2_with fail;go_ret;exact⟨by first | rfl | simp,q⟩
     | true=>
      have xr:=h_ fun w' m=>CF.out w' m (by first | exact rfl | exact trivial)
      have xn:=bs.b6 0;have xq:=bs.b3 1;go_wp2_with fail;refine(xr.out wr (HM.out.ret q)).mono ?_;rintro e xy ⟨rfl,hb⟩;clear xn xq;replace bs:=bs.ret hb;replace q:=bs.q;clear hb;have xn:=bs.b6 0;go_wp2_with fail;go_ret;exact⟨by first | rfl | simp,q⟩
theorem oN (a b c d e:Bool):(a&&(b&&(c&&(d&&e))))=(b&&(c&&(d&&(a&&e)))):=by
 cases a <;> cases b <;> cases c <;> cases d <;> cases e <;> rfl
theorem rV (p:List Nd→Bool) (x:RsI) (w:World) (h:RsFit p x w) (hm:ML w):Calls prog 76 #[x.v] w (Ret w (.bool (dJ p x.d))):=by
 obtain⟨xV,hj,hst,yg,yh,yi⟩:=h;obtain⟨hl,hg⟩:=xV;obtain⟨-,a,cap,he,xW⟩:=id hg
 have CA:=fun w' (hb:Bl w w')=>eT ⟨x.j.toArray⟩ w' (by rw[←ab];exact hj) (hm.ret hb)
 unfold fX at CA
 have CS:∀s∈x.st,∀w',Bl w w'→∃X Y Z:ByteArray,Calls prog 114 #[.string ⟨s.toArray⟩] w' (Ret w' (.tuple #[jV X Y Z,.bool (bm s)])):=fun s hs w' hb=>by
  have:=eT ⟨s.toArray⟩ w' (by rw[←ab];exact yg s hs) (hm.ret hb);unfold fX at this;exact⟨_,_,_,this⟩
 obtain⟨z1,z2,z3⟩:=cu x.j
 have CF:∀w',ML w'→bm x.j=true→Calls prog 135 #[jV (jB (adr x.j).1) (jB (adr x.j).2.1) (jB (adr x.j).2.2)] w' (Ret w' (.bool (!(aO x.j).isEmpty&&!(aP x.j).isEmpty))):=fun w' m hB=>by
  unfold bm at hB;rw[Bool.and_eq_true] at hB;have hk:=de hB.1;unfold adr;rw[if_pos hB.1];have:=tN (jB (aO x.j)) (jB (aZ x.j)) (jB (aP x.j)) w' (by rw[ai];omega) (by rw[ai];omega) (by rw[ai];omega) m;rw[ah,ah,ah,hk,Bool.true_and] at this;exact this
 have CH:=fun w' (hb:Bl w w')=>pn x.lv (.func (.func 133) #[] #[]) (fun t=>!p (trD t)) x.ld w' (hl.ret hb) (by omega) ⟨_,_,rfl,uT,fun t ht W hW=>sK p t W ((yi t ht).ret (hb.trans (hW.mono hb.size)))⟩
 have key:=pX x.j x.on x.pr x.la.1 x.la.2 x.ask x.st x.sa.1 x.sa.2 x.st.length x.ld.length (bm x.j) (!(aO x.j).isEmpty&&!(aP x.j).isEmpty) (x.ld.any fun t=>!p (trD t)) (bq x.st&&x.st.all bm) _ _ _ _ w hm rfl hst hg (by
  simp only[wt] at he;obtain⟨_,_,rfl⟩:=he;exact xW) yh rfl rfl CA CS CF CH
 rw[tP,←oN];exact key

theorem mu {α:Type} (q:α→Bool) (L:List α):decide (dc q L<0)=!L.any q:=by
 rw[←cO]
 by_cases h:0≤dc q L
 ·rw[decide_eq_true h,decide_eq_false (by omega)];rfl
 ·rw[decide_eq_false h,decide_eq_true (by omega)];rfl
theorem nN (x:AcI) (w:World) (hv:aE x.iv x.it w) (hs:cN x.it) (hj:x.j.length≤10000) (hm:ML w):Calls prog 73 #[x.v] w (Ret w (.bool (!eU x.d))):=by
 have CA:=h_ fun (W:World) (hb:Bl w W)=>iw x W (hv.ret hb) hs hj (hm.ret hb)
 obtain⟨b,hb⟩:=e_ (eU x.d);rw[hb] at CA ⊢;clear hb hv hs hj hm;obtain⟨W0,hW,y0,bs⟩:=Sx.start1 w [.string ⟨x.j.toArray⟩,x.iv,.int .i64 x.ver] 33;have HW:=h_ hW;clear hW;have q:=bs.q;go_enter func73,ntmps73;go_wp2_with fail;rw[HW.out];have xX:=bs.b3 0;go_wp2_with fail;refine(CA.out W0 q).mono ?_;rintro e w1 ⟨rfl,hb⟩;clear xX;replace bs:=bs.ret hb;replace q:=bs.q;clear hb;go_wp2_with fail;go_ret;exact⟨rfl,q⟩
theorem p6:∀args w,(callFunc 73 args).run prog w=.ok (.enter 73 args) w:=enters_of func73 (by kernel_rfl) rfl
theorem rh:∀args w,(callFunc 75 args).run prog w=.ok (.enter 75 args) w:=enters_of func75 (by kernel_rfl) rfl
theorem lT (x:RsI) (aa ra:Option Addr) (LA ac LR rc:Nat) (m:Int) (b:ByteArray) (R:Bool) (I:Int) (Lc:Nat) (w:World) (hl:Lc<w.heap.size) (c0:w.cell? ⟨Lc,0,none⟩=some (.slice aa LA ac)) (c1:w.cell? ⟨Lc,1,none⟩=some (.slice ra LR rc)) (c2:w.cell? ⟨Lc,2,none⟩=some (.int .i64 m))
  (CR:∀W,Bl w W→Calls prog 76 #[x.v] W (Ret W (.bool R)))
  (CB:∀W,Bl w W→Calls prog 77 #[.string ⟨x.j.toArray⟩] W (Ret W (.string b)))
  (CF:∀W,Bl w W→Calls prog 51 #[.agg #[.slice aa LA ac,cy],.string b] W (Ret W (.int .i64 I))):
  Calls prog 75 #[x.v,.pointer (some ⟨Lc,0,none⟩)] w (Ret w (.bool (!R||decide (I<0)))):=by
 have HC:=h_ fun (w':World) (hb:Bl w w')=>show w'.cell? ⟨Lc,0,none⟩=some (.slice aa LA ac)∧w'.cell? ⟨Lc,1,none⟩=some (.slice ra LR rc)∧w'.cell? ⟨Lc,2,none⟩=some (.int .i64 m) from ⟨((ag hb).1 _ _ hl).trans c0,((ag hb).1 _ _ hl).trans c1,((ag hb).1 _ _ hl).trans c2⟩
 have CR:=h_ CR;have CB:=h_ CB;have CF:=h_ CF;clear c0 c1 c2
 cases R with
 | true=>
  obtain⟨W0,hW,y0,bs⟩:=Sx.start1 w [.string ⟨x.j.toArray⟩,.bool x.on,.int .i64 x.pr,x.lv,.bool x.ask,x.sv] 38;have HW:=h_ hW;clear hW;have q:=bs.q;go_enter func75,ntmps75;go_wp2_with fail;rw[HW.out];replace bs:=bs.ret (wv (bQ _));replace q:=bs.q
  have y1:W0.drew.heap.size=W0.heap.size:=rfl
  refine wp_region_held_drew (S:=fun w'=>w'.cell? ⟨Lc,0,none⟩=some (.slice aa LA ac)∧w'.cell? ⟨Lc,1,none⟩=some (.slice ra LR rc)∧w'.cell? ⟨Lc,2,none⟩=some (.int .i64 m)∧w'.cell? ⟨w.heap.size,0,none⟩=some (.string ⟨x.j.toArray⟩)∧w'.cell? ⟨w.heap.size,1,none⟩=some (.bool x.on)∧w'.cell? ⟨w.heap.size,2,none⟩=some (.int .i64 x.pr)∧w'.cell? ⟨w.heap.size,3,none⟩=some (x.lv)∧w'.cell? ⟨w.heap.size,4,none⟩=some (.bool x.ask)∧w'.cell? ⟨w.heap.size,5,none⟩=some (x.sv)) (by kernel_rfl) ⟨(HC.out _ q).1,(HC.out _ q).2.1,(HC.out _ q).2.2,bs.at 0 0,bs.at 0 1,bs.at 0 2,bs.at 0 3,bs.at 0 4,bs.at 0 5⟩ (fun hH=>?_);generalize W0.drew=w1 at bs q y1 hH ⊢;refine rS [(0,some 4)] ?_;refine aS ?_;refine rE ?_
  refine aC (i:=1) fun K hK=>?_
  go_simp;refine(CR.out w1 q).mono ?_;rintro e w2 ⟨rfl,hb⟩;replace bs:=bs.ret hb;replace q:=bs.q;clear hb;go_simp;clear hH;refine hK.out _ _ ⟨(HC.out _ q).1,(HC.out _ q).2.1,(HC.out _ q).2.2,bs.at 0 0,bs.at 0 1,bs.at 0 2,bs.at 0 3,bs.at 0 4,bs.at 0 5⟩ (fun hH=>?_);clear hK K;refine rS [(2,some 6),(3,some 7),(4,some 8),(6,some 10),(7,some 11)] ?_
  iterate 5 refine aS ?_
  refine rE ?_
  refine aC (i:=5) fun K hK=>?_
  go_simp;refine(aN aa ra LA ac LR rc m w2).mono ?_;rintro e w3 ⟨rfl,hb⟩;replace bs:=bs.ret hb;replace q:=bs.q;clear hb;go_simp;clear hH;refine hK.out _ _ ⟨(HC.out _ q).1,(HC.out _ q).2.1,(HC.out _ q).2.2,bs.at 0 0,bs.at 0 1,bs.at 0 2,bs.at 0 3,bs.at 0 4,bs.at 0 5⟩ (fun hH=>?_);clear hK K
  refine aC (i:=8) fun K hK=>?_
  go_simp;refine(CB.out w3 q).mono ?_;rintro e w4 ⟨rfl,hb⟩;replace bs:=bs.ret hb;replace q:=bs.q;clear hb;go_simp;clear hH;refine hK.out _ _ ⟨(HC.out _ q).1,(HC.out _ q).2.1,(HC.out _ q).2.2,bs.at 0 0,bs.at 0 1,bs.at 0 2,bs.at 0 3,bs.at 0 4,bs.at 0 5⟩ (fun hH=>?_);clear hK K
  refine aC (i:=9) fun K hK=>?_
  go_simp;refine(CF.out w4 q).mono ?_;rintro e w5 ⟨rfl,hb⟩;replace bs:=bs.ret hb;replace q:=bs.q;clear hb;go_simp;clear hH;refine hK.out _ _ ⟨(HC.out _ q).1,(HC.out _ q).2.1,(HC.out _ q).2.2,bs.at 0 0,bs.at 0 1,bs.at 0 2,bs.at 0 3,bs.at 0 4,bs.at 0 5⟩ (fun hH=>?_);clear hK K;refine rS [(10,some 14),(11,some 15),(12,some 3)] ?_
  iterate 3 refine aS ?_
  refine rE ?_;refine aD ?_;clear hH;go_wp2_with fail;go_ret;exact⟨by first | rfl | simp,q⟩
 | false=>
  obtain⟨W0,hW,y0,bs⟩:=Sx.start1 w [.string ⟨x.j.toArray⟩,.bool x.on,.int .i64 x.pr,x.lv,.bool x.ask,x.sv] 38;have HW:=h_ hW;clear hW;have q:=bs.q;go_enter func75,ntmps75;go_wp2_with fail;rw[HW.out];replace bs:=bs.ret (wv (bQ _));replace q:=bs.q
  have y1:W0.drew.heap.size=W0.heap.size:=rfl
  refine wp_region_held_drew (S:=fun w'=>w'.cell? ⟨Lc,0,none⟩=some (.slice aa LA ac)∧w'.cell? ⟨Lc,1,none⟩=some (.slice ra LR rc)∧w'.cell? ⟨Lc,2,none⟩=some (.int .i64 m)∧w'.cell? ⟨w.heap.size,0,none⟩=some (.string ⟨x.j.toArray⟩)∧w'.cell? ⟨w.heap.size,1,none⟩=some (.bool x.on)∧w'.cell? ⟨w.heap.size,2,none⟩=some (.int .i64 x.pr)∧w'.cell? ⟨w.heap.size,3,none⟩=some (x.lv)∧w'.cell? ⟨w.heap.size,4,none⟩=some (.bool x.ask)∧w'.cell? ⟨w.heap.size,5,none⟩=some (x.sv)) (by kernel_rfl) ⟨(HC.out _ q).1,(HC.out _ q).2.1,(HC.out _ q).2.2,bs.at 0 0,bs.at 0 1,bs.at 0 2,bs.at 0 3,bs.at 0 4,bs.at 0 5⟩ (fun hH=>?_);generalize W0.drew=w1 at bs q y1 hH ⊢;refine rS [(0,some 4)] ?_;refine aS ?_;refine rE ?_
  refine aC (i:=1) fun K hK=>?_
  go_simp;refine(CR.out w1 q).mono ?_;rintro e w2 ⟨rfl,hb⟩;replace bs:=bs.ret hb;replace q:=bs.q;clear hb;go_simp;clear hH;refine hK.out _ _ ⟨(HC.out _ q).1,(HC.out _ q).2.1,(HC.out _ q).2.2,bs.at 0 0,bs.at 0 1,bs.at 0 2,bs.at 0 3,bs.at 0 4,bs.at 0 5⟩ (fun hH=>?_);clear hK K;refine rS [(2,some 6),(3,some 7)] ?_
  iterate 2 refine aS ?_
  refine rE ?_;refine rS [(4,some 8),(5,some 9),(6,some 10),(7,some 11),(8,some 12),(9,some 13),(10,some 14)] ?_
  iterate 7 refine aF ?_
  refine rE ?_;refine rS [(11,some 15),(12,some 3)] ?_
  iterate 2 refine aS ?_
  refine rE ?_;refine aD ?_;clear hH;go_wp2_with fail;go_ret;exact⟨by first | rfl | simp,q⟩
theorem cT {α β:Type} (f:α→β) (nm:β→List UInt8):∀l:List α,chG nm (l.map f)=chG (fun x=>nm (f x)) l
 | []=>rfl
 | [_]=>rfl
 | a :: b :: l=>by
  have:=cT f nm (b :: l);simp only[List.map_cons] at this ⊢;unfold chG;rw[this]
theorem nf (aa ra:Option Addr) (LA ac LR rc:Nat) (m:Int) (O1 O2 O3 O4:Bool) (w:World)
  (C1:∀W,Bl w W→Calls prog 78 #[.slice aa LA ac,.func (.func 73) #[] #[]] W (Ret W (.bool O1)))
  (C2:∀W,Bl w W→Calls prog 79 #[.agg #[.slice aa LA ac,cy]] W (Ret W (.bool O2)))
  (C3:∀W,Bl w W→∀Lc,Lc<W.heap.size→W.cell? ⟨Lc,0,none⟩=some (.slice aa LA ac)→W.cell? ⟨Lc,1,none⟩=some (.slice ra LR rc)→W.cell? ⟨Lc,2,none⟩=some (.int .i64 m)→Calls prog 80 #[.slice ra LR rc,.func (.func 75) #[] #[.pointer (some ⟨Lc,0,none⟩)]] W (Ret W (.bool O3)))
  (C4:∀W,Bl w W→Calls prog 81 #[.agg #[.slice ra LR rc,cv]] W (Ret W (.bool O4))):
  Calls prog 30 #[.agg #[.slice aa LA ac,.slice ra LR rc,.int .i64 m]] w (Ret w (.int .i64 (if decide (LA≤8)&&(decide (LR≤16)&&(decide (0≤m)&&(decide (m<cg)&&(!O1&&(O2&&(!O3&&O4)))))) then 0 else 8))):=by
 have C1:=h_ C1;have C2:=h_ C2;have C3:=h_ C3;have C4:=h_ C4;obtain⟨V,hV⟩:=e_ ((if decide (LA≤8)&&(decide (LR≤16)&&(decide (0≤m)&&(decide (m<cg)&&(!O1&&(O2&&(!O3&&O4)))))) then (0:Int) else 8));rw[hV];unfold cg at hV
 by_cases g0:LA≤8
 ·have v0 : ¬ (8 : Int) < (LA : Int) := by omega
  by_cases g1:LR≤16
  ·have v1 : ¬ (16 : Int) < (LR : Int) := by omega
   by_cases g2:0≤m
   ·have v2 : ¬ m < 0 := by omega
    by_cases g3:m<9007199254740991
    ·have v3 : ¬ (9007199254740991 : Int) ≤ m := by omega
     cases O1 with
     | true=>
      have:V=8:=(by rw[←hV,decide_eq_true g0,decide_eq_true g1,decide_eq_true g2,decide_eq_true g3];rfl);subst this;clear hV;obtain⟨W0,hW,y0,bs⟩:=Sx.start1 w [.slice aa LA ac,.slice ra LR rc,.int .i64 m] 25;have HW:=h_ hW;clear hW;have q:=bs.q;go_enter func30,ntmps30;go_wp2_with fail;rw[HW.out];have xo:=bs.b3 0;go_wp2_with fail;refine(C1.out W0 q).mono ?_;rintro e w1 ⟨rfl,hb⟩;clear xo;replace bs:=bs.ret hb;replace q:=bs.q;clear hb;have xo:=bs.b3 0;go_wp2_with fail;go_ret;exact⟨rfl,q⟩
     | false=>
      cases O2 with
      | false=>
       have:V=8:=(by rw[←hV,decide_eq_true g0,decide_eq_true g1,decide_eq_true g2,decide_eq_true g3];rfl);subst this;clear hV;obtain⟨W0,hW,y0,bs⟩:=Sx.start1 w [.slice aa LA ac,.slice ra LR rc,.int .i64 m] 25;have HW:=h_ hW;clear hW;have q:=bs.q;go_enter func30,ntmps30;go_wp2_with fail;rw[HW.out];have xo:=bs.b3 0;go_wp2_with fail;refine(C1.out W0 q).mono ?_;rintro e w1 ⟨rfl,hb⟩;clear xo;replace bs:=bs.ret hb;replace q:=bs.q;clear hb;have xo:=bs.b3 0;go_wp2_with fail;refine(aN aa ra LA ac LR rc m w1).mono ?_;rintro e w2 ⟨rfl,hb⟩;clear xo;replace bs:=bs.ret hb;replace q:=bs.q;clear hb;have xo:=bs.b3 0;go_wp2_with fail;refine(C2.out w2 q).mono ?_;rintro e w3 ⟨rfl,hb⟩;clear xo;replace bs:=bs.ret hb;replace q:=bs.q;clear hb;have xo:=bs.b3 0;go_wp2_with fail;go_ret;exact⟨rfl,q⟩
      | true=>
       cases O3 with
       | true=>
        have:V=8:=(by rw[←hV,decide_eq_true g0,decide_eq_true g1,decide_eq_true g2,decide_eq_true g3];rfl);subst this;clear hV;obtain⟨W0,hW,y0,bs⟩:=Sx.start1 w [.slice aa LA ac,.slice ra LR rc,.int .i64 m] 25;have HW:=h_ hW;clear hW;have q:=bs.q;go_enter func30,ntmps30;go_wp2_with fail;rw[HW.out];have xo:=bs.b3 0;go_wp2_with fail;refine(C1.out W0 q).mono ?_;rintro e w1 ⟨rfl,hb⟩;clear xo;replace bs:=bs.ret hb;replace q:=bs.q;clear hb;have xo:=bs.b3 0;go_wp2_with fail;refine(aN aa ra LA ac LR rc m w1).mono ?_;rintro e w2 ⟨rfl,hb⟩;clear xo;replace bs:=bs.ret hb;replace q:=bs.q;clear hb;have xo:=bs.b3 0;go_wp2_with fail;refine(C2.out w2 q).mono ?_;rintro e w3 ⟨rfl,hb⟩;clear xo;replace bs:=bs.ret hb;replace q:=bs.q;clear hb;have xo:=bs.b3 0;go_wp2_with fail;refine(C3.out w3 q w.heap.size (bs.lt _ (wo (i:=0) rfl)) (bs.at 0 0) (bs.at 0 1) (bs.at 0 2)).mono ?_;rintro e w4 ⟨rfl,hb⟩;clear xo;replace bs:=bs.ret hb;replace q:=bs.q;clear hb;have xo:=bs.b3 0;go_wp2_with fail;go_ret;exact⟨rfl,q⟩
       | false=>
        cases O4 with
        | false=>
         have:V=8:=(by rw[←hV,decide_eq_true g0,decide_eq_true g1,decide_eq_true g2,decide_eq_true g3];rfl);subst this;clear hV;obtain⟨W0,hW,y0,bs⟩:=Sx.start1 w [.slice aa LA ac,.slice ra LR rc,.int .i64 m] 25;have HW:=h_ hW;clear hW;have q:=bs.q;go_enter func30,ntmps30;go_wp2_with fail;rw[HW.out];have xo:=bs.b3 0;go_wp2_with fail;refine(C1.out W0 q).mono ?_;rintro e w1 ⟨rfl,hb⟩;clear xo;replace bs:=bs.ret hb;replace q:=bs.q;clear hb;have xo:=bs.b3 0;go_wp2_with fail;refine(aN aa ra LA ac LR rc m w1).mono ?_;rintro e w2 ⟨rfl,hb⟩;clear xo;replace bs:=bs.ret hb;replace q:=bs.q;clear hb;have xo:=bs.b3 0;go_wp2_with fail;refine(C2.out w2 q).mono ?_;rintro e w3 ⟨rfl,hb⟩;clear xo;replace bs:=bs.ret hb;replace q:=bs.q;clear hb;have xo:=bs.b3 0;go_wp2_with fail;refine(C3.out w3 q w.heap.size (bs.lt _ (wo (i:=0) rfl)) (bs.at 0 0) (bs.at 0 1) (bs.at 0 2)).mono ?_;rintro e w4 ⟨rfl,hb⟩;clear xo;replace bs:=bs.ret hb;replace q:=bs.q;clear hb;have xo:=bs.b3 0;go_wp2_with fail;refine(aX aa ra LA ac LR rc m w4).mono ?_;rintro e w5 ⟨rfl,hb⟩;clear xo;replace bs:=bs.ret hb;replace q:=bs.q;clear hb;have xo:=bs.b3 0;go_wp2_with fail;refine(C4.out w5 q).mono ?_;rintro e w6 ⟨rfl,hb⟩;clear xo;replace bs:=bs.ret hb;replace q:=bs.q;clear hb;have xo:=bs.b3 0;go_wp2_with fail;go_ret;exact⟨rfl,q⟩
        | true=>
         have:V=0:=(by rw[←hV,decide_eq_true g0,decide_eq_true g1,decide_eq_true g2,decide_eq_true g3];rfl);subst this;clear hV;obtain⟨W0,hW,y0,bs⟩:=Sx.start1 w [.slice aa LA ac,.slice ra LR rc,.int .i64 m] 25;have HW:=h_ hW;clear hW;have q:=bs.q;go_enter func30,ntmps30;go_wp2_with fail;rw[HW.out];have xo:=bs.b3 0;go_wp2_with fail;refine(C1.out W0 q).mono ?_;rintro e w1 ⟨rfl,hb⟩;clear xo;replace bs:=bs.ret hb;replace q:=bs.q;clear hb;have xo:=bs.b3 0;go_wp2_with fail;refine(aN aa ra LA ac LR rc m w1).mono ?_;rintro e w2 ⟨rfl,hb⟩;clear xo;replace bs:=bs.ret hb;replace q:=bs.q;clear hb;have xo:=bs.b3 0;go_wp2_with fail;refine(C2.out w2 q).mono ?_;rintro e w3 ⟨rfl,hb⟩;clear xo;replace bs:=bs.ret hb;replace q:=bs.q;clear hb;have xo:=bs.b3 0;go_wp2_with fail;refine(C3.out w3 q w.heap.size (bs.lt _ (wo (i:=0) rfl)) (bs.at 0 0) (bs.at 0 1) (bs.at 0 2)).mono ?_;rintro e w4 ⟨rfl,hb⟩;clear xo;replace bs:=bs.ret hb;replace q:=bs.q;clear hb;have xo:=bs.b3 0;go_wp2_with fail;refine(aX aa ra LA ac LR rc m w4).mono ?_;rintro e w5 ⟨rfl,hb⟩;clear xo;replace bs:=bs.ret hb;replace q:=bs.q;clear hb;have xo:=bs.b3 0;go_wp2_with fail;refine(C4.out w5 q).mono ?_;rintro e w6 ⟨rfl,hb⟩;clear xo;replace bs:=bs.ret hb;replace q:=bs.q;clear hb;have xo:=bs.b3 0;go_wp2_with fail;go_ret;exact⟨rfl,q⟩
    ·have v3 : (9007199254740991 : Int) ≤ m := by omega
     have:V=8:=(by rw[←hV,decide_eq_true g0,decide_eq_true g1,decide_eq_true g2,decide_eq_false g3];rfl);subst this;clear hV;obtain⟨W0,hW,y0,bs⟩:=Sx.start1 w [.slice aa LA ac,.slice ra LR rc,.int .i64 m] 25;have HW:=h_ hW;clear hW;have q:=bs.q;go_enter func30,ntmps30;go_wp2_with fail;rw[HW.out];have xo:=bs.b3 0;go_wp2_with fail;go_ret;exact⟨rfl,q⟩
   ·have v2 : m < 0 := by omega
    have:V=8:=(by rw[←hV,decide_eq_true g0,decide_eq_true g1,decide_eq_false g2];rfl);subst this;clear hV;obtain⟨W0,hW,y0,bs⟩:=Sx.start1 w [.slice aa LA ac,.slice ra LR rc,.int .i64 m] 25;have HW:=h_ hW;clear hW;have q:=bs.q;go_enter func30,ntmps30;go_wp2_with fail;rw[HW.out];have xo:=bs.b3 0;go_wp2_with fail;go_ret;exact⟨rfl,q⟩
  ·have v1 : (16 : Int) < (LR : Int) := by omega
   have:V=8:=(by rw[←hV,decide_eq_true g0,decide_eq_false g1];rfl);subst this;clear hV;obtain⟨W0,hW,y0,bs⟩:=Sx.start1 w [.slice aa LA ac,.slice ra LR rc,.int .i64 m] 25;have HW:=h_ hW;clear hW;have q:=bs.q;go_enter func30,ntmps30;go_wp2_with fail;rw[HW.out];have xo:=bs.b3 0;go_wp2_with fail;go_ret;exact⟨rfl,q⟩
 ·have v0 : (8 : Int) < (LA : Int) := by omega
  have:V=8:=by rw[←hV,decide_eq_false g0];rfl
  subst this;clear hV;obtain⟨W0,hW,y0,bs⟩:=Sx.start1 w [.slice aa LA ac,.slice ra LR rc,.int .i64 m] 25;have HW:=h_ hW;clear hW;have q:=bs.q;go_enter func30,ntmps30;go_wp2_with fail;rw[HW.out];have xo:=bs.b3 0;go_wp2_with fail;go_ret;exact⟨rfl,q⟩
theorem fo (p:List Nd→Bool) (c:CoI) (w:World) (h:CoFit p c w) (hm:ML w):Calls prog 30 #[c.v] w (Ret w (.int .i64 (if aB p c.d then 0 else 8))):=by
 obtain⟨A,⟨aa,ac⟩,R,⟨ra,rc⟩,m⟩:=c;obtain⟨⟨hA,hR⟩,zA,zR,xI,xJ⟩:=h
 simp only at zA zR xI xJ
 have hA:IsL acY (.slice aa A.length ac) A w:=hA;have hR:IsL rsY (.slice ra R.length rc) R w:=hR
 have key:=nf aa ra A.length ac R.length rc m (A.any fun x=>!eU x.d) (chG (fun x:AcI=>x.j) A) (R.any fun x=>!(dJ p x.d&&a9 (A.map AcI.d) x.d)) (chG (fun x:RsI=>x.j) R) w
  (fun W hb=>oO _ _ (fun x=>!eU x.d) A W (hA.ret hb) (by omega) ⟨_,_,rfl,p6,fun x hx V hV=>nN x V ((hA.2.2 x hx).ret (hb.trans (hV.mono hb.size))) (xI x hx).2 (xI x hx).1 (hm.ret (hb.trans (hV.mono hb.size)))⟩)
  (fun W hb=>lQ aa ac A W (hA.ret hb) (by omega) (fun x hx=>(xI x hx).1) (hm.ret hb))
  (fun W hb Lc hl c0 c1 c2=>oA _ _ (fun x=>!(dJ p x.d&&a9 (A.map AcI.d) x.d)) R W (hR.ret hb) (by omega) ⟨_,_,rfl,rh,fun x hx V hV=>by
   have xA:=hb.trans (hV.mono hb.size)
   have k:=lT x aa ra A.length ac R.length rc m (jB (db x.j)) (dJ p x.d) (dc (fun a:AcI=>a.j==db x.j) A) Lc V (Nat.lt_of_lt_of_le hl hV.size) (((ag hV).1 _ _ hl).trans c0) (((ag hV).1 _ _ hl).trans c1) (((ag hV).1 _ _ hl).trans c2)
    (fun U hU=>rV p x U ((xJ x hx).1.ret (xA.trans (hU.mono xA.size))) (hm.ret (xA.trans (hU.mono xA.size))))
    (fun U hU=>tV ⟨x.j.toArray⟩ U (by rw[←ab];exact(xJ x hx).1.j) (hm.ret (xA.trans (hU.mono xA.size))))
    (fun U hU=>eK aa A.length ac A (db x.j) U (hA.ret (xA.trans (hU.mono xA.size))) (by omega))
   have e:(!dJ p x.d||decide (dc (fun a:AcI=>a.j==db x.j) A<0))=!(dJ p x.d&&a9 (A.map AcI.d) x.d):=by
    rw[mu];unfold a9;rw[List.any_map,Bool.not_and]
    rfl
   rw[e] at k;exact k⟩)
  (fun W hb=>lu ra rc R W (hR.ret hb) (by omega) (fun x hx=>(xJ x hx).1.j) (hm.ret hb))
 have e:aB p (CoI.d ⟨A,(aa,ac),R,(ra,rc),m⟩)=(decide (A.length≤8)&&(decide (R.length≤16)&&(decide (0≤m)&&(decide (m<cg)&&(!(A.any fun x=>!eU x.d)&&(chG (fun x:AcI=>x.j) A&&(!(R.any fun x=>!(dJ p x.d&&a9 (A.map AcI.d) x.d))&&chG (fun x:RsI=>x.j) R))))))):=by
  unfold aB dd CoI.d;simp only[wq,ws,←List.not_all_eq_any_not,Bool.not_not,Function.comp_def];rw[cT,cT]
 rw[e];exact key
end Go.Proofs.YtjgeiieiinmdnaaGreatDoor
