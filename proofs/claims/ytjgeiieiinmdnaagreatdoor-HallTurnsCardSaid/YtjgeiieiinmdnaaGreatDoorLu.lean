/- DcM, DcZ, DdA: put together by mergetpl.py. -/
import Derived.Test.YtjgeiieiinmdnaaGreatDoorLq
import Derived.Test.YtjgeiieiinmdnaaGreatDoorLt
open Go.Proofs.Tryz
open Go.Addr.mk renaming injEq→wE
open Go.RowKit.Below renaming drew→wo
open Go.Value.slice renaming injEq→wC
open Go.World renaming setCells→wA
open List renaming getElem?_toArray→wq,getElem?_cons_succ→ws,getElem?_cons_zero→wt,getElem?_eq_getElem→wu,getElem?_map→wv,length_map→ww,getElem_mem→wy,take_of_length_le→wD
open Nat renaming le_of_ble_eq_true→wz,zero_le→wB
open Option.some renaming injEq→wh
namespace Go.Proofs.YtjgeiieiinmdnaaGreatDoor
set_option maxHeartbeats 12000000
set_option maxRecDepth 100000
open Go.RowKit Go.Lib

theorem dN (x:AcI) (w:World) (h:acY.sub x w) (hs:cN x.it) (hj:x.j.length≤10000):Calls prog 100 #[x.v] w (Ret w (.bool (eU x.d))):=by
 have CM:=fun (W:World)=>qi ⟨x.j.toArray⟩ W (by rw[←ab];exact hj)
 have CY:=fun (W:World) (hb:Bl w W)=>t8 x.iv x.ver x.it W (aE.ret h hb) hs
 show Calls _ _ #[x.v] w (Ret w (.bool (cG x.j&&kZ (x.it.map Prod.fst) x.ver)))
 obtain⟨xj,yR,⟨xa,xc⟩,xM⟩:=x;simp only[AcI.v,AcI.iv] at CM CY ⊢;obtain⟨P,hP⟩:=e_ (cG xj);obtain⟨Q,hQ⟩:=e_ (kZ (yR.map Prod.fst) xM);obtain⟨xl,xZ⟩:=e_ yR.length;obtain⟨jb,xr⟩:=e_ (ByteArray.mk xj.toArray);rw[hP] at CM;rw[hQ,xZ] at CY;rw[xr] at CM;rw[hP,hQ,xZ,xr];have CM:=h_ CM;have CY:=h_ CY;clear h hs hj hP hQ xZ xr;obtain⟨W0,hW,y0,bs⟩:=Sx.start1 w [.string jb,.slice xa xl xc,.int .i64 xM] 33;have HW:=h_ hW;clear hW;have q:=bs.q;go_enter func100,ntmps100;have yz:=bs.b3 0;go_wp2_with fail;rw[HW.out];refine(CM.out W0).mono ?_;rintro e w1 ⟨rfl,hb⟩;clear yz;replace bs:=bs.ret hb;replace q:=bs.q;clear hb
 cases P with
 | false=>
  have yz:=bs.b3 0;go_wp2_with fail;go_ret;exact⟨rfl,q⟩
 | true=>
  have yz:=bs.b3 0;go_wp2_with fail;refine(CY.out w1 q).mono ?_;rintro e w2 ⟨rfl,hb⟩;clear yz;replace bs:=bs.ret hb;replace q:=bs.q;clear hb;go_wp2_with fail;go_ret;exact⟨rfl,q⟩

theorem cY (l:List UInt8):(⟨l.toArray⟩:ByteArray).size=l.length:=by rw[←ab]
theorem kl (t u:List UInt8):[u].contains t=(u==t):=by rw[List.contains_cons,List.contains_nil,Bool.or_false,Bool.beq_comm]
theorem lP {p:List Nd→Bool} {M:List TrI} {k:Nat} {T:TrI} (hk:M[k]?=some T) (h:p (trD T)=false):(M.map trD).all p=false:=fp (x:=trD T) (k:=k) (by rw[wv,hk];rfl) h
theorem fg (x:RsI) (X Y Z:ByteArray) (A FL:Bool) (w:World) (hs:rsY.sub x w) (hf:ReFit x.d) (zW:fM x.j=(A&&FL))
  (CA:∀w:World,Calls prog 121 #[.string ⟨x.j.toArray⟩] w (Ret w (.tuple #[jV X Y Z,.bool A])))
  (CF:A=true→∀w:World,Calls prog 159 #[jV X Y Z] w (Ret w (.bool FL))):
  Calls prog 98 #[x.v] w (Ret w (.bool (dJ af x.d))):=by
 have hL:IsL trY x.lv x.ld w:=hs.1;have hS:be x.sv x.st w:=hs.2
 have CM:=h_ fun (t:TrI) (ht:t∈x.ld) (W:World) (hb:Bl w W)=>sU t W (trY.subRet _ _ _ (hL.2.2 t ht) hb) (ku.sub hf t ht)
 have CS:=h_ fun (s:List UInt8) (ht:s∈x.st) (W:World)=>bV ⟨s.toArray⟩ W (by rw[cY];exact hf.sx s ht)
 have zL:=hf.ldl;have zS:x.st.length≤1000:=hf.st
 have yl:dJ af x.d=(fM x.j&&(decide ((x.ld.map trD).length≤16)&&(decide (x.st.length≤8)&&(decide (-128≤x.pr)&&(decide (x.pr≤127)&&((x.ld.map trD).all af&&(bq x.st&&(x.st.all bm&&(x.on||(decide (x.pr=0)&&(x.ld.map trD).isEmpty)))))))))):=rfl
 rw[ww] at yl;obtain⟨O,hO⟩:=e_ (dJ af x.d);rw[hO];obtain⟨AL,yS⟩:=e_ ((x.ld.map trD).all af);obtain⟨ON,yT⟩:=e_ (bq x.st);obtain⟨AR,yU⟩:=e_ (x.st.all bm)
 have he:(x.ld.map trD).isEmpty=decide (x.ld.length=0):=by cases x.ld with | nil=>rfl | cons _ _=>rfl
 rw[hO,zW,yS,yT,yU,he] at yl;obtain⟨xj,xC,xt,xl,⟨xI,xJ⟩,xw,xs,⟨xO,xK⟩⟩:=x
 simp only at yl yS yT yU zL zS CA
 obtain⟨yV,xr⟩:=e_ (ByteArray.mk xj.toArray);obtain⟨xu,yW⟩:=e_ xl.length;obtain⟨xF,yX⟩:=e_ xs.length;have hL:IsL trY (.slice xI xl.length xJ) xl w:=hL;have hS:be (.slice xO xs.length xK) xs w:=hS;rw[yW] at hL yl zL;rw[yX] at hS yl zS;rw[xr] at CA
 show Calls _ _ #[.agg #[.string ⟨xj.toArray⟩,.bool xC,.int .i64 xt,.slice xI xl.length xJ,.bool xw,.slice xO xs.length xK]] w _
 rw[xr,yW,yX];have yn:=h_ yl;have zi:=h_ yW;have zk:=h_ yX;have HL:=h_ hL;have HS:=h_ hS;have zZ:=h_ yS;have z8:=h_ yT;have z9:=h_ yU;have CA:=h_ CA;have CF:=h_ CF;clear yl xr yW yX hL hS yS yT yU hO he zW hf hs;obtain⟨W0,hW,y0,bs⟩:=Sx.start1 w [.string yV,.bool xC,.int .i64 xt,.slice xI xu xJ,.bool xw,.slice xO xF xK] 38;have HW:=h_ hW;clear hW;have q:=bs.q;go_enter func98,ntmps98;go_upto_region 1 with fail;rw[HW.out];have xn:=bs.b6 0;go_wp2_with fail;refine(CA.out W0).mono ?_;rintro e w1 ⟨rfl,hb⟩;clear xn;replace bs:=bs.ret hb;replace q:=bs.q;clear hb
 cases A with
 | false=>
  obtain rfl:O=false:=by rw[yn.out];rfl
  have xn:=bs.b6 0;have d0:=(bs.lit (w1.heap.size) rfl [.string X,.string Y,.string Z] 117);have xG:=d0.b3 1;have xP:=d0.b6 0;go_wp2_with fail;clear xn d0 xG xP;obtain⟨w2,zm,y2,al,bs⟩:=bs.alloc (w1.heap.size) rfl [.string X,.string Y,.string Z] 117;clear al;replace q:=bs.q;rw[zm];go_ret;exact⟨rfl,q⟩
 | true=>
  have yf:=h_ (CF.out rfl);have xn:=bs.b6 0;have d0:=(bs.lit (w1.heap.size) rfl [.string X,.string Y,.string Z] 117);have xG:=d0.b3 1;have xP:=d0.b6 0;go_wp2_with fail;clear xn d0 xG xP;obtain⟨w2,zm,y2,al,bs⟩:=bs.alloc (w1.heap.size) rfl [.string X,.string Y,.string Z] 117;clear al;replace q:=bs.q;rw[zm];refine(yf.out w2).mono ?_;rintro e w3 ⟨rfl,hb⟩;replace bs:=bs.ret hb;replace q:=bs.q;clear hb
  cases FL with
  | false=>
   obtain rfl:O=false:=by rw[yn.out];rfl
   have xn:=bs.b6 0;have xp:=bs.b3 1;go_wp2_with fail;go_ret;exact⟨rfl,q⟩
  | true=>
   by_cases h1:xt < -128
   ·have Ay:decide (xt < -128)=true:=decide_eq_true h1
    obtain rfl:O=false:=by rw[yn.out,decide_eq_false (show ¬ -128≤xt by omega)];simp
    have xn:=bs.b6 0;have xp:=bs.b3 1;go_wp2_with fail;go_ret;exact⟨rfl,q⟩
   ·have Ay:decide (xt < -128)=false:=decide_eq_false h1
    by_cases h2:127<xt
    ·have Az:decide (127<xt)=true:=decide_eq_true h2
     obtain rfl:O=false:=by rw[yn.out,decide_eq_false (show ¬ xt≤127 by omega)];simp
     have xn:=bs.b6 0;have xp:=bs.b3 1;go_wp2_with fail;go_ret;exact⟨rfl,q⟩
    ·have Az:decide (127<xt)=false:=decide_eq_false h2
     by_cases h3:(16:Int)<(xu:Int)
     ·have AA:decide ((16:Int)<(xu:Int))=true:=decide_eq_true h3
      obtain rfl:O=false:=by rw[yn.out,decide_eq_false (show ¬ xu≤16 by omega)];simp
      have xn:=bs.b6 0;have xp:=bs.b3 1;go_wp2_with fail;go_ret;exact⟨rfl,q⟩
     ·have AA:decide ((16:Int)<(xu:Int))=false:=decide_eq_false h3
      by_cases h4:(8:Int)<(xF:Int)
      ·have AB:decide ((8:Int)<(xF:Int))=true:=decide_eq_true h4
       obtain rfl:O=false:=by rw[yn.out,decide_eq_false (show ¬ xF≤8 by omega)];simp
       have xn:=bs.b6 0;have xp:=bs.b3 1;go_wp2_with fail;go_ret;exact⟨rfl,q⟩
      ·have AB:decide ((8:Int)<(xF:Int))=false:=decide_eq_false h4
       have zo:Hid (O=(AL&&(ON&&(AR&&(xC||(decide (xt=0)&&decide (xu=0))))))):=h_ (by rw[yn.out,decide_eq_true (show xu≤16 by omega),decide_eq_true (show xF≤8 by omega),decide_eq_true (show -128≤xt by omega),decide_eq_true (show xt≤127 by omega)];rfl)
       have xn:=bs.b6 0;have xp:=bs.b3 1;go_wp2_with fail;clear xn xp;go_loopw [5] (fun i wx=>∃k:Nat,i=.int .i64 k∧k≤xu∧((xl.map trD).take k).all af=true∧Sx w [(w.heap.size,[.string yV,.bool xC,.int .i64 xt,.slice xI xu xJ,.bool xw,.slice xO xF xK]),(w1.heap.size,[.string X,.string Y,.string Z])] wx) (fun i _=>xu-(intOf i).toNat)
       case atStart=>exact⟨0,rfl,wB _,rfl,bs⟩
       case round=>
        clear bs q;obtain⟨k,rfl,hk,hT,bs⟩:=hrel;have q:=bs.q
        by_cases hlt:k<xu
        ·have wl : (k : Int) < (xu : Int) := by omega
         have xH:k<xl.length:=(by rw[zi.out];exact hlt);obtain⟨t,ht⟩:=e_ (xl[k]);have xQ:xl[k]?=some t:=(by rw[wu xH,ht]);have yE:t∈xl:=(by rw[←ht];exact wy xH);obtain⟨b,off,cp,xR,-,hc⟩:=HL.out.cells xQ;rw[zi.out] at xR;simp only[wC,true_and] at xR;obtain⟨rfl,rfl⟩:=xR;have yA:=CM.out t yE
         have xS:=h_ fun h=>lF (q:=af) (l:=xl.map trD) (k:=k) (x:=trD t) (by rw[wv,xQ];rfl) hT h
         have AC:=h_ fun h=>zZ.out.symm.trans (lP (p:=af) xQ h)
         obtain⟨G,hG⟩:=e_ (af (trD t));have HG:=h_ hG;rw[hG] at yA;obtain⟨t0,ta,tc⟩:=t;obtain⟨tl,yB⟩:=e_ t0.length;have yA:∀W,Bl w W→Calls prog 160 #[.slice ta tl tc] W (Ret W (.bool G)):=(by rw[←yB];exact yA)
         have c9:wr.cell? ⟨b,off+k,none⟩=some (.slice ta tl tc):=by
          have h:=hc wr q 0 _ rfl;rw[←yB]
          rwa [show off+k*trY.n+0=off+k from (by show off+k*1+0=off+k;omega)] at h
         replace yA:=h_ yA;clear ht xQ yE hc yB hT hG;have xn:=bs.b6 0;have xp:=bs.b3 1;go_wp2_with fail;refine(yA.out wr q).mono ?_;rintro e w21 ⟨rfl,hb⟩;clear xn xp;replace bs:=bs.ret hb;replace q:=bs.q;clear hb;clear c9
         cases G with
         | false=>
          have HB:=h_ (AC.out HG.out)
          obtain rfl:O=false:=by rw[zo.out,HB.out];rfl
          go_wp2_with fail;go_ret;exact⟨rfl,q⟩
         | true=>
          go_wp2_with fail;go_roundw
          case rel=>exact⟨k+1,by go_num,by omega,xS.out HG.out,bs⟩
          case measure=>simp[intOf];omega
        ·have wl : ¬ (k : Int) < (xu : Int) := by omega
         obtain rfl:AL=true:=by rw[←zZ.out];rwa [wD (by rw[ww,zi.out];omega)] at hT
         clear hT;have xn:=bs.b6 0;have xp:=bs.b3 1;go_wp2_with fail;clear xn xp;go_loopw [6] (fun i wx=>∃e:Nat,i=.int .i64 e∧e≤xF∧(bq (xs.take e)=true∧(xs.take e).all bm=true)∧Sx w [(w.heap.size,[.string yV,.bool xC,.int .i64 xt,.slice xI xu xJ,.bool xw,.slice xO xF xK]),(w1.heap.size,[.string X,.string Y,.string Z])] wx) (fun i _=>xF-(intOf i).toNat)
         case atStart=>exact⟨0,rfl,wB _,⟨rfl,rfl⟩,bs⟩
         case round=>
          clear bs q;obtain⟨e,rfl,he,hT,bs⟩:=hrel;have q:=bs.q
          by_cases hle:e<xF
          ·have AE : (e : Int) < (xF : Int) := by omega
           have xH:e<xs.length:=(by rw[zk.out];exact hle);obtain⟨t,ht⟩:=e_ (xs[e]);have xQ:xs[e]?=some t:=(by rw[wu xH,ht]);have yE:t∈xs:=(by rw[←ht];exact wy xH);obtain⟨b,off,rfl,hc⟩:=iI HS.out xQ;have yg:=CS.out t yE
           have Aa:Hid ((bq (xs.take (e+1))=!(xs.take e).contains t)∧((xs.take (e+1)).all bm=bm t)):=h_ (by rw[a8 xQ,bk,hT.1,List.all_append,hT.2];simp)
           have xT:Hid (bm t=false→AR=false):=h_ fun h=>z9.out.symm.trans (fp xQ h)
           have yF:Hid ((xs.take e).contains t=true→ON=false):=h_ fun h=>by
            rw[←z8.out];have h2:bq (xs.take (e+1))=false:=(by rw[a8 xQ,bk,h];simp);rw[←List.take_append_drop (e+1) xs];exact ej h2
           obtain⟨tb,yY⟩:=e_ (ByteArray.mk t.toArray)
           have Ab:Hid (∀w',Bl w w'→w'.cell? ⟨b,off+e,none⟩=some (.string tb)):=h_ (by rw[←yY];exact hc)
           have yB:(⟨t.toArray⟩:ByteArray).data.toList=t:=(by simp);unfold fX at yg
           (try rw[yB] at yg)
           rw[yY] at yg;obtain⟨D,hD⟩:=e_ (bm t);rw[hD] at yg;have HD:=h_ hD;obtain⟨X2,Ad⟩:=e_ (jB (adr t).1);obtain⟨Y2,Ae⟩:=e_ (jB (adr t).2.1);obtain⟨Z2,Af⟩:=e_ (jB (adr t).2.2);rw[Ad,Ae,Af] at yg;replace yg:=h_ yg;have AF:=h_ yY;have AZ:=h_ xQ;clear ht xQ yE hc hT yB hD Ad Ae Af xH yY;have c9:=Ab.out wr q;have xn:=bs.b6 0;have xp:=bs.b3 1;go_wp2_with fail;refine(yg.out wr).mono ?_;rintro e zp ⟨rfl,hb⟩;clear xn xp;replace bs:=bs.ret hb;replace q:=bs.q;clear hb;clear c9;have xn:=bs.b6 0;have xp:=bs.b3 1;have d0:=(bs.lit (zp.heap.size) rfl [.string X2,.string Y2,.string Z2] 117);have xG:=d0.b3 2;have xP:=d0.b6 0;go_wp2_with fail;clear xn xp d0 xG xP;obtain⟨A3,Ag,A4,al,bs⟩:=bs.alloc (zp.heap.size) rfl [.string X2,.string Y2,.string Z2] 117;clear al;replace q:=bs.q;rw[Ag];obtain⟨MB,Ah⟩:=e_ zp.heap.size;rw[Ah] at bs ⊢;clear Ah;go_loopw [8,9] (fun v i wx=>∃j:Nat,i=.int .i64 j∧j≤e∧v=.bool (D&&!((xs.take e).take j).contains t)∧Sx w [(w.heap.size,[.string yV,.bool xC,.int .i64 xt,.slice xI xu xJ,.bool xw,.slice (some ⟨b,off,none⟩) xF xK]),(w1.heap.size,[.string X,.string Y,.string Z]),(MB,[.string X2,.string Y2,.string Z2])] wx) (fun _ i _=>e-(intOf i).toNat)
           case atStart=>exact⟨0,rfl,wB _,by simp,bs⟩
           case round=>
            clear bs q;obtain⟨j,rfl,hj,rfl,bs⟩:=hrel;have q:=bs.q;obtain⟨V,hV⟩:=e_ ((D&&!((xs.take e).take j).contains t));rw[hV]
            by_cases hlj:j<e
            ·have wj : (j : Int) < (e : Int) := by omega
             have Ai:j<xs.length:=(by rw[zk.out];omega);obtain⟨u,hu⟩:=e_ (xs[j]);have zq:xs[j]?=some u:=(by rw[wu Ai,hu]);obtain⟨b2,AY,Aj,Ak⟩:=iI HS.out zq;simp only[wh,wE,and_true] at Aj;obtain⟨rfl,rfl⟩:=Aj
             have hst:(D&&!((xs.take e).take (j+1)).contains t)=(V&&!(u==t)):=by
              rw[a8 (l:=xs.take e) (x:=u) (by rw[List.getElem?_take_of_lt hlj,zq]),List.contains_append,←hV];rw[kl]
              cases D <;> cases ((xs.take e).take j).contains t <;> cases (u==t) <;> rfl
             obtain⟨ub,zv⟩:=e_ (ByteArray.mk u.toArray);have Al:(ub.toList==tb.toList)=(u==t):=(by rw[←zv,←AF.out];exact lY _ _);have AG:(ub.toList != tb.toList)=!(u==t):=(by unfold bne;rw[Al]);obtain⟨E,hE⟩:=e_ ((u==t));rw[hE] at hst AG Al;have c8:=Ak wr q;rw[zv] at c8;have c9:=Ab.out wr q;have yG:=h_ hst;clear hst zv Ak zq hu Ai hE hV
             cases V with
             | false=>
              have xn:=bs.b6 0;have xp:=bs.b3 1;have yh:=bs.b3 2;go_wp2_with fail;go_quiet (fail);go_wp2_with fail;go_roundw
              case rel=>exact⟨j+1,by go_num,by omega,by rw[yG.out];rfl,bs.ret (below_drewN _ _)⟩
              case measure=>simp[intOf];omega
             | true=>
              cases E with
              | false=>
               have xn:=bs.b6 0;have xp:=bs.b3 1;have yh:=bs.b3 2;go_wp2_with fail;go_quiet (fail);go_wp2_with fail;go_roundw
               case rel=>exact⟨j+1,by go_num,by omega,by rw[yG.out];rfl,bs.ret (below_drewN _ _)⟩
               case measure=>simp[intOf];omega
              | true=>
               have xn:=bs.b6 0;have xp:=bs.b3 1;have yh:=bs.b3 2;go_wp2_with fail;go_quiet (fail);go_wp2_with fail;go_roundw
               case rel=>exact⟨j+1,by go_num,by omega,by rw[yG.out];rfl,bs.ret (below_drewN _ _)⟩
               case measure=>simp[intOf];omega
            ·have wj : ¬ (j : Int) < (e : Int) := by omega
             rw[wD (by rw[List.length_take];omega)] at hV;have HV:=h_ hV;clear hV
             cases V with
             | false=>
              obtain rfl:O=false:=by
               rw[zo.out]
               cases hc:(xs.take e).contains t with
               | true=>rw[yF.out hc];simp
               | false=>
                have h:=HV.out;rw[hc] at h;rw[xT.out (HD.out.trans (by simpa using h))]
                simp
              have xn:=bs.b6 0;have xp:=bs.b3 1;have yh:=bs.b3 2;go_wp2_with fail;go_ret;exact⟨rfl,q⟩
             | true=>
              have xn:=bs.b6 0;have xp:=bs.b3 1;have yh:=bs.b3 2;go_wp2_with fail;clear xn xp yh
              have HN:Hid (bq (xs.take (e+1))=true∧(xs.take (e+1)).all bm=true):=h_ (by
               have h:=HV.out;simp only[Bool.and_eq_true] at h;exact⟨Aa.out.1.trans h.2,Aa.out.2.trans (HD.out.trans h.1)⟩)
              go_roundw
              case rel=>exact⟨e+1,by go_num,by omega,HN.out,bs.some 2⟩
              case measure=>simp[intOf];omega
          ·have AE : ¬ (e : Int) < (xF : Int) := by omega
           rw[wD (by rw[zk.out];omega)] at hT;obtain rfl:ON=true:=z8.out.symm.trans hT.1;obtain rfl:AR=true:=z9.out.symm.trans hT.2;clear hT
           have yZ:Hid (O=(xC||(decide (xt=0)&&decide (xu=0)))):=h_ zo.out
           cases xC with
           | true=>
            have xn:=bs.b6 0;have xp:=bs.b3 1;go_wp2_with fail;go_ret;exact⟨by rw[yZ.out];rfl,q⟩
           | false=>
            by_cases hp:xt=0
            ·subst hp
             by_cases hl0:xu=0
             ·have g0 : ((xu : Int) == 0) = true := by simp [hl0]
              have zw:=h_ hl0;clear hl0;have xn:=bs.b6 0;have xp:=bs.b3 1;go_wp2_with fail;go_ret;exact⟨by rw[yZ.out,decide_eq_true zw.out];rfl,q⟩
             ·have g0:((xu:Int)==0)=false:=beq_eq_false_iff_ne.2 (by omega)
              have zw:=h_ hl0;clear hl0;have xn:=bs.b6 0;have xp:=bs.b3 1;go_wp2_with fail;go_ret;exact⟨by rw[yZ.out,decide_eq_false zw.out];rfl,q⟩
            ·have g0:(xt==0)=false:=beq_eq_false_iff_ne.2 hp
             have HP:=h_ hp;clear hp;have xn:=bs.b6 0;have xp:=bs.b3 1;go_wp2_with fail;go_ret;exact⟨by rw[yZ.out,decide_eq_false HP.out];rfl,q⟩
theorem iz (x:RsI) (w:World) (hs:rsY.sub x w) (hf:ReFit x.d):Calls prog 98 #[x.v] w (Ret w (.bool (dJ af x.d))):=by
 have hj:x.j.length≤10000:=hf.j
 have CA:=fun w=>bV ⟨x.j.toArray⟩ w (by rw[cY];exact hj)
 have e:(⟨x.j.toArray⟩:ByteArray).data.toList=x.j:=by simp
 unfold fX at CA;rw[e] at CA
 cases h:bm x.j with
 | false=>
  rw[h] at CA;exact fg x _ _ _ false false w hs hf (by unfold fM;rw[h];rfl) CA (fun h=>by cases h)
 | true=>
  rw[h] at CA;have hp:=iF h;obtain⟨z1,z2,z3⟩:=cu x.j;have hk:=de hp;unfold adr at CA;rw[if_pos hp] at CA;refine fg x _ _ _ true (!(aO x.j).isEmpty&&!(aP x.j).isEmpty) w hs hf (by unfold fM;rw[h]) CA (fun _ w=>?_);have k:=ry (jB (aO x.j)) (jB (aZ x.j)) (jB (aP x.j)) w (by rw[ai];omega) (by rw[ai];omega) (by rw[ai];omega);rw[ah,ah,ah,hk,Bool.true_and] at k;exact k

theorem rG (A:List AcI) (r:RsI):a9 (A.map AcI.d) r.d=(fdA A (db r.j)).isSome:=by
 unfold a9 fdA;rw[List.any_map,Bool.eq_iff_iff,List.any_eq_true,Option.isSome_iff_exists]
 constructor
 ·rintro ⟨x,hx,hq⟩
  cases h:A.find? fun x=>x.j==db r.j with
  | some y=>exact⟨y,rfl⟩
  | none=>exact absurd hq (by have:=List.find?_eq_none.1 h x hx;exact this)
 ·rintro ⟨y,hy⟩
  exact⟨y,List.mem_of_find?_eq_some hy,List.find?_some (p:=fun x:AcI=>x.j==db r.j) hy⟩
theorem jm (c:CoI) (w:World) (hs:c.sub w) (hf:CoFitD c.d):Calls prog 82 #[c.v] w (Ret w (.bool (aB af c.d))):=by
 have zA:=hf.zA';have zR:=hf.zR'
 have CA:=h_ fun (x:AcI) (hx:x∈c.A) (W:World) (hb:Bl w W)=>dN x W (acY.subRet _ _ _ (hs.1.2.2 x hx) hb) (hf.ac' x hx).small (hf.ac' x hx).j
 have CR:=h_ fun (x:RsI) (hx:x∈c.R) (W:World) (hb:Bl w W)=>iz x W (rsY.subRet _ _ _ (hs.2.2.2 x hx) hb) (hf.rs' x hx)
 have CF:=fun (s:ByteArray) (W:World) (hb:Bl w W)=>jw c s W (hs.1.ret hb) (by omega)
 have JA:=h_ fun (x:AcI) (hx:x∈c.A)=>(hf.ac' x hx).j
 have JR:=h_ fun (x:RsI) (hx:x∈c.R)=>(hf.rs' x hx).j
 obtain⟨A,⟨a1,b1⟩,R,⟨r1,s1⟩,m1⟩:=c;have hA:IsL acY (.slice a1 A.length b1) A w:=hs.1;have hR:IsL rsY (.slice r1 R.length s1) R w:=hs.2;have zA:A.length≤1000:=zA;have zR:R.length≤1000:=zR;have CF:∀(s:ByteArray) (W:World),Bl w W→Calls prog 12 #[.agg #[.slice a1 A.length b1,.slice r1 R.length s1,.int .i64 m1],.string s] W (Ret W (.tuple #[((fdA A s.data.toList).getD uh).v,.bool (fdA A s.data.toList).isSome])):=CF
 show Calls _ _ #[.agg #[.slice a1 A.length b1,.slice r1 R.length s1,.int .i64 m1]] w (Ret w (.bool (dd af (A.map AcI.d) (R.map RsI.d) m1)))
 obtain⟨O,hO⟩:=e_ (dd af (A.map AcI.d) (R.map RsI.d) m1);rw[hO]
 have hE:=fun h1 h2 h3 h4=>hO.symm.trans (qF (p:=af) (A:=A.map AcI.d) (R:=R.map RsI.d) (m:=m1) h1 h2 h3 h4)
 rw[ww,ww] at hE
 have AH:=h_ fun h=>hO.symm.trans (uG (p:=af) (A:=A.map AcI.d) (R:=R.map RsI.d) (m:=m1) h)
 have Am:=h_ fun h=>hO.symm.trans (tO (p:=af) (A:=A.map AcI.d) (R:=R.map RsI.d) (m:=m1) h)
 have AI:=h_ fun h=>hO.symm.trans (ux (p:=af) (A:=A.map AcI.d) (R:=R.map RsI.d) (m:=m1) h)
 have An:=h_ fun h=>hO.symm.trans (sD (p:=af) (A:=A.map AcI.d) (R:=R.map RsI.d) (m:=m1) h)
 obtain⟨xx,zz⟩:=e_ A.length;obtain⟨xy,zB⟩:=e_ R.length;rw[zz] at hA hE zA CF ⊢;rw[zB] at hR hE zR CF ⊢;have HE:=h_ hE;have HA:=h_ hA;have HR:=h_ hR;have ze:=h_ zz;have zh:=h_ zB;have CF:=h_ CF;clear hs hf hA hR hO hE zz zB;obtain⟨W0,hW,y0,bs⟩:=Sx.start1 w [.slice a1 xx b1,.slice r1 xy s1,.int .i64 m1] 25;have HW:=h_ hW;clear hW;have q:=bs.q;go_enter func82,ntmps82;go_wp2_with fail;rw[HW.out];go_loopw [3] (fun i wx=>∃k:Nat,i=.int .i64 k∧k≤xx∧((A.map AcI.d).take k).all eU=true∧chG acN ((A.map AcI.d).take k)=true∧Sx w [(w.heap.size,[.slice a1 xx b1,.slice r1 xy s1,.int .i64 m1])] wx) (fun i _=>xx-(intOf i).toNat)
 case atStart=>exact⟨0,rfl,wB _,rfl,rfl,bs⟩
 case round=>
  clear bs q;obtain⟨k,rfl,hk,hT,hC,bs⟩:=hrel;have q:=bs.q
  by_cases hlt:k<xx
  ·have wl : (k : Int) < (xx : Int) := by omega
   have xH:k<A.length:=(by rw[ze.out];exact hlt);obtain⟨x,hx⟩:=e_ (A[k]);have yo:A[k]?=some x:=(by rw[wu xH,hx]);have yp:x∈A:=(by rw[←hx];exact wy xH);have xU:(A.map AcI.d)[k]?=some x.d:=(by rw[wv,yo];rfl);obtain⟨b,off,cp,xR,-,hc⟩:=HA.out.cells yo;rw[ze.out] at xR;simp only[wC,true_and] at xR;obtain⟨rfl,rfl⟩:=xR;have yC:=JA.out x yp;have CX:=CA.out x yp
   have xS:=h_ fun h=>lF (q:=eU) xU hT h
   have xT:=h_ fun h=>AH.out (fp (q:=eU) xU h)
   have yF:=h_ fun h=>Am.out (oc (nm:=acN) (k:=k+1) h)
   have zC:Hid (0<k→∃y:AcI,y.j.length≤10000∧chG acN ((A.map AcI.d).take (k+1))=au y.j x.j∧∀W',Bl w W'→W'.cell? ⟨b,off+(k-1)*3,none⟩=some (.string ⟨y.j.toArray⟩)):=h_ fun h0=>by
    have yd:k-1<A.length:=(by omega);obtain⟨y,hy⟩:=e_ (A[k-1]);have yH:A[k-1]?=some y:=(by rw[wu yd,hy]);have yI:(A.map AcI.d)[k-1]?=some y.d:=(by rw[wv,yH];rfl);refine⟨y,JA.out y (by rw[←hy];exact wy yd),?_,fun W' hb=>?_⟩
    ·obtain⟨m,rfl⟩:∃m,k=m+1:=⟨k-1,by omega⟩
     exact oz (nm:=acN) yI xU hC
    ·obtain⟨b',Ao,AJ,yq,-,zD⟩:=HA.out.cells yH
     rw[ze.out] at yq;simp only[wC,true_and,wh,wE,and_true] at yq;obtain⟨⟨rfl,rfl⟩,rfl⟩:=yq;exact zD W' hb 0 _ rfl
   have zE:Hid (k=0→chG acN ((A.map AcI.d).take (k+1))=true):=h_ fun h=>by subst h;exact oF xU
   obtain⟨G,hG⟩:=e_ (eU x.d);rw[hG] at CX;have HQ:=h_ hG;clear hG;obtain⟨xj,yR,⟨xa,xc⟩,xM⟩:=x;obtain⟨xl,xZ⟩:=e_ yR.length;obtain⟨jb,xr⟩:=e_ (ByteArray.mk xj.toArray);have xV:∀W,Bl w W→Calls prog 100 #[.agg #[.string jb,.slice xa xl xc,.int .i64 xM]] W (Ret W (.bool G)):=(by rw[←xr,←xZ];exact CX);replace xV:=h_ xV;have yJ:jb.size≤10000:=(by rw[←xr,cY];exact yC);have zF:=h_ yJ
   have zG:Hid (jb.data.toList=xj):=h_ (by rw[←xr])
   have xo:Hid (∀W',Bl w W'→W'.cell? ⟨b,off+k*3,none⟩=some (.string jb)):=h_ (fun W' hb=>by(try rw[←xr]);(try rw[←xZ]);exact hc W' hb 0 _ rfl)
   have xD:Hid (∀W',Bl w W'→W'.cell? ⟨b,off+k*3+1,none⟩=some (.slice xa xl xc)):=h_ (fun W' hb=>by(try rw[←xr]);(try rw[←xZ]);exact hc W' hb 1 _ rfl)
   have xE:Hid (∀W',Bl w W'→W'.cell? ⟨b,off+k*3+2,none⟩=some (.int .i64 xM)):=h_ (fun W' hb=>by(try rw[←xr]);(try rw[←xZ]);exact hc W' hb 2 _ rfl)
   clear hx yo yp xH xU hc xZ xr hT hC CX yC yJ
   cases G with
   | false=>
    have HB:=h_ (xT.out (HQ.out.trans rfl));have xq:=bs.b3 0;go_upto_region 4 with fail;clear xq;replace bs:=bs.ret (wo (bQ _));replace q:=bs.q
    have xW:wr.drew.heap.size=wr.heap.size:=rfl
    refine wp_region_held_drew (S:=fun w'=>w'.cell? ⟨w.heap.size,0,none⟩=some (.slice (some ⟨b,off,none⟩) xx b1)∧w'.cell? ⟨b,off+k*3,none⟩=some (.string jb)∧w'.cell? ⟨b,off+k*3+1,none⟩=some (.slice xa xl xc)∧w'.cell? ⟨b,off+k*3+2,none⟩=some (.int .i64 xM)) (by kernel_rfl) ⟨bs.at 0 0,xo.out _ q,xD.out _ q,xE.out _ q⟩ (fun hH=>?_);generalize wr.drew=w21 at bs q xW hH ⊢;refine rS [(0,some 14),(1,some 15),(2,some 16),(3,some 17),(4,some 18)] ?_
    iterate 5 refine aS ?_
    refine rE ?_
    refine aC (i:=5) fun K hK=>?_
    go_simp;refine(xV.out w21 q).mono ?_;rintro e xX ⟨rfl,hb⟩;replace bs:=bs.ret hb;replace q:=bs.q;clear hb;go_simp;clear hH;refine hK.out _ _ ⟨bs.at 0 0,xo.out _ q,xD.out _ q,xE.out _ q⟩ (fun hH=>?_);clear hK K;refine rS [(6,some 20),(7,some 21)] ?_
    iterate 2 refine aS ?_
    refine rE ?_;refine rS [(8,some 22),(9,some 23),(10,some 24),(11,some 25),(12,some 26),(13,some 27),(14,some 28),(15,some 29),(16,some 30),(17,some 31),(18,some 32),(19,some 33),(20,some 34),(21,some 35),(22,some 36),(23,some 37),(24,some 38),(25,some 39),(26,some 40)] ?_
    iterate 19 refine aF ?_
    refine rE ?_;refine rS [(27,some 41)] ?_;refine aS ?_;refine rE ?_;refine aD ?_;clear hH;go_wp2_with fail;go_ret;exact⟨by rw[HB.out];first | done | rfl,q⟩
   | true=>
    by_cases hk0:0<k
    ·have gk : (0 : Int) < k := by omega
     have yd:((k:Int)-1)=((k-1:Nat):Int):=(by omega)
     have zH:IntKind.i64.wrap ((k-1:Nat):Int)=((k-1:Nat):Int):=IntWalk.i64_in _ (by omega)
     have zJ:((k-1:Nat):Int)<(xx:Int):=(by omega);have zO:(0:Int)≤((k-1:Nat):Int):=(by omega);obtain⟨y,yK,yL,yM⟩:=zC.out hk0;obtain⟨yb,ye⟩:=e_ (ByteArray.mk y.j.toArray)
     have yt:Hid (∀W',Bl w W'→W'.cell? ⟨b,off+(k-1)*3,none⟩=some (.string yb)):=h_ (by rw[←ye];exact yM)
     have CL:=fun (W:World)=>fu yb jb W (by rw[←ye,cY];exact yK) zF.out
     have ey:yb.data.toList=y.j:=(by rw[←ye]);rw[ey,zG.out] at CL;obtain⟨LE,yu⟩:=e_ (au y.j xj);rw[yu] at CL;have xL:=h_ (yL.trans yu);have zP:=h_ CL;clear yK yL yM ye CL ey yu;have xq:=bs.b3 0;go_upto_region 4 with fail;clear xq;replace bs:=bs.ret (wo (bQ _));replace q:=bs.q
     have xW:wr.drew.heap.size=wr.heap.size:=rfl
     refine wp_region_held_drew (S:=fun w'=>w'.cell? ⟨w.heap.size,0,none⟩=some (.slice (some ⟨b,off,none⟩) xx b1)∧w'.cell? ⟨b,off+k*3,none⟩=some (.string jb)∧w'.cell? ⟨b,off+k*3+1,none⟩=some (.slice xa xl xc)∧w'.cell? ⟨b,off+k*3+2,none⟩=some (.int .i64 xM)∧w'.cell? ⟨b,off+(k-1)*3,none⟩=some (.string yb)) (by kernel_rfl) ⟨bs.at 0 0,xo.out _ q,xD.out _ q,xE.out _ q,yt.out _ q⟩ (fun hH=>?_);generalize wr.drew=w21 at bs q xW hH ⊢;refine rS [(0,some 14),(1,some 15),(2,some 16),(3,some 17),(4,some 18)] ?_
     iterate 5 refine aS ?_
     refine rE ?_
     refine aC (i:=5) fun K hK=>?_
     go_simp;refine(xV.out w21 q).mono ?_;rintro e xX ⟨rfl,hb⟩;replace bs:=bs.ret hb;replace q:=bs.q;clear hb;go_simp;clear hH;refine hK.out _ _ ⟨bs.at 0 0,xo.out _ q,xD.out _ q,xE.out _ q,yt.out _ q⟩ (fun hH=>?_);clear hK K;refine rS [(6,some 20),(7,some 21),(8,some 22),(9,some 23),(10,some 24),(11,some 25),(12,some 26),(13,some 27),(14,some 28),(15,some 29),(16,some 30),(17,some 31),(18,some 32),(19,some 33),(20,some 34),(21,some 35),(22,some 36),(23,some 37)] ?_
     iterate 18 refine aS ?_
     refine rE ?_
     refine aC (i:=24) fun K hK=>?_
     go_simp;refine(zP.out xX).mono ?_;rintro e yv ⟨rfl,hb⟩;replace bs:=bs.ret hb;replace q:=bs.q;clear hb;go_simp;clear hH;refine hK.out _ _ ⟨bs.at 0 0,xo.out _ q,xD.out _ q,xE.out _ q,yt.out _ q⟩ (fun hH=>?_);clear hK K;refine rS [(25,some 39),(26,some 40),(27,some 41)] ?_
     iterate 3 refine aS ?_
     refine rE ?_;refine aD ?_;clear hH
     (try clear yd zH zJ zO)
     cases LE with
     | false=>
      have HB:=h_ (yF.out xL.out);go_wp2_with fail;go_ret;exact⟨by rw[HB.out];first | done | rfl,q⟩
     | true=>
      go_wp2_with fail;go_roundw
      case rel=>exact⟨k+1,by go_num,by omega,xS.out HQ.out,xL.out,bs⟩
      case measure=>simp[intOf];omega
    ·have gk : ¬ (0 : Int) < k := by omega
     have xL:=h_ (zE.out (by omega));have xq:=bs.b3 0;go_upto_region 4 with fail;clear xq;replace bs:=bs.ret (wo (bQ _));replace q:=bs.q
     have xW:wr.drew.heap.size=wr.heap.size:=rfl
     refine wp_region_held_drew (S:=fun w'=>w'.cell? ⟨w.heap.size,0,none⟩=some (.slice (some ⟨b,off,none⟩) xx b1)∧w'.cell? ⟨b,off+k*3,none⟩=some (.string jb)∧w'.cell? ⟨b,off+k*3+1,none⟩=some (.slice xa xl xc)∧w'.cell? ⟨b,off+k*3+2,none⟩=some (.int .i64 xM)) (by kernel_rfl) ⟨bs.at 0 0,xo.out _ q,xD.out _ q,xE.out _ q⟩ (fun hH=>?_);generalize wr.drew=w21 at bs q xW hH ⊢;refine rS [(0,some 14),(1,some 15),(2,some 16),(3,some 17),(4,some 18)] ?_
     iterate 5 refine aS ?_
     refine rE ?_
     refine aC (i:=5) fun K hK=>?_
     go_simp;refine(xV.out w21 q).mono ?_;rintro e xX ⟨rfl,hb⟩;replace bs:=bs.ret hb;replace q:=bs.q;clear hb;go_simp;clear hH;refine hK.out _ _ ⟨bs.at 0 0,xo.out _ q,xD.out _ q,xE.out _ q⟩ (fun hH=>?_);clear hK K;refine rS [(6,some 20),(7,some 21),(8,some 22),(9,some 23),(10,some 24)] ?_
     iterate 5 refine aS ?_
     refine rE ?_;refine rS [(11,some 25),(12,some 26),(13,some 27),(14,some 28),(15,some 29),(16,some 30),(17,some 31),(18,some 32),(19,some 33),(20,some 34),(21,some 35),(22,some 36),(23,some 37),(24,some 38),(25,some 39)] ?_
     iterate 15 refine aF ?_
     refine rE ?_;refine rS [(26,some 40),(27,some 41)] ?_
     iterate 2 refine aS ?_
     refine rE ?_;refine aD ?_;clear hH;go_wp2_with fail;go_roundw
     case rel=>exact⟨k+1,by go_num,by omega,xS.out HQ.out,xL.out,bs⟩
     case measure=>simp[intOf];omega
  ·have wl : ¬ (k : Int) < (xx : Int) := by omega
   have e9:(A.map AcI.d).take k=(A.map AcI.d):=wD (by rw[ww,ze.out];omega)
   rw[e9] at hT hC;have AK:=h_ hT;have AM:=h_ hC;clear hT hC e9 hk;have xq:=bs.b3 0;go_wp2_with fail;clear xq;go_loopw [4] (fun i wx=>∃k:Nat,i=.int .i64 k∧k≤xy∧((R.map RsI.d).take k).all (fun r=>dJ af r&&a9 (A.map AcI.d) r)=true∧chG reN ((R.map RsI.d).take k)=true∧Sx w [(w.heap.size,[.slice a1 xx b1,.slice r1 xy s1,.int .i64 m1])] wx) (fun i _=>xy-(intOf i).toNat)
   case atStart=>exact⟨0,rfl,wB _,rfl,rfl,bs⟩
   case round=>
    clear bs q;obtain⟨k,rfl,hk,hT,hC,bs⟩:=hrel;have q:=bs.q
    by_cases hlt:k<xy
    ·have wl : (k : Int) < (xy : Int) := by omega
     have xH:k<R.length:=(by rw[zh.out];exact hlt);obtain⟨x,hx⟩:=e_ (R[k]);have yo:R[k]?=some x:=(by rw[wu xH,hx]);have yp:x∈R:=(by rw[←hx];exact wy xH);have xU:(R.map RsI.d)[k]?=some x.d:=(by rw[wv,yo];rfl);obtain⟨b,off,cp,xR,-,hc⟩:=HR.out.cells yo;rw[zh.out] at xR;simp only[wC,true_and] at xR;obtain⟨rfl,rfl⟩:=xR;have yC:=JR.out x yp;have CX:=CR.out x yp
     have xS:=h_ fun h=>lF (q:=(fun r=>dJ af r&&a9 (A.map AcI.d) r)) xU hT h
     have xT:=h_ fun h=>AI.out (fp (q:=(fun r=>dJ af r&&a9 (A.map AcI.d) r)) xU h)
     have yF:=h_ fun h=>An.out (oc (nm:=reN) (k:=k+1) h)
     have zC:Hid (0<k→∃y:RsI,y.j.length≤10000∧chG reN ((R.map RsI.d).take (k+1))=au y.j x.j∧∀W',Bl w W'→W'.cell? ⟨b,off+(k-1)*6,none⟩=some (.string ⟨y.j.toArray⟩)):=h_ fun h0=>by
      have yd:k-1<R.length:=(by omega);obtain⟨y,hy⟩:=e_ (R[k-1]);have yH:R[k-1]?=some y:=(by rw[wu yd,hy]);have yI:(R.map RsI.d)[k-1]?=some y.d:=(by rw[wv,yH];rfl);refine⟨y,JR.out y (by rw[←hy];exact wy yd),?_,fun W' hb=>?_⟩
      ·obtain⟨m,rfl⟩:∃m,k=m+1:=⟨k-1,by omega⟩
       exact oz (nm:=reN) yI xU hC
      ·obtain⟨b',Ao,AJ,yq,-,zD⟩:=HR.out.cells yH
       rw[zh.out] at yq;simp only[wC,true_and,wh,wE,and_true] at yq;obtain⟨⟨rfl,rfl⟩,rfl⟩:=yq;exact zD W' hb 0 _ rfl
     have zE:Hid (k=0→chG reN ((R.map RsI.d).take (k+1))=true):=h_ fun h=>by subst h;exact oF xU
     obtain⟨G,hG⟩:=e_ (dJ af x.d);rw[hG] at CX;have Ap:=rG A x;obtain⟨W1,zQ⟩:=e_ (a9 (A.map AcI.d) x.d)
     have HQ:Hid ((dJ af x.d&&a9 (A.map AcI.d) x.d)=(G&&W1)):=h_ (by rw[hG,zQ])
     have CB:=fun (W:World)=>qS ⟨x.j.toArray⟩ W (by rw[cY];exact yC)
     have e9:(⟨x.j.toArray⟩:ByteArray).data.toList=x.j:=(by simp);rw[e9] at CB;obtain⟨bj,zT⟩:=e_ (jB (db x.j));have yN:=CF.out bj;have e8:bj.data.toList=db x.j:=(by rw[←zT,ah]);rw[e8,←Ap,zQ] at yN;rw[zT] at CB;obtain⟨f0,Aq⟩:=e_ ((fdA A (db x.j)).getD uh);rw[Aq] at yN;obtain⟨fj,fit,⟨fa,fc⟩,fv⟩:=f0;obtain⟨fl,Ar⟩:=e_ fit.length;obtain⟨fb,As⟩:=e_ (ByteArray.mk fj.toArray);simp only[AcI.v,AcI.iv,Ar,As] at yN;have yf:=h_ yN;have yD:=h_ CB;clear yN CB hG zQ Ap e9 e8 zT Aq Ar As;obtain⟨xj,xC,xt,xl,⟨xI,xJ⟩,xw,xs,⟨xO,xK⟩⟩:=x;obtain⟨ll,yi⟩:=e_ xl.length;obtain⟨sl,yj⟩:=e_ xs.length;obtain⟨jb,xr⟩:=e_ (ByteArray.mk xj.toArray);have xV:∀W,Bl w W→Calls prog 98 #[.agg #[.string jb,.bool xC,.int .i64 xt,.slice xI ll xJ,.bool xw,.slice xO sl xK]] W (Ret W (.bool G)):=(by rw[←xr,←yi,←yj];exact CX);replace xV:=h_ xV;have zU:=yD.out;rw[show ByteArray.mk (RsI.j ⟨xj,xC,xt,xl,(xI,xJ),xw,xs,(xO,xK)⟩).toArray=jb from xr] at zU;replace yD:=h_ zU;clear zU;have yJ:jb.size≤10000:=(by rw[←xr,cY];exact yC);have zF:=h_ yJ
     have zG:Hid (jb.data.toList=xj):=h_ (by rw[←xr])
     have xo:Hid (∀W',Bl w W'→W'.cell? ⟨b,off+k*6,none⟩=some (.string jb)):=h_ (fun W' hb=>by(try rw[←xr]);(try rw[←yi]);(try rw[←yj]);exact hc W' hb 0 _ rfl)
     have xD:Hid (∀W',Bl w W'→W'.cell? ⟨b,off+k*6+1,none⟩=some (.bool xC)):=h_ (fun W' hb=>by(try rw[←xr]);(try rw[←yi]);(try rw[←yj]);exact hc W' hb 1 _ rfl)
     have xE:Hid (∀W',Bl w W'→W'.cell? ⟨b,off+k*6+2,none⟩=some (.int .i64 xt)):=h_ (fun W' hb=>by(try rw[←xr]);(try rw[←yi]);(try rw[←yj]);exact hc W' hb 2 _ rfl)
     have yw:Hid (∀W',Bl w W'→W'.cell? ⟨b,off+k*6+3,none⟩=some (.slice xI ll xJ)):=h_ (fun W' hb=>by(try rw[←xr]);(try rw[←yi]);(try rw[←yj]);exact hc W' hb 3 _ rfl)
     have yx:Hid (∀W',Bl w W'→W'.cell? ⟨b,off+k*6+4,none⟩=some (.bool xw)):=h_ (fun W' hb=>by(try rw[←xr]);(try rw[←yi]);(try rw[←yj]);exact hc W' hb 4 _ rfl)
     have yy:Hid (∀W',Bl w W'→W'.cell? ⟨b,off+k*6+5,none⟩=some (.slice xO sl xK)):=h_ (fun W' hb=>by(try rw[←xr]);(try rw[←yi]);(try rw[←yj]);exact hc W' hb 5 _ rfl)
     clear hx yo yp xH xU hc yi yj xr hT hC CX yC yJ
     cases G with
     | false=>
      have HB:=h_ (xT.out (HQ.out.trans rfl));have xq:=bs.b3 0;go_upto_region 9 with fail;clear xq;replace bs:=bs.ret (wo (bQ _));replace q:=bs.q
      have xW:wr.drew.heap.size=wr.heap.size:=rfl
      refine wp_region_held_drew (S:=fun w'=>w'.cell? ⟨w.heap.size,1,none⟩=some (.slice (some ⟨b,off,none⟩) xy s1)∧w'.cell? ⟨b,off+k*6,none⟩=some (.string jb)∧w'.cell? ⟨b,off+k*6+1,none⟩=some (.bool xC)∧w'.cell? ⟨b,off+k*6+2,none⟩=some (.int .i64 xt)∧w'.cell? ⟨b,off+k*6+3,none⟩=some (.slice xI ll xJ)∧w'.cell? ⟨b,off+k*6+4,none⟩=some (.bool xw)∧w'.cell? ⟨b,off+k*6+5,none⟩=some (.slice xO sl xK)) (by kernel_rfl) ⟨bs.at 0 1,xo.out _ q,xD.out _ q,xE.out _ q,yw.out _ q,yx.out _ q,yy.out _ q⟩ (fun hH=>?_);generalize wr.drew=w21 at bs q xW hH ⊢;refine rS [(0,some 49),(1,some 50),(2,some 51),(3,some 52),(4,some 53)] ?_
      iterate 5 refine aS ?_
      refine rE ?_
      refine aC (i:=5) fun K hK=>?_
      go_simp;refine(xV.out w21 q).mono ?_;rintro e xX ⟨rfl,hb⟩;replace bs:=bs.ret hb;replace q:=bs.q;clear hb;go_simp;clear hH;refine hK.out _ _ ⟨bs.at 0 1,xo.out _ q,xD.out _ q,xE.out _ q,yw.out _ q,yx.out _ q,yy.out _ q⟩ (fun hH=>?_);clear hK K;refine rS [(6,some 55),(7,some 56)] ?_
      iterate 2 refine aS ?_
      refine rE ?_;refine rS [(8,some 57),(9,some 58),(10,some 59),(11,some 60),(12,some 61),(13,some 62),(14,some 63),(15,some 64),(16,some 65),(17,some 66),(18,some 67),(19,some 68),(20,some 69),(21,some 70),(22,some 71),(23,some 72),(24,some 73),(25,some 74),(26,some 75)] ?_
      iterate 19 refine aF ?_
      refine rE ?_;refine rS [(27,some 76)] ?_;refine aS ?_;refine rE ?_;refine aD ?_;clear hH;go_wp2_with fail;go_ret;exact⟨by rw[HB.out];first | done | rfl,q⟩
     | true=>
      by_cases hk0:0<k
      ·have gk : (0 : Int) < k := by omega
       have yd:((k:Int)-1)=((k-1:Nat):Int):=(by omega)
       have zH:IntKind.i64.wrap ((k-1:Nat):Int)=((k-1:Nat):Int):=IntWalk.i64_in _ (by omega)
       have zJ:((k-1:Nat):Int)<(xy:Int):=(by omega);have zO:(0:Int)≤((k-1:Nat):Int):=(by omega);obtain⟨y,yK,yL,yM⟩:=zC.out hk0;obtain⟨yb,ye⟩:=e_ (ByteArray.mk y.j.toArray)
       have yt:Hid (∀W',Bl w W'→W'.cell? ⟨b,off+(k-1)*6,none⟩=some (.string yb)):=h_ (by rw[←ye];exact yM)
       have CL:=fun (W:World)=>fu yb jb W (by rw[←ye,cY];exact yK) zF.out
       have ey:yb.data.toList=y.j:=(by rw[←ye]);rw[ey,zG.out] at CL;obtain⟨LE,yu⟩:=e_ (au y.j xj);rw[yu] at CL;have xL:=h_ (yL.trans yu);have zP:=h_ CL;clear yK yL yM ye CL ey yu;have xq:=bs.b3 0;go_upto_region 9 with fail;clear xq;replace bs:=bs.ret (wo (bQ _));replace q:=bs.q
       have xW:wr.drew.heap.size=wr.heap.size:=rfl
       refine wp_region_held_drew (S:=fun w'=>w'.cell? ⟨w.heap.size,1,none⟩=some (.slice (some ⟨b,off,none⟩) xy s1)∧w'.cell? ⟨b,off+k*6,none⟩=some (.string jb)∧w'.cell? ⟨b,off+k*6+1,none⟩=some (.bool xC)∧w'.cell? ⟨b,off+k*6+2,none⟩=some (.int .i64 xt)∧w'.cell? ⟨b,off+k*6+3,none⟩=some (.slice xI ll xJ)∧w'.cell? ⟨b,off+k*6+4,none⟩=some (.bool xw)∧w'.cell? ⟨b,off+k*6+5,none⟩=some (.slice xO sl xK)∧w'.cell? ⟨b,off+(k-1)*6,none⟩=some (.string yb)) (by kernel_rfl) ⟨bs.at 0 1,xo.out _ q,xD.out _ q,xE.out _ q,yw.out _ q,yx.out _ q,yy.out _ q,yt.out _ q⟩ (fun hH=>?_);generalize wr.drew=w21 at bs q xW hH ⊢;refine rS [(0,some 49),(1,some 50),(2,some 51),(3,some 52),(4,some 53)] ?_
       iterate 5 refine aS ?_
       refine rE ?_
       refine aC (i:=5) fun K hK=>?_
       go_simp;refine(xV.out w21 q).mono ?_;rintro e xX ⟨rfl,hb⟩;replace bs:=bs.ret hb;replace q:=bs.q;clear hb;go_simp;clear hH;refine hK.out _ _ ⟨bs.at 0 1,xo.out _ q,xD.out _ q,xE.out _ q,yw.out _ q,yx.out _ q,yy.out _ q,yt.out _ q⟩ (fun hH=>?_);clear hK K;refine rS [(6,some 55),(7,some 56),(8,some 57),(9,some 58),(10,some 59),(11,some 60),(12,some 61),(13,some 62),(14,some 63),(15,some 64),(16,some 65),(17,some 66),(18,some 67),(19,some 68),(20,some 69),(21,some 70),(22,some 71),(23,some 72)] ?_
       iterate 18 refine aS ?_
       refine rE ?_
       refine aC (i:=24) fun K hK=>?_
       go_simp;refine(zP.out xX).mono ?_;rintro e yv ⟨rfl,hb⟩;replace bs:=bs.ret hb;replace q:=bs.q;clear hb;go_simp;clear hH;refine hK.out _ _ ⟨bs.at 0 1,xo.out _ q,xD.out _ q,xE.out _ q,yw.out _ q,yx.out _ q,yy.out _ q,yt.out _ q⟩ (fun hH=>?_);clear hK K;refine rS [(25,some 74),(26,some 75),(27,some 76)] ?_
       iterate 3 refine aS ?_
       refine rE ?_;refine aD ?_;clear hH
       (try clear yd zH zJ zO)
       cases LE with
       | false=>
        have HB:=h_ (yF.out xL.out);go_wp2_with fail;go_ret;exact⟨by rw[HB.out];first | done | rfl,q⟩
       | true=>
        have xq:=bs.b3 0;go_upto_region 11 with fail;clear xq;replace bs:=bs.ret (wo (bQ _));replace q:=bs.q
        have Au:yv.drew.heap.size=yv.heap.size:=rfl
        refine wp_region_held_drew (S:=fun w'=>w'.cell? ⟨w.heap.size,0,none⟩=some (.slice a1 xx b1)∧w'.cell? ⟨w.heap.size,1,none⟩=some (.slice (some ⟨b,off,none⟩) xy s1)∧w'.cell? ⟨w.heap.size,2,none⟩=some (.int .i64 m1)∧w'.cell? ⟨b,off+k*6,none⟩=some (.string jb)) (by kernel_rfl) ⟨bs.at 0 0,bs.at 0 1,bs.at 0 2,xo.out _ q⟩ (fun hH=>?_);generalize yv.drew=w24 at bs q Au hH ⊢;refine rS [(0,some 78),(1,some 79),(2,some 80),(3,some 81),(4,some 82),(5,some 83),(6,some 84)] ?_
        iterate 7 refine aS ?_
        refine rE ?_;refine wpAnyH_ready (rs:=[7,12]) (by kernel_rfl) (by simp) ?_;refine az (by kernel_rfl) (fun o ho K hK=>?_) ?_
        ·simp only[wq,ws,wt,wh] at ho
         subst ho;go_simp;refine(yD.out w24).mono ?_;rintro e xY ⟨rfl,hb⟩;replace bs:=bs.ret hb;replace q:=bs.q;clear hb;go_simp;clear hH;refine hK.out _ _ ⟨bs.at 0 0,bs.at 0 1,bs.at 0 2,xo.out _ q⟩ (fun hH=>?_);clear hK K;refine wpAnyH_ready (rs:=[8,12]) (by kernel_rfl) (by simp) ?_;refine az (by kernel_rfl) (fun o ho K hK=>?_) ?_
         ·simp only[wq,ws,wt,wh] at ho
          subst ho;go_simp;refine(yf.out xY q).mono ?_;rintro e yk ⟨rfl,hb⟩;replace bs:=bs.ret hb;replace q:=bs.q;clear hb;go_simp;clear hH;refine hK.out _ _ ⟨bs.at 0 0,bs.at 0 1,bs.at 0 2,xo.out _ q⟩ (fun hH=>?_);clear hK K;refine rS [(9,some 77),(10,some 87),(11,some 88)] ?_
          iterate 3 refine aS ?_
          refine rE ?_
          refine aC (i:=12) fun K hK=>?_
          go_simp;obtain⟨yO,xB,zV,al,bs⟩:=bs.alloc (yk.heap.size) rfl [.string ⟨#[]⟩,.slice none 0 0,.int .i64 0] 33;clear al;replace q:=bs.q;rw[xB];clear hH;refine hK.out _ _ ⟨bs.at 0 0,bs.at 0 1,bs.at 0 2,xo.out _ q⟩ (fun hH=>?_);clear hK K
          refine aC (i:=13) fun K hK=>?_
          have xz:=bs.b3 1;have xA:=bs.g3 1;go_simp;clear xz xA;obtain⟨Av,xN,Aw,bs⟩:=bs.sets 1 0 [.string fb,.slice fa fl fc,.int .i64 fv] rfl (wz rfl);replace q:=bs.q;simp only[wA,Nat.reduceAdd] at xN;rw[xN];clear hH;refine hK.out _ _ ⟨bs.at 0 0,bs.at 0 1,bs.at 0 2,xo.out _ q⟩ (fun hH=>?_);clear hK K;refine rS [(14,some 6)] ?_;refine aS ?_;refine rE ?_;refine aD ?_;clear hH
          cases W1 with
          | false=>
           have HB:=h_ (xT.out (HQ.out.trans (by first | rfl | (cases G <;> rfl))))
           go_wp2_with fail;go_ret;exact⟨by rw[HB.out];first | done | rfl,q⟩
          | true=>
           go_wp2_with fail;go_roundw
           case rel=>exact⟨k+1,by go_num,by omega,xS.out (HQ.out.trans rfl),xL.out,bs.some 1⟩
           case measure=>simp[intOf];omega
         refine az (by kernel_rfl) (fun o ho K hK=>?_) ?_
         ·simp only[wq,ws,wt,wh] at ho
          subst ho;go_simp;obtain⟨yk,yP,AN,al,bs⟩:=bs.alloc (xY.heap.size) rfl [.string ⟨#[]⟩,.slice none 0 0,.int .i64 0] 33;clear al;replace q:=bs.q;rw[yP];clear hH;refine hK.out _ _ ⟨bs.at 0 0,bs.at 0 1,bs.at 0 2,xo.out _ q⟩ (fun hH=>?_);clear hK K
          refine aC (i:=8) fun K hK=>?_
          go_simp;refine(yf.out yk q).mono ?_;rintro e yO ⟨rfl,hb⟩;replace bs:=bs.ret hb;replace q:=bs.q;clear hb;go_simp;clear hH;refine hK.out _ _ ⟨bs.at 0 0,bs.at 0 1,bs.at 0 2,xo.out _ q⟩ (fun hH=>?_);clear hK K;refine rS [(9,some 77),(10,some 87),(11,some 88)] ?_
          iterate 3 refine aS ?_
          refine rE ?_
          refine aC (i:=13) fun K hK=>?_
          have xz:=bs.b3 1;have xA:=bs.g3 1;go_simp;clear xz xA;obtain⟨Av,xN,Aw,bs⟩:=bs.sets 1 0 [.string fb,.slice fa fl fc,.int .i64 fv] rfl (wz rfl);replace q:=bs.q;simp only[wA,Nat.reduceAdd] at xN;rw[xN];clear hH;refine hK.out _ _ ⟨bs.at 0 0,bs.at 0 1,bs.at 0 2,xo.out _ q⟩ (fun hH=>?_);clear hK K;refine rS [(14,some 6)] ?_;refine aS ?_;refine rE ?_;refine aD ?_;clear hH
          cases W1 with
          | false=>
           have HB:=h_ (xT.out (HQ.out.trans (by first | rfl | (cases G <;> rfl))))
           go_wp2_with fail;go_ret;exact⟨by rw[HB.out];first | done | rfl,q⟩
          | true=>
           go_wp2_with fail;go_roundw
           case rel=>exact⟨k+1,by go_num,by omega,xS.out (HQ.out.trans rfl),xL.out,bs.some 1⟩
           case measure=>simp[intOf];omega
         exact AllReadyH.nil
        refine az (by kernel_rfl) (fun o ho K hK=>?_) ?_
        ·simp only[wq,ws,wt,wh] at ho
         subst ho;go_simp;obtain⟨xY,yQ,AO,al,bs⟩:=bs.alloc (yv.heap.size) (by omega) [.string ⟨#[]⟩,.slice none 0 0,.int .i64 0] 33;clear al;replace q:=bs.q;rw[yQ];clear hH;refine hK.out _ _ ⟨bs.at 0 0,bs.at 0 1,bs.at 0 2,xo.out _ q⟩ (fun hH=>?_);clear hK K
         refine aC (i:=7) fun K hK=>?_
         go_simp;refine(yD.out xY).mono ?_;rintro e yk ⟨rfl,hb⟩;replace bs:=bs.ret hb;replace q:=bs.q;clear hb;go_simp;clear hH;refine hK.out _ _ ⟨bs.at 0 0,bs.at 0 1,bs.at 0 2,xo.out _ q⟩ (fun hH=>?_);clear hK K
         refine aC (i:=8) fun K hK=>?_
         go_simp;refine(yf.out yk q).mono ?_;rintro e yO ⟨rfl,hb⟩;replace bs:=bs.ret hb;replace q:=bs.q;clear hb;go_simp;clear hH;refine hK.out _ _ ⟨bs.at 0 0,bs.at 0 1,bs.at 0 2,xo.out _ q⟩ (fun hH=>?_);clear hK K;refine rS [(9,some 77),(10,some 87),(11,some 88)] ?_
         iterate 3 refine aS ?_
         refine rE ?_
         refine aC (i:=13) fun K hK=>?_
         have xz:=bs.b3 1;have xA:=bs.g3 1;go_simp;clear xz xA;obtain⟨Av,xN,Aw,bs⟩:=bs.sets 1 0 [.string fb,.slice fa fl fc,.int .i64 fv] rfl (wz rfl);replace q:=bs.q;simp only[wA,Nat.reduceAdd] at xN;rw[xN];clear hH;refine hK.out _ _ ⟨bs.at 0 0,bs.at 0 1,bs.at 0 2,xo.out _ q⟩ (fun hH=>?_);clear hK K;refine rS [(14,some 6)] ?_;refine aS ?_;refine rE ?_;refine aD ?_;clear hH
         cases W1 with
         | false=>
          have HB:=h_ (xT.out (HQ.out.trans (by first | rfl | (cases G <;> rfl))))
          go_wp2_with fail;go_ret;exact⟨by rw[HB.out];first | done | rfl,q⟩
         | true=>
          go_wp2_with fail;go_roundw
          case rel=>exact⟨k+1,by go_num,by omega,xS.out (HQ.out.trans rfl),xL.out,bs.some 1⟩
          case measure=>simp[intOf];omega
        exact AllReadyH.nil
      ·have gk : ¬ (0 : Int) < k := by omega
       have xL:=h_ (zE.out (by omega));have xq:=bs.b3 0;go_upto_region 9 with fail;clear xq;replace bs:=bs.ret (wo (bQ _));replace q:=bs.q
       have xW:wr.drew.heap.size=wr.heap.size:=rfl
       refine wp_region_held_drew (S:=fun w'=>w'.cell? ⟨w.heap.size,1,none⟩=some (.slice (some ⟨b,off,none⟩) xy s1)∧w'.cell? ⟨b,off+k*6,none⟩=some (.string jb)∧w'.cell? ⟨b,off+k*6+1,none⟩=some (.bool xC)∧w'.cell? ⟨b,off+k*6+2,none⟩=some (.int .i64 xt)∧w'.cell? ⟨b,off+k*6+3,none⟩=some (.slice xI ll xJ)∧w'.cell? ⟨b,off+k*6+4,none⟩=some (.bool xw)∧w'.cell? ⟨b,off+k*6+5,none⟩=some (.slice xO sl xK)) (by kernel_rfl) ⟨bs.at 0 1,xo.out _ q,xD.out _ q,xE.out _ q,yw.out _ q,yx.out _ q,yy.out _ q⟩ (fun hH=>?_);generalize wr.drew=w21 at bs q xW hH ⊢;refine rS [(0,some 49),(1,some 50),(2,some 51),(3,some 52),(4,some 53)] ?_
       iterate 5 refine aS ?_
       refine rE ?_
       refine aC (i:=5) fun K hK=>?_
       go_simp;refine(xV.out w21 q).mono ?_;rintro e xX ⟨rfl,hb⟩;replace bs:=bs.ret hb;replace q:=bs.q;clear hb;go_simp;clear hH;refine hK.out _ _ ⟨bs.at 0 1,xo.out _ q,xD.out _ q,xE.out _ q,yw.out _ q,yx.out _ q,yy.out _ q⟩ (fun hH=>?_);clear hK K;refine rS [(6,some 55),(7,some 56),(8,some 57),(9,some 58),(10,some 59)] ?_
       iterate 5 refine aS ?_
       refine rE ?_;refine rS [(11,some 60),(12,some 61),(13,some 62),(14,some 63),(15,some 64),(16,some 65),(17,some 66),(18,some 67),(19,some 68),(20,some 69),(21,some 70),(22,some 71),(23,some 72),(24,some 73),(25,some 74)] ?_
       iterate 15 refine aF ?_
       refine rE ?_;refine rS [(26,some 75),(27,some 76)] ?_
       iterate 2 refine aS ?_
       refine rE ?_;refine aD ?_;clear hH;have xq:=bs.b3 0;go_upto_region 11 with fail;clear xq;replace bs:=bs.ret (wo (bQ _));replace q:=bs.q
       have AQ:xX.drew.heap.size=xX.heap.size:=rfl
       refine wp_region_held_drew (S:=fun w'=>w'.cell? ⟨w.heap.size,0,none⟩=some (.slice a1 xx b1)∧w'.cell? ⟨w.heap.size,1,none⟩=some (.slice (some ⟨b,off,none⟩) xy s1)∧w'.cell? ⟨w.heap.size,2,none⟩=some (.int .i64 m1)∧w'.cell? ⟨b,off+k*6,none⟩=some (.string jb)) (by kernel_rfl) ⟨bs.at 0 0,bs.at 0 1,bs.at 0 2,xo.out _ q⟩ (fun hH=>?_);generalize xX.drew=yv at bs q AQ hH ⊢;refine rS [(0,some 78),(1,some 79),(2,some 80),(3,some 81),(4,some 82),(5,some 83),(6,some 84)] ?_
       iterate 7 refine aS ?_
       refine rE ?_;refine wpAnyH_ready (rs:=[7,12]) (by kernel_rfl) (by simp) ?_;refine az (by kernel_rfl) (fun o ho K hK=>?_) ?_
       ·simp only[wq,ws,wt,wh] at ho
        subst ho;go_simp;refine(yD.out yv).mono ?_;rintro e w24 ⟨rfl,hb⟩;replace bs:=bs.ret hb;replace q:=bs.q;clear hb;go_simp;clear hH;refine hK.out _ _ ⟨bs.at 0 0,bs.at 0 1,bs.at 0 2,xo.out _ q⟩ (fun hH=>?_);clear hK K;refine wpAnyH_ready (rs:=[8,12]) (by kernel_rfl) (by simp) ?_;refine az (by kernel_rfl) (fun o ho K hK=>?_) ?_
        ·simp only[wq,ws,wt,wh] at ho
         subst ho;go_simp;refine(yf.out w24 q).mono ?_;rintro e xY ⟨rfl,hb⟩;replace bs:=bs.ret hb;replace q:=bs.q;clear hb;go_simp;clear hH;refine hK.out _ _ ⟨bs.at 0 0,bs.at 0 1,bs.at 0 2,xo.out _ q⟩ (fun hH=>?_);clear hK K;refine rS [(9,some 77),(10,some 87),(11,some 88)] ?_
         iterate 3 refine aS ?_
         refine rE ?_
         refine aC (i:=12) fun K hK=>?_
         go_simp;obtain⟨yk,yP,AN,al,bs⟩:=bs.alloc (xY.heap.size) rfl [.string ⟨#[]⟩,.slice none 0 0,.int .i64 0] 33;clear al;replace q:=bs.q;rw[yP];clear hH;refine hK.out _ _ ⟨bs.at 0 0,bs.at 0 1,bs.at 0 2,xo.out _ q⟩ (fun hH=>?_);clear hK K
         refine aC (i:=13) fun K hK=>?_
         have xz:=bs.b3 1;have xA:=bs.g3 1;go_simp;clear xz xA;obtain⟨yO,xB,zV,bs⟩:=bs.sets 1 0 [.string fb,.slice fa fl fc,.int .i64 fv] rfl (wz rfl);replace q:=bs.q;simp only[wA,Nat.reduceAdd] at xB;rw[xB];clear hH;refine hK.out _ _ ⟨bs.at 0 0,bs.at 0 1,bs.at 0 2,xo.out _ q⟩ (fun hH=>?_);clear hK K;refine rS [(14,some 6)] ?_;refine aS ?_;refine rE ?_;refine aD ?_;clear hH
         cases W1 with
         | false=>
          have HB:=h_ (xT.out (HQ.out.trans (by first | rfl | (cases G <;> rfl))))
          go_wp2_with fail;go_ret;exact⟨by rw[HB.out];first | done | rfl,q⟩
         | true=>
          go_wp2_with fail;go_roundw
          case rel=>exact⟨k+1,by go_num,by omega,xS.out (HQ.out.trans rfl),xL.out,bs.some 1⟩
          case measure=>simp[intOf];omega
        refine az (by kernel_rfl) (fun o ho K hK=>?_) ?_
        ·simp only[wq,ws,wt,wh] at ho
         subst ho;go_simp;obtain⟨xY,yQ,AO,al,bs⟩:=bs.alloc (w24.heap.size) rfl [.string ⟨#[]⟩,.slice none 0 0,.int .i64 0] 33;clear al;replace q:=bs.q;rw[yQ];clear hH;refine hK.out _ _ ⟨bs.at 0 0,bs.at 0 1,bs.at 0 2,xo.out _ q⟩ (fun hH=>?_);clear hK K
         refine aC (i:=8) fun K hK=>?_
         go_simp;refine(yf.out xY q).mono ?_;rintro e yk ⟨rfl,hb⟩;replace bs:=bs.ret hb;replace q:=bs.q;clear hb;go_simp;clear hH;refine hK.out _ _ ⟨bs.at 0 0,bs.at 0 1,bs.at 0 2,xo.out _ q⟩ (fun hH=>?_);clear hK K;refine rS [(9,some 77),(10,some 87),(11,some 88)] ?_
         iterate 3 refine aS ?_
         refine rE ?_
         refine aC (i:=13) fun K hK=>?_
         have xz:=bs.b3 1;have xA:=bs.g3 1;go_simp;clear xz xA;obtain⟨yO,xB,zV,bs⟩:=bs.sets 1 0 [.string fb,.slice fa fl fc,.int .i64 fv] rfl (wz rfl);replace q:=bs.q;simp only[wA,Nat.reduceAdd] at xB;rw[xB];clear hH;refine hK.out _ _ ⟨bs.at 0 0,bs.at 0 1,bs.at 0 2,xo.out _ q⟩ (fun hH=>?_);clear hK K;refine rS [(14,some 6)] ?_;refine aS ?_;refine rE ?_;refine aD ?_;clear hH
         cases W1 with
         | false=>
          have HB:=h_ (xT.out (HQ.out.trans (by first | rfl | (cases G <;> rfl))))
          go_wp2_with fail;go_ret;exact⟨by rw[HB.out];first | done | rfl,q⟩
         | true=>
          go_wp2_with fail;go_roundw
          case rel=>exact⟨k+1,by go_num,by omega,xS.out (HQ.out.trans rfl),xL.out,bs.some 1⟩
          case measure=>simp[intOf];omega
        exact AllReadyH.nil
       refine az (by kernel_rfl) (fun o ho K hK=>?_) ?_
       ·simp only[wq,ws,wt,wh] at ho
        subst ho;go_simp;obtain⟨w24,Ax,Au,al,bs⟩:=bs.alloc (xX.heap.size) (by omega) [.string ⟨#[]⟩,.slice none 0 0,.int .i64 0] 33;clear al;replace q:=bs.q;rw[Ax];clear hH;refine hK.out _ _ ⟨bs.at 0 0,bs.at 0 1,bs.at 0 2,xo.out _ q⟩ (fun hH=>?_);clear hK K
        refine aC (i:=7) fun K hK=>?_
        go_simp;refine(yD.out w24).mono ?_;rintro e xY ⟨rfl,hb⟩;replace bs:=bs.ret hb;replace q:=bs.q;clear hb;go_simp;clear hH;refine hK.out _ _ ⟨bs.at 0 0,bs.at 0 1,bs.at 0 2,xo.out _ q⟩ (fun hH=>?_);clear hK K
        refine aC (i:=8) fun K hK=>?_
        go_simp;refine(yf.out xY q).mono ?_;rintro e yk ⟨rfl,hb⟩;replace bs:=bs.ret hb;replace q:=bs.q;clear hb;go_simp;clear hH;refine hK.out _ _ ⟨bs.at 0 0,bs.at 0 1,bs.at 0 2,xo.out _ q⟩ (fun hH=>?_);clear hK K;refine rS [(9,some 77),(10,some 87),(11,some 88)] ?_
        iterate 3 refine aS ?_
        refine rE ?_
        refine aC (i:=13) fun K hK=>?_
        have xz:=bs.b3 1;have xA:=bs.g3 1;go_simp;clear xz xA;obtain⟨yO,xB,zV,bs⟩:=bs.sets 1 0 [.string fb,.slice fa fl fc,.int .i64 fv] rfl (wz rfl);replace q:=bs.q;simp only[wA,Nat.reduceAdd] at xB;rw[xB];clear hH;refine hK.out _ _ ⟨bs.at 0 0,bs.at 0 1,bs.at 0 2,xo.out _ q⟩ (fun hH=>?_);clear hK K;refine rS [(14,some 6)] ?_;refine aS ?_;refine rE ?_;refine aD ?_;clear hH
        cases W1 with
        | false=>
         have HB:=h_ (xT.out (HQ.out.trans (by first | rfl | (cases G <;> rfl))))
         go_wp2_with fail;go_ret;exact⟨by rw[HB.out];first | done | rfl,q⟩
        | true=>
         go_wp2_with fail;go_roundw
         case rel=>exact⟨k+1,by go_num,by omega,xS.out (HQ.out.trans rfl),xL.out,bs.some 1⟩
         case measure=>simp[intOf];omega
       exact AllReadyH.nil
    ·have wl : ¬ (k : Int) < (xy : Int) := by omega
     have e9:(R.map RsI.d).take k=(R.map RsI.d):=wD (by rw[ww,zh.out];omega)
     rw[e9] at hT hC;have AS:=h_ hT;have AT:=h_ hC;clear hT hC e9 hk;have HO:=h_ (HE.out AK.out AM.out AS.out AT.out)
     by_cases h1:xx≤8
     rotate_left
     ·have AU : ¬ ((xx : Int) ≤ 8) := by first | exact h1 | omega
      have HB:Hid (O=false):=h_ (by rw[HO.out,decide_eq_false h1];simp)
      clear h1;have xq:=bs.b3 0;go_wp2_with fail;go_ret;exact⟨by rw[HB.out];first | done | rfl,q⟩
     ·have AU : ((xx : Int) ≤ 8) := by first | exact h1 | omega
      by_cases h2:xy≤16
      rotate_left
      ·have AV : ¬ ((xy : Int) ≤ 16) := by first | exact h2 | omega
       have HB:Hid (O=false):=h_ (by rw[HO.out,decide_eq_false h2];simp)
       clear h2;have xq:=bs.b3 0;go_wp2_with fail;go_ret;exact⟨by rw[HB.out];first | done | rfl,q⟩
      ·have AV : ((xy : Int) ≤ 16) := by first | exact h2 | omega
       by_cases h3:0≤m1
       rotate_left
       ·have AW : ¬ 0 ≤ m1 := by first | exact h3 | omega
        have HB:Hid (O=false):=h_ (by rw[HO.out,decide_eq_false h3];simp)
        clear h3;have xq:=bs.b3 0;go_wp2_with fail;go_ret;exact⟨by rw[HB.out];first | done | rfl,q⟩
       ·have AW : 0 ≤ m1 := by first | exact h3 | omega
        by_cases h4:m1<cg
        rotate_left
        ·have AX : ¬ (m1 < 9007199254740991) := by first | exact h4 | omega
         have HB:Hid (O=false):=h_ (by rw[HO.out,decide_eq_false h4];simp)
         clear h4;have xq:=bs.b3 0;go_wp2_with fail;go_ret;exact⟨by rw[HB.out];first | done | rfl,q⟩
        ·have AX : (m1 < 9007199254740991) := by first | exact h4 | omega
         have HB:Hid (O=true):=h_ (by rw[HO.out,decide_eq_true h1,decide_eq_true h2,decide_eq_true h3,decide_eq_true h4];rfl)
         clear h1 h2 h3 h4;have xq:=bs.b3 0;go_wp2_with fail;go_ret;exact⟨by rw[HB.out];first | done | rfl,q⟩
end Go.Proofs.YtjgeiieiinmdnaaGreatDoor
