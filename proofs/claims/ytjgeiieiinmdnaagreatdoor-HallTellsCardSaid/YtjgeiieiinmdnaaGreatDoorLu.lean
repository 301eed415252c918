/- DcM, DcZ, DdA: put together by mergetpl.py. -/
import Derived.Test.YtjgeiieiinmdnaaGreatDoorLq
import Derived.Test.YtjgeiieiinmdnaaGreatDoorKp
import Derived.Test.YtjgeiieiinmdnaaGreatDoorLt
import Derived.Test.YtjgeiieiinmdnaaGreatDoorLp
import Derived.Test.YtjgeiieiinmdnaaGreatDoorLo
import Derived.Test.YtjgeiieiinmdnaaGreatDoorLs
open Go.Proofs.Tryz
open Go.Addr.mk renaming injEq→wG
open Go.RowKit.Below renaming drew→ws
open Go.Value.slice renaming injEq→wE
open Go.World renaming setCells→wC
open List renaming getElem?_toArray→wt,getElem?_cons_succ→wu,getElem?_cons_zero→wv,getElem?_eq_getElem→ww,getElem?_map→wy,length_map→wz,getElem_mem→wA,take_of_length_le→wF
open Nat renaming le_of_ble_eq_true→wB,zero_le→wD
open Option.some renaming injEq→wq
namespace Go.Proofs.YtjgeiieiinmdnaaGreatDoor
set_option maxHeartbeats 12000000
set_option maxRecDepth 100000
open Go.RowKit Go.Lib

theorem gh (x:AcI) (w:World) (h:acY.sub x w) (hs:cq x.it) (hj:x.j.length≤10000):Calls prog 100 #[x.v] w (Ret w (.bool (kC x.d))):=by
 have CM:=fun (W:World)=>lR ⟨x.j.toArray⟩ W (by rw[←ab];exact hj)
 have CY:=fun (W:World) (hb:Bl w W)=>sH x.iv x.ver x.it W (aw.ret h hb) hs
 show Calls _ _ #[x.v] w (Ret w (.bool (bg x.j&&lf (x.it.map Prod.fst) x.ver)))
 obtain⟨xj,xit,⟨xa,xc⟩,xver⟩:=x;simp only[AcI.v,AcI.iv] at CM CY ⊢;obtain⟨P,hP⟩:=e_ (bg xj);obtain⟨Q,hQ⟩:=e_ (lf (xit.map Prod.fst) xver);obtain⟨xl,hxl⟩:=e_ xit.length;obtain⟨jb,hjb⟩:=e_ (ByteArray.mk xj.toArray);rw[hP] at CM;rw[hQ,hxl] at CY;rw[hjb] at CM;rw[hP,hQ,hxl,hjb];have CM:=h_ CM;have CY:=h_ CY;clear h hs hj hP hQ hxl hjb;obtain⟨W0,hW,y0,bs⟩:=Sx.start1 w [.string jb,.slice xa xl xc,.int .i64 xver] 33;have HW:=h_ hW;clear hW;have q:=bs.q;go_enter func100,ntmps100;have c_a0:=bs.b3 0;go_wp2_with fail;rw[HW.out];refine(CM.out W0).mono ?_;rintro e w1 ⟨rfl,hb⟩;clear c_a0;replace bs:=bs.ret hb;replace q:=bs.q;clear hb
 cases P with
 | false=>
  have c_a0:=bs.b3 0;go_wp2_with fail;go_ret;exact⟨rfl,q⟩
 | true=>
  have c_a0:=bs.b3 0;go_wp2_with fail;refine(CY.out w1 q).mono ?_;rintro e w2 ⟨rfl,hb⟩;clear c_a0;replace bs:=bs.ret hb;replace q:=bs.q;clear hb;go_wp2_with fail;go_ret;exact⟨rfl,q⟩

theorem cK (l:List UInt8):(⟨l.toArray⟩:ByteArray).size=l.length:=by rw[←ab]
theorem jD (t u:List UInt8):[u].contains t=(u==t):=by rw[List.contains_cons,List.contains_nil,Bool.or_false,Bool.beq_comm]
theorem ky {p:List Nd→Bool} {M:List TrI} {k:Nat} {T:TrI} (hk:M[k]?=some T) (h:p (trD T)=false):(M.map trD).all p=false:=dN (x:=trD T) (k:=k) (by rw[wy,hk];rfl) h
theorem ep (x:RsI) (X Y Z:ByteArray) (A FL:Bool) (w:World) (hs:rsY.sub x w) (hf:ReFit x.d) (hFU:ms x.j=(A&&FL))
  (CA:∀w:World,Calls prog 121 #[.string ⟨x.j.toArray⟩] w (Ret w (.tuple #[jV X Y Z,.bool A])))
  (CF:A=true→∀w:World,Calls prog 159 #[jV X Y Z] w (Ret w (.bool FL))):
  Calls prog 98 #[x.v] w (Ret w (.bool (fR aA x.d))):=by
 have hL:IsL trY x.lv x.ld w:=hs.1;have hS:aB x.sv x.st w:=hs.2
 have CM:=h_ fun (t:TrI) (ht:t∈x.ld) (W:World) (hb:Bl w W)=>sF t W (trY.subRet _ _ _ (hL.2.2 t ht) hb) (jI.sub hf t ht)
 have CS:=h_ fun (s:List UInt8) (ht:s∈x.st) (W:World)=>bI ⟨s.toArray⟩ W (by rw[cK];exact hf.sx s ht)
 have zL:=hf.ldl;have zS:x.st.length≤1000:=hf.st
 have hod:fR aA x.d=(ms x.j&&(decide ((x.ld.map trD).length≤16)&&(decide (x.st.length≤8)&&(decide (-128≤x.pr)&&(decide (x.pr≤127)&&((x.ld.map trD).all aA&&(aV x.st&&(x.st.all bz&&(x.on||(decide (x.pr=0)&&(x.ld.map trD).isEmpty)))))))))):=rfl
 rw[wz] at hod;obtain⟨O,hO⟩:=e_ (fR aA x.d);rw[hO];obtain⟨AL,hAL⟩:=e_ ((x.ld.map trD).all aA);obtain⟨ON,hON⟩:=e_ (aV x.st);obtain⟨AR,hAR⟩:=e_ (x.st.all bz)
 have he:(x.ld.map trD).isEmpty=decide (x.ld.length=0):=by cases x.ld with | nil=>rfl | cons _ _=>rfl
 rw[hO,hFU,hAL,hON,hAR,he] at hod;obtain⟨xj,on1,pr1,xl,⟨la1,lb1⟩,ask1,xs,⟨sa1,sb1⟩⟩:=x
 simp only at hod hAL hON hAR zL zS CA
 obtain⟨jb1,hjb⟩:=e_ (ByteArray.mk xj.toArray);obtain⟨LL1,hLL⟩:=e_ xl.length;obtain⟨SL1,hSL⟩:=e_ xs.length;have hL:IsL trY (.slice la1 xl.length lb1) xl w:=hL;have hS:aB (.slice sa1 xs.length sb1) xs w:=hS;rw[hLL] at hL hod zL;rw[hSL] at hS hod zS;rw[hjb] at CA
 show Calls _ _ #[.agg #[.string ⟨xj.toArray⟩,.bool on1,.int .i64 pr1,.slice la1 xl.length lb1,.bool ask1,.slice sa1 xs.length sb1]] w _
 rw[hjb,hLL,hSL];have HOD:=h_ hod;have HLL:=h_ hLL;have HSL:=h_ hSL;have HL:=h_ hL;have HS:=h_ hS;have HAL:=h_ hAL;have HON:=h_ hON;have HAR:=h_ hAR;have CA:=h_ CA;have CF:=h_ CF;clear hod hjb hLL hSL hL hS hAL hON hAR hO he hFU hf hs;obtain⟨W0,hW,y0,bs⟩:=Sx.start1 w [.string jb1,.bool on1,.int .i64 pr1,.slice la1 LL1 lb1,.bool ask1,.slice sa1 SL1 sb1] 38;have HW:=h_ hW;clear hW;have q:=bs.q;go_enter func98,ntmps98;go_upto_region 1 with fail;rw[HW.out];have c_r0:=bs.b6 0;go_wp2_with fail;refine(CA.out W0).mono ?_;rintro e w1 ⟨rfl,hb⟩;clear c_r0;replace bs:=bs.ret hb;replace q:=bs.q;clear hb
 cases A with
 | false=>
  obtain rfl:O=false:=by rw[HOD.out];rfl
  have c_r0:=bs.b6 0;have d0:=(bs.lit (w1.heap.size) rfl [.string X,.string Y,.string Z] 117);have c0_n00:=d0.b3 1;have c0_r0:=d0.b6 0;go_wp2_with fail;clear c_r0 d0 c0_n00 c0_r0;obtain⟨w2,hw2,y2,al,bs⟩:=bs.alloc (w1.heap.size) rfl [.string X,.string Y,.string Z] 117;clear al;replace q:=bs.q;rw[hw2];go_ret;exact⟨rfl,q⟩
 | true=>
  have CF2:=h_ (CF.out rfl);have c_r0:=bs.b6 0;have d0:=(bs.lit (w1.heap.size) rfl [.string X,.string Y,.string Z] 117);have c0_n00:=d0.b3 1;have c0_r0:=d0.b6 0;go_wp2_with fail;clear c_r0 d0 c0_n00 c0_r0;obtain⟨w2,hw2,y2,al,bs⟩:=bs.alloc (w1.heap.size) rfl [.string X,.string Y,.string Z] 117;clear al;replace q:=bs.q;rw[hw2];refine(CF2.out w2).mono ?_;rintro e w3 ⟨rfl,hb⟩;replace bs:=bs.ret hb;replace q:=bs.q;clear hb
  cases FL with
  | false=>
   obtain rfl:O=false:=by rw[HOD.out];rfl
   have c_r0:=bs.b6 0;have c_j0:=bs.b3 1;go_wp2_with fail;go_ret;exact⟨rfl,q⟩
  | true=>
   by_cases h1:pr1 < -128
   ·have h1d:decide (pr1 < -128)=true:=decide_eq_true h1
    obtain rfl:O=false:=by rw[HOD.out,decide_eq_false (show ¬ -128≤pr1 by omega)];simp
    have c_r0:=bs.b6 0;have c_j0:=bs.b3 1;go_wp2_with fail;go_ret;exact⟨rfl,q⟩
   ·have h1d:decide (pr1 < -128)=false:=decide_eq_false h1
    by_cases h2:127<pr1
    ·have h2d:decide (127<pr1)=true:=decide_eq_true h2
     obtain rfl:O=false:=by rw[HOD.out,decide_eq_false (show ¬ pr1≤127 by omega)];simp
     have c_r0:=bs.b6 0;have c_j0:=bs.b3 1;go_wp2_with fail;go_ret;exact⟨rfl,q⟩
    ·have h2d:decide (127<pr1)=false:=decide_eq_false h2
     by_cases h3:(16:Int)<(LL1:Int)
     ·have h3d:decide ((16:Int)<(LL1:Int))=true:=decide_eq_true h3
      obtain rfl:O=false:=by rw[HOD.out,decide_eq_false (show ¬ LL1≤16 by omega)];simp
      have c_r0:=bs.b6 0;have c_j0:=bs.b3 1;go_wp2_with fail;go_ret;exact⟨rfl,q⟩
     ·have h3d:decide ((16:Int)<(LL1:Int))=false:=decide_eq_false h3
      by_cases h4:(8:Int)<(SL1:Int)
      ·have h4d:decide ((8:Int)<(SL1:Int))=true:=decide_eq_true h4
       obtain rfl:O=false:=by rw[HOD.out,decide_eq_false (show ¬ SL1≤8 by omega)];simp
       have c_r0:=bs.b6 0;have c_j0:=bs.b3 1;go_wp2_with fail;go_ret;exact⟨rfl,q⟩
      ·have h4d:decide ((8:Int)<(SL1:Int))=false:=decide_eq_false h4
       have HO2:Hid (O=(AL&&(ON&&(AR&&(on1||(decide (pr1=0)&&decide (LL1=0))))))):=h_ (by rw[HOD.out,decide_eq_true (show LL1≤16 by omega),decide_eq_true (show SL1≤8 by omega),decide_eq_true (show -128≤pr1 by omega),decide_eq_true (show pr1≤127 by omega)];rfl)
       have c_r0:=bs.b6 0;have c_j0:=bs.b3 1;go_wp2_with fail;clear c_r0 c_j0;go_loopw [5] (fun i wx=>∃k:Nat,i=.int .i64 k∧k≤LL1∧((xl.map trD).take k).all aA=true∧Sx w [(w.heap.size,[.string jb1,.bool on1,.int .i64 pr1,.slice la1 LL1 lb1,.bool ask1,.slice sa1 SL1 sb1]),(w1.heap.size,[.string X,.string Y,.string Z])] wx) (fun i _=>LL1-(intOf i).toNat)
       case atStart=>exact⟨0,rfl,wD _,rfl,bs⟩
       case round=>
        clear bs q;obtain⟨k,rfl,hk,hT,bs⟩:=hrel;have q:=bs.q
        by_cases hlt:k<LL1
        ·have wl : (k : Int) < (LL1 : Int) := by omega
         have hkM:k<xl.length:=(by rw[HLL.out];exact hlt);obtain⟨t,ht⟩:=e_ (xl[k]);have hkt:xl[k]?=some t:=(by rw[ww hkM,ht]);have htm:t∈xl:=(by rw[←ht];exact wA hkM);obtain⟨b,off,cp,hfm,-,hc⟩:=HL.out.cells hkt;rw[HLL.out] at hfm;simp only[wE,true_and] at hfm;obtain⟨rfl,rfl⟩:=hfm;have CM1:=CM.out t htm
         have HSN:=h_ fun h=>iK (q:=aA) (l:=xl.map trD) (k:=k) (x:=trD t) (by rw[wy,hkt];rfl) hT h
         have HBD:=h_ fun h=>HAL.out.symm.trans (ky (p:=aA) hkt h)
         obtain⟨G,hG⟩:=e_ (aA (trD t));have HG:=h_ hG;rw[hG] at CM1;obtain⟨t0,ta,tc⟩:=t;obtain⟨tl,htl⟩:=e_ t0.length;have CM1:∀W,Bl w W→Calls prog 160 #[.slice ta tl tc] W (Ret W (.bool G)):=(by rw[←htl];exact CM1)
         have c9:wr.cell? ⟨b,off+k,none⟩=some (.slice ta tl tc):=by
          have h:=hc wr q 0 _ rfl;rw[←htl]
          rwa [show off+k*trY.n+0=off+k from (by show off+k*1+0=off+k;omega)] at h
         replace CM1:=h_ CM1;clear ht hkt htm hc htl hT hG;have c_r0:=bs.b6 0;have c_j0:=bs.b3 1;go_wp2_with fail;refine(CM1.out wr q).mono ?_;rintro e w21 ⟨rfl,hb⟩;clear c_r0 c_j0;replace bs:=bs.ret hb;replace q:=bs.q;clear hb;clear c9
         cases G with
         | false=>
          have HB:=h_ (HBD.out HG.out)
          obtain rfl:O=false:=by rw[HO2.out,HB.out];rfl
          go_wp2_with fail;go_ret;exact⟨rfl,q⟩
         | true=>
          go_wp2_with fail;go_roundw
          case rel=>exact⟨k+1,by go_num,by omega,HSN.out HG.out,bs⟩
          case measure=>simp[intOf];omega
        ·have wl : ¬ (k : Int) < (LL1 : Int) := by omega
         obtain rfl:AL=true:=by rw[←HAL.out];rwa [wF (by rw[wz,HLL.out];omega)] at hT
         clear hT;have c_r0:=bs.b6 0;have c_j0:=bs.b3 1;go_wp2_with fail;clear c_r0 c_j0;go_loopw [6] (fun i wx=>∃e:Nat,i=.int .i64 e∧e≤SL1∧(aV (xs.take e)=true∧(xs.take e).all bz=true)∧Sx w [(w.heap.size,[.string jb1,.bool on1,.int .i64 pr1,.slice la1 LL1 lb1,.bool ask1,.slice sa1 SL1 sb1]),(w1.heap.size,[.string X,.string Y,.string Z])] wx) (fun i _=>SL1-(intOf i).toNat)
         case atStart=>exact⟨0,rfl,wD _,⟨rfl,rfl⟩,bs⟩
         case round=>
          clear bs q;obtain⟨e,rfl,he,hT,bs⟩:=hrel;have q:=bs.q
          by_cases hle:e<SL1
          ·have wl2 : (e : Int) < (SL1 : Int) := by omega
           have hkM:e<xs.length:=(by rw[HSL.out];exact hle);obtain⟨t,ht⟩:=e_ (xs[e]);have hkt:xs[e]?=some t:=(by rw[ww hkM,ht]);have htm:t∈xs:=(by rw[←ht];exact wA hkM);obtain⟨b,off,rfl,hc⟩:=dL HS.out hkt;have CS1:=CS.out t htm
           have HST:Hid ((aV (xs.take (e+1))=!(xs.take e).contains t)∧((xs.take (e+1)).all bz=bz t)):=h_ (by rw[aM hkt,aJ,hT.1,List.all_append,hT.2];simp)
           have HB1:Hid (bz t=false→AR=false):=h_ fun h=>HAR.out.symm.trans (dN hkt h)
           have HB2:Hid ((xs.take e).contains t=true→ON=false):=h_ fun h=>by
            rw[←HON.out];have h2:aV (xs.take (e+1))=false:=(by rw[aM hkt,aJ,h];simp);rw[←List.take_append_drop (e+1) xs];exact cB h2
           obtain⟨tb,htb⟩:=e_ (ByteArray.mk t.toArray)
           have HCE:Hid (∀w',Bl w w'→w'.cell? ⟨b,off+e,none⟩=some (.string tb)):=h_ (by rw[←htb];exact hc)
           have htl:(⟨t.toArray⟩:ByteArray).data.toList=t:=(by simp);unfold fd at CS1
           (try rw[htl] at CS1)
           rw[htb] at CS1;obtain⟨D,hD⟩:=e_ (bz t);rw[hD] at CS1;have HD:=h_ hD;obtain⟨X2,hX2⟩:=e_ (jB (adr t).1);obtain⟨Y2,hY2⟩:=e_ (jB (adr t).2.1);obtain⟨Z2,hZ2⟩:=e_ (jB (adr t).2.2);rw[hX2,hY2,hZ2] at CS1;replace CS1:=h_ CS1;have HTB:=h_ htb;have HKT:=h_ hkt;clear ht hkt htm hc hT htl hD hX2 hY2 hZ2 hkM htb;have c9:=HCE.out wr q;have c_r0:=bs.b6 0;have c_j0:=bs.b3 1;go_wp2_with fail;refine(CS1.out wr).mono ?_;rintro e w61 ⟨rfl,hb⟩;clear c_r0 c_j0;replace bs:=bs.ret hb;replace q:=bs.q;clear hb;clear c9;have c_r0:=bs.b6 0;have c_j0:=bs.b3 1;have d0:=(bs.lit (w61.heap.size) rfl [.string X2,.string Y2,.string Z2] 117);have c0_n00:=d0.b3 2;have c0_r0:=d0.b6 0;go_wp2_with fail;clear c_r0 c_j0 d0 c0_n00 c0_r0;obtain⟨w62,hw62,y62,al,bs⟩:=bs.alloc (w61.heap.size) rfl [.string X2,.string Y2,.string Z2] 117;clear al;replace q:=bs.q;rw[hw62];obtain⟨MB,hMB⟩:=e_ w61.heap.size;rw[hMB] at bs ⊢;clear hMB;go_loopw [8,9] (fun v i wx=>∃j:Nat,i=.int .i64 j∧j≤e∧v=.bool (D&&!((xs.take e).take j).contains t)∧Sx w [(w.heap.size,[.string jb1,.bool on1,.int .i64 pr1,.slice la1 LL1 lb1,.bool ask1,.slice (some ⟨b,off,none⟩) SL1 sb1]),(w1.heap.size,[.string X,.string Y,.string Z]),(MB,[.string X2,.string Y2,.string Z2])] wx) (fun _ i _=>e-(intOf i).toNat)
           case atStart=>exact⟨0,rfl,wD _,by simp,bs⟩
           case round=>
            clear bs q;obtain⟨j,rfl,hj,rfl,bs⟩:=hrel;have q:=bs.q;obtain⟨V,hV⟩:=e_ ((D&&!((xs.take e).take j).contains t));rw[hV]
            by_cases hlj:j<e
            ·have wj : (j : Int) < (e : Int) := by omega
             have hjM:j<xs.length:=(by rw[HSL.out];omega);obtain⟨u,hu⟩:=e_ (xs[j]);have hju:xs[j]?=some u:=(by rw[ww hjM,hu]);obtain⟨b2,off2,hb2,hc2⟩:=dL HS.out hju;simp only[wq,wG,and_true] at hb2;obtain⟨rfl,rfl⟩:=hb2
             have hst:(D&&!((xs.take e).take (j+1)).contains t)=(V&&!(u==t)):=by
              rw[aM (l:=xs.take e) (x:=u) (by rw[List.getElem?_take_of_lt hlj,hju]),List.contains_append,←hV];rw[jD]
              cases D <;> cases ((xs.take e).take j).contains t <;> cases (u==t) <;> rfl
             obtain⟨ub,hub⟩:=e_ (ByteArray.mk u.toArray);have heq:(ub.toList==tb.toList)=(u==t):=(by rw[←hub,←HTB.out];exact lm _ _);have hne:(ub.toList != tb.toList)=!(u==t):=(by unfold bne;rw[heq]);obtain⟨E,hE⟩:=e_ ((u==t));rw[hE] at hst hne heq;have c8:=hc2 wr q;rw[hub] at c8;have c9:=HCE.out wr q;have HST2:=h_ hst;clear hst hub hc2 hju hu hjM hE hV
             cases V with
             | false=>
              have c_r0:=bs.b6 0;have c_j0:=bs.b3 1;have c_m0:=bs.b3 2;go_wp2_with fail;go_quiet (fail);go_wp2_with fail;go_roundw
              case rel=>exact⟨j+1,by go_num,by omega,by rw[HST2.out];rfl,bs.ret (below_drewN _ _)⟩
              case measure=>simp[intOf];omega
             | true=>
              cases E with
              | false=>
               have c_r0:=bs.b6 0;have c_j0:=bs.b3 1;have c_m0:=bs.b3 2;go_wp2_with fail;go_quiet (fail);go_wp2_with fail;go_roundw
               case rel=>exact⟨j+1,by go_num,by omega,by rw[HST2.out];rfl,bs.ret (below_drewN _ _)⟩
               case measure=>simp[intOf];omega
              | true=>
               have c_r0:=bs.b6 0;have c_j0:=bs.b3 1;have c_m0:=bs.b3 2;go_wp2_with fail;go_quiet (fail);go_wp2_with fail;go_roundw
               case rel=>exact⟨j+1,by go_num,by omega,by rw[HST2.out];rfl,bs.ret (below_drewN _ _)⟩
               case measure=>simp[intOf];omega
            ·have wj : ¬ (j : Int) < (e : Int) := by omega
             rw[wF (by rw[List.length_take];omega)] at hV;have HV:=h_ hV;clear hV
             cases V with
             | false=>
              obtain rfl:O=false:=by
               rw[HO2.out]
               cases hc:(xs.take e).contains t with
               | true=>rw[HB2.out hc];simp
               | false=>
                have h:=HV.out;rw[hc] at h;rw[HB1.out (HD.out.trans (by simpa using h))]
                simp
              have c_r0:=bs.b6 0;have c_j0:=bs.b3 1;have c_m0:=bs.b3 2;go_wp2_with fail;go_ret;exact⟨rfl,q⟩
             | true=>
              have c_r0:=bs.b6 0;have c_j0:=bs.b3 1;have c_m0:=bs.b3 2;go_wp2_with fail;clear c_r0 c_j0 c_m0
              have HN:Hid (aV (xs.take (e+1))=true∧(xs.take (e+1)).all bz=true):=h_ (by
               have h:=HV.out;simp only[Bool.and_eq_true] at h;exact⟨HST.out.1.trans h.2,HST.out.2.trans (HD.out.trans h.1)⟩)
              go_roundw
              case rel=>exact⟨e+1,by go_num,by omega,HN.out,bs.some 2⟩
              case measure=>simp[intOf];omega
          ·have wl2 : ¬ (e : Int) < (SL1 : Int) := by omega
           rw[wF (by rw[HSL.out];omega)] at hT;obtain rfl:ON=true:=HON.out.symm.trans hT.1;obtain rfl:AR=true:=HAR.out.symm.trans hT.2;clear hT
           have HO3:Hid (O=(on1||(decide (pr1=0)&&decide (LL1=0)))):=h_ HO2.out
           cases on1 with
           | true=>
            have c_r0:=bs.b6 0;have c_j0:=bs.b3 1;go_wp2_with fail;go_ret;exact⟨by rw[HO3.out];rfl,q⟩
           | false=>
            by_cases hp:pr1=0
            ·subst hp
             by_cases hl0:LL1=0
             ·have g0 : ((LL1 : Int) == 0) = true := by simp [hl0]
              have HL0:=h_ hl0;clear hl0;have c_r0:=bs.b6 0;have c_j0:=bs.b3 1;go_wp2_with fail;go_ret;exact⟨by rw[HO3.out,decide_eq_true HL0.out];rfl,q⟩
             ·have g0:((LL1:Int)==0)=false:=beq_eq_false_iff_ne.2 (by omega)
              have HL0:=h_ hl0;clear hl0;have c_r0:=bs.b6 0;have c_j0:=bs.b3 1;go_wp2_with fail;go_ret;exact⟨by rw[HO3.out,decide_eq_false HL0.out];rfl,q⟩
            ·have g0:(pr1==0)=false:=beq_eq_false_iff_ne.2 hp
             have HP:=h_ hp;clear hp;have c_r0:=bs.b6 0;have c_j0:=bs.b3 1;go_wp2_with fail;go_ret;exact⟨by rw[HO3.out,decide_eq_false HP.out];rfl,q⟩
theorem mG (x:RsI) (w:World) (hs:rsY.sub x w) (hf:ReFit x.d):Calls prog 98 #[x.v] w (Ret w (.bool (fR aA x.d))):=by
 have hj:x.j.length≤10000:=hf.j
 have CA:=fun w=>bI ⟨x.j.toArray⟩ w (by rw[cK];exact hj)
 have e:(⟨x.j.toArray⟩:ByteArray).data.toList=x.j:=by simp
 unfold fd at CA;rw[e] at CA
 cases h:bz x.j with
 | false=>
  rw[h] at CA;exact ep x _ _ _ false false w hs hf (by unfold ms;rw[h];rfl) CA (fun h=>by cases h)
 | true=>
  rw[h] at CA;have hp:=iF h;obtain⟨z1,z2,z3⟩:=bV x.j;have hk:=dx hp;unfold adr at CA;rw[if_pos hp] at CA;refine ep x _ _ _ true (!(aU x.j).isEmpty&&!(aL x.j).isEmpty) w hs hf (by unfold ms;rw[h]) CA (fun _ w=>?_);have k:=pO (jB (aU x.j)) (jB (aZ x.j)) (jB (aL x.j)) w (by rw[ah];omega) (by rw[ah];omega) (by rw[ah];omega);rw[ag,ag,ag,hk,Bool.true_and] at k;exact k

theorem qN (A:List AcI) (r:RsI):bP (A.map AcI.d) r.d=(fdA A (a9 r.j)).isSome:=by
 unfold bP fdA;rw[List.any_map,Bool.eq_iff_iff,List.any_eq_true,Option.isSome_iff_exists]
 constructor
 ·rintro ⟨x,hx,hq⟩
  cases h:A.find? fun x=>x.j==a9 r.j with
  | some y=>exact⟨y,rfl⟩
  | none=>exact absurd hq (by have:=List.find?_eq_none.1 h x hx;exact this)
 ·rintro ⟨y,hy⟩
  exact⟨y,List.mem_of_find?_eq_some hy,List.find?_some (p:=fun x:AcI=>x.j==a9 r.j) hy⟩
theorem rV (c:CoI) (w:World) (hs:c.sub w) (hf:CoFitD c.d):Calls prog 82 #[c.v] w (Ret w (.bool (kq aA c.d))):=by
 have zA:=hf.zA';have zR:=hf.zR'
 have CA:=h_ fun (x:AcI) (hx:x∈c.A) (W:World) (hb:Bl w W)=>gh x W (acY.subRet _ _ _ (hs.1.2.2 x hx) hb) (hf.ac' x hx).small (hf.ac' x hx).j
 have CR:=h_ fun (x:RsI) (hx:x∈c.R) (W:World) (hb:Bl w W)=>mG x W (rsY.subRet _ _ _ (hs.2.2.2 x hx) hb) (hf.rs' x hx)
 have CF:=fun (s:ByteArray) (W:World) (hb:Bl w W)=>eF c s W (hs.1.ret hb) (by omega)
 have JA:=h_ fun (x:AcI) (hx:x∈c.A)=>(hf.ac' x hx).j
 have JR:=h_ fun (x:RsI) (hx:x∈c.R)=>(hf.rs' x hx).j
 obtain⟨A,⟨a1,b1⟩,R,⟨r1,s1⟩,m1⟩:=c;have hA:IsL acY (.slice a1 A.length b1) A w:=hs.1;have hR:IsL rsY (.slice r1 R.length s1) R w:=hs.2;have zA:A.length≤1000:=zA;have zR:R.length≤1000:=zR;have CF:∀(s:ByteArray) (W:World),Bl w W→Calls prog 12 #[.agg #[.slice a1 A.length b1,.slice r1 R.length s1,.int .i64 m1],.string s] W (Ret W (.tuple #[((fdA A s.data.toList).getD oL).v,.bool (fdA A s.data.toList).isSome])):=CF
 show Calls _ _ #[.agg #[.slice a1 A.length b1,.slice r1 R.length s1,.int .i64 m1]] w (Ret w (.bool (dG aA (A.map AcI.d) (R.map RsI.d) m1)))
 obtain⟨O,hO⟩:=e_ (dG aA (A.map AcI.d) (R.map RsI.d) m1);rw[hO]
 have hE:=fun h1 h2 h3 h4=>hO.symm.trans (qB (p:=aA) (A:=A.map AcI.d) (R:=R.map RsI.d) (m:=m1) h1 h2 h3 h4)
 rw[wz,wz] at hE
 have HBA:=h_ fun h=>hO.symm.trans (t8 (p:=aA) (A:=A.map AcI.d) (R:=R.map RsI.d) (m:=m1) h)
 have HBAc:=h_ fun h=>hO.symm.trans (tM (p:=aA) (A:=A.map AcI.d) (R:=R.map RsI.d) (m:=m1) h)
 have HBR:=h_ fun h=>hO.symm.trans (ul (p:=aA) (A:=A.map AcI.d) (R:=R.map RsI.d) (m:=m1) h)
 have HBRc:=h_ fun h=>hO.symm.trans (sL (p:=aA) (A:=A.map AcI.d) (R:=R.map RsI.d) (m:=m1) h)
 obtain⟨LA1,hLA⟩:=e_ A.length;obtain⟨LR1,hLR⟩:=e_ R.length;rw[hLA] at hA hE zA CF ⊢;rw[hLR] at hR hE zR CF ⊢;have HE:=h_ hE;have HA:=h_ hA;have HR:=h_ hR;have HLA:=h_ hLA;have HLR:=h_ hLR;have CF:=h_ CF;clear hs hf hA hR hO hE hLA hLR;obtain⟨W0,hW,y0,bs⟩:=Sx.start1 w [.slice a1 LA1 b1,.slice r1 LR1 s1,.int .i64 m1] 25;have HW:=h_ hW;clear hW;have q:=bs.q;go_enter func82,ntmps82;go_wp2_with fail;rw[HW.out];go_loopw [3] (fun i wx=>∃k:Nat,i=.int .i64 k∧k≤LA1∧((A.map AcI.d).take k).all kC=true∧chG acN ((A.map AcI.d).take k)=true∧Sx w [(w.heap.size,[.slice a1 LA1 b1,.slice r1 LR1 s1,.int .i64 m1])] wx) (fun i _=>LA1-(intOf i).toNat)
 case atStart=>exact⟨0,rfl,wD _,rfl,rfl,bs⟩
 case round=>
  clear bs q;obtain⟨k,rfl,hk,hT,hC,bs⟩:=hrel;have q:=bs.q
  by_cases hlt:k<LA1
  ·have wl : (k : Int) < (LA1 : Int) := by omega
   have hkM:k<A.length:=(by rw[HLA.out];exact hlt);obtain⟨x,hx⟩:=e_ (A[k]);have hkx:A[k]?=some x:=(by rw[ww hkM,hx]);have hxm:x∈A:=(by rw[←hx];exact wA hkM);have hkd:(A.map AcI.d)[k]?=some x.d:=(by rw[wy,hkx];rfl);obtain⟨b,off,cp,hfm,-,hc⟩:=HA.out.cells hkx;rw[HLA.out] at hfm;simp only[wE,true_and] at hfm;obtain⟨rfl,rfl⟩:=hfm;have hzj:=JA.out x hxm;have CX:=CA.out x hxm
   have HSN:=h_ fun h=>iK (q:=kC) hkd hT h
   have HB1:=h_ fun h=>HBA.out (dN (q:=kC) hkd h)
   have HB2:=h_ fun h=>HBAc.out (nS (nm:=acN) (k:=k+1) h)
   have HPV:Hid (0<k→∃y:AcI,y.j.length≤10000∧chG acN ((A.map AcI.d).take (k+1))=ao y.j x.j∧∀W',Bl w W'→W'.cell? ⟨b,off+(k-1)*3,none⟩=some (.string ⟨y.j.toArray⟩)):=h_ fun h0=>by
    have hk1:k-1<A.length:=(by omega);obtain⟨y,hy⟩:=e_ (A[k-1]);have hky:A[k-1]?=some y:=(by rw[ww hk1,hy]);have hkyd:(A.map AcI.d)[k-1]?=some y.d:=(by rw[wy,hky];rfl);refine⟨y,JA.out y (by rw[←hy];exact wA hk1),?_,fun W' hb=>?_⟩
    ·obtain⟨m,rfl⟩:∃m,k=m+1:=⟨k-1,by omega⟩
     exact oi (nm:=acN) hkyd hkd hC
    ·obtain⟨b',off',cp',hf',-,hc'⟩:=HA.out.cells hky
     rw[HLA.out] at hf';simp only[wE,true_and,wq,wG,and_true] at hf';obtain⟨⟨rfl,rfl⟩,rfl⟩:=hf';exact hc' W' hb 0 _ rfl
   have HC0:Hid (k=0→chG acN ((A.map AcI.d).take (k+1))=true):=h_ fun h=>by subst h;exact oU hkd
   obtain⟨G,hG⟩:=e_ (kC x.d);rw[hG] at CX;have HQ:=h_ hG;clear hG;obtain⟨xj,xit,⟨xa,xc⟩,xver⟩:=x;obtain⟨xl,hxl⟩:=e_ xit.length;obtain⟨jb,hjb⟩:=e_ (ByteArray.mk xj.toArray);have CX2:∀W,Bl w W→Calls prog 100 #[.agg #[.string jb,.slice xa xl xc,.int .i64 xver]] W (Ret W (.bool G)):=(by rw[←hjb,←hxl];exact CX);replace CX2:=h_ CX2;have hzb:jb.size≤10000:=(by rw[←hjb,cK];exact hzj);have HZB:=h_ hzb
   have HJB:Hid (jb.data.toList=xj):=h_ (by rw[←hjb])
   have HC1:Hid (∀W',Bl w W'→W'.cell? ⟨b,off+k*3,none⟩=some (.string jb)):=h_ (fun W' hb=>by(try rw[←hjb]);(try rw[←hxl]);exact hc W' hb 0 _ rfl)
   have HC2:Hid (∀W',Bl w W'→W'.cell? ⟨b,off+k*3+1,none⟩=some (.slice xa xl xc)):=h_ (fun W' hb=>by(try rw[←hjb]);(try rw[←hxl]);exact hc W' hb 1 _ rfl)
   have HC3:Hid (∀W',Bl w W'→W'.cell? ⟨b,off+k*3+2,none⟩=some (.int .i64 xver)):=h_ (fun W' hb=>by(try rw[←hjb]);(try rw[←hxl]);exact hc W' hb 2 _ rfl)
   clear hx hkx hxm hkM hkd hc hxl hjb hT hC CX hzj hzb
   cases G with
   | false=>
    have HB:=h_ (HB1.out (HQ.out.trans rfl));have c_c0:=bs.b3 0;go_upto_region 4 with fail;clear c_c0;replace bs:=bs.ret (ws (bQ _));replace q:=bs.q
    have y21:wr.drew.heap.size=wr.heap.size:=rfl
    refine wp_region_held_drew (S:=fun w'=>w'.cell? ⟨w.heap.size,0,none⟩=some (.slice (some ⟨b,off,none⟩) LA1 b1)∧w'.cell? ⟨b,off+k*3,none⟩=some (.string jb)∧w'.cell? ⟨b,off+k*3+1,none⟩=some (.slice xa xl xc)∧w'.cell? ⟨b,off+k*3+2,none⟩=some (.int .i64 xver)) (by kernel_rfl) ⟨bs.at 0 0,HC1.out _ q,HC2.out _ q,HC3.out _ q⟩ (fun hH=>?_);generalize wr.drew=w21 at bs q y21 hH ⊢;refine rS [(0,some 14),(1,some 15),(2,some 16),(3,some 17),(4,some 18)] ?_
    iterate 5 refine aS ?_
    refine rE ?_
    refine aC (i:=5) fun K hK=>?_
    go_simp;refine(CX2.out w21 q).mono ?_;rintro e w22 ⟨rfl,hb⟩;replace bs:=bs.ret hb;replace q:=bs.q;clear hb;go_simp;clear hH;refine hK.out _ _ ⟨bs.at 0 0,HC1.out _ q,HC2.out _ q,HC3.out _ q⟩ (fun hH=>?_);clear hK K;refine rS [(6,some 20),(7,some 21)] ?_
    iterate 2 refine aS ?_
    refine rE ?_;refine rS [(8,some 22),(9,some 23),(10,some 24),(11,some 25),(12,some 26),(13,some 27),(14,some 28),(15,some 29),(16,some 30),(17,some 31),(18,some 32),(19,some 33),(20,some 34),(21,some 35),(22,some 36),(23,some 37),(24,some 38),(25,some 39),(26,some 40)] ?_
    iterate 19 refine aF ?_
    refine rE ?_;refine rS [(27,some 41)] ?_;refine aS ?_;refine rE ?_;refine aD ?_;clear hH;go_wp2_with fail;go_ret;exact⟨by rw[HB.out];first | done | rfl,q⟩
   | true=>
    by_cases hk0:0<k
    ·have gk : (0 : Int) < k := by omega
     have hk1:((k:Int)-1)=((k-1:Nat):Int):=(by omega)
     have wk1:IntKind.i64.wrap ((k-1:Nat):Int)=((k-1:Nat):Int):=IntWalk.i64_in _ (by omega)
     have wk3:((k-1:Nat):Int)<(LA1:Int):=(by omega);have wk4:(0:Int)≤((k-1:Nat):Int):=(by omega);obtain⟨y,hzy,hch,hcy⟩:=HPV.out hk0;obtain⟨yb,hyb⟩:=e_ (ByteArray.mk y.j.toArray)
     have HYC:Hid (∀W',Bl w W'→W'.cell? ⟨b,off+(k-1)*3,none⟩=some (.string yb)):=h_ (by rw[←hyb];exact hcy)
     have CL:=fun (W:World)=>eH yb jb W (by rw[←hyb,cK];exact hzy) HZB.out
     have ey:yb.data.toList=y.j:=(by rw[←hyb]);rw[ey,HJB.out] at CL;obtain⟨LE,hLE⟩:=e_ (ao y.j xj);rw[hLE] at CL;have HCH:=h_ (hch.trans hLE);have CL2:=h_ CL;clear hzy hch hcy hyb CL ey hLE;have c_c0:=bs.b3 0;go_upto_region 4 with fail;clear c_c0;replace bs:=bs.ret (ws (bQ _));replace q:=bs.q
     have y21:wr.drew.heap.size=wr.heap.size:=rfl
     refine wp_region_held_drew (S:=fun w'=>w'.cell? ⟨w.heap.size,0,none⟩=some (.slice (some ⟨b,off,none⟩) LA1 b1)∧w'.cell? ⟨b,off+k*3,none⟩=some (.string jb)∧w'.cell? ⟨b,off+k*3+1,none⟩=some (.slice xa xl xc)∧w'.cell? ⟨b,off+k*3+2,none⟩=some (.int .i64 xver)∧w'.cell? ⟨b,off+(k-1)*3,none⟩=some (.string yb)) (by kernel_rfl) ⟨bs.at 0 0,HC1.out _ q,HC2.out _ q,HC3.out _ q,HYC.out _ q⟩ (fun hH=>?_);generalize wr.drew=w21 at bs q y21 hH ⊢;refine rS [(0,some 14),(1,some 15),(2,some 16),(3,some 17),(4,some 18)] ?_
     iterate 5 refine aS ?_
     refine rE ?_
     refine aC (i:=5) fun K hK=>?_
     go_simp;refine(CX2.out w21 q).mono ?_;rintro e w22 ⟨rfl,hb⟩;replace bs:=bs.ret hb;replace q:=bs.q;clear hb;go_simp;clear hH;refine hK.out _ _ ⟨bs.at 0 0,HC1.out _ q,HC2.out _ q,HC3.out _ q,HYC.out _ q⟩ (fun hH=>?_);clear hK K;refine rS [(6,some 20),(7,some 21),(8,some 22),(9,some 23),(10,some 24),(11,some 25),(12,some 26),(13,some 27),(14,some 28),(15,some 29),(16,some 30),(17,some 31),(18,some 32),(19,some 33),(20,some 34),(21,some 35),(22,some 36),(23,some 37)] ?_
     iterate 18 refine aS ?_
     refine rE ?_
     refine aC (i:=24) fun K hK=>?_
     go_simp;refine(CL2.out w22).mono ?_;rintro e w23 ⟨rfl,hb⟩;replace bs:=bs.ret hb;replace q:=bs.q;clear hb;go_simp;clear hH;refine hK.out _ _ ⟨bs.at 0 0,HC1.out _ q,HC2.out _ q,HC3.out _ q,HYC.out _ q⟩ (fun hH=>?_);clear hK K;refine rS [(25,some 39),(26,some 40),(27,some 41)] ?_
     iterate 3 refine aS ?_
     refine rE ?_;refine aD ?_;clear hH
     (try clear hk1 wk1 wk3 wk4)
     cases LE with
     | false=>
      have HB:=h_ (HB2.out HCH.out);go_wp2_with fail;go_ret;exact⟨by rw[HB.out];first | done | rfl,q⟩
     | true=>
      go_wp2_with fail;go_roundw
      case rel=>exact⟨k+1,by go_num,by omega,HSN.out HQ.out,HCH.out,bs⟩
      case measure=>simp[intOf];omega
    ·have gk : ¬ (0 : Int) < k := by omega
     have HCH:=h_ (HC0.out (by omega));have c_c0:=bs.b3 0;go_upto_region 4 with fail;clear c_c0;replace bs:=bs.ret (ws (bQ _));replace q:=bs.q
     have y21:wr.drew.heap.size=wr.heap.size:=rfl
     refine wp_region_held_drew (S:=fun w'=>w'.cell? ⟨w.heap.size,0,none⟩=some (.slice (some ⟨b,off,none⟩) LA1 b1)∧w'.cell? ⟨b,off+k*3,none⟩=some (.string jb)∧w'.cell? ⟨b,off+k*3+1,none⟩=some (.slice xa xl xc)∧w'.cell? ⟨b,off+k*3+2,none⟩=some (.int .i64 xver)) (by kernel_rfl) ⟨bs.at 0 0,HC1.out _ q,HC2.out _ q,HC3.out _ q⟩ (fun hH=>?_);generalize wr.drew=w21 at bs q y21 hH ⊢;refine rS [(0,some 14),(1,some 15),(2,some 16),(3,some 17),(4,some 18)] ?_
     iterate 5 refine aS ?_
     refine rE ?_
     refine aC (i:=5) fun K hK=>?_
     go_simp;refine(CX2.out w21 q).mono ?_;rintro e w22 ⟨rfl,hb⟩;replace bs:=bs.ret hb;replace q:=bs.q;clear hb;go_simp;clear hH;refine hK.out _ _ ⟨bs.at 0 0,HC1.out _ q,HC2.out _ q,HC3.out _ q⟩ (fun hH=>?_);clear hK K;refine rS [(6,some 20),(7,some 21),(8,some 22),(9,some 23),(10,some 24)] ?_
     iterate 5 refine aS ?_
     refine rE ?_;refine rS [(11,some 25),(12,some 26),(13,some 27),(14,some 28),(15,some 29),(16,some 30),(17,some 31),(18,some 32),(19,some 33),(20,some 34),(21,some 35),(22,some 36),(23,some 37),(24,some 38),(25,some 39)] ?_
     iterate 15 refine aF ?_
     refine rE ?_;refine rS [(26,some 40),(27,some 41)] ?_
     iterate 2 refine aS ?_
     refine rE ?_;refine aD ?_;clear hH;go_wp2_with fail;go_roundw
     case rel=>exact⟨k+1,by go_num,by omega,HSN.out HQ.out,HCH.out,bs⟩
     case measure=>simp[intOf];omega
  ·have wl : ¬ (k : Int) < (LA1 : Int) := by omega
   have e9:(A.map AcI.d).take k=(A.map AcI.d):=wF (by rw[wz,HLA.out];omega)
   rw[e9] at hT hC;have HTA:=h_ hT;have HCA:=h_ hC;clear hT hC e9 hk;have c_c0:=bs.b3 0;go_wp2_with fail;clear c_c0;go_loopw [4] (fun i wx=>∃k:Nat,i=.int .i64 k∧k≤LR1∧((R.map RsI.d).take k).all (fun r=>fR aA r&&bP (A.map AcI.d) r)=true∧chG reN ((R.map RsI.d).take k)=true∧Sx w [(w.heap.size,[.slice a1 LA1 b1,.slice r1 LR1 s1,.int .i64 m1])] wx) (fun i _=>LR1-(intOf i).toNat)
   case atStart=>exact⟨0,rfl,wD _,rfl,rfl,bs⟩
   case round=>
    clear bs q;obtain⟨k,rfl,hk,hT,hC,bs⟩:=hrel;have q:=bs.q
    by_cases hlt:k<LR1
    ·have wl : (k : Int) < (LR1 : Int) := by omega
     have hkM:k<R.length:=(by rw[HLR.out];exact hlt);obtain⟨x,hx⟩:=e_ (R[k]);have hkx:R[k]?=some x:=(by rw[ww hkM,hx]);have hxm:x∈R:=(by rw[←hx];exact wA hkM);have hkd:(R.map RsI.d)[k]?=some x.d:=(by rw[wy,hkx];rfl);obtain⟨b,off,cp,hfm,-,hc⟩:=HR.out.cells hkx;rw[HLR.out] at hfm;simp only[wE,true_and] at hfm;obtain⟨rfl,rfl⟩:=hfm;have hzj:=JR.out x hxm;have CX:=CR.out x hxm
     have HSN:=h_ fun h=>iK (q:=(fun r=>fR aA r&&bP (A.map AcI.d) r)) hkd hT h
     have HB1:=h_ fun h=>HBR.out (dN (q:=(fun r=>fR aA r&&bP (A.map AcI.d) r)) hkd h)
     have HB2:=h_ fun h=>HBRc.out (nS (nm:=reN) (k:=k+1) h)
     have HPV:Hid (0<k→∃y:RsI,y.j.length≤10000∧chG reN ((R.map RsI.d).take (k+1))=ao y.j x.j∧∀W',Bl w W'→W'.cell? ⟨b,off+(k-1)*6,none⟩=some (.string ⟨y.j.toArray⟩)):=h_ fun h0=>by
      have hk1:k-1<R.length:=(by omega);obtain⟨y,hy⟩:=e_ (R[k-1]);have hky:R[k-1]?=some y:=(by rw[ww hk1,hy]);have hkyd:(R.map RsI.d)[k-1]?=some y.d:=(by rw[wy,hky];rfl);refine⟨y,JR.out y (by rw[←hy];exact wA hk1),?_,fun W' hb=>?_⟩
      ·obtain⟨m,rfl⟩:∃m,k=m+1:=⟨k-1,by omega⟩
       exact oi (nm:=reN) hkyd hkd hC
      ·obtain⟨b',off',cp',hf',-,hc'⟩:=HR.out.cells hky
       rw[HLR.out] at hf';simp only[wE,true_and,wq,wG,and_true] at hf';obtain⟨⟨rfl,rfl⟩,rfl⟩:=hf';exact hc' W' hb 0 _ rfl
     have HC0:Hid (k=0→chG reN ((R.map RsI.d).take (k+1))=true):=h_ fun h=>by subst h;exact oU hkd
     obtain⟨G,hG⟩:=e_ (fR aA x.d);rw[hG] at CX;have how:=qN A x;obtain⟨W1,hW1⟩:=e_ (bP (A.map AcI.d) x.d)
     have HQ:Hid ((fR aA x.d&&bP (A.map AcI.d) x.d)=(G&&W1)):=h_ (by rw[hG,hW1])
     have CB:=fun (W:World)=>qd ⟨x.j.toArray⟩ W (by rw[cK];exact hzj)
     have e9:(⟨x.j.toArray⟩:ByteArray).data.toList=x.j:=(by simp);rw[e9] at CB;obtain⟨bj,hbj⟩:=e_ (jB (a9 x.j));have CF1:=CF.out bj;have e8:bj.data.toList=a9 x.j:=(by rw[←hbj,ag]);rw[e8,←how,hW1] at CF1;rw[hbj] at CB;obtain⟨f0,hf0⟩:=e_ ((fdA A (a9 x.j)).getD oL);rw[hf0] at CF1;obtain⟨fj,fit,⟨fa,fc⟩,fv⟩:=f0;obtain⟨fl,hfl⟩:=e_ fit.length;obtain⟨fb,hfb⟩:=e_ (ByteArray.mk fj.toArray);simp only[AcI.v,AcI.iv,hfl,hfb] at CF1;have CF2:=h_ CF1;have CB2:=h_ CB;clear CF1 CB hG hW1 how e9 e8 hbj hf0 hfl hfb;obtain⟨xj,on1,pr1,xl,⟨la1,lb1⟩,ask1,xs,⟨sa1,sb1⟩⟩:=x;obtain⟨ll,hll⟩:=e_ xl.length;obtain⟨sl,hsl⟩:=e_ xs.length;obtain⟨jb,hjb⟩:=e_ (ByteArray.mk xj.toArray);have CX2:∀W,Bl w W→Calls prog 98 #[.agg #[.string jb,.bool on1,.int .i64 pr1,.slice la1 ll lb1,.bool ask1,.slice sa1 sl sb1]] W (Ret W (.bool G)):=(by rw[←hjb,←hll,←hsl];exact CX);replace CX2:=h_ CX2;have CB3:=CB2.out;rw[show ByteArray.mk (RsI.j ⟨xj,on1,pr1,xl,(la1,lb1),ask1,xs,(sa1,sb1)⟩).toArray=jb from hjb] at CB3;replace CB2:=h_ CB3;clear CB3;have hzb:jb.size≤10000:=(by rw[←hjb,cK];exact hzj);have HZB:=h_ hzb
     have HJB:Hid (jb.data.toList=xj):=h_ (by rw[←hjb])
     have HC1:Hid (∀W',Bl w W'→W'.cell? ⟨b,off+k*6,none⟩=some (.string jb)):=h_ (fun W' hb=>by(try rw[←hjb]);(try rw[←hll]);(try rw[←hsl]);exact hc W' hb 0 _ rfl)
     have HC2:Hid (∀W',Bl w W'→W'.cell? ⟨b,off+k*6+1,none⟩=some (.bool on1)):=h_ (fun W' hb=>by(try rw[←hjb]);(try rw[←hll]);(try rw[←hsl]);exact hc W' hb 1 _ rfl)
     have HC3:Hid (∀W',Bl w W'→W'.cell? ⟨b,off+k*6+2,none⟩=some (.int .i64 pr1)):=h_ (fun W' hb=>by(try rw[←hjb]);(try rw[←hll]);(try rw[←hsl]);exact hc W' hb 2 _ rfl)
     have HC4:Hid (∀W',Bl w W'→W'.cell? ⟨b,off+k*6+3,none⟩=some (.slice la1 ll lb1)):=h_ (fun W' hb=>by(try rw[←hjb]);(try rw[←hll]);(try rw[←hsl]);exact hc W' hb 3 _ rfl)
     have HC5:Hid (∀W',Bl w W'→W'.cell? ⟨b,off+k*6+4,none⟩=some (.bool ask1)):=h_ (fun W' hb=>by(try rw[←hjb]);(try rw[←hll]);(try rw[←hsl]);exact hc W' hb 4 _ rfl)
     have HC6:Hid (∀W',Bl w W'→W'.cell? ⟨b,off+k*6+5,none⟩=some (.slice sa1 sl sb1)):=h_ (fun W' hb=>by(try rw[←hjb]);(try rw[←hll]);(try rw[←hsl]);exact hc W' hb 5 _ rfl)
     clear hx hkx hxm hkM hkd hc hll hsl hjb hT hC CX hzj hzb
     cases G with
     | false=>
      have HB:=h_ (HB1.out (HQ.out.trans rfl));have c_c0:=bs.b3 0;go_upto_region 9 with fail;clear c_c0;replace bs:=bs.ret (ws (bQ _));replace q:=bs.q
      have y21:wr.drew.heap.size=wr.heap.size:=rfl
      refine wp_region_held_drew (S:=fun w'=>w'.cell? ⟨w.heap.size,1,none⟩=some (.slice (some ⟨b,off,none⟩) LR1 s1)∧w'.cell? ⟨b,off+k*6,none⟩=some (.string jb)∧w'.cell? ⟨b,off+k*6+1,none⟩=some (.bool on1)∧w'.cell? ⟨b,off+k*6+2,none⟩=some (.int .i64 pr1)∧w'.cell? ⟨b,off+k*6+3,none⟩=some (.slice la1 ll lb1)∧w'.cell? ⟨b,off+k*6+4,none⟩=some (.bool ask1)∧w'.cell? ⟨b,off+k*6+5,none⟩=some (.slice sa1 sl sb1)) (by kernel_rfl) ⟨bs.at 0 1,HC1.out _ q,HC2.out _ q,HC3.out _ q,HC4.out _ q,HC5.out _ q,HC6.out _ q⟩ (fun hH=>?_);generalize wr.drew=w21 at bs q y21 hH ⊢;refine rS [(0,some 49),(1,some 50),(2,some 51),(3,some 52),(4,some 53)] ?_
      iterate 5 refine aS ?_
      refine rE ?_
      refine aC (i:=5) fun K hK=>?_
      go_simp;refine(CX2.out w21 q).mono ?_;rintro e w22 ⟨rfl,hb⟩;replace bs:=bs.ret hb;replace q:=bs.q;clear hb;go_simp;clear hH;refine hK.out _ _ ⟨bs.at 0 1,HC1.out _ q,HC2.out _ q,HC3.out _ q,HC4.out _ q,HC5.out _ q,HC6.out _ q⟩ (fun hH=>?_);clear hK K;refine rS [(6,some 55),(7,some 56)] ?_
      iterate 2 refine aS ?_
      refine rE ?_;refine rS [(8,some 57),(9,some 58),(10,some 59),(11,some 60),(12,some 61),(13,some 62),(14,some 63),(15,some 64),(16,some 65),(17,some 66),(18,some 67),(19,some 68),(20,some 69),(21,some 70),(22,some 71),(23,some 72),(24,some 73),(25,some 74),(26,some 75)] ?_
      iterate 19 refine aF ?_
      refine rE ?_;refine rS [(27,some 76)] ?_;refine aS ?_;refine rE ?_;refine aD ?_;clear hH;go_wp2_with fail;go_ret;exact⟨by rw[HB.out];first | done | rfl,q⟩
     | true=>
      by_cases hk0:0<k
      ·have gk : (0 : Int) < k := by omega
       have hk1:((k:Int)-1)=((k-1:Nat):Int):=(by omega)
       have wk1:IntKind.i64.wrap ((k-1:Nat):Int)=((k-1:Nat):Int):=IntWalk.i64_in _ (by omega)
       have wk3:((k-1:Nat):Int)<(LR1:Int):=(by omega);have wk4:(0:Int)≤((k-1:Nat):Int):=(by omega);obtain⟨y,hzy,hch,hcy⟩:=HPV.out hk0;obtain⟨yb,hyb⟩:=e_ (ByteArray.mk y.j.toArray)
       have HYC:Hid (∀W',Bl w W'→W'.cell? ⟨b,off+(k-1)*6,none⟩=some (.string yb)):=h_ (by rw[←hyb];exact hcy)
       have CL:=fun (W:World)=>eH yb jb W (by rw[←hyb,cK];exact hzy) HZB.out
       have ey:yb.data.toList=y.j:=(by rw[←hyb]);rw[ey,HJB.out] at CL;obtain⟨LE,hLE⟩:=e_ (ao y.j xj);rw[hLE] at CL;have HCH:=h_ (hch.trans hLE);have CL2:=h_ CL;clear hzy hch hcy hyb CL ey hLE;have c_c0:=bs.b3 0;go_upto_region 9 with fail;clear c_c0;replace bs:=bs.ret (ws (bQ _));replace q:=bs.q
       have y21:wr.drew.heap.size=wr.heap.size:=rfl
       refine wp_region_held_drew (S:=fun w'=>w'.cell? ⟨w.heap.size,1,none⟩=some (.slice (some ⟨b,off,none⟩) LR1 s1)∧w'.cell? ⟨b,off+k*6,none⟩=some (.string jb)∧w'.cell? ⟨b,off+k*6+1,none⟩=some (.bool on1)∧w'.cell? ⟨b,off+k*6+2,none⟩=some (.int .i64 pr1)∧w'.cell? ⟨b,off+k*6+3,none⟩=some (.slice la1 ll lb1)∧w'.cell? ⟨b,off+k*6+4,none⟩=some (.bool ask1)∧w'.cell? ⟨b,off+k*6+5,none⟩=some (.slice sa1 sl sb1)∧w'.cell? ⟨b,off+(k-1)*6,none⟩=some (.string yb)) (by kernel_rfl) ⟨bs.at 0 1,HC1.out _ q,HC2.out _ q,HC3.out _ q,HC4.out _ q,HC5.out _ q,HC6.out _ q,HYC.out _ q⟩ (fun hH=>?_);generalize wr.drew=w21 at bs q y21 hH ⊢;refine rS [(0,some 49),(1,some 50),(2,some 51),(3,some 52),(4,some 53)] ?_
       iterate 5 refine aS ?_
       refine rE ?_
       refine aC (i:=5) fun K hK=>?_
       go_simp;refine(CX2.out w21 q).mono ?_;rintro e w22 ⟨rfl,hb⟩;replace bs:=bs.ret hb;replace q:=bs.q;clear hb;go_simp;clear hH;refine hK.out _ _ ⟨bs.at 0 1,HC1.out _ q,HC2.out _ q,HC3.out _ q,HC4.out _ q,HC5.out _ q,HC6.out _ q,HYC.out _ q⟩ (fun hH=>?_);clear hK K;refine rS [(6,some 55),(7,some 56),(8,some 57),(9,some 58),(10,some 59),(11,some 60),(12,some 61),(13,some 62),(14,some 63),(15,some 64),(16,some 65),(17,some 66),(18,some 67),(19,some 68),(20,some 69),(21,some 70),(22,some 71),(23,some 72)] ?_
       iterate 18 refine aS ?_
       refine rE ?_
       refine aC (i:=24) fun K hK=>?_
       go_simp;refine(CL2.out w22).mono ?_;rintro e w23 ⟨rfl,hb⟩;replace bs:=bs.ret hb;replace q:=bs.q;clear hb;go_simp;clear hH;refine hK.out _ _ ⟨bs.at 0 1,HC1.out _ q,HC2.out _ q,HC3.out _ q,HC4.out _ q,HC5.out _ q,HC6.out _ q,HYC.out _ q⟩ (fun hH=>?_);clear hK K;refine rS [(25,some 74),(26,some 75),(27,some 76)] ?_
       iterate 3 refine aS ?_
       refine rE ?_;refine aD ?_;clear hH
       (try clear hk1 wk1 wk3 wk4)
       cases LE with
       | false=>
        have HB:=h_ (HB2.out HCH.out);go_wp2_with fail;go_ret;exact⟨by rw[HB.out];first | done | rfl,q⟩
       | true=>
        have c_c0:=bs.b3 0;go_upto_region 11 with fail;clear c_c0;replace bs:=bs.ret (ws (bQ _));replace q:=bs.q
        have y24:w23.drew.heap.size=w23.heap.size:=rfl
        refine wp_region_held_drew (S:=fun w'=>w'.cell? ⟨w.heap.size,0,none⟩=some (.slice a1 LA1 b1)∧w'.cell? ⟨w.heap.size,1,none⟩=some (.slice (some ⟨b,off,none⟩) LR1 s1)∧w'.cell? ⟨w.heap.size,2,none⟩=some (.int .i64 m1)∧w'.cell? ⟨b,off+k*6,none⟩=some (.string jb)) (by kernel_rfl) ⟨bs.at 0 0,bs.at 0 1,bs.at 0 2,HC1.out _ q⟩ (fun hH=>?_);generalize w23.drew=w24 at bs q y24 hH ⊢;refine rS [(0,some 78),(1,some 79),(2,some 80),(3,some 81),(4,some 82),(5,some 83),(6,some 84)] ?_
        iterate 7 refine aS ?_
        refine rE ?_;refine wpAnyH_ready (rs:=[7,12]) (by kernel_rfl) (by simp) ?_;refine az (by kernel_rfl) (fun o ho K hK=>?_) ?_
        ·simp only[wt,wu,wv,wq] at ho
         subst ho;go_simp;refine(CB2.out w24).mono ?_;rintro e w25 ⟨rfl,hb⟩;replace bs:=bs.ret hb;replace q:=bs.q;clear hb;go_simp;clear hH;refine hK.out _ _ ⟨bs.at 0 0,bs.at 0 1,bs.at 0 2,HC1.out _ q⟩ (fun hH=>?_);clear hK K;refine wpAnyH_ready (rs:=[8,12]) (by kernel_rfl) (by simp) ?_;refine az (by kernel_rfl) (fun o ho K hK=>?_) ?_
         ·simp only[wt,wu,wv,wq] at ho
          subst ho;go_simp;refine(CF2.out w25 q).mono ?_;rintro e w26 ⟨rfl,hb⟩;replace bs:=bs.ret hb;replace q:=bs.q;clear hb;go_simp;clear hH;refine hK.out _ _ ⟨bs.at 0 0,bs.at 0 1,bs.at 0 2,HC1.out _ q⟩ (fun hH=>?_);clear hK K;refine rS [(9,some 77),(10,some 87),(11,some 88)] ?_
          iterate 3 refine aS ?_
          refine rE ?_
          refine aC (i:=12) fun K hK=>?_
          go_simp;obtain⟨w27,hw27,y27,al,bs⟩:=bs.alloc (w26.heap.size) rfl [.string ⟨#[]⟩,.slice none 0 0,.int .i64 0] 33;clear al;replace q:=bs.q;rw[hw27];clear hH;refine hK.out _ _ ⟨bs.at 0 0,bs.at 0 1,bs.at 0 2,HC1.out _ q⟩ (fun hH=>?_);clear hK K
          refine aC (i:=13) fun K hK=>?_
          have c_f0:=bs.b3 1;have f_f0:=bs.g3 1;go_simp;clear c_f0 f_f0;obtain⟨w28,hw28,y28,bs⟩:=bs.sets 1 0 [.string fb,.slice fa fl fc,.int .i64 fv] rfl (wB rfl);replace q:=bs.q;simp only[wC,Nat.reduceAdd] at hw28;rw[hw28];clear hH;refine hK.out _ _ ⟨bs.at 0 0,bs.at 0 1,bs.at 0 2,HC1.out _ q⟩ (fun hH=>?_);clear hK K;refine rS [(14,some 6)] ?_;refine aS ?_;refine rE ?_;refine aD ?_;clear hH
          cases W1 with
          | false=>
           have HB:=h_ (HB1.out (HQ.out.trans (by first | rfl | (cases G <;> rfl))))
           go_wp2_with fail;go_ret;exact⟨by rw[HB.out];first | done | rfl,q⟩
          | true=>
           go_wp2_with fail;go_roundw
           case rel=>exact⟨k+1,by go_num,by omega,HSN.out (HQ.out.trans rfl),HCH.out,bs.some 1⟩
           case measure=>simp[intOf];omega
         refine az (by kernel_rfl) (fun o ho K hK=>?_) ?_
         ·simp only[wt,wu,wv,wq] at ho
          subst ho;go_simp;obtain⟨w26,hw26,y26,al,bs⟩:=bs.alloc (w25.heap.size) rfl [.string ⟨#[]⟩,.slice none 0 0,.int .i64 0] 33;clear al;replace q:=bs.q;rw[hw26];clear hH;refine hK.out _ _ ⟨bs.at 0 0,bs.at 0 1,bs.at 0 2,HC1.out _ q⟩ (fun hH=>?_);clear hK K
          refine aC (i:=8) fun K hK=>?_
          go_simp;refine(CF2.out w26 q).mono ?_;rintro e w27 ⟨rfl,hb⟩;replace bs:=bs.ret hb;replace q:=bs.q;clear hb;go_simp;clear hH;refine hK.out _ _ ⟨bs.at 0 0,bs.at 0 1,bs.at 0 2,HC1.out _ q⟩ (fun hH=>?_);clear hK K;refine rS [(9,some 77),(10,some 87),(11,some 88)] ?_
          iterate 3 refine aS ?_
          refine rE ?_
          refine aC (i:=13) fun K hK=>?_
          have c_f0:=bs.b3 1;have f_f0:=bs.g3 1;go_simp;clear c_f0 f_f0;obtain⟨w28,hw28,y28,bs⟩:=bs.sets 1 0 [.string fb,.slice fa fl fc,.int .i64 fv] rfl (wB rfl);replace q:=bs.q;simp only[wC,Nat.reduceAdd] at hw28;rw[hw28];clear hH;refine hK.out _ _ ⟨bs.at 0 0,bs.at 0 1,bs.at 0 2,HC1.out _ q⟩ (fun hH=>?_);clear hK K;refine rS [(14,some 6)] ?_;refine aS ?_;refine rE ?_;refine aD ?_;clear hH
          cases W1 with
          | false=>
           have HB:=h_ (HB1.out (HQ.out.trans (by first | rfl | (cases G <;> rfl))))
           go_wp2_with fail;go_ret;exact⟨by rw[HB.out];first | done | rfl,q⟩
          | true=>
           go_wp2_with fail;go_roundw
           case rel=>exact⟨k+1,by go_num,by omega,HSN.out (HQ.out.trans rfl),HCH.out,bs.some 1⟩
           case measure=>simp[intOf];omega
         exact AllReadyH.nil
        refine az (by kernel_rfl) (fun o ho K hK=>?_) ?_
        ·simp only[wt,wu,wv,wq] at ho
         subst ho;go_simp;obtain⟨w25,hw25,y25,al,bs⟩:=bs.alloc (w23.heap.size) (by omega) [.string ⟨#[]⟩,.slice none 0 0,.int .i64 0] 33;clear al;replace q:=bs.q;rw[hw25];clear hH;refine hK.out _ _ ⟨bs.at 0 0,bs.at 0 1,bs.at 0 2,HC1.out _ q⟩ (fun hH=>?_);clear hK K
         refine aC (i:=7) fun K hK=>?_
         go_simp;refine(CB2.out w25).mono ?_;rintro e w26 ⟨rfl,hb⟩;replace bs:=bs.ret hb;replace q:=bs.q;clear hb;go_simp;clear hH;refine hK.out _ _ ⟨bs.at 0 0,bs.at 0 1,bs.at 0 2,HC1.out _ q⟩ (fun hH=>?_);clear hK K
         refine aC (i:=8) fun K hK=>?_
         go_simp;refine(CF2.out w26 q).mono ?_;rintro e w27 ⟨rfl,hb⟩;replace bs:=bs.ret hb;replace q:=bs.q;clear hb;go_simp;clear hH;refine hK.out _ _ ⟨bs.at 0 0,bs.at 0 1,bs.at 0 2,HC1.out _ q⟩ (fun hH=>?_);clear hK K;refine rS [(9,some 77),(10,some 87),(11,some 88)] ?_
         iterate 3 refine aS ?_
         refine rE ?_
         refine aC (i:=13) fun K hK=>?_
         have c_f0:=bs.b3 1;have f_f0:=bs.g3 1;go_simp;clear c_f0 f_f0;obtain⟨w28,hw28,y28,bs⟩:=bs.sets 1 0 [.string fb,.slice fa fl fc,.int .i64 fv] rfl (wB rfl);replace q:=bs.q;simp only[wC,Nat.reduceAdd] at hw28;rw[hw28];clear hH;refine hK.out _ _ ⟨bs.at 0 0,bs.at 0 1,bs.at 0 2,HC1.out _ q⟩ (fun hH=>?_);clear hK K;refine rS [(14,some 6)] ?_;refine aS ?_;refine rE ?_;refine aD ?_;clear hH
         cases W1 with
         | false=>
          have HB:=h_ (HB1.out (HQ.out.trans (by first | rfl | (cases G <;> rfl))))
          go_wp2_with fail;go_ret;exact⟨by rw[HB.out];first | done | rfl,q⟩
         | true=>
          go_wp2_with fail;go_roundw
          case rel=>exact⟨k+1,by go_num,by omega,HSN.out (HQ.out.trans rfl),HCH.out,bs.some 1⟩
          case measure=>simp[intOf];omega
        exact AllReadyH.nil
      ·have gk : ¬ (0 : Int) < k := by omega
       have HCH:=h_ (HC0.out (by omega));have c_c0:=bs.b3 0;go_upto_region 9 with fail;clear c_c0;replace bs:=bs.ret (ws (bQ _));replace q:=bs.q
       have y21:wr.drew.heap.size=wr.heap.size:=rfl
       refine wp_region_held_drew (S:=fun w'=>w'.cell? ⟨w.heap.size,1,none⟩=some (.slice (some ⟨b,off,none⟩) LR1 s1)∧w'.cell? ⟨b,off+k*6,none⟩=some (.string jb)∧w'.cell? ⟨b,off+k*6+1,none⟩=some (.bool on1)∧w'.cell? ⟨b,off+k*6+2,none⟩=some (.int .i64 pr1)∧w'.cell? ⟨b,off+k*6+3,none⟩=some (.slice la1 ll lb1)∧w'.cell? ⟨b,off+k*6+4,none⟩=some (.bool ask1)∧w'.cell? ⟨b,off+k*6+5,none⟩=some (.slice sa1 sl sb1)) (by kernel_rfl) ⟨bs.at 0 1,HC1.out _ q,HC2.out _ q,HC3.out _ q,HC4.out _ q,HC5.out _ q,HC6.out _ q⟩ (fun hH=>?_);generalize wr.drew=w21 at bs q y21 hH ⊢;refine rS [(0,some 49),(1,some 50),(2,some 51),(3,some 52),(4,some 53)] ?_
       iterate 5 refine aS ?_
       refine rE ?_
       refine aC (i:=5) fun K hK=>?_
       go_simp;refine(CX2.out w21 q).mono ?_;rintro e w22 ⟨rfl,hb⟩;replace bs:=bs.ret hb;replace q:=bs.q;clear hb;go_simp;clear hH;refine hK.out _ _ ⟨bs.at 0 1,HC1.out _ q,HC2.out _ q,HC3.out _ q,HC4.out _ q,HC5.out _ q,HC6.out _ q⟩ (fun hH=>?_);clear hK K;refine rS [(6,some 55),(7,some 56),(8,some 57),(9,some 58),(10,some 59)] ?_
       iterate 5 refine aS ?_
       refine rE ?_;refine rS [(11,some 60),(12,some 61),(13,some 62),(14,some 63),(15,some 64),(16,some 65),(17,some 66),(18,some 67),(19,some 68),(20,some 69),(21,some 70),(22,some 71),(23,some 72),(24,some 73),(25,some 74)] ?_
       iterate 15 refine aF ?_
       refine rE ?_;refine rS [(26,some 75),(27,some 76)] ?_
       iterate 2 refine aS ?_
       refine rE ?_;refine aD ?_;clear hH;have c_c0:=bs.b3 0;go_upto_region 11 with fail;clear c_c0;replace bs:=bs.ret (ws (bQ _));replace q:=bs.q
       have y23:w22.drew.heap.size=w22.heap.size:=rfl
       refine wp_region_held_drew (S:=fun w'=>w'.cell? ⟨w.heap.size,0,none⟩=some (.slice a1 LA1 b1)∧w'.cell? ⟨w.heap.size,1,none⟩=some (.slice (some ⟨b,off,none⟩) LR1 s1)∧w'.cell? ⟨w.heap.size,2,none⟩=some (.int .i64 m1)∧w'.cell? ⟨b,off+k*6,none⟩=some (.string jb)) (by kernel_rfl) ⟨bs.at 0 0,bs.at 0 1,bs.at 0 2,HC1.out _ q⟩ (fun hH=>?_);generalize w22.drew=w23 at bs q y23 hH ⊢;refine rS [(0,some 78),(1,some 79),(2,some 80),(3,some 81),(4,some 82),(5,some 83),(6,some 84)] ?_
       iterate 7 refine aS ?_
       refine rE ?_;refine wpAnyH_ready (rs:=[7,12]) (by kernel_rfl) (by simp) ?_;refine az (by kernel_rfl) (fun o ho K hK=>?_) ?_
       ·simp only[wt,wu,wv,wq] at ho
        subst ho;go_simp;refine(CB2.out w23).mono ?_;rintro e w24 ⟨rfl,hb⟩;replace bs:=bs.ret hb;replace q:=bs.q;clear hb;go_simp;clear hH;refine hK.out _ _ ⟨bs.at 0 0,bs.at 0 1,bs.at 0 2,HC1.out _ q⟩ (fun hH=>?_);clear hK K;refine wpAnyH_ready (rs:=[8,12]) (by kernel_rfl) (by simp) ?_;refine az (by kernel_rfl) (fun o ho K hK=>?_) ?_
        ·simp only[wt,wu,wv,wq] at ho
         subst ho;go_simp;refine(CF2.out w24 q).mono ?_;rintro e w25 ⟨rfl,hb⟩;replace bs:=bs.ret hb;replace q:=bs.q;clear hb;go_simp;clear hH;refine hK.out _ _ ⟨bs.at 0 0,bs.at 0 1,bs.at 0 2,HC1.out _ q⟩ (fun hH=>?_);clear hK K;refine rS [(9,some 77),(10,some 87),(11,some 88)] ?_
         iterate 3 refine aS ?_
         refine rE ?_
         refine aC (i:=12) fun K hK=>?_
         go_simp;obtain⟨w26,hw26,y26,al,bs⟩:=bs.alloc (w25.heap.size) rfl [.string ⟨#[]⟩,.slice none 0 0,.int .i64 0] 33;clear al;replace q:=bs.q;rw[hw26];clear hH;refine hK.out _ _ ⟨bs.at 0 0,bs.at 0 1,bs.at 0 2,HC1.out _ q⟩ (fun hH=>?_);clear hK K
         refine aC (i:=13) fun K hK=>?_
         have c_f0:=bs.b3 1;have f_f0:=bs.g3 1;go_simp;clear c_f0 f_f0;obtain⟨w27,hw27,y27,bs⟩:=bs.sets 1 0 [.string fb,.slice fa fl fc,.int .i64 fv] rfl (wB rfl);replace q:=bs.q;simp only[wC,Nat.reduceAdd] at hw27;rw[hw27];clear hH;refine hK.out _ _ ⟨bs.at 0 0,bs.at 0 1,bs.at 0 2,HC1.out _ q⟩ (fun hH=>?_);clear hK K;refine rS [(14,some 6)] ?_;refine aS ?_;refine rE ?_;refine aD ?_;clear hH
         cases W1 with
         | false=>
          have HB:=h_ (HB1.out (HQ.out.trans (by first | rfl | (cases G <;> rfl))))
          go_wp2_with fail;go_ret;exact⟨by rw[HB.out];first | done | rfl,q⟩
         | true=>
          go_wp2_with fail;go_roundw
          case rel=>exact⟨k+1,by go_num,by omega,HSN.out (HQ.out.trans rfl),HCH.out,bs.some 1⟩
          case measure=>simp[intOf];omega
        refine az (by kernel_rfl) (fun o ho K hK=>?_) ?_
        ·simp only[wt,wu,wv,wq] at ho
         subst ho;go_simp;obtain⟨w25,hw25,y25,al,bs⟩:=bs.alloc (w24.heap.size) rfl [.string ⟨#[]⟩,.slice none 0 0,.int .i64 0] 33;clear al;replace q:=bs.q;rw[hw25];clear hH;refine hK.out _ _ ⟨bs.at 0 0,bs.at 0 1,bs.at 0 2,HC1.out _ q⟩ (fun hH=>?_);clear hK K
         refine aC (i:=8) fun K hK=>?_
         go_simp;refine(CF2.out w25 q).mono ?_;rintro e w26 ⟨rfl,hb⟩;replace bs:=bs.ret hb;replace q:=bs.q;clear hb;go_simp;clear hH;refine hK.out _ _ ⟨bs.at 0 0,bs.at 0 1,bs.at 0 2,HC1.out _ q⟩ (fun hH=>?_);clear hK K;refine rS [(9,some 77),(10,some 87),(11,some 88)] ?_
         iterate 3 refine aS ?_
         refine rE ?_
         refine aC (i:=13) fun K hK=>?_
         have c_f0:=bs.b3 1;have f_f0:=bs.g3 1;go_simp;clear c_f0 f_f0;obtain⟨w27,hw27,y27,bs⟩:=bs.sets 1 0 [.string fb,.slice fa fl fc,.int .i64 fv] rfl (wB rfl);replace q:=bs.q;simp only[wC,Nat.reduceAdd] at hw27;rw[hw27];clear hH;refine hK.out _ _ ⟨bs.at 0 0,bs.at 0 1,bs.at 0 2,HC1.out _ q⟩ (fun hH=>?_);clear hK K;refine rS [(14,some 6)] ?_;refine aS ?_;refine rE ?_;refine aD ?_;clear hH
         cases W1 with
         | false=>
          have HB:=h_ (HB1.out (HQ.out.trans (by first | rfl | (cases G <;> rfl))))
          go_wp2_with fail;go_ret;exact⟨by rw[HB.out];first | done | rfl,q⟩
         | true=>
          go_wp2_with fail;go_roundw
          case rel=>exact⟨k+1,by go_num,by omega,HSN.out (HQ.out.trans rfl),HCH.out,bs.some 1⟩
          case measure=>simp[intOf];omega
        exact AllReadyH.nil
       refine az (by kernel_rfl) (fun o ho K hK=>?_) ?_
       ·simp only[wt,wu,wv,wq] at ho
        subst ho;go_simp;obtain⟨w24,hw24,y24,al,bs⟩:=bs.alloc (w22.heap.size) (by omega) [.string ⟨#[]⟩,.slice none 0 0,.int .i64 0] 33;clear al;replace q:=bs.q;rw[hw24];clear hH;refine hK.out _ _ ⟨bs.at 0 0,bs.at 0 1,bs.at 0 2,HC1.out _ q⟩ (fun hH=>?_);clear hK K
        refine aC (i:=7) fun K hK=>?_
        go_simp;refine(CB2.out w24).mono ?_;rintro e w25 ⟨rfl,hb⟩;replace bs:=bs.ret hb;replace q:=bs.q;clear hb;go_simp;clear hH;refine hK.out _ _ ⟨bs.at 0 0,bs.at 0 1,bs.at 0 2,HC1.out _ q⟩ (fun hH=>?_);clear hK K
        refine aC (i:=8) fun K hK=>?_
        go_simp;refine(CF2.out w25 q).mono ?_;rintro e w26 ⟨rfl,hb⟩;replace bs:=bs.ret hb;replace q:=bs.q;clear hb;go_simp;clear hH;refine hK.out _ _ ⟨bs.at 0 0,bs.at 0 1,bs.at 0 2,HC1.out _ q⟩ (fun hH=>?_);clear hK K;refine rS [(9,some 77),(10,some 87),(11,some 88)] ?_
        iterate 3 refine aS ?_
        refine rE ?_
        refine aC (i:=13) fun K hK=>?_
        have c_f0:=bs.b3 1;have f_f0:=bs.g3 1;go_simp;clear c_f0 f_f0;obtain⟨w27,hw27,y27,bs⟩:=bs.sets 1 0 [.string fb,.slice fa fl fc,.int .i64 fv] rfl (wB rfl);replace q:=bs.q;simp only[wC,Nat.reduceAdd] at hw27;rw[hw27];clear hH;refine hK.out _ _ ⟨bs.at 0 0,bs.at 0 1,bs.at 0 2,HC1.out _ q⟩ (fun hH=>?_);clear hK K;refine rS [(14,some 6)] ?_;refine aS ?_;refine rE ?_;refine aD ?_;clear hH
        cases W1 with
        | false=>
         have HB:=h_ (HB1.out (HQ.out.trans (by first | rfl | (cases G <;> rfl))))
         go_wp2_with fail;go_ret;exact⟨by rw[HB.out];first | done | rfl,q⟩
        | true=>
         go_wp2_with fail;go_roundw
         case rel=>exact⟨k+1,by go_num,by omega,HSN.out (HQ.out.trans rfl),HCH.out,bs.some 1⟩
         case measure=>simp[intOf];omega
       exact AllReadyH.nil
    ·have wl : ¬ (k : Int) < (LR1 : Int) := by omega
     have e9:(R.map RsI.d).take k=(R.map RsI.d):=wF (by rw[wz,HLR.out];omega)
     rw[e9] at hT hC;have HTR:=h_ hT;have HCR:=h_ hC;clear hT hC e9 hk;have HO:=h_ (HE.out HTA.out HCA.out HTR.out HCR.out)
     by_cases h1:LA1≤8
     rotate_left
     ·have gh1 : ¬ ((LA1 : Int) ≤ 8) := by first | exact h1 | omega
      have HB:Hid (O=false):=h_ (by rw[HO.out,decide_eq_false h1];simp)
      clear h1;have c_c0:=bs.b3 0;go_wp2_with fail;go_ret;exact⟨by rw[HB.out];first | done | rfl,q⟩
     ·have gh1 : ((LA1 : Int) ≤ 8) := by first | exact h1 | omega
      by_cases h2:LR1≤16
      rotate_left
      ·have gh2 : ¬ ((LR1 : Int) ≤ 16) := by first | exact h2 | omega
       have HB:Hid (O=false):=h_ (by rw[HO.out,decide_eq_false h2];simp)
       clear h2;have c_c0:=bs.b3 0;go_wp2_with fail;go_ret;exact⟨by rw[HB.out];first | done | rfl,q⟩
      ·have gh2 : ((LR1 : Int) ≤ 16) := by first | exact h2 | omega
       by_cases h3:0≤m1
       rotate_left
       ·have gh3 : ¬ 0 ≤ m1 := by first | exact h3 | omega
        have HB:Hid (O=false):=h_ (by rw[HO.out,decide_eq_false h3];simp)
        clear h3;have c_c0:=bs.b3 0;go_wp2_with fail;go_ret;exact⟨by rw[HB.out];first | done | rfl,q⟩
       ·have gh3 : 0 ≤ m1 := by first | exact h3 | omega
        by_cases h4:m1<fw
        rotate_left
        ·have gh4 : ¬ (m1 < 9007199254740991) := by first | exact h4 | omega
         have HB:Hid (O=false):=h_ (by rw[HO.out,decide_eq_false h4];simp)
         clear h4;have c_c0:=bs.b3 0;go_wp2_with fail;go_ret;exact⟨by rw[HB.out];first | done | rfl,q⟩
        ·have gh4 : (m1 < 9007199254740991) := by first | exact h4 | omega
         have HB:Hid (O=true):=h_ (by rw[HO.out,decide_eq_true h1,decide_eq_true h2,decide_eq_true h3,decide_eq_true h4];rfl)
         clear h1 h2 h3 h4;have c_c0:=bs.b3 0;go_wp2_with fail;go_ret;exact⟨by rw[HB.out];first | done | rfl,q⟩
theorem pm (c:CoI) (w:World) (hs:c.sub w) (hf:CoFitD c.d):Calls prog 31 #[c.v] w (Ret w (.int .i64 (if kq aA c.d then 0 else 8))):=by
 have CM:=fun (W:World) (hb:Bl w W)=>rV c W (hs.ret hb) hf
 obtain⟨O,hO⟩:=e_ (kq aA c.d);simp only[hO] at CM ⊢;obtain⟨a1,ha1⟩:=e_ c.aa.1;obtain⟨b1,hb1⟩:=e_ c.aa.2;obtain⟨LA1,hLA1⟩:=e_ c.A.length;obtain⟨r1,hr1⟩:=e_ c.ra.1;obtain⟨s1,hs1⟩:=e_ c.ra.2;obtain⟨LR1,hLR1⟩:=e_ c.R.length;obtain⟨m1,hm1⟩:=e_ c.m
 have e_c:c.v=.agg #[.slice a1 LA1 b1,.slice r1 LR1 s1,.int .i64 m1]:=by rw[←ha1,←hb1,←hLA1,←hr1,←hs1,←hLR1,←hm1]
 simp only[e_c] at CM ⊢;replace CM:=h_ CM;clear hs hf hO e_c ha1 hb1 hLA1 hr1 hs1 hLR1 hm1
 cases O with
 | true=>
  obtain⟨W0,hW,y0,bs⟩:=Sx.start1 w [.slice a1 LA1 b1,.slice r1 LR1 s1,.int .i64 m1] 25;have HW:=h_ hW;clear hW;have q:=bs.q;go_enter func31,ntmps31;go_wp2_with fail;rw[HW.out];have c_c0:=bs.b3 0;go_wp2_with fail;refine(CM.out W0 q).mono ?_;rintro e w1 ⟨rfl,hb⟩;clear c_c0;replace bs:=bs.ret hb;replace q:=bs.q;clear hb;have c_c0:=bs.b3 0;go_wp2_with fail;go_ret;exact⟨rfl,q⟩
 | false=>
  obtain⟨W0,hW,y0,bs⟩:=Sx.start1 w [.slice a1 LA1 b1,.slice r1 LR1 s1,.int .i64 m1] 25;have HW:=h_ hW;clear hW;have q:=bs.q;go_enter func31,ntmps31;go_wp2_with fail;rw[HW.out];have c_c0:=bs.b3 0;go_wp2_with fail;refine(CM.out W0 q).mono ?_;rintro e w1 ⟨rfl,hb⟩;clear c_c0;replace bs:=bs.ret hb;replace q:=bs.q;clear hb;have c_c0:=bs.b3 0;go_wp2_with fail;go_ret;exact⟨rfl,q⟩
end Go.Proofs.YtjgeiieiinmdnaaGreatDoor
