/- GrA, GrB: put together by mergetpl.py. -/
import Derived.Test.YtjgeiieiinmdnaaGreatDoorLo
import Derived.BigRegion
open Go.Proofs.Tryz
open Go.Value.slice renaming injEq→wt
open List renaming getElem?_eq_getElem→wq,getElem_mem→wu,length_map→wv,mem_map→ww,take_succ_eq_append_getElem→wz,mem_append→wA,mem_singleton→wB,take_of_length_le→wC,getElem?_eq_none→wF
open Nat renaming zero_le→ws,le_trans→wy,le_refl→wD,lt_or_ge→wE
open Option.some renaming inj→wG
namespace Go.Proofs.YtjgeiieiinmdnaaGreatDoor
set_option maxHeartbeats 4000000
set_option maxRecDepth 100000
open Go.RowKit Go.Lib

def ux (P:Prop) (w:World) (e:Ending) (w':World):Prop:=∃b,e=.returned (.bool b)∧(b=false→P)∧Bl w w'
def mn (l:List UInt8):Nat:=min l.length 20000
theorem ml {l:List UInt8} {s:ByteArray} (h:ByteArray.mk l.toArray=s):min (s.size:Int) 20000=(mn l:Int):=by
 have:s.size=l.length:=by rw[←h,←ab]
 rw[this];unfold mn
 omega
structure NdB (m:Nat) (n:Nd):Prop where
 sp:mn n.2.1≤m
 nm:mn n.2.2.1≤m
 tx:mn n.2.2.2.2.1≤m
 al:n.2.2.2.1.length≤30
 at':∀a∈n.2.2.2.1,mn a.1≤m∧mn a.2.1≤m∧mn a.2.2≤m
theorem NdB.mono {m m':Nat} {n:Nd} (h:NdB m n) (hm:m≤m'):NdB m' n:=⟨wy h.sp hm,wy h.nm hm,wy h.tx hm,h.al,fun a ha=>by have:=h.at' a ha;omega⟩
theorem mK {l:List UInt8} (h:mn l≤300):l.length≤300:=by unfold mn at h;omega
theorem NdB.sm {m:Nat} {n:Nd} (h:NdB m n) (hm:m≤300):NdSm n:=
 ⟨mK (by have:=h.sp;omega),mK (by have:=h.nm;omega),mK (by have:=h.tx;omega),h.al,fun a ha=>by have:=h.at' a ha;exact⟨mK (by omega),mK (by omega),mK (by omega)⟩⟩
theorem pf (T:List NdI) (va:Option Addr) (L vc:Nat) (w:World) (hv:IsL ndY (.slice va L vc) T w) (hL:T.length=L):Calls prog 102 #[.slice va L vc,.int .i64 20,.int .i64 300] w (ux (tT (T.map Prod.fst)) w):=by
 have HV:=h_ hv;have HL:=h_ hL
 have hml:(T.map Prod.fst).length=L:=by rw[wv,hL]
 have HML:=h_ hml;clear hv hL hml;go_enter func102,ntmps102;go_wp2_with fail;go_loopw [7,8] (fun n i wx=>∃m k:Nat,n=.int .i64 m∧i=.int .i64 k∧k≤L∧k≤600∧m≤1800300∧(∀x∈T.take k,NdB m x.1)∧Bl w wx) (fun _ i _=>600-(intOf i).toNat)
 case atStart=>exact⟨0,0,rfl,rfl,ws _,by omega,by omega,(fun x hx=>by simp at hx),bQ _⟩
 case round=>
  obtain⟨m,k,rfl,rfl,hk,hk6,hm,hB,q⟩:=hrel
  by_cases hlt:k<L
  ·by_cases h6:k<600
   ·have hkM : k < T.length := by rw [HL.out]; exact hlt
    obtain⟨x,hx⟩:=e_ (T[k]);have hkx:T[k]?=some x:=(by rw[wq hkM,hx]);have hxm:x∈T:=(by rw[←hx];exact wu hkM);obtain⟨b,off,cp,hf,-,hc⟩:=HV.out.cells hkx;rw[HL.out] at hf;simp only[wt,true_and] at hf;obtain⟨rfl,rfl⟩:=hf
    have hsn:∀m',(∀y∈T.take k,NdB m' y.1)→NdB m' x.1→∀y∈T.take (k+1),NdB m' y.1:=fun m' h1 h2 y hy=>by
     rw[wz hkM,wA] at hy
     rcases hy with hy | hy
     ·exact h1 y hy
     ·rw[wB.1 hy,hx]
      exact h2
    have hA:IsL atY (ndV x) (ndA x) w:=HV.out.2.2 x hxm;obtain⟨s1,t1⟩:=e_ (ByteArray.mk x.1.2.1.toArray);obtain⟨s2,t2⟩:=e_ (ByteArray.mk x.1.2.2.1.toArray);obtain⟨s3,t3⟩:=e_ (ByteArray.mk x.1.2.2.2.2.1.toArray);have i1:=ml t1;have i2:=ml t2;have i3:=ml t3;obtain⟨xa,hxa⟩:=e_ x.2.1;obtain⟨xc,hxc⟩:=e_ x.2.2;obtain⟨XA,hXA⟩:=e_ (ndA x);obtain⟨LA,hLA⟩:=e_ XA.length
    have HC:=h_ fun (w':World) (hb:Bl w w')=>show w'.cell? ⟨b,off+k*6+1,none⟩=some (.string s1)∧w'.cell? ⟨b,off+k*6+2,none⟩=some (.string s2)∧w'.cell? ⟨b,off+k*6+3,none⟩=some (.slice xa LA xc)∧w'.cell? ⟨b,off+k*6+4,none⟩=some (.string s3) from
     (by rw[←t1,←t2,←t3,←hxa,←hLA,←hxc,←hXA];exact⟨hc w' hb 1 _ rfl,hc w' hb 2 _ rfl,hc w' hb 3 _ rfl,hc w' hb 4 _ rfl⟩)
    have hA2:IsL atY (.slice xa LA xc) XA w:=(by rw[←hxa,←hLA,←hxc,←hXA];exact hA);obtain⟨p1,hp1⟩:=e_ (mn x.1.2.1);obtain⟨p2,hp2⟩:=e_ (mn x.1.2.2.1);obtain⟨p3,hp3⟩:=e_ (mn x.1.2.2.2.2.1);have r1:p1≤20000:=(by rw[←hp1];unfold mn;omega);have r2:p2≤20000:=(by rw[←hp2];unfold mn;omega);have r3:p3≤20000:=(by rw[←hp3];unfold mn;omega)
    have hnd:∀m',m+p2+p1+p3≤m'→LA≤30→(∀a∈XA,mn a.1≤m'∧mn a.2.1≤m'∧mn a.2.2≤m')→NdB m' x.1:=fun m' h1 h2 h3=>by
     refine⟨by omega,by omega,by omega,?_,?_⟩
     ·have : (ndA x).length ≤ 30 := by rw [hXA, hLA]; exact h2
      exact this
     ·show ∀a∈ndA x,_
      rw[hXA];exact h3
    rw[hp1] at i1;rw[hp2] at i2;rw[hp3] at i3;have HS:=h_ hsn;have HN:=h_ hnd;have HA:=h_ hA2;have HLA:=h_ hLA;have HB:=h_ hB;clear hc hkx hxm hx hkM hsn hnd hA hA2 hp1 hp2 hp3 t1 t2 t3 hxa hxc hXA hLA hB;obtain⟨c1,c2,c3,c4⟩:=HC.out wr q;have wl:(k:Int)<(L:Int):=(by omega);have w6:(k:Int)<600:=(by omega);go_wp2_with fail;go_region;have q1:Bl w wr.drew:=q.trans ((Below.drew (bQ _)).mono q.size);clear c1 c2 c3 c4 q;clear i1 i2 i3;obtain⟨N,hN⟩:=e_ (m+p2+p1+p3);have hN2:(m:Int)+(p2:Int)+(p1:Int)+(p3:Int)=(N:Int):=(by omega);rw[hN2];generalize wr.drew=W1 at q1 ⊢;obtain⟨c1,c2,c3,c4⟩:=HC.out W1 q1
    by_cases hA:(30:Int)<(LA:Int)
    ·go_wp2_with fail
     go_ret;exact⟨true,rfl,(fun h=>by cases h),q1⟩
    ·by_cases hB:(300:Int)<(N:Int)
     ·go_wp2_with fail
      go_ret;exact⟨true,rfl,(fun h=>by cases h),q1⟩
     ·clear c1 c2 c4
      go_wp2_with fail;clear c3;go_loopw [7,9] (fun n i wx=>∃m' j:Nat,n=.int .i64 m'∧i=.int .i64 j∧j≤LA∧N≤m'∧m'≤300+60000*j∧(∀a∈XA.take j,mn a.1≤m'∧mn a.2.1≤m'∧mn a.2.2≤m')∧Bl w wx) (fun _ i _=>LA-(intOf i).toNat)
      case atStart=>exact⟨N,0,rfl,rfl,ws _,wD _,by omega,(fun x hx=>by simp at hx),q1⟩
      case round=>
       clear q1;obtain⟨m',j,rfl,rfl,hj,hNm,hm',hXA,q⟩:=hrel;obtain⟨-,-,c3,-⟩:=HC.out _ q
       by_cases hlj:j<LA
       ·have hjM : j < XA.length := by rw [HLA.out]; exact hlj
        obtain⟨y,hy⟩:=e_ (XA[j]);have hjy:XA[j]?=some y:=(by rw[wq hjM,hy]);obtain⟨b2,off2,cp2,hf,-,hd⟩:=HA.out.cells hjy;rw[HLA.out] at hf;simp only[wt,true_and] at hf;obtain⟨rfl,rfl⟩:=hf
        have hsn:∀m'',(∀a∈XA.take j,mn a.1≤m''∧mn a.2.1≤m''∧mn a.2.2≤m'')→(mn y.1≤m''∧mn y.2.1≤m''∧mn y.2.2≤m'')→∀a∈XA.take (j+1),mn a.1≤m''∧mn a.2.1≤m''∧mn a.2.2≤m'':=fun m'' h1 h2 a ha=>by
         rw[wz hjM,wA] at ha
         rcases ha with ha | ha
         ·exact h1 a ha
         ·rw[wB.1 ha,hy]
          exact h2
        obtain⟨z1,t1⟩:=e_ (ByteArray.mk y.1.toArray);obtain⟨z2,t2⟩:=e_ (ByteArray.mk y.2.1.toArray);obtain⟨z3,t3⟩:=e_ (ByteArray.mk y.2.2.toArray);have i1:=ml t1;have i2:=ml t2;have i3:=ml t3
        obtain⟨d1,d2,d3⟩:wr.cell? ⟨b2,off2+j*3,none⟩=some (.string z1)∧wr.cell? ⟨b2,off2+j*3+1,none⟩=some (.string z2)∧wr.cell? ⟨b2,off2+j*3+2,none⟩=some (.string z3):=
         (by rw[←t1,←t2,←t3];exact⟨hd wr q 0 _ rfl,hd wr q 1 _ rfl,hd wr q 2 _ rfl⟩)
        obtain⟨r1,hr1⟩:=e_ (mn y.1);obtain⟨r2,hr2⟩:=e_ (mn y.2.1);obtain⟨r3,hr3⟩:=e_ (mn y.2.2);have g1:r1≤20000:=(by rw[←hr1];unfold mn;omega);have g2:r2≤20000:=(by rw[←hr2];unfold mn;omega);have g3:r3≤20000:=(by rw[←hr3];unfold mn;omega);rw[hr1] at i1 hsn;rw[hr2] at i2 hsn;rw[hr3] at i3 hsn;have HS2:=h_ hsn;have HX2:=h_ hXA;have wj:(j:Int)<(LA:Int):=(by omega);have hLA3:LA≤30:=(by omega);have q2:=q.trans (((bR wr).alloc (wD _) (.cells #[.string z1,.string z2,.string z3] 160)).mono q.size);clear hd hjy hy hjM hsn t1 t2 t3 hr1 hr2 hr3 hXA;go_wp2_with fail;clear i1 i2 i3;have hn2:(m':Int)+(r2:Int)+(r1:Int)+(r3:Int)=((m'+r2+r1+r3:Nat):Int):=(by omega);rw[hn2];go_roundw
        case rel=>exact⟨m'+r2+r1+r3,j+1,rfl,by go_num,by omega,by omega,by omega,HS2.out _ (fun a ha=>by have:=HX2.out a ha;omega) ⟨by omega,by omega,by omega⟩,q2⟩
        case measure=>simp[intOf];omega
       ·have e:XA.take j=XA:=wC (by rw[HLA.out];omega)
        rw[e] at hXA;have hNB:=HN.out m' (by omega) (by omega) hXA;have HNB:=h_ hNB;clear hXA hNB e;go_wp2_with fail;go_roundw
        case rel=>exact⟨m',k+1,rfl,by go_num,by omega,by omega,by omega,HS.out m' (fun y hy=>(HB.out y hy).mono (by omega)) HNB.out,q⟩
        case measure=>simp[intOf];omega
   ·obtain rfl : k = 600 := by omega
    have hL20:(20:Int)<(L:Int):=(by omega);have wl:(600:Int)<(L:Int):=(by omega);clear hB;go_wp2_with fail;go_ret;exact⟨true,rfl,(fun h=>by cases h),q⟩
  ·have wl : ¬ (k : Int) < (L : Int) := by omega
   by_cases h20:(20:Int)<(L:Int)
   ·clear hB
    go_wp2_with fail;go_ret;exact⟨true,rfl,(fun h=>by cases h),q⟩
   ·by_cases h300:(300:Int)<(m:Int)
    ·clear hB
     go_wp2_with fail;go_ret;exact⟨true,rfl,(fun h=>by cases h),q⟩
    ·have hP:tT (T.map Prod.fst):=by
      have e:T.take k=T:=wC (by rw[HL.out];omega)
      rw[e] at hB;refine⟨by rw[HML.out];omega,fun n hn=>?_⟩;obtain⟨y,hy,rfl⟩:=ww.1 hn;exact(hB y hy).sm (by omega)
     have HP:=h_ hP;clear hB hP;go_wp2_with fail;go_ret;exact⟨false,rfl,(fun _=>HP.out),q⟩

theorem dL {a:Option Addr} {n c:Nat} {g:List (List UInt8)} {w:World} (h:aB (.slice a n c) g w) {k:Nat} {s:List UInt8} (hk:g[k]?=some s):∃b off,a=some ⟨b,off,none⟩∧∀w',Bl w w'→w'.cell? ⟨b,off+k,none⟩=some (.string ⟨s.toArray⟩):=by
 have hkl:k<g.length:=by
  rcases wE k g.length with h1 | h1
  ·exact h1
  ·rw[wF h1] at hk;cases hk
 have hs:g[k]=s:=by rw[wq hkl] at hk;exact wG hk
 obtain⟨b,off,cp,hf,hb,hc⟩:=bn h.1 (k:=k) (by rw[aj];exact hkl);simp only[wt] at hf;obtain⟨rfl,-,-⟩:=hf;refine⟨b,off,rfl,fun w' hw=>?_⟩;rw[(af hw).1 _ _ hb,hc k (by rw[aj];exact hkl)]
 simp[aY,hs]
theorem dC {α:Type} {P:α→Prop} {l:List α} {k:Nat} {x:α} (hx:l[k]?=some x) (h:∀y∈l.take k,P y) (h2:P x):∀y∈l.take (k+1),P y:=fun y hy=>by
 have hkl:k<l.length:=by
  rcases wE k l.length with h1 | h1
  ·exact h1
  ·rw[wF h1] at hx;cases hx
 have hs:l[k]=x:=by rw[wq hkl] at hx;exact wG hx
 rw[wz hkl,wA] at hy
 rcases hy with hy | hy
 ·exact h y hy
 ·rw[wB.1 hy,hs]
  exact h2
theorem dY {α:Type} {P:α→Prop} {l:List α} {k:Nat} (hk:l.length≤k) (h:∀y∈l.take k,P y):∀y∈l,P y:=by rwa [wC hk] at h
theorem jQ (x:RsI) (w:World) (hs:rsY.sub x w):Calls prog 47 #[x.v] w (ux (ReSm x.d) w):=by
 have hL:IsL trY x.lv x.ld w:=hs.1;have hS:aB x.sv x.st w:=hs.2
 have hP:x.j.length≤300→x.ld.length≤18→x.st.length≤12→(∀t∈x.ld,tT (trD t))→(∀s∈x.st,s.length≤300)→ReSm x.d:=fun h1 h2 h3 h4 h5=>
  ⟨h1,by show (x.ld.map trD).length≤18;rw[wv];exact h2,h3,fun t ht=>by obtain⟨y,hy,rfl⟩:=ww.1 ht;exact h4 y hy,h5⟩
 have CG:=fun (t:TrI) (ht:t∈x.ld) (W:World) (hb:Bl w W)=>pf t.1 t.2.1 t.1.length t.2.2 W (IsL.ret (hL.2.2 t ht) hb) rfl
 have CG:=h_ CG;clear hs;obtain⟨X,hX⟩:∃X:Prop,X=ReSm x.d:=⟨_,rfl⟩;rw[←hX] at hP ⊢;clear hX;obtain⟨xj,on1,pr1,xl,⟨la1,lb1⟩,ask1,xs,⟨sa1,sb1⟩⟩:=x;obtain⟨jb1,hjb⟩:=e_ (ByteArray.mk xj.toArray)
 have hz:jb1.size=xj.length:=by rw[←hjb,←ab]
 obtain⟨LL1,hLL⟩:=e_ xl.length;obtain⟨SL1,hSL⟩:=e_ xs.length;have hL:IsL trY (.slice la1 xl.length lb1) xl w:=hL;have hS:aB (.slice sa1 xs.length sb1) xs w:=hS;rw[hLL] at hL hP;rw[hSL] at hS hP
 show Calls _ _ #[.agg #[.string ⟨xj.toArray⟩,.bool on1,.int .i64 pr1,.slice la1 xl.length lb1,.bool ask1,.slice sa1 xs.length sb1]] w _
 rw[hjb,hLL,hSL];have HP:=h_ hP;have HLL:=h_ hLL;have HSL:=h_ hSL;have HL:=h_ hL;have HS:=h_ hS;clear hP hjb hLL hSL hL hS;obtain⟨W0,hW,y0,bs⟩:=Sx.start1 w [.string jb1,.bool on1,.int .i64 pr1,.slice la1 LL1 lb1,.bool ask1,.slice sa1 SL1 sb1] 38;have HW:=h_ hW;clear hW;have q:=bs.q;go_enter func47,ntmps47;go_upto_region 1 with fail;rw[HW.out]
 by_cases h1:(300:Int)<(jb1.size:Int)
 ·have h1d:decide ((300:Int)<(jb1.size:Int))=true:=decide_eq_true h1
  have c_r0:=bs.b6 0;go_wp2_with fail;go_ret;exact⟨true,rfl,(fun h=>by cases h),q⟩
 ·have h1d:decide ((300:Int)<(jb1.size:Int))=false:=decide_eq_false h1
  by_cases h2:(18:Int)<(LL1:Int)
  ·have h2d:decide ((18:Int)<(LL1:Int))=true:=decide_eq_true h2
   have c_r0:=bs.b6 0;go_wp2_with fail;go_ret;exact⟨true,rfl,(fun h=>by cases h),q⟩
  ·have h2d:decide ((18:Int)<(LL1:Int))=false:=decide_eq_false h2
   by_cases h3:(12:Int)<(SL1:Int)
   ·have h3d:decide ((12:Int)<(SL1:Int))=true:=decide_eq_true h3
    have c_r0:=bs.b6 0;go_wp2_with fail;go_ret;exact⟨true,rfl,(fun h=>by cases h),q⟩
   ·have h3d:decide ((12:Int)<(SL1:Int))=false:=decide_eq_false h3
    have c_r0:=bs.b6 0;go_wp2_with fail;clear c_r0;go_loopw [3] (fun i wx=>∃k:Nat,i=.int .i64 k∧k≤LL1∧(∀t∈xl.take k,tT (trD t))∧Sx w [(w.heap.size,[.string jb1,.bool on1,.int .i64 pr1,.slice la1 LL1 lb1,.bool ask1,.slice sa1 SL1 sb1])] wx) (fun i _=>LL1-(intOf i).toNat)
    case atStart=>exact⟨0,rfl,ws _,(fun t ht=>by simp at ht),bs⟩
    case round=>
     clear bs q;obtain⟨k,rfl,hk,hT,bs⟩:=hrel;have q:=bs.q
     by_cases hlt:k<LL1
     ·have hkM : k < xl.length := by rw [HLL.out]; exact hlt
      obtain⟨t,ht⟩:=e_ (xl[k]);have hkt:xl[k]?=some t:=(by rw[wq hkM,ht]);have htm:t∈xl:=(by rw[←ht];exact wu hkM);obtain⟨b,off,cp,hf,-,hc⟩:=HL.out.cells hkt;rw[HLL.out] at hf;simp only[wt,true_and] at hf;obtain⟨rfl,rfl⟩:=hf;have CG1:=CG.out t htm
      have HSN:=h_ fun h=>dC (P:=fun t=>tT (trD t)) hkt hT h
      obtain⟨t0,ta,tc⟩:=t;obtain⟨tl,htl⟩:=e_ t0.length;simp only[htl] at CG1
      have c9:wr.cell? ⟨b,off+k,none⟩=some (.slice ta tl tc):=by
       have h:=hc wr q 0 _ rfl;rw[←htl]
       rwa [show off+k*trY.n+0=off+k from (by show off+k*1+0=off+k;omega)] at h
      replace CG1:=h_ CG1;have wl:(k:Int)<(LL1:Int):=(by omega);clear ht hkt htm hc htl hT;have c_r0:=bs.b6 0;go_wp2_with fail;refine(CG1.out wr q).mono ?_;rintro e w21 ⟨g,rfl,hg,hb⟩;clear c_r0;replace bs:=bs.ret hb;replace q:=bs.q;clear hb;clear c9
      cases g with
      | true=>
       go_wp2_with fail;go_ret;exact⟨true,rfl,(fun h=>by cases h),q⟩
      | false=>
       have HG:=h_ (hg rfl);clear hg;go_wp2_with fail;go_roundw
       case rel=>exact⟨k+1,by go_num,by omega,HSN.out HG.out,bs⟩
       case measure=>simp[intOf];omega
     ·have wl : ¬ (k : Int) < (LL1 : Int) := by omega
      have hT2:=dY (by rw[HLL.out];omega) hT;have HT:=h_ hT2;clear hT hT2;have c_r0:=bs.b6 0;go_wp2_with fail;clear c_r0;go_loopw [4] (fun i wx=>∃e:Nat,i=.int .i64 e∧e≤SL1∧(∀s∈xs.take e,s.length≤300)∧Sx w [(w.heap.size,[.string jb1,.bool on1,.int .i64 pr1,.slice la1 LL1 lb1,.bool ask1,.slice sa1 SL1 sb1])] wx) (fun i _=>SL1-(intOf i).toNat)
      case atStart=>exact⟨0,rfl,ws _,(fun t ht=>by simp at ht),bs⟩
      case round=>
       clear bs q;obtain⟨e,rfl,he,hT,bs⟩:=hrel;have q:=bs.q
       by_cases hle:e<SL1
       ·have hkM : e < xs.length := by rw [HSL.out]; exact hle
        obtain⟨t,ht⟩:=e_ (xs[e]);have hkt:xs[e]?=some t:=(by rw[wq hkM,ht]);obtain⟨b,off,rfl,hc⟩:=dL HS.out hkt
        have HSN:=h_ fun h=>dC (P:=fun s:List UInt8=>s.length≤300) hkt hT h
        obtain⟨tb,htb⟩:=e_ (ByteArray.mk t.toArray);have hz2:tb.size=t.length:=(by rw[←htb,←ab]);have c9:=hc wr q;rw[htb] at c9;have HZ2:=h_ hz2;have wl:(e:Int)<(SL1:Int):=(by omega);clear ht hkt hc htb hT hz2
        by_cases h9:(300:Int)<(tb.size:Int)
        ·have h9d:decide ((300:Int)<(tb.size:Int))=true:=decide_eq_true h9
         have c_r0:=bs.b6 0;go_wp2_with fail;go_ret;exact⟨true,rfl,(fun h=>by cases h),q⟩
        ·have h9d:decide ((300:Int)<(tb.size:Int))=false:=decide_eq_false h9
         have c_r0:=bs.b6 0;go_wp2_with fail;clear c_r0;go_roundw
         case rel=>exact⟨e+1,by go_num,by omega,HSN.out (by have:=HZ2.out;omega),bs⟩
         case measure=>simp[intOf];omega
       ·have wl : ¬ (e : Int) < (SL1 : Int) := by omega
        have hS2:=dY (by rw[HSL.out];omega) hT;have hX:=HP.out (by omega) (by omega) (by omega) HT.out hS2;have HX:=h_ hX;clear hT hS2 hX;have c_r0:=bs.b6 0;go_wp2_with fail;go_ret;exact⟨false,rfl,(fun _=>HX.out),q⟩
theorem jC (c:CoI) (w:World) (hs:c.sub w):Calls prog 9 #[c.v] w (ux (CoSm c.d) w):=by
 obtain⟨A,⟨a1,b1⟩,R,⟨r1,s1⟩,m1⟩:=c;have hA:IsL acY (.slice a1 A.length b1) A w:=hs.1;have hR:IsL rsY (.slice r1 R.length s1) R w:=hs.2
 have hP:A.length≤10→R.length≤18→(∀a∈A,AcSm a.d)→(∀r∈R,ReSm r.d)→CoSm (CoI.d ⟨A,(a1,b1),R,(r1,s1),m1⟩):=fun h1 h2 h3 h4=>
  ⟨by show (A.map AcI.d).length≤10;rw[wv];exact h1,by show (R.map RsI.d).length≤18;rw[wv];exact h2,fun a ha=>by obtain⟨y,hy,rfl⟩:=ww.1 ha;exact h3 y hy,fun r hr=>by obtain⟨y,hy,rfl⟩:=ww.1 hr;exact h4 y hy⟩
 obtain⟨X,hX⟩:∃X:Prop,X=CoSm (CoI.d ⟨A,(a1,b1),R,(r1,s1),m1⟩):=⟨_,rfl⟩;rw[←hX] at hP ⊢
 show Calls _ _ #[.agg #[.slice a1 A.length b1,.slice r1 R.length s1,.int .i64 m1]] w _
 have CR:=fun (r:RsI) (hr:r∈R) (W:World) (hb:Bl w W)=>jQ r W (rsY.subRet _ _ _ (hR.2.2 r hr) hb)
 have CA:=fun (a:AcI) (ha:a∈A) (W:World) (hb:Bl w W)=>nG a.iv a.ver a.it W (aw.ret (hA.2.2 a ha) hb)
 obtain⟨LA1,hLA⟩:=e_ A.length;obtain⟨LR1,hLR⟩:=e_ R.length;rw[hLA] at hA hP ⊢;rw[hLR] at hR hP ⊢;have HA:=h_ hA;have HR:=h_ hR;have HP:=h_ hP;have HLA:=h_ hLA;have HLR:=h_ hLR;have CR:=h_ CR;have CA:=h_ CA;clear hs hA hR hP hX hLA hLR;obtain⟨W0,hW,y0,bs⟩:=Sx.start1 w [.slice a1 LA1 b1,.slice r1 LR1 s1,.int .i64 m1] 25;have HW:=h_ hW;clear hW;have q:=bs.q;go_enter func9,ntmps9;go_wp2_with fail;rw[HW.out];go_loopw [3] (fun i wx=>∃k:Nat,i=.int .i64 k∧k≤LA1∧k≤12∧(∀a∈A.take k,AcSm a.d)∧Sx w [(w.heap.size,[.slice a1 LA1 b1,.slice r1 LR1 s1,.int .i64 m1])] wx) (fun i _=>12-(intOf i).toNat)
 case atStart=>exact⟨0,rfl,ws _,by omega,(fun t ht=>by simp at ht),bs⟩
 case round=>
  clear bs q;obtain⟨k,rfl,hk,hk12,hT,bs⟩:=hrel;have q:=bs.q
  by_cases hlt:k<LA1
  ·have wl : (k : Int) < (LA1 : Int) := by omega
   by_cases h12:k<12
   ·have wm : (k : Int) < 12 := by omega
    have hkM:k<A.length:=(by rw[HLA.out];exact hlt);obtain⟨x,hx⟩:=e_ (A[k]);have hkx:A[k]?=some x:=(by rw[wq hkM,hx]);have hxm:x∈A:=(by rw[←hx];exact wu hkM);obtain⟨b,off,cp,hf,-,hc⟩:=HA.out.cells hkx;rw[HLA.out] at hf;simp only[wt,true_and] at hf;obtain⟨rfl,rfl⟩:=hf
    have HSN:=h_ fun h=>dC (P:=fun a:AcI=>AcSm a.d) hkx hT h
    obtain⟨xj,xit,⟨xa,xc⟩,xver⟩:=x;have CA1:∀W,Bl w W→Calls prog 36 #[.agg #[.slice xa xit.length xc,.int .i64 xver]] W (Ret W (.bool (cW (xit.map Prod.fst)))):=CA.out _ hxm;obtain⟨xl,hxl⟩:=e_ xit.length;rw[hxl] at CA1;obtain⟨jb,hjb⟩:=e_ (ByteArray.mk xj.toArray);have hz:jb.size=xj.length:=(by rw[←hjb,←ab]);obtain⟨G,hG⟩:=e_ (cW (xit.map Prod.fst));rw[hG] at CA1;replace CA1:=h_ CA1;obtain⟨i0,i1,i2⟩:wr.cell? ⟨b,off+k*3,none⟩=some (.string jb)∧wr.cell? ⟨b,off+k*3+1,none⟩=some (.slice xa xl xc)∧wr.cell? ⟨b,off+k*3+2,none⟩=some (.int .i64 xver):=(by rw[←hjb,←hxl];exact⟨hc wr q 0 _ rfl,hc wr q 1 _ rfl,hc wr q 2 _ rfl⟩)
    have HSM:=h_ fun (h1:jb.size≤300) (h2:G=false)=>(⟨(by show xj.length≤300;omega),hG.trans h2⟩:AcSm (AcI.d ⟨xj,xit,(xa,xc),xver⟩))
    clear hx hkx hxm hkM hc hxl hjb hz hG hT
    by_cases h9:(300:Int)<(jb.size:Int)
    ·have h9d:decide ((300:Int)<(jb.size:Int))=true:=decide_eq_true h9
     have c_c0:=bs.b3 0;go_wp2_with fail;go_ret;exact⟨true,rfl,(fun h=>by cases h),q⟩
    ·have h9d:decide ((300:Int)<(jb.size:Int))=false:=decide_eq_false h9
     have c_c0:=bs.b3 0;go_wp2_with fail;refine(CA1.out wr q).mono ?_;rintro e w21 ⟨rfl,hb⟩;clear c_c0;replace bs:=bs.ret hb;replace q:=bs.q;clear hb;clear i0 i1 i2
     cases G with
     | true=>
      go_wp2_with fail;go_ret;exact⟨true,rfl,(fun h=>by cases h),q⟩
     | false=>
      go_wp2_with fail;go_roundw
      case rel=>exact⟨k+1,by go_num,by omega,by omega,HSN.out (HSM.out (by omega) (by trivial)),bs⟩
      case measure=>simp[intOf];omega
   ·have wm : ¬ (k : Int) < 12 := by omega
    have hT2:LA1≤10→∀a∈A,AcSm a.d:=fun h=>absurd h (by omega)
    have HT:=h_ hT2;clear hT hT2;have hk0:=hk;have c_c0:=bs.b3 0;go_wp2_with fail;clear c_c0;go_loopw [4] (fun i wx=>∃k:Nat,i=.int .i64 k∧k≤LR1∧k≤20∧(∀r∈R.take k,ReSm r.d)∧Sx w [(w.heap.size,[.slice a1 LA1 b1,.slice r1 LR1 s1,.int .i64 m1])] wx) (fun i _=>20-(intOf i).toNat)
    case atStart=>exact⟨0,rfl,ws _,by omega,(fun t ht=>by simp at ht),bs⟩
    case round=>
     clear bs q;obtain⟨k,rfl,hk,hk12,hT,bs⟩:=hrel;have q:=bs.q
     by_cases hlt:k<LR1
     ·have wl : (k : Int) < (LR1 : Int) := by omega
      by_cases h12:k<20
      ·have wm : (k : Int) < 20 := by omega
       have hkM:k<R.length:=(by rw[HLR.out];exact hlt);obtain⟨x,hx⟩:=e_ (R[k]);have hkx:R[k]?=some x:=(by rw[wq hkM,hx]);have hxm:x∈R:=(by rw[←hx];exact wu hkM);obtain⟨b,off,cp,hf,-,hc⟩:=HR.out.cells hkx;rw[HLR.out] at hf;simp only[wt,true_and] at hf;obtain⟨rfl,rfl⟩:=hf
       have HSN:=h_ fun h=>dC (P:=fun r:RsI=>ReSm r.d) hkx hT h
       obtain⟨G,hG⟩:∃G:Prop,G=ReSm x.d:=⟨_,rfl⟩;have CR0:=CR.out x hxm;rw[←hG] at CR0 HSN;obtain⟨xj,on1,pr1,xl,⟨la1,lb1⟩,ask1,xs,⟨sa1,sb1⟩⟩:=x;obtain⟨ll,hll⟩:=e_ xl.length;obtain⟨sl,hsl⟩:=e_ xs.length;obtain⟨jb,hjb⟩:=e_ (ByteArray.mk xj.toArray);have CR1:∀W,Bl w W→Calls prog 47 #[.agg #[.string ⟨xj.toArray⟩,.bool on1,.int .i64 pr1,.slice la1 xl.length lb1,.bool ask1,.slice sa1 xs.length sb1]] W (ux G W):=CR0;rw[hll,hsl,hjb] at CR1;replace CR1:=h_ CR1;clear CR0;obtain⟨i0,i1,i2,i3,i4,i5⟩:wr.cell? ⟨b,off+k*6,none⟩=some (.string jb)∧wr.cell? ⟨b,off+k*6+1,none⟩=some (.bool on1)∧wr.cell? ⟨b,off+k*6+2,none⟩=some (.int .i64 pr1)∧wr.cell? ⟨b,off+k*6+3,none⟩=some (.slice la1 ll lb1)∧wr.cell? ⟨b,off+k*6+4,none⟩=some (.bool ask1)∧wr.cell? ⟨b,off+k*6+5,none⟩=some (.slice sa1 sl sb1):=(by rw[←hjb,←hll,←hsl];exact⟨hc wr q 0 _ rfl,hc wr q 1 _ rfl,hc wr q 2 _ rfl,hc wr q 3 _ rfl,hc wr q 4 _ rfl,hc wr q 5 _ rfl⟩);clear hx hkx hxm hkM hc hll hsl hjb hG hT;have c_c0:=bs.b3 0;go_wp2_with fail;refine(CR1.out wr q).mono ?_;rintro e w21 ⟨g,rfl,hg,hb⟩;clear c_c0;replace bs:=bs.ret hb;replace q:=bs.q;clear hb;clear i0 i1 i2 i3 i4 i5
       cases g with
       | true=>
        go_wp2_with fail;go_ret;exact⟨true,rfl,(fun h=>by cases h),q⟩
       | false=>
        have HG:=h_ (hg rfl);clear hg;go_wp2_with fail;go_roundw
        case rel=>exact⟨k+1,by go_num,by omega,by omega,HSN.out HG.out,bs⟩
        case measure=>simp[intOf];omega
      ·have wm : ¬ (k : Int) < 20 := by omega
       have g1:(18:Int)<(LR1:Int):=(by omega)
       have g1d:decide ((18:Int)<(LR1:Int))=true:=decide_eq_true g1
       clear hT g1
       by_cases g2:(10:Int)<(LA1:Int)
       ·have g2d:decide ((10:Int)<(LA1:Int))=true:=decide_eq_true g2
        have Hg2:=h_ g2;clear g2;have c_c0:=bs.b3 0;go_wp2_with fail;go_ret;exact⟨true,rfl,(fun h=>by cases h),q⟩
       ·have g2d:decide ((10:Int)<(LA1:Int))=false:=decide_eq_false g2
        have Hg2:=h_ g2;clear g2;have c_c0:=bs.b3 0;go_wp2_with fail;go_ret;exact⟨true,rfl,(fun h=>by cases h),q⟩
     ·have wl : ¬ (k : Int) < (LR1 : Int) := by omega
      have hR2:=dY (by rw[HLR.out];omega) hT;have HR2:=h_ hR2;clear hT hR2
      by_cases g2:(10:Int)<(LA1:Int)
      ·have g2d:decide ((10:Int)<(LA1:Int))=true:=decide_eq_true g2
       have Hg2:=h_ g2;clear g2;have c_c0:=bs.b3 0;go_wp2_with fail;go_ret;exact⟨true,rfl,(fun h=>by cases h),q⟩
      ·have g2d:decide ((10:Int)<(LA1:Int))=false:=decide_eq_false g2
       have Hg2:=h_ g2;clear g2
       by_cases g1:(18:Int)<(LR1:Int)
       ·have g1d:decide ((18:Int)<(LR1:Int))=true:=decide_eq_true g1
        have Hg1:=h_ g1;clear g1;have c_c0:=bs.b3 0;go_wp2_with fail;go_ret;exact⟨true,rfl,(fun h=>by cases h),q⟩
       ·have g1d:decide ((18:Int)<(LR1:Int))=false:=decide_eq_false g1
        have Hg1:=h_ g1;clear g1;have c_c0:=bs.b3 0;go_wp2_with fail;go_ret;exact⟨false,rfl,(fun _=>HP.out (by have:=Hg2.out;omega) (by have:=Hg1.out;omega) (HT.out (by have:=Hg2.out;omega)) HR2.out),q⟩
  ·have wl : ¬ (k : Int) < (LA1 : Int) := by omega
   have hT2:LA1≤10→∀a∈A,AcSm a.d:=fun _=>dY (by rw[HLA.out];omega) hT
   have HT:=h_ hT2;clear hT hT2;have hk0:=hk;have c_c0:=bs.b3 0;go_wp2_with fail;clear c_c0;go_loopw [4] (fun i wx=>∃k:Nat,i=.int .i64 k∧k≤LR1∧k≤20∧(∀r∈R.take k,ReSm r.d)∧Sx w [(w.heap.size,[.slice a1 LA1 b1,.slice r1 LR1 s1,.int .i64 m1])] wx) (fun i _=>20-(intOf i).toNat)
   case atStart=>exact⟨0,rfl,ws _,by omega,(fun t ht=>by simp at ht),bs⟩
   case round=>
    clear bs q;obtain⟨k,rfl,hk,hk12,hT,bs⟩:=hrel;have q:=bs.q
    by_cases hlt:k<LR1
    ·have wl : (k : Int) < (LR1 : Int) := by omega
     by_cases h12:k<20
     ·have wm : (k : Int) < 20 := by omega
      have hkM:k<R.length:=(by rw[HLR.out];exact hlt);obtain⟨x,hx⟩:=e_ (R[k]);have hkx:R[k]?=some x:=(by rw[wq hkM,hx]);have hxm:x∈R:=(by rw[←hx];exact wu hkM);obtain⟨b,off,cp,hf,-,hc⟩:=HR.out.cells hkx;rw[HLR.out] at hf;simp only[wt,true_and] at hf;obtain⟨rfl,rfl⟩:=hf
      have HSN:=h_ fun h=>dC (P:=fun r:RsI=>ReSm r.d) hkx hT h
      obtain⟨G,hG⟩:∃G:Prop,G=ReSm x.d:=⟨_,rfl⟩;have CR0:=CR.out x hxm;rw[←hG] at CR0 HSN;obtain⟨xj,on1,pr1,xl,⟨la1,lb1⟩,ask1,xs,⟨sa1,sb1⟩⟩:=x;obtain⟨ll,hll⟩:=e_ xl.length;obtain⟨sl,hsl⟩:=e_ xs.length;obtain⟨jb,hjb⟩:=e_ (ByteArray.mk xj.toArray);have CR1:∀W,Bl w W→Calls prog 47 #[.agg #[.string ⟨xj.toArray⟩,.bool on1,.int .i64 pr1,.slice la1 xl.length lb1,.bool ask1,.slice sa1 xs.length sb1]] W (ux G W):=CR0;rw[hll,hsl,hjb] at CR1;replace CR1:=h_ CR1;clear CR0;obtain⟨i0,i1,i2,i3,i4,i5⟩:wr.cell? ⟨b,off+k*6,none⟩=some (.string jb)∧wr.cell? ⟨b,off+k*6+1,none⟩=some (.bool on1)∧wr.cell? ⟨b,off+k*6+2,none⟩=some (.int .i64 pr1)∧wr.cell? ⟨b,off+k*6+3,none⟩=some (.slice la1 ll lb1)∧wr.cell? ⟨b,off+k*6+4,none⟩=some (.bool ask1)∧wr.cell? ⟨b,off+k*6+5,none⟩=some (.slice sa1 sl sb1):=(by rw[←hjb,←hll,←hsl];exact⟨hc wr q 0 _ rfl,hc wr q 1 _ rfl,hc wr q 2 _ rfl,hc wr q 3 _ rfl,hc wr q 4 _ rfl,hc wr q 5 _ rfl⟩);clear hx hkx hxm hkM hc hll hsl hjb hG hT;have c_c0:=bs.b3 0;go_wp2_with fail;refine(CR1.out wr q).mono ?_;rintro e w21 ⟨g,rfl,hg,hb⟩;clear c_c0;replace bs:=bs.ret hb;replace q:=bs.q;clear hb;clear i0 i1 i2 i3 i4 i5
      cases g with
      | true=>
       go_wp2_with fail;go_ret;exact⟨true,rfl,(fun h=>by cases h),q⟩
      | false=>
       have HG:=h_ (hg rfl);clear hg;go_wp2_with fail;go_roundw
       case rel=>exact⟨k+1,by go_num,by omega,by omega,HSN.out HG.out,bs⟩
       case measure=>simp[intOf];omega
     ·have wm : ¬ (k : Int) < 20 := by omega
      have g1:(18:Int)<(LR1:Int):=(by omega)
      have g1d:decide ((18:Int)<(LR1:Int))=true:=decide_eq_true g1
      clear hT g1
      by_cases g2:(10:Int)<(LA1:Int)
      ·have g2d:decide ((10:Int)<(LA1:Int))=true:=decide_eq_true g2
       have Hg2:=h_ g2;clear g2;have c_c0:=bs.b3 0;go_wp2_with fail;go_ret;exact⟨true,rfl,(fun h=>by cases h),q⟩
      ·have g2d:decide ((10:Int)<(LA1:Int))=false:=decide_eq_false g2
       have Hg2:=h_ g2;clear g2;have c_c0:=bs.b3 0;go_wp2_with fail;go_ret;exact⟨true,rfl,(fun h=>by cases h),q⟩
    ·have wl : ¬ (k : Int) < (LR1 : Int) := by omega
     have hR2:=dY (by rw[HLR.out];omega) hT;have HR2:=h_ hR2;clear hT hR2
     by_cases g2:(10:Int)<(LA1:Int)
     ·have g2d:decide ((10:Int)<(LA1:Int))=true:=decide_eq_true g2
      have Hg2:=h_ g2;clear g2;have c_c0:=bs.b3 0;go_wp2_with fail;go_ret;exact⟨true,rfl,(fun h=>by cases h),q⟩
     ·have g2d:decide ((10:Int)<(LA1:Int))=false:=decide_eq_false g2
      have Hg2:=h_ g2;clear g2
      by_cases g1:(18:Int)<(LR1:Int)
      ·have g1d:decide ((18:Int)<(LR1:Int))=true:=decide_eq_true g1
       have Hg1:=h_ g1;clear g1;have c_c0:=bs.b3 0;go_wp2_with fail;go_ret;exact⟨true,rfl,(fun h=>by cases h),q⟩
      ·have g1d:decide ((18:Int)<(LR1:Int))=false:=decide_eq_false g1
       have Hg1:=h_ g1;clear g1;have c_c0:=bs.b3 0;go_wp2_with fail;go_ret;exact⟨false,rfl,(fun _=>HP.out (by have:=Hg2.out;omega) (by have:=Hg1.out;omega) (HT.out (by have:=Hg2.out;omega)) HR2.out),q⟩
end Go.Proofs.YtjgeiieiinmdnaaGreatDoor
