/- GrA, GrB: put together by mergetpl.py. -/
import Derived.BigRegion
import Derived.Test.YtjgeiieiinmdnaaGreatDoorLo
open Go.Proofs.Tryz
open Go.Value.slice renaming injEq→wq
open List renaming getElem?_eq_getElem→wh,getElem_mem→ws,length_map→wt,mem_map→wu,take_succ_eq_append_getElem→ww,mem_append→wy,mem_singleton→wz,take_of_length_le→wA,getElem?_eq_none→wD
open Nat renaming zero_le→wo,le_trans→wv,le_refl→wB,lt_or_ge→wC
open Option.some renaming inj→wE
namespace Go.Proofs.YtjgeiieiinmdnaaGreatDoor
set_option maxHeartbeats 4000000
set_option maxRecDepth 100000
open Go.RowKit Go.Lib

def ug (P:Prop) (w:World) (e:Ending) (w':World):Prop:=∃b,e=.returned (.bool b)∧(b=false→P)∧Bl w w'
def mn (l:List UInt8):Nat:=min l.length 20000
theorem mU {l:List UInt8} {s:ByteArray} (h:ByteArray.mk l.toArray=s):min (s.size:Int) 20000=(mn l:Int):=by
 have:s.size=l.length:=by rw[←h,←ab]
 rw[this];unfold mn
 omega
structure NdB (m:Nat) (n:Nd):Prop where
 sp:mn n.2.1≤m
 nm:mn n.2.2.1≤m
 tx:mn n.2.2.2.2.1≤m
 al:n.2.2.2.1.length≤30
 at':∀a∈n.2.2.2.1,mn a.1≤m∧mn a.2.1≤m∧mn a.2.2≤m
theorem NdB.mono {m m':Nat} {n:Nd} (h:NdB m n) (hm:m≤m'):NdB m' n:=⟨wv h.sp hm,wv h.nm hm,wv h.tx hm,h.al,fun a ha=>by have:=h.at' a ha;omega⟩
theorem ni {l:List UInt8} (h:mn l≤300):l.length≤300:=by unfold mn at h;omega
theorem NdB.sm {m:Nat} {n:Nd} (h:NdB m n) (hm:m≤300):NdSm n:=
 ⟨ni (by have:=h.sp;omega),ni (by have:=h.nm;omega),ni (by have:=h.tx;omega),h.al,fun a ha=>by have:=h.at' a ha;exact⟨ni (by omega),ni (by omega),ni (by omega)⟩⟩
theorem n7 (T:List NdI) (va:Option Addr) (L vc:Nat) (w:World) (hv:IsL ndY (.slice va L vc) T w) (hL:T.length=L):Calls prog 102 #[.slice va L vc,.int .i64 20,.int .i64 300] w (ug (ue (T.map Prod.fst)) w):=by
 have HV:=h_ hv;have HL:=h_ hL
 have yO:(T.map Prod.fst).length=L:=by rw[wt,hL]
 have yY:=h_ yO;clear hv hL yO;go_enter func102,ntmps102;go_wp2_with fail;go_loopw [7,8] (fun n i wx=>∃m k:Nat,n=.int .i64 m∧i=.int .i64 k∧k≤L∧k≤600∧m≤1800300∧(∀x∈T.take k,NdB m x.1)∧Bl w wx) (fun _ i _=>600-(intOf i).toNat)
 case atStart=>exact⟨0,0,rfl,rfl,wo _,by omega,by omega,(fun x hx=>by simp at hx),bQ _⟩
 case round=>
  obtain⟨m,k,rfl,rfl,hk,zC,hm,hB,q⟩:=hrel
  by_cases hlt:k<L
  ·by_cases h6:k<600
   ·have xr : k < T.length := by rw [HL.out]; exact hlt
    obtain⟨x,hx⟩:=e_ (T[k]);have xw:T[k]?=some x:=(by rw[wh xr,hx]);have xF:x∈T:=(by rw[←hx];exact ws xr);obtain⟨b,off,cp,hf,-,hc⟩:=HV.out.cells xw;rw[HL.out] at hf;simp only[wq,true_and] at hf;obtain⟨rfl,rfl⟩:=hf
    have xM:∀m',(∀y∈T.take k,NdB m' y.1)→NdB m' x.1→∀y∈T.take (k+1),NdB m' y.1:=fun m' h1 h2 y hy=>by
     rw[ww xr,wy] at hy
     rcases hy with hy | hy
     ·exact h1 y hy
     ·rw[wz.1 hy,hx]
      exact h2
    have hA:IsL atY (ndV x) (ndA x) w:=HV.out.2.2 x xF;obtain⟨s1,t1⟩:=e_ (ByteArray.mk x.1.2.1.toArray);obtain⟨s2,t2⟩:=e_ (ByteArray.mk x.1.2.2.1.toArray);obtain⟨s3,t3⟩:=e_ (ByteArray.mk x.1.2.2.2.2.1.toArray);have i1:=mU t1;have i2:=mU t2;have i3:=mU t3;obtain⟨xa,yx⟩:=e_ x.2.1;obtain⟨xc,yy⟩:=e_ x.2.2;obtain⟨XA,xG⟩:=e_ (ndA x);obtain⟨LA,xK⟩:=e_ XA.length
    have HC:=h_ fun (w':World) (hb:Bl w w')=>show w'.cell? ⟨b,off+k*6+1,none⟩=some (.string s1)∧w'.cell? ⟨b,off+k*6+2,none⟩=some (.string s2)∧w'.cell? ⟨b,off+k*6+3,none⟩=some (.slice xa LA xc)∧w'.cell? ⟨b,off+k*6+4,none⟩=some (.string s3) from
     (by rw[←t1,←t2,←t3,←yx,←xK,←yy,←xG];exact⟨hc w' hb 1 _ rfl,hc w' hb 2 _ rfl,hc w' hb 3 _ rfl,hc w' hb 4 _ rfl⟩)
    have yP:IsL atY (.slice xa LA xc) XA w:=(by rw[←yx,←xK,←yy,←xG];exact hA);obtain⟨p1,yz⟩:=e_ (mn x.1.2.1);obtain⟨p2,yA⟩:=e_ (mn x.1.2.2.1);obtain⟨p3,yB⟩:=e_ (mn x.1.2.2.2.2.1);have r1:p1≤20000:=(by rw[←yz];unfold mn;omega);have r2:p2≤20000:=(by rw[←yA];unfold mn;omega);have r3:p3≤20000:=(by rw[←yB];unfold mn;omega)
    have yQ:∀m',m+p2+p1+p3≤m'→LA≤30→(∀a∈XA,mn a.1≤m'∧mn a.2.1≤m'∧mn a.2.2≤m')→NdB m' x.1:=fun m' h1 h2 h3=>by
     refine⟨by omega,by omega,by omega,?_,?_⟩
     ·have : (ndA x).length ≤ 30 := by rw [xG, xK]; exact h2
      exact this
     ·show ∀a∈ndA x,_
      rw[xG];exact h3
    rw[yz] at i1;rw[yA] at i2;rw[yB] at i3;have HS:=h_ xM;have HN:=h_ yQ;have HA:=h_ yP;have xO:=h_ xK;have HB:=h_ hB;clear hc xw xF hx xr xM yQ hA yP yz yA yB t1 t2 t3 yx yy xG xK hB;obtain⟨c1,c2,c3,c4⟩:=HC.out wr q;have wl:(k:Int)<(L:Int):=(by omega);have w6:(k:Int)<600:=(by omega);go_wp2_with fail;go_region;have q1:Bl w wr.drew:=q.trans ((Below.drew (bQ _)).mono q.size);clear c1 c2 c3 c4 q;clear i1 i2 i3;obtain⟨N,hN⟩:=e_ (m+p2+p1+p3);have yZ:(m:Int)+(p2:Int)+(p1:Int)+(p3:Int)=(N:Int):=(by omega);rw[yZ];generalize wr.drew=W1 at q1 ⊢;obtain⟨c1,c2,c3,c4⟩:=HC.out W1 q1
    by_cases hA:(30:Int)<(LA:Int)
    ·go_wp2_with fail
     go_ret;exact⟨true,rfl,(fun h=>by cases h),q1⟩
    ·by_cases hB:(300:Int)<(N:Int)
     ·go_wp2_with fail
      go_ret;exact⟨true,rfl,(fun h=>by cases h),q1⟩
     ·clear c1 c2 c4
      go_wp2_with fail;clear c3;go_loopw [7,9] (fun n i wx=>∃m' j:Nat,n=.int .i64 m'∧i=.int .i64 j∧j≤LA∧N≤m'∧m'≤300+60000*j∧(∀a∈XA.take j,mn a.1≤m'∧mn a.2.1≤m'∧mn a.2.2≤m')∧Bl w wx) (fun _ i _=>LA-(intOf i).toNat)
      case atStart=>exact⟨N,0,rfl,rfl,wo _,wB _,by omega,(fun x hx=>by simp at hx),q1⟩
      case round=>
       clear q1;obtain⟨m',j,rfl,rfl,hj,zD,zE,xG,q⟩:=hrel;obtain⟨-,-,c3,-⟩:=HC.out _ q
       by_cases hlj:j<LA
       ·have yC : j < XA.length := by rw [xO.out]; exact hlj
        obtain⟨y,hy⟩:=e_ (XA[j]);have yR:XA[j]?=some y:=(by rw[wh yC,hy]);obtain⟨b2,xW,zF,hf,-,hd⟩:=HA.out.cells yR;rw[xO.out] at hf;simp only[wq,true_and] at hf;obtain⟨rfl,rfl⟩:=hf
        have xM:∀m'',(∀a∈XA.take j,mn a.1≤m''∧mn a.2.1≤m''∧mn a.2.2≤m'')→(mn y.1≤m''∧mn y.2.1≤m''∧mn y.2.2≤m'')→∀a∈XA.take (j+1),mn a.1≤m''∧mn a.2.1≤m''∧mn a.2.2≤m'':=fun m'' h1 h2 a ha=>by
         rw[ww yC,wy] at ha
         rcases ha with ha | ha
         ·exact h1 a ha
         ·rw[wz.1 ha,hy]
          exact h2
        obtain⟨z1,t1⟩:=e_ (ByteArray.mk y.1.toArray);obtain⟨z2,t2⟩:=e_ (ByteArray.mk y.2.1.toArray);obtain⟨z3,t3⟩:=e_ (ByteArray.mk y.2.2.toArray);have i1:=mU t1;have i2:=mU t2;have i3:=mU t3
        obtain⟨d1,d2,d3⟩:wr.cell? ⟨b2,xW+j*3,none⟩=some (.string z1)∧wr.cell? ⟨b2,xW+j*3+1,none⟩=some (.string z2)∧wr.cell? ⟨b2,xW+j*3+2,none⟩=some (.string z3):=
         (by rw[←t1,←t2,←t3];exact⟨hd wr q 0 _ rfl,hd wr q 1 _ rfl,hd wr q 2 _ rfl⟩)
        obtain⟨r1,yD⟩:=e_ (mn y.1);obtain⟨r2,yE⟩:=e_ (mn y.2.1);obtain⟨r3,yF⟩:=e_ (mn y.2.2);have g1:r1≤20000:=(by rw[←yD];unfold mn;omega);have g2:r2≤20000:=(by rw[←yE];unfold mn;omega);have g3:r3≤20000:=(by rw[←yF];unfold mn;omega);rw[yD] at i1 xM;rw[yE] at i2 xM;rw[yF] at i3 xM;have ze:=h_ xM;have zh:=h_ xG;have wj:(j:Int)<(LA:Int):=(by omega);have zz:LA≤30:=(by omega);have q2:=q.trans (((bR wr).alloc (wB _) (.cells #[.string z1,.string z2,.string z3] 160)).mono q.size);clear hd yR hy yC xM t1 t2 t3 yD yE yF xG;go_wp2_with fail;clear i1 i2 i3;have zi:(m':Int)+(r2:Int)+(r1:Int)+(r3:Int)=((m'+r2+r1+r3:Nat):Int):=(by omega);rw[zi];go_roundw
        case rel=>exact⟨m'+r2+r1+r3,j+1,rfl,by go_num,by omega,by omega,by omega,ze.out _ (fun a ha=>by have:=zh.out a ha;omega) ⟨by omega,by omega,by omega⟩,q2⟩
        case measure=>simp[intOf];omega
       ·have e:XA.take j=XA:=wA (by rw[xO.out];omega)
        rw[e] at xG;have yS:=HN.out m' (by omega) (by omega) xG;have zk:=h_ yS;clear xG yS e;go_wp2_with fail;go_roundw
        case rel=>exact⟨m',k+1,rfl,by go_num,by omega,by omega,by omega,HS.out m' (fun y hy=>(HB.out y hy).mono (by omega)) zk.out,q⟩
        case measure=>simp[intOf];omega
   ·obtain rfl : k = 600 := by omega
    have zB:(20:Int)<(L:Int):=(by omega);have wl:(600:Int)<(L:Int):=(by omega);clear hB;go_wp2_with fail;go_ret;exact⟨true,rfl,(fun h=>by cases h),q⟩
  ·have wl : ¬ (k : Int) < (L : Int) := by omega
   by_cases h20:(20:Int)<(L:Int)
   ·clear hB
    go_wp2_with fail;go_ret;exact⟨true,rfl,(fun h=>by cases h),q⟩
   ·by_cases h300:(300:Int)<(m:Int)
    ·clear hB
     go_wp2_with fail;go_ret;exact⟨true,rfl,(fun h=>by cases h),q⟩
    ·have hP:ue (T.map Prod.fst):=by
      have e:T.take k=T:=wA (by rw[HL.out];omega)
      rw[e] at hB;refine⟨by rw[yY.out];omega,fun n hn=>?_⟩;obtain⟨y,hy,rfl⟩:=wu.1 hn;exact(hB y hy).sm (by omega)
     have HP:=h_ hP;clear hB hP;go_wp2_with fail;go_ret;exact⟨false,rfl,(fun _=>HP.out),q⟩

theorem iI {a:Option Addr} {n c:Nat} {g:List (List UInt8)} {w:World} (h:be (.slice a n c) g w) {k:Nat} {s:List UInt8} (hk:g[k]?=some s):∃b off,a=some ⟨b,off,none⟩∧∀w',Bl w w'→w'.cell? ⟨b,off+k,none⟩=some (.string ⟨s.toArray⟩):=by
 have xU:k<g.length:=by
  rcases wC k g.length with h1 | h1
  ·exact h1
  ·rw[wD h1] at hk;cases hk
 have hs:g[k]=s:=by rw[wh xU] at hk;exact wE hk
 obtain⟨b,off,cp,hf,hb,hc⟩:=bJ h.1 (k:=k) (by rw[aq];exact xU);simp only[wq] at hf;obtain⟨rfl,-,-⟩:=hf;refine⟨b,off,rfl,fun w' hw=>?_⟩;rw[(ag hw).1 _ _ hb,hc k (by rw[aq];exact xU)]
 simp[cJ,hs]
theorem eS {α:Type} {P:α→Prop} {l:List α} {k:Nat} {x:α} (hx:l[k]?=some x) (h:∀y∈l.take k,P y) (h2:P x):∀y∈l.take (k+1),P y:=fun y hy=>by
 have xU:k<l.length:=by
  rcases wC k l.length with h1 | h1
  ·exact h1
  ·rw[wD h1] at hx;cases hx
 have hs:l[k]=x:=by rw[wh xU] at hx;exact wE hx
 rw[ww xU,wy] at hy
 rcases hy with hy | hy
 ·exact h y hy
 ·rw[wz.1 hy,hs]
  exact h2
theorem fI {α:Type} {P:α→Prop} {l:List α} {k:Nat} (hk:l.length≤k) (h:∀y∈l.take k,P y):∀y∈l,P y:=by rwa [wA hk] at h
theorem fi (x:RsI) (w:World) (hs:rsY.sub x w):Calls prog 47 #[x.v] w (ug (ReSm x.d) w):=by
 have hL:IsL trY x.lv x.ld w:=hs.1;have hS:be x.sv x.st w:=hs.2
 have hP:x.j.length≤300→x.ld.length≤18→x.st.length≤12→(∀t∈x.ld,ue (trD t))→(∀s∈x.st,s.length≤300)→ReSm x.d:=fun h1 h2 h3 h4 h5=>
  ⟨h1,by show (x.ld.map trD).length≤18;rw[wt];exact h2,h3,fun t ht=>by obtain⟨y,hy,rfl⟩:=wu.1 ht;exact h4 y hy,h5⟩
 have CG:=fun (t:TrI) (ht:t∈x.ld) (W:World) (hb:Bl w W)=>n7 t.1 t.2.1 t.1.length t.2.2 W (IsL.ret (hL.2.2 t ht) hb) rfl
 have CG:=h_ CG;clear hs;obtain⟨X,hX⟩:∃X:Prop,X=ReSm x.d:=⟨_,rfl⟩;rw[←hX] at hP ⊢;clear hX;obtain⟨xj,xD,xE,xl,⟨xx,xy⟩,xt,xs,⟨xz,xA⟩⟩:=x;obtain⟨xJ,xu⟩:=e_ (ByteArray.mk xj.toArray)
 have hz:xJ.size=xj.length:=by rw[←xu,←ab]
 obtain⟨xB,yh⟩:=e_ xl.length;obtain⟨xC,yi⟩:=e_ xs.length;have hL:IsL trY (.slice xx xl.length xy) xl w:=hL;have hS:be (.slice xz xs.length xA) xs w:=hS;rw[yh] at hL hP;rw[yi] at hS hP
 show Calls _ _ #[.agg #[.string ⟨xj.toArray⟩,.bool xD,.int .i64 xE,.slice xx xl.length xy,.bool xt,.slice xz xs.length xA]] w _
 rw[xu,yh,yi];have HP:=h_ hP;have yG:=h_ yh;have yT:=h_ yi;have HL:=h_ hL;have HS:=h_ hS;clear hP xu yh yi hL hS;obtain⟨W0,hW,y0,bs⟩:=Sx.start1 w [.string xJ,.bool xD,.int .i64 xE,.slice xx xB xy,.bool xt,.slice xz xC xA] 38;have HW:=h_ hW;clear hW;have q:=bs.q;go_enter func47,ntmps47;go_upto_region 1 with fail;rw[HW.out]
 by_cases h1:(300:Int)<(xJ.size:Int)
 ·have zm:decide ((300:Int)<(xJ.size:Int))=true:=decide_eq_true h1
  have xo:=bs.b6 0;go_wp2_with fail;go_ret;exact⟨true,rfl,(fun h=>by cases h),q⟩
 ·have zm:decide ((300:Int)<(xJ.size:Int))=false:=decide_eq_false h1
  by_cases h2:(18:Int)<(xB:Int)
  ·have zo:decide ((18:Int)<(xB:Int))=true:=decide_eq_true h2
   have xo:=bs.b6 0;go_wp2_with fail;go_ret;exact⟨true,rfl,(fun h=>by cases h),q⟩
  ·have zo:decide ((18:Int)<(xB:Int))=false:=decide_eq_false h2
   by_cases h3:(12:Int)<(xC:Int)
   ·have zp:decide ((12:Int)<(xC:Int))=true:=decide_eq_true h3
    have xo:=bs.b6 0;go_wp2_with fail;go_ret;exact⟨true,rfl,(fun h=>by cases h),q⟩
   ·have zp:decide ((12:Int)<(xC:Int))=false:=decide_eq_false h3
    have xo:=bs.b6 0;go_wp2_with fail;clear xo;go_loopw [3] (fun i wx=>∃k:Nat,i=.int .i64 k∧k≤xB∧(∀t∈xl.take k,ue (trD t))∧Sx w [(w.heap.size,[.string xJ,.bool xD,.int .i64 xE,.slice xx xB xy,.bool xt,.slice xz xC xA])] wx) (fun i _=>xB-(intOf i).toNat)
    case atStart=>exact⟨0,rfl,wo _,(fun t ht=>by simp at ht),bs⟩
    case round=>
     clear bs q;obtain⟨k,rfl,hk,hT,bs⟩:=hrel;have q:=bs.q
     by_cases hlt:k<xB
     ·have xr : k < xl.length := by rw [yG.out]; exact hlt
      obtain⟨t,ht⟩:=e_ (xl[k]);have xP:xl[k]?=some t:=(by rw[wh xr,ht]);have yU:t∈xl:=(by rw[←ht];exact ws xr);obtain⟨b,off,cp,hf,-,hc⟩:=HL.out.cells xP;rw[yG.out] at hf;simp only[wq,true_and] at hf;obtain⟨rfl,rfl⟩:=hf;have yj:=CG.out t yU
      have xH:=h_ fun h=>eS (P:=fun t=>ue (trD t)) xP hT h
      obtain⟨t0,ta,tc⟩:=t;obtain⟨tl,yH⟩:=e_ t0.length;simp only[yH] at yj
      have c9:wr.cell? ⟨b,off+k,none⟩=some (.slice ta tl tc):=by
       have h:=hc wr q 0 _ rfl;rw[←yH]
       rwa [show off+k*trY.n+0=off+k from (by show off+k*1+0=off+k;omega)] at h
      replace yj:=h_ yj;have wl:(k:Int)<(xB:Int):=(by omega);clear ht xP yU hc yH hT;have xo:=bs.b6 0;go_wp2_with fail;refine(yj.out wr q).mono ?_;rintro e yI ⟨g,rfl,hg,hb⟩;clear xo;replace bs:=bs.ret hb;replace q:=bs.q;clear hb;clear c9
      cases g with
      | true=>
       go_wp2_with fail;go_ret;exact⟨true,rfl,(fun h=>by cases h),q⟩
      | false=>
       have HG:=h_ (hg rfl);clear hg;go_wp2_with fail;go_roundw
       case rel=>exact⟨k+1,by go_num,by omega,xH.out HG.out,bs⟩
       case measure=>simp[intOf];omega
     ·have wl : ¬ (k : Int) < (xB : Int) := by omega
      have xN:=fI (by rw[yG.out];omega) hT;have HT:=h_ xN;clear hT xN;have xo:=bs.b6 0;go_wp2_with fail;clear xo;go_loopw [4] (fun i wx=>∃e:Nat,i=.int .i64 e∧e≤xC∧(∀s∈xs.take e,s.length≤300)∧Sx w [(w.heap.size,[.string xJ,.bool xD,.int .i64 xE,.slice xx xB xy,.bool xt,.slice xz xC xA])] wx) (fun i _=>xC-(intOf i).toNat)
      case atStart=>exact⟨0,rfl,wo _,(fun t ht=>by simp at ht),bs⟩
      case round=>
       clear bs q;obtain⟨e,rfl,he,hT,bs⟩:=hrel;have q:=bs.q
       by_cases hle:e<xC
       ·have xr : e < xs.length := by rw [yT.out]; exact hle
        obtain⟨t,ht⟩:=e_ (xs[e]);have xP:xs[e]?=some t:=(by rw[wh xr,ht]);obtain⟨b,off,rfl,hc⟩:=iI HS.out xP
        have xH:=h_ fun h=>eS (P:=fun s:List UInt8=>s.length≤300) xP hT h
        obtain⟨tb,yJ⟩:=e_ (ByteArray.mk t.toArray);have yV:tb.size=t.length:=(by rw[←yJ,←ab]);have c9:=hc wr q;rw[yJ] at c9;have zq:=h_ yV;have wl:(e:Int)<(xC:Int):=(by omega);clear ht xP hc yJ hT yV
        by_cases h9:(300:Int)<(tb.size:Int)
        ·have yK:decide ((300:Int)<(tb.size:Int))=true:=decide_eq_true h9
         have xo:=bs.b6 0;go_wp2_with fail;go_ret;exact⟨true,rfl,(fun h=>by cases h),q⟩
        ·have yK:decide ((300:Int)<(tb.size:Int))=false:=decide_eq_false h9
         have xo:=bs.b6 0;go_wp2_with fail;clear xo;go_roundw
         case rel=>exact⟨e+1,by go_num,by omega,xH.out (by have:=zq.out;omega),bs⟩
         case measure=>simp[intOf];omega
       ·have wl : ¬ (e : Int) < (xC : Int) := by omega
        have yW:=fI (by rw[yT.out];omega) hT;have hX:=HP.out (by omega) (by omega) (by omega) HT.out yW;have HX:=h_ hX;clear hT yW hX;have xo:=bs.b6 0;go_wp2_with fail;go_ret;exact⟨false,rfl,(fun _=>HX.out),q⟩
theorem kS (c:RsI) (w:World) (hs:rsY.sub c w):Calls prog 35 #[c.v] w (ug (ReSm c.d) w):=by
 have CG:=fun (W:World) (hb:Bl w W)=>fi c W (rsY.subRet _ _ _ hs hb)
 obtain⟨X,hX⟩:∃X:Prop,X=ReSm c.d:=⟨_,rfl⟩;rw[←hX] at CG ⊢;obtain⟨xD,yk⟩:=e_ c.on;obtain⟨xE,yl⟩:=e_ c.pr;obtain⟨xx,yn⟩:=e_ c.la.1;obtain⟨xy,yo⟩:=e_ c.la.2;obtain⟨xB,yp⟩:=e_ c.ld.length;obtain⟨xt,xX⟩:=e_ c.ask;obtain⟨xz,yq⟩:=e_ c.sa.1;obtain⟨xA,yt⟩:=e_ c.sa.2;obtain⟨xC,yu⟩:=e_ c.st.length;obtain⟨xJ,yv⟩:=e_ (ByteArray.mk c.j.toArray)
 have yX:c.v=.agg #[.string xJ,.bool xD,.int .i64 xE,.slice xx xB xy,.bool xt,.slice xz xC xA]:=by rw[←yk,←yl,←yn,←yo,←yp,←xX,←yq,←yt,←yu,←yv]
 simp only[yX] at CG ⊢;replace CG:=h_ CG;clear hs hX yX yk yl yn yo yp xX yq yt yu yv;obtain⟨W0,hW,y0,bs⟩:=Sx.start1 w [.string xJ,.bool xD,.int .i64 xE,.slice xx xB xy,.bool xt,.slice xz xC xA] 38;have HW:=h_ hW;clear hW;have q:=bs.q;go_enter func35,ntmps35;have xo:=bs.b6 0;go_wp2_with fail;rw[HW.out];refine(CG.out W0 q).mono ?_;rintro e w1 ⟨g,rfl,hg,hb⟩;clear xo;replace bs:=bs.ret hb;replace q:=bs.q;clear hb;have xo:=bs.b6 0;go_wp2_with fail;go_ret;exact⟨g,rfl,hg,q⟩
theorem pK (c:CoI) (w:World) (hs:c.sub w):Calls prog 9 #[c.v] w (ug (CoSm c.d) w):=by
 obtain⟨A,⟨a1,b1⟩,R,⟨r1,s1⟩,m1⟩:=c;have hA:IsL acY (.slice a1 A.length b1) A w:=hs.1;have hR:IsL rsY (.slice r1 R.length s1) R w:=hs.2
 have hP:A.length≤10→R.length≤18→(∀a∈A,AcSm a.d)→(∀r∈R,ReSm r.d)→CoSm (CoI.d ⟨A,(a1,b1),R,(r1,s1),m1⟩):=fun h1 h2 h3 h4=>
  ⟨by show (A.map AcI.d).length≤10;rw[wt];exact h1,by show (R.map RsI.d).length≤18;rw[wt];exact h2,fun a ha=>by obtain⟨y,hy,rfl⟩:=wu.1 ha;exact h3 y hy,fun r hr=>by obtain⟨y,hy,rfl⟩:=wu.1 hr;exact h4 y hy⟩
 obtain⟨X,hX⟩:∃X:Prop,X=CoSm (CoI.d ⟨A,(a1,b1),R,(r1,s1),m1⟩):=⟨_,rfl⟩;rw[←hX] at hP ⊢
 show Calls _ _ #[.agg #[.slice a1 A.length b1,.slice r1 R.length s1,.int .i64 m1]] w _
 have CR:=fun (r:RsI) (hr:r∈R) (W:World) (hb:Bl w W)=>fi r W (rsY.subRet _ _ _ (hR.2.2 r hr) hb)
 have CA:=fun (a:AcI) (ha:a∈A) (W:World) (hb:Bl w W)=>kN a.iv a.ver a.it W (aE.ret (hA.2.2 a ha) hb)
 obtain⟨xp,xK⟩:=e_ A.length;obtain⟨xq,yL⟩:=e_ R.length;rw[xK] at hA hP ⊢;rw[yL] at hR hP ⊢;have HA:=h_ hA;have HR:=h_ hR;have HP:=h_ hP;have xO:=h_ xK;have xV:=h_ yL;have CR:=h_ CR;have CA:=h_ CA;clear hs hA hR hP hX xK yL;obtain⟨W0,hW,y0,bs⟩:=Sx.start1 w [.slice a1 xp b1,.slice r1 xq s1,.int .i64 m1] 25;have HW:=h_ hW;clear hW;have q:=bs.q;go_enter func9,ntmps9;go_wp2_with fail;rw[HW.out];go_loopw [3] (fun i wx=>∃k:Nat,i=.int .i64 k∧k≤xp∧k≤12∧(∀a∈A.take k,AcSm a.d)∧Sx w [(w.heap.size,[.slice a1 xp b1,.slice r1 xq s1,.int .i64 m1])] wx) (fun i _=>12-(intOf i).toNat)
 case atStart=>exact⟨0,rfl,wo _,by omega,(fun t ht=>by simp at ht),bs⟩
 case round=>
  clear bs q;obtain⟨k,rfl,hk,yw,hT,bs⟩:=hrel;have q:=bs.q
  by_cases hlt:k<xp
  ·have wl : (k : Int) < (xp : Int) := by omega
   by_cases h12:k<12
   ·have wm : (k : Int) < 12 := by omega
    have xr:k<A.length:=(by rw[xO.out];exact hlt);obtain⟨x,hx⟩:=e_ (A[k]);have xw:A[k]?=some x:=(by rw[wh xr,hx]);have xF:x∈A:=(by rw[←hx];exact ws xr);obtain⟨b,off,cp,hf,-,hc⟩:=HA.out.cells xw;rw[xO.out] at hf;simp only[wq,true_and] at hf;obtain⟨rfl,rfl⟩:=hf
    have xH:=h_ fun h=>eS (P:=fun a:AcI=>AcSm a.d) xw hT h
    obtain⟨xj,xY,⟨xa,xc⟩,xZ⟩:=x;have yd:∀W,Bl w W→Calls prog 36 #[.agg #[.slice xa xY.length xc,.int .i64 xZ]] W (Ret W (.bool (cL (xY.map Prod.fst)))):=CA.out _ xF;obtain⟨xl,yM⟩:=e_ xY.length;rw[yM] at yd;obtain⟨jb,xu⟩:=e_ (ByteArray.mk xj.toArray);have hz:jb.size=xj.length:=(by rw[←xu,←ab]);obtain⟨G,hG⟩:=e_ (cL (xY.map Prod.fst));rw[hG] at yd;replace yd:=h_ yd;obtain⟨i0,i1,i2⟩:wr.cell? ⟨b,off+k*3,none⟩=some (.string jb)∧wr.cell? ⟨b,off+k*3+1,none⟩=some (.slice xa xl xc)∧wr.cell? ⟨b,off+k*3+2,none⟩=some (.int .i64 xZ):=(by rw[←xu,←yM];exact⟨hc wr q 0 _ rfl,hc wr q 1 _ rfl,hc wr q 2 _ rfl⟩)
    have zv:=h_ fun (h1:jb.size≤300) (h2:G=false)=>(⟨(by show xj.length≤300;omega),hG.trans h2⟩:AcSm (AcI.d ⟨xj,xY,(xa,xc),xZ⟩))
    clear hx xw xF xr hc yM xu hz hG hT
    by_cases h9:(300:Int)<(jb.size:Int)
    ·have yK:decide ((300:Int)<(jb.size:Int))=true:=decide_eq_true h9
     have xn:=bs.b3 0;go_wp2_with fail;go_ret;exact⟨true,rfl,(fun h=>by cases h),q⟩
    ·have yK:decide ((300:Int)<(jb.size:Int))=false:=decide_eq_false h9
     have xn:=bs.b3 0;go_wp2_with fail;refine(yd.out wr q).mono ?_;rintro e yI ⟨rfl,hb⟩;clear xn;replace bs:=bs.ret hb;replace q:=bs.q;clear hb;clear i0 i1 i2
     cases G with
     | true=>
      go_wp2_with fail;go_ret;exact⟨true,rfl,(fun h=>by cases h),q⟩
     | false=>
      go_wp2_with fail;go_roundw
      case rel=>exact⟨k+1,by go_num,by omega,by omega,xH.out (zv.out (by omega) (by trivial)),bs⟩
      case measure=>simp[intOf];omega
   ·have wm : ¬ (k : Int) < 12 := by omega
    have xN:xp≤10→∀a∈A,AcSm a.d:=fun h=>absurd h (by omega)
    have HT:=h_ xN;clear hT xN;have zw:=hk;have xn:=bs.b3 0;go_wp2_with fail;clear xn;go_loopw [4] (fun i wx=>∃k:Nat,i=.int .i64 k∧k≤xq∧k≤20∧(∀r∈R.take k,ReSm r.d)∧Sx w [(w.heap.size,[.slice a1 xp b1,.slice r1 xq s1,.int .i64 m1])] wx) (fun i _=>20-(intOf i).toNat)
    case atStart=>exact⟨0,rfl,wo _,by omega,(fun t ht=>by simp at ht),bs⟩
    case round=>
     clear bs q;obtain⟨k,rfl,hk,yw,hT,bs⟩:=hrel;have q:=bs.q
     by_cases hlt:k<xq
     ·have wl : (k : Int) < (xq : Int) := by omega
      by_cases h12:k<20
      ·have wm : (k : Int) < 20 := by omega
       have xr:k<R.length:=(by rw[xV.out];exact hlt);obtain⟨x,hx⟩:=e_ (R[k]);have xw:R[k]?=some x:=(by rw[wh xr,hx]);have xF:x∈R:=(by rw[←hx];exact ws xr);obtain⟨b,off,cp,hf,-,hc⟩:=HR.out.cells xw;rw[xV.out] at hf;simp only[wq,true_and] at hf;obtain⟨rfl,rfl⟩:=hf
       have xH:=h_ fun h=>eS (P:=fun r:RsI=>ReSm r.d) xw hT h
       obtain⟨G,hG⟩:∃G:Prop,G=ReSm x.d:=⟨_,rfl⟩;have xQ:=CR.out x xF;rw[←hG] at xQ xH;obtain⟨xj,xD,xE,xl,⟨xx,xy⟩,xt,xs,⟨xz,xA⟩⟩:=x;obtain⟨ll,xR⟩:=e_ xl.length;obtain⟨sl,xS⟩:=e_ xs.length;obtain⟨jb,xu⟩:=e_ (ByteArray.mk xj.toArray);have xL:∀W,Bl w W→Calls prog 47 #[.agg #[.string ⟨xj.toArray⟩,.bool xD,.int .i64 xE,.slice xx xl.length xy,.bool xt,.slice xz xs.length xA]] W (ug G W):=xQ;rw[xR,xS,xu] at xL;replace xL:=h_ xL;clear xQ;obtain⟨i0,i1,i2,i3,i4,i5⟩:wr.cell? ⟨b,off+k*6,none⟩=some (.string jb)∧wr.cell? ⟨b,off+k*6+1,none⟩=some (.bool xD)∧wr.cell? ⟨b,off+k*6+2,none⟩=some (.int .i64 xE)∧wr.cell? ⟨b,off+k*6+3,none⟩=some (.slice xx ll xy)∧wr.cell? ⟨b,off+k*6+4,none⟩=some (.bool xt)∧wr.cell? ⟨b,off+k*6+5,none⟩=some (.slice xz sl xA):=(by rw[←xu,←xR,←xS];exact⟨hc wr q 0 _ rfl,hc wr q 1 _ rfl,hc wr q 2 _ rfl,hc wr q 3 _ rfl,hc wr q 4 _ rfl,hc wr q 5 _ rfl⟩);clear hx xw xF xr hc xR xS xu hG hT;have xn:=bs.b3 0;go_wp2_with fail;refine(xL.out wr q).mono ?_;rintro e yI ⟨g,rfl,hg,hb⟩;clear xn;replace bs:=bs.ret hb;replace q:=bs.q;clear hb;clear i0 i1 i2 i3 i4 i5
       cases g with
       | true=>
        go_wp2_with fail;go_ret;exact⟨true,rfl,(fun h=>by cases h),q⟩
       | false=>
        have HG:=h_ (hg rfl);clear hg;go_wp2_with fail;go_roundw
        case rel=>exact⟨k+1,by go_num,by omega,by omega,xH.out HG.out,bs⟩
        case measure=>simp[intOf];omega
      ·have wm : ¬ (k : Int) < 20 := by omega
       have g1:(18:Int)<(xq:Int):=(by omega)
       have ye:decide ((18:Int)<(xq:Int))=true:=decide_eq_true g1
       clear hT g1
       by_cases g2:(10:Int)<(xp:Int)
       ·have xT:decide ((10:Int)<(xp:Int))=true:=decide_eq_true g2
        have xI:=h_ g2;clear g2;have xn:=bs.b3 0;go_wp2_with fail;go_ret;exact⟨true,rfl,(fun h=>by cases h),q⟩
       ·have xT:decide ((10:Int)<(xp:Int))=false:=decide_eq_false g2
        have xI:=h_ g2;clear g2;have xn:=bs.b3 0;go_wp2_with fail;go_ret;exact⟨true,rfl,(fun h=>by cases h),q⟩
     ·have wl : ¬ (k : Int) < (xq : Int) := by omega
      have yf:=fI (by rw[xV.out];omega) hT;have yN:=h_ yf;clear hT yf
      by_cases g2:(10:Int)<(xp:Int)
      ·have xT:decide ((10:Int)<(xp:Int))=true:=decide_eq_true g2
       have xI:=h_ g2;clear g2;have xn:=bs.b3 0;go_wp2_with fail;go_ret;exact⟨true,rfl,(fun h=>by cases h),q⟩
      ·have xT:decide ((10:Int)<(xp:Int))=false:=decide_eq_false g2
       have xI:=h_ g2;clear g2
       by_cases g1:(18:Int)<(xq:Int)
       ·have ye:decide ((18:Int)<(xq:Int))=true:=decide_eq_true g1
        have yg:=h_ g1;clear g1;have xn:=bs.b3 0;go_wp2_with fail;go_ret;exact⟨true,rfl,(fun h=>by cases h),q⟩
       ·have ye:decide ((18:Int)<(xq:Int))=false:=decide_eq_false g1
        have yg:=h_ g1;clear g1;have xn:=bs.b3 0;go_wp2_with fail;go_ret;exact⟨false,rfl,(fun _=>HP.out (by have:=xI.out;omega) (by have:=yg.out;omega) (HT.out (by have:=xI.out;omega)) yN.out),q⟩
  ·have wl : ¬ (k : Int) < (xp : Int) := by omega
   have xN:xp≤10→∀a∈A,AcSm a.d:=fun _=>fI (by rw[xO.out];omega) hT
   have HT:=h_ xN;clear hT xN;have zw:=hk;have xn:=bs.b3 0;go_wp2_with fail;clear xn;go_loopw [4] (fun i wx=>∃k:Nat,i=.int .i64 k∧k≤xq∧k≤20∧(∀r∈R.take k,ReSm r.d)∧Sx w [(w.heap.size,[.slice a1 xp b1,.slice r1 xq s1,.int .i64 m1])] wx) (fun i _=>20-(intOf i).toNat)
   case atStart=>exact⟨0,rfl,wo _,by omega,(fun t ht=>by simp at ht),bs⟩
   case round=>
    clear bs q;obtain⟨k,rfl,hk,yw,hT,bs⟩:=hrel;have q:=bs.q
    by_cases hlt:k<xq
    ·have wl : (k : Int) < (xq : Int) := by omega
     by_cases h12:k<20
     ·have wm : (k : Int) < 20 := by omega
      have xr:k<R.length:=(by rw[xV.out];exact hlt);obtain⟨x,hx⟩:=e_ (R[k]);have xw:R[k]?=some x:=(by rw[wh xr,hx]);have xF:x∈R:=(by rw[←hx];exact ws xr);obtain⟨b,off,cp,hf,-,hc⟩:=HR.out.cells xw;rw[xV.out] at hf;simp only[wq,true_and] at hf;obtain⟨rfl,rfl⟩:=hf
      have xH:=h_ fun h=>eS (P:=fun r:RsI=>ReSm r.d) xw hT h
      obtain⟨G,hG⟩:∃G:Prop,G=ReSm x.d:=⟨_,rfl⟩;have xQ:=CR.out x xF;rw[←hG] at xQ xH;obtain⟨xj,xD,xE,xl,⟨xx,xy⟩,xt,xs,⟨xz,xA⟩⟩:=x;obtain⟨ll,xR⟩:=e_ xl.length;obtain⟨sl,xS⟩:=e_ xs.length;obtain⟨jb,xu⟩:=e_ (ByteArray.mk xj.toArray);have xL:∀W,Bl w W→Calls prog 47 #[.agg #[.string ⟨xj.toArray⟩,.bool xD,.int .i64 xE,.slice xx xl.length xy,.bool xt,.slice xz xs.length xA]] W (ug G W):=xQ;rw[xR,xS,xu] at xL;replace xL:=h_ xL;clear xQ;obtain⟨i0,i1,i2,i3,i4,i5⟩:wr.cell? ⟨b,off+k*6,none⟩=some (.string jb)∧wr.cell? ⟨b,off+k*6+1,none⟩=some (.bool xD)∧wr.cell? ⟨b,off+k*6+2,none⟩=some (.int .i64 xE)∧wr.cell? ⟨b,off+k*6+3,none⟩=some (.slice xx ll xy)∧wr.cell? ⟨b,off+k*6+4,none⟩=some (.bool xt)∧wr.cell? ⟨b,off+k*6+5,none⟩=some (.slice xz sl xA):=(by rw[←xu,←xR,←xS];exact⟨hc wr q 0 _ rfl,hc wr q 1 _ rfl,hc wr q 2 _ rfl,hc wr q 3 _ rfl,hc wr q 4 _ rfl,hc wr q 5 _ rfl⟩);clear hx xw xF xr hc xR xS xu hG hT;have xn:=bs.b3 0;go_wp2_with fail;refine(xL.out wr q).mono ?_;rintro e yI ⟨g,rfl,hg,hb⟩;clear xn;replace bs:=bs.ret hb;replace q:=bs.q;clear hb;clear i0 i1 i2 i3 i4 i5
      cases g with
      | true=>
       go_wp2_with fail;go_ret;exact⟨true,rfl,(fun h=>by cases h),q⟩
      | false=>
       have HG:=h_ (hg rfl);clear hg;go_wp2_with fail;go_roundw
       case rel=>exact⟨k+1,by go_num,by omega,by omega,xH.out HG.out,bs⟩
       case measure=>simp[intOf];omega
     ·have wm : ¬ (k : Int) < 20 := by omega
      have g1:(18:Int)<(xq:Int):=(by omega)
      have ye:decide ((18:Int)<(xq:Int))=true:=decide_eq_true g1
      clear hT g1
      by_cases g2:(10:Int)<(xp:Int)
      ·have xT:decide ((10:Int)<(xp:Int))=true:=decide_eq_true g2
       have xI:=h_ g2;clear g2;have xn:=bs.b3 0;go_wp2_with fail;go_ret;exact⟨true,rfl,(fun h=>by cases h),q⟩
      ·have xT:decide ((10:Int)<(xp:Int))=false:=decide_eq_false g2
       have xI:=h_ g2;clear g2;have xn:=bs.b3 0;go_wp2_with fail;go_ret;exact⟨true,rfl,(fun h=>by cases h),q⟩
    ·have wl : ¬ (k : Int) < (xq : Int) := by omega
     have yf:=fI (by rw[xV.out];omega) hT;have yN:=h_ yf;clear hT yf
     by_cases g2:(10:Int)<(xp:Int)
     ·have xT:decide ((10:Int)<(xp:Int))=true:=decide_eq_true g2
      have xI:=h_ g2;clear g2;have xn:=bs.b3 0;go_wp2_with fail;go_ret;exact⟨true,rfl,(fun h=>by cases h),q⟩
     ·have xT:decide ((10:Int)<(xp:Int))=false:=decide_eq_false g2
      have xI:=h_ g2;clear g2
      by_cases g1:(18:Int)<(xq:Int)
      ·have ye:decide ((18:Int)<(xq:Int))=true:=decide_eq_true g1
       have yg:=h_ g1;clear g1;have xn:=bs.b3 0;go_wp2_with fail;go_ret;exact⟨true,rfl,(fun h=>by cases h),q⟩
      ·have ye:decide ((18:Int)<(xq:Int))=false:=decide_eq_false g1
       have yg:=h_ g1;clear g1;have xn:=bs.b3 0;go_wp2_with fail;go_ret;exact⟨false,rfl,(fun _=>HP.out (by have:=xI.out;omega) (by have:=yg.out;omega) (HT.out (by have:=xI.out;omega)) yN.out),q⟩
end Go.Proofs.YtjgeiieiinmdnaaGreatDoor
