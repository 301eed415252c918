/- RoG, RoH, RoI, RoJ: put together by mergetpl.py. -/
import Derived.Lib.SliceRun
import Derived.Test.YtjgeiieiinmdnaaGreatDoorKl
open Go.Proofs.Tryz
open Go.Value.slice renaming injEq→wu
open List renaming getElem_map→wo,getElem_mem→wq,length_map→ws,take_succ_eq_append_getElem→wt,take_of_length_le→ww
open Nat renaming le_refl→wh,le_trans→wv
namespace Go.Proofs.YtjgeiieiinmdnaaGreatDoor
set_option maxHeartbeats 4000000
set_option maxRecDepth 100000
open Go.RowKit Go.Lib



theorem vf (v u:Value) (xs ys:List (List UInt8)) (w:World) (hv:be v xs w) (hu:be u ys w) (hx:xs.length≤10000) (_hy:ys.length≤10000):
  Calls prog 21 #[v,u] w (Ret w (.bool (decide (xs=ys)))):=ov v u xs ys w hv.1 hu.1 (by omega)
instance itDec:DecidableEq It:=fun x y=>decidable_of_iff (x.j=y.j∧x.n=y.n∧x.g=y.g∧x.s=y.s∧x.k=y.k) (by
 obtain⟨j,n,g,s,k⟩:=x;obtain⟨j',n',g',s',k'⟩:=y
 constructor
 ·rintro ⟨h1,h2,h3,h4,h5⟩
  rw[show j=j' from h1,show n=n' from h2,show g=g' from h3,show s=s' from h4,show k=k' from h5]
 ·intro h
  injection h with h1 h
  injection h with h2 h
  injection h with h3 h
  injection h with h4 h
  exact⟨h1,h2,h3,h4,h⟩)
theorem vP (x y:It):decide (x=y)=(decide (x.j=y.j)&&(decide (x.n=y.n)&&(decide (x.g=y.g)&&(decide (x.s=y.s)&&(x.k==y.k))))):=by
 obtain⟨j,n,g,s,k⟩:=x;obtain⟨j',n',g',s',k'⟩:=y;rw[Bool.eq_iff_iff];simp only[decide_eq_true_eq,Bool.and_eq_true,beq_iff_eq]
 constructor
 ·intro h
  injection h with h1 h
  injection h with h2 h
  injection h with h3 h
  injection h with h4 h
  exact⟨h1,h2,h3,h4,h⟩
 ·rintro ⟨h1,h2,h3,h4,h5⟩
  rw[show j=j' from h1,show n=n' from h2,show g=g' from h3,show s=s' from h4,show k=k' from h5]
theorem uR (a b:List UInt8):((⟨a.toArray⟩:ByteArray).toList==(⟨b.toArray⟩:ByteArray).toList)=decide (a=b):=ot a b
theorem gU (j n j' n':ByteArray) (ga gb:Option Addr) (L ca L' cb:Nat) (a b c d k a' b' c' d' k' E1 E2 G:Bool) (w:World) (h1:(j.toList==j'.toList)=E1) (h2:(n.toList==n'.toList)=E2)
  (CG:∀w':World,Bl w w'→Calls prog 21 #[.slice ga L ca,.slice gb L' cb] w' (Ret w' (.bool G))):
  Calls prog 124 #[.agg #[.string j,.string n,.slice ga L ca,.bool a,.bool b,.bool c,.bool d,.bool k],.agg #[.string j',.string n',.slice gb L' cb,.bool a',.bool b',.bool c',.bool d',.bool k']] w (Ret w (.bool (E1&&(E2&&(G&&(decide ((a,b,c,d)=(a',b',c',d'))&&(k==k'))))))):=by
 have x0:=It8.new w (.string j) (.string n) (.slice ga L ca) (.bool a) (.bool b) (.bool c) (.bool d) (.bool k) 99;have q0:=(bR w).alloc (wh _) (.cells #[.string j,.string n,.slice ga L ca,.bool a,.bool b,.bool c,.bool d,.bool k] 99);obtain⟨W0,xq⟩:=e_ (w.alloc (.cells #[.string j,.string n,.slice ga L ca,.bool a,.bool b,.bool c,.bool d,.bool k] 99))
 have s0:W0.heap.size=w.heap.size+1:=by rw[←xq];simp
 rw[xq] at x0 q0;have al:=(bR W0).alloc (wh _) (.cells #[.string j',.string n',.slice gb L' cb,.bool a',.bool b',.bool c',.bool d',.bool k'] 99);have y1:=It8.new W0 (.string j') (.string n') (.slice gb L' cb) (.bool a') (.bool b') (.bool c') (.bool d') (.bool k') 99;have x1:=x0.ret al;have q1:=q0.trans (al.mono q0.size);rw[s0] at y1;obtain⟨W1,xt⟩:=e_ (W0.alloc (.cells #[.string j',.string n',.slice gb L' cb,.bool a',.bool b',.bool c',.bool d',.bool k'] 99));rw[xt] at x1 y1 q1
 have HW:Hid ((w.alloc (.cells #[.string j,.string n,.slice ga L ca,.bool a,.bool b,.bool c,.bool d,.bool k] 99)).alloc (.cells #[.string j',.string n',.slice gb L' cb,.bool a',.bool b',.bool c',.bool d',.bool k'] 99)=W1):=h_ (by rw[xq,xt])
 have HG:=h_ CG;have EQ:=cZ;have EG:=fK;clear CG xq xt s0 al x0 q0
 cases E1 with
 | false=>
  obtain⟨l,c0,c1,c2,c3,c4,c5,c6,c7,-,-,-,-,-,-,-,-⟩:=id x1;obtain⟨m,d0,d1,d2,d3,d4,d5,d6,d7,-,-,-,-,-,-,-,-⟩:=id y1;go_enter func124,ntmps124;go_wp2_with fail;rw[HW.out];go_wp2_with fail;go_ret;exact⟨rfl,q1⟩
 | true=>
  cases E2 with
  | false=>
   obtain⟨l,c0,c1,c2,c3,c4,c5,c6,c7,-,-,-,-,-,-,-,-⟩:=id x1;obtain⟨m,d0,d1,d2,d3,d4,d5,d6,d7,-,-,-,-,-,-,-,-⟩:=id y1;go_enter func124,ntmps124;go_wp2_with fail;rw[HW.out];go_wp2_with fail;go_ret;exact⟨rfl,q1⟩
  | true=>
   cases G with
   | false=>
    obtain⟨l,c0,c1,c2,c3,c4,c5,c6,c7,-,-,-,-,-,-,-,-⟩:=id x1;obtain⟨m,d0,d1,d2,d3,d4,d5,d6,d7,-,-,-,-,-,-,-,-⟩:=id y1;go_enter func124,ntmps124;go_wp2_with fail;rw[HW.out];refine(HG.out _ q1).mono ?_;rintro e w2 ⟨rfl,hb⟩;clear l c0 c1 c2 c3 c4 c5 c6 c7 m d0 d1 d2 d3 d4 d5 d6 d7;have x2:=x1.ret hb;have y2:=y1.ret hb;have q2:=q1.trans (hb.mono q1.size);clear hb x1 y1;obtain⟨l,c0,c1,c2,c3,c4,c5,c6,c7,-,-,-,-,-,-,-,-⟩:=x2;obtain⟨m,d0,d1,d2,d3,d4,d5,d6,d7,-,-,-,-,-,-,-,-⟩:=y2;go_wp2_with fail;go_ret;exact⟨by first | rfl | simp,q2⟩
   | true=>
    cases hs2:decide ((a,b,c,d)=(a',b',c',d')) with
    | true=>
     have xB:=fun w=>cZ a b c d a' b' c' d' w
     rw[hs2] at xB;clear hs2 EQ;obtain⟨l,c0,c1,c2,c3,c4,c5,c6,c7,-,-,-,-,-,-,-,-⟩:=id x1;obtain⟨m,d0,d1,d2,d3,d4,d5,d6,d7,-,-,-,-,-,-,-,-⟩:=id y1;go_enter func124,ntmps124;go_wp2_with fail;rw[HW.out];refine(HG.out _ q1).mono ?_;rintro e w2 ⟨rfl,hb⟩;clear l c0 c1 c2 c3 c4 c5 c6 c7 m d0 d1 d2 d3 d4 d5 d6 d7;have x2:=x1.ret hb;have y2:=y1.ret hb;have q2:=q1.trans (hb.mono q1.size);clear hb x1 y1;obtain⟨l,c0,c1,c2,c3,c4,c5,c6,c7,-,-,-,-,-,-,-,-⟩:=x2;obtain⟨m,d0,d1,d2,d3,d4,d5,d6,d7,-,-,-,-,-,-,-,-⟩:=y2;go_wp2_with fail;go_ret;exact⟨by first | rfl | simp,q2⟩
    | false=>
     have xB:=fun w=>cZ a b c d a' b' c' d' w
     rw[hs2] at xB;clear hs2 EQ;obtain⟨l,c0,c1,c2,c3,c4,c5,c6,c7,-,-,-,-,-,-,-,-⟩:=id x1;obtain⟨m,d0,d1,d2,d3,d4,d5,d6,d7,-,-,-,-,-,-,-,-⟩:=id y1;go_enter func124,ntmps124;go_wp2_with fail;rw[HW.out];refine(HG.out _ q1).mono ?_;rintro e w2 ⟨rfl,hb⟩;clear l c0 c1 c2 c3 c4 c5 c6 c7 m d0 d1 d2 d3 d4 d5 d6 d7;have x2:=x1.ret hb;have y2:=y1.ret hb;have q2:=q1.trans (hb.mono q1.size);clear hb x1 y1;obtain⟨l,c0,c1,c2,c3,c4,c5,c6,c7,-,-,-,-,-,-,-,-⟩:=x2;obtain⟨m,d0,d1,d2,d3,d4,d5,d6,d7,-,-,-,-,-,-,-,-⟩:=y2;go_wp2_with fail;go_ret;exact⟨by first | rfl | simp,q2⟩
theorem ks (p p':Im) (w:World) (h:be (gvI p) p.1.g w) (h':be (gvI p') p'.1.g w) (z:p.1.g.length≤10000) (z':p'.1.g.length≤10000):
  Calls prog 124 #[itA p,itA p'] w (Ret w (.bool (decide (p.1=p'.1)))):=by
 rw[vP];exact gU _ _ _ _ _ _ _ _ _ _ _ _ _ _ _ _ _ _ _ _ _ _ _ w (uR _ _) (uR _ _) (fun w' hb=>vf _ _ _ _ w' (h.ret hb) (h'.ret hb) z z')

theorem kH {α:Type} {A B:List α} {k:Nat} (hA:k<A.length) (hB:k<B.length) (h:A.take k=B.take k) (he:A[k]=B[k]):A.take (k+1)=B.take (k+1):=by
 rw[wt hA,wt hB,h,he]
theorem vx {α:Type} {A B:List α} {k:Nat} (hA:k<A.length) (hB:k<B.length) (he:A[k]≠B[k]):A≠B:=fun h=>by
 subst h;exact he rfl
theorem iE (v u:Value) (M K:List Im) (w:World) (hv:aE v M w) (hu:aE u K w) (hM:M.length≤10000) (hK:K.length≤10000) (hg:∀p∈M,p.1.g.length≤10000) (hk:∀p∈K,p.1.g.length≤10000):
  Calls prog 63 #[v,u] w (Ret w (.bool (decide (M.map Prod.fst=K.map Prod.fst)))):=by
 obtain⟨a,ca,xG,-⟩:=hv.form;obtain⟨b,cb,xH,-⟩:=hu.form;obtain⟨O,hO⟩:=e_ (decide (M.map Prod.fst=K.map Prod.fst));obtain⟨L,hL⟩:=e_ M.length;obtain⟨L',xr⟩:=e_ K.length;rw[hL] at xG hM;rw[xr] at xH hK;rw[hO];subst xG xH
 by_cases hlen:L=L'
 ·subst hlen
  have HO:=h_ hO;have HL:=h_ hL;have xC:=h_ xr;have HV:=h_ hv;have HU:=h_ hu;have HG:=h_ hg;have HK:=h_ hk;clear hO hL xr hv hu hg hk;go_enter func63,ntmps63;go_wp2_with fail;go_loopw [5] (fun i wx=>∃k:Nat,k≤L∧i=.int .i64 k∧(M.map Prod.fst).take k=(K.map Prod.fst).take k∧Bl w wx) (fun i _=>L-(intOf i).toNat)
  case atStart=>exact⟨0,Nat.zero_le _,rfl,rfl,bQ _⟩
  case round=>
   obtain⟨k,hk,rfl,xw,xu⟩:=hrel;have xx:=xu.size
   by_cases hlt:k<L
   ·have xy : k < M.length := by rw [HL.out]; exact hlt
    have xz:k<K.length:=(by rw[xC.out];exact hlt);have hV:=HV.out.ret xu;have hU:=HU.out.ret xu;obtain⟨B,off,cp,hf,xp,hc⟩:=hV.cell xy;rw[HL.out] at hf;simp only[wu,true_and] at hf;obtain⟨rfl,rfl⟩:=hf;obtain⟨B',xn,xK,hf,xo,xI⟩:=hU.cell xz;rw[xC.out] at hf;simp only[wu,true_and] at hf;obtain⟨rfl,rfl⟩:=hf;have xD:k<(M.map Prod.fst).length:=(by simpa using xy);have xE:k<(K.map Prod.fst).length:=(by simpa using xz)
    have hst:M[k].1=K[k].1→(M.map Prod.fst).take (k+1)=(K.map Prod.fst).take (k+1):=fun h=>kH xD xE xw (by rw[wo,wo];exact h)
    have xA:M[k].1≠K[k].1→O=false:=fun h=>by
     rw[←HO.out];exact decide_eq_false (vx xD xE (by rw[wo,wo];exact h))
    have g1:=hV.2 M[k] (wq xy);have g2:=hU.2 K[k] (wq xz);have z1:=HG.out M[k] (wq xy);have z2:=HK.out K[k] (wq xz);obtain⟨p,hp⟩:=e_ (M[k]);obtain⟨p',xJ⟩:=e_ (K[k]);rw[hp] at hc hst xA g1 z1;rw[xJ] at xI hst xA g2 z2;obtain⟨c0,c1,c2,c3,c4,c5,c6,c7⟩:=hc;obtain⟨d0,d1,d2,d3,d4,d5,d6,d7⟩:=xI
    have C:=fun (w':World) (hb:Bl wr w')=>ks p p' w' (g1.ret hb) (g2.ret hb) z1 z2
    have CH:=h_ C;have HS:=h_ hst;have HN:=h_ xA;clear hp xJ hV hU xD xE hst xA g1 g2 z1 z2 C xw
    by_cases he:p.1=p'.1
    ·have CC:∀(w':World),Bl wr w'→Calls prog 124 #[itA p,itA p'] w' (Ret w' (.bool true)):=fun w' hb=>by
      have:=CH.out w' hb;rw[decide_eq_true he] at this;exact this
     have xF:=h_ CC;have HT:=h_ (HS.out he);clear CC CH HS HN he;go_wp2_with fail;have bd:=(bR wr).drew;refine wp_region_held_drew (S:=fun w'=>w'.cell? ⟨B,off+k*8,none⟩=some (.string ⟨p.1.j.toArray⟩)∧w'.cell? ⟨B,off+k*8+1,none⟩=some (.string ⟨p.1.n.toArray⟩)∧w'.cell? ⟨B,off+k*8+2,none⟩=some (gvI p)∧w'.cell? ⟨B,off+k*8+3,none⟩=some (.bool p.1.s.1)∧w'.cell? ⟨B,off+k*8+4,none⟩=some (.bool p.1.s.2.1)∧w'.cell? ⟨B,off+k*8+5,none⟩=some (.bool p.1.s.2.2.1)∧w'.cell? ⟨B,off+k*8+6,none⟩=some (.bool p.1.s.2.2.2)∧w'.cell? ⟨B,off+k*8+7,none⟩=some (.bool p.1.k)∧w'.cell? ⟨B',xn+k*8,none⟩=some (.string ⟨p'.1.j.toArray⟩)∧w'.cell? ⟨B',xn+k*8+1,none⟩=some (.string ⟨p'.1.n.toArray⟩)∧w'.cell? ⟨B',xn+k*8+2,none⟩=some (gvI p')∧w'.cell? ⟨B',xn+k*8+3,none⟩=some (.bool p'.1.s.1)∧w'.cell? ⟨B',xn+k*8+4,none⟩=some (.bool p'.1.s.2.1)∧w'.cell? ⟨B',xn+k*8+5,none⟩=some (.bool p'.1.s.2.2.1)∧w'.cell? ⟨B',xn+k*8+6,none⟩=some (.bool p'.1.s.2.2.2)∧w'.cell? ⟨B',xn+k*8+7,none⟩=some (.bool p'.1.k)) (by kernel_rfl) ⟨c0,c1,c2,c3,c4,c5,c6,c7,d0,d1,d2,d3,d4,d5,d6,d7⟩ (fun hH=>?_);refine rS [(0,some 17),(1,some 18),(2,some 19),(3,some 20),(4,some 21),(5,some 22),(6,some 23),(7,some 24)] ?_
     iterate 8 refine aS ?_
     refine rE ?_
     refine aC (i:=8) fun K hK=>?_
     go_simp;refine(xF.out _ bd).mono ?_;rintro e w2 ⟨rfl,hb⟩;have q2:=(xu.trans (bd.mono xx)).trans (hb.mono (wv xx bd.size));obtain⟨qb,-⟩:=ag (bd.trans (hb.mono bd.size));go_simp;clear hH;refine hK.out _ _ ⟨(qb _ _ xp).trans c0,(qb _ _ xp).trans c1,(qb _ _ xp).trans c2,(qb _ _ xp).trans c3,(qb _ _ xp).trans c4,(qb _ _ xp).trans c5,(qb _ _ xp).trans c6,(qb _ _ xp).trans c7,(qb _ _ xo).trans d0,(qb _ _ xo).trans d1,(qb _ _ xo).trans d2,(qb _ _ xo).trans d3,(qb _ _ xo).trans d4,(qb _ _ xo).trans d5,(qb _ _ xo).trans d6,(qb _ _ xo).trans d7⟩ (fun hH=>?_);clear hK K qb hb bd;refine rS [(9,some 26)] ?_;refine aS ?_;refine rE ?_;refine aD ?_;go_wp2_with fail;go_roundw
     case rel=>exact⟨k+1,by omega,by go_num,HT.out,q2⟩
     case measure=>simp[intOf];omega
    ·have CC:∀(w':World),Bl wr w'→Calls prog 124 #[itA p,itA p'] w' (Ret w' (.bool false)):=fun w' hb=>by
      have:=CH.out w' hb;rw[decide_eq_false he] at this;exact this
     have xF:=h_ CC;have:=HN.out he;subst this;clear CC CH HS HN he;go_wp2_with fail;have bd:=(bR wr).drew;refine wp_region_held_drew (S:=fun w'=>w'.cell? ⟨B,off+k*8,none⟩=some (.string ⟨p.1.j.toArray⟩)∧w'.cell? ⟨B,off+k*8+1,none⟩=some (.string ⟨p.1.n.toArray⟩)∧w'.cell? ⟨B,off+k*8+2,none⟩=some (gvI p)∧w'.cell? ⟨B,off+k*8+3,none⟩=some (.bool p.1.s.1)∧w'.cell? ⟨B,off+k*8+4,none⟩=some (.bool p.1.s.2.1)∧w'.cell? ⟨B,off+k*8+5,none⟩=some (.bool p.1.s.2.2.1)∧w'.cell? ⟨B,off+k*8+6,none⟩=some (.bool p.1.s.2.2.2)∧w'.cell? ⟨B,off+k*8+7,none⟩=some (.bool p.1.k)∧w'.cell? ⟨B',xn+k*8,none⟩=some (.string ⟨p'.1.j.toArray⟩)∧w'.cell? ⟨B',xn+k*8+1,none⟩=some (.string ⟨p'.1.n.toArray⟩)∧w'.cell? ⟨B',xn+k*8+2,none⟩=some (gvI p')∧w'.cell? ⟨B',xn+k*8+3,none⟩=some (.bool p'.1.s.1)∧w'.cell? ⟨B',xn+k*8+4,none⟩=some (.bool p'.1.s.2.1)∧w'.cell? ⟨B',xn+k*8+5,none⟩=some (.bool p'.1.s.2.2.1)∧w'.cell? ⟨B',xn+k*8+6,none⟩=some (.bool p'.1.s.2.2.2)∧w'.cell? ⟨B',xn+k*8+7,none⟩=some (.bool p'.1.k)) (by kernel_rfl) ⟨c0,c1,c2,c3,c4,c5,c6,c7,d0,d1,d2,d3,d4,d5,d6,d7⟩ (fun hH=>?_);refine rS [(0,some 17),(1,some 18),(2,some 19),(3,some 20),(4,some 21),(5,some 22),(6,some 23),(7,some 24)] ?_
     iterate 8 refine aS ?_
     refine rE ?_
     refine aC (i:=8) fun K hK=>?_
     go_simp;refine(xF.out _ bd).mono ?_;rintro e w2 ⟨rfl,hb⟩;have q2:=(xu.trans (bd.mono xx)).trans (hb.mono (wv xx bd.size));obtain⟨qb,-⟩:=ag (bd.trans (hb.mono bd.size));go_simp;clear hH;refine hK.out _ _ ⟨(qb _ _ xp).trans c0,(qb _ _ xp).trans c1,(qb _ _ xp).trans c2,(qb _ _ xp).trans c3,(qb _ _ xp).trans c4,(qb _ _ xp).trans c5,(qb _ _ xp).trans c6,(qb _ _ xp).trans c7,(qb _ _ xo).trans d0,(qb _ _ xo).trans d1,(qb _ _ xo).trans d2,(qb _ _ xo).trans d3,(qb _ _ xo).trans d4,(qb _ _ xo).trans d5,(qb _ _ xo).trans d6,(qb _ _ xo).trans d7⟩ (fun hH=>?_);clear hK K qb hb bd;refine rS [(9,some 26)] ?_;refine aS ?_;refine rE ?_;refine aD ?_;go_wp2_with fail;go_ret;exact⟨rfl,q2⟩
   ·have e1:(M.map Prod.fst).take k=M.map Prod.fst:=ww (by rw[ws,HL.out];omega)
    have e2:(K.map Prod.fst).take k=K.map Prod.fst:=ww (by rw[ws,xC.out];omega)
    rw[e1,e2] at xw;have:O=true:=(by rw[←HO.out];exact decide_eq_true xw);subst this;clear e1 e2 xw;go_wp2_with fail;go_ret;exact⟨rfl,xu⟩
 ·have:O=false:=by
   rw[←hO]
   refine decide_eq_false fun h=>hlen ?_
   have:=congrArg List.length h;rw[ws,ws,hL,xr] at this;exact this
  subst this
  have e0:((L:Int)==(L':Int))=false:=beq_eq_false_iff_ne.2 (by omega)
  clear hO hL xr hv hu hg hk;go_enter func63,ntmps63;go_wp2_with fail;go_ret;exact⟨rfl,bQ _⟩
theorem rI (v u:Value) (M K:List Im) (w:World) (hv:aE v M w) (hu:aE u K w) (hM:M.length≤10000) (hK:K.length≤10000) (hg:∀p∈M,p.1.g.length≤10000) (hk:∀p∈K,p.1.g.length≤10000) (x y:Int):
  Calls prog 18 #[.agg #[v,.int .i64 x],.agg #[u,.int .i64 y]] w (Ret w (.bool (decide (M.map Prod.fst=K.map Prod.fst)&&x==y))):=by
 obtain⟨a,ca,rfl,-⟩:=hv.form;obtain⟨b,cb,rfl,-⟩:=hu.form
 have C:=fun (w':World) (hb:Bl w w')=>iE _ _ M K w' (hv.ret hb) (hu.ret hb) hM hK hg hk
 obtain⟨O,hO⟩:=e_ (decide (M.map Prod.fst=K.map Prod.fst));rw[hO] at C ⊢;obtain⟨L,hL⟩:=e_ M.length;obtain⟨L',xr⟩:=e_ K.length;rw[hL,xr] at C ⊢;have CH:=h_ C;clear C hv hu hg hk hO hL xr;have r0:=Two.new w (.slice a L ca) (.int .i64 x) 31;have q0:=(bR w).alloc (wh _) (.cells #[.slice a L ca,.int .i64 x] 31);obtain⟨W0,xq⟩:=e_ (w.alloc (.cells #[.slice a L ca,.int .i64 x] 31))
 have s0:W0.heap.size=w.heap.size+1:=by rw[←xq];simp
 rw[xq] at r0 q0;have al:=(bR W0).alloc (wh _) (.cells #[.slice b L' cb,.int .i64 y] 31);have t1:=Two.new W0 (.slice b L' cb) (.int .i64 y) 31;have r1:=r0.ret al;have q1:=q0.trans (al.mono q0.size);rw[s0] at t1;obtain⟨W1,xt⟩:=e_ (W0.alloc (.cells #[.slice b L' cb,.int .i64 y] 31));rw[xt] at r1 t1 q1
 have HW:Hid ((w.alloc (.cells #[.slice a L ca,.int .i64 x] 31)).alloc (.cells #[.slice b L' cb,.int .i64 y] 31)=W1):=h_ (by rw[xq,xt])
 clear xq xt s0 al r0 q0
 cases O with
 | true=>
  obtain⟨l,c0,c1,-,-⟩:=id r1;obtain⟨m,d0,d1,-,-⟩:=id t1;go_enter func18,ntmps18;go_wp2_with fail;rw[HW.out];go_wp2_with fail;refine(CH.out _ q1).mono ?_;rintro e w2 ⟨rfl,hb⟩;clear l c0 c1 m d0 d1;have r2:=r1.ret hb;have t2:=t1.ret hb;have q2:=q1.trans (hb.mono q1.size);clear hb r1 t1;obtain⟨l,c0,c1,-,-⟩:=r2;obtain⟨m,d0,d1,-,-⟩:=t2;go_wp2_with fail;go_ret;exact⟨by first | rfl | simp,q2⟩
 | false=>
  obtain⟨l,c0,c1,-,-⟩:=id r1;obtain⟨m,d0,d1,-,-⟩:=id t1;go_enter func18,ntmps18;go_wp2_with fail;rw[HW.out];go_wp2_with fail;refine(CH.out _ q1).mono ?_;rintro e w2 ⟨rfl,hb⟩;clear l c0 c1 m d0 d1;have r2:=r1.ret hb;have t2:=t1.ret hb;have q2:=q1.trans (hb.mono q1.size);clear hb r1 t1;obtain⟨l,c0,c1,-,-⟩:=r2;obtain⟨m,d0,d1,-,-⟩:=t2;go_wp2_with fail;go_ret;exact⟨by first | rfl | simp,q2⟩
end Go.Proofs.YtjgeiieiinmdnaaGreatDoor
