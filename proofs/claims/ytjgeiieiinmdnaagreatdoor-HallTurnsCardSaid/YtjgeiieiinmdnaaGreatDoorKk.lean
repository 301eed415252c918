/- RoC, RoD, RoE, RoF: put together by mergetpl.py. -/
import Derived.Lib.SliceRun
import Derived.Test.YtjgeiieiinmdnaaGreatDoorKl
open Go.Proofs.Tryz
open Bool renaming true_and→wt,false_and→wz
open Go.Addr.mk renaming injEq→wD
open Go.Lib renaming run_eql_slice_nil→wF
open Go.RowKit.Below renaming drew→wu
open Go.Value.slice renaming injEq→wq
open Go.World renaming ownsRow_nil→wG
open List renaming getElem_mem→wo,take_succ_eq_append_getElem→wv,length_map→ww,getElem_map→wy,take_of_length_le→wE,nil_append→wI,set_cons_zero→wK,set_append_right→wL,length_append→wM
open Nat renaming le_refl→wh,lt_of_lt_of_le→ws,le_succ→wB,zero_le→wC,zero_add→wH,sub_self→wN
open Option.some renaming injEq→wA
namespace Go.Proofs.YtjgeiieiinmdnaaGreatDoor
set_option maxHeartbeats 4000000
set_option maxRecDepth 100000
open Go.RowKit Go.Lib

def cN (M:List Im):Prop:=M.length≤1000∧∀p∈M,p.1.j.length≤10000∧p.1.n.length≤10000∧p.1.g.length≤1000∧∀x∈p.1.g,x.length≤10000
theorem iA (M:List Im) (k:Nat) (hk:k<M.length):aI ((M.map Prod.fst).take (k+1))=(aI ((M.map Prod.fst).take k)&&(decide (k=0)||au (M[k-1]'(by omega)).1.j M[k].1.j)):=by
 have yN:k<(M.map Prod.fst).length:=by simpa using hk
 rw[wv yN,mV]
 congr 1
 rw[wy]
 cases k with
 | zero=>rfl
 | succ j=>
  have hj:j<(M.map Prod.fst).length:=by omega
  rw[wv hj]
  have e1:((M.map Prod.fst).take j++[(M.map Prod.fst)[j]]).isEmpty=false:=by simp
  have e2:((M.map Prod.fst).take j++[(M.map Prod.fst)[j]]).getLastD it0=(M[j]'(by simpa using hj)).1:=by simp[List.getLastD_eq_getLast?]
  rw[e1,e2]
  rfl
theorem kz (L:List It) (k:Nat) (h:aI (L.take k)=false):aI L=false:=by
 cases hq:aI L with
 | false=>rfl
 | true=>
  have h2:aI (L.take k++L.drop k)=true:=by rw[List.take_append_drop];exact hq
  rw[(ij h2).1] at h
  cases h
theorem oE (L:List It) (k:Nat) (hk:k<L.length) (h:di L[k]=false):L.all di=false:=by
 rw[List.all_eq_false];exact⟨L[k],wo hk,by rw[h];decide⟩
theorem mJ (a b:ByteArray) (w:World) (ha:a.size≤10000) (hb:b.size≤10000) (hm:ML w) (h:au a.data.toList b.data.toList=true):Calls prog 175 #[.string a,.string b] w (Ret w (.int .i64 (-1))):=by
 have:=l7 a b w ha hb hm;unfold gy at this
 rwa [h,if_pos rfl] at this
theorem oU (a b:ByteArray) (w:World) (ha:a.size≤10000) (hb:b.size≤10000) (hm:ML w) (h:au a.data.toList b.data.toList=false):Calls prog 175 #[.string a,.string b] w (Ret w (.int .i64 (if au b.data.toList a.data.toList then 1 else 0))):=by
 have:=l7 a b w ha hb hm;unfold gy at this
 rwa [h,if_neg (by decide)] at this
theorem rL (v:Value) (ver:Int) (M:List Im) (w:World) (hv:aE v M w) (hs:cN M) (hm:ML w):
  Calls prog 132 #[.agg #[v,.int .i64 ver]] w (Ret w (.int .i64 (if kZ (M.map Prod.fst) ver then 0 else 8))):=by
 obtain⟨a,cap,hf,xB⟩:=hv.form;obtain⟨L,hL⟩:=e_ M.length;have yn:=hs.1;rw[hL] at hf yn;subst hf;obtain⟨O,hO⟩:∃O:Int,(if kZ (M.map Prod.fst) ver then 0 else 8)=O:=⟨_,rfl⟩;rw[hO];have HO:=h_ hO;have HL:=h_ hL;have HS:=h_ hs.2;have q0:=(bR w).alloc (wh _) (.cells #[.slice a L cap,.int .i64 ver] 31);have HV:=h_ (hv.ret ((bR w).alloc (wh _) (.cells #[.slice a L cap,.int .i64 ver] 31)));have HR:=h_ (Two.new w (.slice a L cap) (.int .i64 ver) 31);have xI:=hm.ret q0;have xD:=q0;obtain⟨W,hW⟩:=e_ (w.alloc (.cells #[.slice a L cap,.int .i64 ver] 31));rw[hW] at q0 xD HV HR xI;have yO:=h_ hW;clear hO hL hs hv hW xB hm;obtain⟨x0,x1,x2,-,-⟩:=HR.out;go_enter func132,ntmps132;go_wp2_with fail;rw[yO.out];go_wp2_with fail;clear x0 x1 x2;go_loopw [8] (fun i wx=>∃k:Nat,k≤L∧i=.int .i64 k∧((M.map Prod.fst).take k).all di=true∧aI ((M.map Prod.fst).take k)=true∧Bl W wx) (fun i _=>L-(intOf i).toNat)
 case atStart=>exact⟨0,wC _,rfl,rfl,rfl,bQ _⟩
 case round=>
  obtain⟨k,hk,rfl,xC,xJ,xq⟩:=hrel
  by_cases hlt:k<L
  ·have xu : k < M.length := by rw [HL.out]; exact hlt
   have hV:=HV.out.ret xq;obtain⟨b,off,cp,hf,xR,hc⟩:=hV.cell xu;rw[HL.out] at hf;simp only[wq,true_and] at hf;obtain⟨rfl,rfl⟩:=hf;obtain⟨s1,s2,s3,s4⟩:=HS.out M[k] (wo xu);have hg:=hV.2 M[k] (wo xu);have ye:k<(M.map Prod.fst).length:=(by simpa using xu)
   have yf:((M.map Prod.fst).take (k+1)).all di=(di M[k].1):=by
    rw[wv ye,List.all_append,xC]
    simp
   have xt:=iA M k xu;rw[xJ,wt] at xt
   have xy:di M[k].1=false→O=8:=fun h=>by
    rw[←HO.out];unfold kZ;rw[oE _ k ye (by rw[wy];exact h)]
    rfl
   have xK:aI ((M.map Prod.fst).take (k+1))=false→O=8:=fun h=>by
    rw[←HO.out];unfold kZ;rw[kz _ _ h,wz,Bool.and_false]
    rfl
   have xz:0<k→∃p':Im,M[k-1]'(by omega)=p'∧wr.cell? ⟨b,off+(k-1)*8,none⟩=some (.string ⟨p'.1.j.toArray⟩)∧p'.1.j.length≤10000:=fun h=>by
    obtain⟨b',ze,zo,yo,_,yP,_⟩:=hV.cell (k:=k-1) (by omega);simp only[wq,wA,wD,and_true] at yo;obtain⟨⟨rfl,rfl⟩,_⟩:=yo;exact⟨_,rfl,yP,(HS.out _ (wo (by omega))).1⟩
   obtain⟨p,hp⟩:=e_ (M[k]);rw[hp] at hc s1 s2 s3 s4 hg yf xy xt;obtain⟨c0,c1,c2,c3,c4,c5,c6,c7⟩:=hc
   have CI:=fun (w':World) (hb:Bl wr w') (hm:ML w')=>tk p w' (hg.ret hb) s1 s2 s3 s4 hm
   have CI:=h_ CI;have HG:=h_ hg;have yp:=h_ yf;have yQ:=h_ xK;have xF:(⟨p.1.j.toArray⟩:ByteArray).size≤10000:=(by rw[←ab];exact s1);have yq:=h_ xF;have R0:=h_ (HR.out.ret xq);obtain⟨r0,r1,r2,-,-⟩:=R0.out;clear hp hg hV s1 s2 s3 s4 yf xK ye xF xC xJ
   cases hI:di p.1 with
   | false=>
    have:=xy hI;subst this;clear xy xt xz;go_wp2_with fail;have al:=((bR wr).alloc (wh _) (.cells (itC p).toArray 99)).drew;have x1:=(It8.new wr (.string ⟨p.1.j.toArray⟩) (.string ⟨p.1.n.toArray⟩) (gvI p) (.bool p.1.s.1) (.bool p.1.s.2.1) (.bool p.1.s.2.2.1) (.bool p.1.s.2.2.2) (.bool p.1.k) 99).ret (wu (bQ _));have r1:=(HR.out.ret xq).ret al;have q1:=xq.trans (al.mono xq.size);have m1:=(xI.ret xq).ret al;clear al;refine wp_region_held_drew (S:=fun w'=>w'.cell? ⟨wr.heap.size,0,none⟩=some (.string ⟨p.1.j.toArray⟩)∧w'.cell? ⟨wr.heap.size,1,none⟩=some (.string ⟨p.1.n.toArray⟩)∧w'.cell? ⟨wr.heap.size,2,none⟩=some (gvI p)∧w'.cell? ⟨wr.heap.size,3,none⟩=some (.bool p.1.s.1)∧w'.cell? ⟨wr.heap.size,4,none⟩=some (.bool p.1.s.2.1)∧w'.cell? ⟨wr.heap.size,5,none⟩=some (.bool p.1.s.2.2.1)∧w'.cell? ⟨wr.heap.size,6,none⟩=some (.bool p.1.s.2.2.2)∧w'.cell? ⟨wr.heap.size,7,none⟩=some (.bool p.1.k)∧w'.cell? ⟨w.heap.size,0,none⟩=some (.slice (some ⟨b,off,none⟩) L cap)) (by kernel_rfl) ⟨x1.c0,x1.c1,x1.c2,x1.c3,x1.c4,x1.c5,x1.c6,x1.c7,r1.c0⟩ (fun hH=>?_);have xr:=((bR wr).alloc (wh _) (.cells (itC p).toArray 99)).drew;generalize (wr.alloc (.cells (itC p).toArray 99)).drew=V at x1 r1 q1 m1 xr hH ⊢;refine rS [(0,some 13)] ?_;refine aS ?_;refine rE ?_
    refine aC (i:=1) fun K hK=>?_
    go_simp;refine(CI.out _ xr (m1)).mono ?_;rintro e w2 ⟨rfl,hb⟩;have x2:=x1.ret hb;have r2:=r1.ret hb;have q2:=q1.trans (hb.mono q1.size);have m2:=m1.ret hb;clear hb x1 r1 q1 m1;go_simp;clear hH;refine hK.out _ _ ⟨x2.c0,x2.c1,x2.c2,x2.c3,x2.c4,x2.c5,x2.c6,x2.c7,r2.c0⟩ (fun hH=>?_);clear hK K;refine rS [(2,some 15),(3,some 16)] ?_
    iterate 2 refine aS ?_
    refine rE ?_;refine rS [(4,some 17),(5,some 18),(6,some 19),(7,some 20),(8,some 21),(9,some 22),(10,some 23),(11,some 24),(12,some 25),(13,some 26),(14,some 27),(15,some 28),(16,some 29),(17,some 30),(18,some 31)] ?_
    iterate 15 refine aF ?_
    refine rE ?_;refine rS [(19,some 32)] ?_;refine aS ?_;refine rE ?_;refine aD ?_;go_wp2_with fail;go_ret;exact⟨rfl,xD.trans (q2.mono xD.size)⟩
   | true=>
    rw[hI] at yp;have xW:=yp;clear xy
    by_cases hk0:0<k
    ·obtain⟨p',xS,hy,xG⟩:=xz hk0
     have yt:((k:Int)-1)=((k-1:Nat):Int):=(by omega)
     have yu:IntKind.i64.wrap ((k-1:Nat):Int)=((k-1:Nat):Int):=IntWalk.i64_in _ (by omega)
     have yv:((k-1:Nat):Int)<(L:Int):=(by omega);have yw:(0:Int)≤((k-1:Nat):Int):=(by omega);have gk:(0:Int)<k:=(by omega);rw[xS,decide_eq_false (by omega),Bool.false_or] at xt;have xL:(⟨p'.1.j.toArray⟩:ByteArray).size≤10000:=(by rw[←ab];exact xG);have yx:=h_ xL;clear xz xS xG xL
     cases hl:au p'.1.j p.1.j with
     | true=>
      rw[hl] at xt;have yg:=h_ xt
      have xM:au (⟨p'.1.j.toArray⟩:ByteArray).data.toList (⟨p.1.j.toArray⟩:ByteArray).data.toList=true:=hl
      have yh:=h_ xM;clear xt hl xM;go_wp2_with fail;have al:=((bR wr).alloc (wh _) (.cells (itC p).toArray 99)).drew;have x1:=(It8.new wr (.string ⟨p.1.j.toArray⟩) (.string ⟨p.1.n.toArray⟩) (gvI p) (.bool p.1.s.1) (.bool p.1.s.2.1) (.bool p.1.s.2.2.1) (.bool p.1.s.2.2.2) (.bool p.1.k) 99).ret (wu (bQ _));have r1:=(HR.out.ret xq).ret al;have q1:=xq.trans (al.mono xq.size);have m1:=(xI.ret xq).ret al;have y1:=((ag al).1 _ _ xR).trans hy;have xA:=ws xR al.size;clear al;refine wp_region_held_drew (S:=fun w'=>w'.cell? ⟨wr.heap.size,0,none⟩=some (.string ⟨p.1.j.toArray⟩)∧w'.cell? ⟨wr.heap.size,1,none⟩=some (.string ⟨p.1.n.toArray⟩)∧w'.cell? ⟨wr.heap.size,2,none⟩=some (gvI p)∧w'.cell? ⟨wr.heap.size,3,none⟩=some (.bool p.1.s.1)∧w'.cell? ⟨wr.heap.size,4,none⟩=some (.bool p.1.s.2.1)∧w'.cell? ⟨wr.heap.size,5,none⟩=some (.bool p.1.s.2.2.1)∧w'.cell? ⟨wr.heap.size,6,none⟩=some (.bool p.1.s.2.2.2)∧w'.cell? ⟨wr.heap.size,7,none⟩=some (.bool p.1.k)∧w'.cell? ⟨w.heap.size,0,none⟩=some (.slice (some ⟨b,off,none⟩) L cap)∧w'.cell? ⟨b,off+(k-1)*8,none⟩=some (.string ⟨p'.1.j.toArray⟩)) (by kernel_rfl) ⟨x1.c0,x1.c1,x1.c2,x1.c3,x1.c4,x1.c5,x1.c6,x1.c7,r1.c0,y1⟩ (fun hH=>?_);have xr:=((bR wr).alloc (wh _) (.cells (itC p).toArray 99)).drew;generalize (wr.alloc (.cells (itC p).toArray 99)).drew=V at x1 r1 q1 m1 y1 xA xr hH ⊢;refine rS [(0,some 13)] ?_;refine aS ?_;refine rE ?_
      refine aC (i:=1) fun K hK=>?_
      go_simp;refine(CI.out _ xr (m1)).mono ?_;rintro e w2 ⟨rfl,hb⟩;have x2:=x1.ret hb;have r2:=r1.ret hb;have q2:=q1.trans (hb.mono q1.size);have m2:=m1.ret hb;have y2:=((ag hb).1 _ _ xA).trans y1;have xE:=ws xA hb.size;clear y1 xA;clear hb x1 r1 q1 m1;go_simp;clear hH;refine hK.out _ _ ⟨x2.c0,x2.c1,x2.c2,x2.c3,x2.c4,x2.c5,x2.c6,x2.c7,r2.c0,y2⟩ (fun hH=>?_);clear hK K;refine rS [(2,some 15),(3,some 16),(4,some 17),(5,some 18),(6,some 19),(7,some 20),(8,some 21),(9,some 22),(10,some 23),(11,some 24),(12,some 25),(13,some 26),(14,some 27),(15,some 28)] ?_
      iterate 14 refine aS ?_
      refine rE ?_
      refine aC (i:=16) fun K hK=>?_
      go_simp;refine(mJ _ _ _ yx.out yq.out (m2) yh.out).mono ?_;rintro e w3 ⟨rfl,hb⟩;have x3:=x2.ret hb;have r3:=r2.ret hb;have q3:=q2.trans (hb.mono q2.size);have m3:=m2.ret hb;have y3:=((ag hb).1 _ _ xE).trans y2;have yR:=ws xE hb.size;clear y2 xE;clear hb x2 r2 q2 m2;go_simp;clear hH;refine hK.out _ _ ⟨x3.c0,x3.c1,x3.c2,x3.c3,x3.c4,x3.c5,x3.c6,x3.c7,r3.c0,y3⟩ (fun hH=>?_);clear hK K;refine rS [(17,some 30),(18,some 31),(19,some 32)] ?_
      iterate 3 refine aS ?_
      refine rE ?_;refine aD ?_
      (try clear yt yu yv yw)
      go_wp2_with fail;go_roundw
      case rel=>exact⟨k+1,by omega,by go_num,xW.out,yg.out,q3⟩
      case measure=>simp[intOf];omega
     | false=>
      rw[hl] at xt;have:=yQ.out xt;subst this
      have xM:au (⟨p'.1.j.toArray⟩:ByteArray).data.toList (⟨p.1.j.toArray⟩:ByteArray).data.toList=false:=hl
      have yh:=h_ xM;obtain⟨U,hU⟩:∃U:Int,(if au (⟨p.1.j.toArray⟩:ByteArray).data.toList (⟨p'.1.j.toArray⟩:ByteArray).data.toList then (1:Int) else 0)=U:=⟨_,rfl⟩
      have zp:0≤U:=(by rw[←hU];split <;> decide)
      have CO:∀w:World,ML w→Calls prog 175 #[.string ⟨p'.1.j.toArray⟩,.string ⟨p.1.j.toArray⟩] w (Ret w (.int .i64 U)):=fun w m=>by rw[←hU];exact oU _ _ w yx.out yq.out m yh.out
      have yS:=h_ CO;clear xt hl xM hU CO;go_wp2_with fail;have al:=((bR wr).alloc (wh _) (.cells (itC p).toArray 99)).drew;have x1:=(It8.new wr (.string ⟨p.1.j.toArray⟩) (.string ⟨p.1.n.toArray⟩) (gvI p) (.bool p.1.s.1) (.bool p.1.s.2.1) (.bool p.1.s.2.2.1) (.bool p.1.s.2.2.2) (.bool p.1.k) 99).ret (wu (bQ _));have r1:=(HR.out.ret xq).ret al;have q1:=xq.trans (al.mono xq.size);have m1:=(xI.ret xq).ret al;have y1:=((ag al).1 _ _ xR).trans hy;have xA:=ws xR al.size;clear al;refine wp_region_held_drew (S:=fun w'=>w'.cell? ⟨wr.heap.size,0,none⟩=some (.string ⟨p.1.j.toArray⟩)∧w'.cell? ⟨wr.heap.size,1,none⟩=some (.string ⟨p.1.n.toArray⟩)∧w'.cell? ⟨wr.heap.size,2,none⟩=some (gvI p)∧w'.cell? ⟨wr.heap.size,3,none⟩=some (.bool p.1.s.1)∧w'.cell? ⟨wr.heap.size,4,none⟩=some (.bool p.1.s.2.1)∧w'.cell? ⟨wr.heap.size,5,none⟩=some (.bool p.1.s.2.2.1)∧w'.cell? ⟨wr.heap.size,6,none⟩=some (.bool p.1.s.2.2.2)∧w'.cell? ⟨wr.heap.size,7,none⟩=some (.bool p.1.k)∧w'.cell? ⟨w.heap.size,0,none⟩=some (.slice (some ⟨b,off,none⟩) L cap)∧w'.cell? ⟨b,off+(k-1)*8,none⟩=some (.string ⟨p'.1.j.toArray⟩)) (by kernel_rfl) ⟨x1.c0,x1.c1,x1.c2,x1.c3,x1.c4,x1.c5,x1.c6,x1.c7,r1.c0,y1⟩ (fun hH=>?_);have xr:=((bR wr).alloc (wh _) (.cells (itC p).toArray 99)).drew;generalize (wr.alloc (.cells (itC p).toArray 99)).drew=V at x1 r1 q1 m1 y1 xA xr hH ⊢;refine rS [(0,some 13)] ?_;refine aS ?_;refine rE ?_
      refine aC (i:=1) fun K hK=>?_
      go_simp;refine(CI.out _ xr (m1)).mono ?_;rintro e w2 ⟨rfl,hb⟩;have x2:=x1.ret hb;have r2:=r1.ret hb;have q2:=q1.trans (hb.mono q1.size);have m2:=m1.ret hb;have y2:=((ag hb).1 _ _ xA).trans y1;have xE:=ws xA hb.size;clear y1 xA;clear hb x1 r1 q1 m1;go_simp;clear hH;refine hK.out _ _ ⟨x2.c0,x2.c1,x2.c2,x2.c3,x2.c4,x2.c5,x2.c6,x2.c7,r2.c0,y2⟩ (fun hH=>?_);clear hK K;refine rS [(2,some 15),(3,some 16),(4,some 17),(5,some 18),(6,some 19),(7,some 20),(8,some 21),(9,some 22),(10,some 23),(11,some 24),(12,some 25),(13,some 26),(14,some 27),(15,some 28)] ?_
      iterate 14 refine aS ?_
      refine rE ?_
      refine aC (i:=16) fun K hK=>?_
      go_simp;refine(yS.out _ (m2)).mono ?_;rintro e w3 ⟨rfl,hb⟩;have x3:=x2.ret hb;have r3:=r2.ret hb;have q3:=q2.trans (hb.mono q2.size);have m3:=m2.ret hb;have y3:=((ag hb).1 _ _ xE).trans y2;have yR:=ws xE hb.size;clear y2 xE;clear hb x2 r2 q2 m2;go_simp;clear hH;refine hK.out _ _ ⟨x3.c0,x3.c1,x3.c2,x3.c3,x3.c4,x3.c5,x3.c6,x3.c7,r3.c0,y3⟩ (fun hH=>?_);clear hK K;refine rS [(17,some 30),(18,some 31),(19,some 32)] ?_
      iterate 3 refine aS ?_
      refine rE ?_;refine aD ?_;go_wp2_with fail;go_ret;exact⟨rfl,xD.trans (q3.mono xD.size)⟩
    ·have gk:((0:Int)<(k:Int))=False:=eq_false (by omega)
     have xX:aI ((M.map Prod.fst).take (k+1))=true:=(by rw[xt,decide_eq_true (by omega)];rfl);have yg:=h_ xX;clear xt xX xz;go_wp2_with fail;have al:=((bR wr).alloc (wh _) (.cells (itC p).toArray 99)).drew;have x1:=(It8.new wr (.string ⟨p.1.j.toArray⟩) (.string ⟨p.1.n.toArray⟩) (gvI p) (.bool p.1.s.1) (.bool p.1.s.2.1) (.bool p.1.s.2.2.1) (.bool p.1.s.2.2.2) (.bool p.1.k) 99).ret (wu (bQ _));have r1:=(HR.out.ret xq).ret al;have q1:=xq.trans (al.mono xq.size);have m1:=(xI.ret xq).ret al;clear al;refine wp_region_held_drew (S:=fun w'=>w'.cell? ⟨wr.heap.size,0,none⟩=some (.string ⟨p.1.j.toArray⟩)∧w'.cell? ⟨wr.heap.size,1,none⟩=some (.string ⟨p.1.n.toArray⟩)∧w'.cell? ⟨wr.heap.size,2,none⟩=some (gvI p)∧w'.cell? ⟨wr.heap.size,3,none⟩=some (.bool p.1.s.1)∧w'.cell? ⟨wr.heap.size,4,none⟩=some (.bool p.1.s.2.1)∧w'.cell? ⟨wr.heap.size,5,none⟩=some (.bool p.1.s.2.2.1)∧w'.cell? ⟨wr.heap.size,6,none⟩=some (.bool p.1.s.2.2.2)∧w'.cell? ⟨wr.heap.size,7,none⟩=some (.bool p.1.k)∧w'.cell? ⟨w.heap.size,0,none⟩=some (.slice (some ⟨b,off,none⟩) L cap)) (by kernel_rfl) ⟨x1.c0,x1.c1,x1.c2,x1.c3,x1.c4,x1.c5,x1.c6,x1.c7,r1.c0⟩ (fun hH=>?_);have xr:=((bR wr).alloc (wh _) (.cells (itC p).toArray 99)).drew;generalize (wr.alloc (.cells (itC p).toArray 99)).drew=V at x1 r1 q1 m1 xr hH ⊢;refine rS [(0,some 13)] ?_;refine aS ?_;refine rE ?_
     refine aC (i:=1) fun K hK=>?_
     go_simp;refine(CI.out _ xr (m1)).mono ?_;rintro e w2 ⟨rfl,hb⟩;have x2:=x1.ret hb;have r2:=r1.ret hb;have q2:=q1.trans (hb.mono q1.size);have m2:=m1.ret hb;clear hb x1 r1 q1 m1;go_simp;clear hH;refine hK.out _ _ ⟨x2.c0,x2.c1,x2.c2,x2.c3,x2.c4,x2.c5,x2.c6,x2.c7,r2.c0⟩ (fun hH=>?_);clear hK K;refine rS [(2,some 15),(3,some 16),(4,some 17),(5,some 18),(6,some 19)] ?_
     iterate 5 refine aS ?_
     refine rE ?_;refine rS [(7,some 20),(8,some 21),(9,some 22),(10,some 23),(11,some 24),(12,some 25),(13,some 26),(14,some 27),(15,some 28),(16,some 29),(17,some 30)] ?_
     iterate 11 refine aF ?_
     refine rE ?_;refine rS [(18,some 31),(19,some 32)] ?_
     iterate 2 refine aS ?_
     refine rE ?_;refine aD ?_
     (try clear yt yu yv yw)
     go_wp2_with fail;go_roundw
     case rel=>exact⟨k+1,by omega,by go_num,xW.out,yg.out,q2⟩
     case measure=>simp[intOf];omega
  ·obtain rfl : k = L := by omega
   have hO:=HO.out
   have e:(M.map Prod.fst).take k=M.map Prod.fst:=wE (by rw[ww,HL.out];exact wh _)
   rw[e] at xC xJ;unfold kZ at hO;rw[xC,xJ,ww,HL.out,wt,wt] at hO;have q1:=xD.trans (xq.mono xD.size);obtain⟨r0,r1,r2,-,-⟩:=HR.out.ret xq;clear xC xJ e HO HV HS
   by_cases h16:k≤16
   ·have g1:((16:Int)<k)=False:=eq_false (by omega)
    rw[decide_eq_true h16,wt] at hO
    by_cases hv0:0≤ver
    ·have g2:(ver<0)=False:=eq_false (by omega)
     rw[decide_eq_true hv0,wt] at hO;unfold cg at hO
     by_cases hvm:ver≤9007199254740991
     ·have g3:((9007199254740991:Int)<ver)=False:=eq_false (by omega)
      rw[decide_eq_true hvm,if_pos rfl] at hO;subst hO;clear hv0 hvm h16;go_wp2_with fail;go_ret;exact⟨rfl,q1⟩
     ·have g3:((9007199254740991:Int)<ver)=True:=eq_true (by omega)
      rw[decide_eq_false hvm,if_neg (by decide)] at hO;subst hO;clear hv0 hvm h16;go_wp2_with fail;go_ret;exact⟨rfl,q1⟩
    ·have g2:(ver<0)=True:=eq_true (by omega)
     rw[decide_eq_false hv0,wz,if_neg (by decide)] at hO;subst hO;clear hv0 h16;go_wp2_with fail;go_ret;exact⟨rfl,q1⟩
   ·have g1:((16:Int)<k)=True:=eq_true (by omega)
    rw[decide_eq_false h16,wz,if_neg (by decide)] at hO;subst hO;clear h16;go_wp2_with fail;go_ret;exact⟨rfl,q1⟩

theorem bb {B size:Nat} {e:TypeId} (W:World) (hB:B≤W.heap.size):(W.alloc (.cells #[] e)).ownsRow B e size (.slice (some ⟨W.heap.size,0,none⟩) 0 0) 0 []:=
 ⟨by simp,.inr ⟨W.heap.size,0,#[],rfl,hB,World.alloc_heap_new W _,wh _,by simp[maxLen],by simp,by simp⟩⟩
theorem aw {w:World} {B n size:Nat} {e:TypeId} {v:Value} {xs:List Value} (h:w.ownsRow B e size v n xs):∃a c,v=.slice a n c∧n≤c:=by
 rcases h.2 with ⟨rfl,rfl⟩ | ⟨g,cap,yy,rfl,_,_,hn,_⟩
 ·exact⟨none,0,rfl,wh _⟩
 ·exact⟨_,cap,rfl,hn⟩
def r8 (w:World) (g:List (List UInt8)) (e:Ending) (w':World):Prop:=∃a c,e=.returned (.slice a g.length c)∧w'.ownsRow w.heap.size 9 1 (.slice a g.length c) g.length (cJ g)∧Bl w w'
def rX (w:World) (M:List Im) (e:Ending) (w':World):Prop:=∃a c,e=.returned (.slice a M.length c)∧w'.ownsRow w.heap.size 99 8 (.slice a M.length c) M.length (itV M)∧Bl w w'
theorem kM (v:Value) (g:List (List UInt8)) (w:World) (h:be v g w) (hz:g.length≤1000000):Calls prog 113 #[v] w (r8 w g):=by
 obtain⟨hv,a,cap,rfl,hc⟩:=h;have xo:=cx.of_vals hv;rw[aq] at xo;obtain⟨i0,hi,yi,xF,xG⟩:=info_parts fE
 have yj:∀(w:World) (a:Option Addr) (n c n' c':Nat),(binOp .eql 26 (.slice a n c) (.slice none n' c')).run prog w=.ok (.bool a.isNone) w:=fun w a n c n' c'=>wF w _ _ a n c n' c' underlying26
 obtain⟨L,hL⟩:=e_ g.length;obtain⟨X,hX⟩:=e_ (cJ g);have xw:=iJ g;unfold r8;rw[hL] at xo hz ⊢;rw[hX] at xo xw ⊢;have HX:=h_ hX;have HL:=h_ hL;have HR:=h_ xo;have H1:=h_ xw;clear hX xw hv hc
 cases a with
 | none=>
  have h0:L=0:=by
   obtain⟨_,a,c,e,_,h⟩:=xo;simp only[wq] at e
   rcases h with h | ⟨b,off,h,_⟩
   ·exact h
   ·rw[←e.1] at h;cases h
  subst h0
  have yT:X=[]:=List.eq_nil_of_length_eq_zero (by have:=xo.1;simpa using this)
  have yU:cap=0:=by
   obtain⟨_,a,c,e,h,_⟩:=xo;simp only[wq] at e;have:=h e.1.symm
   omega
  subst yT yU;clear xo;go_enter func113,ntmps113;go_wp2_with fail;go_ret;exact⟨none,0,rfl,wG _ _ _ _,bQ _⟩
 | some ad=>
  clear xo;go_enter func113,ntmps113;go_wp2_with (at_builtin;refine Hid.out ?_);refine h_ ?_;refine am rfl _ _ _ rfl w.heap.size 9 i0 _ 1 16 underlying26 hi yi xF xG rfl (by omega) _ 0 [] rfl (bb w (wh _)) (.slice (some ad) L cap) (by rfl) L X (HR.out.ret ((bQ _).alloc (wh _) _)) H1.out (by omega) (by omega) (by simp) ?_;intro v' w' xn xx;rw[wH,wI] at xn;have hb:=((bR w).alloc (wh _) (.cells #[] 9)).grown xx (by simp) (fun k hk=>by cases hk;exact wh _);obtain⟨a',c',rfl,_⟩:=aw xn;have HO:=h_ xn;clear xn xx yj;go_wp2_with fail;go_ret;exact⟨a',c',rfl,HO.out,hb⟩
theorem n8 (v:Value) (M:List Im) (w:World) (h:aE v M w) (hz:M.length≤100000):Calls prog 107 #[v] w (rX w M):=by
 obtain⟨a,cap,rfl,xB⟩:=h.form;have xo:=h.1;obtain⟨i0,hi,yi,xF,xG⟩:=info_parts ie
 have yj:∀(w:World) (a:Option Addr) (n c n' c':Nat),(binOp .eql 29 (.slice a n c) (.slice none n' c')).run prog w=.ok (.bool a.isNone) w:=fun w a n c n' c'=>wF w _ _ a n c n' c' underlying29
 cases a with
 | none=>
  obtain⟨rfl,rfl⟩:=xB rfl;clear h xo xB;go_enter func107,ntmps107;go_wp2_with fail;go_ret;exact⟨none,0,rfl,wG _ _ _ _,bQ _⟩
 | some ad=>
  unfold rX;have xw:=sr M;obtain⟨L,hL⟩:=e_ M.length;obtain⟨X,hX⟩:=e_ (itV M);rw[hL] at xo hz ⊢;rw[hX] at xo xw ⊢;have HR:=h_ xo;have H1:=h_ xw;clear hX xw h xo xB hL;go_enter func107,ntmps107;go_wp2_with (at_builtin;refine Hid.out ?_);refine h_ ?_;refine am rfl _ _ _ rfl w.heap.size 99 i0 _ 8 64 underlying29 hi yi xF xG rfl (by omega) _ 0 [] rfl (bb w (wh _)) (.slice (some ad) L cap) (by rfl) L X (HR.out.ret ((bQ _).alloc (wh _) _)) H1.out (by omega) (by omega) (by simp) ?_;intro v' w' xn xx;rw[wH,wI] at xn;have hb:=((bR w).alloc (wh _) (.cells #[] 99)).grown xx (by simp) (fun k hk=>by cases hk;exact wh _);obtain⟨a',c',rfl,_⟩:=aw xn;have HO:=h_ xn;clear xn xx yj;go_wp2_with fail;go_ret;exact⟨a',c',rfl,HO.out,hb⟩
theorem aV {fn:Func} {p:Tmp} {ty:TypeId} (h:fn.results=#[.cell p ty]) (tmps:Array Value) (P:Program) (w:World):
  (results fn tmps).run P w=((asAddr (tmps.getD p undef)).run P w).andThen fun a w₁=>(loadVar ty a).run P w₁:=by
 simp only[results,h]
 simp
theorem nY {fn:Func} {tmps:Array Value} {W:World} {R p:Nat} {v0 v1 v2 v3 v4 v5 v6 v7:Value} (h:fn.results=#[.cell p 99]) (h2:tmps.getD p undef=.pointer (some ⟨R,0,none⟩)) (k:It8 R v0 v1 v2 v3 v4 v5 v6 v7 W):
  (results fn tmps).run prog W=.ok (.agg #[v0,v1,v2,v3,v4,v5,v6,v7]) W:=by
 have c0:=k.c0;have c1:=k.c1;have c2:=k.c2;have c3:=k.c3;have c4:=k.c4;have c5:=k.c5;have c6:=k.c6;have c7:=k.c7;rw[aV h,h2]
 simp[go_sem,Result.andThen,c0,c1,c2,c3,c4,c5,c6,c7]
theorem mB {fn:Func} {tmps:Array Value} {W:World} {R p:Nat} {v0 v1:Value} (h:fn.results=#[.cell p 31]) (h2:tmps.getD p undef=.pointer (some ⟨R,0,none⟩)) (k:Two R v0 v1 W):
  (results fn tmps).run prog W=.ok (.agg #[v0,v1]) W:=by
 have c0:=k.c0;have c1:=k.c1;rw[aV h,h2]
 simp[go_sem,Result.andThen,c0,c1]

abbrev st8 (w:World) (g o:Nat) (v0 v1 v2 v3 v4 v5 v6 v7:Value):World:=
 (((((((w.setCell ⟨g,o,none⟩ v0).setCell ⟨g,o+1,none⟩ v1).setCell ⟨g,o+2,none⟩ v2).setCell ⟨g,o+3,none⟩ v3).setCell ⟨g,o+4,none⟩ v4).setCell ⟨g,o+5,none⟩ v5).setCell ⟨g,o+6,none⟩ v6).setCell ⟨g,o+7,none⟩ v7
theorem kJ {B g o:Nat} {w W:World} {v0 v1 v2 v3 v4 v5 v6 v7:Value} (h:Below B w W) (hg:B≤g):Below B w (st8 W g o v0 v1 v2 v3 v4 v5 v6 v7):=
 (((((((h.setCell (p:=⟨g,o,none⟩) hg _).setCell (p:=⟨g,o+1,none⟩) hg _).setCell (p:=⟨g,o+2,none⟩) hg _).setCell (p:=⟨g,o+3,none⟩) hg _).setCell (p:=⟨g,o+4,none⟩) hg _).setCell (p:=⟨g,o+5,none⟩) hg _).setCell (p:=⟨g,o+6,none⟩) hg _).setCell (p:=⟨g,o+7,none⟩) hg _
theorem It8.other {L g o:Nat} {v0 v1 v2 v3 v4 v5 v6 v7:Value} {w:World} (h:It8 L v0 v1 v2 v3 v4 v5 v6 v7 w) (xp:L≠g) (x:Value):It8 L v0 v1 v2 v3 v4 v5 v6 v7 (w.setCell ⟨g,o,none⟩ x):=by
 obtain⟨l,c0,c1,c2,c3,c4,c5,c6,c7,f0,f1,f2,f3,f4,f5,f6,f7⟩:=h
 constructor <;> simp[go_sem, *]
theorem Two.other {L g o:Nat} {v0 v1:Value} {w:World} (h:Two L v0 v1 w) (xp:L≠g) (x:Value):Two L v0 v1 (w.setCell ⟨g,o,none⟩ x):=by
 obtain⟨l,c0,c1,f0,f1⟩:=h
 constructor <;> simp[go_sem, *]
theorem It8.far {L g o:Nat} {v0 v1 v2 v3 v4 v5 v6 v7 u0 u1 u2 u3 u4 u5 u6 u7:Value} {w:World} (h:It8 L v0 v1 v2 v3 v4 v5 v6 v7 w) (xp:L≠g):It8 L v0 v1 v2 v3 v4 v5 v6 v7 (st8 w g o u0 u1 u2 u3 u4 u5 u6 u7):=
 (((((((h.other xp _).other xp _).other xp _).other xp _).other xp _).other xp _).other xp _).other xp _
theorem Two.far {L g o:Nat} {v0 v1:Value} {u0 u1 u2 u3 u4 u5 u6 u7:Value} {w:World} (h:Two L v0 v1 w) (xp:L≠g):Two L v0 v1 (st8 w g o u0 u1 u2 u3 u4 u5 u6 u7):=
 (((((((h.other xp _).other xp _).other xp _).other xp _).other xp _).other xp _).other xp _).other xp _
theorem Two.set0 {L:Nat} {v0 v1:Value} {w:World} (h:Two L v0 v1 w) (x:Value):Two L x v1 (w.setCell ⟨L,0,none⟩ x):=by
 obtain⟨l,c0,c1,f0,f1⟩:=h
 constructor <;> simp[go_sem, *]
theorem Two.set1 {L:Nat} {v0 v1:Value} {w:World} (h:Two L v0 v1 w) (x:Value):Two L v0 x (w.setCell ⟨L,1,none⟩ x):=by
 obtain⟨l,c0,c1,f0,f1⟩:=h
 constructor <;> simp[go_sem, *]
theorem It8.set2 {L:Nat} {v0 v1 v2 v3 v4 v5 v6 v7:Value} {w:World} (h:It8 L v0 v1 v2 v3 v4 v5 v6 v7 w) (x:Value):It8 L v0 v1 x v3 v4 v5 v6 v7 (w.setCell ⟨L,2,none⟩ x):=by
 obtain⟨l,c0,c1,c2,c3,c4,c5,c6,c7,f0,f1,f2,f3,f4,f5,f6,f7⟩:=h
 constructor <;> simp[go_sem, *]
theorem It8.store {L:Nat} {v0 v1 v2 v3 v4 v5 v6 v7 u0 u1 u2 u3 u4 u5 u6 u7:Value} {w:World} (h:It8 L v0 v1 v2 v3 v4 v5 v6 v7 w):It8 L u0 u1 u2 u3 u4 u5 u6 u7 (st8 w L 0 u0 u1 u2 u3 u4 u5 u6 u7):=by
 obtain⟨l,c0,c1,c2,c3,c4,c5,c6,c7,f0,f1,f2,f3,f4,f5,f6,f7⟩:=h
 constructor <;> simp[go_sem, *]
theorem oa:∀(M:List Im) (k:Nat) (p:Im),k<M.length→((((((((itV M).set (k*8) (.string ⟨p.1.j.toArray⟩)).set (k*8+1) (.string ⟨p.1.n.toArray⟩)).set (k*8+2) (gvI p)).set (k*8+3) (.bool p.1.s.1)).set (k*8+4) (.bool p.1.s.2.1)).set (k*8+5) (.bool p.1.s.2.2.1)).set (k*8+6) (.bool p.1.s.2.2.2)).set (k*8+7) (.bool p.1.k)=itV (M.set k p)
 | [],k,_,h=>by simp at h
 | q :: M,0,p,_=>by
  rw[wK,cV,cV]
  rfl
 | q :: M,k+1,p,h=>by
  have ih:=oa M k p (by simpa using h);rw[List.set_cons_succ,cV,cV,←ih]
  have e:∀(c:Nat) (l:List Value) (u:Value),(itC q++l).set ((k+1)*8+c) u=itC q++l.set (k*8+c) u:=fun c l u=>by
   rw[wL _ _ (by simp;omega)]
   congr 1
   congr 1
   simp;omega
  have e0:∀(l:List Value) (u:Value),(itC q++l).set ((k+1)*8) u=itC q++l.set (k*8) u:=fun l u=>e 0 l u
  rw[e0,e,e,e,e,e,e,e]
theorem mN {w:World} {B g n c:Nat} {M:List Im} (h:w.ownsRow B 99 8 (.slice (some ⟨g,0,none⟩) n c) n (itV M)) (hn:M.length=n) (k:Nat) (hk:k<n) (p:Im):
  (st8 w g (k*8) (.string ⟨p.1.j.toArray⟩) (.string ⟨p.1.n.toArray⟩) (gvI p) (.bool p.1.s.1) (.bool p.1.s.2.1) (.bool p.1.s.2.2.1) (.bool p.1.s.2.2.2) (.bool p.1.k)).ownsRow B 99 8 (.slice (some ⟨g,0,none⟩) n c) n (itV (M.set k p)):=by
 rw[←oa M k p (by omega)];exact((((((((h.stored (k*8) _).1.stored (k*8+1) _).1.stored (k*8+2) _).1.stored (k*8+3) _).1.stored (k*8+4) _).1.stored (k*8+5) _).1.stored (k*8+6) _).1.stored (k*8+7) _).1
theorem lK {w:World} {B g o L:Nat} {v:Value} {xs:List Value} {u0 u1 u2 u3 u4 u5 u6 u7:Value} (h:w.ownsRow B 9 1 v L xs) (xp:v.ownBlock≠some g):(st8 w g o u0 u1 u2 u3 u4 u5 u6 u7).ownsRow B 9 1 v L xs:=by
 have e:∀(W:World) (q:Nat) (u:Value),W.ownsRow B 9 1 v L xs→(W.setCell ⟨g,q,none⟩ u).ownsRow B 9 1 v L xs:=fun W q u hW=>by
  refine hW.kept (row:=some g) ⟨rfl,rfl,rfl,by simp,fun k _ hk=>heap_setCell_other W ⟨g,q,none⟩ k u (fun e=>hk (by simp[e]))⟩ ?_
  cases hv:v.ownBlock with
  | none=>exact .inl rfl
  | some b=>exact .inr (by rw[←hv];exact xp)
 exact e _ _ _ (e _ _ _ (e _ _ _ (e _ _ _ (e _ _ _ (e _ _ _ (e _ _ _ (e _ _ _ h)))))))
theorem gg {w:World} {B C g n c L:Nat} {v:Value} {xs ys:List Value} (h1:w.ownsRow B 99 8 (.slice (some ⟨g,0,none⟩) n c) n xs) (h2:w.ownsRow C 9 1 v L ys):v.ownBlock≠some g:=by
 intro e
 rcases h2.2 with ⟨rfl,_⟩ | ⟨g',cap,yy,rfl,_,yV,_⟩
 ·cases e
 ·simp only[Value.ownBlock,wA] at e
  subst e
  rcases h1.2 with ⟨h,_⟩ | ⟨g2,zh,zi,h,_,xT,_⟩
  ·cases h
  ·simp only[wq,wA,wD,and_true,true_and] at h
   obtain⟨rfl,rfl⟩:=h;rw[yV] at xT
   injection xT with xT
   injection xT with _ ht _
   exact absurd ht (by decide)
def vX (w:World) (p:Im) (e:Ending) (w':World):Prop:=∃a c,e=.returned (itA (p.1,(a,c)))∧w'.ownsRow w.heap.size 9 1 (.slice a p.1.g.length c) p.1.g.length (cJ p.1.g)∧Bl w w'
theorem tf (p:Im) (w:World) (h:be (gvI p) p.1.g w) (hz:p.1.g.length≤1000000):Calls prog 108 #[itA p] w (vX w p):=by
 have x0:=It8.new w (.string ⟨p.1.j.toArray⟩) (.string ⟨p.1.n.toArray⟩) (gvI p) (.bool p.1.s.1) (.bool p.1.s.2.1) (.bool p.1.s.2.2.1) (.bool p.1.s.2.2.2) (.bool p.1.k) 99;have b0:=(bR w).alloc (wh _) (.cells (itC p).toArray 99);obtain⟨W0,xU⟩:=e_ (w.alloc (.cells (itC p).toArray 99))
 have s0:W0.heap.size=w.heap.size+1:=by rw[←xU];simp
 rw[xU] at x0 b0;have r1:=It8.new W0 (.string ⟨#[]⟩) (.string ⟨#[]⟩) (.slice none 0 0) (.bool false) (.bool false) (.bool false) (.bool false) (.bool false) 99;have al:=(bR W0).alloc (wh _) (.cells #[.string ⟨#[]⟩,.string ⟨#[]⟩,.slice none 0 0,.bool false,.bool false,.bool false,.bool false,.bool false] 99);have x1:=x0.ret al;have b1:=b0.trans (al.mono b0.size);obtain⟨W1,xN⟩:=e_ (W0.alloc (.cells #[.string ⟨#[]⟩,.string ⟨#[]⟩,.slice none 0 0,.bool false,.bool false,.bool false,.bool false,.bool false] 99))
 have s1:W1.heap.size=w.heap.size+2:=by rw[←xN];simp;omega
 rw[xN,s0] at r1;rw[xN] at x1 b1
 have HW:Hid ((w.alloc (.cells (itC p).toArray 99)).alloc (.cells #[.string ⟨#[]⟩,.string ⟨#[]⟩,.slice none 0 0,.bool false,.bool false,.bool false,.bool false,.bool false] 99)=W1):=h_ (by rw[xU,xN])
 have HC:=h_ (kM (gvI p) p.1.g W1 (h.ret b1) hz);have S1:=h_ s1;clear xU xN s0 al x0 b0 h s1;obtain⟨l,c0,c1,c2,c3,c4,c5,c6,c7,f0,f1,f2,f3,f4,f5,f6,f7⟩:=id x1;go_enter func108,ntmps108;go_wp2_with fail;rw[HW.out];go_wp2_with fail;refine HC.out.mono ?_;rintro e w2 ⟨a,c,rfl,xn,hb⟩;clear l c0 c1 c2 c3 c4 c5 c6 c7 f0 f1 f2 f3 f4 f5 f6 f7;have x2:=x1.ret hb;have r2:=r1.ret hb;have b2:=b1.trans (hb.mono b1.size)
 have xO:w2.ownsRow (w.heap.size+2) 9 1 (.slice a p.1.g.length c) p.1.g.length (cJ p.1.g):=by have:=xn;rwa [S1.out] at this
 have HO:=h_ xO;clear hb x1 r1 b1 xn xO;have x3:=x2.set2 (.slice a p.1.g.length c);have r3:=r2.other (g:=w.heap.size) (o:=2) (by omega) (.slice a p.1.g.length c);have b3:=b2.setCell (p:=⟨w.heap.size,2,none⟩) (wh _) (.slice a p.1.g.length c);have xP:=h_ (ownsRow_setCell_below HO.out (a:=⟨w.heap.size,2,none⟩) (by show w.heap.size<w.heap.size+2;omega) (.slice a p.1.g.length c));obtain⟨l,c0,c1,c2,c3,c4,c5,c6,c7,f0,f1,f2,f3,f4,f5,f6,f7⟩:=x2;obtain⟨m,d0,d1,d2,d3,d4,d5,d6,d7,g0,g1,g2,g3,g4,g5,g6,g7⟩:=r2;go_wp2_with fail;have yW:=lK (o:=0) (u0:=.string ⟨p.1.j.toArray⟩) (u1:=.string ⟨p.1.n.toArray⟩) (u2:=.slice a p.1.g.length c) (u3:=.bool p.1.s.1) (u4:=.bool p.1.s.2.1) (u5:=.bool p.1.s.2.2.1) (u6:=.bool p.1.s.2.2.2) (u7:=.bool p.1.k) xP.out (g:=w.heap.size+1) (fun e=>by have:=(xP.out.lt _ e).1;omega);refine bodyPost_ret (nY rfl rfl (r3.store)) rfl ⟨a,c,rfl,yW.mono (by omega),kJ b3 (wB _)⟩

def wb (w:World) (L:List It) (v:Value) (w':World):Prop:=∃M:List Im,M.map Prod.fst=L∧cm w.heap.size v M w'∧Bl w w'
def qp (w:World) (L:List It) (ver:Int) (e:Ending) (w':World):Prop:=∃a c,e=.returned (.agg #[.slice a L.length c,.int .i64 ver])∧wb w L (.slice a L.length c) w'
theorem dC {w:World} {B n size L cap:Nat} {e:TypeId} {a:Option Addr} {xs:List Value} (h:w.ownsRow B e size (.slice a L cap) n xs) (h0:0<n):∃g,a=some ⟨g,0,none⟩∧L=n∧B≤g∧g<w.heap.size:=by
 rcases h.2 with ⟨_,rfl⟩ | ⟨g,zk,yy,h1,h2,h3,_⟩
 ·omega
 ·simp only[wq] at h1
  obtain⟨rfl,rfl,rfl⟩:=h1;refine⟨g,rfl,rfl,h2,?_⟩
  rcases Nat.lt_or_ge g w.heap.size with h | h
  ·exact h
  ·rw[Array.getElem?_eq_none h] at h3;cases h3
theorem jJ {w:World} {B g n c:Nat} {M:List Im} (h:w.ownsRow B 99 8 (.slice (some ⟨g,0,none⟩) n c) n (itV M)) (k:Nat) (hk:k<n) (hn:M.length=n) (p:Im) (hp:M[k]?=some p):
  w.cell? ⟨g,k*8,none⟩=some (.string ⟨p.1.j.toArray⟩)∧w.cell? ⟨g,k*8+1,none⟩=some (.string ⟨p.1.n.toArray⟩)∧w.cell? ⟨g,k*8+2,none⟩=some (gvI p)∧w.cell? ⟨g,k*8+3,none⟩=some (.bool p.1.s.1)∧
  w.cell? ⟨g,k*8+4,none⟩=some (.bool p.1.s.2.1)∧w.cell? ⟨g,k*8+5,none⟩=some (.bool p.1.s.2.2.1)∧w.cell? ⟨g,k*8+6,none⟩=some (.bool p.1.s.2.2.2)∧w.cell? ⟨g,k*8+7,none⟩=some (.bool p.1.k):=by
 have yz:k<M.length:=by omega
 have xS:M[k]=p:=by rw[List.getElem?_eq_getElem yz] at hp;exact Option.some.inj hp
 have e:∀c (hc:c<8),w.cell? ⟨g,k*8+c,none⟩=(itC p)[c]?:=fun c hc=>by
  rw[h.cellAt (k*8+c) (by omega),mi M k yz c hc,xS]
 exact⟨e 0 (by omega),e 1 (by omega),e 2 (by omega),e 3 (by omega),e 4 (by omega),e 5 (by omega),e 6 (by omega),e 7 (by omega)⟩
theorem pC (v:Value) (ver:Int) (M:List Im) (w:World) (hv:aE v M w) (hM:M.length≤1000) (hg:∀p∈M,p.1.g.length≤1000):
  Calls prog 52 #[.agg #[v,.int .i64 ver]] w (qp w (M.map Prod.fst) ver):=by
 obtain⟨a0,zm,hf,-⟩:=hv.form;obtain⟨L,hL⟩:=e_ M.length;unfold qp;rw[ww];have r0:=Two.new w v (.int .i64 ver) 31;have al:=(bR w).alloc (wh _) (.cells #[v,.int .i64 ver] 31);have z0:=Two.new (w.alloc (.cells #[v,.int .i64 ver] 31)) (.slice none 0 0) (.int .i64 0) 31;rw[World.size_alloc] at z0;have yk:=(Below.refl (w.alloc (.cells #[v,.int .i64 ver] 31)).heap.size (w.alloc (.cells #[v,.int .i64 ver] 31))).alloc (wh _) (.cells #[.slice none 0 0,.int .i64 0] 31);have r1:=r0.ret yk;have q1:=al.trans (yk.mono al.size);obtain⟨W,hW⟩:=e_ ((w.alloc (.cells #[v,.int .i64 ver] 31)).alloc (.cells #[.slice none 0 0,.int .i64 0] 31))
 have sW:W.heap.size=w.heap.size+2:=by rw[←hW];simp
 rw[hW] at z0 r1 q1;have HW:=h_ hW;have SW:=h_ sW;have CL:=h_ (n8 v M W (hv.ret q1) (by omega))
 have GR:=h_ fun p hp=>(hv.2 p hp)
 have HL:=h_ hL;have HG:=h_ hg;subst hf;rw[hL] at hM r1 HW CL;rw[hL];clear hW sW hL hg al yk r0 hv;obtain⟨l,c0,c1,f0,f1⟩:=id r1;obtain⟨m,d0,d1,e0,e1⟩:=id z0;go_enter func52,ntmps52;go_wp2_with fail;rw[HW.out];refine CL.out.mono ?_;rintro e w2 ⟨a,c,rfl,xn,hb⟩;clear l c0 c1 f0 f1 m d0 d1 e0 e1;have r2:=r1.ret hb;have z2:=z0.ret hb;have q2:=q1.trans (hb.mono q1.size);rw[SW.out,HL.out] at xn;have yA:=r2.set0 (.slice a L c);have xL:=z2.other (g:=w.heap.size) (o:=0) (by omega) (.slice a L c);have yB:=q2.setCell (p:=⟨w.heap.size,0,none⟩) (wh _) (.slice a L c);have yC:=ownsRow_setCell_below xn (a:=⟨w.heap.size,0,none⟩) (by show w.heap.size<w.heap.size+2;omega) (.slice a L c);have xP:=h_ yC;rw[HL.out];clear hb r1 z0 q1 xn yC CL q2;obtain⟨l,c0,c1,f0,f1⟩:=id r2;go_wp2_with fail;clear l c0 c1 f0 f1 r2 z2;obtain⟨W3,yD⟩:=e_ (w2.setCell ⟨w.heap.size,0,none⟩ (.slice a L c));rw[yD] at yA xL yB xP ⊢;clear yD;go_loopw [12] (fun i wx=>∃(k:Nat) (Nn:List Im),k≤L∧i=.int .i64 k∧Nn.length=k∧Nn.map Prod.fst=(M.map Prod.fst).take k∧wx.ownsRow (w.heap.size+2) 99 8 (.slice a L c) L (itV (Nn++M.drop k))∧(∀p∈Nn,wx.ownsRow (w.heap.size+2) 9 1 (gvI p) p.1.g.length (cJ p.1.g))∧Two w.heap.size (.slice a L c) (.int .i64 ver) wx∧Two (w.heap.size+1) (.slice none 0 0) (.int .i64 0) wx∧Bl w wx) (fun i _=>L-(intOf i).toNat)
 case atStart=>exact⟨0,[],wC _,rfl,rfl,by simp,by simpa using xP.out,(fun p hp=>by cases hp),yA,xL,yB⟩
 case round=>
  obtain⟨k,Nn,hk,rfl,xH,xV,o0,n0,r0,z0,q0⟩:=hrel
  by_cases hlt:k<L
  ·have xu : k < M.length := by rw [HL.out]; exact hlt
   obtain⟨g,rfl,-,yE,yF⟩:=dC o0 (by omega);obtain⟨p,hp⟩:=e_ (M[k]);have yl:M.drop k=p :: M.drop (k+1):=(by rw[←hp];exact List.drop_eq_getElem_cons xu);have yG:(Nn++M.drop k).length=L:=(by rw[wM,List.length_drop,xH,HL.out];omega)
   have yH:(Nn++M.drop k)[k]?=some p:=by
    rw[List.getElem?_append_right (by omega),xH,yl,wN]
    rfl
   have yI:(M.map Prod.fst).take (k+1)=(M.map Prod.fst).take k++[p.1]:=by
    rw[wv (by simpa using xu),wy,hp]
   have yJ:=GR.out p (by rw[←hp];exact wo xu);have yX:=HG.out p (by rw[←hp];exact wo xu)
   have TW:=fun (w':World) (hb:Bl w w')=>tf p w' (yJ.ret hb) (by omega)
   have TW:=h_ TW;have NL:=h_ yG;have NK:=h_ yH;have NN:=h_ xH;have NM:=h_ xV;have MD:=h_ yl
   have PM:Hid ((M.map Prod.fst).take (k+1)=(M.map Prod.fst).take k++[p.1]):=h_ yI
   have GB:=h_ yE;have GL:=h_ yF;have B2:Hid (w.heap.size+2≤wr.heap.size):=h_ (by omega);obtain⟨i0,i1,i2,i3,i4,i5,i6,i7⟩:=jJ o0 k hlt NL.out p NK.out;clear hp yl yG yH xH xV yI yJ yX yE yF xu;go_wp2_with fail;clear i0 i1 i2 i3 i4 i5 i6 i7;have al:=((bR wr).alloc (wh _) (.cells (itC p).toArray 99)).drew;have x1:=(It8.new wr (.string ⟨p.1.j.toArray⟩) (.string ⟨p.1.n.toArray⟩) (gvI p) (.bool p.1.s.1) (.bool p.1.s.2.1) (.bool p.1.s.2.2.1) (.bool p.1.s.2.2.2) (.bool p.1.k) 99).ret (wu (bQ _));have r1:=r0.ret al;have z1:=z0.ret al;have q1:=q0.trans (al.mono q0.size);have xr:=q1;have yK:=Nat.le_trans B2.out al.size;have o1:=aQ o0 al
   have n1:∀p∈Nn,_:=fun p hp=>aQ (n0 p hp) al
   clear al r0 z0 q0 o0 n0;refine wp_region_held_drew (S:=fun w'=>w'.cell? ⟨wr.heap.size,0,none⟩=some (.string ⟨p.1.j.toArray⟩)∧w'.cell? ⟨wr.heap.size,1,none⟩=some (.string ⟨p.1.n.toArray⟩)∧w'.cell? ⟨wr.heap.size,2,none⟩=some (gvI p)∧w'.cell? ⟨wr.heap.size,3,none⟩=some (.bool p.1.s.1)∧w'.cell? ⟨wr.heap.size,4,none⟩=some (.bool p.1.s.2.1)∧w'.cell? ⟨wr.heap.size,5,none⟩=some (.bool p.1.s.2.2.1)∧w'.cell? ⟨wr.heap.size,6,none⟩=some (.bool p.1.s.2.2.2)∧w'.cell? ⟨wr.heap.size,7,none⟩=some (.bool p.1.k)∧w'.cell? ⟨w.heap.size,0,none⟩=some (.slice (some ⟨g,0,none⟩) L c)) (by kernel_rfl) ⟨x1.c0,x1.c1,x1.c2,x1.c3,x1.c4,x1.c5,x1.c6,x1.c7,r1.c0⟩ (fun hH=>?_);generalize (wr.alloc (.cells (itC p).toArray 99)).drew=V at x1 r1 z1 q1 xr yK o1 n1 hH ⊢;refine rS [(0,some 17),(1,some 18),(2,some 19),(3,some 20)] ?_
   iterate 4 refine aS ?_
   refine rE ?_
   refine aC (i:=4) fun K hK=>?_
   go_simp;refine(TW.out _ xr).mono ?_;rintro e w2 ⟨a',c',rfl,yL,hb⟩;have x2:=x1.ret hb;have r2:=r1.ret hb;have z2:=z1.ret hb;have q2:=q1.trans (hb.mono q1.size);have o2:=aQ o1 hb
   have n2:∀p∈Nn,w2.ownsRow (w.heap.size+2) 9 1 (gvI p) p.1.g.length (cJ p.1.g):=fun p hp=>aQ (n1 p hp) hb
   have xQ:=yL.mono yK;clear hb x1 r1 z1 q1 o1 n1 yL;go_simp;clear hH;refine hK.out _ _ ⟨x2.c0,x2.c1,x2.c2,x2.c3,x2.c4,x2.c5,x2.c6,x2.c7,r2.c0⟩ (fun hH=>?_);clear hK K;refine rS [(5,some 22)] ?_;refine aS ?_;refine rE ?_
   refine aC (i:=6) fun K hK=>?_
   obtain⟨i0,i1,i2,i3,i4,i5,i6,i7⟩:=jJ o2 k hlt NL.out p NK.out;have j0:=o2.frozenAt (k*8);have j1:=o2.frozenAt (k*8+1);have j2:=o2.frozenAt (k*8+2);have j3:=o2.frozenAt (k*8+3);have j4:=o2.frozenAt (k*8+4);have j5:=o2.frozenAt (k*8+5);have j6:=o2.frozenAt (k*8+6);have j7:=o2.frozenAt (k*8+7);go_simp;clear i0 i1 i2 i3 i4 i5 i6 i7 j0 j1 j2 j3 j4 j5 j6 j7;have o3:=mN o2 NL.out k hlt (p.1,(a',c'));have yM:=gg o2 xQ;have g3:=lK (o:=k*8) (u0:=.string ⟨p.1.j.toArray⟩) (u1:=.string ⟨p.1.n.toArray⟩) (u2:=.slice a' p.1.g.length c') (u3:=.bool p.1.s.1) (u4:=.bool p.1.s.2.1) (u5:=.bool p.1.s.2.2.1) (u6:=.bool p.1.s.2.2.2) (u7:=.bool p.1.k) xQ yM
   have n3:=fun q hq=>lK (o:=k*8) (u0:=.string ⟨p.1.j.toArray⟩) (u1:=.string ⟨p.1.n.toArray⟩) (u2:=.slice a' p.1.g.length c') (u3:=.bool p.1.s.1) (u4:=.bool p.1.s.2.1) (u5:=.bool p.1.s.2.2.1) (u6:=.bool p.1.s.2.2.2) (u7:=.bool p.1.k) (n2 q hq) (gg o2 (n2 q hq))
   have x3:=x2.far (g:=g) (o:=k*8) (u0:=.string ⟨p.1.j.toArray⟩) (u1:=.string ⟨p.1.n.toArray⟩) (u2:=.slice a' p.1.g.length c') (u3:=.bool p.1.s.1) (u4:=.bool p.1.s.2.1) (u5:=.bool p.1.s.2.2.1) (u6:=.bool p.1.s.2.2.2) (u7:=.bool p.1.k) (by have:=GL.out;omega);have r3:=r2.far (g:=g) (o:=k*8) (u0:=.string ⟨p.1.j.toArray⟩) (u1:=.string ⟨p.1.n.toArray⟩) (u2:=.slice a' p.1.g.length c') (u3:=.bool p.1.s.1) (u4:=.bool p.1.s.2.1) (u5:=.bool p.1.s.2.2.1) (u6:=.bool p.1.s.2.2.2) (u7:=.bool p.1.k) (by have:=GB.out;omega);have z3:=z2.far (g:=g) (o:=k*8) (u0:=.string ⟨p.1.j.toArray⟩) (u1:=.string ⟨p.1.n.toArray⟩) (u2:=.slice a' p.1.g.length c') (u3:=.bool p.1.s.1) (u4:=.bool p.1.s.2.1) (u5:=.bool p.1.s.2.2.1) (u6:=.bool p.1.s.2.2.2) (u7:=.bool p.1.k) (by have:=GB.out;omega);have q3:=kJ (o:=k*8) (v0:=.string ⟨p.1.j.toArray⟩) (v1:=.string ⟨p.1.n.toArray⟩) (v2:=.slice a' p.1.g.length c') (v3:=.bool p.1.s.1) (v4:=.bool p.1.s.2.1) (v5:=.bool p.1.s.2.2.1) (v6:=.bool p.1.s.2.2.2) (v7:=.bool p.1.k) q2 (g:=g) (by have:=GB.out;omega);clear hH;refine hK.out _ _ ⟨x3.c0,x3.c1,x3.c2,x3.c3,x3.c4,x3.c5,x3.c6,x3.c7,r3.c0⟩ (fun hH=>?_);clear hK K x2 r2 z2 q2 o2 n2 xQ yM;refine aD ?_
   have xY:(Nn++M.drop k).set k (p.1,(a',c'))=(Nn++[(p.1,(a',c'))])++M.drop (k+1):=by
    rw[wL _ _ (by rw[NN.out];exact wh _),NN.out,wN,MD.out,wK,List.append_assoc]
    rfl
   rw[xY] at o3;have OO:=h_ o3;have GG:=h_ g3;have N3:=h_ n3;clear xY o3 g3 n3;go_wp2_with fail;go_roundw
   case rel=>exact⟨k+1,Nn++[(p.1,(a',c'))],by omega,by go_num,by rw[wM,NN.out];rfl,by rw[List.map_append,NM.out,PM.out];simp,OO.out,(fun q hq=>by rcases List.mem_append.1 hq with hq | hq;exact N3.out q hq;cases List.mem_singleton.1 hq;exact GG.out),r3,z3,q3⟩
   case measure=>simp[intOf];omega
  ·obtain rfl : k = L := by omega
   have hd:M.drop k=[]:=List.drop_eq_nil_of_le (by rw[HL.out];exact wh _)
   rw[hd,List.append_nil] at o0;have xZ:Nn.map Prod.fst=M.map Prod.fst:=(by rw[xV,wE (by rw[ww,HL.out];exact wh _)]);have yd:cm (w.heap.size+2) (.slice a k c) Nn wr:=⟨by rw[xH];exact o0,n0⟩;have HF:=h_ yd;have yY:=h_ xZ;obtain⟨l,c0,c1,f0,f1⟩:=id r0;obtain⟨m,d0,d1,e0,e1⟩:=id z0;clear hd xV xH o0 n0 xZ yd;go_wp2_with fail;have zf:=(z0.set0 (.slice a k c)).set1 (.int .i64 ver);have qf:=(q0.setCell (p:=⟨w.heap.size+1,0,none⟩) (wB _) (.slice a k c)).setCell (p:=⟨w.heap.size+1,1,none⟩) (wB _) (.int .i64 ver)
   have yZ:cm (w.heap.size+2) (.slice a k c) Nn ((wr.setCell ⟨w.heap.size+1,0,none⟩ (.slice a k c)).setCell ⟨w.heap.size+1,1,none⟩ (.int .i64 ver)):=
    ⟨ownsRow_setCell_below (ownsRow_setCell_below HF.out.1 (a:=⟨w.heap.size+1,0,none⟩) (by show w.heap.size+1<w.heap.size+2;omega) _) (a:=⟨w.heap.size+1,1,none⟩) (by show w.heap.size+1<w.heap.size+2;omega) _,
     fun p hp=>ownsRow_setCell_below (ownsRow_setCell_below (HF.out.2 p hp) (a:=⟨w.heap.size+1,0,none⟩) (by show w.heap.size+1<w.heap.size+2;omega) _) (a:=⟨w.heap.size+1,1,none⟩) (by show w.heap.size+1<w.heap.size+2;omega) _⟩
   refine bodyPost_ret (mB rfl rfl zf) rfl ⟨a,c,rfl,Nn,yY.out,yZ.mono (by omega),qf⟩
end Go.Proofs.YtjgeiieiinmdnaaGreatDoor
