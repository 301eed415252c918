/- RoY, RoZ, RoZa, RoZb, RoZc, RoLa, RoOp: put together by mergetpl.py. -/
import Derived.Deep.Slices
import Derived.Lib.SmallJoins
import Derived.Test.YtjgeiieiinmdnaaGreatDoorKo
open Go.Proofs.Tryz
open Array renaming getElem?_eq_none→wK
open Bool renaming true_and→ws,false_and→wy
open Go.RowKit.Below renaming drew→wu
open Go.Value renaming cells→wz
open Go.Value.slice renaming injEq→wo
open Go.World renaming cells?_some→wF,cell?_spot→wG,cell?→wI
open List renaming getElem_mem→wq,range→wt,length_map→wv,getElem_map→ww,take_succ_eq_append_getElem→wB,take_of_length_le→wC
open Nat renaming le_refl→wh,zero_le→wA,zero_add→wD,le_succ→wE,lt_or_ge→wH
namespace Go.Proofs.YtjgeiieiinmdnaaGreatDoor
set_option maxHeartbeats 4000000
set_option maxRecDepth 100000
open Go.RowKit Go.Lib

theorem t8 (v:Value) (ver:Int) (M:List Im) (w:World) (hv:aE v M w) (hs:cN M):
  Calls prog 161 #[.agg #[v,.int .i64 ver]] w (Ret w (.bool (kZ (M.map Prod.fst) ver))):=by
 obtain⟨a,cap,hf,yk⟩:=hv.form;obtain⟨L,hL⟩:=e_ M.length;have yl:=hs.1;rw[hL] at hf yl;subst hf;obtain⟨O,hO⟩:=e_ (kZ (M.map Prod.fst) ver);rw[hO];have HO:=h_ hO;have HL:=h_ hL;have HS:=h_ hs.2;have xC:=(bR w).alloc (wh _) (.cells #[.slice a L cap,.int .i64 ver] 31);have HV:=h_ (hv.ret ((bR w).alloc (wh _) (.cells #[.slice a L cap,.int .i64 ver] 31)));have HR:=h_ (Two.new w (.slice a L cap) (.int .i64 ver) 31);obtain⟨W,hW⟩:=e_ (w.alloc (.cells #[.slice a L cap,.int .i64 ver] 31));rw[hW] at xC HV HR;have yv:=h_ hW;clear hO hL hs hv hW yk;go_enter func161,ntmps161;go_wp2_with fail;rw[yv.out];go_loopw [3] (fun i wx=>∃k:Nat,k≤L∧i=.int .i64 k∧((M.map Prod.fst).take k).all di=true∧aI ((M.map Prod.fst).take k)=true∧Bl W wx) (fun i _=>L-(intOf i).toNat)
 case atStart=>exact⟨0,wA _,rfl,rfl,rfl,bQ _⟩
 case round=>
  obtain⟨k,hk,rfl,xA,xG,xp⟩:=hrel;have R0:=h_ (HR.out.ret xp);obtain⟨rl,yw,yx,-,-⟩:=R0.out
  by_cases hlt:k<L
  ·have xt : k < M.length := by rw [HL.out]; exact hlt
   have hV:=HV.out.ret xp;obtain⟨b,off,cp,hf,xY,hc⟩:=hV.cell xt;rw[HL.out] at hf;simp only[wo,true_and] at hf;obtain⟨rfl,rfl⟩:=hf;obtain⟨s1,s2,s3,s4⟩:=HS.out M[k] (wq xt);have hg:=hV.2 M[k] (wq xt);have xZ:k<(M.map Prod.fst).length:=(by simpa using xt)
   have yd:((M.map Prod.fst).take (k+1)).all di=(di M[k].1):=by
    rw[wB xZ,List.all_append,xA]
    simp
   have xo:=iA M k xt;rw[xG,ws] at xo
   have xx:di M[k].1=false→O=false:=fun h=>by
    rw[←HO.out];unfold kZ;rw[oE _ k xZ (by rw[ww];exact h)]
    rfl
   have xH:aI ((M.map Prod.fst).take (k+1))=false→O=false:=fun h=>by
    rw[←HO.out];unfold kZ;rw[kz _ _ h,wy,Bool.and_false]
   have xy:0<k→∃p':Im,M[k-1]'(by omega)=p'∧wr.cell? ⟨b,off+(k-1)*8,none⟩=some (.string ⟨p'.1.j.toArray⟩)∧p'.1.j.length≤10000:=fun h=>by
    obtain⟨b',yR,yU,xD,_,yy,_⟩:=hV.cell (k:=k-1) (by omega);simp only[wo,Option.some.injEq,Addr.mk.injEq,and_true] at xD;obtain⟨⟨rfl,rfl⟩,_⟩:=xD;exact⟨_,rfl,yy,(HS.out _ (wq (by omega))).1⟩
   obtain⟨p,hp⟩:=e_ (M[k]);rw[hp] at hc s1 s2 s3 s4 hg yd xx xo;have CC:=h_ hc;have xn:=h_ xY
   have CI:=fun (w':World) (hb:Bl wr w')=>lh p w' (hg.ret hb) s1 s2 s3 s4
   have yn:=h_ yd;have yz:=h_ xH;have xO:(⟨p.1.j.toArray⟩:ByteArray).size≤10000:=(by rw[←ab];exact s1);have yA:=h_ xO;clear hp hg hV s1 s2 s3 s4 yd xH xZ xO xA xG hc xY
   cases hI:di p.1 with
   | false=>
    have:=xx hI;subst this;rw[hI] at CI;have CI:=h_ CI;clear xx xo xy;go_wp2_with fail;have z1:=wu (bR wr);refine wp_region_held_drew (S:=fun w'=>w'.cell? ⟨b,off+k*8,none⟩=some (.string ⟨p.1.j.toArray⟩)∧w'.cell? ⟨b,off+k*8+1,none⟩=some (.string ⟨p.1.n.toArray⟩)∧w'.cell? ⟨b,off+k*8+2,none⟩=some (gvI p)∧w'.cell? ⟨b,off+k*8+3,none⟩=some (.bool p.1.s.1)∧w'.cell? ⟨b,off+k*8+4,none⟩=some (.bool p.1.s.2.1)∧w'.cell? ⟨b,off+k*8+5,none⟩=some (.bool p.1.s.2.2.1)∧w'.cell? ⟨b,off+k*8+6,none⟩=some (.bool p.1.s.2.2.2)∧w'.cell? ⟨b,off+k*8+7,none⟩=some (.bool p.1.k)∧w'.cell? ⟨w.heap.size,0,none⟩=some (.slice (some ⟨b,off,none⟩) L cap)) (by kernel_rfl) ⟨((ag z1).1 _ _ xn.out).trans CC.out.1,((ag z1).1 _ _ xn.out).trans CC.out.2.1,((ag z1).1 _ _ xn.out).trans CC.out.2.2.1,((ag z1).1 _ _ xn.out).trans CC.out.2.2.2.1,((ag z1).1 _ _ xn.out).trans CC.out.2.2.2.2.1,((ag z1).1 _ _ xn.out).trans CC.out.2.2.2.2.2.1,((ag z1).1 _ _ xn.out).trans CC.out.2.2.2.2.2.2.1,((ag z1).1 _ _ xn.out).trans CC.out.2.2.2.2.2.2.2,(R0.out.ret z1).c0⟩ (fun hH=>?_);generalize wr.drew=V at z1 hH ⊢;refine rS [(0,some 11),(1,some 12),(2,some 13),(3,some 14),(4,some 15)] ?_
    iterate 5 refine aS ?_
    refine rE ?_
    refine aC (i:=5) fun K hK=>?_
    go_simp;refine(CI.out _ z1).mono ?_;rintro e w2 ⟨rfl,hb⟩;have z2:=z1.trans (hb.mono z1.size);clear hb z1;go_simp;clear hH;refine hK.out _ _ ⟨((ag z2).1 _ _ xn.out).trans CC.out.1,((ag z2).1 _ _ xn.out).trans CC.out.2.1,((ag z2).1 _ _ xn.out).trans CC.out.2.2.1,((ag z2).1 _ _ xn.out).trans CC.out.2.2.2.1,((ag z2).1 _ _ xn.out).trans CC.out.2.2.2.2.1,((ag z2).1 _ _ xn.out).trans CC.out.2.2.2.2.2.1,((ag z2).1 _ _ xn.out).trans CC.out.2.2.2.2.2.2.1,((ag z2).1 _ _ xn.out).trans CC.out.2.2.2.2.2.2.2,(R0.out.ret z2).c0⟩ (fun hH=>?_);clear hK K;refine rS [(6,some 17),(7,some 18)] ?_
    iterate 2 refine aS ?_
    refine rE ?_;refine rS [(8,some 19),(9,some 20),(10,some 21),(11,some 22),(12,some 23),(13,some 24),(14,some 25),(15,some 26),(16,some 27),(17,some 28),(18,some 29),(19,some 30),(20,some 31),(21,some 32),(22,some 33),(23,some 34),(24,some 35),(25,some 36),(26,some 37)] ?_
    iterate 19 refine aF ?_
    refine rE ?_;refine rS [(27,some 38)] ?_;refine aS ?_;refine rE ?_;refine aD ?_;go_wp2_with fail;go_ret;exact⟨rfl,xC.trans ((xp.trans (z2.mono xp.size)).mono xC.size)⟩
   | true=>
    rw[hI] at yn CI;have xT:=yn;have CI:=h_ CI;clear xx
    by_cases hk0:0<k
    ·obtain⟨p',yo,hy,xP⟩:=xy hk0
     have yp:((k:Int)-1)=((k-1:Nat):Int):=(by omega)
     have yq:IntKind.i64.wrap ((k-1:Nat):Int)=((k-1:Nat):Int):=IntWalk.i64_in _ (by omega)
     have yt:((k-1:Nat):Int)<(L:Int):=(by omega);have yu:(0:Int)≤((k-1:Nat):Int):=(by omega);have gk:(0:Int)<k:=(by omega);rw[yo,decide_eq_false (by omega),Bool.false_or] at xo;have HY:=h_ hy
     have CL:=fun w=>qV ⟨p'.1.j.toArray⟩ ⟨p.1.j.toArray⟩ w (by rw[←ab];exact xP) yA.out
     simp only at CL
     clear xy yo xP hy
     cases hl:au p'.1.j p.1.j with
     | true=>
      rw[hl] at xo CL;have ye:=h_ xo;have yf:=h_ CL;clear xo hl CL;go_wp2_with fail;have z1:=wu (bR wr);refine wp_region_held_drew (S:=fun w'=>w'.cell? ⟨b,off+k*8,none⟩=some (.string ⟨p.1.j.toArray⟩)∧w'.cell? ⟨b,off+k*8+1,none⟩=some (.string ⟨p.1.n.toArray⟩)∧w'.cell? ⟨b,off+k*8+2,none⟩=some (gvI p)∧w'.cell? ⟨b,off+k*8+3,none⟩=some (.bool p.1.s.1)∧w'.cell? ⟨b,off+k*8+4,none⟩=some (.bool p.1.s.2.1)∧w'.cell? ⟨b,off+k*8+5,none⟩=some (.bool p.1.s.2.2.1)∧w'.cell? ⟨b,off+k*8+6,none⟩=some (.bool p.1.s.2.2.2)∧w'.cell? ⟨b,off+k*8+7,none⟩=some (.bool p.1.k)∧w'.cell? ⟨w.heap.size,0,none⟩=some (.slice (some ⟨b,off,none⟩) L cap)∧w'.cell? ⟨b,off+(k-1)*8,none⟩=some (.string ⟨p'.1.j.toArray⟩)) (by kernel_rfl) ⟨((ag z1).1 _ _ xn.out).trans CC.out.1,((ag z1).1 _ _ xn.out).trans CC.out.2.1,((ag z1).1 _ _ xn.out).trans CC.out.2.2.1,((ag z1).1 _ _ xn.out).trans CC.out.2.2.2.1,((ag z1).1 _ _ xn.out).trans CC.out.2.2.2.2.1,((ag z1).1 _ _ xn.out).trans CC.out.2.2.2.2.2.1,((ag z1).1 _ _ xn.out).trans CC.out.2.2.2.2.2.2.1,((ag z1).1 _ _ xn.out).trans CC.out.2.2.2.2.2.2.2,(R0.out.ret z1).c0,((ag z1).1 _ _ xn.out).trans HY.out⟩ (fun hH=>?_);generalize wr.drew=V at z1 hH ⊢;refine rS [(0,some 11),(1,some 12),(2,some 13),(3,some 14),(4,some 15)] ?_
      iterate 5 refine aS ?_
      refine rE ?_
      refine aC (i:=5) fun K hK=>?_
      go_simp;refine(CI.out _ z1).mono ?_;rintro e w2 ⟨rfl,hb⟩;have z2:=z1.trans (hb.mono z1.size);clear hb z1;go_simp;clear hH;refine hK.out _ _ ⟨((ag z2).1 _ _ xn.out).trans CC.out.1,((ag z2).1 _ _ xn.out).trans CC.out.2.1,((ag z2).1 _ _ xn.out).trans CC.out.2.2.1,((ag z2).1 _ _ xn.out).trans CC.out.2.2.2.1,((ag z2).1 _ _ xn.out).trans CC.out.2.2.2.2.1,((ag z2).1 _ _ xn.out).trans CC.out.2.2.2.2.2.1,((ag z2).1 _ _ xn.out).trans CC.out.2.2.2.2.2.2.1,((ag z2).1 _ _ xn.out).trans CC.out.2.2.2.2.2.2.2,(R0.out.ret z2).c0,((ag z2).1 _ _ xn.out).trans HY.out⟩ (fun hH=>?_);clear hK K;refine rS [(6,some 17),(7,some 18),(8,some 19),(9,some 20),(10,some 21),(11,some 22),(12,some 23),(13,some 24),(14,some 25),(15,some 26),(16,some 27),(17,some 28),(18,some 29),(19,some 30),(20,some 31),(21,some 32),(22,some 33),(23,some 34)] ?_
      iterate 18 refine aS ?_
      refine rE ?_
      refine aC (i:=24) fun K hK=>?_
      go_simp;refine(yf.out _).mono ?_;rintro e w3 ⟨rfl,hb⟩;have z3:=z2.trans (hb.mono z2.size);clear hb z2;go_simp;clear hH;refine hK.out _ _ ⟨((ag z3).1 _ _ xn.out).trans CC.out.1,((ag z3).1 _ _ xn.out).trans CC.out.2.1,((ag z3).1 _ _ xn.out).trans CC.out.2.2.1,((ag z3).1 _ _ xn.out).trans CC.out.2.2.2.1,((ag z3).1 _ _ xn.out).trans CC.out.2.2.2.2.1,((ag z3).1 _ _ xn.out).trans CC.out.2.2.2.2.2.1,((ag z3).1 _ _ xn.out).trans CC.out.2.2.2.2.2.2.1,((ag z3).1 _ _ xn.out).trans CC.out.2.2.2.2.2.2.2,(R0.out.ret z3).c0,((ag z3).1 _ _ xn.out).trans HY.out⟩ (fun hH=>?_);clear hK K;refine rS [(25,some 36),(26,some 37),(27,some 38)] ?_
      iterate 3 refine aS ?_
      refine rE ?_;refine aD ?_
      (try clear yp yq yt yu)
      go_wp2_with fail;go_roundw
      case rel=>exact⟨k+1,by omega,by go_num,xT.out,ye.out,xp.trans (z3.mono xp.size)⟩
      case measure=>simp[intOf];omega
     | false=>
      rw[hl] at xo CL;have:=yz.out xo;subst this;have yf:=h_ CL;clear xo hl CL;go_wp2_with fail;have z1:=wu (bR wr);refine wp_region_held_drew (S:=fun w'=>w'.cell? ⟨b,off+k*8,none⟩=some (.string ⟨p.1.j.toArray⟩)∧w'.cell? ⟨b,off+k*8+1,none⟩=some (.string ⟨p.1.n.toArray⟩)∧w'.cell? ⟨b,off+k*8+2,none⟩=some (gvI p)∧w'.cell? ⟨b,off+k*8+3,none⟩=some (.bool p.1.s.1)∧w'.cell? ⟨b,off+k*8+4,none⟩=some (.bool p.1.s.2.1)∧w'.cell? ⟨b,off+k*8+5,none⟩=some (.bool p.1.s.2.2.1)∧w'.cell? ⟨b,off+k*8+6,none⟩=some (.bool p.1.s.2.2.2)∧w'.cell? ⟨b,off+k*8+7,none⟩=some (.bool p.1.k)∧w'.cell? ⟨w.heap.size,0,none⟩=some (.slice (some ⟨b,off,none⟩) L cap)∧w'.cell? ⟨b,off+(k-1)*8,none⟩=some (.string ⟨p'.1.j.toArray⟩)) (by kernel_rfl) ⟨((ag z1).1 _ _ xn.out).trans CC.out.1,((ag z1).1 _ _ xn.out).trans CC.out.2.1,((ag z1).1 _ _ xn.out).trans CC.out.2.2.1,((ag z1).1 _ _ xn.out).trans CC.out.2.2.2.1,((ag z1).1 _ _ xn.out).trans CC.out.2.2.2.2.1,((ag z1).1 _ _ xn.out).trans CC.out.2.2.2.2.2.1,((ag z1).1 _ _ xn.out).trans CC.out.2.2.2.2.2.2.1,((ag z1).1 _ _ xn.out).trans CC.out.2.2.2.2.2.2.2,(R0.out.ret z1).c0,((ag z1).1 _ _ xn.out).trans HY.out⟩ (fun hH=>?_);generalize wr.drew=V at z1 hH ⊢;refine rS [(0,some 11),(1,some 12),(2,some 13),(3,some 14),(4,some 15)] ?_
      iterate 5 refine aS ?_
      refine rE ?_
      refine aC (i:=5) fun K hK=>?_
      go_simp;refine(CI.out _ z1).mono ?_;rintro e w2 ⟨rfl,hb⟩;have z2:=z1.trans (hb.mono z1.size);clear hb z1;go_simp;clear hH;refine hK.out _ _ ⟨((ag z2).1 _ _ xn.out).trans CC.out.1,((ag z2).1 _ _ xn.out).trans CC.out.2.1,((ag z2).1 _ _ xn.out).trans CC.out.2.2.1,((ag z2).1 _ _ xn.out).trans CC.out.2.2.2.1,((ag z2).1 _ _ xn.out).trans CC.out.2.2.2.2.1,((ag z2).1 _ _ xn.out).trans CC.out.2.2.2.2.2.1,((ag z2).1 _ _ xn.out).trans CC.out.2.2.2.2.2.2.1,((ag z2).1 _ _ xn.out).trans CC.out.2.2.2.2.2.2.2,(R0.out.ret z2).c0,((ag z2).1 _ _ xn.out).trans HY.out⟩ (fun hH=>?_);clear hK K;refine rS [(6,some 17),(7,some 18),(8,some 19),(9,some 20),(10,some 21),(11,some 22),(12,some 23),(13,some 24),(14,some 25),(15,some 26),(16,some 27),(17,some 28),(18,some 29),(19,some 30),(20,some 31),(21,some 32),(22,some 33),(23,some 34)] ?_
      iterate 18 refine aS ?_
      refine rE ?_
      refine aC (i:=24) fun K hK=>?_
      go_simp;refine(yf.out _).mono ?_;rintro e w3 ⟨rfl,hb⟩;have z3:=z2.trans (hb.mono z2.size);clear hb z2;go_simp;clear hH;refine hK.out _ _ ⟨((ag z3).1 _ _ xn.out).trans CC.out.1,((ag z3).1 _ _ xn.out).trans CC.out.2.1,((ag z3).1 _ _ xn.out).trans CC.out.2.2.1,((ag z3).1 _ _ xn.out).trans CC.out.2.2.2.1,((ag z3).1 _ _ xn.out).trans CC.out.2.2.2.2.1,((ag z3).1 _ _ xn.out).trans CC.out.2.2.2.2.2.1,((ag z3).1 _ _ xn.out).trans CC.out.2.2.2.2.2.2.1,((ag z3).1 _ _ xn.out).trans CC.out.2.2.2.2.2.2.2,(R0.out.ret z3).c0,((ag z3).1 _ _ xn.out).trans HY.out⟩ (fun hH=>?_);clear hK K;refine rS [(25,some 36),(26,some 37),(27,some 38)] ?_
      iterate 3 refine aS ?_
      refine rE ?_;refine aD ?_;go_wp2_with fail;go_ret;exact⟨rfl,xC.trans ((xp.trans (z3.mono xp.size)).mono xC.size)⟩
    ·have gk:((0:Int)<(k:Int))=False:=eq_false (by omega)
     have xU:aI ((M.map Prod.fst).take (k+1))=true:=(by rw[xo,decide_eq_true (by omega)];rfl);have ye:=h_ xU;clear xo xU xy;go_wp2_with fail;have z1:=wu (bR wr);refine wp_region_held_drew (S:=fun w'=>w'.cell? ⟨b,off+k*8,none⟩=some (.string ⟨p.1.j.toArray⟩)∧w'.cell? ⟨b,off+k*8+1,none⟩=some (.string ⟨p.1.n.toArray⟩)∧w'.cell? ⟨b,off+k*8+2,none⟩=some (gvI p)∧w'.cell? ⟨b,off+k*8+3,none⟩=some (.bool p.1.s.1)∧w'.cell? ⟨b,off+k*8+4,none⟩=some (.bool p.1.s.2.1)∧w'.cell? ⟨b,off+k*8+5,none⟩=some (.bool p.1.s.2.2.1)∧w'.cell? ⟨b,off+k*8+6,none⟩=some (.bool p.1.s.2.2.2)∧w'.cell? ⟨b,off+k*8+7,none⟩=some (.bool p.1.k)∧w'.cell? ⟨w.heap.size,0,none⟩=some (.slice (some ⟨b,off,none⟩) L cap)) (by kernel_rfl) ⟨((ag z1).1 _ _ xn.out).trans CC.out.1,((ag z1).1 _ _ xn.out).trans CC.out.2.1,((ag z1).1 _ _ xn.out).trans CC.out.2.2.1,((ag z1).1 _ _ xn.out).trans CC.out.2.2.2.1,((ag z1).1 _ _ xn.out).trans CC.out.2.2.2.2.1,((ag z1).1 _ _ xn.out).trans CC.out.2.2.2.2.2.1,((ag z1).1 _ _ xn.out).trans CC.out.2.2.2.2.2.2.1,((ag z1).1 _ _ xn.out).trans CC.out.2.2.2.2.2.2.2,(R0.out.ret z1).c0⟩ (fun hH=>?_);generalize wr.drew=V at z1 hH ⊢;refine rS [(0,some 11),(1,some 12),(2,some 13),(3,some 14),(4,some 15)] ?_
     iterate 5 refine aS ?_
     refine rE ?_
     refine aC (i:=5) fun K hK=>?_
     go_simp;refine(CI.out _ z1).mono ?_;rintro e w2 ⟨rfl,hb⟩;have z2:=z1.trans (hb.mono z1.size);clear hb z1;go_simp;clear hH;refine hK.out _ _ ⟨((ag z2).1 _ _ xn.out).trans CC.out.1,((ag z2).1 _ _ xn.out).trans CC.out.2.1,((ag z2).1 _ _ xn.out).trans CC.out.2.2.1,((ag z2).1 _ _ xn.out).trans CC.out.2.2.2.1,((ag z2).1 _ _ xn.out).trans CC.out.2.2.2.2.1,((ag z2).1 _ _ xn.out).trans CC.out.2.2.2.2.2.1,((ag z2).1 _ _ xn.out).trans CC.out.2.2.2.2.2.2.1,((ag z2).1 _ _ xn.out).trans CC.out.2.2.2.2.2.2.2,(R0.out.ret z2).c0⟩ (fun hH=>?_);clear hK K;refine rS [(6,some 17),(7,some 18),(8,some 19),(9,some 20),(10,some 21)] ?_
     iterate 5 refine aS ?_
     refine rE ?_;refine rS [(11,some 22),(12,some 23),(13,some 24),(14,some 25),(15,some 26),(16,some 27),(17,some 28),(18,some 29),(19,some 30),(20,some 31),(21,some 32),(22,some 33),(23,some 34),(24,some 35),(25,some 36)] ?_
     iterate 15 refine aF ?_
     refine rE ?_;refine rS [(26,some 37),(27,some 38)] ?_
     iterate 2 refine aS ?_
     refine rE ?_;refine aD ?_
     (try clear yp yq yt yu)
     go_wp2_with fail;go_roundw
     case rel=>exact⟨k+1,by omega,by go_num,xT.out,ye.out,xp.trans (z2.mono xp.size)⟩
     case measure=>simp[intOf];omega
  ·obtain rfl : k = L := by omega
   have hO:=HO.out
   have e:(M.map Prod.fst).take k=M.map Prod.fst:=wC (by rw[wv,HL.out];exact wh _)
   rw[e] at xA xG;unfold kZ at hO;rw[xA,xG,wv,HL.out,ws,ws] at hO;have q1:=xC.trans (xp.mono xC.size);clear xA xG e HO HV HS
   by_cases h16:k≤16
   ·have g1:((k:Int)≤16)=True:=eq_true (by omega)
    rw[decide_eq_true h16,ws] at hO
    by_cases hv0:0≤ver
    ·have g2:((0:Int)≤ver)=True:=eq_true (by omega)
     rw[decide_eq_true hv0,ws] at hO;unfold cg at hO
     by_cases hvm:ver≤9007199254740991
     ·have g3:(ver≤9007199254740991)=True:=eq_true hvm
      rw[decide_eq_true hvm] at hO;subst hO;clear hv0 hvm h16;go_wp2_with fail;go_ret;exact⟨by first | rfl | simp,q1⟩
     ·have g3:(ver≤9007199254740991)=False:=eq_false hvm
      rw[decide_eq_false hvm] at hO;subst hO;clear hv0 hvm h16;go_wp2_with fail;go_ret;exact⟨by first | rfl | simp,q1⟩
    ·have g2:((0:Int)≤ver)=False:=eq_false (by omega)
     rw[decide_eq_false hv0,wy] at hO;subst hO;clear hv0 h16;go_wp2_with fail;go_ret;exact⟨by first | rfl | simp,q1⟩
   ·have g1:((k:Int)≤16)=False:=eq_false (by omega)
    rw[decide_eq_false h16,wy] at hO;subst hO;clear h16;go_wp2_with fail;go_ret;exact⟨by first | rfl | simp,q1⟩

theorem rz (w:World) (p:Im):cx 8 (.slice (some ⟨w.heap.size,0,none⟩) 1 1) 1 (itC p) (w.alloc (.cells (itC p).toArray 99)):=by
 refine⟨rfl,some ⟨w.heap.size,0,none⟩,1,rfl,(fun h=>by cases h),.inr ⟨w.heap.size,0,rfl,by simp,fun j hj=>?_⟩⟩;rw[wD,World.cell?_alloc_new]
 have:j=0∨j=1∨j=2∨j=3∨j=4∨j=5∨j=6∨j=7:=by
  have:(itC p).length=8:=rfl
  omega
 rcases this with rfl | rfl | rfl | rfl | rfl | rfl | rfl | rfl <;> rfl
theorem sO (p:Im):∀u∈itC p,u.oneCell'=true:=by
 intro u hu;simp only[itC,List.mem_cons,List.not_mem_nil,or_false] at hu
 rcases hu with rfl | rfl | rfl | rfl | rfl | rfl | rfl | rfl <;> rfl

theorem gY {w:World} {B C n L:Nat} {u v:Value} {xs ys:List Value} (h1:w.ownsRow B 99 8 v n xs) (h2:w.ownsRow C 9 1 u L ys):u.ownBlock=none∨u.ownBlock≠v.ownBlock:=by
 obtain⟨a,c,rfl,_⟩:=aw h1
 rcases h1.2 with ⟨h,_⟩ | ⟨g,cap,yV,h,_,_,_⟩
 ·simp only[wo] at h
  obtain⟨rfl,rfl,rfl⟩:=h
  cases hu:u.ownBlock with
  | none=>exact .inl rfl
  | some b=>exact .inr (by simp[Value.ownBlock])
 ·simp only[wo] at h
  obtain⟨rfl,-,rfl⟩:=h;exact .inr (gg h1 h2)
theorem qY (v:Value) (ver:Int) (M:List Im) (w:World) (hv:aE v M w) (hM:M.length≤1000) (hg:∀p∈M,p.1.g.length≤1000):
  Calls prog 48 #[.agg #[v,.int .i64 ver]] w (qp w (M.map Prod.fst) ver):=by
 obtain⟨a0,xw,hf,-⟩:=hv.form;obtain⟨L,hL⟩:=e_ M.length;rw[hL] at hf hM;subst hf;unfold qp;rw[wv,hL];obtain⟨i0,hi,yB,xO,xP⟩:=info_parts ie;obtain⟨j0,hj,yC,yD,yE⟩:=info_parts fE;have r0:=Two.new w (.slice a0 L xw) (.int .i64 ver) 31;have al:=(bR w).alloc (wh _) (.cells #[.slice a0 L xw,.int .i64 ver] 31);have z0:=Two.new (w.alloc (.cells #[.slice a0 L xw,.int .i64 ver] 31)) (.slice none 0 0) (.int .i64 0) 31;rw[World.size_alloc] at z0;have yg:=(Below.refl (w.alloc (.cells #[.slice a0 L xw,.int .i64 ver] 31)).heap.size (w.alloc (.cells #[.slice a0 L xw,.int .i64 ver] 31))).alloc (wh _) (.cells #[.slice none 0 0,.int .i64 0] 31);have r1:=r0.ret yg;have q1:=al.trans (yg.mono al.size);obtain⟨W,hW⟩:=e_ ((w.alloc (.cells #[.slice a0 L xw,.int .i64 ver] 31)).alloc (.cells #[.slice none 0 0,.int .i64 0] 31))
 have sW:W.heap.size=w.heap.size+2:=by rw[←hW];simp
 rw[hW] at z0 r1 q1;have HW:=h_ hW;have SW:=h_ sW;have HV:=h_ (hv.ret q1);have HL:=h_ hL;have HG:=h_ hg;have R1:=h_ r1;have Z0:=h_ z0;have qs:=q1.size;clear hW sW hL hg al yg r0 hv r1 z0;go_enter func48,ntmps48;go_wp2_with fail;rw[HW.out];go_loopw [3,4] (fun v i wx=>∃(k:Nat) (Nn:List Im),k≤L∧i=.int .i64 k∧Nn.length=k∧Nn.map Prod.fst=(M.map Prod.fst).take k∧wx.ownsRow W.heap.size 99 8 v k (itV Nn)∧(∀p∈Nn,wx.ownsRow W.heap.size 9 1 (gvI p) p.1.g.length (cJ p.1.g))∧Bl W wx) (fun _ i _=>L-(intOf i).toNat)
 case atStart=>exact⟨0,[],wA _,rfl,rfl,by simp,World.ownsRow_nil _ _ _ _,(fun p hp=>by cases hp),bQ _⟩
 case round=>
  obtain⟨k,Nn,hk,rfl,xQ,xR,xB,xS,xp⟩:=hrel;have yF:=xp.size
  by_cases hlt:k<L
  ·obtain⟨rl,yw,yx,-,-⟩:=R1.out.ret xp
   have xt:k<M.length:=(by rw[HL.out];exact hlt);obtain⟨b,off,cp,hf,xY,hc⟩:=(HV.out.ret xp).cell xt;rw[HL.out] at hf;simp only[wo,true_and] at hf;obtain⟨rfl,rfl⟩:=hf
   have yh:(M.map Prod.fst).take (k+1)=(M.map Prod.fst).take k++[M[k].1]:=by
    rw[wB (by simpa using xt),ww]
   have yi:=(HV.out.ret xp).2 _ (wq xt);have yG:=HG.out _ (wq xt);obtain⟨p,hp⟩:=e_ (M[k]);rw[hp] at hc yh yi yG;obtain⟨c0,c1,c2,c3,c4,c5,c6,c7⟩:=hc;have al:=(bR wr).alloc (wh _) (.cells (itC p).toArray 99);have x1:=It8.new wr (.string ⟨p.1.j.toArray⟩) (.string ⟨p.1.n.toArray⟩) (gvI p) (.bool p.1.s.1) (.bool p.1.s.2.1) (.bool p.1.s.2.2.1) (.bool p.1.s.2.2.2) (.bool p.1.k) 99;have xI:=yi.ret al;obtain⟨X,hX⟩:=e_ (wr.alloc (.cells (itC p).toArray 99));have sX:X.heap.size=wr.heap.size+1:=(by rw[←hX];simp);rw[hX] at al x1 xI;have HX:=h_ hX;have SX:=h_ sX;have AL:=h_ al;have X1:=h_ x1;have yH:=h_ xI;have yI:=h_ yh;have HO:=h_ xB;have GS:=h_ xS;have NN:=h_ xQ;have NM:=h_ xR;clear hp yh yi xI hX sX al x1 xB xS xQ xR;go_wp2_with (at_builtin;refine Hid.out ?_);rw[HX.out];clear c0 c1 c2 c3 c4 c5 c6 c7;have xJ:=cx.of_vals yH.out.1;rw[aq] at xJ;refine h_ ?_;refine am rfl _ _ _ rfl (wr.heap.size+1) 9 j0 _ 1 16 underlying26 hj yC yD yE rfl (by omega) (.slice (some ⟨wr.heap.size+1,0,none⟩) 0 0) 0 [] (by rfl) (by have h:=bb (size:=1) (e:=9) X (wh _);rw[SX.out] at h;exact h) (gvI p) (by rfl) p.1.g.length (cJ p.1.g) (xJ.ret ((bQ _).alloc (wh _) _)) (iJ _) (by omega) (by omega) (by simp[SX.out]) ?_;intro v' w' xz xK;rw[wD,List.nil_append] at xz;have bX:=((bR X).alloc (wh _) (.cells #[] 9)).grown xK (by simp) (fun k hk=>by cases hk;exact Nat.le_of_eq SX.out);obtain⟨a',c',rfl,-⟩:=aw xz;have x2:=X1.out.ret bX;have b2:=AL.out.trans (bX.mono AL.out.size);have yJ:=bX.size;rw[SX.out] at yJ;have x3:=x2.set2 (.slice a' p.1.g.length c');have b3:=b2.setCell (p:=⟨wr.heap.size,2,none⟩) (wh _) (.slice a' p.1.g.length c');have G3:=h_ (ownsRow_setCell_below xz (a:=⟨wr.heap.size,2,none⟩) (by show wr.heap.size<wr.heap.size+1;omega) (.slice a' p.1.g.length c'))
   obtain⟨l,d0,d1,d2,d3,d4,d5,d6,d7,g0,g1,g2,g3,g4,g5,g6,g7⟩:=id x2;clear xz xK bX b2 x2 xJ;have X3:=h_ x3;have B3:=h_ b3;clear x3 b3;obtain⟨l3,e0,e1,e2,e3,e4,e5,e6,e7,-,-,-,-,-,-,-,-⟩:=X3.out;go_wp2_with (at_builtin;refine Hid.out ?_);refine h_ ?_;have o3:=aQ HO.out B3.out;have yW:=B3.out.size;clear l d0 d1 d2 d3 d4 d5 d6 d7 g0 g1 g2 g3 g4 g5 g6 g7 l3 e0 e1 e2 e3 e4 e5 e6 e7;refine am rfl _ _ _ rfl W.heap.size 99 i0 _ 8 64 underlying29 hi yB xO xP rfl (by omega) _ k (itV Nn) rfl (o3.alloc _) (.slice (some ⟨w'.heap.size,0,none⟩) 1 1) (by rfl) 1 (itC (p.1,(a',c'))) (by have h:=rz (w'.setCell ⟨wr.heap.size,2,none⟩ (.slice a' p.1.g.length c')) (p.1,(a',c'));rw[World.size_setCell] at h;exact h) (sO _) (by omega) (by omega) (by simp;omega) ?_;intro v4 w4 xL xq;have yj:=o3.alloc (.cells (itC (p.1,(a',c'))).toArray 99);have b4:=(xp.trans (B3.out.mono yF)).alloc (by simp;omega) (.cells (itC (p.1,(a',c'))).toArray 99);have b5:=b4.grown xq (by simp;omega) (fun k hk=>(o3.lt k hk).1)
   have gN:w4.ownsRow W.heap.size 9 1 (gvI (p.1,(a',c'))) p.1.g.length (cJ p.1.g):=by
    have h:=(G3.out.mono (base':=W.heap.size) (by omega)).alloc (.cells (itC (p.1,(a',c'))).toArray 99);exact h.kept xq (gY yj h)
   have gO:∀q∈Nn,w4.ownsRow W.heap.size 9 1 (gvI q) q.1.g.length (cJ q.1.g):=fun q hq=>by
    have h:=(aQ (GS.out q hq) B3.out).alloc (.cells (itC (p.1,(a',c'))).toArray 99);exact h.kept xq (gY yj h)
   have GN:=h_ gN;have GO:=h_ gO;have yK:=h_ xL;have B5:=h_ b5;clear gN gO xL b5 b4 yj o3 xq;go_wp2_with fail;go_roundw
   case rel=>exact⟨k+1,Nn++[(p.1,(a',c'))],by omega,by go_num,by rw[List.length_append,NN.out];rfl,by rw[List.map_append,NM.out,yI.out];simp,by rw[sS];simpa [itV] using yK.out,(fun q hq=>by rcases List.mem_append.1 hq with hq | hq;exact GO.out q hq;cases List.mem_singleton.1 hq;exact GN.out),B5.out⟩
   case measure=>simp[intOf];omega
  ·obtain rfl : k = L := by omega
   have xV:Nn.map Prod.fst=M.map Prod.fst:=(by rw[xR,wC (by rw[wv,HL.out];exact wh _)]);obtain⟨a,c,rfl,-⟩:=aw xB;have xW:cm (w.heap.size+2) (.slice a k c) Nn wr:=(by rw[←SW.out];exact⟨by rw[xQ];exact xB,xS⟩);have HF:=h_ xW;have yL:=h_ xV;have z0:=Z0.out.ret xp;have q0:=q1.trans (xp.mono qs);obtain⟨l,c0,c1,f0,f1⟩:=R1.out.ret xp;obtain⟨m,d0,d1,e0,e1⟩:=id z0;clear xR xQ xB xS xV xW;go_wp2_with fail;have zf:=(z0.set0 (.slice a k c)).set1 (.int .i64 ver);have qf:=(q0.setCell (p:=⟨w.heap.size+1,0,none⟩) (wE _) (.slice a k c)).setCell (p:=⟨w.heap.size+1,1,none⟩) (wE _) (.int .i64 ver)
   have yM:cm (w.heap.size+2) (.slice a k c) Nn ((wr.setCell ⟨w.heap.size+1,0,none⟩ (.slice a k c)).setCell ⟨w.heap.size+1,1,none⟩ (.int .i64 ver)):=
    ⟨ownsRow_setCell_below (ownsRow_setCell_below HF.out.1 (a:=⟨w.heap.size+1,0,none⟩) (by show w.heap.size+1<w.heap.size+2;omega) _) (a:=⟨w.heap.size+1,1,none⟩) (by show w.heap.size+1<w.heap.size+2;omega) _,
     fun p hp=>ownsRow_setCell_below (ownsRow_setCell_below (HF.out.2 p hp) (a:=⟨w.heap.size+1,0,none⟩) (by show w.heap.size+1<w.heap.size+2;omega) _) (a:=⟨w.heap.size+1,1,none⟩) (by show w.heap.size+1<w.heap.size+2;omega) _⟩
   refine bodyPost_ret (mB rfl rfl zf) rfl ⟨a,c,rfl,Nn,yL.out,yM.mono (by omega),qf⟩



structure Rr (w:World) (v u:Value) (x y:Int) (W:World):Prop where
 A:Two w.heap.size v (.int .i64 x) W
 B:Two (w.heap.size+1) u (.int .i64 y) W
 q:Bl w W
open Go.RowKit Go.ChangeShapes Go.WideShapes Go.ChangeAt Go.Deep Go.Joins

theorem nA {H:Type} {enc:TypeId×Value→H} {W:World} {a:Option Addr} {len cap xr:Nat} {d:DataW H} {ps:List MemPlace}
  (hf:DataW.trod enc prog W 0 (fun _=>true) true xr 26 (Value.slice a len cap).cells.toList=some (d,ps)):
  ∃g:List (List UInt8),be (.slice a len cap) g W∧g.length≤9223372036854775807:=by
 rcases open_slice underlying26 hf with ⟨xo,_⟩ | ⟨x,l,c,m,n,D,Pl,xo,_,hl,hm,xM,_,hx⟩
 ·simp[wz] at xo
  obtain⟨rfl,rfl,rfl⟩:=xo;exact⟨[],be.nil W,by simp⟩
 ·simp[wz] at xo
  obtain⟨rfl,rfl,rfl⟩:=xo;unfold maxLen at hm;rw[if_pos rfl] at xM;subst xM
  have ce:prog.cellsOf 9=1:=by kernel_rfl
  rw[ce] at hx
  have xN:∀i,i<m→∃q:List UInt8,W.cell? (x.add i)=some (.string ⟨q.toArray⟩):=by
   intro i hi;obtain⟨yN,h1,h2⟩:=hx i hi;obtain⟨_,xX,xE⟩:=wF h1;obtain⟨s1,e1,_,z1⟩:=DataW.trod_string underlying9 h2;subst e1;have c0:=xE 0 (by omega);rw[add_add] at c0;exact⟨s1.data.toList,by simpa using c0⟩
  obtain⟨q,hq⟩:=choose_lt xN
  have xu:((wt len).map q).length=len:=by simp
  refine⟨(wt len).map q,⟨⟨some x,m,by rw[aq,xu],(fun h=>by cases h),?_⟩,some x,m,by rw[xu],by rw[xu];exact hl⟩,by rw[xu];omega⟩
  by_cases h0:len=0
  ·left
   subst h0
   rfl
  ·right
   obtain⟨b,off,spot⟩:=x;have xF:spot=none:=(by simpa [Addr.add] using wG (hq 0 (by omega)));subst xF
   have hc:∀i,i<m→W.cell? ⟨b,off+i,none⟩=some (.string ⟨(q i).toArray⟩):=fun i hi=>by
    have h1:=hq i hi;rw[Go.WideShapes.add_plain] at h1;exact h1
   have hb:b<W.heap.size:=by
    rcases wH b W.heap.size with h | h
    ·exact h
    ·have:=hc 0 (by omega)
     simp[wI,wK h] at this
   refine⟨b,off,rfl,hb,fun j hj=>?_⟩;rw[aq,xu] at hj;rw[hc j (by omega)]
   simp[cJ]
theorem mh {H:Type} {enc:TypeId×Value→H} {W:World} {v:Value} {xr:Nat} {d:DataW H×List MemPlace}
  (hf:DataW.trod enc prog W 0 (fun _=>true) true xr 26 [v]=some d):
  ∃(g:List (List UInt8)) (a:Option Addr) (c:Nat),v=.slice a g.length c∧be (.slice a g.length c) g W∧g.length≤9223372036854775807:=by
 obtain⟨d,ps⟩:=d
 have hv:∃a len cap,v=.slice a len cap:=by
  rcases open_slice underlying26 hf with ⟨xo,_⟩ | ⟨x,l,c,m,n,D,Pl,xo,_⟩
  ·exact⟨none,0,0,by simpa using xo⟩
  ·exact⟨some x,l,c,by simpa using xo⟩
 obtain⟨a,len,cap,rfl⟩:=hv;obtain⟨g,hg,hl⟩:=nA (a:=a) (len:=len) (cap:=cap) (by simpa [wz] using hf);obtain⟨_,a',yS,he,_⟩:=id hg
 injection he with h1 h2 h3
 subst h2;exact⟨g,a,cap,rfl,hg,hl⟩
theorem pH {H:Type} {enc:TypeId×Value→H} {W:World} {x:Addr} {cs:List Value} {xr:Nat} {d:DataW H×List MemPlace}
  (h1:W.cells? 0 x 8=some cs) (h2:DataW.trod enc prog W 0 (fun _=>true) true xr 99 cs=some d):
  ∃p:Im,(∀c,c<8→W.cell? (x.add c)=(itC p)[c]?)∧be (gvI p) p.1.g W:=by
 obtain⟨_,xX,xE⟩:=wF h1;obtain⟨xs,k,hk,yX,_,yO,hf⟩:=DataW.trod_struct underlying99 h2
 match cs,xX with
 | [v0,v1,v2,v3,v4,v5,v6,v7],_=>
  have i1:prog.cellsOf 9=1:=by kernel_rfl
  have i2:prog.cellsOf 26=1:=by kernel_rfl
  have i3:prog.cellsOf 4=1:=by kernel_rfl
  have i4:prog.cellsOf 97=4:=by kernel_rfl
  have g0:=hf 0 _ rfl;have g1:=hf 1 _ rfl;have g2:=hf 2 _ rfl;have g3:=hf 3 _ rfl;have g4:=hf 4 _ rfl
  simp[i1,i2,i3,i4] at g0 g1 g2 g3 g4
  match xs,yO,g0,g1,g2,g3,g4 with
  | [y0,y1,y2,y3,y4],_,g0,g1,g2,g3,g4=>
   obtain⟨s0,e0,_,z0⟩:=DataW.trod_string underlying9 g0;obtain⟨s1,e1,_,z1⟩:=DataW.trod_string underlying9 g1;obtain⟨b7,e7,_⟩:=DataW.trod_bool underlying4 g4;obtain⟨g,a,c,e2,hg,_⟩:=mh g2;obtain⟨ys,k',yY,yT,_,yP,xD⟩:=DataW.trod_struct underlying97 g3;have k0:=xD 0 _ rfl;have k1:=xD 1 _ rfl;have k2:=xD 2 _ rfl;have k3:=xD 3 _ rfl
   simp[i3] at k0 k1 k2 k3
   match ys,yP,k0,k1,k2,k3 with
   | [u0,u1,u2,u3],_,k0,k1,k2,k3=>
    obtain⟨b3,e3,_⟩:=DataW.trod_bool underlying4 k0;obtain⟨b4,e4,_⟩:=DataW.trod_bool underlying4 k1;obtain⟨b5,e5,_⟩:=DataW.trod_bool underlying4 k2;obtain⟨b6,e6,_⟩:=DataW.trod_bool underlying4 k3
    obtain rfl:v0=.string s0:=by simpa using e0
    obtain rfl:v1=.string s1:=by simpa using e1
    obtain rfl:v3=.bool b3:=by simpa using e3
    obtain rfl:v4=.bool b4:=by simpa using e4
    obtain rfl:v5=.bool b5:=by simpa using e5
    obtain rfl:v6=.bool b6:=by simpa using e6
    obtain rfl:v7=.bool b7:=by simpa using e7
    subst e2;refine⟨((s0.data.toList,s1.data.toList,g,(b3,b4,b5,b6),b7),(a,c)),fun j hj=>?_,hg⟩;have hq:=xE j hj;have:j=0∨j=1∨j=2∨j=3∨j=4∨j=5∨j=6∨j=7:=(by omega)
    rcases this with rfl | rfl | rfl | rfl | rfl | rfl | rfl | rfl <;> simpa using hq
theorem ng {H:Type} {enc:TypeId×Value→H} {W:World} {v:Value} {xr:Nat} {d:DataW H×List MemPlace}
  (hf:DataW.trod enc prog W 0 (fun _=>true) true xr 29 [v]=some d):∃M:List Im,aE v M W:=by
 obtain⟨d,ps⟩:=d
 rcases open_slice underlying29 hf with ⟨xo,_⟩ | ⟨x,len,cap,m,n,D,Pl,xo,_,hl,hm,xM,_,hx⟩
 ·obtain rfl : v = .slice none 0 0 := by simpa using xo
  exact⟨[],aE.nil W⟩
 ·obtain rfl : v = .slice (some x) len cap := by simpa using xo
  rw[if_pos rfl] at xM;subst xM
  have ce:prog.cellsOf 99=8:=by kernel_rfl
  rw[ce] at hx
  have xN:∀i,i<m→∃p:Im,(∀c,c<8→W.cell? ((x.add (i*8)).add c)=(itC p)[c]?)∧be (gvI p) p.1.g W:=by
   intro i hi;obtain⟨yN,h1,h2⟩:=hx i hi;exact pH h1 h2
  obtain⟨q,hq⟩:=choose_lt xN
  have xu:((wt len).map q).length=len:=by simp
  refine⟨(wt len).map q,⟨?_,fun p hp=>?_⟩⟩
  ·rw[xu]
   refine⟨by rw[lq,xu],some x,m,rfl,(fun h=>by cases h),?_⟩
   by_cases h0:len=0
   ·exact .inl h0
   ·right
    obtain⟨b,off,spot⟩:=x
    have xF:spot=none:=by
     have:=(hq 0 (by omega)).1 0 (by omega)
     simpa [Addr.add] using wG this
    subst xF
    have hc:∀i,i<m→∀c,c<8→W.cell? ⟨b,off+(i*8+c),none⟩=(itC (q i))[c]?:=fun i hi c hc=>by
     have h1:=(hq i hi).1 c hc;rw[Go.WideShapes.add_plain,Go.WideShapes.add_plain,Nat.add_assoc] at h1;exact h1
    have hb:b<W.heap.size:=by
     rcases wH b W.heap.size with h | h
     ·exact h
     ·have:=hc 0 (by omega) 0 (by omega)
      simp[wI,wK h] at this
    refine⟨b,off,rfl,hb,fun j hj=>?_⟩;rw[lq,xu] at hj;have yQ:j / 8<((wt len).map q).length:=(by rw[xu];omega);have e1:=mi _ (j / 8) yQ (j % 8) (by omega);rw[ww,List.getElem_range] at e1;have e2:=hc (j / 8) (by omega) (j % 8) (by omega);have e3:j / 8*8+j % 8=j:=(by omega);rw[e3] at e1 e2;rw[e2,←e1];exact List.getElem?_eq_getElem _
  ·obtain⟨i,hi,rfl⟩:=List.mem_map.1 hp
   have:=List.mem_range.1 hi;exact(hq i (by omega)).2
end Go.Proofs.YtjgeiieiinmdnaaGreatDoor
