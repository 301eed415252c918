/- RoY, RoZ, RoZa: put together by mergetpl.py. -/
import Derived.Test.YtjgeiieiinmdnaaGreatDoorKo
open Go.Proofs.Tryz
open Bool renaming true_and→wu,false_and→wy
open Go.RowKit.Below renaming drew→wv
open Go.Value.slice renaming injEq→ws
open List renaming getElem_mem→wt,length_map→ww,take_succ_eq_append_getElem→wA,getElem_map→wB,take_of_length_le→wC
open Nat renaming le_refl→wq,zero_le→wz,zero_add→wD,le_succ→wE
namespace Go.Proofs.YtjgeiieiinmdnaaGreatDoor
set_option maxHeartbeats 4000000
set_option maxRecDepth 100000
open Go.RowKit Go.Lib

theorem sH (v:Value) (ver:Int) (M:List Im) (w:World) (hv:aw v M w) (hs:cq M):
  Calls prog 161 #[.agg #[v,.int .i64 ver]] w (Ret w (.bool (lf (M.map Prod.fst) ver))):=by
 obtain⟨a,cap,hf,hnil⟩:=hv.form;obtain⟨L,hL⟩:=e_ M.length;have hL16:=hs.1;rw[hL] at hf hL16;subst hf;obtain⟨O,hO⟩:=e_ (lf (M.map Prod.fst) ver);rw[hO];have HO:=h_ hO;have HL:=h_ hL;have HS:=h_ hs.2;have q00:=(bR w).alloc (wq _) (.cells #[.slice a L cap,.int .i64 ver] 31);have HV:=h_ (hv.ret ((bR w).alloc (wq _) (.cells #[.slice a L cap,.int .i64 ver] 31)));have HR:=h_ (Two.new w (.slice a L cap) (.int .i64 ver) 31);obtain⟨W,hW⟩:=e_ (w.alloc (.cells #[.slice a L cap,.int .i64 ver] 31));rw[hW] at q00 HV HR;have HWW:=h_ hW;clear hO hL hs hv hW hnil;go_enter func161,ntmps161;go_wp2_with fail;rw[HWW.out];go_loopw [3] (fun i wx=>∃k:Nat,k≤L∧i=.int .i64 k∧((M.map Prod.fst).take k).all da=true∧aH ((M.map Prod.fst).take k)=true∧Bl W wx) (fun i _=>L-(intOf i).toNat)
 case atStart=>exact⟨0,wz _,rfl,rfl,rfl,bQ _⟩
 case round=>
  obtain⟨k,hk,rfl,hall,hch,hbw⟩:=hrel;have R0:=h_ (HR.out.ret hbw);obtain⟨rl,rc0,rc1,-,-⟩:=R0.out
  by_cases hlt:k<L
  ·have hkM : k < M.length := by rw [HL.out]; exact hlt
   have hV:=HV.out.ret hbw;obtain⟨b,off,cp,hf,hb0,hc⟩:=hV.cell hkM;rw[HL.out] at hf;simp only[ws,true_and] at hf;obtain⟨rfl,rfl⟩:=hf;obtain⟨s1,s2,s3,s4⟩:=HS.out M[k] (wt hkM);have hg:=hV.2 M[k] (wt hkM);have hkm:k<(M.map Prod.fst).length:=(by simpa using hkM)
   have hsn:((M.map Prod.fst).take (k+1)).all da=(da M[k].1):=by
    rw[wA hkm,List.all_append,hall]
    simp
   have hcs:=gH M k hkM;rw[hch,wu] at hcs
   have hbad1:da M[k].1=false→O=false:=fun h=>by
    rw[←HO.out];unfold lf;rw[o7 _ k hkm (by rw[wB];exact h)]
    rfl
   have hbad2:aH ((M.map Prod.fst).take (k+1))=false→O=false:=fun h=>by
    rw[←HO.out];unfold lf;rw[jX _ _ h,wy,Bool.and_false]
   have hprev:0<k→∃p':Im,M[k-1]'(by omega)=p'∧wr.cell? ⟨b,off+(k-1)*8,none⟩=some (.string ⟨p'.1.j.toArray⟩)∧p'.1.j.length≤10000:=fun h=>by
    obtain⟨b',off',cp',hf',_,hc',_⟩:=hV.cell (k:=k-1) (by omega);simp only[ws,Option.some.injEq,Addr.mk.injEq,and_true] at hf';obtain⟨⟨rfl,rfl⟩,_⟩:=hf';exact⟨_,rfl,hc',(HS.out _ (wt (by omega))).1⟩
   obtain⟨p,hp⟩:=e_ (M[k]);rw[hp] at hc s1 s2 s3 s4 hg hsn hbad1 hcs;have CC:=h_ hc;have HB0:=h_ hb0
   have CI:=fun (w':World) (hb:Bl wr w')=>kB p w' (hg.ret hb) s1 s2 s3 s4
   have HSN:=h_ hsn;have HB2:=h_ hbad2;have hz1:(⟨p.1.j.toArray⟩:ByteArray).size≤10000:=(by rw[←ab];exact s1);have HZ1:=h_ hz1;clear hp hg hV s1 s2 s3 s4 hsn hbad2 hkm hz1 hall hch hc hb0
   cases hI:da p.1 with
   | false=>
    have:=hbad1 hI;subst this;rw[hI] at CI;have CI:=h_ CI;clear hbad1 hcs hprev;go_wp2_with fail;have z1:=wv (bR wr);refine wp_region_held_drew (S:=fun w'=>w'.cell? ⟨b,off+k*8,none⟩=some (.string ⟨p.1.j.toArray⟩)∧w'.cell? ⟨b,off+k*8+1,none⟩=some (.string ⟨p.1.n.toArray⟩)∧w'.cell? ⟨b,off+k*8+2,none⟩=some (gvI p)∧w'.cell? ⟨b,off+k*8+3,none⟩=some (.bool p.1.s.1)∧w'.cell? ⟨b,off+k*8+4,none⟩=some (.bool p.1.s.2.1)∧w'.cell? ⟨b,off+k*8+5,none⟩=some (.bool p.1.s.2.2.1)∧w'.cell? ⟨b,off+k*8+6,none⟩=some (.bool p.1.s.2.2.2)∧w'.cell? ⟨b,off+k*8+7,none⟩=some (.bool p.1.k)∧w'.cell? ⟨w.heap.size,0,none⟩=some (.slice (some ⟨b,off,none⟩) L cap)) (by kernel_rfl) ⟨((af z1).1 _ _ HB0.out).trans CC.out.1,((af z1).1 _ _ HB0.out).trans CC.out.2.1,((af z1).1 _ _ HB0.out).trans CC.out.2.2.1,((af z1).1 _ _ HB0.out).trans CC.out.2.2.2.1,((af z1).1 _ _ HB0.out).trans CC.out.2.2.2.2.1,((af z1).1 _ _ HB0.out).trans CC.out.2.2.2.2.2.1,((af z1).1 _ _ HB0.out).trans CC.out.2.2.2.2.2.2.1,((af z1).1 _ _ HB0.out).trans CC.out.2.2.2.2.2.2.2,(R0.out.ret z1).c0⟩ (fun hH=>?_);generalize wr.drew=V at z1 hH ⊢;refine rS [(0,some 11),(1,some 12),(2,some 13),(3,some 14),(4,some 15)] ?_
    iterate 5 refine aS ?_
    refine rE ?_
    refine aC (i:=5) fun K hK=>?_
    go_simp;refine(CI.out _ z1).mono ?_;rintro e w2 ⟨rfl,hb⟩;have z2:=z1.trans (hb.mono z1.size);clear hb z1;go_simp;clear hH;refine hK.out _ _ ⟨((af z2).1 _ _ HB0.out).trans CC.out.1,((af z2).1 _ _ HB0.out).trans CC.out.2.1,((af z2).1 _ _ HB0.out).trans CC.out.2.2.1,((af z2).1 _ _ HB0.out).trans CC.out.2.2.2.1,((af z2).1 _ _ HB0.out).trans CC.out.2.2.2.2.1,((af z2).1 _ _ HB0.out).trans CC.out.2.2.2.2.2.1,((af z2).1 _ _ HB0.out).trans CC.out.2.2.2.2.2.2.1,((af z2).1 _ _ HB0.out).trans CC.out.2.2.2.2.2.2.2,(R0.out.ret z2).c0⟩ (fun hH=>?_);clear hK K;refine rS [(6,some 17),(7,some 18)] ?_
    iterate 2 refine aS ?_
    refine rE ?_;refine rS [(8,some 19),(9,some 20),(10,some 21),(11,some 22),(12,some 23),(13,some 24),(14,some 25),(15,some 26),(16,some 27),(17,some 28),(18,some 29),(19,some 30),(20,some 31),(21,some 32),(22,some 33),(23,some 34),(24,some 35),(25,some 36),(26,some 37)] ?_
    iterate 19 refine aF ?_
    refine rE ?_;refine rS [(27,some 38)] ?_;refine aS ?_;refine rE ?_;refine aD ?_;go_wp2_with fail;go_ret;exact⟨rfl,q00.trans ((hbw.trans (z2.mono hbw.size)).mono q00.size)⟩
   | true=>
    rw[hI] at HSN CI;have HSN2:=HSN;have CI:=h_ CI;clear hbad1
    by_cases hk0:0<k
    ·obtain⟨p',hp',hy,hz2⟩:=hprev hk0
     have hk1:((k:Int)-1)=((k-1:Nat):Int):=(by omega)
     have wk1:IntKind.i64.wrap ((k-1:Nat):Int)=((k-1:Nat):Int):=IntWalk.i64_in _ (by omega)
     have wk3:((k-1:Nat):Int)<(L:Int):=(by omega);have wk4:(0:Int)≤((k-1:Nat):Int):=(by omega);have gk:(0:Int)<k:=(by omega);rw[hp',decide_eq_false (by omega),Bool.false_or] at hcs;have HY:=h_ hy
     have CL:=fun w=>pR ⟨p'.1.j.toArray⟩ ⟨p.1.j.toArray⟩ w (by rw[←ab];exact hz2) HZ1.out
     simp only at CL
     clear hprev hp' hz2 hy
     cases hl:ao p'.1.j p.1.j with
     | true=>
      rw[hl] at hcs CL;have HC2:=h_ hcs;have CLS:=h_ CL;clear hcs hl CL;go_wp2_with fail;have z1:=wv (bR wr);refine wp_region_held_drew (S:=fun w'=>w'.cell? ⟨b,off+k*8,none⟩=some (.string ⟨p.1.j.toArray⟩)∧w'.cell? ⟨b,off+k*8+1,none⟩=some (.string ⟨p.1.n.toArray⟩)∧w'.cell? ⟨b,off+k*8+2,none⟩=some (gvI p)∧w'.cell? ⟨b,off+k*8+3,none⟩=some (.bool p.1.s.1)∧w'.cell? ⟨b,off+k*8+4,none⟩=some (.bool p.1.s.2.1)∧w'.cell? ⟨b,off+k*8+5,none⟩=some (.bool p.1.s.2.2.1)∧w'.cell? ⟨b,off+k*8+6,none⟩=some (.bool p.1.s.2.2.2)∧w'.cell? ⟨b,off+k*8+7,none⟩=some (.bool p.1.k)∧w'.cell? ⟨w.heap.size,0,none⟩=some (.slice (some ⟨b,off,none⟩) L cap)∧w'.cell? ⟨b,off+(k-1)*8,none⟩=some (.string ⟨p'.1.j.toArray⟩)) (by kernel_rfl) ⟨((af z1).1 _ _ HB0.out).trans CC.out.1,((af z1).1 _ _ HB0.out).trans CC.out.2.1,((af z1).1 _ _ HB0.out).trans CC.out.2.2.1,((af z1).1 _ _ HB0.out).trans CC.out.2.2.2.1,((af z1).1 _ _ HB0.out).trans CC.out.2.2.2.2.1,((af z1).1 _ _ HB0.out).trans CC.out.2.2.2.2.2.1,((af z1).1 _ _ HB0.out).trans CC.out.2.2.2.2.2.2.1,((af z1).1 _ _ HB0.out).trans CC.out.2.2.2.2.2.2.2,(R0.out.ret z1).c0,((af z1).1 _ _ HB0.out).trans HY.out⟩ (fun hH=>?_);generalize wr.drew=V at z1 hH ⊢;refine rS [(0,some 11),(1,some 12),(2,some 13),(3,some 14),(4,some 15)] ?_
      iterate 5 refine aS ?_
      refine rE ?_
      refine aC (i:=5) fun K hK=>?_
      go_simp;refine(CI.out _ z1).mono ?_;rintro e w2 ⟨rfl,hb⟩;have z2:=z1.trans (hb.mono z1.size);clear hb z1;go_simp;clear hH;refine hK.out _ _ ⟨((af z2).1 _ _ HB0.out).trans CC.out.1,((af z2).1 _ _ HB0.out).trans CC.out.2.1,((af z2).1 _ _ HB0.out).trans CC.out.2.2.1,((af z2).1 _ _ HB0.out).trans CC.out.2.2.2.1,((af z2).1 _ _ HB0.out).trans CC.out.2.2.2.2.1,((af z2).1 _ _ HB0.out).trans CC.out.2.2.2.2.2.1,((af z2).1 _ _ HB0.out).trans CC.out.2.2.2.2.2.2.1,((af z2).1 _ _ HB0.out).trans CC.out.2.2.2.2.2.2.2,(R0.out.ret z2).c0,((af z2).1 _ _ HB0.out).trans HY.out⟩ (fun hH=>?_);clear hK K;refine rS [(6,some 17),(7,some 18),(8,some 19),(9,some 20),(10,some 21),(11,some 22),(12,some 23),(13,some 24),(14,some 25),(15,some 26),(16,some 27),(17,some 28),(18,some 29),(19,some 30),(20,some 31),(21,some 32),(22,some 33),(23,some 34)] ?_
      iterate 18 refine aS ?_
      refine rE ?_
      refine aC (i:=24) fun K hK=>?_
      go_simp;refine(CLS.out _).mono ?_;rintro e w3 ⟨rfl,hb⟩;have z3:=z2.trans (hb.mono z2.size);clear hb z2;go_simp;clear hH;refine hK.out _ _ ⟨((af z3).1 _ _ HB0.out).trans CC.out.1,((af z3).1 _ _ HB0.out).trans CC.out.2.1,((af z3).1 _ _ HB0.out).trans CC.out.2.2.1,((af z3).1 _ _ HB0.out).trans CC.out.2.2.2.1,((af z3).1 _ _ HB0.out).trans CC.out.2.2.2.2.1,((af z3).1 _ _ HB0.out).trans CC.out.2.2.2.2.2.1,((af z3).1 _ _ HB0.out).trans CC.out.2.2.2.2.2.2.1,((af z3).1 _ _ HB0.out).trans CC.out.2.2.2.2.2.2.2,(R0.out.ret z3).c0,((af z3).1 _ _ HB0.out).trans HY.out⟩ (fun hH=>?_);clear hK K;refine rS [(25,some 36),(26,some 37),(27,some 38)] ?_
      iterate 3 refine aS ?_
      refine rE ?_;refine aD ?_
      (try clear hk1 wk1 wk3 wk4)
      go_wp2_with fail;go_roundw
      case rel=>exact⟨k+1,by omega,by go_num,HSN2.out,HC2.out,hbw.trans (z3.mono hbw.size)⟩
      case measure=>simp[intOf];omega
     | false=>
      rw[hl] at hcs CL;have:=HB2.out hcs;subst this;have CLS:=h_ CL;clear hcs hl CL;go_wp2_with fail;have z1:=wv (bR wr);refine wp_region_held_drew (S:=fun w'=>w'.cell? ⟨b,off+k*8,none⟩=some (.string ⟨p.1.j.toArray⟩)∧w'.cell? ⟨b,off+k*8+1,none⟩=some (.string ⟨p.1.n.toArray⟩)∧w'.cell? ⟨b,off+k*8+2,none⟩=some (gvI p)∧w'.cell? ⟨b,off+k*8+3,none⟩=some (.bool p.1.s.1)∧w'.cell? ⟨b,off+k*8+4,none⟩=some (.bool p.1.s.2.1)∧w'.cell? ⟨b,off+k*8+5,none⟩=some (.bool p.1.s.2.2.1)∧w'.cell? ⟨b,off+k*8+6,none⟩=some (.bool p.1.s.2.2.2)∧w'.cell? ⟨b,off+k*8+7,none⟩=some (.bool p.1.k)∧w'.cell? ⟨w.heap.size,0,none⟩=some (.slice (some ⟨b,off,none⟩) L cap)∧w'.cell? ⟨b,off+(k-1)*8,none⟩=some (.string ⟨p'.1.j.toArray⟩)) (by kernel_rfl) ⟨((af z1).1 _ _ HB0.out).trans CC.out.1,((af z1).1 _ _ HB0.out).trans CC.out.2.1,((af z1).1 _ _ HB0.out).trans CC.out.2.2.1,((af z1).1 _ _ HB0.out).trans CC.out.2.2.2.1,((af z1).1 _ _ HB0.out).trans CC.out.2.2.2.2.1,((af z1).1 _ _ HB0.out).trans CC.out.2.2.2.2.2.1,((af z1).1 _ _ HB0.out).trans CC.out.2.2.2.2.2.2.1,((af z1).1 _ _ HB0.out).trans CC.out.2.2.2.2.2.2.2,(R0.out.ret z1).c0,((af z1).1 _ _ HB0.out).trans HY.out⟩ (fun hH=>?_);generalize wr.drew=V at z1 hH ⊢;refine rS [(0,some 11),(1,some 12),(2,some 13),(3,some 14),(4,some 15)] ?_
      iterate 5 refine aS ?_
      refine rE ?_
      refine aC (i:=5) fun K hK=>?_
      go_simp;refine(CI.out _ z1).mono ?_;rintro e w2 ⟨rfl,hb⟩;have z2:=z1.trans (hb.mono z1.size);clear hb z1;go_simp;clear hH;refine hK.out _ _ ⟨((af z2).1 _ _ HB0.out).trans CC.out.1,((af z2).1 _ _ HB0.out).trans CC.out.2.1,((af z2).1 _ _ HB0.out).trans CC.out.2.2.1,((af z2).1 _ _ HB0.out).trans CC.out.2.2.2.1,((af z2).1 _ _ HB0.out).trans CC.out.2.2.2.2.1,((af z2).1 _ _ HB0.out).trans CC.out.2.2.2.2.2.1,((af z2).1 _ _ HB0.out).trans CC.out.2.2.2.2.2.2.1,((af z2).1 _ _ HB0.out).trans CC.out.2.2.2.2.2.2.2,(R0.out.ret z2).c0,((af z2).1 _ _ HB0.out).trans HY.out⟩ (fun hH=>?_);clear hK K;refine rS [(6,some 17),(7,some 18),(8,some 19),(9,some 20),(10,some 21),(11,some 22),(12,some 23),(13,some 24),(14,some 25),(15,some 26),(16,some 27),(17,some 28),(18,some 29),(19,some 30),(20,some 31),(21,some 32),(22,some 33),(23,some 34)] ?_
      iterate 18 refine aS ?_
      refine rE ?_
      refine aC (i:=24) fun K hK=>?_
      go_simp;refine(CLS.out _).mono ?_;rintro e w3 ⟨rfl,hb⟩;have z3:=z2.trans (hb.mono z2.size);clear hb z2;go_simp;clear hH;refine hK.out _ _ ⟨((af z3).1 _ _ HB0.out).trans CC.out.1,((af z3).1 _ _ HB0.out).trans CC.out.2.1,((af z3).1 _ _ HB0.out).trans CC.out.2.2.1,((af z3).1 _ _ HB0.out).trans CC.out.2.2.2.1,((af z3).1 _ _ HB0.out).trans CC.out.2.2.2.2.1,((af z3).1 _ _ HB0.out).trans CC.out.2.2.2.2.2.1,((af z3).1 _ _ HB0.out).trans CC.out.2.2.2.2.2.2.1,((af z3).1 _ _ HB0.out).trans CC.out.2.2.2.2.2.2.2,(R0.out.ret z3).c0,((af z3).1 _ _ HB0.out).trans HY.out⟩ (fun hH=>?_);clear hK K;refine rS [(25,some 36),(26,some 37),(27,some 38)] ?_
      iterate 3 refine aS ?_
      refine rE ?_;refine aD ?_;go_wp2_with fail;go_ret;exact⟨rfl,q00.trans ((hbw.trans (z3.mono hbw.size)).mono q00.size)⟩
    ·have gk:((0:Int)<(k:Int))=False:=eq_false (by omega)
     have hcs2:aH ((M.map Prod.fst).take (k+1))=true:=(by rw[hcs,decide_eq_true (by omega)];rfl);have HC2:=h_ hcs2;clear hcs hcs2 hprev;go_wp2_with fail;have z1:=wv (bR wr);refine wp_region_held_drew (S:=fun w'=>w'.cell? ⟨b,off+k*8,none⟩=some (.string ⟨p.1.j.toArray⟩)∧w'.cell? ⟨b,off+k*8+1,none⟩=some (.string ⟨p.1.n.toArray⟩)∧w'.cell? ⟨b,off+k*8+2,none⟩=some (gvI p)∧w'.cell? ⟨b,off+k*8+3,none⟩=some (.bool p.1.s.1)∧w'.cell? ⟨b,off+k*8+4,none⟩=some (.bool p.1.s.2.1)∧w'.cell? ⟨b,off+k*8+5,none⟩=some (.bool p.1.s.2.2.1)∧w'.cell? ⟨b,off+k*8+6,none⟩=some (.bool p.1.s.2.2.2)∧w'.cell? ⟨b,off+k*8+7,none⟩=some (.bool p.1.k)∧w'.cell? ⟨w.heap.size,0,none⟩=some (.slice (some ⟨b,off,none⟩) L cap)) (by kernel_rfl) ⟨((af z1).1 _ _ HB0.out).trans CC.out.1,((af z1).1 _ _ HB0.out).trans CC.out.2.1,((af z1).1 _ _ HB0.out).trans CC.out.2.2.1,((af z1).1 _ _ HB0.out).trans CC.out.2.2.2.1,((af z1).1 _ _ HB0.out).trans CC.out.2.2.2.2.1,((af z1).1 _ _ HB0.out).trans CC.out.2.2.2.2.2.1,((af z1).1 _ _ HB0.out).trans CC.out.2.2.2.2.2.2.1,((af z1).1 _ _ HB0.out).trans CC.out.2.2.2.2.2.2.2,(R0.out.ret z1).c0⟩ (fun hH=>?_);generalize wr.drew=V at z1 hH ⊢;refine rS [(0,some 11),(1,some 12),(2,some 13),(3,some 14),(4,some 15)] ?_
     iterate 5 refine aS ?_
     refine rE ?_
     refine aC (i:=5) fun K hK=>?_
     go_simp;refine(CI.out _ z1).mono ?_;rintro e w2 ⟨rfl,hb⟩;have z2:=z1.trans (hb.mono z1.size);clear hb z1;go_simp;clear hH;refine hK.out _ _ ⟨((af z2).1 _ _ HB0.out).trans CC.out.1,((af z2).1 _ _ HB0.out).trans CC.out.2.1,((af z2).1 _ _ HB0.out).trans CC.out.2.2.1,((af z2).1 _ _ HB0.out).trans CC.out.2.2.2.1,((af z2).1 _ _ HB0.out).trans CC.out.2.2.2.2.1,((af z2).1 _ _ HB0.out).trans CC.out.2.2.2.2.2.1,((af z2).1 _ _ HB0.out).trans CC.out.2.2.2.2.2.2.1,((af z2).1 _ _ HB0.out).trans CC.out.2.2.2.2.2.2.2,(R0.out.ret z2).c0⟩ (fun hH=>?_);clear hK K;refine rS [(6,some 17),(7,some 18),(8,some 19),(9,some 20),(10,some 21)] ?_
     iterate 5 refine aS ?_
     refine rE ?_;refine rS [(11,some 22),(12,some 23),(13,some 24),(14,some 25),(15,some 26),(16,some 27),(17,some 28),(18,some 29),(19,some 30),(20,some 31),(21,some 32),(22,some 33),(23,some 34),(24,some 35),(25,some 36)] ?_
     iterate 15 refine aF ?_
     refine rE ?_;refine rS [(26,some 37),(27,some 38)] ?_
     iterate 2 refine aS ?_
     refine rE ?_;refine aD ?_
     (try clear hk1 wk1 wk3 wk4)
     go_wp2_with fail;go_roundw
     case rel=>exact⟨k+1,by omega,by go_num,HSN2.out,HC2.out,hbw.trans (z2.mono hbw.size)⟩
     case measure=>simp[intOf];omega
  ·obtain rfl : k = L := by omega
   have hO:=HO.out
   have e:(M.map Prod.fst).take k=M.map Prod.fst:=wC (by rw[ww,HL.out];exact wq _)
   rw[e] at hall hch;unfold lf at hO;rw[hall,hch,ww,HL.out,wu,wu] at hO;have q1:=q00.trans (hbw.mono q00.size);clear hall hch e HO HV HS
   by_cases h16:k≤16
   ·have g1:((k:Int)≤16)=True:=eq_true (by omega)
    rw[decide_eq_true h16,wu] at hO
    by_cases hv0:0≤ver
    ·have g2:((0:Int)≤ver)=True:=eq_true (by omega)
     rw[decide_eq_true hv0,wu] at hO;unfold fw at hO
     by_cases hvm:ver≤9007199254740991
     ·have g3:(ver≤9007199254740991)=True:=eq_true hvm
      rw[decide_eq_true hvm] at hO;subst hO;clear hv0 hvm h16;go_wp2_with fail;go_ret;exact⟨by first | rfl | simp,q1⟩
     ·have g3:(ver≤9007199254740991)=False:=eq_false hvm
      rw[decide_eq_false hvm] at hO;subst hO;clear hv0 hvm h16;go_wp2_with fail;go_ret;exact⟨by first | rfl | simp,q1⟩
    ·have g2:((0:Int)≤ver)=False:=eq_false (by omega)
     rw[decide_eq_false hv0,wy] at hO;subst hO;clear hv0 h16;go_wp2_with fail;go_ret;exact⟨by first | rfl | simp,q1⟩
   ·have g1:((k:Int)≤16)=False:=eq_false (by omega)
    rw[decide_eq_false h16,wy] at hO;subst hO;clear h16;go_wp2_with fail;go_ret;exact⟨by first | rfl | simp,q1⟩

theorem pB (w:World) (p:Im):cO 8 (.slice (some ⟨w.heap.size,0,none⟩) 1 1) 1 (itC p) (w.alloc (.cells (itC p).toArray 99)):=by
 refine⟨rfl,some ⟨w.heap.size,0,none⟩,1,rfl,(fun h=>by cases h),.inr ⟨w.heap.size,0,rfl,by simp,fun j hj=>?_⟩⟩;rw[wD,World.cell?_alloc_new]
 have:j=0∨j=1∨j=2∨j=3∨j=4∨j=5∨j=6∨j=7:=by
  have:(itC p).length=8:=rfl
  omega
 rcases this with rfl | rfl | rfl | rfl | rfl | rfl | rfl | rfl <;> rfl
theorem tO (p:Im):∀u∈itC p,u.oneCell'=true:=by
 intro u hu;simp only[itC,List.mem_cons,List.not_mem_nil,or_false] at hu
 rcases hu with rfl | rfl | rfl | rfl | rfl | rfl | rfl | rfl <;> rfl

theorem gC {w:World} {B C n L:Nat} {u v:Value} {xs ys:List Value} (h1:w.ownsRow B 99 8 v n xs) (h2:w.ownsRow C 9 1 u L ys):u.ownBlock=none∨u.ownBlock≠v.ownBlock:=by
 obtain⟨a,c,rfl,_⟩:=aq h1
 rcases h1.2 with ⟨h,_⟩ | ⟨g,cap,cur,h,_,_,_⟩
 ·simp only[ws] at h
  obtain⟨rfl,rfl,rfl⟩:=h
  cases hu:u.ownBlock with
  | none=>exact .inl rfl
  | some b=>exact .inr (by simp[Value.ownBlock])
 ·simp only[ws] at h
  obtain⟨rfl,-,rfl⟩:=h;exact .inr (fC h1 h2)
theorem ql (v:Value) (ver:Int) (M:List Im) (w:World) (hv:aw v M w) (hM:M.length≤1000) (hg:∀p∈M,p.1.g.length≤1000):
  Calls prog 48 #[.agg #[v,.int .i64 ver]] w (pq w (M.map Prod.fst) ver):=by
 obtain⟨a0,cap0,hf,-⟩:=hv.form;obtain⟨L,hL⟩:=e_ M.length;rw[hL] at hf hM;subst hf;unfold pq;rw[ww,hL];obtain⟨i0,hi,hz0,hz1,hz2⟩:=info_parts gI;obtain⟨j0,hj,hy0,hy1,hy2⟩:=info_parts be;have r0:=Two.new w (.slice a0 L cap0) (.int .i64 ver) 31;have al:=(bR w).alloc (wq _) (.cells #[.slice a0 L cap0,.int .i64 ver] 31);have z0:=Two.new (w.alloc (.cells #[.slice a0 L cap0,.int .i64 ver] 31)) (.slice none 0 0) (.int .i64 0) 31;rw[World.size_alloc] at z0;have al2:=(Below.refl (w.alloc (.cells #[.slice a0 L cap0,.int .i64 ver] 31)).heap.size (w.alloc (.cells #[.slice a0 L cap0,.int .i64 ver] 31))).alloc (wq _) (.cells #[.slice none 0 0,.int .i64 0] 31);have r1:=r0.ret al2;have q1:=al.trans (al2.mono al.size);obtain⟨W,hW⟩:=e_ ((w.alloc (.cells #[.slice a0 L cap0,.int .i64 ver] 31)).alloc (.cells #[.slice none 0 0,.int .i64 0] 31))
 have sW:W.heap.size=w.heap.size+2:=by rw[←hW];simp
 rw[hW] at z0 r1 q1;have HW:=h_ hW;have SW:=h_ sW;have HV:=h_ (hv.ret q1);have HL:=h_ hL;have HG:=h_ hg;have R1:=h_ r1;have Z0:=h_ z0;have qs:=q1.size;clear hW sW hL hg al al2 r0 hv r1 z0;go_enter func48,ntmps48;go_wp2_with fail;rw[HW.out];go_loopw [3,4] (fun v i wx=>∃(k:Nat) (Nn:List Im),k≤L∧i=.int .i64 k∧Nn.length=k∧Nn.map Prod.fst=(M.map Prod.fst).take k∧wx.ownsRow W.heap.size 99 8 v k (itV Nn)∧(∀p∈Nn,wx.ownsRow W.heap.size 9 1 (gvI p) p.1.g.length (aY p.1.g))∧Bl W wx) (fun _ i _=>L-(intOf i).toNat)
 case atStart=>exact⟨0,[],wz _,rfl,rfl,by simp,World.ownsRow_nil _ _ _ _,(fun p hp=>by cases hp),bQ _⟩
 case round=>
  obtain⟨k,Nn,hk,rfl,hnn,hnm,hown,hgs,hbw⟩:=hrel;have hsz:=hbw.size
  by_cases hlt:k<L
  ·obtain⟨rl,rc0,rc1,-,-⟩:=R1.out.ret hbw
   have hkM:k<M.length:=(by rw[HL.out];exact hlt);obtain⟨b,off,cp,hf,hb0,hc⟩:=(HV.out.ret hbw).cell hkM;rw[HL.out] at hf;simp only[ws,true_and] at hf;obtain⟨rfl,rfl⟩:=hf
   have hpm:(M.map Prod.fst).take (k+1)=(M.map Prod.fst).take k++[M[k].1]:=by
    rw[wA (by simpa using hkM),wB]
   have hgr:=(HV.out.ret hbw).2 _ (wt hkM);have hgz:=HG.out _ (wt hkM);obtain⟨p,hp⟩:=e_ (M[k]);rw[hp] at hc hpm hgr hgz;obtain⟨c0,c1,c2,c3,c4,c5,c6,c7⟩:=hc;have al:=(bR wr).alloc (wq _) (.cells (itC p).toArray 99);have x1:=It8.new wr (.string ⟨p.1.j.toArray⟩) (.string ⟨p.1.n.toArray⟩) (gvI p) (.bool p.1.s.1) (.bool p.1.s.2.1) (.bool p.1.s.2.2.1) (.bool p.1.s.2.2.2) (.bool p.1.k) 99;have hgr1:=hgr.ret al;obtain⟨X,hX⟩:=e_ (wr.alloc (.cells (itC p).toArray 99));have sX:X.heap.size=wr.heap.size+1:=(by rw[←hX];simp);rw[hX] at al x1 hgr1;have HX:=h_ hX;have SX:=h_ sX;have AL:=h_ al;have X1:=h_ x1;have HGR:=h_ hgr1;have HPM:=h_ hpm;have HO:=h_ hown;have GS:=h_ hgs;have NN:=h_ hnn;have NM:=h_ hnm;clear hp hpm hgr hgr1 hX sX al x1 hown hgs hnn hnm;go_wp2_with (at_builtin;refine Hid.out ?_);rw[HX.out];clear c0 c1 c2 c3 c4 c5 c6 c7;have hrow:=cO.of_vals HGR.out.1;rw[aj] at hrow;refine h_ ?_;refine ai rfl _ _ _ rfl (wr.heap.size+1) 9 j0 _ 1 16 underlying26 hj hy0 hy1 hy2 rfl (by omega) (.slice (some ⟨wr.heap.size+1,0,none⟩) 0 0) 0 [] (by rfl) (by have h:=bf (size:=1) (e:=9) X (wq _);rw[SX.out] at h;exact h) (gvI p) (by rfl) p.1.g.length (aY p.1.g) (hrow.ret ((bQ _).alloc (wq _) _)) (iL _) (by omega) (by omega) (by simp[SX.out]) ?_;intro v' w' hown' hgrow;rw[wD,List.nil_append] at hown';have bX:=((bR X).alloc (wq _) (.cells #[] 9)).grown hgrow (by simp) (fun k hk=>by cases hk;exact Nat.le_of_eq SX.out);obtain⟨a',c',rfl,-⟩:=aq hown';have x2:=X1.out.ret bX;have b2:=AL.out.trans (bX.mono AL.out.size);have hs2:=bX.size;rw[SX.out] at hs2;have x3:=x2.set2 (.slice a' p.1.g.length c');have b3:=b2.setCell (p:=⟨wr.heap.size,2,none⟩) (wq _) (.slice a' p.1.g.length c');have G3:=h_ (ownsRow_setCell_below hown' (a:=⟨wr.heap.size,2,none⟩) (by show wr.heap.size<wr.heap.size+1;omega) (.slice a' p.1.g.length c'))
   obtain⟨l,d0,d1,d2,d3,d4,d5,d6,d7,g0,g1,g2,g3,g4,g5,g6,g7⟩:=id x2;clear hown' hgrow bX b2 x2 hrow;have X3:=h_ x3;have B3:=h_ b3;clear x3 b3;obtain⟨l3,e0,e1,e2,e3,e4,e5,e6,e7,-,-,-,-,-,-,-,-⟩:=X3.out;go_wp2_with (at_builtin;refine Hid.out ?_);refine h_ ?_;have o3:=aI HO.out B3.out;have hs3:=B3.out.size;clear l d0 d1 d2 d3 d4 d5 d6 d7 g0 g1 g2 g3 g4 g5 g6 g7 l3 e0 e1 e2 e3 e4 e5 e6 e7;refine ai rfl _ _ _ rfl W.heap.size 99 i0 _ 8 64 underlying29 hi hz0 hz1 hz2 rfl (by omega) _ k (itV Nn) rfl (o3.alloc _) (.slice (some ⟨w'.heap.size,0,none⟩) 1 1) (by rfl) 1 (itC (p.1,(a',c'))) (by have h:=pB (w'.setCell ⟨wr.heap.size,2,none⟩ (.slice a' p.1.g.length c')) (p.1,(a',c'));rw[World.size_setCell] at h;exact h) (tO _) (by omega) (by omega) (by simp;omega) ?_;intro v4 w4 hown4 hgrow4;have o3a:=o3.alloc (.cells (itC (p.1,(a',c'))).toArray 99);have b4:=(hbw.trans (B3.out.mono hsz)).alloc (by simp;omega) (.cells (itC (p.1,(a',c'))).toArray 99);have b5:=b4.grown hgrow4 (by simp;omega) (fun k hk=>(o3.lt k hk).1)
   have gN:w4.ownsRow W.heap.size 9 1 (gvI (p.1,(a',c'))) p.1.g.length (aY p.1.g):=by
    have h:=(G3.out.mono (base':=W.heap.size) (by omega)).alloc (.cells (itC (p.1,(a',c'))).toArray 99);exact h.kept hgrow4 (gC o3a h)
   have gO:∀q∈Nn,w4.ownsRow W.heap.size 9 1 (gvI q) q.1.g.length (aY q.1.g):=fun q hq=>by
    have h:=(aI (GS.out q hq) B3.out).alloc (.cells (itC (p.1,(a',c'))).toArray 99);exact h.kept hgrow4 (gC o3a h)
   have GN:=h_ gN;have GO:=h_ gO;have HO4:=h_ hown4;have B5:=h_ b5;clear gN gO hown4 b5 b4 o3a o3 hgrow4;go_wp2_with fail;go_roundw
   case rel=>exact⟨k+1,Nn++[(p.1,(a',c'))],by omega,by go_num,by rw[List.length_append,NN.out];rfl,by rw[List.map_append,NM.out,HPM.out];simp,by rw[tB];simpa [itV] using HO4.out,(fun q hq=>by rcases List.mem_append.1 hq with hq | hq;exact GO.out q hq;cases List.mem_singleton.1 hq;exact GN.out),B5.out⟩
   case measure=>simp[intOf];omega
  ·obtain rfl : k = L := by omega
   have hnm2:Nn.map Prod.fst=M.map Prod.fst:=(by rw[hnm,wC (by rw[ww,HL.out];exact wq _)]);obtain⟨a,c,rfl,-⟩:=aq hown;have hfin:bp (w.heap.size+2) (.slice a k c) Nn wr:=(by rw[←SW.out];exact⟨by rw[hnn];exact hown,hgs⟩);have HF:=h_ hfin;have HNM:=h_ hnm2;have z0:=Z0.out.ret hbw;have q0:=q1.trans (hbw.mono qs);obtain⟨l,c0,c1,f0,f1⟩:=R1.out.ret hbw;obtain⟨m,d0,d1,e0,e1⟩:=id z0;clear hnm hnn hown hgs hnm2 hfin;go_wp2_with fail;have zf:=(z0.set0 (.slice a k c)).set1 (.int .i64 ver);have qf:=(q0.setCell (p:=⟨w.heap.size+1,0,none⟩) (wE _) (.slice a k c)).setCell (p:=⟨w.heap.size+1,1,none⟩) (wE _) (.int .i64 ver)
   have hof:bp (w.heap.size+2) (.slice a k c) Nn ((wr.setCell ⟨w.heap.size+1,0,none⟩ (.slice a k c)).setCell ⟨w.heap.size+1,1,none⟩ (.int .i64 ver)):=
    ⟨ownsRow_setCell_below (ownsRow_setCell_below HF.out.1 (a:=⟨w.heap.size+1,0,none⟩) (by show w.heap.size+1<w.heap.size+2;omega) _) (a:=⟨w.heap.size+1,1,none⟩) (by show w.heap.size+1<w.heap.size+2;omega) _,
     fun p hp=>ownsRow_setCell_below (ownsRow_setCell_below (HF.out.2 p hp) (a:=⟨w.heap.size+1,0,none⟩) (by show w.heap.size+1<w.heap.size+2;omega) _) (a:=⟨w.heap.size+1,1,none⟩) (by show w.heap.size+1<w.heap.size+2;omega) _⟩
   refine bodyPost_ret (lA rfl rfl zf) rfl ⟨a,c,rfl,Nn,HNM.out,hof.mono (by omega),qf⟩
end Go.Proofs.YtjgeiieiinmdnaaGreatDoor
