/- RoV, RoW, RoX: put together by mergetpl.py. -/
import Derived.Test.YtjgeiieiinmdnaaGreatDoorKk
import Derived.Test.YtjgeiieiinmdnaaGreatDoorKn
open Go.Proofs.Tryz
open Bool renaming true_and→wo,false_and→wu,and_false→wy
open Go.Lib renaming toList_data→wq
open Go.RowKit.Below renaming drew→ws
open List renaming all_append→ww,take_append_drop→wz,contains_iff_mem→wA,mem_iff_getElem→wB,length_take→wC,getElem_take→wD
open Nat renaming le_refl→wh,ne_of_gt→wt,zero_le→wv,lt_of_lt_of_le→wE
namespace Go.Proofs.YtjgeiieiinmdnaaGreatDoor
set_option maxHeartbeats 4000000
set_option maxRecDepth 100000
open Go.RowKit Go.Lib

theorem iT (s:ByteArray) (w:World)
  (CP:∀w:World,Calls prog 127 #[.string s] w (Ret w (.tuple #[jV ⟨#[]⟩ ⟨#[]⟩ ⟨#[]⟩,.int .i64 190]))):
  Calls prog 238 #[.string s] w (Ret w (.tuple #[jV ⟨#[]⟩ ⟨#[]⟩ ⟨#[]⟩,.bool false])):=by
 have r0:=JAt.new w ⟨#[]⟩ ⟨#[]⟩ ⟨#[]⟩;have q0:=(bR w).alloc (wh _) (.cells #[.string ⟨#[]⟩,.string ⟨#[]⟩,.string ⟨#[]⟩] 117);have HP:=h_ CP;clear CP;go_enter func238,ntmps238;go_wp2_with fail;refine(HP.out _).mono ?_;rintro e w1 ⟨rfl,hb⟩;have r1:=r0.ret hb;have q1:=q0.trans (hb.mono q0.size);clear hb r0 q0;have al:=((bR w1).alloc (wh _) (.cells #[.string ⟨#[]⟩,.string ⟨#[]⟩,.string ⟨#[]⟩] 117)).drew;have j4:=(JAt.new w1 ⟨#[]⟩ ⟨#[]⟩ ⟨#[]⟩).ret (ws (bQ _));have r4:=r1.ret al;have q4:=q1.trans (al.mono q1.size);have xp:=r1.lt;have xn:w1.heap.size≠w.heap.size:=wt xp;clear al r1 q1;go_wp2_with fail;refine wp_region_held_drew (S:=fun w'=>w'.cell? ⟨w1.heap.size,0,none⟩=some (.string ⟨#[]⟩)∧w'.cell? ⟨w1.heap.size,1,none⟩=some (.string ⟨#[]⟩)∧w'.cell? ⟨w1.heap.size,2,none⟩=some (.string ⟨#[]⟩)) (by kernel_rfl) ⟨j4.c0,j4.c1,j4.c2⟩ (fun hH=>?_);generalize (w1.alloc (.cells #[.string ⟨#[]⟩,.string ⟨#[]⟩,.string ⟨#[]⟩] 117)).drew=V at j4 r4 q4 hH ⊢;refine rS [(0,some 11),(1,some 12),(2,some 13),(3,some 14)] ?_
 iterate 4 refine aS ?_
 refine rE ?_;refine rS [(4,some 15),(5,some 16),(6,some 17)] ?_
 iterate 3 refine aF ?_
 refine rE ?_;refine rS [(7,some 18),(8,some 19)] ?_
 iterate 2 refine aS ?_
 refine rE ?_;refine rS [(9,some 20),(10,some 21),(11,some 22),(12,some 23)] ?_
 iterate 4 refine aF ?_
 refine rE ?_;refine rS [(13,some 24)] ?_;refine aS ?_;refine rE ?_
 refine aC (i:=14) fun K hK=>?_
 have f0:=r4.f0;have f1:=r4.f1;have f2:=r4.f2;have g0:=r4.c0;have g1:=r4.c1;have g2:=r4.c2;go_simp;have j5:=((j4.other (M:=w.heap.size) (o:=0) xn (.string ⟨#[]⟩)).other (M:=w.heap.size) (o:=1) xn (.string ⟨#[]⟩)).other (M:=w.heap.size) (o:=2) xn (.string ⟨#[]⟩);have r5:=r4.set3 ⟨#[]⟩ ⟨#[]⟩ ⟨#[]⟩;have q5:=ae q4 (wh _) (.string ⟨#[]⟩) (.string ⟨#[]⟩) (.string ⟨#[]⟩);clear hH f0 f1 f2 g0 g1 g2;refine hK.out _ _ ⟨j5.c0,j5.c1,j5.c2⟩ (fun hH=>?_);clear hK K;refine rS [(15,some 3)] ?_;refine aS ?_;refine rE ?_;refine aD ?_;go_wp2_with fail;refine bodyPost_ret (fy rfl rfl rfl r5) rfl ⟨rfl,q5⟩
theorem gA (s X Y Z:ByteArray) (w:World)
  (CP:∀w:World,Calls prog 127 #[.string s] w (Ret w (.tuple #[jV X Y Z,.int .i64 0])))
  (hZ:(Z.toList==[])=false):
  Calls prog 238 #[.string s] w (Ret w (.tuple #[jV X Y Z,.bool false])):=by
 have r0:=JAt.new w ⟨#[]⟩ ⟨#[]⟩ ⟨#[]⟩;have q0:=(bR w).alloc (wh _) (.cells #[.string ⟨#[]⟩,.string ⟨#[]⟩,.string ⟨#[]⟩] 117);have HP:=h_ CP;clear CP;go_enter func238,ntmps238;go_wp2_with fail;refine(HP.out _).mono ?_;rintro e w1 ⟨rfl,hb⟩;have r1:=r0.ret hb;have q1:=q0.trans (hb.mono q0.size);clear hb r0 q0;have al:=((bR w1).alloc (wh _) (.cells #[.string X,.string Y,.string Z] 117)).drew;have j4:=(JAt.new w1 X Y Z).ret (ws (bQ _));have r4:=r1.ret al;have q4:=q1.trans (al.mono q1.size);have xp:=r1.lt;have xn:w1.heap.size≠w.heap.size:=wt xp;clear al r1 q1;go_wp2_with fail;refine wp_region_held_drew (S:=fun w'=>w'.cell? ⟨w1.heap.size,0,none⟩=some (.string X)∧w'.cell? ⟨w1.heap.size,1,none⟩=some (.string Y)∧w'.cell? ⟨w1.heap.size,2,none⟩=some (.string Z)) (by kernel_rfl) ⟨j4.c0,j4.c1,j4.c2⟩ (fun hH=>?_);generalize (w1.alloc (.cells #[.string X,.string Y,.string Z] 117)).drew=V at j4 r4 q4 hH ⊢;refine rS [(0,some 11),(1,some 12),(2,some 13),(3,some 14),(4,some 15),(5,some 16),(6,some 17),(7,some 18),(8,some 19)] ?_
 iterate 9 refine aS ?_
 refine rE ?_;refine rS [(9,some 20),(10,some 21),(11,some 22),(12,some 23)] ?_
 iterate 4 refine aF ?_
 refine rE ?_;refine rS [(13,some 24)] ?_;refine aS ?_;refine rE ?_
 refine aC (i:=14) fun K hK=>?_
 have f0:=r4.f0;have f1:=r4.f1;have f2:=r4.f2;have g0:=r4.c0;have g1:=r4.c1;have g2:=r4.c2;go_simp;have j5:=((j4.other (M:=w.heap.size) (o:=0) xn (.string X)).other (M:=w.heap.size) (o:=1) xn (.string Y)).other (M:=w.heap.size) (o:=2) xn (.string Z);have r5:=r4.set3 X Y Z;have q5:=ae q4 (wh _) (.string X) (.string Y) (.string Z);clear hH f0 f1 f2 g0 g1 g2;refine hK.out _ _ ⟨j5.c0,j5.c1,j5.c2⟩ (fun hH=>?_);clear hK K;refine rS [(15,some 3)] ?_;refine aS ?_;refine rE ?_;refine aD ?_;go_wp2_with fail;refine bodyPost_ret (fy rfl rfl rfl r5) rfl ⟨rfl,q5⟩
theorem gG (s X Y Z T:ByteArray) (w:World)
  (CP:∀w:World,Calls prog 127 #[.string s] w (Ret w (.tuple #[jV X Y Z,.int .i64 0])))
  (hZ:(Z.toList==[])=true)
  (CT:∀w:World,Calls prog 128 #[jV X Y Z] w (Ret w (.string T))) (hT:(T.toList==s.toList)=false):
  Calls prog 238 #[.string s] w (Ret w (.tuple #[jV X Y Z,.bool false])):=by
 have r0:=JAt.new w ⟨#[]⟩ ⟨#[]⟩ ⟨#[]⟩;have q0:=(bR w).alloc (wh _) (.cells #[.string ⟨#[]⟩,.string ⟨#[]⟩,.string ⟨#[]⟩] 117);have HP:=h_ CP;have HT:=h_ CT;clear CT;clear CP;go_enter func238,ntmps238;go_wp2_with fail;refine(HP.out _).mono ?_;rintro e w1 ⟨rfl,hb⟩;have r1:=r0.ret hb;have q1:=q0.trans (hb.mono q0.size);clear hb r0 q0;have al:=((bR w1).alloc (wh _) (.cells #[.string X,.string Y,.string Z] 117)).drew;have j4:=(JAt.new w1 X Y Z).ret (ws (bQ _));have r4:=r1.ret al;have q4:=q1.trans (al.mono q1.size);have xp:=r1.lt;have xn:w1.heap.size≠w.heap.size:=wt xp;clear al r1 q1;go_wp2_with fail;refine wp_region_held_drew (S:=fun w'=>w'.cell? ⟨w1.heap.size,0,none⟩=some (.string X)∧w'.cell? ⟨w1.heap.size,1,none⟩=some (.string Y)∧w'.cell? ⟨w1.heap.size,2,none⟩=some (.string Z)) (by kernel_rfl) ⟨j4.c0,j4.c1,j4.c2⟩ (fun hH=>?_);generalize (w1.alloc (.cells #[.string X,.string Y,.string Z] 117)).drew=V at j4 r4 q4 hH ⊢;refine rS [(0,some 11),(1,some 12),(2,some 13),(3,some 14),(4,some 15),(5,some 16),(6,some 17),(7,some 18),(8,some 19),(9,some 20),(11,some 22)] ?_
 iterate 11 refine aS ?_
 refine rE ?_
 refine aC (i:=10) fun K hK=>?_
 go_simp;refine(HT.out _).mono ?_;rintro e w5 ⟨rfl,hb⟩;have j5:=j4.ret hb;have r5:=r4.ret hb;have q5:=q4.trans (hb.mono q4.size);clear hb;go_simp;clear hH;refine hK.out _ _ ⟨j5.c0,j5.c1,j5.c2⟩ (fun hH=>?_);clear hK K;refine rS [(12,some 23),(13,some 24)] ?_
 iterate 2 refine aS ?_
 refine rE ?_
 refine aC (i:=14) fun K hK=>?_
 have f0:=r5.f0;have f1:=r5.f1;have f2:=r5.f2;have g0:=r5.c0;have g1:=r5.c1;have g2:=r5.c2;go_simp;have j6:=((j5.other (M:=w.heap.size) (o:=0) xn (.string X)).other (M:=w.heap.size) (o:=1) xn (.string Y)).other (M:=w.heap.size) (o:=2) xn (.string Z);have r6:=r5.set3 X Y Z;have q6:=ae q5 (wh _) (.string X) (.string Y) (.string Z);clear hH f0 f1 f2 g0 g1 g2;refine hK.out _ _ ⟨j6.c0,j6.c1,j6.c2⟩ (fun hH=>?_);clear hK K;refine rS [(15,some 3)] ?_;refine aS ?_;refine rE ?_;refine aD ?_;go_wp2_with fail;refine bodyPost_ret (fy rfl rfl rfl r6) rfl ⟨rfl,q6⟩
theorem gF (s X Y Z T:ByteArray) (w:World)
  (CP:∀w:World,Calls prog 127 #[.string s] w (Ret w (.tuple #[jV X Y Z,.int .i64 0])))
  (hZ:(Z.toList==[])=true)
  (CT:∀w:World,Calls prog 128 #[jV X Y Z] w (Ret w (.string T))) (hT:(T.toList==s.toList)=true):
  Calls prog 238 #[.string s] w (Ret w (.tuple #[jV X Y Z,.bool true])):=by
 have r0:=JAt.new w ⟨#[]⟩ ⟨#[]⟩ ⟨#[]⟩;have q0:=(bR w).alloc (wh _) (.cells #[.string ⟨#[]⟩,.string ⟨#[]⟩,.string ⟨#[]⟩] 117);have HP:=h_ CP;have HT:=h_ CT;clear CT;clear CP;go_enter func238,ntmps238;go_wp2_with fail;refine(HP.out _).mono ?_;rintro e w1 ⟨rfl,hb⟩;have r1:=r0.ret hb;have q1:=q0.trans (hb.mono q0.size);clear hb r0 q0;have al:=((bR w1).alloc (wh _) (.cells #[.string X,.string Y,.string Z] 117)).drew;have j4:=(JAt.new w1 X Y Z).ret (ws (bQ _));have r4:=r1.ret al;have q4:=q1.trans (al.mono q1.size);have xp:=r1.lt;have xn:w1.heap.size≠w.heap.size:=wt xp;clear al r1 q1;go_wp2_with fail;refine wp_region_held_drew (S:=fun w'=>w'.cell? ⟨w1.heap.size,0,none⟩=some (.string X)∧w'.cell? ⟨w1.heap.size,1,none⟩=some (.string Y)∧w'.cell? ⟨w1.heap.size,2,none⟩=some (.string Z)) (by kernel_rfl) ⟨j4.c0,j4.c1,j4.c2⟩ (fun hH=>?_);generalize (w1.alloc (.cells #[.string X,.string Y,.string Z] 117)).drew=V at j4 r4 q4 hH ⊢;refine rS [(0,some 11),(1,some 12),(2,some 13),(3,some 14),(4,some 15),(5,some 16),(6,some 17),(7,some 18),(8,some 19),(9,some 20),(11,some 22)] ?_
 iterate 11 refine aS ?_
 refine rE ?_
 refine aC (i:=10) fun K hK=>?_
 go_simp;refine(HT.out _).mono ?_;rintro e w5 ⟨rfl,hb⟩;have j5:=j4.ret hb;have r5:=r4.ret hb;have q5:=q4.trans (hb.mono q4.size);clear hb;go_simp;clear hH;refine hK.out _ _ ⟨j5.c0,j5.c1,j5.c2⟩ (fun hH=>?_);clear hK K;refine rS [(12,some 23),(13,some 24)] ?_
 iterate 2 refine aS ?_
 refine rE ?_
 refine aC (i:=14) fun K hK=>?_
 have f0:=r5.f0;have f1:=r5.f1;have f2:=r5.f2;have g0:=r5.c0;have g1:=r5.c1;have g2:=r5.c2;go_simp;have j6:=((j5.other (M:=w.heap.size) (o:=0) xn (.string X)).other (M:=w.heap.size) (o:=1) xn (.string Y)).other (M:=w.heap.size) (o:=2) xn (.string Z);have r6:=r5.set3 X Y Z;have q6:=ae q5 (wh _) (.string X) (.string Y) (.string Z);clear hH f0 f1 f2 g0 g1 g2;refine hK.out _ _ ⟨j6.c0,j6.c1,j6.c2⟩ (fun hH=>?_);clear hK K;refine rS [(15,some 3)] ?_;refine aS ?_;refine rE ?_;refine aD ?_;go_wp2_with fail;refine bodyPost_ret (fy rfl rfl rfl r6) rfl ⟨rfl,q6⟩
theorem dU (s:ByteArray) (w:World) (hs:s.size≤10000):Calls prog 238 #[.string s] w (Ret w (uj s.data.toList)):=by
 have CP:=fun w=>fL s w hs
 have hz:=ab s;unfold nI at CP;unfold uj adr nc;obtain⟨z1,z2,z3⟩:=cu s.data.toList
 cases hp:cP s.data.toList with
 | false=>
  rw[hp,if_neg (by decide)] at CP;simp only[Bool.false_eq_true,if_false,wu];exact iT s w CP
 | true=>
  rw[hp,if_pos rfl] at CP;simp only[if_true,wo]
  have CT:=fun w=>dy (jB (aO s.data.toList)) (jB (aZ s.data.toList)) (jB (aP s.data.toList)) w (by rw[ai];omega) (by rw[ai];omega) (by rw[ai];omega)
  rw[ah,ah,ah] at CT
  cases hr:(aP s.data.toList).isEmpty with
  | false=>
   rw[wy];exact gA s _ _ _ w CP (iD hr)
  | true=>
   have hZ:((jB (aP s.data.toList)).toList==[])=true:=(by rw[wq,ah,List.isEmpty_iff.1 hr];rfl);rw[Bool.and_true]
   by_cases hT:bC (aO s.data.toList) (aZ s.data.toList) (aP s.data.toList)=s.data.toList
   ·have e1:((jB (bC (aO s.data.toList) (aZ s.data.toList) (aP s.data.toList))).toList==s.toList)=true:=by
     rw[wq,wq,ah,hT];simp
    rw[decide_eq_true hT];exact gF s _ _ _ _ w CP hZ CT e1
   ·have e1:((jB (bC (aO s.data.toList) (aZ s.data.toList) (aP s.data.toList))).toList==s.toList)=false:=by
     rw[wq,wq,ah];simpa using hT
    rw[decide_eq_false hT];exact gG s _ _ _ _ w CP hZ CT e1
theorem mH (a b X Y Z X' Y' Z':ByteArray) (p q u:Bool) (w:World)
  (CA:∀w:World,Calls prog 238 #[.string a] w (Ret w (.tuple #[jV X Y Z,.bool p]))) (CB:∀w:World,Calls prog 238 #[.string b] w (Ret w (.tuple #[jV X' Y' Z',.bool q])))
  (CL:∀w:World,Calls prog 123 #[jV X Y Z,jV X' Y' Z'] w (Ret w (.bool u))):
  Calls prog 204 #[.string a,.string b] w (Ret w (.bool u)):=by
 have HA:=h_ CA;have HB:=h_ CB;have HL:=h_ CL;have q0:=bR w;clear CA CB CL;go_enter func204,ntmps204;go_wp2_with fail;refine(HA.out _).mono ?_;rintro e w1 ⟨rfl,hb⟩;have q1:=q0.trans (hb.mono q0.size);have al:=(bR w1).alloc (wh _) (.cells #[.string X,.string Y,.string Z] 117);have x2:=JAt.new w1 X Y Z;have q2:=q1.trans (al.mono q1.size);clear hb al q1;go_wp2_with fail;refine(HB.out _).mono ?_;rintro e w3 ⟨rfl,hb⟩;have x3:=x2.ret hb;have q3:=q2.trans (hb.mono q2.size);have al:=(bR w3).alloc (wh _) (.cells #[.string X',.string Y',.string Z'] 117);have y4:=JAt.new w3 X' Y' Z';have x4:=x3.ret al;have q4:=q3.trans (al.mono q3.size);clear hb al q3 q2 x2 x3 q0;obtain⟨m,d0,d1,d2,e0,e1,e2⟩:=x4;obtain⟨n,i0,i1,i2,j0,j1,j2⟩:=y4;go_wp2_with fail;refine(HL.out _).mono ?_;rintro e w5 ⟨rfl,hb⟩;have q5:=q4.trans (hb.mono q4.size);clear hb q4 m d0 d1 d2 e0 e1 e2 n i0 i1 i2 j0 j1 j2;go_wp2_with fail;go_ret;exact⟨rfl,q5⟩
theorem qV (a b:ByteArray) (w:World) (ha:a.size≤10000) (hb:b.size≤10000):Calls prog 204 #[.string a,.string b] w (Ret w (.bool (au a.data.toList b.data.toList))):=by
 have CL:=fun w=>mc (jB (adr a.data.toList).1) (jB (adr a.data.toList).2.1) (jB (adr a.data.toList).2.2) (jB (adr b.data.toList).1) (jB (adr b.data.toList).2.1) (jB (adr b.data.toList).2.2) w
 simp only at CL
 exact mH a b _ _ _ _ _ _ _ _ _ w (fun w=>dU a w ha) (fun w=>dU b w hb) CL

theorem ma {B:Nat} {a w:World} (h:Below B a w) (q:Nat):Below B a (w.drewN q):=⟨h.os,h.tape,h.output,h.size,h.block⟩
theorem tH (s:List UInt8):(⟨s.toArray⟩:ByteArray).size=s.length:=p7 s
theorem pz (n:ByteArray) (v:Value) (g:List (List UInt8)) (w:World) (hn:n.size≤10000) (xQ:be v g w) (hg:g.length≤1000) (hz:∀x∈g,x.length≤10000):
  Calls prog 239 #[.string n,v] w (Ret w (.bool (cM n.data.toList g))):=by
 have HN:=h_ fun w=>qd n w hn
 have HW:=h_ fun (k:Nat) (hk:k<g.length) w=>qd ⟨(g[k]).toArray⟩ w (by rw[←ab];exact hz _ (List.getElem_mem hk))
 obtain⟨hv,a,cap,xJ,xK⟩:=xQ;obtain⟨O,hO⟩:=e_ (cM n.data.toList g);rw[hO];have HO:=h_ hO;have HV:=h_ hv;obtain⟨L,hL⟩:=e_ g.length;rw[hL] at xJ hg xK;have HL:=h_ hL;have ZN:=h_ (ab n);subst xJ;clear hv hO hL hz;go_enter func239,ntmps239;go_wp2_with fail;go_loopw [5] (fun i wx=>∃k:Nat,k≤L∧i=.int .i64 k∧(g.take k).all (aR 1 32)=true∧bq (g.take k)=true∧Bl w wx) (fun i _=>L-(intOf i).toNat)
 case atStart=>exact⟨0,wv _,rfl,rfl,rfl,bQ _⟩
 case round=>
  obtain⟨k,hk,rfl,xu,xo,xq⟩:=hrel;have xz:=xq.size
  by_cases hlt:k<L
  ·have xA : k < g.length := by rw [HL.out]; exact hlt
   have xV:k≤cap:=(by omega);have hV:=HV.out.ret xq;obtain⟨b,off,cp,hf,xB,hc⟩:=bJ hV (k:=k) (by rw[aq];exact xA);rw[aq,HL.out] at hf;simp only[Value.slice.injEq,true_and] at hf;obtain⟨rfl,rfl⟩:=hf
   have cell:∀(e:Nat) (he:e<g.length),wr.cell? ⟨b,off+e,none⟩=some (.string ⟨(g[e]).toArray⟩):=fun e he=>by
    have:=hc e (by rw[aq];exact he)
    have e1:(cJ g)[e]'(by rw[aq];exact he)=.string ⟨(g[e]).toArray⟩:=by simp[cJ]
    rwa [e1] at this
   have xE:=cell k xA
   have hW:=fun w=>HW.out k xA w
   have xy:(g.take (k+1))=g.take k++[g[k]]:=List.take_succ_eq_append_getElem xA
   have xr:aR 1 32 g[k]=false→O=false:=fun h=>by
    rw[←HO.out];unfold cM
    have:g.all (aR 1 32)=false:=by
     rw[←wz (k+1) g,ww,xy,ww]
     simp[h]
    rw[this];rfl
   have xF:(g.take k).contains g[k]=true→O=false:=fun h=>by
    rw[←HO.out];unfold cM
    have:bq g=false:=by
     rw[←wz (k+1) g];exact ej (by rw[xy,bk,h];simp)
    rw[this];simp
   have xx:aR 1 32 g[k]=true→(g.take (k+1)).all (aR 1 32)=true:=fun h=>by
    rw[xy,ww,xu]
    simp[h]
   have xG:(g.take k).contains g[k]=false→bq (g.take (k+1))=true:=fun h=>by
    rw[xy,bk,h,xo];rfl
   have xH:∀(e:Nat) (he:e<g.length),e<k→(g[e]==g[k])=true→(g.take k).contains g[k]=true:=fun e he hek h=>by
    rw[←beq_iff_eq.1 h];simp only[wA,wB];exact⟨e,by rw[wC];omega,by rw[wD]⟩
   obtain⟨y,hy⟩:=e_ (g[k]);rw[hy] at xE hW xr xF xx xG xH;have zy:=tH y
   have xt:aR 1 32 y=(decide (1≤y.length)&&(decide (y.length≤32)&&txP y)):=rfl
   have L2:=h_ xF;have S1:=h_ xx;have S2:=h_ xG;have CE:=h_ cell;have EL:=h_ xH;have WH:Hid (∀w,Calls prog 200 #[.string ⟨y.toArray⟩] w (Ret w (.bool (txP y)))):=h_ hW;clear xF xx xG hW xy hy xu xo hc hV cell xH
   by_cases hsz1:y.length<1
   ·have:=xr (by rw[xt,decide_eq_false (by omega)];rfl)
    subst this;have hi:(y.length:Int)<1:=(by omega);clear xr xt;go_wp2_with fail;go_ret;exact⟨rfl,xq⟩
   ·have hi : ¬((y.length : Int) < 1) := by omega
    by_cases hsz2:32<y.length
    ·have:=xr (by rw[xt,decide_eq_true (by omega),decide_eq_false (p:=y.length≤32) (by omega)];rfl)
     subst this;have xR:(32:Int)<(y.length:Int):=(by omega);clear xr xt;go_wp2_with fail;go_ret;exact⟨rfl,xq⟩
    ·have xR : ¬((32 : Int) < (y.length : Int)) := by omega
     rw[decide_eq_true (p:=1≤y.length) (by omega),decide_eq_true (p:=y.length≤32) (by omega),wo,wo] at xt;rw[xt] at xr S1;obtain⟨P1,xL⟩:=e_ (txP y);rw[xL] at xr S1 WH;clear xt xL
     cases P1 with
     | false=>
      have:=xr (by first | exact rfl | exact trivial);subst this;clear xr;go_wp2_with fail;refine(WH.out _).mono ?_;rintro e w1 ⟨rfl,hb⟩;go_wp2_with fail;go_ret;exact⟨rfl,xq.trans (hb.mono xz)⟩
     | true=>
      clear xr;go_wp2_with fail;refine(WH.out _).mono ?_;rintro e w1 ⟨rfl,hb⟩;have b1:=xq.trans (hb.mono xz);have xM:=((ag hb).1 _ _ xB).trans xE
      have xS:=h_ fun (e:Nat) (he:e<g.length)=>((ag hb).1 b (off+e) xB).trans (CE.out e he)
      have xx:=hb.size;clear hb xE xq CE;go_wp2_with fail;go_loopw [6] (fun i wx=>∃e:Nat,e≤k∧i=.int .i64 e∧(∀j (hj:j<g.length),j<e→(g[j]==y)=false)∧Bl w1 wx) (fun i _=>k-(intOf i).toNat)
      case atStart=>exact⟨0,wv _,rfl,(fun j hj h=>by omega),bQ _⟩
      case round=>
       obtain⟨e,he,rfl,xC,xD⟩:=hrel;have xW:=((ag xD).1 _ _ (wE xB xx)).trans xM;have bx:=b1.trans (xD.mono b1.size)
       by_cases hek:e<k
       ·have xT:=((ag xD).1 b (off+e) (wE xB xx)).trans (xS.out e (by omega))
        have xw:=EL.out e (by omega) hek;have xX:e<L:=(by omega);obtain⟨z,xI⟩:=e_ (g[e]'(by omega));rw[xI] at xT xw;obtain⟨x,hx⟩:=e_ ((z==y));rw[hx] at xw;have HH:=h_ xw;have HZ:=h_ xI;have HX:=h_ hx;have xU:=h_ xC;clear xw xI xC
        cases x with
        | true=>
         have:=L2.out (HH.out (by first | exact rfl | exact trivial));subst this;go_wp2_with fail;go_quiet (fail)
         all_goals go_wp2_with fail
         go_ret;exact⟨rfl,ma bx _⟩
        | false=>
         go_wp2_with fail;go_quiet (fail)
         all_goals go_wp2_with fail
         go_roundw
         case rel=>
          refine⟨e+1,by omega,by go_num,fun j hj xY=>?_,ma xD _⟩
          by_cases hje2:j<e
          ·exact xU.out j hj hje2
          ·obtain rfl : j = e := by omega
           rw[HZ.out];exact HX.out
         case measure=>simp[intOf];omega
       ·obtain rfl : e = k := by omega
        have xN:(g.take e).contains y=false:=by
         cases hq:(g.take e).contains y with
         | false=>rfl
         | true=>
          simp only[wA,wB] at hq;obtain⟨j,hj,xO⟩:=hq;rw[wC] at hj;rw[wD] at xO;have:=xC j (by omega) (by omega);rw[xO] at this
          simp at this
        have HC:=h_ xN;clear xC xN;go_wp2_with fail;go_roundw
        case rel=>exact⟨e+1,by omega,by go_num,S1.out (by first | exact rfl | exact trivial),S2.out HC.out,bx⟩
        case measure=>simp[intOf];omega
  ·have hO:=HO.out
   have e:g.take k=g:=List.take_of_length_le (by rw[HL.out];omega)
   rw[e] at xu xo;unfold cM at hO;rw[xu,xo,HL.out,wo,wo] at hO
   have xt:aR 0 64 n.data.toList=(decide (0≤n.data.toList.length)&&(decide (n.data.toList.length≤64)&&txP n.data.toList)):=rfl
   rw[xt,ZN.out,decide_eq_true (wv _),wo] at hO;have NH:=HN.out;clear xt
   by_cases h64:n.size≤64
   ·rw[decide_eq_true h64,wo] at hO
    have xP:(n.size:Int)≤64:=(by omega);obtain⟨Q,hQ⟩:=e_ (txP n.data.toList);rw[hQ] at NH hO;have N1:=h_ NH;clear NH hQ xu xo e HO HN HW HV
    cases Q with
    | false=>
     have:O=false:=(by rw[←hO];rfl);subst this;clear hO;go_wp2_with fail;refine(N1.out _).mono ?_;rintro e w1 ⟨rfl,hb⟩;go_wp2_with fail;go_ret;exact⟨rfl,xq.trans (hb.mono xz)⟩
    | true=>
     rw[wo] at hO;have hq:decide ((L:Int)≤4)=O:=(by rw[←hO];exact decide_eq_decide.2 (by omega));clear hO;go_wp2_with fail;refine(N1.out _).mono ?_;rintro e w1 ⟨rfl,hb⟩;go_wp2_with fail;go_ret;exact⟨by first | rfl | simp[hq],xq.trans (hb.mono xz)⟩
   ·rw[decide_eq_false h64] at hO
    have:O=false:=(by rw[←hO];rfl);subst this;have xP:¬((n.size:Int)≤64):=(by omega);clear hO NH xu xo e HO HN HW HV;go_wp2_with fail;go_ret;exact⟨rfl,xq⟩

theorem iV (j n X Y Z:ByteArray) (ga:Option Addr) (L cap:Nat) (a b c d k ok W S:Bool) (w:World) (hn:(n.toList==[])=false)
  (CA:∀w:World,Calls prog 238 #[.string j] w (Ret w (.tuple #[jV X Y Z,.bool ok])))
  (CW:∀w':World,Bl w w'→Calls prog 239 #[.string n,.slice ga L cap] w' (Ret w' (.bool W)))
  (CS:∀w:World,Calls prog 240 #[.agg #[.bool a,.bool b,.bool c,.bool d]] w (Ret w (.bool S))):
  Calls prog 203 #[.agg #[.string j,.string n,.slice ga L cap,.bool a,.bool b,.bool c,.bool d,.bool k]] w (Ret w (.bool (ok&&(W&&(S&&(k||false)))))):=by
 have x0:=It8.new w (.string j) (.string n) (.slice ga L cap) (.bool a) (.bool b) (.bool c) (.bool d) (.bool k) 99;have q0:=(bR w).alloc (wh _) (.cells #[.string j,.string n,.slice ga L cap,.bool a,.bool b,.bool c,.bool d,.bool k] 99);have HA:=h_ CA;have HW:=h_ CW;have HS:=h_ CS;have EQ:=cZ;have EG:=fK;clear CA CW CS
 cases ok with
 | false=>
  go_enter func203,ntmps203;go_wp2_with fail;refine(HA.out _).mono ?_;rintro e w1 ⟨rfl,hb⟩;have al:=(bR w1).alloc (wh _) (.cells #[.string X,.string Y,.string Z] 117);have x2:=(x0.ret hb).ret al;have q1:=q0.trans (hb.mono q0.size);have q2:=q1.trans (al.mono q1.size);clear hb al q1 x0;obtain⟨l,c0,c1,c2,c3,c4,c5,c6,c7,-,-,-,-,-,-,-,-⟩:=id x2;go_wp2_with fail;go_ret;exact⟨by first | rfl | simp,q2⟩
 | true=>
  cases W with
  | false=>
   go_enter func203,ntmps203;go_wp2_with fail;refine(HA.out _).mono ?_;rintro e w1 ⟨rfl,hb⟩;have al:=(bR w1).alloc (wh _) (.cells #[.string X,.string Y,.string Z] 117);have x2:=(x0.ret hb).ret al;have q1:=q0.trans (hb.mono q0.size);have q2:=q1.trans (al.mono q1.size);clear hb al q1 x0;obtain⟨l,c0,c1,c2,c3,c4,c5,c6,c7,-,-,-,-,-,-,-,-⟩:=id x2;go_wp2_with fail;refine(HW.out _ q2).mono ?_;rintro e w3 ⟨rfl,hb⟩;have x3:=x2.ret hb;have q3:=q2.trans (hb.mono q2.size);clear l c0 c1 c2 c3 c4 c5 c6 c7;clear hb x2;obtain⟨l,c0,c1,c2,c3,c4,c5,c6,c7,-,-,-,-,-,-,-,-⟩:=id x3;go_wp2_with fail;go_ret;exact⟨by first | rfl | simp,q3⟩
  | true=>
   cases S with
   | false=>
    go_enter func203,ntmps203;go_wp2_with fail;refine(HA.out _).mono ?_;rintro e w1 ⟨rfl,hb⟩;have al:=(bR w1).alloc (wh _) (.cells #[.string X,.string Y,.string Z] 117);have x2:=(x0.ret hb).ret al;have q1:=q0.trans (hb.mono q0.size);have q2:=q1.trans (al.mono q1.size);clear hb al q1 x0;obtain⟨l,c0,c1,c2,c3,c4,c5,c6,c7,-,-,-,-,-,-,-,-⟩:=id x2;go_wp2_with fail;refine(HW.out _ q2).mono ?_;rintro e w3 ⟨rfl,hb⟩;have x3:=x2.ret hb;have q3:=q2.trans (hb.mono q2.size);clear l c0 c1 c2 c3 c4 c5 c6 c7;clear hb x2;obtain⟨l,c0,c1,c2,c3,c4,c5,c6,c7,-,-,-,-,-,-,-,-⟩:=id x3;go_wp2_with fail;refine(HS.out _).mono ?_;rintro e w4 ⟨rfl,hb⟩;have x4:=x3.ret hb;have q4:=q3.trans (hb.mono q3.size);clear l c0 c1 c2 c3 c4 c5 c6 c7;clear hb x3;obtain⟨l,c0,c1,c2,c3,c4,c5,c6,c7,-,-,-,-,-,-,-,-⟩:=id x4;go_wp2_with fail;go_ret;exact⟨by first | rfl | simp,q4⟩
   | true=>
    cases k with
    | true=>
     go_enter func203,ntmps203;go_wp2_with fail;refine(HA.out _).mono ?_;rintro e w1 ⟨rfl,hb⟩;have al:=(bR w1).alloc (wh _) (.cells #[.string X,.string Y,.string Z] 117);have x2:=(x0.ret hb).ret al;have q1:=q0.trans (hb.mono q0.size);have q2:=q1.trans (al.mono q1.size);clear hb al q1 x0;obtain⟨l,c0,c1,c2,c3,c4,c5,c6,c7,-,-,-,-,-,-,-,-⟩:=id x2;go_wp2_with fail;refine(HW.out _ q2).mono ?_;rintro e w3 ⟨rfl,hb⟩;have x3:=x2.ret hb;have q3:=q2.trans (hb.mono q2.size);clear l c0 c1 c2 c3 c4 c5 c6 c7;clear hb x2;obtain⟨l,c0,c1,c2,c3,c4,c5,c6,c7,-,-,-,-,-,-,-,-⟩:=id x3;go_wp2_with fail;refine(HS.out _).mono ?_;rintro e w4 ⟨rfl,hb⟩;have x4:=x3.ret hb;have q4:=q3.trans (hb.mono q3.size);clear l c0 c1 c2 c3 c4 c5 c6 c7;clear hb x3;obtain⟨l,c0,c1,c2,c3,c4,c5,c6,c7,-,-,-,-,-,-,-,-⟩:=id x4;go_wp2_with fail;go_ret;exact⟨by first | rfl | simp,q4⟩
    | false=>
     go_enter func203,ntmps203;go_wp2_with fail;refine(HA.out _).mono ?_;rintro e w1 ⟨rfl,hb⟩;have al:=(bR w1).alloc (wh _) (.cells #[.string X,.string Y,.string Z] 117);have x2:=(x0.ret hb).ret al;have q1:=q0.trans (hb.mono q0.size);have q2:=q1.trans (al.mono q1.size);clear hb al q1 x0;obtain⟨l,c0,c1,c2,c3,c4,c5,c6,c7,-,-,-,-,-,-,-,-⟩:=id x2;go_wp2_with fail;refine(HW.out _ q2).mono ?_;rintro e w3 ⟨rfl,hb⟩;have x3:=x2.ret hb;have q3:=q2.trans (hb.mono q2.size);clear l c0 c1 c2 c3 c4 c5 c6 c7;clear hb x2;obtain⟨l,c0,c1,c2,c3,c4,c5,c6,c7,-,-,-,-,-,-,-,-⟩:=id x3;go_wp2_with fail;refine(HS.out _).mono ?_;rintro e w4 ⟨rfl,hb⟩;have x4:=x3.ret hb;have q4:=q3.trans (hb.mono q3.size);clear l c0 c1 c2 c3 c4 c5 c6 c7;clear hb x3;obtain⟨l,c0,c1,c2,c3,c4,c5,c6,c7,-,-,-,-,-,-,-,-⟩:=id x4;go_wp2_with fail;go_ret;exact⟨by first | rfl | simp,q4⟩
theorem jv (j n X Y Z:ByteArray) (ga:Option Addr) (L cap:Nat) (a b c d k ok W S:Bool) (w:World) (hn:(n.toList==[])=true) (hg:((L:Int)==0)=false)
  (CA:∀w:World,Calls prog 238 #[.string j] w (Ret w (.tuple #[jV X Y Z,.bool ok])))
  (CW:∀w':World,Bl w w'→Calls prog 239 #[.string n,.slice ga L cap] w' (Ret w' (.bool W)))
  (CS:∀w:World,Calls prog 240 #[.agg #[.bool a,.bool b,.bool c,.bool d]] w (Ret w (.bool S))):
  Calls prog 203 #[.agg #[.string j,.string n,.slice ga L cap,.bool a,.bool b,.bool c,.bool d,.bool k]] w (Ret w (.bool (ok&&(W&&(S&&(k||false)))))):=by
 have x0:=It8.new w (.string j) (.string n) (.slice ga L cap) (.bool a) (.bool b) (.bool c) (.bool d) (.bool k) 99;have q0:=(bR w).alloc (wh _) (.cells #[.string j,.string n,.slice ga L cap,.bool a,.bool b,.bool c,.bool d,.bool k] 99);have HA:=h_ CA;have HW:=h_ CW;have HS:=h_ CS;have EQ:=cZ;have EG:=fK;clear CA CW CS
 cases ok with
 | false=>
  go_enter func203,ntmps203;go_wp2_with fail;refine(HA.out _).mono ?_;rintro e w1 ⟨rfl,hb⟩;have al:=(bR w1).alloc (wh _) (.cells #[.string X,.string Y,.string Z] 117);have x2:=(x0.ret hb).ret al;have q1:=q0.trans (hb.mono q0.size);have q2:=q1.trans (al.mono q1.size);clear hb al q1 x0;obtain⟨l,c0,c1,c2,c3,c4,c5,c6,c7,-,-,-,-,-,-,-,-⟩:=id x2;go_wp2_with fail;go_ret;exact⟨by first | rfl | simp,q2⟩
 | true=>
  cases W with
  | false=>
   go_enter func203,ntmps203;go_wp2_with fail;refine(HA.out _).mono ?_;rintro e w1 ⟨rfl,hb⟩;have al:=(bR w1).alloc (wh _) (.cells #[.string X,.string Y,.string Z] 117);have x2:=(x0.ret hb).ret al;have q1:=q0.trans (hb.mono q0.size);have q2:=q1.trans (al.mono q1.size);clear hb al q1 x0;obtain⟨l,c0,c1,c2,c3,c4,c5,c6,c7,-,-,-,-,-,-,-,-⟩:=id x2;go_wp2_with fail;refine(HW.out _ q2).mono ?_;rintro e w3 ⟨rfl,hb⟩;have x3:=x2.ret hb;have q3:=q2.trans (hb.mono q2.size);clear l c0 c1 c2 c3 c4 c5 c6 c7;clear hb x2;obtain⟨l,c0,c1,c2,c3,c4,c5,c6,c7,-,-,-,-,-,-,-,-⟩:=id x3;go_wp2_with fail;go_ret;exact⟨by first | rfl | simp,q3⟩
  | true=>
   cases S with
   | false=>
    go_enter func203,ntmps203;go_wp2_with fail;refine(HA.out _).mono ?_;rintro e w1 ⟨rfl,hb⟩;have al:=(bR w1).alloc (wh _) (.cells #[.string X,.string Y,.string Z] 117);have x2:=(x0.ret hb).ret al;have q1:=q0.trans (hb.mono q0.size);have q2:=q1.trans (al.mono q1.size);clear hb al q1 x0;obtain⟨l,c0,c1,c2,c3,c4,c5,c6,c7,-,-,-,-,-,-,-,-⟩:=id x2;go_wp2_with fail;refine(HW.out _ q2).mono ?_;rintro e w3 ⟨rfl,hb⟩;have x3:=x2.ret hb;have q3:=q2.trans (hb.mono q2.size);clear l c0 c1 c2 c3 c4 c5 c6 c7;clear hb x2;obtain⟨l,c0,c1,c2,c3,c4,c5,c6,c7,-,-,-,-,-,-,-,-⟩:=id x3;go_wp2_with fail;refine(HS.out _).mono ?_;rintro e w4 ⟨rfl,hb⟩;have x4:=x3.ret hb;have q4:=q3.trans (hb.mono q3.size);clear l c0 c1 c2 c3 c4 c5 c6 c7;clear hb x3;obtain⟨l,c0,c1,c2,c3,c4,c5,c6,c7,-,-,-,-,-,-,-,-⟩:=id x4;go_wp2_with fail;go_ret;exact⟨by first | rfl | simp,q4⟩
   | true=>
    cases k with
    | true=>
     go_enter func203,ntmps203;go_wp2_with fail;refine(HA.out _).mono ?_;rintro e w1 ⟨rfl,hb⟩;have al:=(bR w1).alloc (wh _) (.cells #[.string X,.string Y,.string Z] 117);have x2:=(x0.ret hb).ret al;have q1:=q0.trans (hb.mono q0.size);have q2:=q1.trans (al.mono q1.size);clear hb al q1 x0;obtain⟨l,c0,c1,c2,c3,c4,c5,c6,c7,-,-,-,-,-,-,-,-⟩:=id x2;go_wp2_with fail;refine(HW.out _ q2).mono ?_;rintro e w3 ⟨rfl,hb⟩;have x3:=x2.ret hb;have q3:=q2.trans (hb.mono q2.size);clear l c0 c1 c2 c3 c4 c5 c6 c7;clear hb x2;obtain⟨l,c0,c1,c2,c3,c4,c5,c6,c7,-,-,-,-,-,-,-,-⟩:=id x3;go_wp2_with fail;refine(HS.out _).mono ?_;rintro e w4 ⟨rfl,hb⟩;have x4:=x3.ret hb;have q4:=q3.trans (hb.mono q3.size);clear l c0 c1 c2 c3 c4 c5 c6 c7;clear hb x3;obtain⟨l,c0,c1,c2,c3,c4,c5,c6,c7,-,-,-,-,-,-,-,-⟩:=id x4;go_wp2_with fail;go_ret;exact⟨by first | rfl | simp,q4⟩
    | false=>
     go_enter func203,ntmps203;go_wp2_with fail;refine(HA.out _).mono ?_;rintro e w1 ⟨rfl,hb⟩;have al:=(bR w1).alloc (wh _) (.cells #[.string X,.string Y,.string Z] 117);have x2:=(x0.ret hb).ret al;have q1:=q0.trans (hb.mono q0.size);have q2:=q1.trans (al.mono q1.size);clear hb al q1 x0;obtain⟨l,c0,c1,c2,c3,c4,c5,c6,c7,-,-,-,-,-,-,-,-⟩:=id x2;go_wp2_with fail;refine(HW.out _ q2).mono ?_;rintro e w3 ⟨rfl,hb⟩;have x3:=x2.ret hb;have q3:=q2.trans (hb.mono q2.size);clear l c0 c1 c2 c3 c4 c5 c6 c7;clear hb x2;obtain⟨l,c0,c1,c2,c3,c4,c5,c6,c7,-,-,-,-,-,-,-,-⟩:=id x3;go_wp2_with fail;refine(HS.out _).mono ?_;rintro e w4 ⟨rfl,hb⟩;have x4:=x3.ret hb;have q4:=q3.trans (hb.mono q3.size);clear l c0 c1 c2 c3 c4 c5 c6 c7;clear hb x3;obtain⟨l,c0,c1,c2,c3,c4,c5,c6,c7,-,-,-,-,-,-,-,-⟩:=id x4;go_wp2_with fail;go_ret;exact⟨by first | rfl | simp,q4⟩
theorem iW (j n X Y Z:ByteArray) (ga:Option Addr) (L cap:Nat) (a b c d k ok W S sE:Bool) (w:World) (hn:(n.toList==[])=true) (hg:((L:Int)==0)=true) (hs:decide ((a,b,c,d)=(false,false,false,true))=sE)
  (CA:∀w:World,Calls prog 238 #[.string j] w (Ret w (.tuple #[jV X Y Z,.bool ok])))
  (CW:∀w':World,Bl w w'→Calls prog 239 #[.string n,.slice ga L cap] w' (Ret w' (.bool W)))
  (CS:∀w:World,Calls prog 240 #[.agg #[.bool a,.bool b,.bool c,.bool d]] w (Ret w (.bool S))):
  Calls prog 203 #[.agg #[.string j,.string n,.slice ga L cap,.bool a,.bool b,.bool c,.bool d,.bool k]] w (Ret w (.bool (ok&&(W&&(S&&(k||sE)))))):=by
 have x0:=It8.new w (.string j) (.string n) (.slice ga L cap) (.bool a) (.bool b) (.bool c) (.bool d) (.bool k) 99;have q0:=(bR w).alloc (wh _) (.cells #[.string j,.string n,.slice ga L cap,.bool a,.bool b,.bool c,.bool d,.bool k] 99);have HA:=h_ CA;have HW:=h_ CW;have HS:=h_ CS;have EQ:=cZ;have EG:=fK;clear CA CW CS;subst hs
 cases ok with
 | false=>
  go_enter func203,ntmps203;go_wp2_with fail;refine(HA.out _).mono ?_;rintro e w1 ⟨rfl,hb⟩;have al:=(bR w1).alloc (wh _) (.cells #[.string X,.string Y,.string Z] 117);have x2:=(x0.ret hb).ret al;have q1:=q0.trans (hb.mono q0.size);have q2:=q1.trans (al.mono q1.size);clear hb al q1 x0;obtain⟨l,c0,c1,c2,c3,c4,c5,c6,c7,-,-,-,-,-,-,-,-⟩:=id x2;go_wp2_with fail;go_ret;exact⟨by first | rfl | simp,q2⟩
 | true=>
  cases W with
  | false=>
   go_enter func203,ntmps203;go_wp2_with fail;refine(HA.out _).mono ?_;rintro e w1 ⟨rfl,hb⟩;have al:=(bR w1).alloc (wh _) (.cells #[.string X,.string Y,.string Z] 117);have x2:=(x0.ret hb).ret al;have q1:=q0.trans (hb.mono q0.size);have q2:=q1.trans (al.mono q1.size);clear hb al q1 x0;obtain⟨l,c0,c1,c2,c3,c4,c5,c6,c7,-,-,-,-,-,-,-,-⟩:=id x2;go_wp2_with fail;refine(HW.out _ q2).mono ?_;rintro e w3 ⟨rfl,hb⟩;have x3:=x2.ret hb;have q3:=q2.trans (hb.mono q2.size);clear l c0 c1 c2 c3 c4 c5 c6 c7;clear hb x2;obtain⟨l,c0,c1,c2,c3,c4,c5,c6,c7,-,-,-,-,-,-,-,-⟩:=id x3;go_wp2_with fail;go_ret;exact⟨by first | rfl | simp,q3⟩
  | true=>
   cases S with
   | false=>
    go_enter func203,ntmps203;go_wp2_with fail;refine(HA.out _).mono ?_;rintro e w1 ⟨rfl,hb⟩;have al:=(bR w1).alloc (wh _) (.cells #[.string X,.string Y,.string Z] 117);have x2:=(x0.ret hb).ret al;have q1:=q0.trans (hb.mono q0.size);have q2:=q1.trans (al.mono q1.size);clear hb al q1 x0;obtain⟨l,c0,c1,c2,c3,c4,c5,c6,c7,-,-,-,-,-,-,-,-⟩:=id x2;go_wp2_with fail;refine(HW.out _ q2).mono ?_;rintro e w3 ⟨rfl,hb⟩;have x3:=x2.ret hb;have q3:=q2.trans (hb.mono q2.size);clear l c0 c1 c2 c3 c4 c5 c6 c7;clear hb x2;obtain⟨l,c0,c1,c2,c3,c4,c5,c6,c7,-,-,-,-,-,-,-,-⟩:=id x3;go_wp2_with fail;refine(HS.out _).mono ?_;rintro e w4 ⟨rfl,hb⟩;have x4:=x3.ret hb;have q4:=q3.trans (hb.mono q3.size);clear l c0 c1 c2 c3 c4 c5 c6 c7;clear hb x3;obtain⟨l,c0,c1,c2,c3,c4,c5,c6,c7,-,-,-,-,-,-,-,-⟩:=id x4;go_wp2_with fail;go_ret;exact⟨by first | rfl | simp,q4⟩
   | true=>
    cases k with
    | true=>
     go_enter func203,ntmps203;go_wp2_with fail;refine(HA.out _).mono ?_;rintro e w1 ⟨rfl,hb⟩;have al:=(bR w1).alloc (wh _) (.cells #[.string X,.string Y,.string Z] 117);have x2:=(x0.ret hb).ret al;have q1:=q0.trans (hb.mono q0.size);have q2:=q1.trans (al.mono q1.size);clear hb al q1 x0;obtain⟨l,c0,c1,c2,c3,c4,c5,c6,c7,-,-,-,-,-,-,-,-⟩:=id x2;go_wp2_with fail;refine(HW.out _ q2).mono ?_;rintro e w3 ⟨rfl,hb⟩;have x3:=x2.ret hb;have q3:=q2.trans (hb.mono q2.size);clear l c0 c1 c2 c3 c4 c5 c6 c7;clear hb x2;obtain⟨l,c0,c1,c2,c3,c4,c5,c6,c7,-,-,-,-,-,-,-,-⟩:=id x3;go_wp2_with fail;refine(HS.out _).mono ?_;rintro e w4 ⟨rfl,hb⟩;have x4:=x3.ret hb;have q4:=q3.trans (hb.mono q3.size);clear l c0 c1 c2 c3 c4 c5 c6 c7;clear hb x3;obtain⟨l,c0,c1,c2,c3,c4,c5,c6,c7,-,-,-,-,-,-,-,-⟩:=id x4;go_wp2_with fail;go_ret;exact⟨by first | rfl | simp,q4⟩
    | false=>
     go_enter func203,ntmps203;go_wp2_with fail;refine(HA.out _).mono ?_;rintro e w1 ⟨rfl,hb⟩;have al:=(bR w1).alloc (wh _) (.cells #[.string X,.string Y,.string Z] 117);have x2:=(x0.ret hb).ret al;have q1:=q0.trans (hb.mono q0.size);have q2:=q1.trans (al.mono q1.size);clear hb al q1 x0;obtain⟨l,c0,c1,c2,c3,c4,c5,c6,c7,-,-,-,-,-,-,-,-⟩:=id x2;go_wp2_with fail;refine(HW.out _ q2).mono ?_;rintro e w3 ⟨rfl,hb⟩;have x3:=x2.ret hb;have q3:=q2.trans (hb.mono q2.size);clear l c0 c1 c2 c3 c4 c5 c6 c7;clear hb x2;obtain⟨l,c0,c1,c2,c3,c4,c5,c6,c7,-,-,-,-,-,-,-,-⟩:=id x3;go_wp2_with fail;refine(HS.out _).mono ?_;rintro e w4 ⟨rfl,hb⟩;have x4:=x3.ret hb;have q4:=q3.trans (hb.mono q3.size);clear l c0 c1 c2 c3 c4 c5 c6 c7;clear hb x3;obtain⟨l,c0,c1,c2,c3,c4,c5,c6,c7,-,-,-,-,-,-,-,-⟩:=id x4;go_wp2_with fail;go_ret;exact⟨by first | rfl | simp,q4⟩
theorem oo (a b c d:Bool) (w:World):Calls prog 240 #[.agg #[.bool a,.bool b,.bool c,.bool d]] w (Ret w (.bool (fT (a,b,c,d)))):=by
 have:=oY a b c d w
 have e:(!(a&&b||c&&d))=fT (a,b,c,d):=by
  cases a <;> cases b <;> cases c <;> cases d <;> rfl
 rwa [e] at this
theorem lh (p:Im) (w:World) (hv:be (gvI p) p.1.g w) (zj:p.1.j.length≤10000) (zn:p.1.n.length≤10000) (zg:p.1.g.length≤1000) (zx:∀x∈p.1.g,x.length≤10000):
  Calls prog 203 #[itA p] w (Ret w (.bool (di p.1))):=by
 obtain⟨⟨j,n,g,⟨a,b,c,d⟩,k⟩,ga,cap⟩:=p
 simp only at hv zj zn zg zx ⊢
 have CA:=fun w=>dU ⟨j.toArray⟩ w (by rw[←ab];exact zj)
 have CW:=fun (w':World) (hb:Bl w w')=>pz ⟨n.toArray⟩ (.slice ga g.length cap) g w' (by rw[←ab];exact zn) (hv.ret hb) zg zx
 have CS:=oo a b c d
 have hI:di (j,n,g,(a,b,c,d),k)=(nc j&&(cM n g&&(fT (a,b,c,d)&&(k||(n.isEmpty&&(g.isEmpty&&decide ((a,b,c,d)=(false,false,false,true)))))))):=rfl
 rw[hI];unfold uj at CA
 by_cases h1:n=[]
 ·subst h1
  by_cases h2:g=[]
  ·subst h2
   exact iW ⟨j.toArray⟩ (jB []) _ _ _ ga 0 cap a b c d k _ _ _ _ w (by rw[wq];rfl) rfl rfl CA CW CS
  ·have e : g.isEmpty = false := by cases g with
    | nil=>exact absurd rfl h2
    | cons=>rfl
   rw[e,wu,wy]
   have hl:g.length≠0:=fun h=>h2 (List.eq_nil_of_length_eq_zero h)
   exact jv ⟨j.toArray⟩ (jB []) _ _ _ ga g.length cap a b c d k _ _ _ w (by rw[wq];rfl) (beq_eq_false_iff_ne.2 (by omega)) CA CW CS
 ·have e : n.isEmpty = false := by cases n with
   | nil=>exact absurd rfl h1
   | cons=>rfl
  rw[e,wu];exact iV _ _ _ _ _ ga _ cap a b c d k _ _ _ w (iD e) CA CW CS
end Go.Proofs.YtjgeiieiinmdnaaGreatDoor
