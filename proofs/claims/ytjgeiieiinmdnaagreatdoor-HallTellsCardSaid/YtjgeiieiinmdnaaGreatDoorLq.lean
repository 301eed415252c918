/- DcA, DcB, DcC, DcD, DcE: put together by mergetpl.py. -/
import Derived.Test.YtjgeiieiinmdnaaGreatDoorLc
import Derived.Test.YtjgeiieiinmdnaaGreatDoorLa
import Derived.Test.YtjgeiieiinmdnaaGreatDoorLp
import Derived.Test.YtjgeiieiinmdnaaGreatDoorLh
open Go.Proofs.Tryz
open Bool renaming true_and→wB,and_assoc→wG,and_comm→wK
open Go.Lib renaming toList_data→wq
open Go.RowKit.Below renaming drew→wA
open Go.Value.slice renaming injEq→wy
open Go.World renaming setCells→wv,ownsRow_nil→wD
open List renaming getElem?_eq_getElem→ws,append_nil→ww,take_of_length_le→wz,mem_of_getElem?→wC,length_take→wE,getElem_mem→wF,mem_singleton→wH,length_append→wI,getElem?_eq_none→wM,length_map→wP,getElem?_toArray→wQ,getElem?_cons_succ→wR,getElem?_cons_zero→wS,mem_of_find?_eq_some→wU
open Nat renaming zero_le→wt,le_of_ble_eq_true→wu,lt_or_ge→wL
open Option renaming getD_some→wO
open Option.some renaming inj→wN,injEq→wT
namespace Go.Proofs.YtjgeiieiinmdnaaGreatDoor
set_option maxHeartbeats 4000000
set_option maxRecDepth 100000
open Go.RowKit Go.Lib

theorem iH (s X Y Z T:ByteArray) (w:World)
  (CP:∀w:World,Calls prog 127 #[.string s] w (Ret w (.tuple #[jV X Y Z,.int .i64 190])))
  (CW:∀w:World,Calls prog 128 #[jV X Y Z] w (Ret w (.string T))):
  Calls prog 121 #[.string s] w (Ret w (.tuple #[jV X Y Z,.bool false])):=by
 have CP:=h_ CP;have CW:=h_ CW;obtain⟨W0,hW,y0,bs⟩:=Sx.start1 w [.string ⟨#[]⟩,.string ⟨#[]⟩,.string ⟨#[]⟩] 117;have HW:=h_ hW;clear hW;have q:=bs.q;go_enter func121,ntmps121;go_wp2_with fail;rw[HW.out];refine(CP.out W0).mono ?_;rintro e w1 ⟨rfl,hb⟩;replace bs:=bs.ret hb;replace q:=bs.q;clear hb;go_upto_region 2 with fail;obtain⟨w2,hw2,y2,al,bs⟩:=bs.alloc (w1.heap.size) rfl [.string X,.string Y,.string Z] 117;clear al;replace q:=bs.q;rw[hw2];replace bs:=bs.ret (wA (bQ _));replace q:=bs.q
 have y3:w2.drew.heap.size=w2.heap.size:=rfl
 refine wp_region_held_drew (S:=fun w'=>w'.cell? ⟨w1.heap.size,0,none⟩=some (.string X)∧w'.cell? ⟨w1.heap.size,1,none⟩=some (.string Y)∧w'.cell? ⟨w1.heap.size,2,none⟩=some (.string Z)) (by kernel_rfl) ⟨bs.at 1 0,bs.at 1 1,bs.at 1 2⟩ (fun hH=>?_);generalize w2.drew=w3 at bs q y3 hH ⊢;refine rS [(0,some 11),(1,some 12),(2,some 13),(3,some 14)] ?_
 iterate 4 refine aS ?_
 refine rE ?_;refine rS [(4,some 15),(5,some 16),(6,some 17),(7,some 18)] ?_
 iterate 4 refine aF ?_
 refine rE ?_;refine rS [(8,some 19)] ?_;refine aS ?_;refine rE ?_
 refine aC (i:=9) fun K hK=>?_
 have c_z0:=bs.b3 0;have f_z0:=bs.g3 0;go_simp;clear c_z0 f_z0;obtain⟨w4,hw4,y4,bs⟩:=bs.sets 0 0 [.string X,.string Y,.string Z] rfl (wu rfl);replace q:=bs.q;simp only[wv,Nat.reduceAdd] at hw4;rw[hw4];clear hH;refine hK.out _ _ ⟨bs.at 1 0,bs.at 1 1,bs.at 1 2⟩ (fun hH=>?_);clear hK K;refine rS [(10,some 3)] ?_;refine aS ?_;refine rE ?_;refine aD ?_;clear hH;go_wp2_with fail;refine bodyPost_ret (gE rfl rfl rfl (bs.box 0 rfl)) rfl ⟨rfl,q⟩
theorem iN (s X Y Z T:ByteArray) (w:World) (hT:(T.toList==s.toList)=true)
  (CP:∀w:World,Calls prog 127 #[.string s] w (Ret w (.tuple #[jV X Y Z,.int .i64 0])))
  (CW:∀w:World,Calls prog 128 #[jV X Y Z] w (Ret w (.string T))):
  Calls prog 121 #[.string s] w (Ret w (.tuple #[jV X Y Z,.bool true])):=by
 have CP:=h_ CP;have CW:=h_ CW;obtain⟨W0,hW,y0,bs⟩:=Sx.start1 w [.string ⟨#[]⟩,.string ⟨#[]⟩,.string ⟨#[]⟩] 117;have HW:=h_ hW;clear hW;have q:=bs.q;go_enter func121,ntmps121;go_wp2_with fail;rw[HW.out];refine(CP.out W0).mono ?_;rintro e w1 ⟨rfl,hb⟩;replace bs:=bs.ret hb;replace q:=bs.q;clear hb;go_upto_region 2 with fail;obtain⟨w2,hw2,y2,al,bs⟩:=bs.alloc (w1.heap.size) rfl [.string X,.string Y,.string Z] 117;clear al;replace q:=bs.q;rw[hw2];replace bs:=bs.ret (wA (bQ _));replace q:=bs.q
 have y3:w2.drew.heap.size=w2.heap.size:=rfl
 refine wp_region_held_drew (S:=fun w'=>w'.cell? ⟨w1.heap.size,0,none⟩=some (.string X)∧w'.cell? ⟨w1.heap.size,1,none⟩=some (.string Y)∧w'.cell? ⟨w1.heap.size,2,none⟩=some (.string Z)) (by kernel_rfl) ⟨bs.at 1 0,bs.at 1 1,bs.at 1 2⟩ (fun hH=>?_);generalize w2.drew=w3 at bs q y3 hH ⊢;refine rS [(0,some 11),(1,some 12),(2,some 13),(3,some 14),(4,some 15),(6,some 17)] ?_
 iterate 6 refine aS ?_
 refine rE ?_
 refine aC (i:=5) fun K hK=>?_
 go_simp;refine(CW.out w3).mono ?_;rintro e w4 ⟨rfl,hb⟩;replace bs:=bs.ret hb;replace q:=bs.q;clear hb;go_simp;clear hH;refine hK.out _ _ ⟨bs.at 1 0,bs.at 1 1,bs.at 1 2⟩ (fun hH=>?_);clear hK K;refine rS [(7,some 18),(8,some 19)] ?_
 iterate 2 refine aS ?_
 refine rE ?_
 refine aC (i:=9) fun K hK=>?_
 have c_z0:=bs.b3 0;have f_z0:=bs.g3 0;go_simp;clear c_z0 f_z0;obtain⟨w5,hw5,y5,bs⟩:=bs.sets 0 0 [.string X,.string Y,.string Z] rfl (wu rfl);replace q:=bs.q;simp only[wv,Nat.reduceAdd] at hw5;rw[hw5];clear hH;refine hK.out _ _ ⟨bs.at 1 0,bs.at 1 1,bs.at 1 2⟩ (fun hH=>?_);clear hK K;refine rS [(10,some 3)] ?_;refine aS ?_;refine rE ?_;refine aD ?_;clear hH;go_wp2_with fail;refine bodyPost_ret (gE rfl rfl rfl (bs.box 0 rfl)) rfl ⟨rfl,q⟩
theorem iw (s X Y Z T:ByteArray) (w:World) (hT:(T.toList==s.toList)=false)
  (CP:∀w:World,Calls prog 127 #[.string s] w (Ret w (.tuple #[jV X Y Z,.int .i64 0])))
  (CW:∀w:World,Calls prog 128 #[jV X Y Z] w (Ret w (.string T))):
  Calls prog 121 #[.string s] w (Ret w (.tuple #[jV X Y Z,.bool false])):=by
 have CP:=h_ CP;have CW:=h_ CW;obtain⟨W0,hW,y0,bs⟩:=Sx.start1 w [.string ⟨#[]⟩,.string ⟨#[]⟩,.string ⟨#[]⟩] 117;have HW:=h_ hW;clear hW;have q:=bs.q;go_enter func121,ntmps121;go_wp2_with fail;rw[HW.out];refine(CP.out W0).mono ?_;rintro e w1 ⟨rfl,hb⟩;replace bs:=bs.ret hb;replace q:=bs.q;clear hb;go_upto_region 2 with fail;obtain⟨w2,hw2,y2,al,bs⟩:=bs.alloc (w1.heap.size) rfl [.string X,.string Y,.string Z] 117;clear al;replace q:=bs.q;rw[hw2];replace bs:=bs.ret (wA (bQ _));replace q:=bs.q
 have y3:w2.drew.heap.size=w2.heap.size:=rfl
 refine wp_region_held_drew (S:=fun w'=>w'.cell? ⟨w1.heap.size,0,none⟩=some (.string X)∧w'.cell? ⟨w1.heap.size,1,none⟩=some (.string Y)∧w'.cell? ⟨w1.heap.size,2,none⟩=some (.string Z)) (by kernel_rfl) ⟨bs.at 1 0,bs.at 1 1,bs.at 1 2⟩ (fun hH=>?_);generalize w2.drew=w3 at bs q y3 hH ⊢;refine rS [(0,some 11),(1,some 12),(2,some 13),(3,some 14),(4,some 15),(6,some 17)] ?_
 iterate 6 refine aS ?_
 refine rE ?_
 refine aC (i:=5) fun K hK=>?_
 go_simp;refine(CW.out w3).mono ?_;rintro e w4 ⟨rfl,hb⟩;replace bs:=bs.ret hb;replace q:=bs.q;clear hb;go_simp;clear hH;refine hK.out _ _ ⟨bs.at 1 0,bs.at 1 1,bs.at 1 2⟩ (fun hH=>?_);clear hK K;refine rS [(7,some 18),(8,some 19)] ?_
 iterate 2 refine aS ?_
 refine rE ?_
 refine aC (i:=9) fun K hK=>?_
 have c_z0:=bs.b3 0;have f_z0:=bs.g3 0;go_simp;clear c_z0 f_z0;obtain⟨w5,hw5,y5,bs⟩:=bs.sets 0 0 [.string X,.string Y,.string Z] rfl (wu rfl);replace q:=bs.q;simp only[wv,Nat.reduceAdd] at hw5;rw[hw5];clear hH;refine hK.out _ _ ⟨bs.at 1 0,bs.at 1 1,bs.at 1 2⟩ (fun hH=>?_);clear hK K;refine rS [(10,some 3)] ?_;refine aS ?_;refine rE ?_;refine aD ?_;clear hH;go_wp2_with fail;refine bodyPost_ret (gE rfl rfl rfl (bs.box 0 rfl)) rfl ⟨rfl,q⟩
theorem bI (s:ByteArray) (w:World) (hs:s.size≤10000):Calls prog 121 #[.string s] w (Ret w (fd s.data.toList)):=by
 have CP:=fun w=>dR s w hs
 have hz:=ab s;unfold lZ at CP;unfold fd adr bz;obtain⟨z1,z2,z3⟩:=bV s.data.toList
 cases hp:bv s.data.toList with
 | false=>
  rw[hp,if_neg (by decide)] at CP;simp only[Bool.false_eq_true,if_false,Bool.false_and];exact iH s _ _ _ _ w CP (fun w=>cc ⟨#[]⟩ ⟨#[]⟩ ⟨#[]⟩ w (by decide) (by decide) (by decide))
 | true=>
  rw[hp,if_pos rfl] at CP;simp only[if_true,wB]
  have CW:=fun w=>cc (jB (aU s.data.toList)) (jB (aZ s.data.toList)) (jB (aL s.data.toList)) w (by rw[ah];omega) (by rw[ah];omega) (by rw[ah];omega)
  rw[ag,ag,ag] at CW
  by_cases hT:dp (aU s.data.toList) (aZ s.data.toList) (aL s.data.toList)=s.data.toList
  ·have e1:((jB (dp (aU s.data.toList) (aZ s.data.toList) (aL s.data.toList))).toList==s.toList)=true:=by
    rw[wq,wq,ag,hT];simp
   rw[decide_eq_true hT];exact iN s _ _ _ _ w e1 CP CW
  ·have e1:((jB (dp (aU s.data.toList) (aZ s.data.toList) (aL s.data.toList))).toList==s.toList)=false:=by
    rw[wq,wq,ag];simpa using hT
   rw[decide_eq_false hT];exact iw s _ _ _ _ w e1 CP CW
theorem gF (s X Y Z T:ByteArray) (e:Int) (w:World)
  (CP:∀w:World,Calls prog 127 #[.string s] w (Ret w (.tuple #[jV X Y Z,.int .i64 e])))
  (CW:∀w:World,Calls prog 128 #[jV X Y ⟨#[]⟩] w (Ret w (.string T))):
  Calls prog 139 #[.string s] w (Ret w (.string T)):=by
 have CP:=h_ CP;have CW:=h_ CW;have bs:=Sx.start w;have q:=bs.q;go_enter func139,ntmps139;go_wp2_with fail;refine(CP.out w).mono ?_;rintro e w1 ⟨rfl,hb⟩;replace bs:=bs.ret hb;replace q:=bs.q;clear hb;have d0:=(bs.lit (w1.heap.size) rfl [.string X,.string Y,.string Z] 117);have c0_n00:=d0.b3 0;go_wp2_with fail;clear d0 c0_n00;obtain⟨w2,hw2,y2,al,bs⟩:=bs.alloc (w1.heap.size) rfl [.string X,.string Y,.string Z] 117;clear al;replace q:=bs.q;rw[hw2];refine(lx X Y Z w2).mono ?_;rintro e w3 ⟨rfl,hb⟩;replace bs:=bs.ret hb;replace q:=bs.q;clear hb;go_wp2_with fail;refine(CW.out w3).mono ?_;rintro e w4 ⟨rfl,hb⟩;replace bs:=bs.ret hb;replace q:=bs.q;clear hb;go_wp2_with fail;go_ret;exact⟨rfl,q⟩
theorem qd (s:ByteArray) (w:World) (hs:s.size≤10000):Calls prog 139 #[.string s] w (Ret w (.string (jB (a9 s.data.toList)))):=by
 have CP:=fun w=>dR s w hs
 have hz:=ab s;unfold lZ at CP;unfold a9;obtain⟨z1,z2,z3⟩:=bV s.data.toList
 cases hp:bv s.data.toList with
 | false=>
  rw[hp,if_neg (by decide)] at CP;rw[if_neg (by decide)];exact gF s _ _ _ _ _ w CP (fun w=>cc ⟨#[]⟩ ⟨#[]⟩ ⟨#[]⟩ w (by decide) (by decide) (by decide))
 | true=>
  rw[hp,if_pos rfl] at CP;rw[if_pos rfl];refine gF s _ _ _ _ _ w CP (fun w=>?_);have k:=cc (jB (aU s.data.toList)) (jB (aZ s.data.toList)) ⟨#[]⟩ w (by rw[ah];omega) (by rw[ah];omega) (by decide);rw[ag,ag,show ((⟨#[]⟩:ByteArray).data.toList)=[] from rfl] at k;exact k
theorem fZ (s X Y Z:ByteArray) (w:World)
  (CA:∀w:World,Calls prog 121 #[.string s] w (Ret w (.tuple #[jV X Y Z,.bool false]))):
  Calls prog 59 #[.string s] w (Ret w (.bool false)):=by
 have CA:=h_ CA;have bs:=Sx.start w;have q:=bs.q;go_enter func59,ntmps59;go_wp2_with fail;refine(CA.out w).mono ?_;rintro e w1 ⟨rfl,hb⟩;replace bs:=bs.ret hb;replace q:=bs.q;clear hb;have d0:=(bs.lit (w1.heap.size) rfl [.string X,.string Y,.string Z] 117);have c0_n00:=d0.b3 0;go_wp2_with fail;clear d0 c0_n00;obtain⟨w2,hw2,y2,al,bs⟩:=bs.alloc (w1.heap.size) rfl [.string X,.string Y,.string Z] 117;clear al;replace q:=bs.q;rw[hw2];go_ret;exact⟨rfl,q⟩
theorem iO (s X Y Z:ByteArray) (w:World) (c:Bool) (CM:∀w:World,Calls prog 122 #[jV X Y Z] w (Ret w (.bool c)))
  (CA:∀w:World,Calls prog 121 #[.string s] w (Ret w (.tuple #[jV X Y Z,.bool true]))):
  Calls prog 59 #[.string s] w (Ret w (.bool c)):=by
 have CA:=h_ CA;have CM:=h_ CM;have bs:=Sx.start w;have q:=bs.q;go_enter func59,ntmps59;go_wp2_with fail;refine(CA.out w).mono ?_;rintro e w1 ⟨rfl,hb⟩;replace bs:=bs.ret hb;replace q:=bs.q;clear hb;have d0:=(bs.lit (w1.heap.size) rfl [.string X,.string Y,.string Z] 117);have c0_n00:=d0.b3 0;go_wp2_with fail;clear d0 c0_n00;obtain⟨w2,hw2,y2,al,bs⟩:=bs.alloc (w1.heap.size) rfl [.string X,.string Y,.string Z] 117;clear al;replace q:=bs.q;rw[hw2];refine(CM.out w2).mono ?_;rintro e w3 ⟨rfl,hb⟩;replace bs:=bs.ret hb;replace q:=bs.q;clear hb;go_wp2_with fail;go_ret;exact⟨rfl,q⟩
theorem lR (s:ByteArray) (w:World) (hs:s.size≤10000):Calls prog 59 #[.string s] w (Ret w (.bool (bg s.data.toList))):=by
 have CA:=fun w=>bI s w hs
 unfold fd at CA;unfold bg;have hz:=ab s
 cases h:bz s.data.toList with
 | false=>
  rw[h] at CA;exact fZ s _ _ _ w CA
 | true=>
  rw[h] at CA;rw[wB];have hp:=iF h;obtain⟨z1,z2,z3⟩:=bV s.data.toList;have hk:=dx hp;unfold adr at CA;rw[if_pos hp] at CA;refine iO s _ _ _ w _ (fun w=>?_) CA;have k:=pP (jB (aU s.data.toList)) (jB (aZ s.data.toList)) (jB (aL s.data.toList)) w (by rw[ah];omega) (by rw[ah];omega) (by rw[ah];omega);rw[ag,ag,ag,hk,wB] at k;exact k
theorem mO (s t X Y Z X2 Y2 Z2:ByteArray) (b b2 c:Bool) (w:World)
  (CA:∀w:World,Calls prog 121 #[.string s] w (Ret w (.tuple #[jV X Y Z,.bool b])))
  (CB:∀w:World,Calls prog 121 #[.string t] w (Ret w (.tuple #[jV X2 Y2 Z2,.bool b2])))
  (CL:∀w:World,Calls prog 123 #[jV X Y Z,jV X2 Y2 Z2] w (Ret w (.bool c))):
  Calls prog 60 #[.string s,.string t] w (Ret w (.bool c)):=by
 have CA:=h_ CA;have CB:=h_ CB;have CL:=h_ CL;have bs:=Sx.start w;have q:=bs.q;go_enter func60,ntmps60;go_wp2_with fail;refine(CA.out w).mono ?_;rintro e w1 ⟨rfl,hb⟩;replace bs:=bs.ret hb;replace q:=bs.q;clear hb;go_wp2_with fail;obtain⟨w2,hw2,y2,al,bs⟩:=bs.alloc (w1.heap.size) rfl [.string X,.string Y,.string Z] 117;clear al;replace q:=bs.q;rw[hw2];refine(CB.out w2).mono ?_;rintro e w3 ⟨rfl,hb⟩;replace bs:=bs.ret hb;replace q:=bs.q;clear hb;have c_j0:=bs.b3 0;have d0:=(bs.lit (w3.heap.size) rfl [.string X2,.string Y2,.string Z2] 117);have c0_n00:=d0.b3 1;have c0_j0:=d0.b3 0;go_wp2_with fail;clear c_j0 d0 c0_n00 c0_j0;obtain⟨w4,hw4,y4,al,bs⟩:=bs.alloc (w3.heap.size) rfl [.string X2,.string Y2,.string Z2] 117;clear al;replace q:=bs.q;rw[hw4];refine(CL.out w4).mono ?_;rintro e w5 ⟨rfl,hb⟩;replace bs:=bs.ret hb;replace q:=bs.q;clear hb;go_wp2_with fail;go_ret;exact⟨rfl,q⟩
theorem eH (s t:ByteArray) (w:World) (hs:s.size≤10000) (ht:t.size≤10000):Calls prog 60 #[.string s,.string t] w (Ret w (.bool (ao s.data.toList t.data.toList))):=by
 have CA:=fun w=>bI s w hs
 have CB:=fun w=>bI t w ht
 unfold fd at CA CB;refine mO s t _ _ _ _ _ _ _ _ _ w CA CB (fun w=>?_);have k:=lu (jB (adr s.data.toList).1) (jB (adr s.data.toList).2.1) (jB (adr s.data.toList).2.2) (jB (adr t.data.toList).1) (jB (adr t.data.toList).2.1) (jB (adr t.data.toList).2.2) w;rw[ag,ag,ag,ag,ag,ag] at k;exact k
theorem pz (s t X Y Z T:ByteArray) (x1 x2 x3 x4 x5:Value) (w:World)
  (CP:∀w:World,Calls prog 127 #[.string s] w (Ret w (.tuple #[jV X Y Z,.int .i64 190])))
  (CW:∀w:World,Calls prog 128 #[jV X Y ⟨#[]⟩] w (Ret w (.string T))):
  Calls prog 67 #[.agg #[.string s,x1,x2,x3,x4,x5],.string t] w (Ret w (.bool false)):=by
 have CP:=h_ CP;have CW:=h_ CW;obtain⟨W0,hW,y0,bs⟩:=Sx.start1 w [.string s,x1,x2,x3,x4,x5] 38;have HW:=h_ hW;clear hW;have q:=bs.q;go_enter func67,ntmps67;have c_r0:=bs.b6 0;go_wp2_with fail;rw[HW.out];refine(CP.out W0).mono ?_;rintro e w1 ⟨rfl,hb⟩;clear c_r0;replace bs:=bs.ret hb;replace q:=bs.q;clear hb;have d0:=(bs.lit (w1.heap.size) rfl [.string X,.string Y,.string Z] 117);have c0_n00:=d0.b3 1;go_wp2_with fail;clear d0 c0_n00;obtain⟨w2,hw2,y2,al,bs⟩:=bs.alloc (w1.heap.size) rfl [.string X,.string Y,.string Z] 117;clear al;replace q:=bs.q;rw[hw2];go_ret;exact⟨rfl,q⟩
theorem pK (s t X Y Z T:ByteArray) (x1 x2 x3 x4 x5:Value) (w:World) (c:Bool) (hc:(T.toList==t.toList)=c)
  (CP:∀w:World,Calls prog 127 #[.string s] w (Ret w (.tuple #[jV X Y Z,.int .i64 0])))
  (CW:∀w:World,Calls prog 128 #[jV X Y ⟨#[]⟩] w (Ret w (.string T))):
  Calls prog 67 #[.agg #[.string s,x1,x2,x3,x4,x5],.string t] w (Ret w (.bool c)):=by
 have CP:=h_ CP;have CW:=h_ CW;obtain⟨W0,hW,y0,bs⟩:=Sx.start1 w [.string s,x1,x2,x3,x4,x5] 38;have HW:=h_ hW;clear hW;have q:=bs.q;go_enter func67,ntmps67;have c_r0:=bs.b6 0;go_wp2_with fail;rw[HW.out];refine(CP.out W0).mono ?_;rintro e w1 ⟨rfl,hb⟩;clear c_r0;replace bs:=bs.ret hb;replace q:=bs.q;clear hb;have d0:=(bs.lit (w1.heap.size) rfl [.string X,.string Y,.string Z] 117);have c0_n00:=d0.b3 1;go_wp2_with fail;clear d0 c0_n00;obtain⟨w2,hw2,y2,al,bs⟩:=bs.alloc (w1.heap.size) rfl [.string X,.string Y,.string Z] 117;clear al;replace q:=bs.q;rw[hw2];refine(lx X Y Z w2).mono ?_;rintro e w3 ⟨rfl,hb⟩;replace bs:=bs.ret hb;replace q:=bs.q;clear hb;go_wp2_with fail;refine(CW.out w3).mono ?_;rintro e w4 ⟨rfl,hb⟩;replace bs:=bs.ret hb;replace q:=bs.q;clear hb;go_wp2_with fail;go_ret;exact⟨rfl,q⟩
theorem lS (x:RsI) (t:ByteArray) (w:World) (hs:x.j.length≤10000):Calls prog 67 #[x.v,.string t] w (Ret w (.bool (bv x.j&&(a9 x.j==t.data.toList)))):=by
 have CP:=fun w=>dR ⟨x.j.toArray⟩ w (by rw[←ab];exact hs)
 unfold lZ at CP;unfold a9;obtain⟨z1,z2,z3⟩:=bV x.j
 cases hp:bv x.j with
 | false=>
  rw[show ((⟨x.j.toArray⟩:ByteArray).data.toList)=x.j from rfl,hp,if_neg (by decide)] at CP;exact pz ⟨x.j.toArray⟩ t _ _ _ _ _ _ _ _ _ w CP (fun w=>cc ⟨#[]⟩ ⟨#[]⟩ ⟨#[]⟩ w (by decide) (by decide) (by decide))
 | true=>
  rw[show ((⟨x.j.toArray⟩:ByteArray).data.toList)=x.j from rfl,hp,if_pos rfl] at CP;rw[if_pos rfl,wB];refine pK ⟨x.j.toArray⟩ t _ _ _ (jB (dp (aU x.j) (aZ x.j) [])) _ _ _ _ _ w _ ?_ CP (fun w=>?_)
  ·rw[wq,wq,ag]
  ·have k:=cc (jB (aU x.j)) (jB (aZ x.j)) ⟨#[]⟩ w (by rw[ah];omega) (by rw[ah];omega) (by decide)
   rw[ag,ag,show ((⟨#[]⟩:ByteArray).data.toList)=[] from rfl] at k;exact k

def oL:AcI:=⟨[],[],(none,0),0⟩
def tV:RsI:=⟨[],false,0,[],(none,0),false,[],(none,0)⟩
def fdA (A:List AcI) (t:List UInt8):Option AcI:=A.find? fun x=>x.j==t
def fdR (R:List RsI) (t:List UInt8):Option RsI:=R.find? fun x=>x.j==t
theorem ox {α:Type} {p:α→Bool} {l:List α} {k:Nat} {x:α} (hx:l[k]?=some x) (h:(l.take k).find? p=none) (hp:p x=true):l.find? p=some x:=by
 have hkl:k<l.length:=by
  rcases wL k l.length with h1 | h1
  ·exact h1
  ·rw[wM h1] at hx;cases hx
 have hs:l[k]=x:=by rw[ws hkl] at hx;exact wN hx
 rw[←List.take_append_drop k l,List.find?_append,h,List.drop_eq_getElem_cons hkl,hs,List.find?_cons,hp]
 rfl
theorem np {α:Type} {p:α→Bool} {l:List α} {k:Nat} {x:α} (hx:l[k]?=some x) (h:(l.take k).find? p=none) (hp:p x=false):(l.take (k+1)).find? p=none:=by
 rw[List.find?_eq_none] at h ⊢;exact dC (P:=fun y=>¬ p y=true) hx h (by rw[hp];decide)
theorem oD {α:Type} {p:α→Bool} {l:List α} {k:Nat} (hk:l.length≤k) (h:(l.take k).find? p=none):l.find? p=none:=by rwa [wz hk] at h
theorem oo {fn:Func} {tmps:Array Value} {W:World} {R p q:Nat} {v0 v1 v2 e:Value} (h:fn.results=#[.cell p 33,.tmp q]) (h2:tmps.getD p undef=.pointer (some ⟨R,0,none⟩)) (h3:tmps.getD q undef=e) (k:Bx R [v0,v1,v2] W):
  (results fn tmps).run prog W=.ok (.tuple #[.agg #[v0,v1,v2],e]) W:=by
 have c0:=k.at 0 rfl;have c1:=k.at 1 rfl;have c2:=k.at 2 rfl;rw[results_cell_tmp h,h2,h3]
 simp[go_sem,Result.andThen,c0,c1,c2]
theorem nN {fn:Func} {tmps:Array Value} {W:World} {R p q:Nat} {v0 v1 v2 v3 v4 v5 e:Value} (h:fn.results=#[.cell p 38,.tmp q]) (h2:tmps.getD p undef=.pointer (some ⟨R,0,none⟩)) (h3:tmps.getD q undef=e) (k:Bx R [v0,v1,v2,v3,v4,v5] W):
  (results fn tmps).run prog W=.ok (.tuple #[.agg #[v0,v1,v2,v3,v4,v5],e]) W:=by
 have c0:=k.at 0 rfl;have c1:=k.at 1 rfl;have c2:=k.at 2 rfl;have c3:=k.at 3 rfl;have c4:=k.at 4 rfl;have c5:=k.at 5 rfl;rw[results_cell_tmp h,h2,h3]
 simp[go_sem,Result.andThen,c0,c1,c2,c3,c4,c5]
theorem eF (c:CoI) (t:ByteArray) (w:World) (hs:IsL acY c.av c.A w) (hz:c.A.length≤100000):Calls prog 12 #[c.v,.string t] w (Ret w (.tuple #[((fdA c.A t.data.toList).getD oL).v,.bool (fdA c.A t.data.toList).isSome])):=by
 obtain⟨A,⟨a1,b1⟩,R,⟨r1,s1⟩,m1⟩:=c;have hR:IsL acY (.slice a1 A.length b1) A w:=hs
 show Calls _ _ #[.agg #[.slice a1 A.length b1,.slice r1 R.length s1,.int .i64 m1],.string t] w (Ret w (.tuple #[((fdA A t.data.toList).getD oL).v,.bool (fdA A t.data.toList).isSome]))
 obtain⟨o,ho⟩:=e_ (fdA A t.data.toList);rw[ho];obtain⟨LA1,hLA⟩:=e_ A.length;obtain⟨LR1,hLR⟩:=e_ R.length;have hz:A.length≤100000:=hz;rw[hLA] at hR hz;rw[hLA,hLR];have HR:=h_ hR;have HL:=h_ hLA;have HO:=h_ ho;clear hs hR hLA hLR ho;obtain⟨W0,hW,y0,bs⟩:=Sx.start2 w [.slice a1 LA1 b1,.slice r1 LR1 s1,.int .i64 m1] 25 [.string ⟨#[]⟩,.slice none 0 0,.int .i64 0] 33;have HW:=h_ hW;clear hW;have q:=bs.q;go_enter func12,ntmps12;go_wp2_with fail;rw[HW.out];go_loopw [6] (fun i wx=>∃k:Nat,i=.int .i64 k∧k≤LA1∧(A.take k).find? (fun x:AcI=>x.j==t.data.toList)=none∧Sx w [(w.heap.size,[.slice a1 LA1 b1,.slice r1 LR1 s1,.int .i64 m1]),(w.heap.size+1,[.string ⟨#[]⟩,.slice none 0 0,.int .i64 0])] wx) (fun i _=>LA1-(intOf i).toNat)
 case atStart=>exact⟨0,rfl,wt _,rfl,bs⟩
 case round=>
  clear bs q;obtain⟨k,rfl,hk,hT,bs⟩:=hrel;have q:=bs.q
  by_cases hlt:k<LA1
  ·have wl : (k : Int) < (LA1 : Int) := by omega
   have hkM:k<A.length:=(by rw[HL.out];exact hlt);obtain⟨x,hx⟩:=e_ (A[k]);have hkx:A[k]?=some x:=(by rw[ws hkM,hx]);obtain⟨b,off,cp,hf,-,hc⟩:=HR.out.cells hkx;rw[HL.out] at hf;simp only[wy,true_and] at hf;obtain⟨rfl,rfl⟩:=hf
   have HAT:=h_ fun h=>ox hkx hT h
   have HSN:=h_ fun h=>np hkx hT h
   obtain⟨xj,xit,⟨xa,xc⟩,xver⟩:=x;obtain⟨xl,hxl⟩:=e_ xit.length;obtain⟨jb,hjb⟩:=e_ (ByteArray.mk xj.toArray)
   have HV:Hid (((⟨xj,xit,(xa,xc),xver⟩:AcI)).v=.agg #[.string jb,.slice xa xl xc,.int .i64 xver]):=h_ (by rw[←hjb,←hxl])
   have HJ:Hid ((⟨xj,xit,(xa,xc),xver⟩:AcI).j=jb.data.toList):=h_ (by rw[←hjb])
   obtain⟨i0,i1,i2⟩:wr.cell? ⟨b,off+k*3,none⟩=some (.string jb)∧wr.cell? ⟨b,off+k*3+1,none⟩=some (.slice xa xl xc)∧wr.cell? ⟨b,off+k*3+2,none⟩=some (.int .i64 xver):=(by rw[←hjb,←hxl];exact⟨hc wr q 0 _ rfl,hc wr q 1 _ rfl,hc wr q 2 _ rfl⟩);clear hx hkx hkM hc hxl hjb hT
   cases h9:(jb.toList==t.toList) with
   | true=>
    have h9b:(jb.data.toList==t.data.toList)=true:=(by rw[←wq,←wq];exact h9);have HF:=h_ (HAT.out (by rw[HJ.out];exact h9b));clear h9b;have c_c0:=bs.b3 0;have c_z0:=bs.b3 1;have f_z0:=bs.g3 1;go_wp2_with fail;clear c_c0 c_z0 f_z0;clear i0 i1 i2;obtain⟨w21,hw21,y21,bs⟩:=bs.sets 1 0 [.string jb,.slice xa xl xc,.int .i64 xver] rfl (wu rfl);replace q:=bs.q;simp only[wv,Nat.reduceAdd] at hw21;rw[hw21];refine bodyPost_ret (oo rfl rfl rfl (bs.box 1 rfl)) rfl ?_;have e1:=HO.out.symm.trans HF.out;subst e1;refine⟨?_,q⟩;rw[wO,HV.out]
    rfl
   | false=>
    have h9b:(jb.data.toList==t.data.toList)=false:=(by rw[←wq,←wq];exact h9);have HF:=h_ (HSN.out (by rw[HJ.out];exact h9b));clear h9b;have c_c0:=bs.b3 0;go_wp2_with fail;clear c_c0;go_roundw
    case rel=>exact⟨k+1,by go_num,by omega,HF.out,bs⟩
    case measure=>simp[intOf];omega
  ·have wl : ¬ (k : Int) < (LA1 : Int) := by omega
   have HF:=h_ (oD (by rw[HL.out];omega) hT);clear hT;have c_c0:=bs.b3 0;have c_z0:=bs.b3 1;have f_z0:=bs.g3 1;go_wp2_with fail;clear c_c0 c_z0 f_z0;obtain⟨w41,hw41,y41,bs⟩:=bs.sets 1 0 [.string ⟨#[]⟩,.slice none 0 0,.int .i64 0] rfl (wu rfl);replace q:=bs.q;simp only[wv,Nat.reduceAdd] at hw41;rw[hw41];refine bodyPost_ret (oo rfl rfl rfl (bs.box 1 rfl)) rfl ?_;have e1:=HO.out.symm.trans HF.out;subst e1;exact⟨rfl,q⟩
theorem sP (c:CoI) (t:ByteArray) (w:World) (hs:IsL rsY c.rv c.R w) (hz:c.R.length≤100000):Calls prog 14 #[c.v,.string t] w (Ret w (.tuple #[((fdR c.R t.data.toList).getD tV).v,.bool (fdR c.R t.data.toList).isSome])):=by
 obtain⟨A,⟨a1,b1⟩,R,⟨r1,s1⟩,m1⟩:=c;have hR:IsL rsY (.slice r1 R.length s1) R w:=hs
 show Calls _ _ #[.agg #[.slice a1 A.length b1,.slice r1 R.length s1,.int .i64 m1],.string t] w (Ret w (.tuple #[((fdR R t.data.toList).getD tV).v,.bool (fdR R t.data.toList).isSome]))
 obtain⟨o,ho⟩:=e_ (fdR R t.data.toList);rw[ho];obtain⟨LA1,hLA⟩:=e_ A.length;obtain⟨LR1,hLR⟩:=e_ R.length;have hz:R.length≤100000:=hz;rw[hLR] at hR hz;rw[hLA,hLR];have HR:=h_ hR;have HL:=h_ hLR;have HO:=h_ ho;clear hs hR hLA hLR ho;obtain⟨W0,hW,y0,bs⟩:=Sx.start2 w [.slice a1 LA1 b1,.slice r1 LR1 s1,.int .i64 m1] 25 [.string ⟨#[]⟩,.bool false,.int .i64 0,.slice none 0 0,.bool false,.slice none 0 0] 38;have HW:=h_ hW;clear hW;have q:=bs.q;go_enter func14,ntmps14;go_wp2_with fail;rw[HW.out];go_loopw [6] (fun i wx=>∃k:Nat,i=.int .i64 k∧k≤LR1∧(R.take k).find? (fun x:RsI=>x.j==t.data.toList)=none∧Sx w [(w.heap.size,[.slice a1 LA1 b1,.slice r1 LR1 s1,.int .i64 m1]),(w.heap.size+1,[.string ⟨#[]⟩,.bool false,.int .i64 0,.slice none 0 0,.bool false,.slice none 0 0])] wx) (fun i _=>LR1-(intOf i).toNat)
 case atStart=>exact⟨0,rfl,wt _,rfl,bs⟩
 case round=>
  clear bs q;obtain⟨k,rfl,hk,hT,bs⟩:=hrel;have q:=bs.q
  by_cases hlt:k<LR1
  ·have wl : (k : Int) < (LR1 : Int) := by omega
   have hkM:k<R.length:=(by rw[HL.out];exact hlt);obtain⟨x,hx⟩:=e_ (R[k]);have hkx:R[k]?=some x:=(by rw[ws hkM,hx]);obtain⟨b,off,cp,hf,-,hc⟩:=HR.out.cells hkx;rw[HL.out] at hf;simp only[wy,true_and] at hf;obtain⟨rfl,rfl⟩:=hf
   have HAT:=h_ fun h=>ox hkx hT h
   have HSN:=h_ fun h=>np hkx hT h
   obtain⟨xj,on1,pr1,xl,⟨la1,lb1⟩,ask1,xs,⟨sa1,sb1⟩⟩:=x;obtain⟨ll,hll⟩:=e_ xl.length;obtain⟨sl,hsl⟩:=e_ xs.length;obtain⟨jb,hjb⟩:=e_ (ByteArray.mk xj.toArray)
   have HV:Hid (((⟨xj,on1,pr1,xl,(la1,lb1),ask1,xs,(sa1,sb1)⟩:RsI)).v=.agg #[.string jb,.bool on1,.int .i64 pr1,.slice la1 ll lb1,.bool ask1,.slice sa1 sl sb1]):=h_ (by rw[←hjb,←hll,←hsl])
   have HJ:Hid ((⟨xj,on1,pr1,xl,(la1,lb1),ask1,xs,(sa1,sb1)⟩:RsI).j=jb.data.toList):=h_ (by rw[←hjb])
   obtain⟨i0,i1,i2,i3,i4,i5⟩:wr.cell? ⟨b,off+k*6,none⟩=some (.string jb)∧wr.cell? ⟨b,off+k*6+1,none⟩=some (.bool on1)∧wr.cell? ⟨b,off+k*6+2,none⟩=some (.int .i64 pr1)∧wr.cell? ⟨b,off+k*6+3,none⟩=some (.slice la1 ll lb1)∧wr.cell? ⟨b,off+k*6+4,none⟩=some (.bool ask1)∧wr.cell? ⟨b,off+k*6+5,none⟩=some (.slice sa1 sl sb1):=(by rw[←hjb,←hll,←hsl];exact⟨hc wr q 0 _ rfl,hc wr q 1 _ rfl,hc wr q 2 _ rfl,hc wr q 3 _ rfl,hc wr q 4 _ rfl,hc wr q 5 _ rfl⟩);clear hx hkx hkM hc hll hsl hjb hT
   cases h9:(jb.toList==t.toList) with
   | true=>
    have h9b:(jb.data.toList==t.data.toList)=true:=(by rw[←wq,←wq];exact h9);have HF:=h_ (HAT.out (by rw[HJ.out];exact h9b));clear h9b;have c_c0:=bs.b3 0;have c_z0:=bs.b6 1;have f_z0:=bs.g6 1;go_wp2_with fail;clear c_c0 c_z0 f_z0;clear i0 i1 i2 i3 i4 i5;obtain⟨w21,hw21,y21,bs⟩:=bs.sets 1 0 [.string jb,.bool on1,.int .i64 pr1,.slice la1 ll lb1,.bool ask1,.slice sa1 sl sb1] rfl (wu rfl);replace q:=bs.q;simp only[wv,Nat.reduceAdd] at hw21;rw[hw21];refine bodyPost_ret (nN rfl rfl rfl (bs.box 1 rfl)) rfl ?_;have e1:=HO.out.symm.trans HF.out;subst e1;refine⟨?_,q⟩;rw[wO,HV.out]
    rfl
   | false=>
    have h9b:(jb.data.toList==t.data.toList)=false:=(by rw[←wq,←wq];exact h9);have HF:=h_ (HSN.out (by rw[HJ.out];exact h9b));clear h9b;have c_c0:=bs.b3 0;go_wp2_with fail;clear c_c0;go_roundw
    case rel=>exact⟨k+1,by go_num,by omega,HF.out,bs⟩
    case measure=>simp[intOf];omega
  ·have wl : ¬ (k : Int) < (LR1 : Int) := by omega
   have HF:=h_ (oD (by rw[HL.out];omega) hT);clear hT;have c_c0:=bs.b3 0;have c_z0:=bs.b6 1;have f_z0:=bs.g6 1;go_wp2_with fail;clear c_c0 c_z0 f_z0;obtain⟨w41,hw41,y41,bs⟩:=bs.sets 1 0 [.string ⟨#[]⟩,.bool false,.int .i64 0,.slice none 0 0,.bool false,.slice none 0 0] rfl (wu rfl);replace q:=bs.q;simp only[wv,Nat.reduceAdd] at hw41;rw[hw41];refine bodyPost_ret (nN rfl rfl rfl (bs.box 1 rfl)) rfl ?_;have e1:=HO.out.symm.trans HF.out;subst e1;exact⟨rfl,q⟩

theorem uH (c:CoI) (tb:ByteArray) (w:World) (hs:IsL rsY c.rv c.R w) (hz:c.R.length≤1000) (hj:∀r∈c.R,r.j.length≤10000):Calls prog 23 #[c.v,.string tb] w (dB w (onF (c.R.map RsI.d) tb.data.toList)):=by
 rw[show onF (c.R.map RsI.d) tb.data.toList=slF c.R tb.data.toList (fun r:RsI=>r.on) from (dk c.R tb.data.toList fun r:Re=>r.on).symm];obtain⟨A,⟨a1,b1⟩,R,⟨r1,s1⟩,m1⟩:=c;have hR:IsL rsY (.slice r1 R.length s1) R w:=hs
 show Calls _ _ #[.agg #[.slice a1 A.length b1,.slice r1 R.length s1,.int .i64 m1],.string tb] w (dB w (slF R tb.data.toList (fun r:RsI=>r.on)))
 obtain⟨LA1,hLA⟩:=e_ A.length;obtain⟨LR1,hLR⟩:=e_ R.length;have hz:R.length≤1000:=hz;rw[hLR] at hR hz;rw[hLA,hLR];obtain⟨i0',hi,hz0,hz1,hz2⟩:=info_parts be;have HR:=h_ hR;have HL:=h_ hLR;have HJ:=h_ (show ∀r∈R,r.j.length≤10000 from hj);clear hs hR hLA hLR hj;obtain⟨W0,hW,y0,bs⟩:=Sx.start1 w [.slice a1 LA1 b1,.slice r1 LR1 s1,.int .i64 m1] 25;have HW:=h_ hW;clear hW;have q:=bs.q;go_enter func23,ntmps23;go_wp2_with fail;rw[HW.out];go_loopw [5,6] (fun lv i wx=>∃k:Nat,i=.int .i64 k∧k≤LR1∧wx.ownsRow (w.heap.size+1) 9 1 lv (slF (R.take k) tb.data.toList (fun r:RsI=>r.on)).length (aY (slF (R.take k) tb.data.toList (fun r:RsI=>r.on)))∧Sx w [(w.heap.size,[.slice a1 LA1 b1,.slice r1 LR1 s1,.int .i64 m1])] wx) (fun _ i _=>LR1-(intOf i).toNat)
 case atStart=>exact⟨0,rfl,wt _,wD _ _ _ _,bs⟩
 case round=>
  clear bs q;obtain⟨k,rfl,hk,hrow,bs⟩:=hrel;have q:=bs.q
  by_cases hlt:k<LR1
  ·have wl : (k : Int) < (LR1 : Int) := by omega
   have hkM:k<R.length:=(by rw[HL.out];exact hlt);have hstep:=eC (t:=tb.data.toList) (q:=(fun r:RsI=>r.on)) (ws hkM);have hlen:=gK (R.take k) tb.data.toList (fun r:RsI=>r.on);rw[wE] at hlen;obtain⟨gs,hgs⟩:=e_ (slF (R.take k) tb.data.toList (fun r:RsI=>r.on));rw[hgs] at hrow hlen hstep;obtain⟨n,hn⟩:=e_ gs.length;rw[hn] at hrow hlen;obtain⟨la,lc,rfl,-⟩:=aq hrow;have hn2:n≤1000:=(by omega);obtain⟨x,hx⟩:=e_ (R[k]);have hkx:R[k]?=some x:=(by rw[ws hkM,hx]);have hxm:x∈R:=(by rw[←hx];exact wF hkM);obtain⟨b,off,cp,hf,-,hc⟩:=HR.out.cells hkx;rw[HL.out] at hf;simp only[wy,true_and] at hf;obtain⟨rfl,rfl⟩:=hf
   have CO:=fun (W:World)=>lS x tb W (HJ.out x hxm)
   obtain⟨OF,hOF⟩:=e_ ((bv x.j&&(a9 x.j==tb.data.toList)));rw[hOF] at CO;rw[hx,←wG,hOF,wK OF] at hstep;obtain⟨xj,on1,pr1,xl,⟨la1,lb1⟩,ask1,xs,⟨sa1,sb1⟩⟩:=x;obtain⟨ll,hll⟩:=e_ xl.length;obtain⟨sl,hsl⟩:=e_ xs.length;obtain⟨jb,hjb⟩:=e_ (ByteArray.mk xj.toArray);have CO1:∀W,Calls prog 67 #[.agg #[.string ⟨xj.toArray⟩,.bool on1,.int .i64 pr1,.slice la1 xl.length lb1,.bool ask1,.slice sa1 xs.length sb1],.string tb] W (Ret W (.bool OF)):=CO;rw[hll,hsl,hjb] at CO1;replace CO1:=h_ CO1;have HJB:=h_ hjb;obtain⟨i0,i1,i2,i3,i4,i5⟩:wr.cell? ⟨b,off+k*6,none⟩=some (.string jb)∧wr.cell? ⟨b,off+k*6+1,none⟩=some (.bool on1)∧wr.cell? ⟨b,off+k*6+2,none⟩=some (.int .i64 pr1)∧wr.cell? ⟨b,off+k*6+3,none⟩=some (.slice la1 ll lb1)∧wr.cell? ⟨b,off+k*6+4,none⟩=some (.bool ask1)∧wr.cell? ⟨b,off+k*6+5,none⟩=some (.slice sa1 sl sb1):=(by rw[←hjb,←hll,←hsl];exact⟨hc wr q 0 _ rfl,hc wr q 1 _ rfl,hc wr q 2 _ rfl,hc wr q 3 _ rfl,hc wr q 4 _ rfl,hc wr q 5 _ rfl⟩)
   have HC0:Hid (∀W',Bl w W'→W'.cell? ⟨b,off+k*6,none⟩=some (.string jb)):=h_ (fun W' hb=>by rw[←hjb];exact hc W' hb 0 _ rfl)
   have HN:=h_ hn
   have HT:Hid (slF (R.take (k+1)) tb.data.toList (fun r:RsI=>r.on)=gs++if (on1&&OF)=true then [xj] else []):=h_ hstep
   have o_l:OwX w [w.heap.size] 9 1 (.slice la n lc) n (aY gs) wr:=OwX.down hrow;clear hx hkx hxm hkM hn hrow hlen hstep hgs hc hll hsl hjb CO hOF
   cases on1 with
   | false=>
    have c_c0:=bs.b3 0;go_wp2_with fail;clear c_c0;go_roundw
    case rel=>exact⟨k+1,by go_num,by omega,by rw[show slF (R.take (k+1)) tb.data.toList (fun r:RsI=>r.on)=gs from HT.out.trans (ww gs),HN.out];exact o_l.up (by simp),bs⟩
    case measure=>simp[intOf];omega
   | true=>
    have c_c0:=bs.b3 0;go_wp2_with fail;refine(CO1.out wr).mono ?_;rintro e w21 ⟨rfl,hb⟩;clear c_c0;replace o_l:=o_l.ret hb;replace bs:=bs.ret hb;replace q:=bs.q;clear hb
    cases OF with
    | false=>
     go_wp2_with fail;go_roundw
     case rel=>exact⟨k+1,by go_num,by omega,by rw[show slF (R.take (k+1)) tb.data.toList (fun r:RsI=>r.on)=gs from HT.out.trans (ww gs),HN.out];exact o_l.up (by simp),bs⟩
     case measure=>simp[intOf];omega
    | true=>
     have j0:=HC0.out w21 q;have c_c0:=bs.b3 0;go_wp2_with (at_builtin;refine Hid.out ?_);clear c_c0;clear j0;obtain⟨w22,hw22,y22,al,bs⟩:=bs.alloc (w21.heap.size) rfl [.string jb] 9;replace o_l:=o_l.alloc (w21.heap.size) rfl al;clear al;replace q:=bs.q;rw[hw22];refine ai rfl _ _ _ rfl (w.heap.size+1) 9 i0' _ 1 16 underlying26 hi hz0 hz1 hz2 rfl (by omega) _ n (aY gs) rfl (o_l.up (by simp)) _ (by rfl) 1 [.string jb] ((bs.box 1 rfl).row rfl) (by intro u hu;cases wH.1 hu;rfl) (by omega) (by omega) (by have:=bs.lt _ (wC (i:=0) rfl);simp at this;omega) ?_;intro v' w' hown hgr;replace bs:=bs.grown hgr (fun g hg=>⟨(o_l.1.lt g hg).1,o_l.2 g hg⟩);clear o_l q;go_wp2_with fail;go_roundw
     case rel=>exact⟨k+1,by go_num,by omega,by rw[show slF (R.take (k+1)) tb.data.toList (fun r:RsI=>r.on)=gs++[xj] from HT.out,wI,HN.out,cD,HJB.out];exact hown,bs.some 1⟩
     case measure=>simp[intOf];omega
  ·have wl : ¬ (k : Int) < (LR1 : Int) := by omega
   have e:R.take k=R:=wz (by rw[HL.out];omega)
   rw[e] at hrow;have HRW:=h_ hrow;clear hrow e;have c_c0:=bs.b3 0;go_wp2_with fail;go_ret;exact⟨_,rfl,⟨HRW.out.mono (wt _),fun g hg=>by have:=(HRW.out.lt g hg).1;omega⟩,q⟩
theorem n7 (c:CoI) (tb:ByteArray) (w:World) (hs:IsL rsY c.rv c.R w) (hz:c.R.length≤1000) (hj:∀r∈c.R,r.j.length≤10000):Calls prog 27 #[c.v,.string tb] w (dB w (fh (c.R.map RsI.d) tb.data.toList)):=by
 rw[show fh (c.R.map RsI.d) tb.data.toList=slF c.R tb.data.toList (fun r:RsI=>r.ask) from (dk c.R tb.data.toList fun r:Re=>r.ask).symm];obtain⟨A,⟨a1,b1⟩,R,⟨r1,s1⟩,m1⟩:=c;have hR:IsL rsY (.slice r1 R.length s1) R w:=hs
 show Calls _ _ #[.agg #[.slice a1 A.length b1,.slice r1 R.length s1,.int .i64 m1],.string tb] w (dB w (slF R tb.data.toList (fun r:RsI=>r.ask)))
 obtain⟨LA1,hLA⟩:=e_ A.length;obtain⟨LR1,hLR⟩:=e_ R.length;have hz:R.length≤1000:=hz;rw[hLR] at hR hz;rw[hLA,hLR];obtain⟨i0',hi,hz0,hz1,hz2⟩:=info_parts be;have HR:=h_ hR;have HL:=h_ hLR;have HJ:=h_ (show ∀r∈R,r.j.length≤10000 from hj);clear hs hR hLA hLR hj;obtain⟨W0,hW,y0,bs⟩:=Sx.start1 w [.slice a1 LA1 b1,.slice r1 LR1 s1,.int .i64 m1] 25;have HW:=h_ hW;clear hW;have q:=bs.q;go_enter func27,ntmps27;go_wp2_with fail;rw[HW.out];go_loopw [5,6] (fun lv i wx=>∃k:Nat,i=.int .i64 k∧k≤LR1∧wx.ownsRow (w.heap.size+1) 9 1 lv (slF (R.take k) tb.data.toList (fun r:RsI=>r.ask)).length (aY (slF (R.take k) tb.data.toList (fun r:RsI=>r.ask)))∧Sx w [(w.heap.size,[.slice a1 LA1 b1,.slice r1 LR1 s1,.int .i64 m1])] wx) (fun _ i _=>LR1-(intOf i).toNat)
 case atStart=>exact⟨0,rfl,wt _,wD _ _ _ _,bs⟩
 case round=>
  clear bs q;obtain⟨k,rfl,hk,hrow,bs⟩:=hrel;have q:=bs.q
  by_cases hlt:k<LR1
  ·have wl : (k : Int) < (LR1 : Int) := by omega
   have hkM:k<R.length:=(by rw[HL.out];exact hlt);have hstep:=eC (t:=tb.data.toList) (q:=(fun r:RsI=>r.ask)) (ws hkM);have hlen:=gK (R.take k) tb.data.toList (fun r:RsI=>r.ask);rw[wE] at hlen;obtain⟨gs,hgs⟩:=e_ (slF (R.take k) tb.data.toList (fun r:RsI=>r.ask));rw[hgs] at hrow hlen hstep;obtain⟨n,hn⟩:=e_ gs.length;rw[hn] at hrow hlen;obtain⟨la,lc,rfl,-⟩:=aq hrow;have hn2:n≤1000:=(by omega);obtain⟨x,hx⟩:=e_ (R[k]);have hkx:R[k]?=some x:=(by rw[ws hkM,hx]);have hxm:x∈R:=(by rw[←hx];exact wF hkM);obtain⟨b,off,cp,hf,-,hc⟩:=HR.out.cells hkx;rw[HL.out] at hf;simp only[wy,true_and] at hf;obtain⟨rfl,rfl⟩:=hf
   have CO:=fun (W:World)=>lS x tb W (HJ.out x hxm)
   obtain⟨OF,hOF⟩:=e_ ((bv x.j&&(a9 x.j==tb.data.toList)));rw[hOF] at CO;rw[hx,←wG,hOF,wK OF] at hstep;obtain⟨xj,on1,pr1,xl,⟨la1,lb1⟩,ask1,xs,⟨sa1,sb1⟩⟩:=x;obtain⟨ll,hll⟩:=e_ xl.length;obtain⟨sl,hsl⟩:=e_ xs.length;obtain⟨jb,hjb⟩:=e_ (ByteArray.mk xj.toArray);have CO1:∀W,Calls prog 67 #[.agg #[.string ⟨xj.toArray⟩,.bool on1,.int .i64 pr1,.slice la1 xl.length lb1,.bool ask1,.slice sa1 xs.length sb1],.string tb] W (Ret W (.bool OF)):=CO;rw[hll,hsl,hjb] at CO1;replace CO1:=h_ CO1;have HJB:=h_ hjb;obtain⟨i0,i1,i2,i3,i4,i5⟩:wr.cell? ⟨b,off+k*6,none⟩=some (.string jb)∧wr.cell? ⟨b,off+k*6+1,none⟩=some (.bool on1)∧wr.cell? ⟨b,off+k*6+2,none⟩=some (.int .i64 pr1)∧wr.cell? ⟨b,off+k*6+3,none⟩=some (.slice la1 ll lb1)∧wr.cell? ⟨b,off+k*6+4,none⟩=some (.bool ask1)∧wr.cell? ⟨b,off+k*6+5,none⟩=some (.slice sa1 sl sb1):=(by rw[←hjb,←hll,←hsl];exact⟨hc wr q 0 _ rfl,hc wr q 1 _ rfl,hc wr q 2 _ rfl,hc wr q 3 _ rfl,hc wr q 4 _ rfl,hc wr q 5 _ rfl⟩)
   have HC0:Hid (∀W',Bl w W'→W'.cell? ⟨b,off+k*6,none⟩=some (.string jb)):=h_ (fun W' hb=>by rw[←hjb];exact hc W' hb 0 _ rfl)
   have HN:=h_ hn
   have HT:Hid (slF (R.take (k+1)) tb.data.toList (fun r:RsI=>r.ask)=gs++if (ask1&&OF)=true then [xj] else []):=h_ hstep
   have o_l:OwX w [w.heap.size] 9 1 (.slice la n lc) n (aY gs) wr:=OwX.down hrow;clear hx hkx hxm hkM hn hrow hlen hstep hgs hc hll hsl hjb CO hOF
   cases ask1 with
   | false=>
    have c_c0:=bs.b3 0;go_wp2_with fail;clear c_c0;go_roundw
    case rel=>exact⟨k+1,by go_num,by omega,by rw[show slF (R.take (k+1)) tb.data.toList (fun r:RsI=>r.ask)=gs from HT.out.trans (ww gs),HN.out];exact o_l.up (by simp),bs⟩
    case measure=>simp[intOf];omega
   | true=>
    have c_c0:=bs.b3 0;go_wp2_with fail;refine(CO1.out wr).mono ?_;rintro e w21 ⟨rfl,hb⟩;clear c_c0;replace o_l:=o_l.ret hb;replace bs:=bs.ret hb;replace q:=bs.q;clear hb
    cases OF with
    | false=>
     go_wp2_with fail;go_roundw
     case rel=>exact⟨k+1,by go_num,by omega,by rw[show slF (R.take (k+1)) tb.data.toList (fun r:RsI=>r.ask)=gs from HT.out.trans (ww gs),HN.out];exact o_l.up (by simp),bs⟩
     case measure=>simp[intOf];omega
    | true=>
     have j0:=HC0.out w21 q;have c_c0:=bs.b3 0;go_wp2_with (at_builtin;refine Hid.out ?_);clear c_c0;clear j0;obtain⟨w22,hw22,y22,al,bs⟩:=bs.alloc (w21.heap.size) rfl [.string jb] 9;replace o_l:=o_l.alloc (w21.heap.size) rfl al;clear al;replace q:=bs.q;rw[hw22];refine ai rfl _ _ _ rfl (w.heap.size+1) 9 i0' _ 1 16 underlying26 hi hz0 hz1 hz2 rfl (by omega) _ n (aY gs) rfl (o_l.up (by simp)) _ (by rfl) 1 [.string jb] ((bs.box 1 rfl).row rfl) (by intro u hu;cases wH.1 hu;rfl) (by omega) (by omega) (by have:=bs.lt _ (wC (i:=0) rfl);simp at this;omega) ?_;intro v' w' hown hgr;replace bs:=bs.grown hgr (fun g hg=>⟨(o_l.1.lt g hg).1,o_l.2 g hg⟩);clear o_l q;go_wp2_with fail;go_roundw
     case rel=>exact⟨k+1,by go_num,by omega,by rw[show slF (R.take (k+1)) tb.data.toList (fun r:RsI=>r.ask)=gs++[xj] from HT.out,wI,HN.out,cD,HJB.out];exact hown,bs.some 1⟩
     case measure=>simp[intOf];omega
  ·have wl : ¬ (k : Int) < (LR1 : Int) := by omega
   have e:R.take k=R:=wz (by rw[HL.out];omega)
   rw[e] at hrow;have HRW:=h_ hrow;clear hrow e;have c_c0:=bs.b3 0;go_wp2_with fail;go_ret;exact⟨_,rfl,⟨HRW.out.mono (wt _),fun g hg=>by have:=(HRW.out.lt g hg).1;omega⟩,q⟩

theorem pU (c:CoI) (tb:ByteArray) (w:World) (hs:IsL rsY c.rv c.R w) (hz:c.R.length≤1000) (hj:∀r∈c.R,r.j.length≤10000):Calls prog 25 #[c.v,.string tb] w (dB w (ic (c.R.map RsI.d) tb.data.toList)):=by
 have e:slF c.R tb.data.toList (fun r=>r.on&&(r.pr==eM tb.data.toList 0 c.R))=ic (c.R.map RsI.d) tb.data.toList:=by
  have h:=dk c.R tb.data.toList (fun r=>r.on&&decide (r.pr=ua (c.R.map RsI.d) tb.data.toList));unfold ic;rw[←h]
  have e2:ua (c.R.map RsI.d) tb.data.toList=eM tb.data.toList 0 c.R:=by rw[po];rfl
  rw[e2]
  rfl
 rw[←e];clear e;obtain⟨A,⟨a1,b1⟩,R,⟨r1,s1⟩,m1⟩:=c;have hR:IsL rsY (.slice r1 R.length s1) R w:=hs
 show Calls _ _ #[.agg #[.slice a1 A.length b1,.slice r1 R.length s1,.int .i64 m1],.string tb] w (dB w (slF R tb.data.toList (fun r=>r.on&&(r.pr==eM tb.data.toList 0 R))))
 obtain⟨X,hX⟩:=e_ (eM tb.data.toList 0 R);rw[hX];obtain⟨LA1,hLA⟩:=e_ A.length;obtain⟨LR1,hLR⟩:=e_ R.length;have hz:R.length≤1000:=hz;rw[hLR] at hR hz;rw[hLA,hLR];obtain⟨i0',hi,hz0,hz1,hz2⟩:=info_parts be;have HX:=h_ hX;have HR:=h_ hR;have HL:=h_ hLR;have HJ:=h_ (show ∀r∈R,r.j.length≤10000 from hj);clear hs hR hLA hLR hj hX;obtain⟨W0,hW,y0,bs⟩:=Sx.start1 w [.slice a1 LA1 b1,.slice r1 LR1 s1,.int .i64 m1] 25;have HW:=h_ hW;clear hW;have q:=bs.q;go_enter func25,ntmps25;go_wp2_with fail;rw[HW.out];go_loopw [6,7] (fun sv i wx=>∃(k:Nat) (s0:Int),i=.int .i64 k∧sv=.int .i64 s0∧k≤LR1∧eM tb.data.toList 0 (R.take k)=s0∧Sx w [(w.heap.size,[.slice a1 LA1 b1,.slice r1 LR1 s1,.int .i64 m1])] wx) (fun _ i _=>LR1-(intOf i).toNat)
 case atStart=>exact⟨0,0,rfl,rfl,wt _,rfl,bs⟩
 case round=>
  clear bs q;obtain⟨k,s0,rfl,rfl,hk,hs0,bs⟩:=hrel;have q:=bs.q
  by_cases hlt:k<LR1
  ·have wl : (k : Int) < (LR1 : Int) := by omega
   have hkM:k<R.length:=(by rw[HL.out];exact hlt);have hstep:=jf (t:=tb.data.toList) (s:=0) (ws hkM);rw[hs0] at hstep;obtain⟨x,hx⟩:=e_ (R[k]);have hkx:R[k]?=some x:=(by rw[ws hkM,hx]);have hxm:x∈R:=(by rw[←hx];exact wF hkM);obtain⟨b,off,cp,hf,-,hc⟩:=HR.out.cells hkx;rw[HL.out] at hf;simp only[wy,true_and] at hf;obtain⟨rfl,rfl⟩:=hf
   have CO:=fun (W:World)=>lS x tb W (HJ.out x hxm)
   obtain⟨OF,hOF⟩:=e_ ((bv x.j&&(a9 x.j==tb.data.toList)));rw[hOF] at CO;unfold tU at hstep;rw[hx,←wG,hOF,wK OF] at hstep;obtain⟨xj,on1,pr1,xl,⟨la1,lb1⟩,ask1,xs,⟨sa1,sb1⟩⟩:=x;obtain⟨ll,hll⟩:=e_ xl.length;obtain⟨sl,hsl⟩:=e_ xs.length;obtain⟨jb,hjb⟩:=e_ (ByteArray.mk xj.toArray);have CO1:∀W,Calls prog 67 #[.agg #[.string ⟨xj.toArray⟩,.bool on1,.int .i64 pr1,.slice la1 xl.length lb1,.bool ask1,.slice sa1 xs.length sb1],.string tb] W (Ret W (.bool OF)):=CO;rw[hll,hsl,hjb] at CO1;replace CO1:=h_ CO1;have HJB:=h_ hjb;obtain⟨i0,i1,i2,i3,i4,i5⟩:wr.cell? ⟨b,off+k*6,none⟩=some (.string jb)∧wr.cell? ⟨b,off+k*6+1,none⟩=some (.bool on1)∧wr.cell? ⟨b,off+k*6+2,none⟩=some (.int .i64 pr1)∧wr.cell? ⟨b,off+k*6+3,none⟩=some (.slice la1 ll lb1)∧wr.cell? ⟨b,off+k*6+4,none⟩=some (.bool ask1)∧wr.cell? ⟨b,off+k*6+5,none⟩=some (.slice sa1 sl sb1):=(by rw[←hjb,←hll,←hsl];exact⟨hc wr q 0 _ rfl,hc wr q 1 _ rfl,hc wr q 2 _ rfl,hc wr q 3 _ rfl,hc wr q 4 _ rfl,hc wr q 5 _ rfl⟩)
   have HC0:Hid (∀W',Bl w W'→W'.cell? ⟨b,off+k*6,none⟩=some (.string jb)):=h_ (fun W' hb=>by rw[←hjb];exact hc W' hb 0 _ rfl)
   have HC2:Hid (∀W',Bl w W'→W'.cell? ⟨b,off+k*6+2,none⟩=some (.int .i64 pr1)):=h_ (fun W' hb=>hc W' hb 2 _ rfl)
   have HT:Hid (eM tb.data.toList 0 (R.take (k+1))=if (on1&&OF)=true then max s0 pr1 else s0):=h_ hstep
   clear hx hkx hxm hkM hstep hs0 hc hll hsl hjb CO hOF
   cases on1 with
   | false=>
    have c_c0:=bs.b3 0;go_wp2_with fail;clear c_c0;go_roundw
    case rel=>exact⟨k+1,s0,by go_num,rfl,by omega,HT.out,bs⟩
    case measure=>simp[intOf];omega
   | true=>
    have c_c0:=bs.b3 0;go_wp2_with fail;refine(CO1.out wr).mono ?_;rintro e w21 ⟨rfl,hb⟩;clear c_c0;replace bs:=bs.ret hb;replace q:=bs.q;clear hb
    cases OF with
    | false=>
     go_wp2_with fail;go_roundw
     case rel=>exact⟨k+1,s0,by go_num,rfl,by omega,HT.out,bs⟩
     case measure=>simp[intOf];omega
    | true=>
     have j2:=HC2.out w21 q;have c_c0:=bs.b3 0;go_wp2_with fail;clear c_c0;go_roundw
     case rel=>exact⟨k+1,max s0 pr1,by go_num,rfl,by omega,HT.out,bs⟩
     case measure=>simp[intOf];omega
  ·have wl : ¬ (k : Int) < (LR1 : Int) := by omega
   have e:R.take k=R:=wz (by rw[HL.out];omega)
   rw[e] at hs0
   have e1:X=s0:=HX.out.symm.trans hs0
   subst e1;clear e hs0;have c_c0:=bs.b3 0;go_wp2_with fail;clear c_c0;go_loopw [5,8] (fun lv i wx=>∃e:Nat,i=.int .i64 e∧e≤LR1∧wx.ownsRow (w.heap.size+1) 9 1 lv (slF (R.take e) tb.data.toList (fun r:RsI=>r.on&&(r.pr==X))).length (aY (slF (R.take e) tb.data.toList (fun r:RsI=>r.on&&(r.pr==X))))∧Sx w [(w.heap.size,[.slice a1 LA1 b1,.slice r1 LR1 s1,.int .i64 m1])] wx) (fun _ i _=>LR1-(intOf i).toNat)
   case atStart=>exact⟨0,rfl,wt _,wD _ _ _ _,bs⟩
   case round=>
    clear bs q wl hk;obtain⟨k,rfl,hk,hrow,bs⟩:=hrel;have q:=bs.q
    by_cases hlt:k<LR1
    ·have wl : (k : Int) < (LR1 : Int) := by omega
     have hkM:k<R.length:=(by rw[HL.out];exact hlt);have hstep:=eC (t:=tb.data.toList) (q:=(fun r:RsI=>r.on&&(r.pr==X))) (ws hkM);have hlen:=gK (R.take k) tb.data.toList (fun r:RsI=>r.on&&(r.pr==X));rw[wE] at hlen;obtain⟨gs,hgs⟩:=e_ (slF (R.take k) tb.data.toList (fun r:RsI=>r.on&&(r.pr==X)));rw[hgs] at hrow hlen hstep;obtain⟨n,hn⟩:=e_ gs.length;rw[hn] at hrow hlen;obtain⟨la,lc,rfl,-⟩:=aq hrow;have hn2:n≤1000:=(by omega);obtain⟨x,hx⟩:=e_ (R[k]);have hkx:R[k]?=some x:=(by rw[ws hkM,hx]);have hxm:x∈R:=(by rw[←hx];exact wF hkM);obtain⟨b,off,cp,hf,-,hc⟩:=HR.out.cells hkx;rw[HL.out] at hf;simp only[wy,true_and] at hf;obtain⟨rfl,rfl⟩:=hf
     have CO:=fun (W:World)=>lS x tb W (HJ.out x hxm)
     obtain⟨OF,hOF⟩:=e_ ((bv x.j&&(a9 x.j==tb.data.toList)));rw[hOF] at CO;simp only[hx] at hstep;rw[←wG,hOF,Bool.and_left_comm] at hstep;obtain⟨xj,on1,pr1,xl,⟨la1,lb1⟩,ask1,xs,⟨sa1,sb1⟩⟩:=x;obtain⟨ll,hll⟩:=e_ xl.length;obtain⟨sl,hsl⟩:=e_ xs.length;obtain⟨jb,hjb⟩:=e_ (ByteArray.mk xj.toArray);have CO1:∀W,Calls prog 67 #[.agg #[.string ⟨xj.toArray⟩,.bool on1,.int .i64 pr1,.slice la1 xl.length lb1,.bool ask1,.slice sa1 xs.length sb1],.string tb] W (Ret W (.bool OF)):=CO;rw[hll,hsl,hjb] at CO1;replace CO1:=h_ CO1;have HJB:=h_ hjb;obtain⟨i0,i1,i2,i3,i4,i5⟩:wr.cell? ⟨b,off+k*6,none⟩=some (.string jb)∧wr.cell? ⟨b,off+k*6+1,none⟩=some (.bool on1)∧wr.cell? ⟨b,off+k*6+2,none⟩=some (.int .i64 pr1)∧wr.cell? ⟨b,off+k*6+3,none⟩=some (.slice la1 ll lb1)∧wr.cell? ⟨b,off+k*6+4,none⟩=some (.bool ask1)∧wr.cell? ⟨b,off+k*6+5,none⟩=some (.slice sa1 sl sb1):=(by rw[←hjb,←hll,←hsl];exact⟨hc wr q 0 _ rfl,hc wr q 1 _ rfl,hc wr q 2 _ rfl,hc wr q 3 _ rfl,hc wr q 4 _ rfl,hc wr q 5 _ rfl⟩)
     have HC0:Hid (∀W',Bl w W'→W'.cell? ⟨b,off+k*6,none⟩=some (.string jb)):=h_ (fun W' hb=>by rw[←hjb];exact hc W' hb 0 _ rfl)
     have HC2:Hid (∀W',Bl w W'→W'.cell? ⟨b,off+k*6+2,none⟩=some (.int .i64 pr1)):=h_ (fun W' hb=>hc W' hb 2 _ rfl)
     obtain⟨E,hE⟩:=e_ ((pr1==X));have HN:=h_ hn
     have HT:Hid (slF (R.take (k+1)) tb.data.toList (fun r:RsI=>r.on&&(r.pr==X))=gs++if (on1&&(OF&&E))=true then [xj] else []):=h_ (by rw[←hE];exact hstep)
     have o_l:OwX w [w.heap.size] 9 1 (.slice la n lc) n (aY gs) wr:=OwX.down hrow;clear hx hkx hxm hkM hn hrow hlen hstep hgs hc hll hsl hjb CO hOF
     cases on1 with
     | false=>
      have c_c0:=bs.b3 0;go_wp2_with fail;clear c_c0;go_roundw
      case rel=>exact⟨k+1,by go_num,by omega,by rw[show slF (R.take (k+1)) tb.data.toList (fun r:RsI=>r.on&&(r.pr==X))=gs from HT.out.trans (ww gs),HN.out];exact o_l.up (by simp),bs⟩
      case measure=>simp[intOf];omega
     | true=>
      have c_c0:=bs.b3 0;go_wp2_with fail;refine(CO1.out wr).mono ?_;rintro e w61 ⟨rfl,hb⟩;clear c_c0;replace o_l:=o_l.ret hb;replace bs:=bs.ret hb;replace q:=bs.q;clear hb
      cases OF with
      | false=>
       have c_c0:=bs.b3 0;go_wp2_with fail;clear c_c0;go_roundw
       case rel=>exact⟨k+1,by go_num,by omega,by rw[show slF (R.take (k+1)) tb.data.toList (fun r:RsI=>r.on&&(r.pr==X))=gs from HT.out.trans (ww gs),HN.out];exact o_l.up (by simp),bs⟩
       case measure=>simp[intOf];omega
      | true=>
       have j2:=HC2.out w61 q;have j0:=HC0.out w61 q
       cases E with
       | false=>
        have c_c0:=bs.b3 0;go_wp2_with fail;clear c_c0;go_roundw
        case rel=>exact⟨k+1,by go_num,by omega,by rw[show slF (R.take (k+1)) tb.data.toList (fun r:RsI=>r.on&&(r.pr==X))=gs from HT.out.trans (ww gs),HN.out];exact o_l.up (by simp),bs⟩
        case measure=>simp[intOf];omega
       | true=>
        have c_c0:=bs.b3 0;go_wp2_with (at_builtin;refine Hid.out ?_);clear c_c0;clear j0 j2;obtain⟨w62,hw62,y62,al,bs⟩:=bs.alloc (w61.heap.size) rfl [.string jb] 9;replace o_l:=o_l.alloc (w61.heap.size) rfl al;clear al;replace q:=bs.q;rw[hw62];refine ai rfl _ _ _ rfl (w.heap.size+1) 9 i0' _ 1 16 underlying26 hi hz0 hz1 hz2 rfl (by omega) _ n (aY gs) rfl (o_l.up (by simp)) _ (by rfl) 1 [.string jb] ((bs.box 1 rfl).row rfl) (by intro u hu;cases wH.1 hu;rfl) (by omega) (by omega) (by have:=bs.lt _ (wC (i:=0) rfl);simp at this;omega) ?_;intro v' w' hown hgr;replace bs:=bs.grown hgr (fun g hg=>⟨(o_l.1.lt g hg).1,o_l.2 g hg⟩);clear o_l q;go_wp2_with fail;go_roundw
        case rel=>exact⟨k+1,by go_num,by omega,by rw[show slF (R.take (k+1)) tb.data.toList (fun r:RsI=>r.on&&(r.pr==X))=gs++[xj] from HT.out,wI,HN.out,cD,HJB.out];exact hown,bs.some 1⟩
        case measure=>simp[intOf];omega
    ·have wl : ¬ (k : Int) < (LR1 : Int) := by omega
     have e:R.take k=R:=wz (by rw[HL.out];omega)
     rw[e] at hrow;have HRW:=h_ hrow;clear hrow e;have c_c0:=bs.b3 0;go_wp2_with fail;go_ret;exact⟨_,rfl,⟨HRW.out.mono (wt _),fun g hg=>by have:=(HRW.out.lt g hg).1;omega⟩,q⟩

def kR (o:Option It):Bool:=match o with | some i=>i.s.2.2.1 | none=>false
def fJ (A:List Ac) (L:List It):List (List UInt8):=(A.filter fun a=>kR (bO L a.1)).map Prod.fst
def ku (A:List Ac) (t:List UInt8):List (List UInt8):=fJ A ((fiG acN A t).getD ac0).2.1
theorem kg {A:List Ac} {L:List It} {k:Nat} {x:Ac} (hk:A[k]?=some x):fJ (A.take (k+1)) L=fJ (A.take k) L++if kR (bO L x.1) then [x.1] else []:=by
 have hkl:k<A.length:=by
  rcases wL k A.length with h1 | h1
  ·exact h1
  ·rw[wM h1] at hk;cases hk
 have hM:A[k]=x:=by rw[ws hkl] at hk;exact wN hk
 unfold fJ;rw[List.take_succ_eq_append_getElem hkl,List.filter_append,List.map_append,hM]
 cases h:kR (bO L x.1) with
 | true=>simp[h]
 | false=>simp[h]
theorem gX (A:List Ac) (L:List It):(fJ A L).length≤A.length:=by
 unfold fJ;rw[wP];exact List.length_filter_le _ _
def lI (w:World) (f:Bool) (e:Ending) (w':World):Prop:=∃(xj xn:ByteArray) (ga:Option Addr) (gl gc:Nat) (s1 s2 s3 s4 k1 is:Bool),e=.returned (.tuple #[.agg #[.string xj,.string xn,.slice ga gl gc,.bool s1,.bool s2,.bool s3,.bool s4,.bool k1],.bool is])∧(is&&s3)=f∧Bl w w'
theorem nD (v:Value) (ver:Int) (M:List Im) (t:ByteArray) (w:World) (hv:aw v M w) (hM:M.length≤1000):
  Calls prog 72 #[.agg #[v,.int .i64 ver],.string t] w (lI w (kR (bO (M.map Prod.fst) t.data.toList))):=by
 refine(qm v ver M t w hv hM).mono ?_;rintro e w' ⟨hb,⟨p,hp,h1,rfl⟩ | ⟨h1,rfl⟩⟩
 ·rw[h1]
  exact⟨_,_,_,_,_,_,_,_,_,_,_,rfl,wB _,hb⟩
 ·rw[h1]
  exact⟨_,_,_,_,_,_,_,_,_,_,_,rfl,rfl,hb⟩
theorem gw {w:World} {B B':Nat} {e:TypeId} {size n:Nat} {v:Value} {xs:List Value} (h:w.ownsRow B e size v n xs) (hm:∀g,v.ownBlock=some g→B'≤g):w.ownsRow B' e size v n xs:=by
 refine⟨h.1,?_⟩
 rcases h.2 with h1 | ⟨g,cap,cur,e1,hb,hg,r⟩
 ·exact .inl h1
 ·exact .inr ⟨g,cap,cur,e1,hm g (by rw[e1];rfl),hg,r⟩
theorem mJ (A:List AcI) (a1 r1:Option Addr) (b1 LR1 s1:Nat) (m1:Int) (x0:AcI) (is0:Bool) (tb:ByteArray) (w:World) (hs:IsL acY (.slice a1 A.length b1) A w) (hz:A.length≤1000)
  (CF:∀W,Bl w W→Calls prog 12 #[.agg #[.slice a1 A.length b1,.slice r1 LR1 s1,.int .i64 m1],.string tb] W (Ret W (.tuple #[x0.v,.bool is0])))
  (hx:aw x0.iv x0.it w) (hxl:x0.it.length≤1000):Calls prog 29 #[.agg #[.slice a1 A.length b1,.slice r1 LR1 s1,.int .i64 m1],.string tb] w (dB w (fJ (A.map AcI.d) (x0.it.map Prod.fst))):=by
 have CI:=h_ fun (t:ByteArray) (W:World) (hb:Bl w W)=>nD x0.iv x0.ver x0.it t W (hx.ret hb) hxl
 obtain⟨oj,oit,⟨oa,oc⟩,ov⟩:=x0;simp only[AcI.v,AcI.iv] at CI CF ⊢;obtain⟨LS,hLS⟩:=e_ (oit.map Prod.fst);obtain⟨ol,hol⟩:=e_ oit.length;obtain⟨ob,hob⟩:=e_ (ByteArray.mk oj.toArray);rw[hLS,hol] at CI;rw[hLS];rw[hol,hob] at CF;obtain⟨LA1,hLA⟩:=e_ A.length;rw[hLA] at hs hz CF ⊢;obtain⟨i0',hi,hz0,hz1,hz2⟩:=info_parts be;have HR:=h_ hs;have HL:=h_ hLA;have CF:=h_ CF;clear hs hLA hx hxl hLS hol hob;obtain⟨W0,hW,y0,bs⟩:=Sx.start1 w [.slice a1 LA1 b1,.slice r1 LR1 s1,.int .i64 m1] 25;have HW:=h_ hW;clear hW;have q:=bs.q;go_enter func29,ntmps29;have c_c0:=bs.b3 0;go_wp2_with fail;rw[HW.out];refine(CF.out W0 q).mono ?_;rintro e w1 ⟨rfl,hb⟩;clear c_c0;replace bs:=bs.ret hb;replace q:=bs.q;clear hb;have hAb0:=bs.lt _ (wC (i:=0) rfl);have hAb1:=h_ hAb0;clear hAb0;have c_c0:=bs.b3 0;have d0:=(bs.lit (w1.heap.size) rfl [.string ob,.slice oa ol oc,.int .i64 ov] 33);have c0_n00:=d0.b3 1;have c0_c0:=d0.b3 0;go_wp2_with fail;clear c_c0 d0 c0_n00 c0_c0;obtain⟨w2,hw2,y2,al,bs⟩:=bs.alloc (w1.heap.size) rfl [.string ob,.slice oa ol oc,.int .i64 ov] 33;clear al;replace q:=bs.q;rw[hw2];obtain⟨Ab,hAb⟩:=e_ w1.heap.size;rw[hAb] at bs ⊢
 have hAb2:w.heap.size<Ab:=by rw[←hAb];exact hAb1.out
 have HAB:=h_ hAb2;clear hAb2 hAb1;clear hAb;go_loopw [5,8] (fun lv i wx=>∃k:Nat,i=.int .i64 k∧k≤LA1∧wx.ownsRow (Ab+1) 9 1 lv (fJ ((A.map AcI.d).take k) LS).length (aY (fJ ((A.map AcI.d).take k) LS))∧Sx w [(w.heap.size,[.slice a1 LA1 b1,.slice r1 LR1 s1,.int .i64 m1]),(Ab,[.string ob,.slice oa ol oc,.int .i64 ov])] wx) (fun _ i _=>LA1-(intOf i).toNat)
 case atStart=>exact⟨0,rfl,wt _,wD _ _ _ _,bs⟩
 case round=>
  clear bs q;obtain⟨k,rfl,hk,hrow,bs⟩:=hrel;have q:=bs.q
  by_cases hlt:k<LA1
  ·have wl : (k : Int) < (LA1 : Int) := by omega
   have hkM:k<A.length:=(by rw[HL.out];exact hlt);obtain⟨x,hx⟩:=e_ (A[k]);have hkx:A[k]?=some x:=(by rw[ws hkM,hx]);have hkd:(A.map AcI.d)[k]?=some x.d:=(by rw[List.getElem?_map,hkx];rfl);have hstep:=kg (L:=LS) hkd;have hlen:=gX ((A.map AcI.d).take k) LS;rw[wE] at hlen;obtain⟨gs,hgs⟩:=e_ (fJ ((A.map AcI.d).take k) LS);rw[hgs] at hrow hlen hstep;obtain⟨n,hn⟩:=e_ gs.length;rw[hn] at hrow hlen;obtain⟨la,lc,rfl,-⟩:=aq hrow;have hn2:n≤1000:=(by omega);obtain⟨b,off,cp,hf,-,hc⟩:=HR.out.cells hkx;rw[HL.out] at hf;simp only[wy,true_and] at hf;obtain⟨rfl,rfl⟩:=hf;obtain⟨xj,xit,⟨xa,xc⟩,xver⟩:=x;obtain⟨jb,hjb⟩:=e_ (ByteArray.mk xj.toArray);obtain⟨ff,hff⟩:=e_ (kR (bO LS xj))
   have CI1:∀W,Bl w W→Calls prog 72 #[.agg #[.slice oa ol oc,.int .i64 ov],.string jb] W (lI W ff):=fun W hb=>by rw[←hff,show xj=jb.data.toList by rw[←hjb]];exact CI.out jb W hb
   replace CI1:=h_ CI1;have HJB:=h_ hjb;have HN:=h_ hn
   have HT:Hid (fJ ((A.map AcI.d).take (k+1)) LS=gs++if ff=true then [xj] else []):=h_ (by rw[←hff];exact hstep)
   have HC0:Hid (∀W',Bl w W'→W'.cell? ⟨b,off+k*3,none⟩=some (.string jb)):=h_ (fun W' hb=>by rw[←hjb];exact hc W' hb 0 _ rfl)
   have HB:Hid (∀g,(Value.slice la n lc).ownBlock=some g→Ab+1≤g):=h_ (fun g hg=>(hrow.lt g hg).1)
   have o_l:OwX w [w.heap.size,Ab] 9 1 (.slice la n lc) n (aY gs) wr:=⟨hrow.mono (by have:=HAB.out;omega),fun g hg hm=>by have h1:=HB.out g hg;have h2:=HAB.out;simp only[List.mem_cons,List.not_mem_nil,or_false] at hm;omega⟩;clear hx hkx hkd hkM hn hrow hlen hstep hgs hc hjb hff;have j0:=HC0.out wr q;have c_c0:=bs.b3 0;go_upto_region 6 with fail;clear c_c0;clear j0;go_cut [9,10] (fun s9 s10 wx=>∃(X:Nat) (yj yn:ByteArray) (ga:Option Addr) (gl gc:Nat) (e1 e2 e3 e4 k1 is:Bool),s9=.pointer (some ⟨X,0,none⟩)∧s10=.bool is∧(is&&e3)=ff∧OwX w [w.heap.size,Ab,X] 9 1 (.slice la n lc) n (aY gs) wx∧Sx w [(w.heap.size,[.slice (some ⟨b,off,none⟩) LA1 b1,.slice r1 LR1 s1,.int .i64 m1]),(Ab,[.string ob,.slice oa ol oc,.int .i64 ov]),(X,[.string yj,.string yn,.slice ga gl gc,.bool e1,.bool e2,.bool e3,.bool e4,.bool k1])] wx)
   case first=>
    replace o_l:=o_l.ret (wA (bQ _));replace bs:=bs.ret (wA (bQ _));replace q:=bs.q
    have y21:wr.drew.heap.size=wr.heap.size:=rfl
    refine wp_region_held_drew (S:=fun w'=>w'.cell? ⟨w.heap.size,0,none⟩=some (.slice (some ⟨b,off,none⟩) LA1 b1)∧w'.cell? ⟨Ab,1,none⟩=some (.slice oa ol oc)∧w'.cell? ⟨Ab,2,none⟩=some (.int .i64 ov)∧w'.cell? ⟨b,off+k*3,none⟩=some (.string jb)) (by kernel_rfl) ⟨bs.at 0 0,bs.at 1 1,bs.at 1 2,HC0.out _ q⟩ (fun hH=>?_);generalize wr.drew=w21 at bs o_l q y21 hH ⊢;refine rS [(0,some 25),(1,some 26),(2,some 27),(3,some 28),(4,some 29),(5,some 30),(6,some 31),(7,some 32)] ?_
    iterate 8 refine aS ?_
    refine rE ?_;refine wpAnyH_ready (rs:=[8,12]) (by kernel_rfl) (by simp) ?_;refine az (by kernel_rfl) (fun o ho K hK=>?_) ?_
    ·simp only[wQ,wR,wS,wT] at ho
     subst ho;go_simp;refine(CI1.out w21 q).mono ?_;rintro e w22 ⟨yj,yn,ga,gl,gc,e1,e2,e3,e4,k1,is,rfl,hf,hb⟩;replace o_l:=o_l.ret hb;replace bs:=bs.ret hb;replace q:=bs.q;clear hb;go_simp;clear hH;refine hK.out _ _ ⟨bs.at 0 0,bs.at 1 1,bs.at 1 2,HC0.out _ q⟩ (fun hH=>?_);clear hK K;refine rS [(9,some 24),(10,some 34),(11,some 35)] ?_
     iterate 3 refine aS ?_
     refine rE ?_
     refine aC (i:=12) fun K hK=>?_
     go_simp;obtain⟨w23,hw23,y23,al,bs⟩:=bs.alloc (w22.heap.size) rfl [.string ⟨#[]⟩,.string ⟨#[]⟩,.slice none 0 0,.bool false,.bool false,.bool false,.bool false,.bool false] 99;replace o_l:=o_l.alloc (w22.heap.size) rfl al;clear al;replace q:=bs.q;rw[hw23];clear hH;refine hK.out _ _ ⟨bs.at 0 0,bs.at 1 1,bs.at 1 2,HC0.out _ q⟩ (fun hH=>?_);clear hK K
     refine aC (i:=13) fun K hK=>?_
     have c_x0:=bs.b8 2;have f_x0:=bs.fz 2 0;have f_x1:=bs.fz 2 1;have f_x2:=bs.fz 2 2;have f_x3:=bs.fz 2 3;have f_x4:=bs.fz 2 4;have f_x5:=bs.fz 2 5;have f_x6:=bs.fz 2 6;have f_x7:=bs.fz 2 7;go_simp;clear c_x0 f_x0 f_x1 f_x2 f_x3 f_x4 f_x5 f_x6 f_x7;obtain⟨w24,hw24,y24,bs⟩:=bs.sets 2 0 [.string yj,.string yn,.slice ga gl gc,.bool e1,.bool e2,.bool e3,.bool e4,.bool k1] rfl (wu rfl);replace o_l:=o_l.sets 2 rfl hw24;replace q:=bs.q;simp only[wv,Nat.reduceAdd] at hw24;rw[hw24];clear hH;refine hK.out _ _ ⟨bs.at 0 0,bs.at 1 1,bs.at 1 2,HC0.out _ q⟩ (fun hH=>?_);clear hK K;refine rS [(14,some 10)] ?_;refine aS ?_;refine rE ?_;refine aD ?_;clear hH;go_wp2_with fail;go_meet;exact⟨_,yj,yn,ga,gl,gc,e1,e2,e3,e4,k1,is,rfl,rfl,hf,o_l,bs⟩
    refine az (by kernel_rfl) (fun o ho K hK=>?_) ?_
    ·simp only[wQ,wR,wS,wT] at ho
     subst ho;go_simp;obtain⟨w22,hw22,y22,al,bs⟩:=bs.alloc (wr.heap.size) (by omega) [.string ⟨#[]⟩,.string ⟨#[]⟩,.slice none 0 0,.bool false,.bool false,.bool false,.bool false,.bool false] 99;replace o_l:=o_l.alloc (wr.heap.size) (by omega) al;clear al;replace q:=bs.q;rw[hw22];clear hH;refine hK.out _ _ ⟨bs.at 0 0,bs.at 1 1,bs.at 1 2,HC0.out _ q⟩ (fun hH=>?_);clear hK K
     refine aC (i:=8) fun K hK=>?_
     go_simp;refine(CI1.out w22 q).mono ?_;rintro e w23 ⟨yj,yn,ga,gl,gc,e1,e2,e3,e4,k1,is,rfl,hf,hb⟩;replace o_l:=o_l.ret hb;replace bs:=bs.ret hb;replace q:=bs.q;clear hb;go_simp;clear hH;refine hK.out _ _ ⟨bs.at 0 0,bs.at 1 1,bs.at 1 2,HC0.out _ q⟩ (fun hH=>?_);clear hK K;refine rS [(9,some 24),(10,some 34),(11,some 35)] ?_
     iterate 3 refine aS ?_
     refine rE ?_
     refine aC (i:=13) fun K hK=>?_
     have c_x0:=bs.b8 2;have f_x0:=bs.fz 2 0;have f_x1:=bs.fz 2 1;have f_x2:=bs.fz 2 2;have f_x3:=bs.fz 2 3;have f_x4:=bs.fz 2 4;have f_x5:=bs.fz 2 5;have f_x6:=bs.fz 2 6;have f_x7:=bs.fz 2 7;go_simp;clear c_x0 f_x0 f_x1 f_x2 f_x3 f_x4 f_x5 f_x6 f_x7;obtain⟨w24,hw24,y24,bs⟩:=bs.sets 2 0 [.string yj,.string yn,.slice ga gl gc,.bool e1,.bool e2,.bool e3,.bool e4,.bool k1] rfl (wu rfl);replace o_l:=o_l.sets 2 rfl hw24;replace q:=bs.q;simp only[wv,Nat.reduceAdd] at hw24;rw[hw24];clear hH;refine hK.out _ _ ⟨bs.at 0 0,bs.at 1 1,bs.at 1 2,HC0.out _ q⟩ (fun hH=>?_);clear hK K;refine rS [(14,some 10)] ?_;refine aS ?_;refine rE ?_;refine aD ?_;clear hH;go_wp2_with fail;go_meet;exact⟨_,yj,yn,ga,gl,gc,e1,e2,e3,e4,k1,is,rfl,rfl,hf,o_l,bs⟩
    exact AllReadyH.nil
   case rest=>
    obtain⟨X,yj,yn,ga,gl,gc,e1,e2,e3,e4,k1,is,rfl,rfl,hf,o_l,bs1⟩:=hcut;clear bs q;have bs:=bs1;clear bs1;have q:=bs.q;subst hf
    cases is with
    | false=>
     have c_c0:=bs.b3 0;go_wp2_with fail;clear c_c0;go_roundw
     case rel=>exact⟨k+1,by go_num,by omega,by rw[show fJ ((A.map AcI.d).take (k+1)) LS=gs from HT.out.trans (ww gs),HN.out];exact gw o_l.1 HB.out,bs.some 2⟩
     case measure=>simp[intOf];omega
    | true=>
     cases e3 with
     | false=>
      have c_c0:=bs.b3 0;have c_x0:=bs.b8 2;go_wp2_with fail;clear c_c0 c_x0;go_roundw
      case rel=>exact⟨k+1,by go_num,by omega,by rw[show fJ ((A.map AcI.d).take (k+1)) LS=gs from HT.out.trans (ww gs),HN.out];exact gw o_l.1 HB.out,bs.some 2⟩
      case measure=>simp[intOf];omega
     | true=>
      have j0:=HC0.out wc q;have c_c0:=bs.b3 0;have c_x0:=bs.b8 2;go_wp2_with (at_builtin;refine Hid.out ?_);clear c_c0 c_x0;clear j0;obtain⟨w61,hw61,y61,al,bs⟩:=bs.alloc (wc.heap.size) rfl [.string jb] 9;replace o_l:=o_l.alloc (wc.heap.size) rfl al;clear al;replace q:=bs.q;rw[hw61];have hAz:=bs.lt _ (wC (i:=1) rfl);refine ai rfl _ _ _ rfl (Ab+1) 9 i0' _ 1 16 underlying26 hi hz0 hz1 hz2 rfl (by omega) _ n (aY gs) rfl (gw o_l.1 HB.out) _ (by rfl) 1 [.string jb] ((bs.box 3 rfl).row rfl) (by intro u hu;cases wH.1 hu;rfl) (by omega) (by omega) (by exact hAz) ?_;intro v' w' hown hgr;replace bs:=bs.grown hgr (fun g hg=>⟨(o_l.1.lt g hg).1,o_l.2 g hg⟩);clear o_l q hAz;go_wp2_with fail;go_roundw
      case rel=>exact⟨k+1,by go_num,by omega,by rw[show fJ ((A.map AcI.d).take (k+1)) LS=gs++[xj] from HT.out,wI,HN.out,cD,HJB.out];exact hown,bs.some 2⟩
      case measure=>simp[intOf];omega
  ·have wl : ¬ (k : Int) < (LA1 : Int) := by omega
   have e:(A.map AcI.d).take k=A.map AcI.d:=wz (by rw[wP,HL.out];omega)
   rw[e] at hrow;have HRW:=h_ hrow;clear hrow e;have c_c0:=bs.b3 0;go_wp2_with fail;go_ret;exact⟨_,rfl,⟨HRW.out.mono (wt _),fun g hg=>by have h1:=(HRW.out.lt g hg).1;have h2:=HAB.out;omega⟩,q⟩
theorem qw (c:CoI) (tb:ByteArray) (w:World) (hs:IsL acY c.av c.A w) (hz:c.A.length≤1000) (hi:∀a∈c.A,a.it.length≤1000):Calls prog 29 #[c.v,.string tb] w (dB w (ku (c.A.map AcI.d) tb.data.toList)):=by
 obtain⟨x0,hx0⟩:=e_ ((fdA c.A tb.data.toList).getD oL)
 have hd:((fiG acN (c.A.map AcI.d) tb.data.toList).getD ac0).2.1=x0.it.map Prod.fst:=by
  rw[←hx0]
  show ((List.find? (fun a:Ac=>a.1==tb.data.toList) (c.A.map AcI.d)).getD ac0).2.1=_
  rw[List.find?_map]
  show ((Option.map AcI.d (fdA c.A tb.data.toList)).getD ac0).2.1=_
  cases fdA c.A tb.data.toList with
  | none=>rfl
  | some x=>rfl
 unfold ku;rw[hd]
 have hx:aw x0.iv x0.it w∧x0.it.length≤1000:=by
  rw[←hx0]
  cases h:fdA c.A tb.data.toList with
  | none=>exact⟨aw.nil w,by decide⟩
  | some x=>exact⟨hs.2.2 x (wU h),hi x (wU h)⟩
 have CF:=fun (W:World) (hb:Bl w W)=>eF c tb W (hs.ret hb) (by omega)
 rw[hx0] at CF;obtain⟨A,⟨a1,b1⟩,R,⟨r1,s1⟩,m1⟩:=c;exact mJ A a1 r1 b1 R.length s1 m1 x0 (fdA A tb.data.toList).isSome tb w hs hz CF hx.1 hx.2
end Go.Proofs.YtjgeiieiinmdnaaGreatDoor
