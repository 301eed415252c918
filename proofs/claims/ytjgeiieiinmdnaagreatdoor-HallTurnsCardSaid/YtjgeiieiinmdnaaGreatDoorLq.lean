/- DcA, DcB, DcC, DcD, DcE: put together by mergetpl.py. -/
import Derived.Test.YtjgeiieiinmdnaaGreatDoorLp
open Go.Proofs.Tryz
open Bool renaming true_and→wt
open Go.Lib renaming toList_data→wh
open Go.RowKit.Below renaming drew→ws
open Go.Value.slice renaming injEq→ww
open Go.World renaming setCells→wq
open List renaming getElem?_eq_getElem→wu
open Nat renaming le_of_ble_eq_true→wo,zero_le→wv
open Option renaming getD_some→wy
namespace Go.Proofs.YtjgeiieiinmdnaaGreatDoor
set_option maxHeartbeats 4000000
set_option maxRecDepth 100000
open Go.RowKit Go.Lib

theorem iL (s X Y Z T:ByteArray) (w:World)
  (CP:∀w:World,Calls prog 127 #[.string s] w (Ret w (.tuple #[jV X Y Z,.int .i64 190])))
  (CW:∀w:World,Calls prog 128 #[jV X Y Z] w (Ret w (.string T))):
  Calls prog 121 #[.string s] w (Ret w (.tuple #[jV X Y Z,.bool false])):=by
 have CP:=h_ CP;have CW:=h_ CW;obtain⟨W0,hW,y0,bs⟩:=Sx.start1 w [.string ⟨#[]⟩,.string ⟨#[]⟩,.string ⟨#[]⟩] 117;have HW:=h_ hW;clear hW;have q:=bs.q;go_enter func121,ntmps121;go_wp2_with fail;rw[HW.out];refine(CP.out W0).mono ?_;rintro e w1 ⟨rfl,hb⟩;replace bs:=bs.ret hb;replace q:=bs.q;clear hb;go_upto_region 2 with fail;obtain⟨w2,xr,y2,al,bs⟩:=bs.alloc (w1.heap.size) rfl [.string X,.string Y,.string Z] 117;clear al;replace q:=bs.q;rw[xr];replace bs:=bs.ret (ws (bQ _));replace q:=bs.q
 have y3:w2.drew.heap.size=w2.heap.size:=rfl
 refine wp_region_held_drew (S:=fun w'=>w'.cell? ⟨w1.heap.size,0,none⟩=some (.string X)∧w'.cell? ⟨w1.heap.size,1,none⟩=some (.string Y)∧w'.cell? ⟨w1.heap.size,2,none⟩=some (.string Z)) (by kernel_rfl) ⟨bs.at 1 0,bs.at 1 1,bs.at 1 2⟩ (fun hH=>?_);generalize w2.drew=w3 at bs q y3 hH ⊢;refine rS [(0,some 11),(1,some 12),(2,some 13),(3,some 14)] ?_
 iterate 4 refine aS ?_
 refine rE ?_;refine rS [(4,some 15),(5,some 16),(6,some 17),(7,some 18)] ?_
 iterate 4 refine aF ?_
 refine rE ?_;refine rS [(8,some 19)] ?_;refine aS ?_;refine rE ?_
 refine aC (i:=9) fun K hK=>?_
 have xn:=bs.b3 0;have xo:=bs.g3 0;go_simp;clear xn xo;obtain⟨w4,xN,y4,bs⟩:=bs.sets 0 0 [.string X,.string Y,.string Z] rfl (wo rfl);replace q:=bs.q;simp only[wq,Nat.reduceAdd] at xN;rw[xN];clear hH;refine hK.out _ _ ⟨bs.at 1 0,bs.at 1 1,bs.at 1 2⟩ (fun hH=>?_);clear hK K;refine rS [(10,some 3)] ?_;refine aS ?_;refine rE ?_;refine aD ?_;clear hH;go_wp2_with fail;refine bodyPost_ret (ix rfl rfl rfl (bs.box 0 rfl)) rfl ⟨rfl,q⟩
theorem iY (s X Y Z T:ByteArray) (w:World) (hT:(T.toList==s.toList)=true)
  (CP:∀w:World,Calls prog 127 #[.string s] w (Ret w (.tuple #[jV X Y Z,.int .i64 0])))
  (CW:∀w:World,Calls prog 128 #[jV X Y Z] w (Ret w (.string T))):
  Calls prog 121 #[.string s] w (Ret w (.tuple #[jV X Y Z,.bool true])):=by
 have CP:=h_ CP;have CW:=h_ CW;obtain⟨W0,hW,y0,bs⟩:=Sx.start1 w [.string ⟨#[]⟩,.string ⟨#[]⟩,.string ⟨#[]⟩] 117;have HW:=h_ hW;clear hW;have q:=bs.q;go_enter func121,ntmps121;go_wp2_with fail;rw[HW.out];refine(CP.out W0).mono ?_;rintro e w1 ⟨rfl,hb⟩;replace bs:=bs.ret hb;replace q:=bs.q;clear hb;go_upto_region 2 with fail;obtain⟨w2,xr,y2,al,bs⟩:=bs.alloc (w1.heap.size) rfl [.string X,.string Y,.string Z] 117;clear al;replace q:=bs.q;rw[xr];replace bs:=bs.ret (ws (bQ _));replace q:=bs.q
 have y3:w2.drew.heap.size=w2.heap.size:=rfl
 refine wp_region_held_drew (S:=fun w'=>w'.cell? ⟨w1.heap.size,0,none⟩=some (.string X)∧w'.cell? ⟨w1.heap.size,1,none⟩=some (.string Y)∧w'.cell? ⟨w1.heap.size,2,none⟩=some (.string Z)) (by kernel_rfl) ⟨bs.at 1 0,bs.at 1 1,bs.at 1 2⟩ (fun hH=>?_);generalize w2.drew=w3 at bs q y3 hH ⊢;refine rS [(0,some 11),(1,some 12),(2,some 13),(3,some 14),(4,some 15),(6,some 17)] ?_
 iterate 6 refine aS ?_
 refine rE ?_
 refine aC (i:=5) fun K hK=>?_
 go_simp;refine(CW.out w3).mono ?_;rintro e w4 ⟨rfl,hb⟩;replace bs:=bs.ret hb;replace q:=bs.q;clear hb;go_simp;clear hH;refine hK.out _ _ ⟨bs.at 1 0,bs.at 1 1,bs.at 1 2⟩ (fun hH=>?_);clear hK K;refine rS [(7,some 18),(8,some 19)] ?_
 iterate 2 refine aS ?_
 refine rE ?_
 refine aC (i:=9) fun K hK=>?_
 have xn:=bs.b3 0;have xo:=bs.g3 0;go_simp;clear xn xo;obtain⟨w5,xF,y5,bs⟩:=bs.sets 0 0 [.string X,.string Y,.string Z] rfl (wo rfl);replace q:=bs.q;simp only[wq,Nat.reduceAdd] at xF;rw[xF];clear hH;refine hK.out _ _ ⟨bs.at 1 0,bs.at 1 1,bs.at 1 2⟩ (fun hH=>?_);clear hK K;refine rS [(10,some 3)] ?_;refine aS ?_;refine rE ?_;refine aD ?_;clear hH;go_wp2_with fail;refine bodyPost_ret (ix rfl rfl rfl (bs.box 0 rfl)) rfl ⟨rfl,q⟩
theorem jh (s X Y Z T:ByteArray) (w:World) (hT:(T.toList==s.toList)=false)
  (CP:∀w:World,Calls prog 127 #[.string s] w (Ret w (.tuple #[jV X Y Z,.int .i64 0])))
  (CW:∀w:World,Calls prog 128 #[jV X Y Z] w (Ret w (.string T))):
  Calls prog 121 #[.string s] w (Ret w (.tuple #[jV X Y Z,.bool false])):=by
 have CP:=h_ CP;have CW:=h_ CW;obtain⟨W0,hW,y0,bs⟩:=Sx.start1 w [.string ⟨#[]⟩,.string ⟨#[]⟩,.string ⟨#[]⟩] 117;have HW:=h_ hW;clear hW;have q:=bs.q;go_enter func121,ntmps121;go_wp2_with fail;rw[HW.out];refine(CP.out W0).mono ?_;rintro e w1 ⟨rfl,hb⟩;replace bs:=bs.ret hb;replace q:=bs.q;clear hb;go_upto_region 2 with fail;obtain⟨w2,xr,y2,al,bs⟩:=bs.alloc (w1.heap.size) rfl [.string X,.string Y,.string Z] 117;clear al;replace q:=bs.q;rw[xr];replace bs:=bs.ret (ws (bQ _));replace q:=bs.q
 have y3:w2.drew.heap.size=w2.heap.size:=rfl
 refine wp_region_held_drew (S:=fun w'=>w'.cell? ⟨w1.heap.size,0,none⟩=some (.string X)∧w'.cell? ⟨w1.heap.size,1,none⟩=some (.string Y)∧w'.cell? ⟨w1.heap.size,2,none⟩=some (.string Z)) (by kernel_rfl) ⟨bs.at 1 0,bs.at 1 1,bs.at 1 2⟩ (fun hH=>?_);generalize w2.drew=w3 at bs q y3 hH ⊢;refine rS [(0,some 11),(1,some 12),(2,some 13),(3,some 14),(4,some 15),(6,some 17)] ?_
 iterate 6 refine aS ?_
 refine rE ?_
 refine aC (i:=5) fun K hK=>?_
 go_simp;refine(CW.out w3).mono ?_;rintro e w4 ⟨rfl,hb⟩;replace bs:=bs.ret hb;replace q:=bs.q;clear hb;go_simp;clear hH;refine hK.out _ _ ⟨bs.at 1 0,bs.at 1 1,bs.at 1 2⟩ (fun hH=>?_);clear hK K;refine rS [(7,some 18),(8,some 19)] ?_
 iterate 2 refine aS ?_
 refine rE ?_
 refine aC (i:=9) fun K hK=>?_
 have xn:=bs.b3 0;have xo:=bs.g3 0;go_simp;clear xn xo;obtain⟨w5,xF,y5,bs⟩:=bs.sets 0 0 [.string X,.string Y,.string Z] rfl (wo rfl);replace q:=bs.q;simp only[wq,Nat.reduceAdd] at xF;rw[xF];clear hH;refine hK.out _ _ ⟨bs.at 1 0,bs.at 1 1,bs.at 1 2⟩ (fun hH=>?_);clear hK K;refine rS [(10,some 3)] ?_;refine aS ?_;refine rE ?_;refine aD ?_;clear hH;go_wp2_with fail;refine bodyPost_ret (ix rfl rfl rfl (bs.box 0 rfl)) rfl ⟨rfl,q⟩
theorem bV (s:ByteArray) (w:World) (hs:s.size≤10000):Calls prog 121 #[.string s] w (Ret w (fX s.data.toList)):=by
 have CP:=fun w=>fL s w hs
 have hz:=ab s;unfold nI at CP;unfold fX adr bm;obtain⟨z1,z2,z3⟩:=cu s.data.toList
 cases hp:cP s.data.toList with
 | false=>
  rw[hp,if_neg (by decide)] at CP;simp only[Bool.false_eq_true,if_false,Bool.false_and];exact iL s _ _ _ _ w CP (fun w=>dy ⟨#[]⟩ ⟨#[]⟩ ⟨#[]⟩ w (by decide) (by decide) (by decide))
 | true=>
  rw[hp,if_pos rfl] at CP;simp only[if_true,wt]
  have CW:=fun w=>dy (jB (aO s.data.toList)) (jB (aZ s.data.toList)) (jB (aP s.data.toList)) w (by rw[ai];omega) (by rw[ai];omega) (by rw[ai];omega)
  rw[ah,ah,ah] at CW
  by_cases hT:bC (aO s.data.toList) (aZ s.data.toList) (aP s.data.toList)=s.data.toList
  ·have e1:((jB (bC (aO s.data.toList) (aZ s.data.toList) (aP s.data.toList))).toList==s.toList)=true:=by
    rw[wh,wh,ah,hT];simp
   rw[decide_eq_true hT];exact iY s _ _ _ _ w e1 CP CW
  ·have e1:((jB (bC (aO s.data.toList) (aZ s.data.toList) (aP s.data.toList))).toList==s.toList)=false:=by
    rw[wh,wh,ah];simpa using hT
   rw[decide_eq_false hT];exact jh s _ _ _ _ w e1 CP CW
theorem hJ (s X Y Z T:ByteArray) (e:Int) (w:World)
  (CP:∀w:World,Calls prog 127 #[.string s] w (Ret w (.tuple #[jV X Y Z,.int .i64 e])))
  (CW:∀w:World,Calls prog 128 #[jV X Y ⟨#[]⟩] w (Ret w (.string T))):
  Calls prog 139 #[.string s] w (Ret w (.string T)):=by
 have CP:=h_ CP;have CW:=h_ CW;have bs:=Sx.start w;have q:=bs.q;go_enter func139,ntmps139;go_wp2_with fail;refine(CP.out w).mono ?_;rintro e w1 ⟨rfl,hb⟩;replace bs:=bs.ret hb;replace q:=bs.q;clear hb;have d0:=(bs.lit (w1.heap.size) rfl [.string X,.string Y,.string Z] 117);have xp:=d0.b3 0;go_wp2_with fail;clear d0 xp;obtain⟨w2,xr,y2,al,bs⟩:=bs.alloc (w1.heap.size) rfl [.string X,.string Y,.string Z] 117;clear al;replace q:=bs.q;rw[xr];refine(qM X Y Z w2).mono ?_;rintro e w3 ⟨rfl,hb⟩;replace bs:=bs.ret hb;replace q:=bs.q;clear hb;go_wp2_with fail;refine(CW.out w3).mono ?_;rintro e w4 ⟨rfl,hb⟩;replace bs:=bs.ret hb;replace q:=bs.q;clear hb;go_wp2_with fail;go_ret;exact⟨rfl,q⟩
theorem qS (s:ByteArray) (w:World) (hs:s.size≤10000):Calls prog 139 #[.string s] w (Ret w (.string (jB (db s.data.toList)))):=by
 have CP:=fun w=>fL s w hs
 have hz:=ab s;unfold nI at CP;unfold db;obtain⟨z1,z2,z3⟩:=cu s.data.toList
 cases hp:cP s.data.toList with
 | false=>
  rw[hp,if_neg (by decide)] at CP;rw[if_neg (by decide)];exact hJ s _ _ _ _ _ w CP (fun w=>dy ⟨#[]⟩ ⟨#[]⟩ ⟨#[]⟩ w (by decide) (by decide) (by decide))
 | true=>
  rw[hp,if_pos rfl] at CP;rw[if_pos rfl];refine hJ s _ _ _ _ _ w CP (fun w=>?_);have k:=dy (jB (aO s.data.toList)) (jB (aZ s.data.toList)) ⟨#[]⟩ w (by rw[ai];omega) (by rw[ai];omega) (by decide);rw[ah,ah,show ((⟨#[]⟩:ByteArray).data.toList)=[] from rfl] at k;exact k
theorem gS (s X Y Z:ByteArray) (w:World)
  (CA:∀w:World,Calls prog 121 #[.string s] w (Ret w (.tuple #[jV X Y Z,.bool false]))):
  Calls prog 59 #[.string s] w (Ret w (.bool false)):=by
 have CA:=h_ CA;have bs:=Sx.start w;have q:=bs.q;go_enter func59,ntmps59;go_wp2_with fail;refine(CA.out w).mono ?_;rintro e w1 ⟨rfl,hb⟩;replace bs:=bs.ret hb;replace q:=bs.q;clear hb;have d0:=(bs.lit (w1.heap.size) rfl [.string X,.string Y,.string Z] 117);have xp:=d0.b3 0;go_wp2_with fail;clear d0 xp;obtain⟨w2,xr,y2,al,bs⟩:=bs.alloc (w1.heap.size) rfl [.string X,.string Y,.string Z] 117;clear al;replace q:=bs.q;rw[xr];go_ret;exact⟨rfl,q⟩
theorem jq (s X Y Z:ByteArray) (w:World) (c:Bool) (CM:∀w:World,Calls prog 122 #[jV X Y Z] w (Ret w (.bool c)))
  (CA:∀w:World,Calls prog 121 #[.string s] w (Ret w (.tuple #[jV X Y Z,.bool true]))):
  Calls prog 59 #[.string s] w (Ret w (.bool c)):=by
 have CA:=h_ CA;have CM:=h_ CM;have bs:=Sx.start w;have q:=bs.q;go_enter func59,ntmps59;go_wp2_with fail;refine(CA.out w).mono ?_;rintro e w1 ⟨rfl,hb⟩;replace bs:=bs.ret hb;replace q:=bs.q;clear hb;have d0:=(bs.lit (w1.heap.size) rfl [.string X,.string Y,.string Z] 117);have xp:=d0.b3 0;go_wp2_with fail;clear d0 xp;obtain⟨w2,xr,y2,al,bs⟩:=bs.alloc (w1.heap.size) rfl [.string X,.string Y,.string Z] 117;clear al;replace q:=bs.q;rw[xr];refine(CM.out w2).mono ?_;rintro e w3 ⟨rfl,hb⟩;replace bs:=bs.ret hb;replace q:=bs.q;clear hb;go_wp2_with fail;go_ret;exact⟨rfl,q⟩
theorem qi (s:ByteArray) (w:World) (hs:s.size≤10000):Calls prog 59 #[.string s] w (Ret w (.bool (cG s.data.toList))):=by
 have CA:=fun w=>bV s w hs
 unfold fX at CA;unfold cG;have hz:=ab s
 cases h:bm s.data.toList with
 | false=>
  rw[h] at CA;exact gS s _ _ _ w CA
 | true=>
  rw[h] at CA;rw[wt];have hp:=iF h;obtain⟨z1,z2,z3⟩:=cu s.data.toList;have hk:=de hp;unfold adr at CA;rw[if_pos hp] at CA;refine jq s _ _ _ w _ (fun w=>?_) CA;have k:=qJ (jB (aO s.data.toList)) (jB (aZ s.data.toList)) (jB (aP s.data.toList)) w (by rw[ai];omega) (by rw[ai];omega) (by rw[ai];omega);rw[ah,ah,ah,hk,wt] at k;exact k
theorem mF (s t X Y Z X2 Y2 Z2:ByteArray) (b b2 c:Bool) (w:World)
  (CA:∀w:World,Calls prog 121 #[.string s] w (Ret w (.tuple #[jV X Y Z,.bool b])))
  (CB:∀w:World,Calls prog 121 #[.string t] w (Ret w (.tuple #[jV X2 Y2 Z2,.bool b2])))
  (CL:∀w:World,Calls prog 123 #[jV X Y Z,jV X2 Y2 Z2] w (Ret w (.bool c))):
  Calls prog 60 #[.string s,.string t] w (Ret w (.bool c)):=by
 have CA:=h_ CA;have CB:=h_ CB;have CL:=h_ CL;have bs:=Sx.start w;have q:=bs.q;go_enter func60,ntmps60;go_wp2_with fail;refine(CA.out w).mono ?_;rintro e w1 ⟨rfl,hb⟩;replace bs:=bs.ret hb;replace q:=bs.q;clear hb;go_wp2_with fail;obtain⟨w2,xr,y2,al,bs⟩:=bs.alloc (w1.heap.size) rfl [.string X,.string Y,.string Z] 117;clear al;replace q:=bs.q;rw[xr];refine(CB.out w2).mono ?_;rintro e w3 ⟨rfl,hb⟩;replace bs:=bs.ret hb;replace q:=bs.q;clear hb;have xV:=bs.b3 0;have d0:=(bs.lit (w3.heap.size) rfl [.string X2,.string Y2,.string Z2] 117);have xp:=d0.b3 1;have xO:=d0.b3 0;go_wp2_with fail;clear xV d0 xp xO;obtain⟨w4,xN,y4,al,bs⟩:=bs.alloc (w3.heap.size) rfl [.string X2,.string Y2,.string Z2] 117;clear al;replace q:=bs.q;rw[xN];refine(CL.out w4).mono ?_;rintro e w5 ⟨rfl,hb⟩;replace bs:=bs.ret hb;replace q:=bs.q;clear hb;go_wp2_with fail;go_ret;exact⟨rfl,q⟩
theorem fu (s t:ByteArray) (w:World) (hs:s.size≤10000) (ht:t.size≤10000):Calls prog 60 #[.string s,.string t] w (Ret w (.bool (au s.data.toList t.data.toList))):=by
 have CA:=fun w=>bV s w hs
 have CB:=fun w=>bV t w ht
 unfold fX at CA CB;refine mF s t _ _ _ _ _ _ _ _ _ w CA CB (fun w=>?_);have k:=mc (jB (adr s.data.toList).1) (jB (adr s.data.toList).2.1) (jB (adr s.data.toList).2.2) (jB (adr t.data.toList).1) (jB (adr t.data.toList).2.1) (jB (adr t.data.toList).2.2) w;rw[ah,ah,ah,ah,ah,ah] at k;exact k

def uh:AcI:=⟨[],[],(none,0),0⟩
def uk:RsI:=⟨[],false,0,[],(none,0),false,[],(none,0)⟩
def fdA (A:List AcI) (t:List UInt8):Option AcI:=A.find? fun x=>x.j==t
def fdR (R:List RsI) (t:List UInt8):Option RsI:=R.find? fun x=>x.j==t
theorem nT {α:Type} {p:α→Bool} {l:List α} {k:Nat} {x:α} (hx:l[k]?=some x) (h:(l.take k).find? p=none) (hp:p x=true):l.find? p=some x:=by
 have xW:k<l.length:=by
  rcases Nat.lt_or_ge k l.length with h1 | h1
  ·exact h1
  ·rw[List.getElem?_eq_none h1] at hx;cases hx
 have hs:l[k]=x:=by rw[wu xW] at hx;exact Option.some.inj hx
 rw[←List.take_append_drop k l,List.find?_append,h,List.drop_eq_getElem_cons xW,hs,List.find?_cons,hp]
 rfl
theorem oh {α:Type} {p:α→Bool} {l:List α} {k:Nat} {x:α} (hx:l[k]?=some x) (h:(l.take k).find? p=none) (hp:p x=false):(l.take (k+1)).find? p=none:=by
 rw[List.find?_eq_none] at h ⊢;exact eS (P:=fun y=>¬ p y=true) hx h (by rw[hp];decide)
theorem oB {α:Type} {p:α→Bool} {l:List α} {k:Nat} (hk:l.length≤k) (h:(l.take k).find? p=none):l.find? p=none:=by rwa [List.take_of_length_le hk] at h
theorem nR {fn:Func} {tmps:Array Value} {W:World} {R p q:Nat} {v0 v1 v2 e:Value} (h:fn.results=#[.cell p 33,.tmp q]) (h2:tmps.getD p undef=.pointer (some ⟨R,0,none⟩)) (h3:tmps.getD q undef=e) (k:Bx R [v0,v1,v2] W):
  (results fn tmps).run prog W=.ok (.tuple #[.agg #[v0,v1,v2],e]) W:=by
 have c0:=k.at 0 rfl;have c1:=k.at 1 rfl;have c2:=k.at 2 rfl;rw[results_cell_tmp h,h2,h3]
 simp[go_sem,Result.andThen,c0,c1,c2]
theorem nU {fn:Func} {tmps:Array Value} {W:World} {R p q:Nat} {v0 v1 v2 v3 v4 v5 e:Value} (h:fn.results=#[.cell p 38,.tmp q]) (h2:tmps.getD p undef=.pointer (some ⟨R,0,none⟩)) (h3:tmps.getD q undef=e) (k:Bx R [v0,v1,v2,v3,v4,v5] W):
  (results fn tmps).run prog W=.ok (.tuple #[.agg #[v0,v1,v2,v3,v4,v5],e]) W:=by
 have c0:=k.at 0 rfl;have c1:=k.at 1 rfl;have c2:=k.at 2 rfl;have c3:=k.at 3 rfl;have c4:=k.at 4 rfl;have c5:=k.at 5 rfl;rw[results_cell_tmp h,h2,h3]
 simp[go_sem,Result.andThen,c0,c1,c2,c3,c4,c5]
theorem jw (c:CoI) (t:ByteArray) (w:World) (hs:IsL acY c.av c.A w) (hz:c.A.length≤100000):Calls prog 12 #[c.v,.string t] w (Ret w (.tuple #[((fdA c.A t.data.toList).getD uh).v,.bool (fdA c.A t.data.toList).isSome])):=by
 obtain⟨A,⟨a1,b1⟩,R,⟨r1,s1⟩,m1⟩:=c;have hR:IsL acY (.slice a1 A.length b1) A w:=hs
 show Calls _ _ #[.agg #[.slice a1 A.length b1,.slice r1 R.length s1,.int .i64 m1],.string t] w (Ret w (.tuple #[((fdA A t.data.toList).getD uh).v,.bool (fdA A t.data.toList).isSome]))
 obtain⟨o,ho⟩:=e_ (fdA A t.data.toList);rw[ho];obtain⟨xu,xD⟩:=e_ A.length;obtain⟨xw,xE⟩:=e_ R.length;have hz:A.length≤100000:=hz;rw[xD] at hR hz;rw[xD,xE];have HR:=h_ hR;have HL:=h_ xD;have HO:=h_ ho;clear hs hR xD xE ho;obtain⟨W0,hW,y0,bs⟩:=Sx.start2 w [.slice a1 xu b1,.slice r1 xw s1,.int .i64 m1] 25 [.string ⟨#[]⟩,.slice none 0 0,.int .i64 0] 33;have HW:=h_ hW;clear hW;have q:=bs.q;go_enter func12,ntmps12;go_wp2_with fail;rw[HW.out];go_loopw [6] (fun i wx=>∃k:Nat,i=.int .i64 k∧k≤xu∧(A.take k).find? (fun x:AcI=>x.j==t.data.toList)=none∧Sx w [(w.heap.size,[.slice a1 xu b1,.slice r1 xw s1,.int .i64 m1]),(w.heap.size+1,[.string ⟨#[]⟩,.slice none 0 0,.int .i64 0])] wx) (fun i _=>xu-(intOf i).toNat)
 case atStart=>exact⟨0,rfl,wv _,rfl,bs⟩
 case round=>
  clear bs q;obtain⟨k,rfl,hk,hT,bs⟩:=hrel;have q:=bs.q
  by_cases hlt:k<xu
  ·have wl : (k : Int) < (xu : Int) := by omega
   have xG:k<A.length:=(by rw[HL.out];exact hlt);obtain⟨x,hx⟩:=e_ (A[k]);have xx:A[k]?=some x:=(by rw[wu xG,hx]);obtain⟨b,off,cp,hf,-,hc⟩:=HR.out.cells xx;rw[HL.out] at hf;simp only[ww,true_and] at hf;obtain⟨rfl,rfl⟩:=hf
   have xP:=h_ fun h=>nT xx hT h
   have xQ:=h_ fun h=>oh xx hT h
   obtain⟨xj,xR,⟨xa,xc⟩,xz⟩:=x;obtain⟨xl,xS⟩:=e_ xR.length;obtain⟨jb,xy⟩:=e_ (ByteArray.mk xj.toArray)
   have HV:Hid (((⟨xj,xR,(xa,xc),xz⟩:AcI)).v=.agg #[.string jb,.slice xa xl xc,.int .i64 xz]):=h_ (by rw[←xy,←xS])
   have HJ:Hid ((⟨xj,xR,(xa,xc),xz⟩:AcI).j=jb.data.toList):=h_ (by rw[←xy])
   obtain⟨i0,i1,i2⟩:wr.cell? ⟨b,off+k*3,none⟩=some (.string jb)∧wr.cell? ⟨b,off+k*3+1,none⟩=some (.slice xa xl xc)∧wr.cell? ⟨b,off+k*3+2,none⟩=some (.int .i64 xz):=(by rw[←xy,←xS];exact⟨hc wr q 0 _ rfl,hc wr q 1 _ rfl,hc wr q 2 _ rfl⟩);clear hx xx xG hc xS xy hT
   cases h9:(jb.toList==t.toList) with
   | true=>
    have xt:(jb.data.toList==t.data.toList)=true:=(by rw[←wh,←wh];exact h9);have HF:=h_ (xP.out (by rw[HJ.out];exact xt));clear xt;have xq:=bs.b3 0;have xn:=bs.b3 1;have xo:=bs.g3 1;go_wp2_with fail;clear xq xn xo;clear i0 i1 i2;obtain⟨xX,xA,xY,bs⟩:=bs.sets 1 0 [.string jb,.slice xa xl xc,.int .i64 xz] rfl (wo rfl);replace q:=bs.q;simp only[wq,Nat.reduceAdd] at xA;rw[xA];refine bodyPost_ret (nR rfl rfl rfl (bs.box 1 rfl)) rfl ?_;have e1:=HO.out.symm.trans HF.out;subst e1;refine⟨?_,q⟩;rw[wy,HV.out]
    rfl
   | false=>
    have xt:(jb.data.toList==t.data.toList)=false:=(by rw[←wh,←wh];exact h9);have HF:=h_ (xQ.out (by rw[HJ.out];exact xt));clear xt;have xq:=bs.b3 0;go_wp2_with fail;clear xq;go_roundw
    case rel=>exact⟨k+1,by go_num,by omega,HF.out,bs⟩
    case measure=>simp[intOf];omega
  ·have wl : ¬ (k : Int) < (xu : Int) := by omega
   have HF:=h_ (oB (by rw[HL.out];omega) hT);clear hT;have xq:=bs.b3 0;have xn:=bs.b3 1;have xo:=bs.g3 1;go_wp2_with fail;clear xq xn xo;obtain⟨xZ,xB,yd,bs⟩:=bs.sets 1 0 [.string ⟨#[]⟩,.slice none 0 0,.int .i64 0] rfl (wo rfl);replace q:=bs.q;simp only[wq,Nat.reduceAdd] at xB;rw[xB];refine bodyPost_ret (nR rfl rfl rfl (bs.box 1 rfl)) rfl ?_;have e1:=HO.out.symm.trans HF.out;subst e1;exact⟨rfl,q⟩
theorem js (c:CoI) (t:ByteArray) (w:World) (hs:IsL rsY c.rv c.R w) (hz:c.R.length≤100000):Calls prog 14 #[c.v,.string t] w (Ret w (.tuple #[((fdR c.R t.data.toList).getD uk).v,.bool (fdR c.R t.data.toList).isSome])):=by
 obtain⟨A,⟨a1,b1⟩,R,⟨r1,s1⟩,m1⟩:=c;have hR:IsL rsY (.slice r1 R.length s1) R w:=hs
 show Calls _ _ #[.agg #[.slice a1 A.length b1,.slice r1 R.length s1,.int .i64 m1],.string t] w (Ret w (.tuple #[((fdR R t.data.toList).getD uk).v,.bool (fdR R t.data.toList).isSome]))
 obtain⟨o,ho⟩:=e_ (fdR R t.data.toList);rw[ho];obtain⟨xu,xD⟩:=e_ A.length;obtain⟨xw,xE⟩:=e_ R.length;have hz:R.length≤100000:=hz;rw[xE] at hR hz;rw[xD,xE];have HR:=h_ hR;have HL:=h_ xE;have HO:=h_ ho;clear hs hR xD xE ho;obtain⟨W0,hW,y0,bs⟩:=Sx.start2 w [.slice a1 xu b1,.slice r1 xw s1,.int .i64 m1] 25 [.string ⟨#[]⟩,.bool false,.int .i64 0,.slice none 0 0,.bool false,.slice none 0 0] 38;have HW:=h_ hW;clear hW;have q:=bs.q;go_enter func14,ntmps14;go_wp2_with fail;rw[HW.out];go_loopw [6] (fun i wx=>∃k:Nat,i=.int .i64 k∧k≤xw∧(R.take k).find? (fun x:RsI=>x.j==t.data.toList)=none∧Sx w [(w.heap.size,[.slice a1 xu b1,.slice r1 xw s1,.int .i64 m1]),(w.heap.size+1,[.string ⟨#[]⟩,.bool false,.int .i64 0,.slice none 0 0,.bool false,.slice none 0 0])] wx) (fun i _=>xw-(intOf i).toNat)
 case atStart=>exact⟨0,rfl,wv _,rfl,bs⟩
 case round=>
  clear bs q;obtain⟨k,rfl,hk,hT,bs⟩:=hrel;have q:=bs.q
  by_cases hlt:k<xw
  ·have wl : (k : Int) < (xw : Int) := by omega
   have xG:k<R.length:=(by rw[HL.out];exact hlt);obtain⟨x,hx⟩:=e_ (R[k]);have xx:R[k]?=some x:=(by rw[wu xG,hx]);obtain⟨b,off,cp,hf,-,hc⟩:=HR.out.cells xx;rw[HL.out] at hf;simp only[ww,true_and] at hf;obtain⟨rfl,rfl⟩:=hf
   have xP:=h_ fun h=>nT xx hT h
   have xQ:=h_ fun h=>oh xx hT h
   obtain⟨xj,xH,xI,xl,⟨xJ,xK⟩,xC,xs,⟨xL,xM⟩⟩:=x;obtain⟨ll,xT⟩:=e_ xl.length;obtain⟨sl,xU⟩:=e_ xs.length;obtain⟨jb,xy⟩:=e_ (ByteArray.mk xj.toArray)
   have HV:Hid (((⟨xj,xH,xI,xl,(xJ,xK),xC,xs,(xL,xM)⟩:RsI)).v=.agg #[.string jb,.bool xH,.int .i64 xI,.slice xJ ll xK,.bool xC,.slice xL sl xM]):=h_ (by rw[←xy,←xT,←xU])
   have HJ:Hid ((⟨xj,xH,xI,xl,(xJ,xK),xC,xs,(xL,xM)⟩:RsI).j=jb.data.toList):=h_ (by rw[←xy])
   obtain⟨i0,i1,i2,i3,i4,i5⟩:wr.cell? ⟨b,off+k*6,none⟩=some (.string jb)∧wr.cell? ⟨b,off+k*6+1,none⟩=some (.bool xH)∧wr.cell? ⟨b,off+k*6+2,none⟩=some (.int .i64 xI)∧wr.cell? ⟨b,off+k*6+3,none⟩=some (.slice xJ ll xK)∧wr.cell? ⟨b,off+k*6+4,none⟩=some (.bool xC)∧wr.cell? ⟨b,off+k*6+5,none⟩=some (.slice xL sl xM):=(by rw[←xy,←xT,←xU];exact⟨hc wr q 0 _ rfl,hc wr q 1 _ rfl,hc wr q 2 _ rfl,hc wr q 3 _ rfl,hc wr q 4 _ rfl,hc wr q 5 _ rfl⟩);clear hx xx xG hc xT xU xy hT
   cases h9:(jb.toList==t.toList) with
   | true=>
    have xt:(jb.data.toList==t.data.toList)=true:=(by rw[←wh,←wh];exact h9);have HF:=h_ (xP.out (by rw[HJ.out];exact xt));clear xt;have xq:=bs.b3 0;have xn:=bs.b6 1;have xo:=bs.g6 1;go_wp2_with fail;clear xq xn xo;clear i0 i1 i2 i3 i4 i5;obtain⟨xX,xA,xY,bs⟩:=bs.sets 1 0 [.string jb,.bool xH,.int .i64 xI,.slice xJ ll xK,.bool xC,.slice xL sl xM] rfl (wo rfl);replace q:=bs.q;simp only[wq,Nat.reduceAdd] at xA;rw[xA];refine bodyPost_ret (nU rfl rfl rfl (bs.box 1 rfl)) rfl ?_;have e1:=HO.out.symm.trans HF.out;subst e1;refine⟨?_,q⟩;rw[wy,HV.out]
    rfl
   | false=>
    have xt:(jb.data.toList==t.data.toList)=false:=(by rw[←wh,←wh];exact h9);have HF:=h_ (xQ.out (by rw[HJ.out];exact xt));clear xt;have xq:=bs.b3 0;go_wp2_with fail;clear xq;go_roundw
    case rel=>exact⟨k+1,by go_num,by omega,HF.out,bs⟩
    case measure=>simp[intOf];omega
  ·have wl : ¬ (k : Int) < (xw : Int) := by omega
   have HF:=h_ (oB (by rw[HL.out];omega) hT);clear hT;have xq:=bs.b3 0;have xn:=bs.b6 1;have xo:=bs.g6 1;go_wp2_with fail;clear xq xn xo;obtain⟨xZ,xB,yd,bs⟩:=bs.sets 1 0 [.string ⟨#[]⟩,.bool false,.int .i64 0,.slice none 0 0,.bool false,.slice none 0 0] rfl (wo rfl);replace q:=bs.q;simp only[wq,Nat.reduceAdd] at xB;rw[xB];refine bodyPost_ret (nU rfl rfl rfl (bs.box 1 rfl)) rfl ?_;have e1:=HO.out.symm.trans HF.out;subst e1;exact⟨rfl,q⟩



end Go.Proofs.YtjgeiieiinmdnaaGreatDoor
