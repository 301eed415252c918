/- JdA, JdB, Vq: put together by mergetpl.py. -/
import Derived.Test.YtjgeiieiinmdnaaGreatDoorKa
import Derived.Test.YtjgeiieiinmdnaaGreatDoorGh
open Go.Proofs.Tryz
open Go.Lib renaming toList_data→wq
open Go.RowKit.Below renaming drew→wt
open List renaming getElem?_toArray→wu,getElem?_cons_succ→wv,getElem?_cons_zero→ww,mem_map→wz
open Nat renaming le_refl→wh,lt_or_ge→wo,lt_of_lt_of_le→ws
open Option.some renaming injEq→wy
namespace Go.Proofs.YtjgeiieiinmdnaaGreatDoor
set_option maxHeartbeats 8000000
set_option maxRecDepth 100000
open Go.RowKit

theorem rQ (x:ByteArray) (w:World):Calls prog 266 #[.string x] w fun e w'=>e=.returned (.bool false)∧w'=w:=by
 go_enter func266,ntmps266;go_wp2_with fail;go_ret;exact⟨by simp,rfl⟩
def c1P (a b:List UInt8):Int:=if Op.bytesLess a b then -1 else if Op.bytesLess b a then 1 else 0
theorem mY (x y:ByteArray) (w:World):Calls prog 241 #[.string x,.string y] w fun e w'=>e=.returned (.int .i64 (c1P x.data.toList y.data.toList))∧w'=w:=by
 have e1:x.toList=x.data.toList:=wq x
 have e2:y.toList=y.data.toList:=wq y
 have C1:=h_ fun w=>rQ x w
 have C2:=h_ fun w=>rQ y w
 unfold c1P;obtain⟨X,hX⟩:=e_ x.data.toList;obtain⟨Y,hY⟩:=e_ y.data.toList;rw[hX] at e1 ⊢;rw[hY] at e2 ⊢
 rcases bc X Y with ⟨h1,h2,h3⟩ | ⟨h1,h2,h3⟩ | ⟨h1,h2,rfl⟩
 ·rw[h1]
  go_enter func241,ntmps241;go_wp2_with fail;refine(C1.out _).mono ?_;rintro e w1 ⟨rfl,rfl⟩;go_wp2_with fail;refine(C2.out _).mono ?_;rintro e w1 ⟨rfl,rfl⟩;go_wp2_with fail;go_ret;exact⟨rfl,rfl⟩
 ·have h4 : (X == Y) = false := by simpa using h3
  rw[h1,h2];go_enter func241,ntmps241;go_wp2_with fail;refine(C1.out _).mono ?_;rintro e w1 ⟨rfl,rfl⟩;go_wp2_with fail;refine(C2.out _).mono ?_;rintro e w1 ⟨rfl,rfl⟩;go_wp2_with fail;go_ret;exact⟨rfl,rfl⟩
 ·have h4 : (X == X) = true := by simp
  rw[h1];go_enter func241,ntmps241;go_wp2_with fail;refine(C1.out _).mono ?_;rintro e w1 ⟨rfl,rfl⟩;go_wp2_with fail;refine(C2.out _).mono ?_;rintro e w1 ⟨rfl,rfl⟩;go_wp2_with fail;go_ret;exact⟨rfl,rfl⟩
structure JAt (L:Nat) (a b c:ByteArray) (w:World):Prop where
 lt:L<w.heap.size
 c0:w.cell? ⟨L,0,none⟩=some (.string a)
 c1:w.cell? ⟨L,1,none⟩=some (.string b)
 c2:w.cell? ⟨L,2,none⟩=some (.string c)
 f0:w.frozen? ⟨L,0,none⟩=false
 f1:w.frozen? ⟨L,1,none⟩=false
 f2:w.frozen? ⟨L,2,none⟩=false
theorem JAt.ret {L:Nat} {a b c:ByteArray} {w w':World} (h:JAt L a b c w) (hb:Bl w w'):JAt L a b c w':=by
 obtain⟨h0,h1,h2,h3,h4,h5,h6⟩:=h;obtain⟨q,r⟩:=ag hb;exact⟨ws h0 hb.size,(q _ _ h0).trans h1,(q _ _ h0).trans h2,(q _ _ h0).trans h3,(r _ _ h0).trans h4,(r _ _ h0).trans h5,(r _ _ h0).trans h6⟩
abbrev jV (a b c:ByteArray):Value:=.agg #[.string a,.string b,.string c]
theorem JAt.new (w:World) (a b c:ByteArray):JAt w.heap.size a b c (w.alloc (.cells #[.string a,.string b,.string c] 117)):=by constructor <;> simp
def c3P (a b:Adr):Int:=if c1P a.2.1 b.2.1≠0 then c1P a.2.1 b.2.1 else if c1P a.1 b.1≠0 then c1P a.1 b.1 else c1P a.2.2 b.2.2
theorem jn (a b:List UInt8):c1P a b=0↔a=b:=by
 unfold c1P
 rcases bc a b with ⟨h1,h2,h3⟩ | ⟨h1,h2,h3⟩ | ⟨h1,h2,rfl⟩ <;> simp_all
theorem ol (a b:List UInt8):decide (c1P a b<0)=Op.bytesLess a b:=by
 unfold c1P
 rcases bc a b with ⟨h1,h2,h3⟩ | ⟨h1,h2,h3⟩ | ⟨h1,h2,h3⟩ <;> simp[h1,h2]
theorem u9 (a b:Adr):decide (c3P a b<0)=lsP a b:=by
 unfold c3P lsP
 split
 ·rename_i h
  rw[ol]
  rcases bc a.2.1 b.2.1 with ⟨h1,h2,h3⟩ | ⟨h1,h2,h3⟩ | ⟨h1,h2,h3⟩
  ·simp[h1,h2]
  ·simp[h1,h2]
  ·exact absurd ((jn _ _).2 h3) h
 ·rename_i h
  have e:=(jn _ _).1 (Decidable.not_not.1 h);rw[e,ik]
  split
  ·rename_i h
   rw[ol]
   rcases bc a.1 b.1 with ⟨h1,h2,h3⟩ | ⟨h1,h2,h3⟩ | ⟨h1,h2,h3⟩
   ·simp[h1,h2]
   ·simp[h1,h2]
   ·exact absurd ((jn _ _).2 h3) h
  ·rename_i h
   have e:=(jn _ _).1 (Decidable.not_not.1 h);rw[e,ik,ol]
   simp
structure T3 (L:Nat) (a b c:ByteArray) (w:World):Prop where
 lt:L<w.heap.size
 c0:w.cell? ⟨L,0,none⟩=some (.string a)
 c1:w.cell? ⟨L,1,none⟩=some (.string b)
 c2:w.cell? ⟨L,2,none⟩=some (.string c)
def t3 (a b c:ByteArray) (i:Nat):ByteArray:=if i=0 then a else if i=1 then b else c
theorem T3.at {L:Nat} {a b c:ByteArray} {w:World} (h:T3 L a b c w) {i:Nat} (hi:i<3):w.cell? ⟨L,i,none⟩=some (.string (t3 a b c i)):=by
 unfold t3
 rcases wo i 1 with h1 | h1
 ·obtain rfl : i = 0 := by omega
  exact h.c0
 ·rcases wo i 2 with h2 | h2
  ·obtain rfl : i = 1 := by omega
   exact h.c1
  ·obtain rfl : i = 2 := by omega
   exact h.c2
def cR3 (a b c x y z:ByteArray) (i:Nat):Int:=
 if 3≤i then 0 else if c1P (t3 a b c i).data.toList (t3 x y z i).data.toList≠0 then c1P (t3 a b c i).data.toList (t3 x y z i).data.toList else if 3≤i+1 then 0 else
  if c1P (t3 a b c (i+1)).data.toList (t3 x y z (i+1)).data.toList≠0 then c1P (t3 a b c (i+1)).data.toList (t3 x y z (i+1)).data.toList else if 3≤i+2 then 0 else
   if c1P (t3 a b c (i+2)).data.toList (t3 x y z (i+2)).data.toList≠0 then c1P (t3 a b c (i+2)).data.toList (t3 x y z (i+2)).data.toList else 0
theorem qR (a b c x y z:ByteArray) (i:Nat) (hi:i<3):cR3 a b c x y z i=if c1P (t3 a b c i).data.toList (t3 x y z i).data.toList≠0 then c1P (t3 a b c i).data.toList (t3 x y z i).data.toList else cR3 a b c x y z (i+1):=by
 unfold cR3
 rcases wo i 1 with h1 | h1
 ·obtain rfl : i = 0 := by omega
  simp
 ·rcases wo i 2 with h2 | h2
  ·obtain rfl : i = 1 := by omega
   simp
  ·obtain rfl : i = 2 := by omega
   simp
theorem mT (L M:Nat) (a b c x y z:ByteArray) (w:World) (h1:T3 L a b c w) (h2:T3 M x y z w):
  Calls prog 205 #[.slice (some ⟨L,0,none⟩) 3 3,.slice (some ⟨M,0,none⟩) 3 3] w fun e w'=>e=.returned (.int .i64 (cR3 a b c x y z 0))∧w'=w:=by
 have A1:=h_ fun i (hi:i<3)=>h1.at hi
 have A2:=h_ fun i (hi:i<3)=>h2.at hi
 have hL:=h1.lt;have hM:=h2.lt;obtain⟨O,hO⟩:=e_ (cR3 a b c x y z 0);rw[hO];have HO:=h_ hO;clear hO h1 h2;go_enter func205,ntmps205;go_wp2_with fail;go_loop [5,6,7,8,11] (fun _ _ _ _ xz=>∃k:Nat,k≤3∧xz=.int .i64 k∧cR3 a b c x y z k=O) (fun _ _ _ _ xz=>3-(intOf xz).toNat)
 case atStart=>exact⟨0,Nat.zero_le _,rfl,HO.out⟩
 case round=>
  obtain⟨k,hk,rfl,xn⟩:=hrel
  by_cases hlt:k<3
  ·have g1:=A1.out k hlt
   have g2:=A2.out k hlt;rw[qR _ _ _ _ _ _ k hlt] at xn;obtain⟨X,hX⟩:=e_ (t3 a b c k);obtain⟨Y,hY⟩:=e_ (t3 x y z k);rw[hX] at g1 xn;rw[hY] at g2 xn
   have C:=fun w=>mY X Y w
   obtain⟨V,hV⟩:=e_ (c1P X.data.toList Y.data.toList);rw[hV] at C xn;have CH:=h_ C;clear C hX hY hV
   by_cases h0:V=0
   ·subst h0
    rw[if_neg (by simp)] at xn;have HI:=h_ xn;clear xn;go_wp2_with fail;refine(CH.out _).mono ?_;rintro e w1 ⟨rfl,rfl⟩;go_wp2_with fail;go_round
    case rel=>exact⟨k+1,by omega,by go_num,HI.out⟩
    case measure=>simp[intOf];omega
   ·rw[if_pos h0] at xn
    have hq:(V==0)=false:=(by simpa using h0);subst xn;go_wp2_with fail;refine(CH.out _).mono ?_;rintro e w1 ⟨rfl,rfl⟩;go_wp2_with fail;go_ret;exact⟨rfl,rfl⟩
  ·obtain rfl : k = 3 := by omega
   have hz:O=0:=(by rw[←xn];unfold cR3;simp);subst hz;clear xn;go_wp2_with fail;go_ret;exact⟨rfl,rfl⟩

theorem vC (a b c x y z:ByteArray):cR3 b a c y x z 0=c3P (a.data.toList,b.data.toList,c.data.toList) (x.data.toList,y.data.toList,z.data.toList):=by
 unfold cR3 c3P t3
 simp
 split
 ·split
  ·split <;> simp_all
  ·rfl
 ·rfl
theorem T3.drewN {L:Nat} {a b c:ByteArray} {w:World} (h:T3 L a b c w) (n:Nat):T3 L a b c (w.drewN n):=by
 obtain⟨h0,h1,h2,h3⟩:=h;have hb:Below w.heap.size w (w.drewN n):=Go.below_drewN (bQ _) n;obtain⟨q,-⟩:=ag hb;exact⟨ws h0 hb.size,(q _ _ h0).trans h1,(q _ _ h0).trans h2,(q _ _ h0).trans h3⟩
theorem i8 (a b c x y z:ByteArray) (w:World):Calls prog 165 #[jV a b c,jV x y z] w (Ret w (.bool (lsP (a.data.toList,b.data.toList,c.data.toList) (x.data.toList,y.data.toList,z.data.toList)))):=by
 rw[←u9,←vC];obtain⟨O,hO⟩:=e_ (cR3 b a c y x z 0);rw[hO];have HC:=h_ (mT · · b a c y x z);rw[hO] at HC;clear hO;obtain⟨t,ht⟩:=e_ (decide (O<0));rw[ht];have k1:=JAt.new w a b c;have q1:=(bR w).alloc (wh _) (.cells #[.string a,.string b,.string c] 117);obtain⟨W1,xy⟩:=e_ (w.alloc (.cells #[.string a,.string b,.string c] 117))
 have z1:W1.heap.size=w.heap.size+1:=by rw[←xy];simp
 rw[xy] at k1 q1;have k2:=JAt.new W1 x y z;have q2:=q1.alloc q1.size (.cells #[.string x,.string y,.string z] 117);have k1:=k1.ret ((bR W1).alloc (wh _) (.cells #[.string x,.string y,.string z] 117));obtain⟨W,hW⟩:=e_ (W1.alloc (.cells #[.string x,.string y,.string z] 117))
 have z2:W.heap.size=w.heap.size+1+1:=by rw[←hW];simp;omega
 rw[hW,z1] at k2;rw[hW] at k1 q2
 have HW:Hid (((w.alloc (.cells #[.string a,.string b,.string c] 117)).alloc (.cells #[.string x,.string y,.string z] 117))=W):=h_ (by rw[xy,hW])
 clear q1 xy hW z1;have k1:=k1.ret (wt (bQ _));have k2:=k2.ret (wt (bQ _));have q2:=q2.drew
 have hs:W.drew.heap.size=w.heap.size+1+1:=z2
 have ZS:=h_ hs;clear z2 hs;go_enter func165,ntmps165;go_wp2_with fail;rw[HW.out];refine wp_region_held_drew (S:=fun w'=>w'.cell? ⟨w.heap.size,0,none⟩=some (.string a)∧w'.cell? ⟨w.heap.size,1,none⟩=some (.string b)∧w'.cell? ⟨w.heap.size,2,none⟩=some (.string c)∧w'.cell? ⟨w.heap.size+1,0,none⟩=some (.string x)∧w'.cell? ⟨w.heap.size+1,1,none⟩=some (.string y)∧w'.cell? ⟨w.heap.size+1,2,none⟩=some (.string z)) (by kernel_rfl) ⟨k1.c0,k1.c1,k1.c2,k2.c0,k2.c1,k2.c2⟩ (fun hH=>?_);refine rS [(0,some 7),(1,some 8),(2,some 9),(3,some 10),(4,some 11),(5,some 12),(6,some 13),(7,some 14),(8,some 15),(9,some 16),(10,some 17),(11,some 18),(12,some 19),(13,some 20)] ?_
 iterate 14 refine aS ?_
 refine rE ?_;obtain⟨U,hU⟩:=e_ W.drew;rw[hU] at k1 k2 q2 ZS ⊢;clear hU HW;refine wpAnyH_ready (rs:=[14,15]) (by kernel_rfl) (by simp) ?_;refine az (by kernel_rfl) (fun o ho K hK=>?_) ?_
 ·simp only[wu,wv,ww,wy] at ho
  subst ho;clear hH;go_simp;have b3:=(bR U).alloc (wh _) (.cells #[.string ⟨#[]⟩,.string ⟨#[]⟩,.string ⟨#[]⟩] 195);have xo:=k1.ret b3;have xp:=k2.ret b3;refine hK.out _ _ ⟨xo.c0,xo.c1,xo.c2,xp.c0,xp.c1,xp.c2⟩ (fun hH=>?_);clear hK K hH;clear b3 xo xp
  refine aC (i:=15) fun K hK=>?_
  go_simp;have b4:=((bR U).alloc (wh _) (.cells #[.string ⟨#[]⟩,.string ⟨#[]⟩,.string ⟨#[]⟩] 195)).alloc (by simp) (.cells #[.string ⟨#[]⟩,.string ⟨#[]⟩,.string ⟨#[]⟩] 195);have xq:=k1.ret b4;have xr:=k2.ret b4;refine hK.out _ _ ⟨xq.c0,xq.c1,xq.c2,xr.c0,xr.c1,xr.c2⟩ (fun hH=>?_);clear hK K hH;clear b4 xq xr
  refine aC (i:=16) fun K hK=>?_
  go_simp;have b5:=((bR U).alloc (wh _) (.cells #[.string b,.string a,.string c] 195)).alloc (by simp) (.cells #[.string ⟨#[]⟩,.string ⟨#[]⟩,.string ⟨#[]⟩] 195);have xt:=k1.ret b5;have xu:=k2.ret b5;refine hK.out _ _ ⟨xt.c0,xt.c1,xt.c2,xu.c0,xu.c1,xu.c2⟩ (fun hH=>?_);clear hK K hH;clear b5 xt xu
  refine aC (i:=17) fun K hK=>?_
  go_simp;have b6:=((bR U).alloc (wh _) (.cells #[.string b,.string a,.string c] 195)).alloc (by simp) (.cells #[.string y,.string x,.string z] 195);have xw:=k1.ret b6;have xx:=k2.ret b6;refine hK.out _ _ ⟨xw.c0,xw.c1,xw.c2,xx.c0,xx.c1,xx.c2⟩ (fun hH=>?_);clear hK K hH;refine aD ?_;have q6:=q2.trans (b6.mono q2.size)
  have t1:T3 U.heap.size b a c ((U.alloc (.cells #[.string b,.string a,.string c] 195)).alloc (.cells #[.string y,.string x,.string z] 195)):=by constructor <;> simp <;> omega
  have t2:T3 (U.heap.size+1) y x z ((U.alloc (.cells #[.string b,.string a,.string c] 195)).alloc (.cells #[.string y,.string x,.string z] 195)):=by constructor <;> simp <;> omega
  generalize (U.alloc (.cells #[.string b,.string a,.string c] 195)).alloc (.cells #[.string y,.string x,.string z] 195)=V at q6 t1 t2 ⊢;clear b6 xw xx;go_wp2_with fail;go_quiet ((go_at_call 205;exact Calls.quiet_of_same (HC.out _ _ _ (t1.drewN _) (t2.drewN _))));go_wp2_with fail;go_ret;exact⟨rfl,Go.below_drewN q6 _⟩
 refine az (by kernel_rfl) (fun o ho K hK=>?_) ?_
 ·simp only[wu,wv,ww,wy] at ho
  subst ho;clear hH;go_simp;have b3:=(bR U).alloc (wh _) (.cells #[.string ⟨#[]⟩,.string ⟨#[]⟩,.string ⟨#[]⟩] 195);have xo:=k1.ret b3;have xp:=k2.ret b3;refine hK.out _ _ ⟨xo.c0,xo.c1,xo.c2,xp.c0,xp.c1,xp.c2⟩ (fun hH=>?_);clear hK K hH;clear b3 xo xp
  refine aC (i:=14) fun K hK=>?_
  go_simp;have b4:=((bR U).alloc (wh _) (.cells #[.string ⟨#[]⟩,.string ⟨#[]⟩,.string ⟨#[]⟩] 195)).alloc (by simp) (.cells #[.string ⟨#[]⟩,.string ⟨#[]⟩,.string ⟨#[]⟩] 195);have xq:=k1.ret b4;have xr:=k2.ret b4;refine hK.out _ _ ⟨xq.c0,xq.c1,xq.c2,xr.c0,xr.c1,xr.c2⟩ (fun hH=>?_);clear hK K hH;clear b4 xq xr
  refine aC (i:=16) fun K hK=>?_
  go_simp;have b5:=((bR U).alloc (wh _) (.cells #[.string ⟨#[]⟩,.string ⟨#[]⟩,.string ⟨#[]⟩] 195)).alloc (by simp) (.cells #[.string b,.string a,.string c] 195);have xt:=k1.ret b5;have xu:=k2.ret b5;refine hK.out _ _ ⟨xt.c0,xt.c1,xt.c2,xu.c0,xu.c1,xu.c2⟩ (fun hH=>?_);clear hK K hH;clear b5 xt xu
  refine aC (i:=17) fun K hK=>?_
  go_simp;have b6:=((bR U).alloc (wh _) (.cells #[.string y,.string x,.string z] 195)).alloc (by simp) (.cells #[.string b,.string a,.string c] 195);have xw:=k1.ret b6;have xx:=k2.ret b6;refine hK.out _ _ ⟨xw.c0,xw.c1,xw.c2,xx.c0,xx.c1,xx.c2⟩ (fun hH=>?_);clear hK K hH;refine aD ?_;have q6:=q2.trans (b6.mono q2.size)
  have t1:T3 (U.heap.size+1) b a c ((U.alloc (.cells #[.string y,.string x,.string z] 195)).alloc (.cells #[.string b,.string a,.string c] 195)):=by constructor <;> simp <;> omega
  have t2:T3 U.heap.size y x z ((U.alloc (.cells #[.string y,.string x,.string z] 195)).alloc (.cells #[.string b,.string a,.string c] 195)):=by constructor <;> simp <;> omega
  generalize (U.alloc (.cells #[.string y,.string x,.string z] 195)).alloc (.cells #[.string b,.string a,.string c] 195)=V at q6 t1 t2 ⊢;clear b6 xw xx;go_wp2_with fail;go_quiet ((go_at_call 205;exact Calls.quiet_of_same (HC.out _ _ _ (t1.drewN _) (t2.drewN _))));go_wp2_with fail;go_ret;exact⟨rfl,Go.below_drewN q6 _⟩
 exact AllReadyH.nil
theorem ti (a b c:ByteArray) (w:World):Calls prog 138 #[jV a b c] w (Ret w (jV a b ⟨#[]⟩)):=by
 have q0:=(bR w).alloc (wh _) (.cells #[.string a,.string b,.string c] 117);go_enter func138,ntmps138;go_wp2_with fail;refine bodyPost_ret (v:=jV a b ⟨#[]⟩) (results_cell_row rfl _ _ (w.heap.size+1) _ _ (0,0) _ rfl (heap_alloc2_new _ _ _) underlying117 rfl rfl) rfl ⟨rfl,?_⟩;exact((bR w).alloc (wh _) _).alloc (by simp) _

theorem bJ {v:Value} {vs:List Value} {w:World} (h:cH v vs w) {k:Nat} (hk:k<vs.length):∃b off cap,v=.slice (some ⟨b,off,none⟩) vs.length cap∧b<w.heap.size∧∀j (hj:j<vs.length),w.cell? ⟨b,off+j,none⟩=some vs[j]:=by
 obtain⟨a,cap,rfl,_,hc⟩:=h
 rcases hc with rfl | ⟨b,off,rfl,h1,h2⟩
 ·simp at hk
 ·exact⟨b,off,cap,rfl,h1,h2⟩
def bts (xs:List (List UInt8)):List ByteArray:=xs.map fun l=>⟨l.toArray⟩
theorem pP (xs:List (List UInt8)):(bts xs).length=xs.length:=by simp[bts]
theorem rq {v:Value} {xs:List (List UInt8)} {w:World} (h:cH v (cJ xs) w) (h0:0<xs.length):∃b off cap,v=.slice (some ⟨b,off,none⟩) xs.length cap∧∀j,j<(bts xs).length→w.cell? ⟨b,off+j,none⟩=some (.string ((bts xs).getD j ByteArray.empty)):=by
 obtain⟨b,off,cap,rfl,_,hc⟩:=bJ h (k:=0) (by rw[aq];exact h0);refine⟨b,off,cap,by rw[aq],fun j hj=>?_⟩
 have xA:j<xs.length:=by simpa [bts] using hj
 rw[hc j (by rw[aq];exact xA)]
 simp[cJ,bts,xA]
theorem tU {xs:List (List UInt8)} {x:List UInt8}:(⟨x.toArray⟩:ByteArray)∈bts xs↔x∈xs:=by
 constructor
 ·intro h
  obtain⟨y,hy,e⟩:=wz.1 h;have e2:=congrArg (fun b:ByteArray=>b.data.toList) e
  simp only at e2
  have e3:y=x:=by simpa using e2
  exact e3 ▸ hy
 ·intro h
  exact wz.2 ⟨x,h,rfl⟩
theorem eb (v:Value) (xs:List (List UInt8)) (x:List UInt8) (w:World) (hv:cH v (cJ xs) w) (hx:xs.length≤1000001):
  Calls prog 57 #[v,.string ⟨x.toArray⟩] w (Ret w (.bool (decide (x∈xs)))):=by
 by_cases h0:xs.length=0
 ·have e1:xs=[]:=List.length_eq_zero_iff.1 h0
  subst e1;obtain⟨a,ca,rfl,_,_⟩:=hv;refine(Tryz.slices_Contains_string_empty a ca ⟨x.toArray⟩ w).mono ?_;rintro e w' ⟨rfl,rfl⟩;exact⟨rfl,bQ _⟩
 ·obtain⟨b,off,cap,rfl,hc⟩:=rq hv (by omega)
  refine(Tryz.slices_Contains_string b off xs.length cap (bts xs) ⟨x.toArray⟩ w (by rw[pP];omega) (by omega) hc).mono ?_;rintro e w' ⟨rfl,rfl⟩;refine⟨cD ?_,bQ _⟩;rw[List.take_of_length_le (by rw[pP];omega)];rw[Bool.eq_iff_iff,Lib.containsS_iff,tU,decide_eq_true_eq]
end Go.Proofs.YtjgeiieiinmdnaaGreatDoor
