/- jid.Bare and jid.Less, as the program answers them. -/
import Derived.Test.YtjgeiieiinmdnaaGreatDoorJdA
import Derived.Test.YtjgeiieiinmdnaaGreatDoorGh
open Go.Proofs.Tryz
open Go.RowKit.Below renaming drew→ws
open List renaming getElem?_toArray→wt,getElem?_cons_succ→wu,getElem?_cons_zero→wv
open Nat renaming le_refl→wq
open Option.some renaming injEq→ww
namespace Go.Proofs.YtjgeiieiinmdnaaGreatDoor
set_option maxHeartbeats 8000000
set_option maxRecDepth 100000
open Go.RowKit

theorem vp (a b c x y z:ByteArray):cR3 b a c y x z 0=c3P (a.data.toList,b.data.toList,c.data.toList) (x.data.toList,y.data.toList,z.data.toList):=by
 unfold cR3 c3P t3
 simp
 split
 ·split
  ·split <;> simp_all
  ·rfl
 ·rfl
theorem T3.drewN {L:Nat} {a b c:ByteArray} {w:World} (h:T3 L a b c w) (n:Nat):T3 L a b c (w.drewN n):=by
 obtain⟨h0,h1,h2,h3⟩:=h;have hb:Below w.heap.size w (w.drewN n):=Go.below_drewN (bQ _) n;obtain⟨q,-⟩:=af hb;exact⟨Nat.lt_of_lt_of_le h0 hb.size,(q _ _ h0).trans h1,(q _ _ h0).trans h2,(q _ _ h0).trans h3⟩
theorem iI (a b c x y z:ByteArray) (w:World):Calls prog 165 #[jV a b c,jV x y z] w (Ret w (.bool (lsP (a.data.toList,b.data.toList,c.data.toList) (x.data.toList,y.data.toList,z.data.toList)))):=by
 rw[←ur,←vp];obtain⟨O,hO⟩:=e_ (cR3 b a c y x z 0);rw[hO];have HC:=h_ (mQ · · b a c y x z);rw[hO] at HC;clear hO;obtain⟨t,ht⟩:=e_ (decide (O<0));rw[ht];have k1:=JAt.new w a b c;have q1:=(bR w).alloc (wq _) (.cells #[.string a,.string b,.string c] 117);obtain⟨W1,hW1⟩:=e_ (w.alloc (.cells #[.string a,.string b,.string c] 117))
 have z1:W1.heap.size=w.heap.size+1:=by rw[←hW1];simp
 rw[hW1] at k1 q1;have k2:=JAt.new W1 x y z;have q2:=q1.alloc q1.size (.cells #[.string x,.string y,.string z] 117);have k1:=k1.ret ((bR W1).alloc (wq _) (.cells #[.string x,.string y,.string z] 117));obtain⟨W,hW⟩:=e_ (W1.alloc (.cells #[.string x,.string y,.string z] 117))
 have z2:W.heap.size=w.heap.size+1+1:=by rw[←hW];simp;omega
 rw[hW,z1] at k2;rw[hW] at k1 q2
 have HW:Hid (((w.alloc (.cells #[.string a,.string b,.string c] 117)).alloc (.cells #[.string x,.string y,.string z] 117))=W):=h_ (by rw[hW1,hW])
 clear q1 hW1 hW z1;have k1:=k1.ret (ws (bQ _));have k2:=k2.ret (ws (bQ _));have q2:=q2.drew
 have hs:W.drew.heap.size=w.heap.size+1+1:=z2
 have ZS:=h_ hs;clear z2 hs;go_enter func165,ntmps165;go_wp2_with fail;rw[HW.out];refine wp_region_held_drew (S:=fun w'=>w'.cell? ⟨w.heap.size,0,none⟩=some (.string a)∧w'.cell? ⟨w.heap.size,1,none⟩=some (.string b)∧w'.cell? ⟨w.heap.size,2,none⟩=some (.string c)∧w'.cell? ⟨w.heap.size+1,0,none⟩=some (.string x)∧w'.cell? ⟨w.heap.size+1,1,none⟩=some (.string y)∧w'.cell? ⟨w.heap.size+1,2,none⟩=some (.string z)) (by kernel_rfl) ⟨k1.c0,k1.c1,k1.c2,k2.c0,k2.c1,k2.c2⟩ (fun hH=>?_);refine rS [(0,some 7),(1,some 8),(2,some 9),(3,some 10),(4,some 11),(5,some 12),(6,some 13),(7,some 14),(8,some 15),(9,some 16),(10,some 17),(11,some 18),(12,some 19),(13,some 20)] ?_
 iterate 14 refine aS ?_
 refine rE ?_;obtain⟨U,hU⟩:=e_ W.drew;rw[hU] at k1 k2 q2 ZS ⊢;clear hU HW;refine wpAnyH_ready (rs:=[14,15]) (by kernel_rfl) (by simp) ?_;refine az (by kernel_rfl) (fun o ho K hK=>?_) ?_
 ·simp only[wt,wu,wv,ww] at ho
  subst ho;clear hH;go_simp;have b3:=(bR U).alloc (wq _) (.cells #[.string ⟨#[]⟩,.string ⟨#[]⟩,.string ⟨#[]⟩] 195);have k13:=k1.ret b3;have k23:=k2.ret b3;refine hK.out _ _ ⟨k13.c0,k13.c1,k13.c2,k23.c0,k23.c1,k23.c2⟩ (fun hH=>?_);clear hK K hH;clear b3 k13 k23
  refine aC (i:=15) fun K hK=>?_
  go_simp;have b4:=((bR U).alloc (wq _) (.cells #[.string ⟨#[]⟩,.string ⟨#[]⟩,.string ⟨#[]⟩] 195)).alloc (by simp) (.cells #[.string ⟨#[]⟩,.string ⟨#[]⟩,.string ⟨#[]⟩] 195);have k14:=k1.ret b4;have k24:=k2.ret b4;refine hK.out _ _ ⟨k14.c0,k14.c1,k14.c2,k24.c0,k24.c1,k24.c2⟩ (fun hH=>?_);clear hK K hH;clear b4 k14 k24
  refine aC (i:=16) fun K hK=>?_
  go_simp;have b5:=((bR U).alloc (wq _) (.cells #[.string b,.string a,.string c] 195)).alloc (by simp) (.cells #[.string ⟨#[]⟩,.string ⟨#[]⟩,.string ⟨#[]⟩] 195);have k15:=k1.ret b5;have k25:=k2.ret b5;refine hK.out _ _ ⟨k15.c0,k15.c1,k15.c2,k25.c0,k25.c1,k25.c2⟩ (fun hH=>?_);clear hK K hH;clear b5 k15 k25
  refine aC (i:=17) fun K hK=>?_
  go_simp;have b6:=((bR U).alloc (wq _) (.cells #[.string b,.string a,.string c] 195)).alloc (by simp) (.cells #[.string y,.string x,.string z] 195);have k16:=k1.ret b6;have k26:=k2.ret b6;refine hK.out _ _ ⟨k16.c0,k16.c1,k16.c2,k26.c0,k26.c1,k26.c2⟩ (fun hH=>?_);clear hK K hH;refine aD ?_;have q6:=q2.trans (b6.mono q2.size)
  have t1:T3 U.heap.size b a c ((U.alloc (.cells #[.string b,.string a,.string c] 195)).alloc (.cells #[.string y,.string x,.string z] 195)):=by constructor <;> simp <;> omega
  have t2:T3 (U.heap.size+1) y x z ((U.alloc (.cells #[.string b,.string a,.string c] 195)).alloc (.cells #[.string y,.string x,.string z] 195)):=by constructor <;> simp <;> omega
  generalize (U.alloc (.cells #[.string b,.string a,.string c] 195)).alloc (.cells #[.string y,.string x,.string z] 195)=V at q6 t1 t2 ⊢;clear b6 k16 k26;go_wp2_with fail;go_quiet ((go_at_call 205;exact Calls.quiet_of_same (HC.out _ _ _ (t1.drewN _) (t2.drewN _))));go_wp2_with fail;go_ret;exact⟨rfl,Go.below_drewN q6 _⟩
 refine az (by kernel_rfl) (fun o ho K hK=>?_) ?_
 ·simp only[wt,wu,wv,ww] at ho
  subst ho;clear hH;go_simp;have b3:=(bR U).alloc (wq _) (.cells #[.string ⟨#[]⟩,.string ⟨#[]⟩,.string ⟨#[]⟩] 195);have k13:=k1.ret b3;have k23:=k2.ret b3;refine hK.out _ _ ⟨k13.c0,k13.c1,k13.c2,k23.c0,k23.c1,k23.c2⟩ (fun hH=>?_);clear hK K hH;clear b3 k13 k23
  refine aC (i:=14) fun K hK=>?_
  go_simp;have b4:=((bR U).alloc (wq _) (.cells #[.string ⟨#[]⟩,.string ⟨#[]⟩,.string ⟨#[]⟩] 195)).alloc (by simp) (.cells #[.string ⟨#[]⟩,.string ⟨#[]⟩,.string ⟨#[]⟩] 195);have k14:=k1.ret b4;have k24:=k2.ret b4;refine hK.out _ _ ⟨k14.c0,k14.c1,k14.c2,k24.c0,k24.c1,k24.c2⟩ (fun hH=>?_);clear hK K hH;clear b4 k14 k24
  refine aC (i:=16) fun K hK=>?_
  go_simp;have b5:=((bR U).alloc (wq _) (.cells #[.string ⟨#[]⟩,.string ⟨#[]⟩,.string ⟨#[]⟩] 195)).alloc (by simp) (.cells #[.string b,.string a,.string c] 195);have k15:=k1.ret b5;have k25:=k2.ret b5;refine hK.out _ _ ⟨k15.c0,k15.c1,k15.c2,k25.c0,k25.c1,k25.c2⟩ (fun hH=>?_);clear hK K hH;clear b5 k15 k25
  refine aC (i:=17) fun K hK=>?_
  go_simp;have b6:=((bR U).alloc (wq _) (.cells #[.string y,.string x,.string z] 195)).alloc (by simp) (.cells #[.string b,.string a,.string c] 195);have k16:=k1.ret b6;have k26:=k2.ret b6;refine hK.out _ _ ⟨k16.c0,k16.c1,k16.c2,k26.c0,k26.c1,k26.c2⟩ (fun hH=>?_);clear hK K hH;refine aD ?_;have q6:=q2.trans (b6.mono q2.size)
  have t1:T3 (U.heap.size+1) b a c ((U.alloc (.cells #[.string y,.string x,.string z] 195)).alloc (.cells #[.string b,.string a,.string c] 195)):=by constructor <;> simp <;> omega
  have t2:T3 U.heap.size y x z ((U.alloc (.cells #[.string y,.string x,.string z] 195)).alloc (.cells #[.string b,.string a,.string c] 195)):=by constructor <;> simp <;> omega
  generalize (U.alloc (.cells #[.string y,.string x,.string z] 195)).alloc (.cells #[.string b,.string a,.string c] 195)=V at q6 t1 t2 ⊢;clear b6 k16 k26;go_wp2_with fail;go_quiet ((go_at_call 205;exact Calls.quiet_of_same (HC.out _ _ _ (t1.drewN _) (t2.drewN _))));go_wp2_with fail;go_ret;exact⟨rfl,Go.below_drewN q6 _⟩
 exact AllReadyH.nil
theorem tL (a b c:ByteArray) (w:World):Calls prog 138 #[jV a b c] w (Ret w (jV a b ⟨#[]⟩)):=by
 have q0:=(bR w).alloc (wq _) (.cells #[.string a,.string b,.string c] 117);go_enter func138,ntmps138;go_wp2_with fail;refine bodyPost_ret (v:=jV a b ⟨#[]⟩) (results_cell_row rfl _ _ (w.heap.size+1) _ _ (0,0) _ rfl (heap_alloc2_new _ _ _) underlying117 rfl rfl) rfl ⟨rfl,?_⟩;exact((bR w).alloc (wq _) _).alloc (by simp) _
end Go.Proofs.YtjgeiieiinmdnaaGreatDoor
