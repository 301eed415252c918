/- JdI, JdJ, JdK: put together by mergetpl.py. -/
import Derived.Test.YtjgeiieiinmdnaaGreatDoorKd
open Go.Proofs.Tryz
open Go.Value renaming tuple→ws
open List renaming isEmpty_iff→wt
open Nat renaming le_refl→wq,zero_le→wu
namespace Go.Proofs.YtjgeiieiinmdnaaGreatDoor
set_option maxHeartbeats 4000000
open Go.RowKit Go.Lib

theorem se (l d r:ByteArray) (w:World) (zl:l.size≤10000) (zd:d.size≤10000) (zr:r.size≤10000) (hm:ML w):
  Calls prog 135 #[jV l d r] w (Ret w (.bool (cQ l.data.toList d.data.toList r.data.toList&&(!l.data.toList.isEmpty&&!r.data.toList.isEmpty)))):=by
 have k0:=JAt.new w l d r;have q0:=(bR w).alloc (wq _) (.cells #[.string l,.string d,.string r] 117);have C0:=eO l d r _ zl zd zr (hm.ret q0);obtain⟨c,hc⟩:=e_ (cQ l.data.toList d.data.toList r.data.toList);rw[hc] at C0 ⊢;clear hc
 cases c with
 | false=>
  have C:=h_ C0;clear C0;go_enter func135,ntmps135;go_wp2_with fail;refine C.out.mono ?_;rintro e w1 ⟨rfl,hb⟩;have q1:=q0.trans (hb.mono q0.size);clear hb;go_wp2_with fail;go_ret;exact⟨rfl,q1⟩
 | true=>
  have C:=h_ C0;clear C0
  cases hl:l.data.toList.isEmpty with
  | true=>
   obtain rfl:=ax hl;go_enter func135,ntmps135;go_wp2_with fail;refine C.out.mono ?_;rintro e w1 ⟨rfl,hb⟩;obtain⟨x0,x1,x2,x3,x4⟩:=k0.ret hb;have q1:=q0.trans (hb.mono q0.size);clear hb k0;go_wp2_with fail;go_ret;exact⟨rfl,q1⟩
  | false=>
   have el:=ak hl
   cases hr:r.data.toList.isEmpty with
   | true=>
    obtain rfl:=ax hr;go_enter func135,ntmps135;go_wp2_with fail;refine C.out.mono ?_;rintro e w1 ⟨rfl,hb⟩;obtain⟨x0,x1,x2,x3,x4⟩:=k0.ret hb;have q1:=q0.trans (hb.mono q0.size);clear hb k0;go_wp2_with fail;go_ret;exact⟨rfl,q1⟩
   | false=>
    have er:=ak hr;go_enter func135,ntmps135;go_wp2_with fail;refine C.out.mono ?_;rintro e w1 ⟨rfl,hb⟩;obtain⟨x0,x1,x2,x3,x4⟩:=k0.ret hb;have q1:=q0.trans (hb.mono q0.size);clear hb k0;go_wp2_with fail;go_ret;exact⟨rfl,q1⟩
theorem tu (l d r:ByteArray) (w:World) (zl:l.size≤10000) (zd:d.size≤10000) (zr:r.size≤10000) (hm:ML w):
  Calls prog 115 #[jV l d r] w (Ret w (.bool (cQ l.data.toList d.data.toList r.data.toList&&(!l.data.toList.isEmpty&&r.data.toList.isEmpty)))):=by
 have k0:=JAt.new w l d r;have q0:=(bR w).alloc (wq _) (.cells #[.string l,.string d,.string r] 117);have C0:=eO l d r _ zl zd zr (hm.ret q0);obtain⟨c,hc⟩:=e_ (cQ l.data.toList d.data.toList r.data.toList);rw[hc] at C0 ⊢;clear hc
 cases c with
 | false=>
  have C:=h_ C0;clear C0;go_enter func115,ntmps115;go_wp2_with fail;refine C.out.mono ?_;rintro e w1 ⟨rfl,hb⟩;have q1:=q0.trans (hb.mono q0.size);clear hb;go_wp2_with fail;go_ret;exact⟨rfl,q1⟩
 | true=>
  have C:=h_ C0;clear C0
  cases hl:l.data.toList.isEmpty with
  | true=>
   obtain rfl:=ax hl;go_enter func115,ntmps115;go_wp2_with fail;refine C.out.mono ?_;rintro e w1 ⟨rfl,hb⟩;obtain⟨x0,x1,x2,x3,x4⟩:=k0.ret hb;have q1:=q0.trans (hb.mono q0.size);clear hb k0;go_wp2_with fail;go_ret;exact⟨rfl,q1⟩
  | false=>
   have el:=ak hl
   cases hr:r.data.toList.isEmpty with
   | true=>
    obtain rfl:=ax hr;go_enter func115,ntmps115;go_wp2_with fail;refine C.out.mono ?_;rintro e w1 ⟨rfl,hb⟩;obtain⟨x0,x1,x2,x3,x4⟩:=k0.ret hb;have q1:=q0.trans (hb.mono q0.size);clear hb k0;go_wp2_with fail;go_ret;exact⟨rfl,q1⟩
   | false=>
    have er:=ak hr;go_enter func115,ntmps115;go_wp2_with fail;refine C.out.mono ?_;rintro e w1 ⟨rfl,hb⟩;obtain⟨x0,x1,x2,x3,x4⟩:=k0.ret hb;have q1:=q0.trans (hb.mono q0.size);clear hb k0;go_wp2_with fail;go_ret;exact⟨rfl,q1⟩
abbrev jB (l:List UInt8):ByteArray:=⟨l.toArray⟩
def uT (l d r:List UInt8):ByteArray:=if cQ l d r then jB (dp l d r) else ⟨#[]⟩
def uS (l d r:List UInt8):Int:=if cQ l d r then 0 else 8
theorem dg (l d r:ByteArray) (w:World) (zl:l.size≤10000) (zd:d.size≤10000) (zr:r.size≤10000) (hm:ML w):
  Calls prog 137 #[jV l d r] w (Ret w (.tuple #[.string (uT l.data.toList d.data.toList r.data.toList),.int .i64 (uS l.data.toList d.data.toList r.data.toList)])):=by
 have k0:=JAt.new w l d r;have q0:=(bR w).alloc (wq _) (.cells #[.string l,.string d,.string r] 117);have C0:=eO l d r _ zl zd zr (hm.ret q0);unfold uT uS;obtain⟨c,hc⟩:=e_ (cQ l.data.toList d.data.toList r.data.toList);rw[hc] at C0 ⊢;clear hc;obtain⟨T,hT⟩:=e_ (jB (dp l.data.toList d.data.toList r.data.toList));rw[hT];have HT:=h_ hT;clear hT
 cases c with
 | false=>
  have C:=h_ C0;clear C0;go_enter func137,ntmps137;go_wp2_with fail;refine C.out.mono ?_;rintro e w1 ⟨rfl,hb⟩;have q1:=q0.trans (hb.mono q0.size);clear hb;go_wp2_with fail;go_ret2;exact⟨rfl,q1⟩
 | true=>
  have C:=h_ C0
  have n1:(⟨#[64]⟩:ByteArray).size=1:=rfl
  have n2:(⟨#[47]⟩:ByteArray).size=1:=rfl
  clear C0
  cases hl:l.data.toList.isEmpty with
  | true=>
   obtain rfl:=ax hl
   cases hr:r.data.toList.isEmpty with
   | true=>
    obtain rfl:=ax hr;go_enter func137,ntmps137;go_wp2_with fail;refine C.out.mono ?_;rintro e w1 ⟨rfl,hb⟩;obtain⟨x0,x1,x2,x3,x4⟩:=k0.ret hb;have q1:=q0.trans (hb.mono q0.size);clear hb k0;go_wp2_with fail;go_ret2;refine⟨congrArg Ending.returned (congrArg ws ?_),q1⟩;have:d=T:=(by rw[←HT.out];apply aR;simp[dp]);rw[←this];rfl
   | false=>
    have er:=ak hr;go_enter func137,ntmps137;go_wp2_with fail;refine C.out.mono ?_;rintro e w1 ⟨rfl,hb⟩;obtain⟨x0,x1,x2,x3,x4⟩:=k0.ret hb;have q1:=q0.trans (hb.mono q0.size);clear hb k0;go_wp2_with fail;go_ret2;refine⟨congrArg Ending.returned (congrArg ws ?_),q1⟩;have:d++(⟨#[47]⟩++r)=T:=(by rw[←HT.out];apply aR;simp[dp,hr]);rw[←this];rfl
  | false=>
   have el:=ak hl
   cases hr:r.data.toList.isEmpty with
   | true=>
    obtain rfl:=ax hr;go_enter func137,ntmps137;go_wp2_with fail;refine C.out.mono ?_;rintro e w1 ⟨rfl,hb⟩;obtain⟨x0,x1,x2,x3,x4⟩:=k0.ret hb;have q1:=q0.trans (hb.mono q0.size);clear hb k0;go_wp2_with fail;go_ret2;refine⟨congrArg Ending.returned (congrArg ws ?_),q1⟩;have:l++⟨#[64]⟩++d=T:=(by rw[←HT.out];apply aR;simp[dp,hl]);rw[←this];rfl
   | false=>
    have er:=ak hr;go_enter func137,ntmps137;go_wp2_with fail;refine C.out.mono ?_;rintro e w1 ⟨rfl,hb⟩;obtain⟨x0,x1,x2,x3,x4⟩:=k0.ret hb;have q1:=q0.trans (hb.mono q0.size);clear hb k0;go_wp2_with fail;go_ret2;refine⟨congrArg Ending.returned (congrArg ws ?_),q1⟩;have:l++⟨#[64]⟩++d++(⟨#[47]⟩++r)=T:=(by rw[←HT.out];apply aR;simp[dp,hl,hr]);rw[←this];rfl

theorem JAt.set3 {L:Nat} {a b c:ByteArray} {w:World} (h:JAt L a b c w) (x y z:ByteArray):JAt L x y z (((w.setCell ⟨L,0,none⟩ (.string x)).setCell ⟨L,1,none⟩ (.string y)).setCell ⟨L,2,none⟩ (.string z)):=by
 obtain⟨h0,h1,h2,h3,h4,h5,h6⟩:=h
 constructor <;> simp[go_sem, *]
theorem ae {B L:Nat} {w W:World} (h:Below B w W) (hL:B≤L) (x y z:Value):Below B w (((W.setCell ⟨L,0,none⟩ x).setCell ⟨L,1,none⟩ y).setCell ⟨L,2,none⟩ z):=
 ((h.setCell (p:=⟨L,0,none⟩) hL x).setCell (p:=⟨L,1,none⟩) hL y).setCell (p:=⟨L,2,none⟩) hL z
theorem ay {fn:Func} {tmps:Array Value} {W:World} {R:Nat} {l d r:ByteArray} {e:Value} (h:fn.results=#[.cell 2 117,.tmp 3]) (h2:tmps.getD 2 undef=.pointer (some ⟨R,0,none⟩)) (h3:tmps.getD 3 undef=e) (k:JAt R l d r W):
  (results fn tmps).run prog W=.ok (.tuple #[jV l d r,e]) W:=by
 have c0:=k.c0;have c1:=k.c1;have c2:=k.c2;rw[results_cell_tmp h,h2,h3]
 simp[go_sem,Result.andThen,c0,c1,c2]
theorem kf (s A R Lo Y:ByteArray) (w:World)
  (C1:∀w,Calls prog 170 #[.string s,.string ⟨#[47]⟩] w (Ret w (.tuple #[.string A,.string R,.bool true])))
  (C2:∀w,Calls prog 171 #[.string A] w (Ret w (.string Lo)))
  (C3:∀w,Calls prog 170 #[.string Lo,.string ⟨#[64]⟩] w (Ret w (.tuple #[.string ⟨#[]⟩,.string Y,.bool true])))
   :
  Calls prog 126 #[.string s] w (Ret w (.tuple #[jV ⟨#[]⟩ ⟨#[]⟩ ⟨#[]⟩,.int .i64 190])):=by
 have k0:=JAt.new w ⟨#[]⟩ ⟨#[]⟩ ⟨#[]⟩;have q0:=(bR w).alloc (wq _) (.cells #[.string ⟨#[]⟩,.string ⟨#[]⟩,.string ⟨#[]⟩] 117);have H1:=h_ C1;have H2:=h_ C2;have H3:=h_ C3;clear C1 C2 C3;go_enter func126,ntmps126;go_wp2_with fail;refine(H1.out _).mono ?_;rintro e w1 ⟨rfl,hb⟩;have k1:=k0.ret hb;have q1:=q0.trans (hb.mono q0.size);clear hb k0 q0;go_wp2_with fail;refine(H2.out _).mono ?_;rintro e w2 ⟨rfl,hb⟩;have k2:=k1.ret hb;have q2:=q1.trans (hb.mono q1.size);clear hb k1 q1;go_wp2_with fail;refine(H3.out _).mono ?_;rintro e w3 ⟨rfl,hb⟩;obtain⟨x0,x1,x2,x3,x4,x5,x6⟩:=k2.ret hb;have q3:=q2.trans (hb.mono q2.size);clear hb k2 q2;go_wp2_with fail;refine bodyPost_ret (ay rfl rfl rfl (((JAt.mk x0 x1 x2 x3 x4 x5 x6).set3 _ _ _).set3 _ _ _)) rfl ⟨rfl,ae (ae q3 (wq _) _ _ _) (wq _) _ _ _⟩
theorem i8 (s A R Lo Y:ByteArray) (w:World)
  (C1:∀w,Calls prog 170 #[.string s,.string ⟨#[47]⟩] w (Ret w (.tuple #[.string A,.string R,.bool false])))
  (C2:∀w,Calls prog 171 #[.string A] w (Ret w (.string Lo)))
  (C3:∀w,Calls prog 170 #[.string Lo,.string ⟨#[64]⟩] w (Ret w (.tuple #[.string ⟨#[]⟩,.string Y,.bool true])))
   :
  Calls prog 126 #[.string s] w (Ret w (.tuple #[jV ⟨#[]⟩ ⟨#[]⟩ ⟨#[]⟩,.int .i64 190])):=by
 have k0:=JAt.new w ⟨#[]⟩ ⟨#[]⟩ ⟨#[]⟩;have q0:=(bR w).alloc (wq _) (.cells #[.string ⟨#[]⟩,.string ⟨#[]⟩,.string ⟨#[]⟩] 117);have H1:=h_ C1;have H2:=h_ C2;have H3:=h_ C3;clear C1 C2 C3;go_enter func126,ntmps126;go_wp2_with fail;refine(H1.out _).mono ?_;rintro e w1 ⟨rfl,hb⟩;have k1:=k0.ret hb;have q1:=q0.trans (hb.mono q0.size);clear hb k0 q0;go_wp2_with fail;refine(H2.out _).mono ?_;rintro e w2 ⟨rfl,hb⟩;have k2:=k1.ret hb;have q2:=q1.trans (hb.mono q1.size);clear hb k1 q1;go_wp2_with fail;refine(H3.out _).mono ?_;rintro e w3 ⟨rfl,hb⟩;obtain⟨x0,x1,x2,x3,x4,x5,x6⟩:=k2.ret hb;have q3:=q2.trans (hb.mono q2.size);clear hb k2 q2;go_wp2_with fail;refine bodyPost_ret (ay rfl rfl rfl (((JAt.mk x0 x1 x2 x3 x4 x5 x6).set3 _ _ _).set3 _ _ _)) rfl ⟨rfl,ae (ae q3 (wq _) _ _ _) (wq _) _ _ _⟩
theorem jW (s A Lo X Y:ByteArray) (w:World)
  (C1:∀w,Calls prog 170 #[.string s,.string ⟨#[47]⟩] w (Ret w (.tuple #[.string A,.string ⟨#[]⟩,.bool true])))
  (C2:∀w,Calls prog 171 #[.string A] w (Ret w (.string Lo)))
  (C3:∀w,Calls prog 170 #[.string Lo,.string ⟨#[64]⟩] w (Ret w (.tuple #[.string X,.string Y,.bool true])))
  (eX:(X.toList==[])=false):
  Calls prog 126 #[.string s] w (Ret w (.tuple #[jV ⟨#[]⟩ ⟨#[]⟩ ⟨#[]⟩,.int .i64 190])):=by
 have k0:=JAt.new w ⟨#[]⟩ ⟨#[]⟩ ⟨#[]⟩;have q0:=(bR w).alloc (wq _) (.cells #[.string ⟨#[]⟩,.string ⟨#[]⟩,.string ⟨#[]⟩] 117);have H1:=h_ C1;have H2:=h_ C2;have H3:=h_ C3;clear C1 C2 C3;go_enter func126,ntmps126;go_wp2_with fail;refine(H1.out _).mono ?_;rintro e w1 ⟨rfl,hb⟩;have k1:=k0.ret hb;have q1:=q0.trans (hb.mono q0.size);clear hb k0 q0;go_wp2_with fail;refine(H2.out _).mono ?_;rintro e w2 ⟨rfl,hb⟩;have k2:=k1.ret hb;have q2:=q1.trans (hb.mono q1.size);clear hb k1 q1;go_wp2_with fail;refine(H3.out _).mono ?_;rintro e w3 ⟨rfl,hb⟩;obtain⟨x0,x1,x2,x3,x4,x5,x6⟩:=k2.ret hb;have q3:=q2.trans (hb.mono q2.size);clear hb k2 q2;go_wp2_with fail;refine bodyPost_ret (ay rfl rfl rfl (((JAt.mk x0 x1 x2 x3 x4 x5 x6).set3 _ _ _).set3 _ _ _)) rfl ⟨rfl,ae (ae q3 (wq _) _ _ _) (wq _) _ _ _⟩
theorem jh (s A R Lo X Y:ByteArray) (w:World) (hm:ML w)
  (C1:∀w,Calls prog 170 #[.string s,.string ⟨#[47]⟩] w (Ret w (.tuple #[.string A,.string R,.bool true])))
  (C2:∀w,Calls prog 171 #[.string A] w (Ret w (.string Lo)))
  (C3:∀w,Calls prog 170 #[.string Lo,.string ⟨#[64]⟩] w (Ret w (.tuple #[.string X,.string Y,.bool true])))
  (eX:(X.toList==[])=false) (eR:(R.toList==[])=false) (C4:∀w:World,ML w→Calls prog 91 #[jV X Y R] w (Ret w (.int .i64 0))):
  Calls prog 126 #[.string s] w (Ret w (.tuple #[jV X Y R,.int .i64 0])):=by
 have k0:=JAt.new w ⟨#[]⟩ ⟨#[]⟩ ⟨#[]⟩;have q0:=(bR w).alloc (wq _) (.cells #[.string ⟨#[]⟩,.string ⟨#[]⟩,.string ⟨#[]⟩] 117);have H1:=h_ C1;have H2:=h_ C2;have H3:=h_ C3;have H4:=h_ C4;clear C1 C2 C3 C4;go_enter func126,ntmps126;go_wp2_with fail;refine(H1.out _).mono ?_;rintro e w1 ⟨rfl,hb⟩;have k1:=k0.ret hb;have q1:=q0.trans (hb.mono q0.size);clear hb k0 q0;go_wp2_with fail;refine(H2.out _).mono ?_;rintro e w2 ⟨rfl,hb⟩;have k2:=k1.ret hb;have q2:=q1.trans (hb.mono q1.size);clear hb k1 q1;go_wp2_with fail;refine(H3.out _).mono ?_;rintro e w3 ⟨rfl,hb⟩;have k3:=(k2.ret hb).set3 X Y R;obtain⟨x0,x1,x2,x3,x4,x5,x6⟩:=k2.ret hb;have q3:=q2.trans (hb.mono q2.size);clear hb k2 q2;have q4:=ae q3 (wq _) (.string X) (.string Y) (.string R);have HC:=h_ (H4.out _ (hm.ret q4));clear H4;go_wp2_with fail;refine HC.out.mono ?_;rintro e w4 ⟨rfl,hb⟩;obtain⟨y0,y1,y2,y3,y4,y5,y6⟩:=k3.ret hb;have q5:=q4.trans (hb.mono q4.size);clear hb k3 q4 HC x0 x1 x2 x3 x4 x5 x6 q3;go_wp2_with fail;refine bodyPost_ret (ay rfl rfl rfl ((JAt.mk y0 y1 y2 y3 y4 y5 y6).set3 _ _ _)) rfl ⟨rfl,ae q5 (wq _) _ _ _⟩
theorem ka (s A R Lo X Y:ByteArray) (w:World) (hm:ML w)
  (C1:∀w,Calls prog 170 #[.string s,.string ⟨#[47]⟩] w (Ret w (.tuple #[.string A,.string R,.bool true])))
  (C2:∀w,Calls prog 171 #[.string A] w (Ret w (.string Lo)))
  (C3:∀w,Calls prog 170 #[.string Lo,.string ⟨#[64]⟩] w (Ret w (.tuple #[.string X,.string Y,.bool true])))
  (eX:(X.toList==[])=false) (eR:(R.toList==[])=false) (C4:∀w:World,ML w→Calls prog 91 #[jV X Y R] w (Ret w (.int .i64 8))):
  Calls prog 126 #[.string s] w (Ret w (.tuple #[jV ⟨#[]⟩ ⟨#[]⟩ ⟨#[]⟩,.int .i64 190])):=by
 have k0:=JAt.new w ⟨#[]⟩ ⟨#[]⟩ ⟨#[]⟩;have q0:=(bR w).alloc (wq _) (.cells #[.string ⟨#[]⟩,.string ⟨#[]⟩,.string ⟨#[]⟩] 117);have H1:=h_ C1;have H2:=h_ C2;have H3:=h_ C3;have H4:=h_ C4;clear C1 C2 C3 C4;go_enter func126,ntmps126;go_wp2_with fail;refine(H1.out _).mono ?_;rintro e w1 ⟨rfl,hb⟩;have k1:=k0.ret hb;have q1:=q0.trans (hb.mono q0.size);clear hb k0 q0;go_wp2_with fail;refine(H2.out _).mono ?_;rintro e w2 ⟨rfl,hb⟩;have k2:=k1.ret hb;have q2:=q1.trans (hb.mono q1.size);clear hb k1 q1;go_wp2_with fail;refine(H3.out _).mono ?_;rintro e w3 ⟨rfl,hb⟩;have k3:=(k2.ret hb).set3 X Y R;obtain⟨x0,x1,x2,x3,x4,x5,x6⟩:=k2.ret hb;have q3:=q2.trans (hb.mono q2.size);clear hb k2 q2;have q4:=ae q3 (wq _) (.string X) (.string Y) (.string R);have HC:=h_ (H4.out _ (hm.ret q4));clear H4;go_wp2_with fail;refine HC.out.mono ?_;rintro e w4 ⟨rfl,hb⟩;obtain⟨y0,y1,y2,y3,y4,y5,y6⟩:=k3.ret hb;have q5:=q4.trans (hb.mono q4.size);clear hb k3 q4 HC x0 x1 x2 x3 x4 x5 x6 q3;go_wp2_with fail;refine bodyPost_ret (ay rfl rfl rfl ((JAt.mk y0 y1 y2 y3 y4 y5 y6).set3 _ _ _)) rfl ⟨rfl,ae q5 (wq _) _ _ _⟩
theorem jF (s A R Lo X Y:ByteArray) (w:World) (hm:ML w)
  (C1:∀w,Calls prog 170 #[.string s,.string ⟨#[47]⟩] w (Ret w (.tuple #[.string A,.string R,.bool false])))
  (C2:∀w,Calls prog 171 #[.string A] w (Ret w (.string Lo)))
  (C3:∀w,Calls prog 170 #[.string Lo,.string ⟨#[64]⟩] w (Ret w (.tuple #[.string X,.string Y,.bool true])))
  (eX:(X.toList==[])=false) (C4:∀w:World,ML w→Calls prog 91 #[jV X Y R] w (Ret w (.int .i64 0))):
  Calls prog 126 #[.string s] w (Ret w (.tuple #[jV X Y R,.int .i64 0])):=by
 have k0:=JAt.new w ⟨#[]⟩ ⟨#[]⟩ ⟨#[]⟩;have q0:=(bR w).alloc (wq _) (.cells #[.string ⟨#[]⟩,.string ⟨#[]⟩,.string ⟨#[]⟩] 117);have H1:=h_ C1;have H2:=h_ C2;have H3:=h_ C3;have H4:=h_ C4;clear C1 C2 C3 C4;go_enter func126,ntmps126;go_wp2_with fail;refine(H1.out _).mono ?_;rintro e w1 ⟨rfl,hb⟩;have k1:=k0.ret hb;have q1:=q0.trans (hb.mono q0.size);clear hb k0 q0;go_wp2_with fail;refine(H2.out _).mono ?_;rintro e w2 ⟨rfl,hb⟩;have k2:=k1.ret hb;have q2:=q1.trans (hb.mono q1.size);clear hb k1 q1;go_wp2_with fail;refine(H3.out _).mono ?_;rintro e w3 ⟨rfl,hb⟩;have k3:=(k2.ret hb).set3 X Y R;obtain⟨x0,x1,x2,x3,x4,x5,x6⟩:=k2.ret hb;have q3:=q2.trans (hb.mono q2.size);clear hb k2 q2;have q4:=ae q3 (wq _) (.string X) (.string Y) (.string R);have HC:=h_ (H4.out _ (hm.ret q4));clear H4;go_wp2_with fail;refine HC.out.mono ?_;rintro e w4 ⟨rfl,hb⟩;obtain⟨y0,y1,y2,y3,y4,y5,y6⟩:=k3.ret hb;have q5:=q4.trans (hb.mono q4.size);clear hb k3 q4 HC x0 x1 x2 x3 x4 x5 x6 q3;go_wp2_with fail;refine bodyPost_ret (ay rfl rfl rfl ((JAt.mk y0 y1 y2 y3 y4 y5 y6).set3 _ _ _)) rfl ⟨rfl,ae q5 (wq _) _ _ _⟩
theorem j9 (s A R Lo X Y:ByteArray) (w:World) (hm:ML w)
  (C1:∀w,Calls prog 170 #[.string s,.string ⟨#[47]⟩] w (Ret w (.tuple #[.string A,.string R,.bool false])))
  (C2:∀w,Calls prog 171 #[.string A] w (Ret w (.string Lo)))
  (C3:∀w,Calls prog 170 #[.string Lo,.string ⟨#[64]⟩] w (Ret w (.tuple #[.string X,.string Y,.bool true])))
  (eX:(X.toList==[])=false) (C4:∀w:World,ML w→Calls prog 91 #[jV X Y R] w (Ret w (.int .i64 8))):
  Calls prog 126 #[.string s] w (Ret w (.tuple #[jV ⟨#[]⟩ ⟨#[]⟩ ⟨#[]⟩,.int .i64 190])):=by
 have k0:=JAt.new w ⟨#[]⟩ ⟨#[]⟩ ⟨#[]⟩;have q0:=(bR w).alloc (wq _) (.cells #[.string ⟨#[]⟩,.string ⟨#[]⟩,.string ⟨#[]⟩] 117);have H1:=h_ C1;have H2:=h_ C2;have H3:=h_ C3;have H4:=h_ C4;clear C1 C2 C3 C4;go_enter func126,ntmps126;go_wp2_with fail;refine(H1.out _).mono ?_;rintro e w1 ⟨rfl,hb⟩;have k1:=k0.ret hb;have q1:=q0.trans (hb.mono q0.size);clear hb k0 q0;go_wp2_with fail;refine(H2.out _).mono ?_;rintro e w2 ⟨rfl,hb⟩;have k2:=k1.ret hb;have q2:=q1.trans (hb.mono q1.size);clear hb k1 q1;go_wp2_with fail;refine(H3.out _).mono ?_;rintro e w3 ⟨rfl,hb⟩;have k3:=(k2.ret hb).set3 X Y R;obtain⟨x0,x1,x2,x3,x4,x5,x6⟩:=k2.ret hb;have q3:=q2.trans (hb.mono q2.size);clear hb k2 q2;have q4:=ae q3 (wq _) (.string X) (.string Y) (.string R);have HC:=h_ (H4.out _ (hm.ret q4));clear H4;go_wp2_with fail;refine HC.out.mono ?_;rintro e w4 ⟨rfl,hb⟩;obtain⟨y0,y1,y2,y3,y4,y5,y6⟩:=k3.ret hb;have q5:=q4.trans (hb.mono q4.size);clear hb k3 q4 HC x0 x1 x2 x3 x4 x5 x6 q3;go_wp2_with fail;refine bodyPost_ret (ay rfl rfl rfl ((JAt.mk y0 y1 y2 y3 y4 y5 y6).set3 _ _ _)) rfl ⟨rfl,ae q5 (wq _) _ _ _⟩
theorem iZ (s A Lo X Y:ByteArray) (w:World)
  (C1:∀w,Calls prog 170 #[.string s,.string ⟨#[47]⟩] w (Ret w (.tuple #[.string A,.string ⟨#[]⟩,.bool true])))
  (C2:∀w,Calls prog 171 #[.string A] w (Ret w (.string Lo)))
  (C3:∀w,Calls prog 170 #[.string Lo,.string ⟨#[64]⟩] w (Ret w (.tuple #[.string X,.string Y,.bool false])))
   :
  Calls prog 126 #[.string s] w (Ret w (.tuple #[jV ⟨#[]⟩ ⟨#[]⟩ ⟨#[]⟩,.int .i64 190])):=by
 have k0:=JAt.new w ⟨#[]⟩ ⟨#[]⟩ ⟨#[]⟩;have q0:=(bR w).alloc (wq _) (.cells #[.string ⟨#[]⟩,.string ⟨#[]⟩,.string ⟨#[]⟩] 117);have H1:=h_ C1;have H2:=h_ C2;have H3:=h_ C3;clear C1 C2 C3;go_enter func126,ntmps126;go_wp2_with fail;refine(H1.out _).mono ?_;rintro e w1 ⟨rfl,hb⟩;have k1:=k0.ret hb;have q1:=q0.trans (hb.mono q0.size);clear hb k0 q0;go_wp2_with fail;refine(H2.out _).mono ?_;rintro e w2 ⟨rfl,hb⟩;have k2:=k1.ret hb;have q2:=q1.trans (hb.mono q1.size);clear hb k1 q1;go_wp2_with fail;refine(H3.out _).mono ?_;rintro e w3 ⟨rfl,hb⟩;obtain⟨x0,x1,x2,x3,x4,x5,x6⟩:=k2.ret hb;have q3:=q2.trans (hb.mono q2.size);clear hb k2 q2;go_wp2_with fail;refine bodyPost_ret (ay rfl rfl rfl (((JAt.mk x0 x1 x2 x3 x4 x5 x6).set3 _ _ _).set3 _ _ _)) rfl ⟨rfl,ae (ae q3 (wq _) _ _ _) (wq _) _ _ _⟩
theorem jj (s A R Lo X Y:ByteArray) (w:World) (hm:ML w)
  (C1:∀w,Calls prog 170 #[.string s,.string ⟨#[47]⟩] w (Ret w (.tuple #[.string A,.string R,.bool true])))
  (C2:∀w,Calls prog 171 #[.string A] w (Ret w (.string Lo)))
  (C3:∀w,Calls prog 170 #[.string Lo,.string ⟨#[64]⟩] w (Ret w (.tuple #[.string X,.string Y,.bool false])))
  (eR:(R.toList==[])=false) (C4:∀w:World,ML w→Calls prog 91 #[jV ⟨#[]⟩ Lo R] w (Ret w (.int .i64 0))):
  Calls prog 126 #[.string s] w (Ret w (.tuple #[jV ⟨#[]⟩ Lo R,.int .i64 0])):=by
 have k0:=JAt.new w ⟨#[]⟩ ⟨#[]⟩ ⟨#[]⟩;have q0:=(bR w).alloc (wq _) (.cells #[.string ⟨#[]⟩,.string ⟨#[]⟩,.string ⟨#[]⟩] 117);have H1:=h_ C1;have H2:=h_ C2;have H3:=h_ C3;have H4:=h_ C4;clear C1 C2 C3 C4;go_enter func126,ntmps126;go_wp2_with fail;refine(H1.out _).mono ?_;rintro e w1 ⟨rfl,hb⟩;have k1:=k0.ret hb;have q1:=q0.trans (hb.mono q0.size);clear hb k0 q0;go_wp2_with fail;refine(H2.out _).mono ?_;rintro e w2 ⟨rfl,hb⟩;have k2:=k1.ret hb;have q2:=q1.trans (hb.mono q1.size);clear hb k1 q1;go_wp2_with fail;refine(H3.out _).mono ?_;rintro e w3 ⟨rfl,hb⟩;have k3:=(k2.ret hb).set3 ⟨#[]⟩ Lo R;obtain⟨x0,x1,x2,x3,x4,x5,x6⟩:=k2.ret hb;have q3:=q2.trans (hb.mono q2.size);clear hb k2 q2;have q4:=ae q3 (wq _) (.string ⟨#[]⟩) (.string Lo) (.string R);have HC:=h_ (H4.out _ (hm.ret q4));clear H4;go_wp2_with fail;refine HC.out.mono ?_;rintro e w4 ⟨rfl,hb⟩;obtain⟨y0,y1,y2,y3,y4,y5,y6⟩:=k3.ret hb;have q5:=q4.trans (hb.mono q4.size);clear hb k3 q4 HC x0 x1 x2 x3 x4 x5 x6 q3;go_wp2_with fail;refine bodyPost_ret (ay rfl rfl rfl ((JAt.mk y0 y1 y2 y3 y4 y5 y6).set3 _ _ _)) rfl ⟨rfl,ae q5 (wq _) _ _ _⟩
theorem jr (s A R Lo X Y:ByteArray) (w:World) (hm:ML w)
  (C1:∀w,Calls prog 170 #[.string s,.string ⟨#[47]⟩] w (Ret w (.tuple #[.string A,.string R,.bool true])))
  (C2:∀w,Calls prog 171 #[.string A] w (Ret w (.string Lo)))
  (C3:∀w,Calls prog 170 #[.string Lo,.string ⟨#[64]⟩] w (Ret w (.tuple #[.string X,.string Y,.bool false])))
  (eR:(R.toList==[])=false) (C4:∀w:World,ML w→Calls prog 91 #[jV ⟨#[]⟩ Lo R] w (Ret w (.int .i64 8))):
  Calls prog 126 #[.string s] w (Ret w (.tuple #[jV ⟨#[]⟩ ⟨#[]⟩ ⟨#[]⟩,.int .i64 190])):=by
 have k0:=JAt.new w ⟨#[]⟩ ⟨#[]⟩ ⟨#[]⟩;have q0:=(bR w).alloc (wq _) (.cells #[.string ⟨#[]⟩,.string ⟨#[]⟩,.string ⟨#[]⟩] 117);have H1:=h_ C1;have H2:=h_ C2;have H3:=h_ C3;have H4:=h_ C4;clear C1 C2 C3 C4;go_enter func126,ntmps126;go_wp2_with fail;refine(H1.out _).mono ?_;rintro e w1 ⟨rfl,hb⟩;have k1:=k0.ret hb;have q1:=q0.trans (hb.mono q0.size);clear hb k0 q0;go_wp2_with fail;refine(H2.out _).mono ?_;rintro e w2 ⟨rfl,hb⟩;have k2:=k1.ret hb;have q2:=q1.trans (hb.mono q1.size);clear hb k1 q1;go_wp2_with fail;refine(H3.out _).mono ?_;rintro e w3 ⟨rfl,hb⟩;have k3:=(k2.ret hb).set3 ⟨#[]⟩ Lo R;obtain⟨x0,x1,x2,x3,x4,x5,x6⟩:=k2.ret hb;have q3:=q2.trans (hb.mono q2.size);clear hb k2 q2;have q4:=ae q3 (wq _) (.string ⟨#[]⟩) (.string Lo) (.string R);have HC:=h_ (H4.out _ (hm.ret q4));clear H4;go_wp2_with fail;refine HC.out.mono ?_;rintro e w4 ⟨rfl,hb⟩;obtain⟨y0,y1,y2,y3,y4,y5,y6⟩:=k3.ret hb;have q5:=q4.trans (hb.mono q4.size);clear hb k3 q4 HC x0 x1 x2 x3 x4 x5 x6 q3;go_wp2_with fail;refine bodyPost_ret (ay rfl rfl rfl ((JAt.mk y0 y1 y2 y3 y4 y5 y6).set3 _ _ _)) rfl ⟨rfl,ae q5 (wq _) _ _ _⟩
theorem jy (s A R Lo X Y:ByteArray) (w:World) (hm:ML w)
  (C1:∀w,Calls prog 170 #[.string s,.string ⟨#[47]⟩] w (Ret w (.tuple #[.string A,.string R,.bool false])))
  (C2:∀w,Calls prog 171 #[.string A] w (Ret w (.string Lo)))
  (C3:∀w,Calls prog 170 #[.string Lo,.string ⟨#[64]⟩] w (Ret w (.tuple #[.string X,.string Y,.bool false])))
  (C4:∀w:World,ML w→Calls prog 91 #[jV ⟨#[]⟩ Lo R] w (Ret w (.int .i64 0))):
  Calls prog 126 #[.string s] w (Ret w (.tuple #[jV ⟨#[]⟩ Lo R,.int .i64 0])):=by
 have k0:=JAt.new w ⟨#[]⟩ ⟨#[]⟩ ⟨#[]⟩;have q0:=(bR w).alloc (wq _) (.cells #[.string ⟨#[]⟩,.string ⟨#[]⟩,.string ⟨#[]⟩] 117);have H1:=h_ C1;have H2:=h_ C2;have H3:=h_ C3;have H4:=h_ C4;clear C1 C2 C3 C4;go_enter func126,ntmps126;go_wp2_with fail;refine(H1.out _).mono ?_;rintro e w1 ⟨rfl,hb⟩;have k1:=k0.ret hb;have q1:=q0.trans (hb.mono q0.size);clear hb k0 q0;go_wp2_with fail;refine(H2.out _).mono ?_;rintro e w2 ⟨rfl,hb⟩;have k2:=k1.ret hb;have q2:=q1.trans (hb.mono q1.size);clear hb k1 q1;go_wp2_with fail;refine(H3.out _).mono ?_;rintro e w3 ⟨rfl,hb⟩;have k3:=(k2.ret hb).set3 ⟨#[]⟩ Lo R;obtain⟨x0,x1,x2,x3,x4,x5,x6⟩:=k2.ret hb;have q3:=q2.trans (hb.mono q2.size);clear hb k2 q2;have q4:=ae q3 (wq _) (.string ⟨#[]⟩) (.string Lo) (.string R);have HC:=h_ (H4.out _ (hm.ret q4));clear H4;go_wp2_with fail;refine HC.out.mono ?_;rintro e w4 ⟨rfl,hb⟩;obtain⟨y0,y1,y2,y3,y4,y5,y6⟩:=k3.ret hb;have q5:=q4.trans (hb.mono q4.size);clear hb k3 q4 HC x0 x1 x2 x3 x4 x5 x6 q3;go_wp2_with fail;refine bodyPost_ret (ay rfl rfl rfl ((JAt.mk y0 y1 y2 y3 y4 y5 y6).set3 _ _ _)) rfl ⟨rfl,ae q5 (wq _) _ _ _⟩
theorem jK (s A R Lo X Y:ByteArray) (w:World) (hm:ML w)
  (C1:∀w,Calls prog 170 #[.string s,.string ⟨#[47]⟩] w (Ret w (.tuple #[.string A,.string R,.bool false])))
  (C2:∀w,Calls prog 171 #[.string A] w (Ret w (.string Lo)))
  (C3:∀w,Calls prog 170 #[.string Lo,.string ⟨#[64]⟩] w (Ret w (.tuple #[.string X,.string Y,.bool false])))
  (C4:∀w:World,ML w→Calls prog 91 #[jV ⟨#[]⟩ Lo R] w (Ret w (.int .i64 8))):
  Calls prog 126 #[.string s] w (Ret w (.tuple #[jV ⟨#[]⟩ ⟨#[]⟩ ⟨#[]⟩,.int .i64 190])):=by
 have k0:=JAt.new w ⟨#[]⟩ ⟨#[]⟩ ⟨#[]⟩;have q0:=(bR w).alloc (wq _) (.cells #[.string ⟨#[]⟩,.string ⟨#[]⟩,.string ⟨#[]⟩] 117);have H1:=h_ C1;have H2:=h_ C2;have H3:=h_ C3;have H4:=h_ C4;clear C1 C2 C3 C4;go_enter func126,ntmps126;go_wp2_with fail;refine(H1.out _).mono ?_;rintro e w1 ⟨rfl,hb⟩;have k1:=k0.ret hb;have q1:=q0.trans (hb.mono q0.size);clear hb k0 q0;go_wp2_with fail;refine(H2.out _).mono ?_;rintro e w2 ⟨rfl,hb⟩;have k2:=k1.ret hb;have q2:=q1.trans (hb.mono q1.size);clear hb k1 q1;go_wp2_with fail;refine(H3.out _).mono ?_;rintro e w3 ⟨rfl,hb⟩;have k3:=(k2.ret hb).set3 ⟨#[]⟩ Lo R;obtain⟨x0,x1,x2,x3,x4,x5,x6⟩:=k2.ret hb;have q3:=q2.trans (hb.mono q2.size);clear hb k2 q2;have q4:=ae q3 (wq _) (.string ⟨#[]⟩) (.string Lo) (.string R);have HC:=h_ (H4.out _ (hm.ret q4));clear H4;go_wp2_with fail;refine HC.out.mono ?_;rintro e w4 ⟨rfl,hb⟩;obtain⟨y0,y1,y2,y3,y4,y5,y6⟩:=k3.ret hb;have q5:=q4.trans (hb.mono q4.size);clear hb k3 q4 HC x0 x1 x2 x3 x4 x5 x6 q3;go_wp2_with fail;refine bodyPost_ret (ay rfl rfl rfl ((JAt.mk y0 y1 y2 y3 y4 y5 y6).set3 _ _ _)) rfl ⟨rfl,ae q5 (wq _) _ _ _⟩

theorem ag (l:List UInt8):(jB l).data.toList=l:=by simp
theorem ah (l:List UInt8):(jB l).size=l.length:=by
 rw[←ab,ag]
theorem fA (c:UInt8) (l:List UInt8):(cA c l).length≤l.length:=by
 unfold cA;exact(List.takeWhile_sublist _).length_le
theorem gB (c:UInt8) (l:List UInt8):(cR c l).length≤l.length:=by
 unfold cR;rw[List.length_drop];have:=(List.dropWhile_sublist (l:=l) (· != c)).length_le
 omega
theorem aQ (l:List UInt8):(fF l).length=l.length:=by simp[fF]
theorem hJ (l:List UInt8):(bh l).length≤l.length:=by
 unfold bh;rw[aQ];exact fA 47 l
theorem gQ {l:List UInt8} (h:l.isEmpty=false):((jB l).toList==[])=false:=by
 rw[Lib.toList_data,ag]
 cases l with
 | nil=>cases h
 | cons a l=>rfl
def lZ (l:List UInt8):Value:=if bv l=true then .tuple #[jV (jB (aU l)) (jB (aZ l)) (jB (aL l)),.int .i64 0] else .tuple #[jV ⟨#[]⟩ ⟨#[]⟩ ⟨#[]⟩,.int .i64 190]
theorem cJ (s:ByteArray) (w:World) (hs:s.size≤10000) (hm:ML w):
  Calls prog 126 #[.string s] w (Ret w (lZ s.data.toList)):=by
 have C1:=fun w=>ks s 47 w (by omega)
 have hz:=ab s;obtain⟨l,hl⟩:=e_ s.data.toList;rw[hl] at C1 hz ⊢;have zA:=fA 47 l;have zR:=gB 47 l;have zLo:=hJ l;have zX:=fA 64 (bh l);have zY:=gB 64 (bh l)
 have C2:=fun w=>pT (jB (cA 47 l)) w (by rw[ah];omega)
 rw[ag] at C2
 have C3:=fun w=>ks (jB (bh l)) 64 w (by rw[ah];omega)
 rw[ag] at C3
 have C4:∀a b c:List UInt8,a.length≤10000→b.length≤10000→c.length≤10000→∀w:World,ML w→Calls prog 91 #[jV (jB a) (jB b) (jB c)] w (Ret w (.int .i64 (if cQ a b c=true then 0 else 8))):=by
  intro a b c za zb zc w hm;have:=eO (jB a) (jB b) (jB c) w (by rw[ah];exact za) (by rw[ah];exact zb) (by rw[ah];exact zc) hm;rw[ag,ag,ag] at this;exact this
 unfold lZ
 cases hh:(bh l).contains 64 with
 | true=>
  have eL:aU l=cA 64 (bh l):=by unfold aU;rw[hh];rfl
  have eD:aZ l=cR 64 (bh l):=by unfold aZ;rw[hh];rfl
  rw[hh] at C3
  cases hx:(aU l).isEmpty with
  | true=>
   have hp:bv l=false:=(by unfold bv;rw[hh,hx];rfl);rw[hp];rw[show cA 64 (bh l)=[] by rw[←eL];exact wt.1 hx] at C3
   cases hb:l.contains 47 with
   | true=>rw[hb] at C1;exact kf s _ _ _ _ w C1 C2 C3
   | false=>rw[hb] at C1;exact i8 s _ _ _ _ w C1 C2 C3
  | false=>
   have eX:((jB (cA 64 (bh l))).toList==[])=false:=gQ (by rw[←eL];exact hx)
   cases hb:l.contains 47 with
   | true=>
    rw[hb] at C1
    cases hr:(aL l).isEmpty with
    | true=>
     have hp:bv l=false:=(by unfold bv;rw[hh,hx,hb,hr];rfl);rw[hp];rw[show cR 47 l=[] from wt.1 hr] at C1;exact jW s _ _ _ _ w C1 C2 C3 eX
    | false=>
     have hp:bv l=cQ (aU l) (aZ l) (aL l):=(by unfold bv;rw[hh,hx,hb,hr];rfl);have C5:=C4 (aU l) (aZ l) (aL l) (by rw[eL];omega) (by rw[eD];omega) (by unfold aL;omega);rw[hp];rw[eL,eD] at C5 ⊢
     cases hc:cQ (cA 64 (bh l)) (cR 64 (bh l)) (aL l) with
     | true=>rw[hc] at C5;exact jh s _ _ _ _ _ w hm C1 C2 C3 eX (gQ hr) C5
     | false=>rw[hc] at C5;exact ka s _ _ _ _ _ w hm C1 C2 C3 eX (gQ hr) C5
   | false=>
    rw[hb] at C1;have hp:bv l=cQ (aU l) (aZ l) (aL l):=(by unfold bv;rw[hh,hx,hb];rfl);have C5:=C4 (aU l) (aZ l) (aL l) (by rw[eL];omega) (by rw[eD];omega) (by unfold aL;omega);rw[hp];rw[eL,eD] at C5 ⊢
    cases hc:cQ (cA 64 (bh l)) (cR 64 (bh l)) (aL l) with
    | true=>rw[hc] at C5;exact jF s _ _ _ _ _ w hm C1 C2 C3 eX C5
    | false=>rw[hc] at C5;exact j9 s _ _ _ _ _ w hm C1 C2 C3 eX C5
 | false=>
  have eL:aU l=[]:=by unfold aU;rw[hh];rfl
  have eD:aZ l=bh l:=by unfold aZ;rw[hh];rfl
  rw[hh] at C3
  cases hb:l.contains 47 with
  | true=>
   rw[hb] at C1
   cases hr:(aL l).isEmpty with
   | true=>
    have hp:bv l=false:=(by unfold bv;rw[hh,hb,hr];rfl);rw[hp];rw[show cR 47 l=[] from wt.1 hr] at C1;exact iZ s _ _ _ _ w C1 C2 C3
   | false=>
    have hp:bv l=cQ (aU l) (aZ l) (aL l):=(by unfold bv;rw[hh,hb,hr];rfl);have C5:=C4 (aU l) (aZ l) (aL l) (by rw[eL];exact wu _) (by rw[eD];omega) (by unfold aL;omega);rw[hp];rw[eL,eD] at C5 ⊢
    cases hc:cQ [] (bh l) (aL l) with
    | true=>rw[hc] at C5;exact jj s _ _ _ _ _ w hm C1 C2 C3 (gQ hr) C5
    | false=>rw[hc] at C5;exact jr s _ _ _ _ _ w hm C1 C2 C3 (gQ hr) C5
  | false=>
   rw[hb] at C1;have hp:bv l=cQ (aU l) (aZ l) (aL l):=(by unfold bv;rw[hh,hb];rfl);have C5:=C4 (aU l) (aZ l) (aL l) (by rw[eL];exact wu _) (by rw[eD];omega) (by unfold aL;omega);rw[hp];rw[eL,eD] at C5 ⊢
   cases hc:cQ [] (bh l) (aL l) with
   | true=>rw[hc] at C5;exact jy s _ _ _ _ _ w hm C1 C2 C3 C5
   | false=>rw[hc] at C5;exact jK s _ _ _ _ _ w hm C1 C2 C3 C5
end Go.Proofs.YtjgeiieiinmdnaaGreatDoor
