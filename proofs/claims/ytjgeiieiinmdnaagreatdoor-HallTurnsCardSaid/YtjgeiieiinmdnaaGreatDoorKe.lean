/- JdI, JdJ, JdK: put together by mergetpl.py. -/
import Derived.Test.YtjgeiieiinmdnaaGreatDoorKd
open Go.Proofs.Tryz
open Go.Value renaming tuple→wo
open List renaming isEmpty_iff→wq
open Nat renaming le_refl→wh,zero_le→ws
namespace Go.Proofs.YtjgeiieiinmdnaaGreatDoor
set_option maxHeartbeats 4000000
open Go.RowKit Go.Lib

theorem tN (l d r:ByteArray) (w:World) (zl:l.size≤10000) (zd:d.size≤10000) (zr:r.size≤10000) (hm:ML w):
  Calls prog 135 #[jV l d r] w (Ret w (.bool (bB l.data.toList d.data.toList r.data.toList&&(!l.data.toList.isEmpty&&!r.data.toList.isEmpty)))):=by
 have k0:=JAt.new w l d r;have q0:=(bR w).alloc (wh _) (.cells #[.string l,.string d,.string r] 117);have C0:=ei l d r _ zl zd zr (hm.ret q0);obtain⟨c,hc⟩:=e_ (bB l.data.toList d.data.toList r.data.toList);rw[hc] at C0 ⊢;clear hc
 cases c with
 | false=>
  have C:=h_ C0;clear C0;go_enter func135,ntmps135;go_wp2_with fail;refine C.out.mono ?_;rintro e w1 ⟨rfl,hb⟩;have q1:=q0.trans (hb.mono q0.size);clear hb;go_wp2_with fail;go_ret;exact⟨rfl,q1⟩
 | true=>
  have C:=h_ C0;clear C0
  cases hl:l.data.toList.isEmpty with
  | true=>
   obtain rfl:=ay hl;go_enter func135,ntmps135;go_wp2_with fail;refine C.out.mono ?_;rintro e w1 ⟨rfl,hb⟩;obtain⟨x0,x1,x2,x3,x4⟩:=k0.ret hb;have q1:=q0.trans (hb.mono q0.size);clear hb k0;go_wp2_with fail;go_ret;exact⟨rfl,q1⟩
  | false=>
   have el:=ak hl
   cases hr:r.data.toList.isEmpty with
   | true=>
    obtain rfl:=ay hr;go_enter func135,ntmps135;go_wp2_with fail;refine C.out.mono ?_;rintro e w1 ⟨rfl,hb⟩;obtain⟨x0,x1,x2,x3,x4⟩:=k0.ret hb;have q1:=q0.trans (hb.mono q0.size);clear hb k0;go_wp2_with fail;go_ret;exact⟨rfl,q1⟩
   | false=>
    have er:=ak hr;go_enter func135,ntmps135;go_wp2_with fail;refine C.out.mono ?_;rintro e w1 ⟨rfl,hb⟩;obtain⟨x0,x1,x2,x3,x4⟩:=k0.ret hb;have q1:=q0.trans (hb.mono q0.size);clear hb k0;go_wp2_with fail;go_ret;exact⟨rfl,q1⟩
theorem sw (l d r:ByteArray) (w:World) (zl:l.size≤10000) (zd:d.size≤10000) (zr:r.size≤10000) (hm:ML w):
  Calls prog 115 #[jV l d r] w (Ret w (.bool (bB l.data.toList d.data.toList r.data.toList&&(!l.data.toList.isEmpty&&r.data.toList.isEmpty)))):=by
 have k0:=JAt.new w l d r;have q0:=(bR w).alloc (wh _) (.cells #[.string l,.string d,.string r] 117);have C0:=ei l d r _ zl zd zr (hm.ret q0);obtain⟨c,hc⟩:=e_ (bB l.data.toList d.data.toList r.data.toList);rw[hc] at C0 ⊢;clear hc
 cases c with
 | false=>
  have C:=h_ C0;clear C0;go_enter func115,ntmps115;go_wp2_with fail;refine C.out.mono ?_;rintro e w1 ⟨rfl,hb⟩;have q1:=q0.trans (hb.mono q0.size);clear hb;go_wp2_with fail;go_ret;exact⟨rfl,q1⟩
 | true=>
  have C:=h_ C0;clear C0
  cases hl:l.data.toList.isEmpty with
  | true=>
   obtain rfl:=ay hl;go_enter func115,ntmps115;go_wp2_with fail;refine C.out.mono ?_;rintro e w1 ⟨rfl,hb⟩;obtain⟨x0,x1,x2,x3,x4⟩:=k0.ret hb;have q1:=q0.trans (hb.mono q0.size);clear hb k0;go_wp2_with fail;go_ret;exact⟨rfl,q1⟩
  | false=>
   have el:=ak hl
   cases hr:r.data.toList.isEmpty with
   | true=>
    obtain rfl:=ay hr;go_enter func115,ntmps115;go_wp2_with fail;refine C.out.mono ?_;rintro e w1 ⟨rfl,hb⟩;obtain⟨x0,x1,x2,x3,x4⟩:=k0.ret hb;have q1:=q0.trans (hb.mono q0.size);clear hb k0;go_wp2_with fail;go_ret;exact⟨rfl,q1⟩
   | false=>
    have er:=ak hr;go_enter func115,ntmps115;go_wp2_with fail;refine C.out.mono ?_;rintro e w1 ⟨rfl,hb⟩;obtain⟨x0,x1,x2,x3,x4⟩:=k0.ret hb;have q1:=q0.trans (hb.mono q0.size);clear hb k0;go_wp2_with fail;go_ret;exact⟨rfl,q1⟩
abbrev jB (l:List UInt8):ByteArray:=⟨l.toArray⟩
def uC (l d r:List UInt8):ByteArray:=if bB l d r then jB (bC l d r) else ⟨#[]⟩
def uZ (l d r:List UInt8):Int:=if bB l d r then 0 else 8
theorem dw (l d r:ByteArray) (w:World) (zl:l.size≤10000) (zd:d.size≤10000) (zr:r.size≤10000) (hm:ML w):
  Calls prog 137 #[jV l d r] w (Ret w (.tuple #[.string (uC l.data.toList d.data.toList r.data.toList),.int .i64 (uZ l.data.toList d.data.toList r.data.toList)])):=by
 have k0:=JAt.new w l d r;have q0:=(bR w).alloc (wh _) (.cells #[.string l,.string d,.string r] 117);have C0:=ei l d r _ zl zd zr (hm.ret q0);unfold uC uZ;obtain⟨c,hc⟩:=e_ (bB l.data.toList d.data.toList r.data.toList);rw[hc] at C0 ⊢;clear hc;obtain⟨T,hT⟩:=e_ (jB (bC l.data.toList d.data.toList r.data.toList));rw[hT];have HT:=h_ hT;clear hT
 cases c with
 | false=>
  have C:=h_ C0;clear C0;go_enter func137,ntmps137;go_wp2_with fail;refine C.out.mono ?_;rintro e w1 ⟨rfl,hb⟩;have q1:=q0.trans (hb.mono q0.size);clear hb;go_wp2_with fail;go_ret2;exact⟨rfl,q1⟩
 | true=>
  have C:=h_ C0
  have n1:(⟨#[64]⟩:ByteArray).size=1:=rfl
  have n2:(⟨#[47]⟩:ByteArray).size=1:=rfl
  clear C0
  cases hl:l.data.toList.isEmpty with
  | true=>
   obtain rfl:=ay hl
   cases hr:r.data.toList.isEmpty with
   | true=>
    obtain rfl:=ay hr;go_enter func137,ntmps137;go_wp2_with fail;refine C.out.mono ?_;rintro e w1 ⟨rfl,hb⟩;obtain⟨x0,x1,x2,x3,x4⟩:=k0.ret hb;have q1:=q0.trans (hb.mono q0.size);clear hb k0;go_wp2_with fail;go_ret2;refine⟨congrArg Ending.returned (congrArg wo ?_),q1⟩;have:d=T:=(by rw[←HT.out];apply aW;simp[bC]);rw[←this];rfl
   | false=>
    have er:=ak hr;go_enter func137,ntmps137;go_wp2_with fail;refine C.out.mono ?_;rintro e w1 ⟨rfl,hb⟩;obtain⟨x0,x1,x2,x3,x4⟩:=k0.ret hb;have q1:=q0.trans (hb.mono q0.size);clear hb k0;go_wp2_with fail;go_ret2;refine⟨congrArg Ending.returned (congrArg wo ?_),q1⟩;have:d++(⟨#[47]⟩++r)=T:=(by rw[←HT.out];apply aW;simp[bC,hr]);rw[←this];rfl
  | false=>
   have el:=ak hl
   cases hr:r.data.toList.isEmpty with
   | true=>
    obtain rfl:=ay hr;go_enter func137,ntmps137;go_wp2_with fail;refine C.out.mono ?_;rintro e w1 ⟨rfl,hb⟩;obtain⟨x0,x1,x2,x3,x4⟩:=k0.ret hb;have q1:=q0.trans (hb.mono q0.size);clear hb k0;go_wp2_with fail;go_ret2;refine⟨congrArg Ending.returned (congrArg wo ?_),q1⟩;have:l++⟨#[64]⟩++d=T:=(by rw[←HT.out];apply aW;simp[bC,hl]);rw[←this];rfl
   | false=>
    have er:=ak hr;go_enter func137,ntmps137;go_wp2_with fail;refine C.out.mono ?_;rintro e w1 ⟨rfl,hb⟩;obtain⟨x0,x1,x2,x3,x4⟩:=k0.ret hb;have q1:=q0.trans (hb.mono q0.size);clear hb k0;go_wp2_with fail;go_ret2;refine⟨congrArg Ending.returned (congrArg wo ?_),q1⟩;have:l++⟨#[64]⟩++d++(⟨#[47]⟩++r)=T:=(by rw[←HT.out];apply aW;simp[bC,hl,hr]);rw[←this];rfl

theorem JAt.set3 {L:Nat} {a b c:ByteArray} {w:World} (h:JAt L a b c w) (x y z:ByteArray):JAt L x y z (((w.setCell ⟨L,0,none⟩ (.string x)).setCell ⟨L,1,none⟩ (.string y)).setCell ⟨L,2,none⟩ (.string z)):=by
 obtain⟨h0,h1,h2,h3,h4,h5,h6⟩:=h
 constructor <;> simp[go_sem, *]
theorem ae {B L:Nat} {w W:World} (h:Below B w W) (hL:B≤L) (x y z:Value):Below B w (((W.setCell ⟨L,0,none⟩ x).setCell ⟨L,1,none⟩ y).setCell ⟨L,2,none⟩ z):=
 ((h.setCell (p:=⟨L,0,none⟩) hL x).setCell (p:=⟨L,1,none⟩) hL y).setCell (p:=⟨L,2,none⟩) hL z
theorem aA {fn:Func} {tmps:Array Value} {W:World} {R:Nat} {l d r:ByteArray} {e:Value} (h:fn.results=#[.cell 2 117,.tmp 3]) (h2:tmps.getD 2 undef=.pointer (some ⟨R,0,none⟩)) (h3:tmps.getD 3 undef=e) (k:JAt R l d r W):
  (results fn tmps).run prog W=.ok (.tuple #[jV l d r,e]) W:=by
 have c0:=k.c0;have c1:=k.c1;have c2:=k.c2;rw[results_cell_tmp h,h2,h3]
 simp[go_sem,Result.andThen,c0,c1,c2]
theorem kV (s A R Lo Y:ByteArray) (w:World)
  (C1:∀w,Calls prog 170 #[.string s,.string ⟨#[47]⟩] w (Ret w (.tuple #[.string A,.string R,.bool true])))
  (C2:∀w,Calls prog 171 #[.string A] w (Ret w (.string Lo)))
  (C3:∀w,Calls prog 170 #[.string Lo,.string ⟨#[64]⟩] w (Ret w (.tuple #[.string ⟨#[]⟩,.string Y,.bool true])))
   :
  Calls prog 126 #[.string s] w (Ret w (.tuple #[jV ⟨#[]⟩ ⟨#[]⟩ ⟨#[]⟩,.int .i64 190])):=by
 have k0:=JAt.new w ⟨#[]⟩ ⟨#[]⟩ ⟨#[]⟩;have q0:=(bR w).alloc (wh _) (.cells #[.string ⟨#[]⟩,.string ⟨#[]⟩,.string ⟨#[]⟩] 117);have H1:=h_ C1;have H2:=h_ C2;have H3:=h_ C3;clear C1 C2 C3;go_enter func126,ntmps126;go_wp2_with fail;refine(H1.out _).mono ?_;rintro e w1 ⟨rfl,hb⟩;have k1:=k0.ret hb;have q1:=q0.trans (hb.mono q0.size);clear hb k0 q0;go_wp2_with fail;refine(H2.out _).mono ?_;rintro e w2 ⟨rfl,hb⟩;have k2:=k1.ret hb;have q2:=q1.trans (hb.mono q1.size);clear hb k1 q1;go_wp2_with fail;refine(H3.out _).mono ?_;rintro e w3 ⟨rfl,hb⟩;obtain⟨x0,x1,x2,x3,x4,x5,x6⟩:=k2.ret hb;have q3:=q2.trans (hb.mono q2.size);clear hb k2 q2;go_wp2_with fail;refine bodyPost_ret (aA rfl rfl rfl (((JAt.mk x0 x1 x2 x3 x4 x5 x6).set3 _ _ _).set3 _ _ _)) rfl ⟨rfl,ae (ae q3 (wh _) _ _ _) (wh _) _ _ _⟩
theorem jZ (s A R Lo Y:ByteArray) (w:World)
  (C1:∀w,Calls prog 170 #[.string s,.string ⟨#[47]⟩] w (Ret w (.tuple #[.string A,.string R,.bool false])))
  (C2:∀w,Calls prog 171 #[.string A] w (Ret w (.string Lo)))
  (C3:∀w,Calls prog 170 #[.string Lo,.string ⟨#[64]⟩] w (Ret w (.tuple #[.string ⟨#[]⟩,.string Y,.bool true])))
   :
  Calls prog 126 #[.string s] w (Ret w (.tuple #[jV ⟨#[]⟩ ⟨#[]⟩ ⟨#[]⟩,.int .i64 190])):=by
 have k0:=JAt.new w ⟨#[]⟩ ⟨#[]⟩ ⟨#[]⟩;have q0:=(bR w).alloc (wh _) (.cells #[.string ⟨#[]⟩,.string ⟨#[]⟩,.string ⟨#[]⟩] 117);have H1:=h_ C1;have H2:=h_ C2;have H3:=h_ C3;clear C1 C2 C3;go_enter func126,ntmps126;go_wp2_with fail;refine(H1.out _).mono ?_;rintro e w1 ⟨rfl,hb⟩;have k1:=k0.ret hb;have q1:=q0.trans (hb.mono q0.size);clear hb k0 q0;go_wp2_with fail;refine(H2.out _).mono ?_;rintro e w2 ⟨rfl,hb⟩;have k2:=k1.ret hb;have q2:=q1.trans (hb.mono q1.size);clear hb k1 q1;go_wp2_with fail;refine(H3.out _).mono ?_;rintro e w3 ⟨rfl,hb⟩;obtain⟨x0,x1,x2,x3,x4,x5,x6⟩:=k2.ret hb;have q3:=q2.trans (hb.mono q2.size);clear hb k2 q2;go_wp2_with fail;refine bodyPost_ret (aA rfl rfl rfl (((JAt.mk x0 x1 x2 x3 x4 x5 x6).set3 _ _ _).set3 _ _ _)) rfl ⟨rfl,ae (ae q3 (wh _) _ _ _) (wh _) _ _ _⟩
theorem ke (s A Lo X Y:ByteArray) (w:World)
  (C1:∀w,Calls prog 170 #[.string s,.string ⟨#[47]⟩] w (Ret w (.tuple #[.string A,.string ⟨#[]⟩,.bool true])))
  (C2:∀w,Calls prog 171 #[.string A] w (Ret w (.string Lo)))
  (C3:∀w,Calls prog 170 #[.string Lo,.string ⟨#[64]⟩] w (Ret w (.tuple #[.string X,.string Y,.bool true])))
  (eX:(X.toList==[])=false):
  Calls prog 126 #[.string s] w (Ret w (.tuple #[jV ⟨#[]⟩ ⟨#[]⟩ ⟨#[]⟩,.int .i64 190])):=by
 have k0:=JAt.new w ⟨#[]⟩ ⟨#[]⟩ ⟨#[]⟩;have q0:=(bR w).alloc (wh _) (.cells #[.string ⟨#[]⟩,.string ⟨#[]⟩,.string ⟨#[]⟩] 117);have H1:=h_ C1;have H2:=h_ C2;have H3:=h_ C3;clear C1 C2 C3;go_enter func126,ntmps126;go_wp2_with fail;refine(H1.out _).mono ?_;rintro e w1 ⟨rfl,hb⟩;have k1:=k0.ret hb;have q1:=q0.trans (hb.mono q0.size);clear hb k0 q0;go_wp2_with fail;refine(H2.out _).mono ?_;rintro e w2 ⟨rfl,hb⟩;have k2:=k1.ret hb;have q2:=q1.trans (hb.mono q1.size);clear hb k1 q1;go_wp2_with fail;refine(H3.out _).mono ?_;rintro e w3 ⟨rfl,hb⟩;obtain⟨x0,x1,x2,x3,x4,x5,x6⟩:=k2.ret hb;have q3:=q2.trans (hb.mono q2.size);clear hb k2 q2;go_wp2_with fail;refine bodyPost_ret (aA rfl rfl rfl (((JAt.mk x0 x1 x2 x3 x4 x5 x6).set3 _ _ _).set3 _ _ _)) rfl ⟨rfl,ae (ae q3 (wh _) _ _ _) (wh _) _ _ _⟩
theorem kR (s A R Lo X Y:ByteArray) (w:World) (hm:ML w)
  (C1:∀w,Calls prog 170 #[.string s,.string ⟨#[47]⟩] w (Ret w (.tuple #[.string A,.string R,.bool true])))
  (C2:∀w,Calls prog 171 #[.string A] w (Ret w (.string Lo)))
  (C3:∀w,Calls prog 170 #[.string Lo,.string ⟨#[64]⟩] w (Ret w (.tuple #[.string X,.string Y,.bool true])))
  (eX:(X.toList==[])=false) (eR:(R.toList==[])=false) (C4:∀w:World,ML w→Calls prog 91 #[jV X Y R] w (Ret w (.int .i64 0))):
  Calls prog 126 #[.string s] w (Ret w (.tuple #[jV X Y R,.int .i64 0])):=by
 have k0:=JAt.new w ⟨#[]⟩ ⟨#[]⟩ ⟨#[]⟩;have q0:=(bR w).alloc (wh _) (.cells #[.string ⟨#[]⟩,.string ⟨#[]⟩,.string ⟨#[]⟩] 117);have H1:=h_ C1;have H2:=h_ C2;have H3:=h_ C3;have H4:=h_ C4;clear C1 C2 C3 C4;go_enter func126,ntmps126;go_wp2_with fail;refine(H1.out _).mono ?_;rintro e w1 ⟨rfl,hb⟩;have k1:=k0.ret hb;have q1:=q0.trans (hb.mono q0.size);clear hb k0 q0;go_wp2_with fail;refine(H2.out _).mono ?_;rintro e w2 ⟨rfl,hb⟩;have k2:=k1.ret hb;have q2:=q1.trans (hb.mono q1.size);clear hb k1 q1;go_wp2_with fail;refine(H3.out _).mono ?_;rintro e w3 ⟨rfl,hb⟩;have k3:=(k2.ret hb).set3 X Y R;obtain⟨x0,x1,x2,x3,x4,x5,x6⟩:=k2.ret hb;have q3:=q2.trans (hb.mono q2.size);clear hb k2 q2;have q4:=ae q3 (wh _) (.string X) (.string Y) (.string R);have HC:=h_ (H4.out _ (hm.ret q4));clear H4;go_wp2_with fail;refine HC.out.mono ?_;rintro e w4 ⟨rfl,hb⟩;obtain⟨y0,y1,y2,y3,y4,y5,y6⟩:=k3.ret hb;have q5:=q4.trans (hb.mono q4.size);clear hb k3 q4 HC x0 x1 x2 x3 x4 x5 x6 q3;go_wp2_with fail;refine bodyPost_ret (aA rfl rfl rfl ((JAt.mk y0 y1 y2 y3 y4 y5 y6).set3 _ _ _)) rfl ⟨rfl,ae q5 (wh _) _ _ _⟩
theorem kn (s A R Lo X Y:ByteArray) (w:World) (hm:ML w)
  (C1:∀w,Calls prog 170 #[.string s,.string ⟨#[47]⟩] w (Ret w (.tuple #[.string A,.string R,.bool true])))
  (C2:∀w,Calls prog 171 #[.string A] w (Ret w (.string Lo)))
  (C3:∀w,Calls prog 170 #[.string Lo,.string ⟨#[64]⟩] w (Ret w (.tuple #[.string X,.string Y,.bool true])))
  (eX:(X.toList==[])=false) (eR:(R.toList==[])=false) (C4:∀w:World,ML w→Calls prog 91 #[jV X Y R] w (Ret w (.int .i64 8))):
  Calls prog 126 #[.string s] w (Ret w (.tuple #[jV ⟨#[]⟩ ⟨#[]⟩ ⟨#[]⟩,.int .i64 190])):=by
 have k0:=JAt.new w ⟨#[]⟩ ⟨#[]⟩ ⟨#[]⟩;have q0:=(bR w).alloc (wh _) (.cells #[.string ⟨#[]⟩,.string ⟨#[]⟩,.string ⟨#[]⟩] 117);have H1:=h_ C1;have H2:=h_ C2;have H3:=h_ C3;have H4:=h_ C4;clear C1 C2 C3 C4;go_enter func126,ntmps126;go_wp2_with fail;refine(H1.out _).mono ?_;rintro e w1 ⟨rfl,hb⟩;have k1:=k0.ret hb;have q1:=q0.trans (hb.mono q0.size);clear hb k0 q0;go_wp2_with fail;refine(H2.out _).mono ?_;rintro e w2 ⟨rfl,hb⟩;have k2:=k1.ret hb;have q2:=q1.trans (hb.mono q1.size);clear hb k1 q1;go_wp2_with fail;refine(H3.out _).mono ?_;rintro e w3 ⟨rfl,hb⟩;have k3:=(k2.ret hb).set3 X Y R;obtain⟨x0,x1,x2,x3,x4,x5,x6⟩:=k2.ret hb;have q3:=q2.trans (hb.mono q2.size);clear hb k2 q2;have q4:=ae q3 (wh _) (.string X) (.string Y) (.string R);have HC:=h_ (H4.out _ (hm.ret q4));clear H4;go_wp2_with fail;refine HC.out.mono ?_;rintro e w4 ⟨rfl,hb⟩;obtain⟨y0,y1,y2,y3,y4,y5,y6⟩:=k3.ret hb;have q5:=q4.trans (hb.mono q4.size);clear hb k3 q4 HC x0 x1 x2 x3 x4 x5 x6 q3;go_wp2_with fail;refine bodyPost_ret (aA rfl rfl rfl ((JAt.mk y0 y1 y2 y3 y4 y5 y6).set3 _ _ _)) rfl ⟨rfl,ae q5 (wh _) _ _ _⟩
theorem ky (s A R Lo X Y:ByteArray) (w:World) (hm:ML w)
  (C1:∀w,Calls prog 170 #[.string s,.string ⟨#[47]⟩] w (Ret w (.tuple #[.string A,.string R,.bool false])))
  (C2:∀w,Calls prog 171 #[.string A] w (Ret w (.string Lo)))
  (C3:∀w,Calls prog 170 #[.string Lo,.string ⟨#[64]⟩] w (Ret w (.tuple #[.string X,.string Y,.bool true])))
  (eX:(X.toList==[])=false) (C4:∀w:World,ML w→Calls prog 91 #[jV X Y R] w (Ret w (.int .i64 0))):
  Calls prog 126 #[.string s] w (Ret w (.tuple #[jV X Y R,.int .i64 0])):=by
 have k0:=JAt.new w ⟨#[]⟩ ⟨#[]⟩ ⟨#[]⟩;have q0:=(bR w).alloc (wh _) (.cells #[.string ⟨#[]⟩,.string ⟨#[]⟩,.string ⟨#[]⟩] 117);have H1:=h_ C1;have H2:=h_ C2;have H3:=h_ C3;have H4:=h_ C4;clear C1 C2 C3 C4;go_enter func126,ntmps126;go_wp2_with fail;refine(H1.out _).mono ?_;rintro e w1 ⟨rfl,hb⟩;have k1:=k0.ret hb;have q1:=q0.trans (hb.mono q0.size);clear hb k0 q0;go_wp2_with fail;refine(H2.out _).mono ?_;rintro e w2 ⟨rfl,hb⟩;have k2:=k1.ret hb;have q2:=q1.trans (hb.mono q1.size);clear hb k1 q1;go_wp2_with fail;refine(H3.out _).mono ?_;rintro e w3 ⟨rfl,hb⟩;have k3:=(k2.ret hb).set3 X Y R;obtain⟨x0,x1,x2,x3,x4,x5,x6⟩:=k2.ret hb;have q3:=q2.trans (hb.mono q2.size);clear hb k2 q2;have q4:=ae q3 (wh _) (.string X) (.string Y) (.string R);have HC:=h_ (H4.out _ (hm.ret q4));clear H4;go_wp2_with fail;refine HC.out.mono ?_;rintro e w4 ⟨rfl,hb⟩;obtain⟨y0,y1,y2,y3,y4,y5,y6⟩:=k3.ret hb;have q5:=q4.trans (hb.mono q4.size);clear hb k3 q4 HC x0 x1 x2 x3 x4 x5 x6 q3;go_wp2_with fail;refine bodyPost_ret (aA rfl rfl rfl ((JAt.mk y0 y1 y2 y3 y4 y5 y6).set3 _ _ _)) rfl ⟨rfl,ae q5 (wh _) _ _ _⟩
theorem jM (s A R Lo X Y:ByteArray) (w:World) (hm:ML w)
  (C1:∀w,Calls prog 170 #[.string s,.string ⟨#[47]⟩] w (Ret w (.tuple #[.string A,.string R,.bool false])))
  (C2:∀w,Calls prog 171 #[.string A] w (Ret w (.string Lo)))
  (C3:∀w,Calls prog 170 #[.string Lo,.string ⟨#[64]⟩] w (Ret w (.tuple #[.string X,.string Y,.bool true])))
  (eX:(X.toList==[])=false) (C4:∀w:World,ML w→Calls prog 91 #[jV X Y R] w (Ret w (.int .i64 8))):
  Calls prog 126 #[.string s] w (Ret w (.tuple #[jV ⟨#[]⟩ ⟨#[]⟩ ⟨#[]⟩,.int .i64 190])):=by
 have k0:=JAt.new w ⟨#[]⟩ ⟨#[]⟩ ⟨#[]⟩;have q0:=(bR w).alloc (wh _) (.cells #[.string ⟨#[]⟩,.string ⟨#[]⟩,.string ⟨#[]⟩] 117);have H1:=h_ C1;have H2:=h_ C2;have H3:=h_ C3;have H4:=h_ C4;clear C1 C2 C3 C4;go_enter func126,ntmps126;go_wp2_with fail;refine(H1.out _).mono ?_;rintro e w1 ⟨rfl,hb⟩;have k1:=k0.ret hb;have q1:=q0.trans (hb.mono q0.size);clear hb k0 q0;go_wp2_with fail;refine(H2.out _).mono ?_;rintro e w2 ⟨rfl,hb⟩;have k2:=k1.ret hb;have q2:=q1.trans (hb.mono q1.size);clear hb k1 q1;go_wp2_with fail;refine(H3.out _).mono ?_;rintro e w3 ⟨rfl,hb⟩;have k3:=(k2.ret hb).set3 X Y R;obtain⟨x0,x1,x2,x3,x4,x5,x6⟩:=k2.ret hb;have q3:=q2.trans (hb.mono q2.size);clear hb k2 q2;have q4:=ae q3 (wh _) (.string X) (.string Y) (.string R);have HC:=h_ (H4.out _ (hm.ret q4));clear H4;go_wp2_with fail;refine HC.out.mono ?_;rintro e w4 ⟨rfl,hb⟩;obtain⟨y0,y1,y2,y3,y4,y5,y6⟩:=k3.ret hb;have q5:=q4.trans (hb.mono q4.size);clear hb k3 q4 HC x0 x1 x2 x3 x4 x5 x6 q3;go_wp2_with fail;refine bodyPost_ret (aA rfl rfl rfl ((JAt.mk y0 y1 y2 y3 y4 y5 y6).set3 _ _ _)) rfl ⟨rfl,ae q5 (wh _) _ _ _⟩
theorem kv (s A Lo X Y:ByteArray) (w:World)
  (C1:∀w,Calls prog 170 #[.string s,.string ⟨#[47]⟩] w (Ret w (.tuple #[.string A,.string ⟨#[]⟩,.bool true])))
  (C2:∀w,Calls prog 171 #[.string A] w (Ret w (.string Lo)))
  (C3:∀w,Calls prog 170 #[.string Lo,.string ⟨#[64]⟩] w (Ret w (.tuple #[.string X,.string Y,.bool false])))
   :
  Calls prog 126 #[.string s] w (Ret w (.tuple #[jV ⟨#[]⟩ ⟨#[]⟩ ⟨#[]⟩,.int .i64 190])):=by
 have k0:=JAt.new w ⟨#[]⟩ ⟨#[]⟩ ⟨#[]⟩;have q0:=(bR w).alloc (wh _) (.cells #[.string ⟨#[]⟩,.string ⟨#[]⟩,.string ⟨#[]⟩] 117);have H1:=h_ C1;have H2:=h_ C2;have H3:=h_ C3;clear C1 C2 C3;go_enter func126,ntmps126;go_wp2_with fail;refine(H1.out _).mono ?_;rintro e w1 ⟨rfl,hb⟩;have k1:=k0.ret hb;have q1:=q0.trans (hb.mono q0.size);clear hb k0 q0;go_wp2_with fail;refine(H2.out _).mono ?_;rintro e w2 ⟨rfl,hb⟩;have k2:=k1.ret hb;have q2:=q1.trans (hb.mono q1.size);clear hb k1 q1;go_wp2_with fail;refine(H3.out _).mono ?_;rintro e w3 ⟨rfl,hb⟩;obtain⟨x0,x1,x2,x3,x4,x5,x6⟩:=k2.ret hb;have q3:=q2.trans (hb.mono q2.size);clear hb k2 q2;go_wp2_with fail;refine bodyPost_ret (aA rfl rfl rfl (((JAt.mk x0 x1 x2 x3 x4 x5 x6).set3 _ _ _).set3 _ _ _)) rfl ⟨rfl,ae (ae q3 (wh _) _ _ _) (wh _) _ _ _⟩
theorem kd (s A R Lo X Y:ByteArray) (w:World) (hm:ML w)
  (C1:∀w,Calls prog 170 #[.string s,.string ⟨#[47]⟩] w (Ret w (.tuple #[.string A,.string R,.bool true])))
  (C2:∀w,Calls prog 171 #[.string A] w (Ret w (.string Lo)))
  (C3:∀w,Calls prog 170 #[.string Lo,.string ⟨#[64]⟩] w (Ret w (.tuple #[.string X,.string Y,.bool false])))
  (eR:(R.toList==[])=false) (C4:∀w:World,ML w→Calls prog 91 #[jV ⟨#[]⟩ Lo R] w (Ret w (.int .i64 0))):
  Calls prog 126 #[.string s] w (Ret w (.tuple #[jV ⟨#[]⟩ Lo R,.int .i64 0])):=by
 have k0:=JAt.new w ⟨#[]⟩ ⟨#[]⟩ ⟨#[]⟩;have q0:=(bR w).alloc (wh _) (.cells #[.string ⟨#[]⟩,.string ⟨#[]⟩,.string ⟨#[]⟩] 117);have H1:=h_ C1;have H2:=h_ C2;have H3:=h_ C3;have H4:=h_ C4;clear C1 C2 C3 C4;go_enter func126,ntmps126;go_wp2_with fail;refine(H1.out _).mono ?_;rintro e w1 ⟨rfl,hb⟩;have k1:=k0.ret hb;have q1:=q0.trans (hb.mono q0.size);clear hb k0 q0;go_wp2_with fail;refine(H2.out _).mono ?_;rintro e w2 ⟨rfl,hb⟩;have k2:=k1.ret hb;have q2:=q1.trans (hb.mono q1.size);clear hb k1 q1;go_wp2_with fail;refine(H3.out _).mono ?_;rintro e w3 ⟨rfl,hb⟩;have k3:=(k2.ret hb).set3 ⟨#[]⟩ Lo R;obtain⟨x0,x1,x2,x3,x4,x5,x6⟩:=k2.ret hb;have q3:=q2.trans (hb.mono q2.size);clear hb k2 q2;have q4:=ae q3 (wh _) (.string ⟨#[]⟩) (.string Lo) (.string R);have HC:=h_ (H4.out _ (hm.ret q4));clear H4;go_wp2_with fail;refine HC.out.mono ?_;rintro e w4 ⟨rfl,hb⟩;obtain⟨y0,y1,y2,y3,y4,y5,y6⟩:=k3.ret hb;have q5:=q4.trans (hb.mono q4.size);clear hb k3 q4 HC x0 x1 x2 x3 x4 x5 x6 q3;go_wp2_with fail;refine bodyPost_ret (aA rfl rfl rfl ((JAt.mk y0 y1 y2 y3 y4 y5 y6).set3 _ _ _)) rfl ⟨rfl,ae q5 (wh _) _ _ _⟩
theorem jU (s A R Lo X Y:ByteArray) (w:World) (hm:ML w)
  (C1:∀w,Calls prog 170 #[.string s,.string ⟨#[47]⟩] w (Ret w (.tuple #[.string A,.string R,.bool true])))
  (C2:∀w,Calls prog 171 #[.string A] w (Ret w (.string Lo)))
  (C3:∀w,Calls prog 170 #[.string Lo,.string ⟨#[64]⟩] w (Ret w (.tuple #[.string X,.string Y,.bool false])))
  (eR:(R.toList==[])=false) (C4:∀w:World,ML w→Calls prog 91 #[jV ⟨#[]⟩ Lo R] w (Ret w (.int .i64 8))):
  Calls prog 126 #[.string s] w (Ret w (.tuple #[jV ⟨#[]⟩ ⟨#[]⟩ ⟨#[]⟩,.int .i64 190])):=by
 have k0:=JAt.new w ⟨#[]⟩ ⟨#[]⟩ ⟨#[]⟩;have q0:=(bR w).alloc (wh _) (.cells #[.string ⟨#[]⟩,.string ⟨#[]⟩,.string ⟨#[]⟩] 117);have H1:=h_ C1;have H2:=h_ C2;have H3:=h_ C3;have H4:=h_ C4;clear C1 C2 C3 C4;go_enter func126,ntmps126;go_wp2_with fail;refine(H1.out _).mono ?_;rintro e w1 ⟨rfl,hb⟩;have k1:=k0.ret hb;have q1:=q0.trans (hb.mono q0.size);clear hb k0 q0;go_wp2_with fail;refine(H2.out _).mono ?_;rintro e w2 ⟨rfl,hb⟩;have k2:=k1.ret hb;have q2:=q1.trans (hb.mono q1.size);clear hb k1 q1;go_wp2_with fail;refine(H3.out _).mono ?_;rintro e w3 ⟨rfl,hb⟩;have k3:=(k2.ret hb).set3 ⟨#[]⟩ Lo R;obtain⟨x0,x1,x2,x3,x4,x5,x6⟩:=k2.ret hb;have q3:=q2.trans (hb.mono q2.size);clear hb k2 q2;have q4:=ae q3 (wh _) (.string ⟨#[]⟩) (.string Lo) (.string R);have HC:=h_ (H4.out _ (hm.ret q4));clear H4;go_wp2_with fail;refine HC.out.mono ?_;rintro e w4 ⟨rfl,hb⟩;obtain⟨y0,y1,y2,y3,y4,y5,y6⟩:=k3.ret hb;have q5:=q4.trans (hb.mono q4.size);clear hb k3 q4 HC x0 x1 x2 x3 x4 x5 x6 q3;go_wp2_with fail;refine bodyPost_ret (aA rfl rfl rfl ((JAt.mk y0 y1 y2 y3 y4 y5 y6).set3 _ _ _)) rfl ⟨rfl,ae q5 (wh _) _ _ _⟩
theorem kw (s A R Lo X Y:ByteArray) (w:World) (hm:ML w)
  (C1:∀w,Calls prog 170 #[.string s,.string ⟨#[47]⟩] w (Ret w (.tuple #[.string A,.string R,.bool false])))
  (C2:∀w,Calls prog 171 #[.string A] w (Ret w (.string Lo)))
  (C3:∀w,Calls prog 170 #[.string Lo,.string ⟨#[64]⟩] w (Ret w (.tuple #[.string X,.string Y,.bool false])))
  (C4:∀w:World,ML w→Calls prog 91 #[jV ⟨#[]⟩ Lo R] w (Ret w (.int .i64 0))):
  Calls prog 126 #[.string s] w (Ret w (.tuple #[jV ⟨#[]⟩ Lo R,.int .i64 0])):=by
 have k0:=JAt.new w ⟨#[]⟩ ⟨#[]⟩ ⟨#[]⟩;have q0:=(bR w).alloc (wh _) (.cells #[.string ⟨#[]⟩,.string ⟨#[]⟩,.string ⟨#[]⟩] 117);have H1:=h_ C1;have H2:=h_ C2;have H3:=h_ C3;have H4:=h_ C4;clear C1 C2 C3 C4;go_enter func126,ntmps126;go_wp2_with fail;refine(H1.out _).mono ?_;rintro e w1 ⟨rfl,hb⟩;have k1:=k0.ret hb;have q1:=q0.trans (hb.mono q0.size);clear hb k0 q0;go_wp2_with fail;refine(H2.out _).mono ?_;rintro e w2 ⟨rfl,hb⟩;have k2:=k1.ret hb;have q2:=q1.trans (hb.mono q1.size);clear hb k1 q1;go_wp2_with fail;refine(H3.out _).mono ?_;rintro e w3 ⟨rfl,hb⟩;have k3:=(k2.ret hb).set3 ⟨#[]⟩ Lo R;obtain⟨x0,x1,x2,x3,x4,x5,x6⟩:=k2.ret hb;have q3:=q2.trans (hb.mono q2.size);clear hb k2 q2;have q4:=ae q3 (wh _) (.string ⟨#[]⟩) (.string Lo) (.string R);have HC:=h_ (H4.out _ (hm.ret q4));clear H4;go_wp2_with fail;refine HC.out.mono ?_;rintro e w4 ⟨rfl,hb⟩;obtain⟨y0,y1,y2,y3,y4,y5,y6⟩:=k3.ret hb;have q5:=q4.trans (hb.mono q4.size);clear hb k3 q4 HC x0 x1 x2 x3 x4 x5 x6 q3;go_wp2_with fail;refine bodyPost_ret (aA rfl rfl rfl ((JAt.mk y0 y1 y2 y3 y4 y5 y6).set3 _ _ _)) rfl ⟨rfl,ae q5 (wh _) _ _ _⟩
theorem kp (s A R Lo X Y:ByteArray) (w:World) (hm:ML w)
  (C1:∀w,Calls prog 170 #[.string s,.string ⟨#[47]⟩] w (Ret w (.tuple #[.string A,.string R,.bool false])))
  (C2:∀w,Calls prog 171 #[.string A] w (Ret w (.string Lo)))
  (C3:∀w,Calls prog 170 #[.string Lo,.string ⟨#[64]⟩] w (Ret w (.tuple #[.string X,.string Y,.bool false])))
  (C4:∀w:World,ML w→Calls prog 91 #[jV ⟨#[]⟩ Lo R] w (Ret w (.int .i64 8))):
  Calls prog 126 #[.string s] w (Ret w (.tuple #[jV ⟨#[]⟩ ⟨#[]⟩ ⟨#[]⟩,.int .i64 190])):=by
 have k0:=JAt.new w ⟨#[]⟩ ⟨#[]⟩ ⟨#[]⟩;have q0:=(bR w).alloc (wh _) (.cells #[.string ⟨#[]⟩,.string ⟨#[]⟩,.string ⟨#[]⟩] 117);have H1:=h_ C1;have H2:=h_ C2;have H3:=h_ C3;have H4:=h_ C4;clear C1 C2 C3 C4;go_enter func126,ntmps126;go_wp2_with fail;refine(H1.out _).mono ?_;rintro e w1 ⟨rfl,hb⟩;have k1:=k0.ret hb;have q1:=q0.trans (hb.mono q0.size);clear hb k0 q0;go_wp2_with fail;refine(H2.out _).mono ?_;rintro e w2 ⟨rfl,hb⟩;have k2:=k1.ret hb;have q2:=q1.trans (hb.mono q1.size);clear hb k1 q1;go_wp2_with fail;refine(H3.out _).mono ?_;rintro e w3 ⟨rfl,hb⟩;have k3:=(k2.ret hb).set3 ⟨#[]⟩ Lo R;obtain⟨x0,x1,x2,x3,x4,x5,x6⟩:=k2.ret hb;have q3:=q2.trans (hb.mono q2.size);clear hb k2 q2;have q4:=ae q3 (wh _) (.string ⟨#[]⟩) (.string Lo) (.string R);have HC:=h_ (H4.out _ (hm.ret q4));clear H4;go_wp2_with fail;refine HC.out.mono ?_;rintro e w4 ⟨rfl,hb⟩;obtain⟨y0,y1,y2,y3,y4,y5,y6⟩:=k3.ret hb;have q5:=q4.trans (hb.mono q4.size);clear hb k3 q4 HC x0 x1 x2 x3 x4 x5 x6 q3;go_wp2_with fail;refine bodyPost_ret (aA rfl rfl rfl ((JAt.mk y0 y1 y2 y3 y4 y5 y6).set3 _ _ _)) rfl ⟨rfl,ae q5 (wh _) _ _ _⟩

theorem ah (l:List UInt8):(jB l).data.toList=l:=by simp
theorem ai (l:List UInt8):(jB l).size=l.length:=by
 rw[←ab,ah]
theorem fR (c:UInt8) (l:List UInt8):(cA c l).length≤l.length:=by
 unfold cA;exact(List.takeWhile_sublist _).length_le
theorem im (c:UInt8) (l:List UInt8):(cR c l).length≤l.length:=by
 unfold cR;rw[List.length_drop];have:=(List.dropWhile_sublist (l:=l) (· != c)).length_le
 omega
theorem aU (l:List UInt8):(d8 l).length=l.length:=by simp[d8]
theorem jf (l:List UInt8):(bf l).length≤l.length:=by
 unfold bf;rw[aU];exact fR 47 l
theorem iD {l:List UInt8} (h:l.isEmpty=false):((jB l).toList==[])=false:=by
 rw[Lib.toList_data,ah]
 cases l with
 | nil=>cases h
 | cons a l=>rfl
def nI (l:List UInt8):Value:=if cP l=true then .tuple #[jV (jB (aO l)) (jB (aZ l)) (jB (aP l)),.int .i64 0] else .tuple #[jV ⟨#[]⟩ ⟨#[]⟩ ⟨#[]⟩,.int .i64 190]
theorem eB (s:ByteArray) (w:World) (hs:s.size≤10000) (hm:ML w):
  Calls prog 126 #[.string s] w (Ret w (nI s.data.toList)):=by
 have C1:=fun w=>lg s 47 w (by omega)
 have hz:=ab s;obtain⟨l,hl⟩:=e_ s.data.toList;rw[hl] at C1 hz ⊢;have zA:=fR 47 l;have zR:=im 47 l;have xn:=jf l;have zX:=fR 64 (bf l);have zY:=im 64 (bf l)
 have C2:=fun w=>qv (jB (cA 47 l)) w (by rw[ai];omega)
 rw[ah] at C2
 have C3:=fun w=>lg (jB (bf l)) 64 w (by rw[ai];omega)
 rw[ah] at C3
 have C4:∀a b c:List UInt8,a.length≤10000→b.length≤10000→c.length≤10000→∀w:World,ML w→Calls prog 91 #[jV (jB a) (jB b) (jB c)] w (Ret w (.int .i64 (if bB a b c=true then 0 else 8))):=by
  intro a b c za zb zc w hm;have:=ei (jB a) (jB b) (jB c) w (by rw[ai];exact za) (by rw[ai];exact zb) (by rw[ai];exact zc) hm;rw[ah,ah,ah] at this;exact this
 unfold nI
 cases hh:(bf l).contains 64 with
 | true=>
  have eL:aO l=cA 64 (bf l):=by unfold aO;rw[hh];rfl
  have eD:aZ l=cR 64 (bf l):=by unfold aZ;rw[hh];rfl
  rw[hh] at C3
  cases hx:(aO l).isEmpty with
  | true=>
   have hp:cP l=false:=(by unfold cP;rw[hh,hx];rfl);rw[hp];rw[show cA 64 (bf l)=[] by rw[←eL];exact wq.1 hx] at C3
   cases hb:l.contains 47 with
   | true=>rw[hb] at C1;exact kV s _ _ _ _ w C1 C2 C3
   | false=>rw[hb] at C1;exact jZ s _ _ _ _ w C1 C2 C3
  | false=>
   have eX:((jB (cA 64 (bf l))).toList==[])=false:=iD (by rw[←eL];exact hx)
   cases hb:l.contains 47 with
   | true=>
    rw[hb] at C1
    cases hr:(aP l).isEmpty with
    | true=>
     have hp:cP l=false:=(by unfold cP;rw[hh,hx,hb,hr];rfl);rw[hp];rw[show cR 47 l=[] from wq.1 hr] at C1;exact ke s _ _ _ _ w C1 C2 C3 eX
    | false=>
     have hp:cP l=bB (aO l) (aZ l) (aP l):=(by unfold cP;rw[hh,hx,hb,hr];rfl);have C5:=C4 (aO l) (aZ l) (aP l) (by rw[eL];omega) (by rw[eD];omega) (by unfold aP;omega);rw[hp];rw[eL,eD] at C5 ⊢
     cases hc:bB (cA 64 (bf l)) (cR 64 (bf l)) (aP l) with
     | true=>rw[hc] at C5;exact kR s _ _ _ _ _ w hm C1 C2 C3 eX (iD hr) C5
     | false=>rw[hc] at C5;exact kn s _ _ _ _ _ w hm C1 C2 C3 eX (iD hr) C5
   | false=>
    rw[hb] at C1;have hp:cP l=bB (aO l) (aZ l) (aP l):=(by unfold cP;rw[hh,hx,hb];rfl);have C5:=C4 (aO l) (aZ l) (aP l) (by rw[eL];omega) (by rw[eD];omega) (by unfold aP;omega);rw[hp];rw[eL,eD] at C5 ⊢
    cases hc:bB (cA 64 (bf l)) (cR 64 (bf l)) (aP l) with
    | true=>rw[hc] at C5;exact ky s _ _ _ _ _ w hm C1 C2 C3 eX C5
    | false=>rw[hc] at C5;exact jM s _ _ _ _ _ w hm C1 C2 C3 eX C5
 | false=>
  have eL:aO l=[]:=by unfold aO;rw[hh];rfl
  have eD:aZ l=bf l:=by unfold aZ;rw[hh];rfl
  rw[hh] at C3
  cases hb:l.contains 47 with
  | true=>
   rw[hb] at C1
   cases hr:(aP l).isEmpty with
   | true=>
    have hp:cP l=false:=(by unfold cP;rw[hh,hb,hr];rfl);rw[hp];rw[show cR 47 l=[] from wq.1 hr] at C1;exact kv s _ _ _ _ w C1 C2 C3
   | false=>
    have hp:cP l=bB (aO l) (aZ l) (aP l):=(by unfold cP;rw[hh,hb,hr];rfl);have C5:=C4 (aO l) (aZ l) (aP l) (by rw[eL];exact ws _) (by rw[eD];omega) (by unfold aP;omega);rw[hp];rw[eL,eD] at C5 ⊢
    cases hc:bB [] (bf l) (aP l) with
    | true=>rw[hc] at C5;exact kd s _ _ _ _ _ w hm C1 C2 C3 (iD hr) C5
    | false=>rw[hc] at C5;exact jU s _ _ _ _ _ w hm C1 C2 C3 (iD hr) C5
  | false=>
   rw[hb] at C1;have hp:cP l=bB (aO l) (aZ l) (aP l):=(by unfold cP;rw[hh,hb];rfl);have C5:=C4 (aO l) (aZ l) (aP l) (by rw[eL];exact ws _) (by rw[eD];omega) (by unfold aP;omega);rw[hp];rw[eL,eD] at C5 ⊢
   cases hc:bB [] (bf l) (aP l) with
   | true=>rw[hc] at C5;exact kw s _ _ _ _ _ w hm C1 C2 C3 C5
   | false=>rw[hc] at C5;exact kp s _ _ _ _ _ w hm C1 C2 C3 C5
end Go.Proofs.YtjgeiieiinmdnaaGreatDoor
