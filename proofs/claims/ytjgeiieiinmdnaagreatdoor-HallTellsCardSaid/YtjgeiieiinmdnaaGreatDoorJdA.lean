/- jid.Bare and jid.Less. -/
import Derived.Test.YtjgeiieiinmdnaaGreatDoorKa
import Derived.Test.YtjgeiieiinmdnaaGreatDoorGa
import Derived.Test.YtjgeiieiinmdnaaGreatDoorGa
import Derived.Deep.QuietTactic
import Derived.BigQuiet
import Derived.Laws.ResultCell
open Go.Proofs.Tryz
open Go.Lib renaming toList_data→ws
open Nat renaming lt_or_ge→wq
namespace Go.Proofs.YtjgeiieiinmdnaaGreatDoor
set_option maxHeartbeats 4000000
open Go.RowKit

theorem rC (x:ByteArray) (w:World):Calls prog 266 #[.string x] w fun e w'=>e=.returned (.bool false)∧w'=w:=by
 go_enter func266,ntmps266;go_wp2_with fail;go_ret;exact⟨by simp,rfl⟩
def c1P (a b:List UInt8):Int:=if Op.bytesLess a b then -1 else if Op.bytesLess b a then 1 else 0
theorem l8 (x y:ByteArray) (w:World):Calls prog 241 #[.string x,.string y] w fun e w'=>e=.returned (.int .i64 (c1P x.data.toList y.data.toList))∧w'=w:=by
 have e1:x.toList=x.data.toList:=ws x
 have e2:y.toList=y.data.toList:=ws y
 have C1:=h_ fun w=>rC x w
 have C2:=h_ fun w=>rC y w
 unfold c1P;obtain⟨X,hX⟩:=e_ x.data.toList;obtain⟨Y,hY⟩:=e_ y.data.toList;rw[hX] at e1 ⊢;rw[hY] at e2 ⊢
 rcases a8 X Y with ⟨h1,h2,h3⟩ | ⟨h1,h2,h3⟩ | ⟨h1,h2,rfl⟩
 ·rw[h1]
  go_enter func241,ntmps241;go_wp2_with fail;refine(C1.out _).mono ?_;rintro e w1 ⟨rfl,rfl⟩;go_wp2_with fail;refine(C2.out _).mono ?_;rintro e w1 ⟨rfl,rfl⟩;go_wp2_with fail;go_ret;exact⟨rfl,rfl⟩
 ·have h4 : (X == Y) = false := by simpa using h3
  rw[h1,h2];go_enter func241,ntmps241;go_wp2_with fail;refine(C1.out _).mono ?_;rintro e w1 ⟨rfl,rfl⟩;go_wp2_with fail;refine(C2.out _).mono ?_;rintro e w1 ⟨rfl,rfl⟩;go_wp2_with fail;go_ret;exact⟨rfl,rfl⟩
 ·have h4 : (X == X) = true := by simp
  rw[h1];go_enter func241,ntmps241;go_wp2_with fail;refine(C1.out _).mono ?_;rintro e w1 ⟨rfl,rfl⟩;go_wp2_with fail;refine(C2.out _).mono ?_;rintro e w1 ⟨rfl,rfl⟩;go_wp2_with fail;go_ret;exact⟨rfl,rfl⟩
structure JAt (L:Nat) (a b c:ByteArray) (w:World):Prop where
 lt:L<w.heap.size
 c0:w.cell? ⟨L,0,none⟩=some (.string a)
 c1:w.cell? ⟨L,1,none⟩=some (.string b)
 c2:w.cell? ⟨L,2,none⟩=some (.string c)
 f0:w.frozen? ⟨L,0,none⟩=false
 f1:w.frozen? ⟨L,1,none⟩=false
 f2:w.frozen? ⟨L,2,none⟩=false
theorem JAt.ret {L:Nat} {a b c:ByteArray} {w w':World} (h:JAt L a b c w) (hb:Bl w w'):JAt L a b c w':=by
 obtain⟨h0,h1,h2,h3,h4,h5,h6⟩:=h;obtain⟨q,r⟩:=af hb;exact⟨Nat.lt_of_lt_of_le h0 hb.size,(q _ _ h0).trans h1,(q _ _ h0).trans h2,(q _ _ h0).trans h3,(r _ _ h0).trans h4,(r _ _ h0).trans h5,(r _ _ h0).trans h6⟩
abbrev jV (a b c:ByteArray):Value:=.agg #[.string a,.string b,.string c]
theorem JAt.new (w:World) (a b c:ByteArray):JAt w.heap.size a b c (w.alloc (.cells #[.string a,.string b,.string c] 117)):=by constructor <;> simp
def c3P (a b:Adr):Int:=if c1P a.2.1 b.2.1≠0 then c1P a.2.1 b.2.1 else if c1P a.1 b.1≠0 then c1P a.1 b.1 else c1P a.2.2 b.2.2
theorem gS (a b:List UInt8):c1P a b=0↔a=b:=by
 unfold c1P
 rcases a8 a b with ⟨h1,h2,h3⟩ | ⟨h1,h2,h3⟩ | ⟨h1,h2,rfl⟩ <;> simp_all
theorem mX (a b:List UInt8):decide (c1P a b<0)=Op.bytesLess a b:=by
 unfold c1P
 rcases a8 a b with ⟨h1,h2,h3⟩ | ⟨h1,h2,h3⟩ | ⟨h1,h2,h3⟩ <;> simp[h1,h2]
theorem ur (a b:Adr):decide (c3P a b<0)=lsP a b:=by
 unfold c3P lsP
 split
 ·rename_i h
  rw[mX]
  rcases a8 a.2.1 b.2.1 with ⟨h1,h2,h3⟩ | ⟨h1,h2,h3⟩ | ⟨h1,h2,h3⟩
  ·simp[h1,h2]
  ·simp[h1,h2]
  ·exact absurd ((gS _ _).2 h3) h
 ·rename_i h
  have e:=(gS _ _).1 (Decidable.not_not.1 h);rw[e,gu]
  split
  ·rename_i h
   rw[mX]
   rcases a8 a.1 b.1 with ⟨h1,h2,h3⟩ | ⟨h1,h2,h3⟩ | ⟨h1,h2,h3⟩
   ·simp[h1,h2]
   ·simp[h1,h2]
   ·exact absurd ((gS _ _).2 h3) h
  ·rename_i h
   have e:=(gS _ _).1 (Decidable.not_not.1 h);rw[e,gu,mX]
   simp
structure T3 (L:Nat) (a b c:ByteArray) (w:World):Prop where
 lt:L<w.heap.size
 c0:w.cell? ⟨L,0,none⟩=some (.string a)
 c1:w.cell? ⟨L,1,none⟩=some (.string b)
 c2:w.cell? ⟨L,2,none⟩=some (.string c)
def t3 (a b c:ByteArray) (i:Nat):ByteArray:=if i=0 then a else if i=1 then b else c
theorem T3.at {L:Nat} {a b c:ByteArray} {w:World} (h:T3 L a b c w) {i:Nat} (hi:i<3):w.cell? ⟨L,i,none⟩=some (.string (t3 a b c i)):=by
 unfold t3
 rcases wq i 1 with h1 | h1
 ·obtain rfl : i = 0 := by omega
  exact h.c0
 ·rcases wq i 2 with h2 | h2
  ·obtain rfl : i = 1 := by omega
   exact h.c1
  ·obtain rfl : i = 2 := by omega
   exact h.c2
def cR3 (a b c x y z:ByteArray) (i:Nat):Int:=
 if 3≤i then 0 else if c1P (t3 a b c i).data.toList (t3 x y z i).data.toList≠0 then c1P (t3 a b c i).data.toList (t3 x y z i).data.toList else if 3≤i+1 then 0 else
  if c1P (t3 a b c (i+1)).data.toList (t3 x y z (i+1)).data.toList≠0 then c1P (t3 a b c (i+1)).data.toList (t3 x y z (i+1)).data.toList else if 3≤i+2 then 0 else
   if c1P (t3 a b c (i+2)).data.toList (t3 x y z (i+2)).data.toList≠0 then c1P (t3 a b c (i+2)).data.toList (t3 x y z (i+2)).data.toList else 0
theorem pD (a b c x y z:ByteArray) (i:Nat) (hi:i<3):cR3 a b c x y z i=if c1P (t3 a b c i).data.toList (t3 x y z i).data.toList≠0 then c1P (t3 a b c i).data.toList (t3 x y z i).data.toList else cR3 a b c x y z (i+1):=by
 unfold cR3
 rcases wq i 1 with h1 | h1
 ·obtain rfl : i = 0 := by omega
  simp
 ·rcases wq i 2 with h2 | h2
  ·obtain rfl : i = 1 := by omega
   simp
  ·obtain rfl : i = 2 := by omega
   simp
theorem mQ (L M:Nat) (a b c x y z:ByteArray) (w:World) (h1:T3 L a b c w) (h2:T3 M x y z w):
  Calls prog 205 #[.slice (some ⟨L,0,none⟩) 3 3,.slice (some ⟨M,0,none⟩) 3 3] w fun e w'=>e=.returned (.int .i64 (cR3 a b c x y z 0))∧w'=w:=by
 have A1:=h_ fun i (hi:i<3)=>h1.at hi
 have A2:=h_ fun i (hi:i<3)=>h2.at hi
 have hL:=h1.lt;have hM:=h2.lt;obtain⟨O,hO⟩:=e_ (cR3 a b c x y z 0);rw[hO];have HO:=h_ hO;clear hO h1 h2;go_enter func205,ntmps205;go_wp2_with fail;go_loop [5,6,7,8,11] (fun _ _ _ _ u11=>∃k:Nat,k≤3∧u11=.int .i64 k∧cR3 a b c x y z k=O) (fun _ _ _ _ u11=>3-(intOf u11).toNat)
 case atStart=>exact⟨0,Nat.zero_le _,rfl,HO.out⟩
 case round=>
  obtain⟨k,hk,rfl,hin⟩:=hrel
  by_cases hlt:k<3
  ·have g1:=A1.out k hlt
   have g2:=A2.out k hlt;rw[pD _ _ _ _ _ _ k hlt] at hin;obtain⟨X,hX⟩:=e_ (t3 a b c k);obtain⟨Y,hY⟩:=e_ (t3 x y z k);rw[hX] at g1 hin;rw[hY] at g2 hin
   have C:=fun w=>l8 X Y w
   obtain⟨V,hV⟩:=e_ (c1P X.data.toList Y.data.toList);rw[hV] at C hin;have CH:=h_ C;clear C hX hY hV
   by_cases h0:V=0
   ·subst h0
    rw[if_neg (by simp)] at hin;have HI:=h_ hin;clear hin;go_wp2_with fail;refine(CH.out _).mono ?_;rintro e w1 ⟨rfl,rfl⟩;go_wp2_with fail;go_round
    case rel=>exact⟨k+1,by omega,by go_num,HI.out⟩
    case measure=>simp[intOf];omega
   ·rw[if_pos h0] at hin
    have hq:(V==0)=false:=(by simpa using h0);subst hin;go_wp2_with fail;refine(CH.out _).mono ?_;rintro e w1 ⟨rfl,rfl⟩;go_wp2_with fail;go_ret;exact⟨rfl,rfl⟩
  ·obtain rfl : k = 3 := by omega
   have hz:O=0:=(by rw[←hin];unfold cR3;simp);subst hz;clear hin;go_wp2_with fail;go_ret;exact⟨rfl,rfl⟩
end Go.Proofs.YtjgeiieiinmdnaaGreatDoor
