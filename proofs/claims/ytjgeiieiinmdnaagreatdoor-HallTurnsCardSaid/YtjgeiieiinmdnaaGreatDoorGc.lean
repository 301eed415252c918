/- AsJ, AsK, Range, AsL, AsM, AsN, AsUa, AsWq, AsXp, Tab, Spl, Ml, RangeG: put together by mergetpl.py. -/
import Derived.Deep.Onto
import Derived.Lib.Bytealg
import Derived.Lib.IndexBytes
import Derived.Lib.ItoaMem
import Derived.Lib.SplitLaws
import Derived.LoopIn
import Derived.LoopNIn
import Derived.OwnWalkIn
import Derived.RangeFuncBound
import Derived.RangeFuncBox
import Derived.RangeFuncCalls
import Derived.RangeFuncLeaves
import Derived.RangeFuncNested
import Derived.ShapedOpen
import Derived.Shelf.Strings.SlTrimAscii
import Derived.Shelf.Vars
import Derived.TacticsInMore
import Derived.WalkSmall
import Derived.Test.YtjgeiieiinmdnaaGreatDoorShelf
import Derived.Test.YtjgeiieiinmdnaaGreatDoorGb
open Go.Proofs.Tryz
open Array renaming getElem?_eq_none→wt
open Go.Lib renaming indexByte→wh,pow10Tab→wq,decDigits→wu
open List renaming contains_cons→wo
open Nat renaming lt_or_ge→ws
namespace Go.Proofs.YtjgeiieiinmdnaaGreatDoor
set_option maxHeartbeats 2000000
open Go.RowKit


def cA (c:UInt8) (l:List UInt8):List UInt8:=l.takeWhile (· != c)
def cR (c:UInt8) (l:List UInt8):List UInt8:=(l.dropWhile (· != c)).drop 1
theorem rB (c:UInt8) (l:List UInt8):(wh l c=-1∧cA c l=l∧cR c l=[]∧l.contains c=false)∨∃i:Nat,wh l c=i∧i<l.length∧cA c l=l.take i∧cR c l=l.drop (i+1)∧l.contains c=true:=by
 induction l with
 | nil=>exact .inl ⟨rfl,rfl,rfl,rfl⟩
 | cons b l ih=>
  by_cases hb:b=c
  ·subst hb
   refine .inr ⟨0,by simp[wh],by simp,by simp[cA],by simp[cR],by simp⟩
  ·have xo : (b == c) = false := by simpa using hb
   have xq:(c==b)=false:=(by rw[dW];exact xo);have h1:cA c (b :: l)=b :: cA c l:=(by unfold cA;simp[hb]);have h2:cR c (b :: l)=cR c l:=(by unfold cR;simp[hb])
   rcases ih with ⟨i1,i2,i3,i4⟩ | ⟨i,i1,i0,i2,i3,i4⟩
   ·refine .inl ⟨by simp[wh,xo,i1],by rw[h1,i2],by rw[h2,i3],by rw[wo,xq,i4];rfl⟩
   ·refine .inr ⟨i+1,?_,by simp;omega,by rw[h1,i2];rfl,by rw[h2,i3];rfl,by rw[wo,i4,Bool.or_true]⟩
    have xr:¬ (i:Int)=-1:=(by omega)
    simp[wh,xo,i1,xr]
theorem vD (c:UInt8) (l:List UInt8):(cA c l).length≤l.length:=(List.takeWhile_sublist _).length_le
theorem tL (s:ByteArray) (c:UInt8) (w:World) (hs:s.size≤1000000):
  Calls prog 209 #[.string s,.string ⟨#[c]⟩] w (Ret w (.tuple #[.string ⟨(cA c s.data.toList).toArray⟩,.string ⟨(cR c s.data.toList).toArray⟩,.bool (s.data.toList.contains c)])):=by
 have I:=fun w=>Tryz.stringslite_Index_one s c w
 obtain⟨b,hb⟩:=e_ (s.data.toList.contains c);obtain⟨x,hx⟩:=e_ (cA c s.data.toList);obtain⟨y,hy⟩:=e_ (cR c s.data.toList)
 rcases rB c s.data.toList with ⟨h1,h2,h3,h4⟩ | ⟨i,h1,h0,h2,h3,h4⟩
 ·rw[h1] at I
  rw[hb,hx,hy];rw[hb] at h4;rw[hx] at h2;rw[hy] at h3;subst h4;subst h3
  have xn:(⟨x.toArray⟩:ByteArray)=s:=by rw[h2,uu]
  have IH:=h_ I;have HX:=h_ xn;clear I hb hx hy h1 h2 xn;go_enter func209,ntmps209;go_wp2_with fail;refine(IH.out _).mono ?_;rintro e w1 ⟨rfl,rfl⟩;go_wp2_with fail;go_ret3;rw[HX.out];exact⟨rfl,bQ _⟩
 ·rw[h1] at I
  rw[hb,hx,hy];rw[hb] at h4;rw[hx] at h2;rw[hy] at h3;rw[ab] at h0;subst h4
  have xn:(⟨x.toArray⟩:ByteArray)=s.extract 0 i:=aW (by rw[jC,h2];rfl)
  have xp:(⟨y.toArray⟩:ByteArray)=s.extract (i+1) s.size:=aW (by rw[ef,h3])
  have IH:=h_ I;have HX:=h_ xn;have HY:=h_ xp
  have g1:(i:Int)≤s.size:=by omega
  have e1:IntKind.i64.wrap ((i:Int)+1)=(i:Int)+1:=IntWalk.i64_in _ (by omega)
  have e2:(0:Int)≤(i:Int)+1:=by omega
  have e3:((i:Int)+1).toNat=i+1:=by omega
  have e4:(i:Int)+1≤s.size:=by omega
  clear I hb hx hy h1 h2 h3 xn xp;go_enter func209,ntmps209;go_wp2_with fail;refine(IH.out _).mono ?_;rintro e w1 ⟨rfl,rfl⟩;go_wp2_with fail;go_quiet (fail);go_wp2_with fail;go_ret3;rw[HX.out,HY.out];exact⟨rfl,below_drewN _ _⟩
theorem lg (s:ByteArray) (c:UInt8) (w:World) (hs:s.size≤1000000):
  Calls prog 170 #[.string s,.string ⟨#[c]⟩] w (Ret w (.tuple #[.string ⟨(cA c s.data.toList).toArray⟩,.string ⟨(cR c s.data.toList).toArray⟩,.bool (s.data.toList.contains c)])):=by
 have C:=h_ (tL s c w hs);obtain⟨b,hb⟩:=e_ (s.data.toList.contains c);obtain⟨x,hx⟩:=e_ (cA c s.data.toList);obtain⟨y,hy⟩:=e_ (cR c s.data.toList);rw[hb,hx,hy] at C ⊢;clear hb hx hy;go_enter func170,ntmps170;go_wp2_with fail;refine(C.out).mono ?_;rintro e w1 ⟨rfl,hb⟩;go_wp2_with fail;go_ret3;exact⟨rfl,hb⟩


attribute [local go_sem] Oper.semAt_some



attribute [local go_sem] Oper.semAt_some




open Go.RowKit Go.Sort

def Tab (w : World) : Prop := Lib.TabIs prog w "internal/strconv.uint64pow10" .u64 wq
theorem gPow : prog.globalNamed "internal/strconv.uint64pow10" = some 0 := by kernel_rfl
theorem Tab.below {B:Nat} {w w':World} (h:Tab w) (hb:Below B w w') (hB:0<B):Tab w':=var?_below hb gPow hB h
theorem Tab.lt {w:World} (h:Tab w):0<w.heap.size:=by
 have h1 : w.var? prog "internal/strconv.uint64pow10" = some (wq.map fun z => Value.int .u64 z).toArray := h
 unfold World.var? at h1;rw[gPow] at h1;simp only[Option.bind_some] at h1
 rcases ws 0 w.heap.size with h2 | h2
 ·exact h2
 ·rw[wt h2] at h1
  cases h1
theorem Tab.ret {w w':World} (h:Tab w) (hb:Bl w w'):Tab w':=Tab.below h hb (Tab.lt h)
theorem qk (n:Nat):Lib.itoa (n:Int)=wu n:=by
 unfold Lib.itoa;rw[if_neg (by omega)]
 simp

theorem mS (w:World) (k:Nat) (os:Array Obj):Below w.heap.size w (grow (w.drewN k) os):=by
 refine⟨rfl,rfl,rfl,?_,fun i hi=>?_⟩
 ·show w.heap.size≤(w.heap++os).size
  simp
 ·show (w.heap++os)[i]?=w.heap[i]?
  rw[Array.getElem?_append_left hi]
theorem rW (n:Nat) (hn:n≤9223372036854775807) (w:World) (ht:Tab w):Calls prog 93 #[.int .i64 n] w (Ret w (.string ⟨(wu n).toArray⟩)):=by
 refine(Tryz.strconv_Itoa n (by omega) (by omega) w ht).mono ?_;rintro e w' ⟨rfl,k,os,rfl⟩;rw[qk];exact⟨rfl,mS w k os⟩


def ML (w:World):Prop:=1<w.heap.size∧∃m:Int,w.cell? ⟨1,0,none⟩=some (.int .i64 m)
theorem ML.ret {w w':World} (h:ML w) (hb:Bl w w'):ML w':=by
 obtain⟨h1,m,h2⟩:=h;exact⟨Nat.lt_of_lt_of_le h1 hb.size,m,((ag hb).1 _ _ h1).trans h2⟩

theorem ML.of {w:World} (h:∃m:Int,w.cell? ⟨1,0,none⟩=some (.int .i64 m)):ML w:=by
 obtain⟨m,h⟩:=h;refine⟨?_,m,h⟩
 rcases ws 1 w.heap.size with h' | h'
 ·exact h'
 ·simp[World.cell?,wt h'] at h
theorem ML.shaped {W:World} (h:W.ShapedOpen prog):ML W:=
 ML.of (cell_of_shapedOpen_int (P:=prog) (g:=1) (t:=3) (zero:=#[.int .i64 0]) h (of_decide_eq_true (by kernel_rfl)) (by kernel_rfl) rfl (by kernel_rfl) (by kernel_rfl) underlying3)

end Go.Proofs.YtjgeiieiinmdnaaGreatDoor
