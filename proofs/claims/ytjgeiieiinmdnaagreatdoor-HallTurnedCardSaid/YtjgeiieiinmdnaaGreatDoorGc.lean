/- AsJ, AsK, Range, AsL, AsM, AsN, AsUa, AsWq, AsXp, Tab, Spl, Ml, RangeG: put together by mergetpl.py. -/
import Derived.Test.YtjgeiieiinmdnaaGreatDoorGb
import Derived.Test.YtjgeiieiinmdnaaGreatDoorShelf
import Derived.Shelf.Strings.SlTrimAscii
import Derived.Lib.Bytealg
import Derived.RangeFuncNested
import Derived.RangeFuncBound
import Derived.RangeFuncCalls
import Derived.RangeFuncLeaves
import Derived.RangeFuncBox
import Derived.Test.YtjgeiieiinmdnaaGreatDoorGa
import Derived.WalkKit
import Derived.OwnWalkIn
import Derived.TacticsInMore
import Derived.LoopNIn
import Derived.LoopIn
import Derived.Laws.ResultCell
import Derived.Deep.Onto
import Derived.WalkSmall
import Derived.Lib.ItoaMem
import Derived.Lib.SplitLaws
import Derived.Lib.IndexBytes
import Derived.ShapedOpen
import Derived.Shelf.Vars
namespace Go.Proofs.YtjgeiieiinmdnaaGreatDoor
open Go.RowKit

end Go.Proofs.YtjgeiieiinmdnaaGreatDoor
namespace Go.Proofs.YtjgeiieiinmdnaaGreatDoor
open Go.RowKit

/-- What stands ahead of a byte, and behind it. -/
def cA (c : UInt8) (l : List UInt8) : List UInt8 := l.takeWhile (· != c)
def cR (c : UInt8) (l : List UInt8) : List UInt8 := (l.dropWhile (· != c)).drop 1
theorem ib_cases (c : UInt8) (l : List UInt8) : (Lib.indexByte l c = -1 ∧ cA c l = l ∧ cR c l = [] ∧ l.contains c = false) ∨ ∃ i : Nat, Lib.indexByte l c = i ∧ i < l.length ∧ cA c l = l.take i ∧ cR c l = l.drop (i + 1) ∧ l.contains c = true := by
 induction l with
 | nil => exact .inl ⟨rfl, rfl, rfl, rfl⟩
 | cons b l ih =>
  by_cases hb : b = c
  ·subst hb
   refine .inr ⟨0, by simp [Lib.indexByte], by simp, by simp [cA], by simp [cR], by simp⟩
  ·have hb1 : (b == c) = false := by simpa using hb
   have hcb : (c == b) = false := by rw [beq_comm_u8]; exact hb1
   have h1 : cA c (b :: l) = b :: cA c l := by unfold cA; simp [hb]
   have h2 : cR c (b :: l) = cR c l := by unfold cR; simp [hb]
   rcases ih with ⟨i1, i2, i3, i4⟩ | ⟨i, i1, i0, i2, i3, i4⟩
   ·refine .inl ⟨by simp [Lib.indexByte, hb1, i1], by rw [h1, i2], by rw [h2, i3], by rw [List.contains_cons, hcb, i4]; rfl⟩
   ·refine .inr ⟨i + 1, ?_, by simp; omega, by rw [h1, i2]; rfl, by rw [h2, i3]; rfl, by rw [List.contains_cons, i4, Bool.or_true]⟩
    have hne : ¬ (i : Int) = -1 := by omega
    simp [Lib.indexByte, hb1, i1, hne]
set_option maxHeartbeats 2000000 in
theorem sl_Cut1 (s : ByteArray) (c : UInt8) (w : World) (hs : s.size ≤ 1000000) :
  Calls Tryz.prog 209 #[.string s, .string ⟨#[c]⟩] w (Ret w (.tuple #[.string ⟨(cA c s.data.toList).toArray⟩, .string ⟨(cR c s.data.toList).toArray⟩, .bool (s.data.toList.contains c)])) := by
 have I := fun w => Tryz.stringslite_Index_one s c w
 obtain ⟨b, hb⟩ : ∃ b, s.data.toList.contains c = b := ⟨_, rfl⟩
 obtain ⟨x, hx⟩ : ∃ x, cA c s.data.toList = x := ⟨_, rfl⟩
 obtain ⟨y, hy⟩ : ∃ y, cR c s.data.toList = y := ⟨_, rfl⟩
 rcases ib_cases c s.data.toList with ⟨h1, h2, h3, h4⟩ | ⟨i, h1, h0, h2, h3, h4⟩
 ·rw [h1] at I
  rw [hb, hx, hy]
  rw [hb] at h4
  rw [hx] at h2
  rw [hy] at h3
  subst h4
  subst h3
  have hxs : (⟨x.toArray⟩ : ByteArray) = s := by rw [h2, str_mk]
  have IH := Lib.hid I
  have HX := Lib.hid hxs
  clear I hb hx hy h1 h2 hxs
  go_enter Tryz.func209, Tryz.ntmps209
  go_wp2_with fail
  refine (IH.out _).mono ?_
  rintro e w1 ⟨rfl, rfl⟩
  go_wp2_with fail
  go_ret3
  rw [HX.out]
  exact ⟨rfl, Below.refl _ _⟩
 ·rw [h1] at I
  rw [hb, hx, hy]
  rw [hb] at h4
  rw [hx] at h2
  rw [hy] at h3
  rw [size_toList] at h0
  subst h4
  have hxs : (⟨x.toArray⟩ : ByteArray) = s.extract 0 i := str_ext (by rw [ext_data, h2]; rfl)
  have hys : (⟨y.toArray⟩ : ByteArray) = s.extract (i + 1) s.size := str_ext (by rw [ext_tail, h3])
  have IH := Lib.hid I
  have HX := Lib.hid hxs
  have HY := Lib.hid hys
  have g1 : (i : Int) ≤ s.size := by omega
  have e1 : IntKind.i64.wrap ((i : Int) + 1) = (i : Int) + 1 := IntWalk.i64_in _ (by omega)
  have e2 : (0 : Int) ≤ (i : Int) + 1 := by omega
  have e3 : ((i : Int) + 1).toNat = i + 1 := by omega
  have e4 : (i : Int) + 1 ≤ s.size := by omega
  clear I hb hx hy h1 h2 h3 hxs hys
  go_enter Tryz.func209, Tryz.ntmps209
  go_wp2_with fail
  refine (IH.out _).mono ?_
  rintro e w1 ⟨rfl, rfl⟩
  go_wp2_with fail
  go_quiet (fail)
  go_wp2_with fail
  go_ret3
  rw [HX.out, HY.out]
  exact ⟨rfl, below_drewN _ _⟩
theorem st_Cut1 (s : ByteArray) (c : UInt8) (w : World) (hs : s.size ≤ 1000000) :
  Calls Tryz.prog 170 #[.string s, .string ⟨#[c]⟩] w (Ret w (.tuple #[.string ⟨(cA c s.data.toList).toArray⟩, .string ⟨(cR c s.data.toList).toArray⟩, .bool (s.data.toList.contains c)])) := by
 have C := Lib.hid (sl_Cut1 s c w hs)
 obtain ⟨b, hb⟩ : ∃ b, s.data.toList.contains c = b := ⟨_, rfl⟩
 obtain ⟨x, hx⟩ : ∃ x, cA c s.data.toList = x := ⟨_, rfl⟩
 obtain ⟨y, hy⟩ : ∃ y, cR c s.data.toList = y := ⟨_, rfl⟩
 rw [hb, hx, hy] at C ⊢
 clear hb hx hy
 go_enter Tryz.func170, Tryz.ntmps170
 go_wp2_with fail
 refine (C.out).mono ?_
 rintro e w1 ⟨rfl, hb⟩
 go_wp2_with fail
 go_ret3
 exact ⟨rfl, hb⟩
end Go.Proofs.YtjgeiieiinmdnaaGreatDoor
namespace Go.Proofs.YtjgeiieiinmdnaaGreatDoor
open Go.RowKit

end Go.Proofs.YtjgeiieiinmdnaaGreatDoor
namespace Go.Proofs.YtjgeiieiinmdnaaGreatDoor
open Go.RowKit

attribute [local go_sem] Oper.semAt_some

end Go.Proofs.YtjgeiieiinmdnaaGreatDoor
namespace Go.Proofs.YtjgeiieiinmdnaaGreatDoor
open Go.RowKit

end Go.Proofs.YtjgeiieiinmdnaaGreatDoor
namespace Go.Proofs.YtjgeiieiinmdnaaGreatDoor
open Go.RowKit

attribute [local go_sem] Oper.semAt_some

end Go.Proofs.YtjgeiieiinmdnaaGreatDoor
namespace Go.Proofs.YtjgeiieiinmdnaaGreatDoor
open Go.RowKit

end Go.Proofs.YtjgeiieiinmdnaaGreatDoor
namespace Go.Proofs.YtjgeiieiinmdnaaGreatDoor
open Go.RowKit

end Go.Proofs.YtjgeiieiinmdnaaGreatDoor
namespace Go.Proofs.YtjgeiieiinmdnaaGreatDoor
open Go.RowKit

end Go.Proofs.YtjgeiieiinmdnaaGreatDoor
namespace Go.Proofs.YtjgeiieiinmdnaaGreatDoor
open Go.RowKit Go.Sort

/-- The table that Itoa reads lies in the world. -/
def Tab (w : World) : Prop := Lib.TabIs Tryz.prog w "internal/strconv.uint64pow10" .u64 Lib.pow10Tab
theorem gPow : Tryz.prog.globalNamed "internal/strconv.uint64pow10" = some 0 := by kernel_rfl
theorem Tab.below {B : Nat} {w w' : World} (h : Tab w) (hb : Below B w w') (hB : 0 < B) : Tab w' := var?_below hb gPow hB h
theorem Tab.lt {w : World} (h : Tab w) : 0 < w.heap.size := by
 have h1 : w.var? Tryz.prog "internal/strconv.uint64pow10" = some (Lib.pow10Tab.map fun z => Value.int .u64 z).toArray := h
 unfold World.var? at h1
 rw [gPow] at h1
 simp only [Option.bind_some] at h1
 rcases Nat.lt_or_ge 0 w.heap.size with h2 | h2
 ·exact h2
 ·rw [Array.getElem?_eq_none h2] at h1
  cases h1
theorem Tab.ret {w w' : World} (h : Tab w) (hb : Below w.heap.size w w') : Tab w' := Tab.below h hb (Tab.lt h)
theorem itoa_nat (n : Nat) : Lib.itoa (n : Int) = Lib.decDigits n := by
 unfold Lib.itoa
 rw [if_neg (by omega)]
 simp

theorem below_grow (w : World) (k : Nat) (os : Array Obj) : Below w.heap.size w (grow (w.drewN k) os) := by
 refine ⟨rfl, rfl, rfl, ?_, fun i hi => ?_⟩
 ·show w.heap.size ≤ (w.heap ++ os).size
  simp
 ·show (w.heap ++ os)[i]? = w.heap[i]?
  rw [Array.getElem?_append_left hi]
theorem Itoa_c (n : Nat) (hn : n ≤ 9223372036854775807) (w : World) (ht : Tab w) : Calls Tryz.prog 93 #[.int .i64 n] w (Ret w (.string ⟨(Lib.decDigits n).toArray⟩)) := by
 refine (Tryz.strconv_Itoa n (by omega) (by omega) w ht).mono ?_
 rintro e w' ⟨rfl, k, os, rfl⟩
 rw [itoa_nat]
 exact ⟨rfl, below_grow w k os⟩

end Go.Proofs.YtjgeiieiinmdnaaGreatDoor
namespace Go.Proofs.YtjgeiieiinmdnaaGreatDoor
open Go.RowKit

/-- internal/bytealg.MaxLen holds a number. -/
def ML (w : World) : Prop := 1 < w.heap.size ∧ ∃ m : Int, w.cell? ⟨1, 0, none⟩ = some (.int .i64 m)
theorem ML.ret {w w' : World} (h : ML w) (hb : Below w.heap.size w w') : ML w' := by
 obtain ⟨h1, m, h2⟩ := h
 exact ⟨Nat.lt_of_lt_of_le h1 hb.size, m, ((bcell hb).1 _ _ h1).trans h2⟩
end Go.Proofs.YtjgeiieiinmdnaaGreatDoor
namespace Go.Proofs.YtjgeiieiinmdnaaGreatDoor
open Go.RowKit

theorem ML.of {w : World} (h : ∃ m : Int, w.cell? ⟨1, 0, none⟩ = some (.int .i64 m)) : ML w := by
 obtain ⟨m, h⟩ := h
 refine ⟨?_, m, h⟩
 rcases Nat.lt_or_ge 1 w.heap.size with h' | h'
 ·exact h'
 ·simp [World.cell?, Array.getElem?_eq_none h'] at h
theorem ML.shaped {W : World} (h : W.ShapedOpen Tryz.prog) : ML W :=
 ML.of (cell_of_shapedOpen_int (P := Tryz.prog) (g := 1) (t := 3) (zero := #[.int .i64 0]) h (of_decide_eq_true (by kernel_rfl)) (by kernel_rfl) rfl (by kernel_rfl) (by kernel_rfl) Tryz.underlying3)
end Go.Proofs.YtjgeiieiinmdnaaGreatDoor
namespace Go.Proofs.YtjgeiieiinmdnaaGreatDoor
open Go.RowKit

end Go.Proofs.YtjgeiieiinmdnaaGreatDoor
