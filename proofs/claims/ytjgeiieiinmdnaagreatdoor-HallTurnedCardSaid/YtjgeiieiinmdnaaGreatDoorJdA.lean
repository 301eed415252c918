/- jid.Bare and jid.Less. -/
import Derived.Test.YtjgeiieiinmdnaaGreatDoorKa
import Derived.Test.YtjgeiieiinmdnaaGreatDoorGa
import Derived.Test.YtjgeiieiinmdnaaGreatDoorGa
import Derived.Deep.QuietTactic
import Derived.BigQuiet
import Derived.Laws.ResultCell
namespace Go.Proofs.YtjgeiieiinmdnaaGreatDoor
open Go.RowKit

theorem cm_nan (x : ByteArray) (w : World) : Calls Tryz.prog 266 #[.string x] w fun e w' => e = .returned (.bool false) ∧ w' = w := by
 go_enter Tryz.func266, Tryz.ntmps266
 go_wp2_with fail
 go_ret
 exact ⟨by simp, rfl⟩
/-- cmp.Compare of two texts. -/
def c1P (a b : List UInt8) : Int := if Op.bytesLess a b then -1 else if Op.bytesLess b a then 1 else 0
set_option maxHeartbeats 2000000 in
theorem cm_Compare (x y : ByteArray) (w : World) : Calls Tryz.prog 241 #[.string x, .string y] w fun e w' => e = .returned (.int .i64 (c1P x.data.toList y.data.toList)) ∧ w' = w := by
 have e1 : x.toList = x.data.toList := Lib.toList_data x
 have e2 : y.toList = y.data.toList := Lib.toList_data y
 have C1 := Lib.hid fun w => cm_nan x w
 have C2 := Lib.hid fun w => cm_nan y w
 unfold c1P
 obtain ⟨X, hX⟩ : ∃ X, x.data.toList = X := ⟨_, rfl⟩
 obtain ⟨Y, hY⟩ : ∃ X, y.data.toList = X := ⟨_, rfl⟩
 rw [hX] at e1 ⊢
 rw [hY] at e2 ⊢
 rcases bl_tri X Y with ⟨h1, h2, h3⟩ | ⟨h1, h2, h3⟩ | ⟨h1, h2, rfl⟩
 ·rw [h1]
  go_enter Tryz.func241, Tryz.ntmps241
  go_wp2_with fail
  refine (C1.out _).mono ?_
  rintro e w1 ⟨rfl, rfl⟩
  go_wp2_with fail
  refine (C2.out _).mono ?_
  rintro e w1 ⟨rfl, rfl⟩
  go_wp2_with fail
  go_ret
  exact ⟨rfl, rfl⟩
 ·have h4 : (X == Y) = false := by simpa using h3
  rw [h1, h2]
  go_enter Tryz.func241, Tryz.ntmps241
  go_wp2_with fail
  refine (C1.out _).mono ?_
  rintro e w1 ⟨rfl, rfl⟩
  go_wp2_with fail
  refine (C2.out _).mono ?_
  rintro e w1 ⟨rfl, rfl⟩
  go_wp2_with fail
  go_ret
  exact ⟨rfl, rfl⟩
 ·have h4 : (X == X) = true := by simp
  rw [h1]
  go_enter Tryz.func241, Tryz.ntmps241
  go_wp2_with fail
  refine (C1.out _).mono ?_
  rintro e w1 ⟨rfl, rfl⟩
  go_wp2_with fail
  refine (C2.out _).mono ?_
  rintro e w1 ⟨rfl, rfl⟩
  go_wp2_with fail
  go_ret
  exact ⟨rfl, rfl⟩
/-- An address in three cells of its own. -/
structure JAt (L : Nat) (a b c : ByteArray) (w : World) : Prop where
 lt : L < w.heap.size
 c0 : w.cell? ⟨L, 0, none⟩ = some (.string a)
 c1 : w.cell? ⟨L, 1, none⟩ = some (.string b)
 c2 : w.cell? ⟨L, 2, none⟩ = some (.string c)
 f0 : w.frozen? ⟨L, 0, none⟩ = false
 f1 : w.frozen? ⟨L, 1, none⟩ = false
 f2 : w.frozen? ⟨L, 2, none⟩ = false
theorem JAt.ret {L : Nat} {a b c : ByteArray} {w w' : World} (h : JAt L a b c w) (hb : Below w.heap.size w w') : JAt L a b c w' := by
 obtain ⟨h0, h1, h2, h3, h4, h5, h6⟩ := h
 obtain ⟨q, r⟩ := bcell hb
 exact ⟨Nat.lt_of_lt_of_le h0 hb.size, (q _ _ h0).trans h1, (q _ _ h0).trans h2, (q _ _ h0).trans h3, (r _ _ h0).trans h4, (r _ _ h0).trans h5, (r _ _ h0).trans h6⟩
abbrev jV (a b c : ByteArray) : Value := .agg #[.string a, .string b, .string c]
theorem JAt.new (w : World) (a b c : ByteArray) : JAt w.heap.size a b c (w.alloc (.cells #[.string a, .string b, .string c] 117)) := by constructor <;> simp
/-- the address's order as slices.Compare gives it. -/
def c3P (a b : Adr) : Int := if c1P a.2.1 b.2.1 ≠ 0 then c1P a.2.1 b.2.1 else if c1P a.1 b.1 ≠ 0 then c1P a.1 b.1 else c1P a.2.2 b.2.2
theorem c1_zero (a b : List UInt8) : c1P a b = 0 ↔ a = b := by
 unfold c1P
 rcases bl_tri a b with ⟨h1, h2, h3⟩ | ⟨h1, h2, h3⟩ | ⟨h1, h2, rfl⟩ <;> simp_all
theorem c1_neg (a b : List UInt8) : decide (c1P a b < 0) = Op.bytesLess a b := by
 unfold c1P
 rcases bl_tri a b with ⟨h1, h2, h3⟩ | ⟨h1, h2, h3⟩ | ⟨h1, h2, h3⟩ <;> simp [h1, h2]
theorem c3_neg (a b : Adr) : decide (c3P a b < 0) = lsP a b := by
 unfold c3P lsP
 split
 ·rename_i h
  rw [c1_neg]
  rcases bl_tri a.2.1 b.2.1 with ⟨h1, h2, h3⟩ | ⟨h1, h2, h3⟩ | ⟨h1, h2, h3⟩
  ·simp [h1, h2]
  ·simp [h1, h2]
  ·exact absurd ((c1_zero _ _).2 h3) h
 ·rename_i h
  have e := (c1_zero _ _).1 (Decidable.not_not.1 h)
  rw [e, bl_irr]
  split
  ·rename_i h
   rw [c1_neg]
   rcases bl_tri a.1 b.1 with ⟨h1, h2, h3⟩ | ⟨h1, h2, h3⟩ | ⟨h1, h2, h3⟩
   ·simp [h1, h2]
   ·simp [h1, h2]
   ·exact absurd ((c1_zero _ _).2 h3) h
  ·rename_i h
   have e := (c1_zero _ _).1 (Decidable.not_not.1 h)
   rw [e, bl_irr, c1_neg]
   simp
/-- three texts in a block. -/
structure T3 (L : Nat) (a b c : ByteArray) (w : World) : Prop where
 lt : L < w.heap.size
 c0 : w.cell? ⟨L, 0, none⟩ = some (.string a)
 c1 : w.cell? ⟨L, 1, none⟩ = some (.string b)
 c2 : w.cell? ⟨L, 2, none⟩ = some (.string c)
def t3 (a b c : ByteArray) (i : Nat) : ByteArray := if i = 0 then a else if i = 1 then b else c
theorem T3.at {L : Nat} {a b c : ByteArray} {w : World} (h : T3 L a b c w) {i : Nat} (hi : i < 3) : w.cell? ⟨L, i, none⟩ = some (.string (t3 a b c i)) := by
 unfold t3
 rcases Nat.lt_or_ge i 1 with h1 | h1
 ·obtain rfl : i = 0 := by omega
  exact h.c0
 ·rcases Nat.lt_or_ge i 2 with h2 | h2
  ·obtain rfl : i = 1 := by omega
   exact h.c1
  ·obtain rfl : i = 2 := by omega
   exact h.c2
/-- what is still to be compared. -/
def cR3 (a b c x y z : ByteArray) (i : Nat) : Int :=
 if 3 ≤ i then 0 else if c1P (t3 a b c i).data.toList (t3 x y z i).data.toList ≠ 0 then c1P (t3 a b c i).data.toList (t3 x y z i).data.toList else if 3 ≤ i + 1 then 0 else
  if c1P (t3 a b c (i + 1)).data.toList (t3 x y z (i + 1)).data.toList ≠ 0 then c1P (t3 a b c (i + 1)).data.toList (t3 x y z (i + 1)).data.toList else if 3 ≤ i + 2 then 0 else
   if c1P (t3 a b c (i + 2)).data.toList (t3 x y z (i + 2)).data.toList ≠ 0 then c1P (t3 a b c (i + 2)).data.toList (t3 x y z (i + 2)).data.toList else 0
theorem cR3_step (a b c x y z : ByteArray) (i : Nat) (hi : i < 3) : cR3 a b c x y z i = if c1P (t3 a b c i).data.toList (t3 x y z i).data.toList ≠ 0 then c1P (t3 a b c i).data.toList (t3 x y z i).data.toList else cR3 a b c x y z (i + 1) := by
 unfold cR3
 rcases Nat.lt_or_ge i 1 with h1 | h1
 ·obtain rfl : i = 0 := by omega
  simp
 ·rcases Nat.lt_or_ge i 2 with h2 | h2
  ·obtain rfl : i = 1 := by omega
   simp
  ·obtain rfl : i = 2 := by omega
   simp
set_option maxHeartbeats 4000000 in
theorem sl_Compare (L M : Nat) (a b c x y z : ByteArray) (w : World) (h1 : T3 L a b c w) (h2 : T3 M x y z w) :
  Calls Tryz.prog 205 #[.slice (some ⟨L, 0, none⟩) 3 3, .slice (some ⟨M, 0, none⟩) 3 3] w fun e w' => e = .returned (.int .i64 (cR3 a b c x y z 0)) ∧ w' = w := by
 have A1 := Lib.hid fun i (hi : i < 3) => h1.at hi
 have A2 := Lib.hid fun i (hi : i < 3) => h2.at hi
 have hL := h1.lt
 have hM := h2.lt
 obtain ⟨O, hO⟩ : ∃ O, cR3 a b c x y z 0 = O := ⟨_, rfl⟩
 rw [hO]
 have HO := Lib.hid hO
 clear hO h1 h2
 go_enter Tryz.func205, Tryz.ntmps205
 go_wp2_with fail
 go_loop [5, 6, 7, 8, 11] (fun _ _ _ _ u11 => ∃ k : Nat, k ≤ 3 ∧ u11 = .int .i64 k ∧ cR3 a b c x y z k = O) (fun _ _ _ _ u11 => 3 - (intOf u11).toNat)
 case atStart => exact ⟨0, Nat.zero_le _, rfl, HO.out⟩
 case round =>
  obtain ⟨k, hk, rfl, hin⟩ := hrel
  by_cases hlt : k < 3
  ·have g1 := A1.out k hlt
   have g2 := A2.out k hlt
   rw [cR3_step _ _ _ _ _ _ k hlt] at hin
   obtain ⟨X, hX⟩ : ∃ X, t3 a b c k = X := ⟨_, rfl⟩
   obtain ⟨Y, hY⟩ : ∃ X, t3 x y z k = X := ⟨_, rfl⟩
   rw [hX] at g1 hin
   rw [hY] at g2 hin
   have C := fun w => cm_Compare X Y w
   obtain ⟨V, hV⟩ : ∃ V, c1P X.data.toList Y.data.toList = V := ⟨_, rfl⟩
   rw [hV] at C hin
   have CH := Lib.hid C
   clear C hX hY hV
   by_cases h0 : V = 0
   ·subst h0
    rw [if_neg (by simp)] at hin
    have HI := Lib.hid hin
    clear hin
    go_wp2_with fail
    refine (CH.out _).mono ?_
    rintro e w1 ⟨rfl, rfl⟩
    go_wp2_with fail
    go_round
    case rel => exact ⟨k + 1, by omega, by go_num, HI.out⟩
    case measure => simp [intOf]; omega
   ·rw [if_pos h0] at hin
    have hq : (V == 0) = false := by simpa using h0
    subst hin
    go_wp2_with fail
    refine (CH.out _).mono ?_
    rintro e w1 ⟨rfl, rfl⟩
    go_wp2_with fail
    go_ret
    exact ⟨rfl, rfl⟩
  ·obtain rfl : k = 3 := by omega
   have hz : O = 0 := by rw [← hin]; unfold cR3; simp
   subst hz
   clear hin
   go_wp2_with fail
   go_ret
   exact ⟨rfl, rfl⟩
end Go.Proofs.YtjgeiieiinmdnaaGreatDoor
