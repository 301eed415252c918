/- The document's May, Check. PRINTED BY PROGRAM (gen_wiy.py). -/
import Derived.Test.YthgmgmbjjjnhnaaGreatDoorWiX
import Derived.Test.YthgmgmbjjjnhnaaGreatDoorWiS
namespace Go.Proofs.YthgmgmbjjjnhnaaGreatDoor
open Go.RowKit

def wiMy (b : List UInt8) (off : Bool) : Bool := off && decide (b = []) || !off && wiM b
theorem wiCk_my (b : List UInt8) (off : Bool) : wiCk b off = if wiMy b off = true then 0 else 8 := rfl
set_option maxHeartbeats 4000000 in
set_option maxRecDepth 100000 in
theorem r17_May (X : ByteArray) (off : Bool) (w : World) (hs : X.size ≤ 1000000) : Calls Tryz.prog 41 #[.agg #[.string X, .bool off]] w (Ret w (.bool (wiMy X.data.toList off))) := by
  have q0 := (Below.refl w.heap.size w).alloc (Nat.le_refl _) (.cells #[.string X, .bool off] 44)
  have A0 := Lib.hid (WrAt.new w (.string X) (.bool off))
  obtain ⟨m, m0, m1, m2, m3⟩ := A0.out
  unfold wiMy
  cases off with
  | true =>
    by_cases hX : X.size = 0
    · obtain rfl : X = ⟨#[]⟩ := str_ext (List.eq_nil_of_length_eq_zero (by rw [size_toList]; exact hX))
      go_enter Tryz.func41, Tryz.ntmps41
      go_wp2_with fail
      go_ret
      exact ⟨rfl, q0⟩
    · have e1 := isEmpty_of_pos (s := X) (by omega)
      have e2 := ne_nil_of_pos (s := X) (by omega)
      have hne : X.data.toList ≠ [] := fun h => hX (by rw [← size_toList, h]; rfl)
      rw [decide_eq_false hne]
      go_enter Tryz.func41, Tryz.ntmps41
      go_wp2_with fail
      go_ret
      exact ⟨rfl, q0⟩
  | false =>
    have O0 := fun w => r17_One X w hs
    obtain ⟨⟨a1, a2, a3, a4⟩, n, hv⟩ := oneV_formM X.data.toList
    rw [hv] at O0
    simp only [cmV] at O0
    obtain ⟨mo, hmo⟩ : ∃ b, wiM X.data.toList = b := ⟨_, rfl⟩
    rw [hmo] at O0 ⊢
    have OH := Lib.hid O0
    clear O0 hv hmo
    go_enter Tryz.func41, Tryz.ntmps41
    go_wp2_with fail
    refine (OH.out _).mono ?_
    rintro e w1 ⟨rfl, hb⟩
    have q1 := q0.trans (hb.mono q0.size)
    go_wp2_with fail
    go_ret
    exact ⟨by simp, q1.alloc q1.size _⟩
set_option maxHeartbeats 4000000 in
theorem r17_Check (X : ByteArray) (off : Bool) (w : World) (hs : X.size ≤ 1000000) : Calls Tryz.prog 23 #[.agg #[.string X, .bool off]] w (Ret w (.int .i64 (wiCk X.data.toList off))) := by
  have q0 := (Below.refl w.heap.size w).alloc (Nat.le_refl _) (.cells #[.string X, .bool off] 44)
  have A0 := Lib.hid (WrAt.new w (.string X) (.bool off))
  obtain ⟨m, m0, m1, m2, m3⟩ := A0.out
  have M0 := fun w => r17_May X off w hs
  rw [wiCk_my]
  cases hb : wiMy X.data.toList off
  all_goals
    rw [hb] at M0
    have MH := Lib.hid M0
    clear M0 hb
    go_enter Tryz.func23, Tryz.ntmps23
    go_wp2_with fail
    refine (MH.out _).mono ?_
    rintro e w1 ⟨rfl, hb⟩
    have q1 := q0.trans (hb.mono q0.size)
    go_wp2_with fail
    go_ret
    exact ⟨rfl, q1⟩
end Go.Proofs.YthgmgmbjjjnhnaaGreatDoor
