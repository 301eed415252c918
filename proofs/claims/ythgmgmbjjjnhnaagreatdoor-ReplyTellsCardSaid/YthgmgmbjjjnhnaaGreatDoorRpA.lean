/- reply.Check and reply.fields. -/
import Derived.Test.YthgmgmbjjjnhnaaGreatDoorRpP
import Derived.Test.YthgmgmbjjjnhnaaGreatDoorGc
import Derived.Laws.StructEq
namespace Go.Proofs.YthgmgmbjjjnhnaaGreatDoor
open Go.RowKit

/-- A reply in three cells of its own. -/
structure RpAt (L : Nat) (a b c : Value) (w : World) : Prop where
  lt : L < w.heap.size
  c0 : w.cell? ⟨L, 0, none⟩ = some a
  c1 : w.cell? ⟨L, 1, none⟩ = some b
  c2 : w.cell? ⟨L, 2, none⟩ = some c
  f0 : w.frozen? ⟨L, 0, none⟩ = false
  f1 : w.frozen? ⟨L, 1, none⟩ = false
  f2 : w.frozen? ⟨L, 2, none⟩ = false
theorem RpAt.ret {L : Nat} {a b c : Value} {w w' : World} (h : RpAt L a b c w) (hb : Below w.heap.size w w') : RpAt L a b c w' := by
  obtain ⟨h0, h1, h2, h3, h4, h5, h6⟩ := h
  obtain ⟨q, r⟩ := bcell hb
  exact ⟨Nat.lt_of_lt_of_le h0 hb.size, (q _ _ h0).trans h1, (q _ _ h0).trans h2, (q _ _ h0).trans h3, (r _ _ h0).trans h4, (r _ _ h0).trans h5, (r _ _ h0).trans h6⟩
theorem RpAt.new (w : World) (a b c : Value) : RpAt w.heap.size a b c (w.alloc (.cells #[a, b, c] 23)) := by constructor <;> simp
abbrev rpV (st : Int) (B : ByteArray) (k : Bool) : Value := .agg #[.int .i64 st, .string B, .bool k]
theorem may_no {st : Int} {b : List UInt8} {k : Bool} (h : stN st = []) : rpMay st b k = false := by
  unfold rpMay
  rw [if_neg (stN_not st h).1, h]
  simp
def chkE (st : Int) (b : List UInt8) (k : Bool) : Int := if rpMay st b k = true then 0 else 8
set_option maxHeartbeats 4000000 in
theorem rp_Check (st : Int) (B : ByteArray) (k : Bool) (w : World) (ht : Tab w) (hz : B.size ≤ 9223372036854775807) : Calls Tryz.prog 12 #[rpV st B k] w (Ret w (.int .i64 (chkE st B.data.toList k))) := by
  have q0 := (Below.refl w.heap.size w).alloc (Nat.le_refl _) (.cells #[.int .i64 st, .string B, .bool k] 23)
  have a0 := RpAt.new w (.int .i64 st) (.string B) (.bool k)
  have S0 := ln_Status st _ (ht.ret q0)
  unfold stV at S0
  unfold chkE
  by_cases hn : stN st = []
  · rw [if_pos hn] at S0
    rw [may_no hn]
    have S := Lib.hid S0
    clear S0 hn ht a0
    go_enter Tryz.func12, Tryz.ntmps12
    go_wp2_with fail
    refine S.out.mono ?_
    rintro e w1 ⟨rfl, hb⟩
    have q1 := q0.trans (hb.mono q0.size)
    clear hb
    go_wp2_with fail
    go_ret
    exact ⟨rfl, q1⟩
  · rw [if_neg hn] at S0
    obtain ⟨X, hX⟩ : ∃ X : ByteArray, ⟨(stT st).toArray⟩ = X := ⟨_, rfl⟩
    rw [hX] at S0
    have S := Lib.hid S0
    obtain ⟨O, hO⟩ : ∃ O, (if rpMay st B.data.toList k = true then (0 : Int) else 8) = O := ⟨_, rfl⟩
    have HO := Lib.hid hO
    rw [hO]
    unfold rpMay at hO
    by_cases h2 : st = 200
    · subst h2
      rw [if_pos rfl] at hO
      by_cases h3 : B.size ≤ 16384
      · rw [decide_eq_true (by rw [size_toList]; exact h3)] at hO
        simp only [if_true] at hO
        subst hO
        have g1 : (B.size : Int) ≤ 16384 := by omega
        clear S0 hX hn ht HO
        go_enter Tryz.func12, Tryz.ntmps12
        go_wp2_with fail
        refine S.out.mono ?_
        rintro e w1 ⟨rfl, hb⟩
        have q1 := q0.trans (hb.mono q0.size)
        obtain ⟨y0, y1, y2, y3, y4, y5, y6⟩ := a0.ret hb
        clear hb
        go_wp2_with fail
        go_ret
        exact ⟨rfl, q1⟩
      · rw [decide_eq_false (by rw [size_toList]; exact h3)] at hO
        simp only [Bool.false_eq_true, if_false] at hO
        subst hO
        have g1 : ¬ (B.size : Int) ≤ 16384 := by omega
        have e1 := isEmpty_of_pos (s := B) (by omega)
        have e2 := ne_nil_of_pos (s := B) (by omega)
        clear S0 hX hn ht HO
        go_enter Tryz.func12, Tryz.ntmps12
        go_wp2_with fail
        refine S.out.mono ?_
        rintro e w1 ⟨rfl, hb⟩
        have q1 := q0.trans (hb.mono q0.size)
        obtain ⟨y0, y1, y2, y3, y4, y5, y6⟩ := a0.ret hb
        clear hb
        go_wp2_with fail
        go_ret
        exact ⟨rfl, q1⟩
    · rw [if_neg h2, decide_eq_false hn] at hO
      have g0 : (st == 200) = false := by rw [beq_eq_false_iff_ne]; exact h2
      by_cases h3 : B.size = 0
      · have hB : B = ⟨#[]⟩ := str_ext (List.eq_nil_of_length_eq_zero (by rw [size_toList]; exact h3))
        subst hB
        clear S0 hX hn ht HO h2 h3
        cases k with
        | true =>
          simp only [Bool.not_false, Bool.not_true, Bool.and_false, Bool.false_eq_true, if_false] at hO
          subst hO
          go_enter Tryz.func12, Tryz.ntmps12
          go_wp2_with fail
          refine S.out.mono ?_
          rintro e w1 ⟨rfl, hb⟩
          have q1 := q0.trans (hb.mono q0.size)
          obtain ⟨y0, y1, y2, y3, y4, y5, y6⟩ := a0.ret hb
          clear hb
          go_wp2_with fail
          go_ret
          exact ⟨rfl, q1⟩
        | false =>
          have hO2 : O = 0 := by rw [← hO]; decide
          subst hO2
          clear hO
          go_enter Tryz.func12, Tryz.ntmps12
          go_wp2_with fail
          refine S.out.mono ?_
          rintro e w1 ⟨rfl, hb⟩
          have q1 := q0.trans (hb.mono q0.size)
          obtain ⟨y0, y1, y2, y3, y4, y5, y6⟩ := a0.ret hb
          clear hb
          go_wp2_with fail
          go_ret
          exact ⟨rfl, q1⟩
      · have e1 := isEmpty_of_pos (s := B) (by omega)
        have e2 := ne_nil_of_pos (s := B) (by omega)
        have hb0 : B.data.toList ≠ [] := fun e => h3 (by rw [← size_toList, e]; rfl)
        rw [decide_eq_false hb0] at hO
        simp only [Bool.false_and, Bool.and_false, Bool.false_eq_true, if_false] at hO
        subst hO
        clear S0 hX hn ht HO h2 h3 hb0
        go_enter Tryz.func12, Tryz.ntmps12
        go_wp2_with fail
        refine S.out.mono ?_
        rintro e w1 ⟨rfl, hb⟩
        have q1 := q0.trans (hb.mono q0.size)
        obtain ⟨y0, y1, y2, y3, y4, y5, y6⟩ := a0.ret hb
        clear hb
        go_wp2_with fail
        go_ret
        exact ⟨rfl, q1⟩
end Go.Proofs.YthgmgmbjjjnhnaaGreatDoor
