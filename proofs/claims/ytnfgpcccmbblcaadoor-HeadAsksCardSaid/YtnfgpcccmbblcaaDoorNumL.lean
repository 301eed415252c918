/- Levels in plain Lean. No program in sight. -/
import Derived.Test.YtnfgpcccmbblcaaDoorNumG
namespace Go.Proofs.YtnfgpcccmbblcaaDoor
open Go.RowKit
/-- Signed: a level's text. -/
def sgnF (n : Int) : List UInt8 := if n < 0 then 45 :: Lib.decDigits n.natAbs else Lib.decDigits n.toNat
/-- What a level's text tells. -/
def lvOf (l : List UInt8) : Option Int :=
  match l with
  | 45 :: r => if numOk r && decide (valOf 0 r ≤ 128) && !(valOf 0 r == 0) then some (-(valOf 0 r : Int)) else none
  | l => if numOk l && decide (valOf 0 l ≤ 127) then some (valOf 0 l : Int) else none
def lvN (l : List UInt8) : Int := (lvOf l).getD 0
def lvE (l : List UInt8) : Int := if (lvOf l).isSome then 0 else 60

/-- A level's text is what is written of just one number. -/
theorem lv_some {l : List UInt8} {n : Int} (h1 : -128 ≤ n) (h2 : n ≤ 127) (h : sgnF n = l) : lvOf l = some n := by
  subst h
  unfold sgnF
  by_cases hn : n < 0
  · rw [if_pos hn]
    show (if (numOk (Lib.decDigits n.natAbs) && decide (valOf 0 (Lib.decDigits n.natAbs) ≤ 128) && !(valOf 0 (Lib.decDigits n.natAbs) == 0)) = true then some (-(valOf 0 (Lib.decDigits n.natAbs) : Int)) else none) = some n
    rw [numOk_dec (by omega), valOf_dec]
    have e1 : decide (n.natAbs ≤ 128) = true := decide_eq_true (by omega)
    have e2 : (n.natAbs == 0) = false := by simp; omega
    rw [e1, e2]
    simp
    omega
  · rw [if_neg hn]
    obtain ⟨m, rfl⟩ := Int.eq_ofNat_of_zero_le (by omega : 0 ≤ n)
    rw [Int.toNat_natCast]
    have hall := all_dec m
    have hok := numOk_dec (n := m) (by omega)
    have hv := valOf_dec m
    generalize Lib.decDigits m = d at hall hok hv
    unfold lvOf
    split
    · simp [isDig] at hall
    · rw [hok, hv, decide_eq_true (by omega : m ≤ 127)]
      rfl
theorem lv_none {l : List UInt8} (h : ∀ n : Int, -128 ≤ n → n ≤ 127 → sgnF n ≠ l) : lvOf l = none := by
  unfold lvOf
  split
  · rename_i r
    by_cases hc : (numOk r && decide (valOf 0 r ≤ 128) && !(valOf 0 r == 0)) = true
    · exfalso
      simp only [Bool.and_eq_true, decide_eq_true_eq] at hc
      obtain ⟨⟨c1, c2⟩, c3⟩ := hc
      have hv : valOf 0 r ≠ 0 := by simpa using c3
      apply h (-(valOf 0 r : Int)) (by omega) (by omega)
      unfold sgnF
      rw [if_pos (by omega)]
      have : (-(valOf 0 r : Int)).natAbs = valOf 0 r := by omega
      rw [this, (dec_of_ok c1).1]
    · rw [if_neg hc]
  · by_cases hc : (numOk l && decide (valOf 0 l ≤ 127)) = true
    · exfalso
      simp only [Bool.and_eq_true, decide_eq_true_eq] at hc
      apply h (valOf 0 l : Int) (by omega) (by omega)
      unfold sgnF
      rw [if_neg (by omega), Int.toNat_natCast, (dec_of_ok hc.1).1]
    · rw [if_neg hc]

end Go.Proofs.YtnfgpcccmbblcaaDoor
