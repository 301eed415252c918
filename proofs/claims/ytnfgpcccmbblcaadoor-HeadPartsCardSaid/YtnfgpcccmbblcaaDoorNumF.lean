/- Numbers in digits, in plain Lean: what a text's number is, and which texts are numbers'. No program in sight. -/
import Derived.Test.YtnfgpcccmbblcaaDoorAsF
import Derived.Lib.ItoaNum
import Derived.Below
namespace Go.Proofs.YtnfgpcccmbblcaaDoor
open Go.RowKit

def isDig (c : UInt8) : Bool := 48 ≤ c.toNat && c.toNat ≤ 57
def valOf (n : Nat) : List UInt8 → Nat
  | [] => n
  | c :: l => valOf (10 * n + (c.toNat - 48)) l
/-- A number's text: digits, at most 16, the first 0 only alone, at most 2^53 - 1. -/
def numOk (l : List UInt8) : Bool := !l.isEmpty && decide (l.length ≤ 16) && !(l.head? == some 48 && l != [48]) && l.all isDig && decide (valOf 0 l ≤ 9007199254740991)

/-- What num.Read answers: the number, and the error. -/
def rdN (l : List UInt8) : Int := if numOk l then valOf 0 l else 0
def rdE (l : List UInt8) : Int := if numOk l then 0 else 60
theorem valOf_snoc (l : List UInt8) (c : UInt8) : ∀ n, valOf n (l ++ [c]) = 10 * valOf n l + (c.toNat - 48) := by
  induction l with
  | nil => intro n; rfl
  | cons d l ih => intro n; exact ih _
theorem valOf_lt : ∀ (l : List UInt8) (n : Nat), l.all isDig = true → valOf n l < (n + 1) * 10 ^ l.length
  | [], n, _ => by
    have h : valOf n [] = n := rfl
    rw [h, List.length_nil, Nat.pow_zero, Nat.mul_one]
    exact Nat.lt_succ_self n
  | c :: l, n, h => by
    rw [List.all_cons, Bool.and_eq_true] at h
    have hc : c.toNat ≤ 57 := by
      have := h.1
      simp only [isDig, Bool.and_eq_true, decide_eq_true_eq] at this
      exact this.2
    have h1 := valOf_lt l (10 * n + (c.toNat - 48)) h.2
    have h2 : (10 * n + (c.toNat - 48) + 1) * 10 ^ l.length ≤ ((n + 1) * 10) * 10 ^ l.length := Nat.mul_le_mul_right _ (by omega)
    have h3 : ((n + 1) * 10) * 10 ^ l.length = (n + 1) * 10 ^ (c :: l).length := by
      rw [List.length_cons, Nat.pow_succ, Nat.mul_assoc, Nat.mul_comm 10]
    rw [h3] at h2
    exact Nat.lt_of_lt_of_le h1 h2
theorem valOf_le (l : List UInt8) (h : l.all isDig = true) (hl : l.length ≤ 16) : valOf 0 l < 10000000000000000 := by
  have h1 := valOf_lt l 0 h
  rw [Nat.zero_add, Nat.one_mul] at h1
  have h2 : 10 ^ l.length ≤ 10 ^ 16 := Nat.pow_le_pow_right (Nat.le_of_ble_eq_true rfl) hl
  exact Nat.lt_of_lt_of_le h1 (Nat.le_trans h2 (Nat.le_of_eq (by simp)))
theorem rd_bad {l : List UInt8} (h : numOk l = false) : rdN l = 0 ∧ rdE l = 60 := by simp [rdN, rdE, h]
theorem rd_good {l : List UInt8} (h : numOk l = true) : rdN l = valOf 0 l ∧ rdE l = 0 := by simp [rdN, rdE, h]
theorem numOk_all {l : List UInt8} (h : l.all isDig = false) : numOk l = false := by unfold numOk; rw [h]; simp
theorem numOk_empty : numOk [] = false := rfl
theorem numOk_long {l : List UInt8} (h : 16 < l.length) : numOk l = false := by
  unfold numOk
  rw [decide_eq_false (by omega : ¬ l.length ≤ 16)]
  simp
theorem numOk_zero {l : List UInt8} (h : l.head? = some 48) (h2 : l ≠ [48]) : numOk l = false := by
  unfold numOk
  rw [h]
  simp [h2]
theorem numOk_is {l : List UInt8} (h0 : l ≠ []) (h1 : l.length ≤ 16) (h2 : l.head? ≠ some 48) (h3 : l.all isDig = true) : numOk l = decide (valOf 0 l ≤ 9007199254740991) := by
  unfold numOk
  rw [h3, decide_eq_true h1]
  have e1 : l.isEmpty = false := by cases l with
    | nil => exact absurd rfl h0
    | cons => rfl
  have e2 : (l.head? == some 48) = false := by simpa using h2
  rw [e1, e2]
  simp
theorem all_take_snoc (s : ByteArray) (k : Nat) (h : k < s.size) : (s.data.toList.take (k + 1)).all isDig = ((s.data.toList.take k).all isDig && isDig s[k]) := by
  rw [take_snoc s k h]
  simp
theorem not_all_of (s : ByteArray) (k : Nat) (h : k < s.size) (hd : isDig s[k] = false) : s.data.toList.all isDig = false := by
  rw [← List.take_append_drop (k + 1) s.data.toList, List.all_append, all_take_snoc s k h, hd]
  simp
end Go.Proofs.YtnfgpcccmbblcaaDoor
