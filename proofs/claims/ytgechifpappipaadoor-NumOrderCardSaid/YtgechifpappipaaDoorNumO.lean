/- The order of numbers and of their texts, in plain Lean. No program in sight. -/
import Derived.Test.YtgechifpappipaaDoorNumG
import Derived.ProofKit
import Derived.Lib.Strings
import Derived.Test.YtgechifpappipaaDoorStr
namespace Go.Proofs.YtgechifpappipaaDoor
open Go.RowKit Go.Lib

theorem valOf_ge : ∀ (l : List UInt8) (n : Nat), n * 10 ^ l.length ≤ valOf n l
  | [], n => by
    have h : valOf n [] = n := rfl
    rw [h, List.length_nil, Nat.pow_zero, Nat.mul_one]
    exact Nat.le_refl _
  | c :: l, n => by
    have h1 := valOf_ge l (10 * n + (c.toNat - 48))
    have h2 : (n * 10) * 10 ^ l.length ≤ (10 * n + (c.toNat - 48)) * 10 ^ l.length := Nat.mul_le_mul_right _ (by omega)
    have h3 : (n * 10) * 10 ^ l.length = n * 10 ^ (c :: l).length := by
      rw [List.length_cons, Nat.pow_succ, Nat.mul_assoc, Nat.mul_comm 10]
    rw [h3] at h2
    exact Nat.le_trans h2 h1
theorem step_lt {a b : Nat} {l r : List UInt8} (hl : l.all isDig = true) (hlen : l.length = r.length) (h : a < b) : valOf a l < valOf b r := by
  have h1 := valOf_lt l a hl
  have h2 := valOf_ge r b
  have h3 : (a + 1) * 10 ^ l.length ≤ b * 10 ^ r.length := by rw [hlen]; exact Nat.mul_le_mul_right _ h
  omega
theorem less_val : ∀ (l r : List UInt8) (a : Nat), l.all isDig = true → r.all isDig = true → l.length = r.length → Op.bytesLess l r = decide (valOf a l < valOf a r)
  | [], [], a, _, _, _ => by simp [Op.bytesLess]
  | [], _ :: _, _, _, _, h => by simp at h
  | _ :: _, [], _, _, _, h => by simp at h
  | x :: l, y :: r, a, hl, hr, h => by
    rw [List.all_cons, Bool.and_eq_true] at hl hr
    have hlen : l.length = r.length := by simpa using h
    have dx : 48 ≤ x.toNat := by
      have := hl.1
      simp only [isDig, Bool.and_eq_true, decide_eq_true_eq] at this
      exact this.1
    have dy : 48 ≤ y.toNat := by
      have := hr.1
      simp only [isDig, Bool.and_eq_true, decide_eq_true_eq] at this
      exact this.1
    show (decide (x < y) || (x == y && Op.bytesLess l r)) = decide (valOf (10 * a + (x.toNat - 48)) l < valOf (10 * a + (y.toNat - 48)) r)
    rcases Nat.lt_trichotomy x.toNat y.toNat with h1 | h1 | h1
    · have h2 : x < y := UInt8.lt_iff_toNat_lt.2 h1
      have := step_lt (a := 10 * a + (x.toNat - 48)) (b := 10 * a + (y.toNat - 48)) hl.2 hlen (by omega)
      simp [h2, this]
    · have h2 : x = y := UInt8.toNat_inj.1 h1
      subst h2
      rw [less_val l r (10 * a + (x.toNat - 48)) hl.2 hr.2 hlen]
      simp
    · have h2 : ¬ x < y := by rw [UInt8.lt_iff_toNat_lt]; omega
      have h3 : (x == y) = false := by
        apply beq_false_of_ne
        intro h
        rw [h] at h1
        omega
      have := step_lt (a := 10 * a + (y.toNat - 48)) (b := 10 * a + (x.toNat - 48)) hr.2 hlen.symm (by omega)
      rw [h3]
      simp [h2]
      omega
theorem dec_long {n m : Nat} (h : (decDigits n).length < (decDigits m).length) : n < m := by
  have hm : 10 ≤ m := by
    rcases Nat.lt_or_ge m 10 with h1 | h1
    · rw [decDigits_one h1] at h
      have := decDigits_ne n
      cases hd : decDigits n with
      | nil => exact absurd hd this
      | cons a l => rw [hd] at h; simp at h
    · exact h1
  have h1 := head_dec (n := m) (by omega)
  have h2 := all_dec m
  have h3 := valOf_dec m
  have h4 := valOf_lt (decDigits n) 0 (all_dec n)
  rw [valOf_dec] at h4
  cases hd : decDigits m with
  | nil => exact absurd hd (decDigits_ne m)
  | cons c r =>
    rw [hd] at h h1 h2 h3
    rw [List.all_cons, Bool.and_eq_true] at h2
    have hc : 49 ≤ c.toNat := by
      have := h2.1
      simp only [isDig, Bool.and_eq_true, decide_eq_true_eq] at this
      have : c.toNat ≠ 48 := fun e => h1 (by
        have : c = 48 := UInt8.toNat_inj.1 e
        rw [this]; rfl)
      omega
    have h5 := valOf_ge r (10 * 0 + (c.toNat - 48))
    have h6 : valOf (10 * 0 + (c.toNat - 48)) r = m := h3
    rw [h6] at h5
    have h7 : 10 ^ (decDigits n).length ≤ 10 ^ r.length := Nat.pow_le_pow_right (by omega) (by simp at h; omega)
    have h8 : 1 * 10 ^ r.length ≤ (10 * 0 + (c.toNat - 48)) * 10 ^ r.length := Nat.mul_le_mul_right _ (by omega)
    omega
theorem dec_less {n m : Nat} (h : (decDigits n).length = (decDigits m).length) : Op.bytesLess (decDigits n) (decDigits m) = decide (n < m) := by
  rw [less_val _ _ 0 (all_dec n) (all_dec m) h, valOf_dec, valOf_dec]
/-- The three kinds of two numbers, told of their texts. -/
theorem dec_kinds {n m : Nat} (d f : ByteArray) (hd : (⟨(decDigits n).toArray⟩ : ByteArray) = d) (hf : (⟨(decDigits m).toArray⟩ : ByteArray) = f) :
    (d.size < f.size ∧ n < m ∧ (d.toList == f.toList) = false) ∨ (f.size < d.size ∧ m < n ∧ (d.toList == f.toList) = false) ∨ (d.size = f.size ∧ n < m ∧ Op.bytesLess d.toList f.toList = true ∧ (d.toList == f.toList) = false)
    ∨ (d.size = f.size ∧ m < n ∧ Op.bytesLess d.toList f.toList = false ∧ (d.toList == f.toList) = false) ∨ (d.size = f.size ∧ n = m ∧ Op.bytesLess d.toList f.toList = false ∧ (d.toList == f.toList) = true) := by
  have e1 : d.toList = decDigits n := by rw [Lib.toList_data, ← hd]
  have e2 : f.toList = decDigits m := by rw [Lib.toList_data, ← hf]
  have s1 : d.size = (decDigits n).length := by rw [← e1, Lib.toList_data]; exact (size_toList d).symm
  have s2 : f.size = (decDigits m).length := by rw [← e2, Lib.toList_data]; exact (size_toList f).symm
  have hb : (d.toList == f.toList) = decide (n = m) := by
    rw [e1, e2]
    by_cases h : n = m
    · subst h; simp
    · have : decDigits n ≠ decDigits m := fun e => h (dec_inj e)
      simp [h, this]
  rw [hb, s1, s2, e1, e2]
  rcases Nat.lt_trichotomy (decDigits n).length (decDigits m).length with h | h | h
  · have := dec_long h
    exact .inl ⟨h, this, by simp; omega⟩
  · have hl := dec_less h
    rw [hl]
    rcases Nat.lt_trichotomy n m with h1 | h1 | h1
    · exact .inr (.inr (.inl ⟨h, h1, by simp [h1], by simp; omega⟩))
    · exact .inr (.inr (.inr (.inr ⟨h, h1, by simp [h1], by simp [h1]⟩)))
    · exact .inr (.inr (.inr (.inl ⟨h, h1, by simp; omega, by simp; omega⟩)))
  · have := dec_long h
    exact .inr (.inl ⟨h, this, by simp; omega⟩)
end Go.Proofs.YtgechifpappipaaDoor
