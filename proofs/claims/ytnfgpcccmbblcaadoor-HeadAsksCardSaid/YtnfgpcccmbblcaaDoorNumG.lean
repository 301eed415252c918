/- Digits written and read, in plain Lean: what is written is read, and the other way round. No program in sight. -/
import Derived.Test.YtnfgpcccmbblcaaDoorNumF
namespace Go.Proofs.YtnfgpcccmbblcaaDoor
open Go.RowKit Go.Lib

theorem dig_toNat {i : Nat} (h : i < 10) : (UInt8.ofNat (48 + i)).toNat = 48 + i := by
  rw [UInt8.toNat_ofNat']
  exact Nat.mod_eq_of_lt (by omega)
theorem isDig_ofNat {i : Nat} (h : i < 10) : isDig (UInt8.ofNat (48 + i)) = true := by
  unfold isDig
  rw [dig_toNat h]
  simp
  omega
theorem ofNat_dig {c : UInt8} (h : isDig c = true) : UInt8.ofNat (48 + (c.toNat - 48)) = c := by
  simp only [isDig, Bool.and_eq_true, decide_eq_true_eq] at h
  rw [Nat.add_sub_cancel' h.1]
  exact UInt8.ofNat_toNat
theorem decDigits_big {n : Nat} (h : ¬ n < 10) : decDigits n = decDigits (n / 10) ++ [UInt8.ofNat (48 + n % 10)] := by
  rw [decDigits, dif_neg h]
theorem decDigits_ne (n : Nat) : decDigits n ≠ [] := by
  intro h
  have h1 := decDigits_length n
  rw [h] at h1
  have := nDigits_pos n
  simp at h1
  omega
theorem val_dec : ∀ (k n : Nat), n ≤ k → valOf 0 (decDigits n) = n := by
  intro k
  induction k with
  | zero =>
    intro n h
    obtain rfl : n = 0 := by omega
    rw [decDigits_one (by omega)]
    rfl
  | succ k ih =>
    intro n h
    by_cases hn : n < 10
    · rw [decDigits_one hn]
      show 10 * 0 + ((UInt8.ofNat (48 + n)).toNat - 48) = n
      rw [dig_toNat hn]
      omega
    · rw [decDigits_big hn, valOf_snoc, ih (n / 10) (by omega), dig_toNat (Nat.mod_lt n (by omega))]
      omega
theorem valOf_dec (n : Nat) : valOf 0 (decDigits n) = n := val_dec n n (Nat.le_refl n)
theorem dec_inj {m n : Nat} (h : decDigits m = decDigits n) : m = n := by
  rw [← valOf_dec m, h, valOf_dec]
theorem all_dec' : ∀ (k n : Nat), n ≤ k → (decDigits n).all isDig = true := by
  intro k
  induction k with
  | zero =>
    intro n h
    obtain rfl : n = 0 := by omega
    rw [decDigits_one (by omega)]
    rfl
  | succ k ih =>
    intro n h
    by_cases hn : n < 10
    · rw [decDigits_one hn, List.all_cons, isDig_ofNat hn]
      rfl
    · rw [decDigits_big hn, List.all_append, ih (n / 10) (by omega), List.all_cons, isDig_ofNat (Nat.mod_lt n (by omega))]
      rfl
theorem all_dec (n : Nat) : (decDigits n).all isDig = true := all_dec' n n (Nat.le_refl n)
theorem head_dec' : ∀ (k n : Nat), n ≤ k → 1 ≤ n → (decDigits n).head? ≠ some 48 := by
  intro k
  induction k with
  | zero => intro n h h1; omega
  | succ k ih =>
    intro n h h1
    by_cases hn : n < 10
    · rw [decDigits_one hn]
      intro e
      have e1 : UInt8.ofNat (48 + n) = 48 := by injection e
      have := congrArg UInt8.toNat e1
      rw [dig_toNat hn] at this
      have h48 : (48 : UInt8).toNat = 48 := rfl
      omega
    · rw [decDigits_big hn]
      have hne := decDigits_ne (n / 10)
      have := ih (n / 10) (by omega) (by omega)
      cases hl : decDigits (n / 10) with
      | nil => exact absurd hl hne
      | cons a l => rw [hl] at this; simpa using this
theorem head_dec {n : Nat} (h : 1 ≤ n) : (decDigits n).head? ≠ some 48 := head_dec' n n (Nat.le_refl n) h
theorem len_dec {n : Nat} (h : n ≤ 9007199254740991) : (decDigits n).length ≤ 16 := by
  rw [decDigits_length]
  rcases Nat.lt_or_ge 16 (nDigits n) with h1 | h1
  · exfalso
    have hb : ¬ n < 10 := by
      intro hn
      rw [nDigits_small hn] at h1
      omega
    -- a number of more than 16 digits is at least 10 ^ 16
    have key : ∀ (k u : Nat), k + 1 ≤ nDigits u → 1 ≤ u → 10 ^ k ≤ u := by
      intro k
      induction k with
      | zero => intro u _ h; simpa using h
      | succ k ih =>
        intro u h hu
        have hu10 : ¬ u < 10 := by
          intro hn
          rw [nDigits_small hn] at h
          omega
        rw [nDigits_big hu10] at h
        have := ih (u / 10) (by omega) (by omega)
        rw [Nat.pow_succ]
        have h2 : 10 ^ k * 10 ≤ u / 10 * 10 := Nat.mul_le_mul_right _ this
        exact Nat.le_trans h2 (Nat.div_mul_le_self u 10)
    have h3 := key 16 n h1 (by omega)
    have h4 : (10 : Nat) ^ 16 = 10000000000000000 := by simp
    rw [h4] at h3
    omega
  · exact h1
/-- Each number's text is one. -/
theorem numOk_dec {n : Nat} (h : n ≤ 9007199254740991) : numOk (decDigits n) = true := by
  by_cases h0 : n = 0
  · subst h0
    rw [decDigits_one (by omega)]
    rfl
  · rw [numOk_is (decDigits_ne n) (len_dec h) (head_dec (by omega)) (all_dec n), valOf_dec, decide_eq_true h]
theorem isDig_le {c : UInt8} (h : isDig c = true) : c.toNat - 48 < 10 := by
  simp only [isDig, Bool.and_eq_true, decide_eq_true_eq] at h
  omega
/-- Digits without a 0 ahead are the number's text that they tell. -/
theorem dec_val' : ∀ (k : Nat) (l : List UInt8), l.length ≤ k → l ≠ [] → l.all isDig = true → l.head? ≠ some 48 → l = decDigits (valOf 0 l) ∧ 1 ≤ valOf 0 l := by
  intro k
  induction k with
  | zero =>
    intro l h h0 _ _
    exact absurd (List.eq_nil_of_length_eq_zero (by omega)) h0
  | succ k ih =>
    intro l h h0 ha hh
    have hl := List.dropLast_concat_getLast h0
    generalize l.dropLast = r at hl
    generalize l.getLast h0 = c at hl
    subst hl
    rw [List.all_append, Bool.and_eq_true] at ha
    have hc : isDig c = true := by simpa using ha.2
    have hc9 := isDig_le hc
    rw [valOf_snoc]
    by_cases hr : r = []
    · subst hr
      have h1 : valOf 0 [] = 0 := rfl
      rw [h1, Nat.mul_zero, Nat.zero_add, decDigits_one hc9, ofNat_dig hc]
      refine ⟨rfl, ?_⟩
      have hne : c ≠ 48 := by
        intro e
        apply hh
        rw [e]
        rfl
      simp only [isDig, Bool.and_eq_true, decide_eq_true_eq] at hc
      have : c.toNat ≠ 48 := fun e => hne (UInt8.toNat_inj.1 e)
      omega
    · have hh2 : r.head? ≠ some 48 := by
        cases r with
        | nil => exact absurd rfl hr
        | cons a r => simpa using hh
      obtain ⟨h1, h2⟩ := ih r (by simp at h; omega) hr ha.1 hh2
      have h3 : ¬ 10 * valOf 0 r + (c.toNat - 48) < 10 := by omega
      refine ⟨?_, by omega⟩
      rw [decDigits_big h3]
      have h4 : (10 * valOf 0 r + (c.toNat - 48)) / 10 = valOf 0 r := by omega
      have h5 : (10 * valOf 0 r + (c.toNat - 48)) % 10 = c.toNat - 48 := by omega
      rw [h4, h5, ofNat_dig hc, ← h1]
/-- A number's text is that of the number that it tells. -/
theorem dec_of_ok {l : List UInt8} (h : numOk l = true) : decDigits (valOf 0 l) = l ∧ valOf 0 l ≤ 9007199254740991 := by
  by_cases hz : l = [48]
  · subst hz
    exact ⟨by rw [show valOf 0 [48] = 0 from rfl, decDigits_one (by omega)]; rfl, by rw [show valOf 0 [48] = 0 from rfl]; omega⟩
  · unfold numOk at h
    simp only [Bool.and_eq_true, decide_eq_true_eq] at h
    obtain ⟨⟨⟨⟨h1, h2⟩, h3⟩, h4⟩, h5⟩ := h
    have h0 : l ≠ [] := by
      intro e
      subst e
      simp at h1
    have hh : l.head? ≠ some 48 := by
      intro e
      rw [e] at h3
      simp [hz] at h3
    exact ⟨(dec_val' _ l (Nat.le_refl _) h0 h4 hh).1.symm, h5⟩
theorem ok_iff (l : List UInt8) : numOk l = true ↔ ∃ n, n ≤ 9007199254740991 ∧ l = decDigits n :=
  ⟨fun h => ⟨_, (dec_of_ok h).2, (dec_of_ok h).1.symm⟩, fun ⟨_, h, e⟩ => by rw [e]; exact numOk_dec h⟩
/-- What the document's value answers. -/
def vlF (l : List UInt8) : Int := if l.all isDig then valOf 0 l else -1
theorem vlF_bad {l : List UInt8} (h : l.all isDig = false) : vlF l = -1 := by unfold vlF; rw [h]; rfl
theorem vlF_good {l : List UInt8} (h : l.all isDig = true) : vlF l = valOf 0 l := by unfold vlF; rw [h]; rfl
end Go.Proofs.YtnfgpcccmbblcaaDoor
