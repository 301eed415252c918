/- Versions in plain Lean: two numbers of at most 99, with a point. No program in sight. -/
import Derived.Test.YtgechifpappipaaDoorNumG
namespace Go.Proofs.YtgechifpappipaaDoor
open Go.RowKit

/-- What a version's text tells. -/
def vsAt (l : List UInt8) (i : Nat) : Option (Nat × Nat) :=
  if numOk (l.take i) && numOk (l.drop (i + 1)) && decide (valOf 0 (l.take i) ≤ 99) && decide (valOf 0 (l.drop (i + 1)) ≤ 99) then some (valOf 0 (l.take i), valOf 0 (l.drop (i + 1))) else none
def vsOf (l : List UInt8) : Option (Nat × Nat) :=
  if 16 < l.length then none else (l.findIdx? (· == 46)).bind (vsAt l)
def vsA (l : List UInt8) : Int := ((vsOf l).map (fun x => (x.1 : Int))).getD 0
def vsB (l : List UInt8) : Int := ((vsOf l).map (fun x => (x.2 : Int))).getD 0
def vsE (l : List UInt8) : Int := if (vsOf l).isSome then 0 else 60
theorem vs_is {l : List UInt8} {n m : Nat} (h : vsOf l = some (n, m)) : vsA l = n ∧ vsB l = m ∧ vsE l = 0 := by simp [vsA, vsB, vsE, h]
theorem vs_no {l : List UInt8} (h : vsOf l = none) : vsA l = 0 ∧ vsB l = 0 ∧ vsE l = 60 := by simp [vsA, vsB, vsE, h]

theorem dec_len2 {n : Nat} (h : n ≤ 99) : (Lib.decDigits n).length ≤ 2 := by
  by_cases h1 : n < 10
  · rw [Lib.decDigits_one h1]; simp
  · rw [decDigits_big h1, List.length_append, Lib.decDigits_one (by omega)]; simp
theorem no_point {l : List UInt8} (h : l.all isDig = true) : l.findIdx? (· == 46) = none := by
  rw [List.findIdx?_eq_none_iff]
  intro x hx
  have h1 := List.all_eq_true.1 h x hx
  cases h2 : (x == 46)
  · rfl
  · have : x = 46 := by simpa using h2
    subst this
    simp [isDig] at h1
theorem find_point {l r : List UInt8} (h : l.all isDig = true) : (l ++ 46 :: r).findIdx? (· == 46) = some l.length := by
  have h1 : (46 :: r).findIdx? (· == 46) = some 0 := by rw [List.findIdx?_cons]; rfl
  rw [List.findIdx?_append, no_point h, h1]
  simp
theorem vs_some {l : List UInt8} {n m : Nat} (hn : n ≤ 99) (hm : m ≤ 99) (h : Lib.decDigits n ++ 46 :: Lib.decDigits m = l) : vsOf l = some (n, m) := by
  subst h
  have hl : ¬ 16 < (Lib.decDigits n ++ 46 :: Lib.decDigits m).length := by
    rw [List.length_append, List.length_cons]
    have := dec_len2 hn
    have := dec_len2 hm
    omega
  unfold vsOf
  rw [if_neg hl, find_point (all_dec n)]
  show vsAt _ _ = _
  unfold vsAt
  have e1 : (Lib.decDigits n ++ 46 :: Lib.decDigits m).take (Lib.decDigits n).length = Lib.decDigits n := by simp
  have e2 : (Lib.decDigits n ++ 46 :: Lib.decDigits m).drop ((Lib.decDigits n).length + 1) = Lib.decDigits m := by
    rw [← List.drop_drop, List.drop_left]
    rfl
  rw [e1, e2, numOk_dec (by omega), numOk_dec (by omega), valOf_dec, valOf_dec, decide_eq_true hn, decide_eq_true hm]
  rfl
theorem vs_back {l : List UInt8} {n m : Nat} (h : vsOf l = some (n, m)) : n ≤ 99 ∧ m ≤ 99 ∧ Lib.decDigits n ++ 46 :: Lib.decDigits m = l := by
  unfold vsOf at h
  by_cases hl : 16 < l.length
  · rw [if_pos hl] at h; cases h
  · rw [if_neg hl] at h
    cases hf : l.findIdx? (· == 46) with
    | none => rw [hf] at h; cases h
    | some i =>
      rw [hf] at h
      have h' : vsAt l i = some (n, m) := h
      unfold vsAt at h'
      split at h'
      · rename_i hc
        simp only [Bool.and_eq_true, decide_eq_true_eq] at hc
        obtain ⟨⟨⟨c1, c2⟩, c3⟩, c4⟩ := hc
        injection h' with h'
        injection h' with h1 h2
        subst h1 h2
        refine ⟨c3, c4, ?_⟩
        rw [(dec_of_ok c1).1, (dec_of_ok c2).1]
        obtain ⟨hi, hp, _⟩ := List.findIdx?_eq_some_iff_getElem.1 hf
        have hx : l[i] = 46 := by simpa using hp
        rw [← hx, ← List.drop_eq_getElem_cons hi, List.take_append_drop]
      · cases h'
theorem vs_long {l : List UInt8} (h : 5 < l.length) : vsOf l = none := by
  cases hv : vsOf l with
  | none => rfl
  | some x =>
    obtain ⟨n, m⟩ := x
    obtain ⟨h1, h2, h3⟩ := vs_back hv
    exfalso
    rw [← h3, List.length_append, List.length_cons] at h
    have := dec_len2 h1
    have := dec_len2 h2
    omega
theorem vs_none {l : List UInt8} (h : ∀ n m : Nat, n ≤ 99 → m ≤ 99 → Lib.decDigits n ++ 46 :: Lib.decDigits m ≠ l) : vsOf l = none := by
  cases hv : vsOf l with
  | none => rfl
  | some x =>
    obtain ⟨n, m⟩ := x
    obtain ⟨h1, h2, h3⟩ := vs_back hv
    exact absurd h3 (h n m h1 h2)
end Go.Proofs.YtgechifpappipaaDoor
