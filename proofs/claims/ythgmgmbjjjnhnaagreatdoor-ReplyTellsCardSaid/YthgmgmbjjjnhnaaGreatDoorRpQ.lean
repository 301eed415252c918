/- The document's Read of a reply: the plain law. -/
import Derived.Test.YthgmgmbjjjnhnaaGreatDoorRpP
namespace Go.Proofs.YthgmgmbjjjnhnaaGreatDoor
open Go.RowKit

def firstL : List UInt8 := stT 200 ++ (hdL ctype ++ (clL ++ [58, 32]))
def closeL : List UInt8 := 13 :: 10 :: (hdL cclose ++ [13, 10])
def openL : List UInt8 := [13, 10, 13, 10]
def tailL (k : Bool) : List UInt8 := if k = true then openL else closeL
theorem rpT_200 (b : List UInt8) (k : Bool) : rpT 200 b k = firstL ++ (Lib.decDigits b.length ++ (tailL k ++ b)) := by
  unfold rpT rpF firstL tailL openL closeL
  cases k <;> simp [hdW, hdL, clen]
def wlD (s : List UInt8) : List UInt8 := (s.drop firstL.length).takeWhile isDig
def wlK (s : List UInt8) : Bool := !closeL.isPrefixOf (s.drop (firstL.length + (wlD s).length))
def wlA (s : List UInt8) : Nat := firstL.length + (wlD s).length + (if wlK s = true then 4 else 23)
def wlB (s : List UInt8) : List UInt8 := (s.drop (wlA s)).take (rdN (wlD s)).toNat
def refW (s : List UInt8) : Option (List UInt8 × Bool) :=
  if firstL.isPrefixOf s = true ∧ rdE (wlD s) = 0 ∧ rdN (wlD s) ≤ 16384 ∧ wlA s + (rdN (wlD s)).toNat ≤ s.length ∧ (rpT 200 (wlB s) (wlK s)).isPrefixOf s = true then some (wlB s, wlK s) else none
theorem rdN_nat (l : List UInt8) : 0 ≤ rdN l := by
  unfold rdN
  split <;> omega
theorem refW_some {s b : List UInt8} {k : Bool} (h : refW s = some (b, k)) : rpMay 200 b k = true ∧ (rpT 200 b k).isPrefixOf s = true := by
  unfold refW at h
  split at h
  · rename_i h1
    obtain ⟨_, _, h3, _, h5⟩ := h1
    injection h with h
    injection h with e1 e2
    subst e1 e2
    refine ⟨?_, h5⟩
    unfold rpMay
    rw [if_pos rfl]
    refine decide_eq_true ?_
    have := rdN_nat (wlD s)
    unfold wlB
    rw [List.length_take]
    omega
  · cases h
theorem take_digs {d r : List UInt8} (h : d.all isDig = true) (hr : ∀ c t, r = c :: t → isDig c = false) : (d ++ r).takeWhile isDig = d := by
  induction d with
  | nil =>
    cases r with
    | nil => rfl
    | cons c t => rw [List.nil_append, List.takeWhile_cons_of_neg (by rw [hr c t rfl]; decide)]
  | cons c d ih =>
    rw [List.all_cons, Bool.and_eq_true] at h
    rw [List.cons_append, List.takeWhile_cons_of_pos h.1, ih h.2]
theorem refW_of {b : List UInt8} {k : Bool} (h : rpMay 200 b k = true) (more : List UInt8) : refW (rpT 200 b k ++ more) = some (b, k) := by
  have hb : b.length ≤ 16384 := by
    unfold rpMay at h
    rw [if_pos rfl] at h
    exact of_decide_eq_true h
  have e0 : rpT 200 b k ++ more = firstL ++ (Lib.decDigits b.length ++ (tailL k ++ (b ++ more))) := by rw [rpT_200]; simp
  have hD : wlD (rpT 200 b k ++ more) = Lib.decDigits b.length := by
    unfold wlD
    rw [e0, List.drop_left]
    refine take_digs (all_dec _) ?_
    intro c t e
    have : c = 13 := by
      unfold tailL openL closeL at e
      cases k <;> simp at e <;> exact e.1.symm
    rw [this]
    decide
  have hdr : (rpT 200 b k ++ more).drop (firstL.length + (Lib.decDigits b.length).length) = tailL k ++ (b ++ more) := by
    rw [e0, ← List.append_assoc, ← List.length_append, List.drop_left]
  have hK : wlK (rpT 200 b k ++ more) = k := by
    unfold wlK
    rw [hD, hdr]
    cases k with
    | true => simp [tailL, openL, closeL, hdL, cclose, conL, List.isPrefixOf]
    | false =>
      have : closeL.isPrefixOf (closeL ++ (b ++ more)) = true := by simp [List.isPrefixOf_iff_prefix]
      simp only [tailL]
      rw [if_neg (by decide), this]
      rfl
  have htl : (tailL k).length = if k = true then 4 else 23 := by cases k <;> decide +kernel
  have hA : wlA (rpT 200 b k ++ more) = firstL.length + (Lib.decDigits b.length).length + (tailL k).length := by
    unfold wlA
    rw [hD, hK, htl]
  have hr := rd_good (numOk_dec (n := b.length) (by omega))
  have hn : (rdN (Lib.decDigits b.length)).toNat = b.length := by rw [hr.1, valOf_dec]; simp
  have hB : wlB (rpT 200 b k ++ more) = b := by
    unfold wlB
    rw [hA, hD, hn, e0]
    have e1 : firstL ++ (Lib.decDigits b.length ++ (tailL k ++ (b ++ more))) = (firstL ++ (Lib.decDigits b.length ++ tailL k)) ++ (b ++ more) := by simp
    rw [e1, show firstL.length + (Lib.decDigits b.length).length + (tailL k).length = (firstL ++ (Lib.decDigits b.length ++ tailL k)).length by simp; omega, List.drop_left, List.take_left]
  unfold refW
  rw [hB, hK, hA, hD, hn, hr.1, hr.2, valOf_dec]
  rw [if_pos ?_]
  refine ⟨?_, rfl, by omega, ?_, ?_⟩
  · rw [e0]; simp [List.isPrefixOf_iff_prefix]
  · rw [e0]; simp; omega
  · simp [List.isPrefixOf_iff_prefix]
def codes6 : List Int := [400, 403, 404, 405, 413, 505]
def refR (s : List UInt8) : Option (Int × List UInt8 × Bool) :=
  match codes6.find? (fun c => (rpT c [] false).isPrefixOf s) with
  | some c => some (c, [], false)
  | none => (refW s).map fun x => (200, x.1, x.2)
theorem may6 {c : Int} (h : c ∈ codes6) : rpMay c [] false = true := by
  unfold codes6 at h
  simp only [List.mem_cons, List.not_mem_nil, or_false] at h
  rcases h with rfl | rfl | rfl | rfl | rfl | rfl <;> decide +kernel
theorem may_not {st : Int} {b : List UInt8} {k : Bool} (h : rpMay st b k = true) (h2 : st ≠ 200) : st ∈ codes6 ∧ b = [] ∧ k = false := by
  have hc := rpMay_code h
  unfold rpMay at h
  rw [if_neg h2] at h
  simp only [Bool.and_eq_true, decide_eq_true_eq, Bool.not_eq_true'] at h
  refine ⟨?_, h.2.1, h.2.2⟩
  unfold codes at hc
  unfold codes6
  simp only [List.mem_cons, List.not_mem_nil, or_false] at hc ⊢
  rcases hc with hc | hc
  · exact absurd hc h2
  · exact hc
theorem may_small {st : Int} {b : List UInt8} {k : Bool} (h : rpMay st b k = true) : b.length ≤ 16384 := by
  by_cases h2 : st = 200
  · unfold rpMay at h
    rw [if_pos h2] at h
    exact of_decide_eq_true h
  · rw [(may_not h h2).2.1]
    decide
theorem back_of {st : Int} {s b : List UInt8} {k : Bool} (h : rpMay st b k = true) (hp : (rpT st b k).isPrefixOf s = true) : rpR s = some (st, b, k) := by
  obtain ⟨t, ht⟩ := List.isPrefixOf_iff_prefix.1 hp
  rw [← ht]
  exact rp_back h (by have := may_small h; omega) t
/-- The document's answer is the program's. -/
theorem ref_eq (s : List UInt8) : refR s = rpR s := by
  unfold refR
  cases hf : codes6.find? (fun c => (rpT c [] false).isPrefixOf s) with
  | some c =>
    have h1 := List.find?_some hf
    have h2 := List.mem_of_find?_eq_some hf
    exact (back_of (may6 h2) h1).symm
  | none =>
    have hno := List.find?_eq_none.1 hf
    simp only
    cases hw : refW s with
    | some x =>
      obtain ⟨b, k⟩ := x
      obtain ⟨w1, w2⟩ := refW_some hw
      exact (back_of w1 w2).symm
    | none =>
      cases hr : rpR s with
      | none => rfl
      | some x =>
        obtain ⟨st, b, k⟩ := x
        obtain ⟨r1, more, r2⟩ := rp_some hr
        exfalso
        by_cases h2 : st = 200
        · subst h2
          rw [r2, refW_of r1] at hw
          cases hw
        · obtain ⟨m1, rfl, rfl⟩ := may_not r1 h2
          refine hno st m1 ?_
          rw [r2]
          simp [List.isPrefixOf_iff_prefix]
end Go.Proofs.YthgmgmbjjjnhnaaGreatDoor
