/- What the document's Parse asks is what the program's asks, plain. -/
import Derived.Test.YtfonkblbgadhmaaDoorJdP
namespace Go.Proofs.YtfonkblbgadhmaaDoor
/-- the text that the document's Parse wants the address to have. -/
def wantP (s : List UInt8) : List UInt8 := lowA s ++ (if s.contains 47 then 47 :: jRes s else [])
theorem ref_prs (s : List UInt8) : (chkP (jLoc s) (jDom s) (jRes s) && decide (txtP (jLoc s) (jDom s) (jRes s) = wantP s)) = prsP s := by
  have a : ∃ H, (if (jLoc s).isEmpty then jDom s else jLoc s ++ 64 :: jDom s) = H ∧ (((lowA s).contains 64 && (jLoc s).isEmpty) = true → lowA s = 64 :: H) ∧ (((lowA s).contains 64 && (jLoc s).isEmpty) = false → lowA s = H) := by
    refine ⟨_, rfl, fun h => ?_, fun h => ?_⟩
    · rw [Bool.and_eq_true] at h
      rw [h.2, if_pos rfl]
      obtain ⟨e, -⟩ := cA_cR 64 (lowA s) (by simpa using h.1)
      have h2 := List.isEmpty_iff.1 h.2
      unfold jLoc at h2
      rw [h.1, if_pos rfl] at h2
      rw [h2] at e
      unfold jDom
      rw [h.1, if_pos rfl]
      exact e
    · cases hc : (lowA s).contains 64 with
      | false =>
        unfold jLoc jDom
        rw [hc]
        rfl
      | true =>
        rw [hc, Bool.true_and] at h
        rw [h]
        obtain ⟨e, -⟩ := cA_cR 64 (lowA s) (by simpa using hc)
        unfold jLoc jDom
        rw [hc]
        exact e
  have b : ∃ T, (if (jRes s).isEmpty then [] else 47 :: jRes s) = T ∧ ((s.contains 47 && (jRes s).isEmpty) = true → (if s.contains 47 then 47 :: jRes s else []) = 47 :: T) ∧ ((s.contains 47 && (jRes s).isEmpty) = false → (if s.contains 47 then 47 :: jRes s else []) = T) := by
    refine ⟨_, rfl, fun h => ?_, fun h => ?_⟩
    · rw [Bool.and_eq_true] at h
      rw [h.1, h.2, List.isEmpty_iff.1 h.2]
      rfl
    · cases hc : s.contains 47 with
      | false =>
        have := cA_not 47 s (by simpa using hc)
        unfold jRes
        rw [this.2]
        rfl
      | true =>
        rw [hc, Bool.true_and] at h
        rw [h]
        rfl
  obtain ⟨H, hH, a1, a2⟩ := a
  obtain ⟨T, hT, b1, b2⟩ := b
  unfold prsP txtP wantP
  rw [hH, hT]
  cases ha : ((lowA s).contains 64 && (jLoc s).isEmpty) with
  | true =>
    rw [a1 ha]
    have : H ++ T ≠ 64 :: H ++ (if s.contains 47 then 47 :: jRes s else []) := by
      intro e
      have e := congrArg List.length e
      cases hb : (s.contains 47 && (jRes s).isEmpty) with
      | true => rw [b1 hb] at e; simp at e; omega
      | false => rw [b2 hb] at e; simp at e
    rw [decide_eq_false this]
    simp
  | false =>
    rw [a2 ha]
    cases hb : (s.contains 47 && (jRes s).isEmpty) with
    | true =>
      rw [b1 hb]
      have : H ++ T ≠ H ++ 47 :: T := by
        intro e
        have e := congrArg List.length e
        simp at e
      rw [decide_eq_false this]
      simp
    | false =>
      rw [b2 hb]
      simp
end Go.Proofs.YtfonkblbgadhmaaDoor
