/- HeadFrame: the plain laws. -/
import Derived.Test.YtnfgpcccmbblcaaDoorHdN
namespace Go.Proofs.YtnfgpcccmbblcaaDoor

theorem low_te : lowL teL = teL := by decide +kernel
theorem low_cl : lowL clL = clL := by decide +kernel
theorem te_cl : teL ≠ clL := by decide
theorem fnd_te (l : List Pr) (p : Pr) : fndV (l ++ [p]) teL = if lowL p.1 = teL then fndV l teL ++ [p.2] else fndV l teL := by
  rw [fndV_snoc, low_te]
  by_cases h : lowL p.1 = teL <;> simp [h]
theorem fnd_cl (l : List Pr) (p : Pr) : fndV (l ++ [p]) clL = if lowL p.1 = clL then fndV l clL ++ [p.2] else fndV l clL := by
  rw [fndV_snoc, low_cl]
  by_cases h : lowL p.1 = clL <;> simp [h]
theorem frm_many {l : List Pr} (h : 1 < (fndV l teL).length + (fndV l clL).length) : frm l = (0, 0, 140) := by
  unfold frm
  generalize fndV l teL = a at h ⊢
  generalize fndV l clL = b at h ⊢
  match a, b, h with
  | [], [], h => simp at h
  | [], [x], h => simp at h
  | [x], [], h => simp at h
  | [x], [y], _ => simp [oneX, frmK]
  | x :: y :: r, b, _ => simp [oneX, frmK]
  | [], x :: y :: r, _ => simp [oneX, frmK]
  | [z], x :: y :: r, _ => simp [oneX, frmK]
theorem frm_same {l : List Pr} {p : Pr} (h1 : lowL p.1 ≠ teL) (h2 : lowL p.1 ≠ clL) : frm (l ++ [p]) = frm l := by
  unfold frm
  rw [fnd_te, fnd_cl, if_neg h1, if_neg h2]
theorem frm_more {l : List Pr} {p : Pr} (h : lowL p.1 = teL ∨ lowL p.1 = clL) (hm : 0 < (fndV l teL).length + (fndV l clL).length) : frm (l ++ [p]) = (0, 0, 140) := by
  refine frm_many ?_
  rw [fnd_te, fnd_cl]
  rcases h with h | h
  · rw [if_pos h, if_neg (by rw [h]; exact te_cl), List.length_append]
    simp
    omega
  · rw [if_pos h, if_neg (by rw [h]; exact te_cl.symm), List.length_append]
    simp
    omega
theorem frm_none {l : List Pr} (h : (fndV l teL).length + (fndV l clL).length = 0) : frm l = (0, 0, 0) := by
  unfold frm
  rw [List.length_eq_zero_iff.1 (by omega : (fndV l teL).length = 0), List.length_eq_zero_iff.1 (by omega : (fndV l clL).length = 0)]
  simp [oneX, frmK]
theorem frm_te {l : List Pr} {p : Pr} (h : (fndV l teL).length + (fndV l clL).length = 0) (hp : lowL p.1 = teL) : frm (l ++ [p]) = (2, 0, 0) ∨ frm (l ++ [p]) = (0, 0, 140) := by
  unfold frm
  rw [fnd_te, fnd_cl, if_pos hp, if_neg (by rw [hp]; exact te_cl), List.length_eq_zero_iff.1 (by omega : (fndV l teL).length = 0), List.length_eq_zero_iff.1 (by omega : (fndV l clL).length = 0)]
  by_cases hq : lstE p.2 = 0 ∧ lstV p.2 = [chk]
  · exact .inl (by simp [oneX, frmK, hq])
  · exact .inr (by simp [oneX, frmK, hq])
theorem frm_cl {l : List Pr} {p : Pr} (h : (fndV l teL).length + (fndV l clL).length = 0) (hp : lowL p.1 = clL) : frm (l ++ [p]) = (1, rdN p.2, 0) ∨ frm (l ++ [p]) = (0, 0, 140) := by
  unfold frm
  rw [fnd_te, fnd_cl, if_pos hp, if_neg (by rw [hp]; exact te_cl.symm), List.length_eq_zero_iff.1 (by omega : (fndV l teL).length = 0), List.length_eq_zero_iff.1 (by omega : (fndV l clL).length = 0)]
  by_cases hq : rdE p.2 = 0
  · exact .inl (by simp [oneX, frmK, hq])
  · exact .inr (by simp [oneX, frmK, hq])
end Go.Proofs.YtnfgpcccmbblcaaDoor
