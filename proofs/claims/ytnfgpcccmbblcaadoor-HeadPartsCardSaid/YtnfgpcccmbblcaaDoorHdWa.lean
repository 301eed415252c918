/- head.Write: what it answers, and the plain laws. -/
import Derived.Test.YtnfgpcccmbblcaaDoorHdN
namespace Go.Proofs.YtnfgpcccmbblcaaDoor

def wrE (ps : List Pr) : Int := if ps.all hmay = true then (if 32 < ps.length then 4 else 0) else 8
def wrS (ps : List Pr) : List UInt8 := if wrE ps = 0 then hdW ps else []
def wrT (ps : List Pr) : Value := .tuple #[.string ⟨(wrS ps).toArray⟩, .int .i64 (wrE ps)]
theorem wrE_ok {ps : List Pr} (h : wrE ps = 0) : ps.all hmay = true ∧ ps.length ≤ 32 ∧ wrS ps = hdW ps := by
  have hs : wrS ps = hdW ps := by unfold wrS; rw [if_pos h]
  unfold wrE at h
  split at h
  · rename_i h1
    split at h
    · cases h
    · rename_i h2
      exact ⟨h1, by omega, hs⟩
  · cases h
theorem wrE_of {ps : List Pr} (h1 : ps.all hmay = true) (h2 : ps.length ≤ 32) : wrE ps = 0 ∧ wrS ps = hdW ps := by
  have h : wrE ps = 0 := by unfold wrE; rw [if_pos h1, if_neg (by omega)]
  exact ⟨h, by unfold wrS; rw [if_pos h]⟩
theorem hdL_len (p : Pr) : (hdL p).length = p.1.length + p.2.length + 4 := by unfold hdL; simp; omega
theorem hdW_size {ps : List Pr} (h : ∀ p ∈ ps, p.1.length ≤ 3000 ∧ p.2.length ≤ 3000) : (hdW ps).length = gs ps + 4 * ps.length := by
  induction ps with
  | nil => rfl
  | cons p ps ih =>
    have e : gs (p :: ps) = gsz p + gs ps := by simp [gs]
    have hp := h p (List.mem_cons_self ..)
    have hi := ih fun q hq => h q (List.mem_cons_of_mem _ hq)
    rw [hdW_cons, List.length_append, hdL_len, hi, e, List.length_cons]
    unfold gsz
    omega
/-- What is written is read as these fields. -/
theorem wr_back {ps : List Pr} (h : wrE ps = 0) (hg : gs ps ≤ 3000) (h3 : ∀ p ∈ ps, p.1.length ≤ 3000 ∧ p.2.length ≤ 3000) : (wrS ps).length ≤ 3200 ∧ hdE (wrS ps) = 0 ∧ hdV (wrS ps) = ps := by
  obtain ⟨h1, h2, h4⟩ := wrE_ok h
  rw [h4]
  have hz := hdW_size h3
  have hm : ∀ p ∈ ps, hmay p = true := List.all_eq_true.1 h1
  exact ⟨by omega, hdE_of (by omega) (hdA_W ps hm) h2⟩
/-- What is read, written again, is read as the same. -/
theorem rd_back {s : List UInt8} (h : hdE s = 0) (hs : s.length ≤ 3000) : wrE (hdV s) = 0 ∧ (wrS (hdV s)).length ≤ 3200 ∧ hdE (wrS (hdV s)) = 0 ∧ hdV (wrS (hdV s)) = hdV s := by
  obtain ⟨h1, ps, h2, h3, h4⟩ := hdE_ok h
  obtain ⟨h5, h6⟩ := hdA_may h2
  obtain ⟨h7, h8⟩ := wrE_of (List.all_eq_true.2 h5) h3
  rw [h4, h8]
  exact ⟨h7, by omega, hdE_of (by omega) (hdA_W ps h5) h3⟩
theorem rd_size {s : List UInt8} (h : hdE s = 0) : ∀ p ∈ hdV s, p.1.length ≤ s.length + 32 ∧ p.2.length ≤ s.length + 32 := by
  obtain ⟨h1, ps, h2, h3, h4⟩ := hdE_ok h
  obtain ⟨h5, h6⟩ := hdA_may h2
  rw [h4]
  intro p hp
  have : (hdL p).length ≤ (hdW ps).length := by
    clear h2 h3 h4 h5 h6
    induction ps with
    | nil => cases hp
    | cons q ps ih =>
      rw [hdW_cons, List.length_append]
      rcases List.mem_cons.1 hp with rfl | hp
      · omega
      · have := ih hp
        omega
  rw [hdL_len] at this
  omega
end Go.Proofs.YtnfgpcccmbblcaaDoor
