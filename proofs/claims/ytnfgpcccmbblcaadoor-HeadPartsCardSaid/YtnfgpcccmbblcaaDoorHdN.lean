/- ref14's Great: which fields the statements go through. -/
import Derived.Test.YtnfgpcccmbblcaaDoorHdL
namespace Go.Proofs.YtnfgpcccmbblcaaDoor
open Go.RowKit

def gsz (p : Pr) : Nat := min p.1.length 5000 + min p.2.length 5000
def gs (ps : List Pr) : Nat := (ps.map gsz).sum
def grt (ps : List Pr) : Bool := decide (40 < ps.length) || decide (3000 < gs (ps.take 50))
theorem gs_snoc (ps : List Pr) (p : Pr) : gs (ps ++ [p]) = gs ps + gsz p := by simp [gs]
theorem gsz_le (p : Pr) : gsz p ≤ 10000 := by unfold gsz; omega
theorem gs_le (ps : List Pr) : gs ps ≤ 10000 * ps.length := by
  induction ps with
  | nil => exact Nat.le_refl _
  | cons p ps ih =>
    have h : gs (p :: ps) = gsz p + gs ps := by simp [gs]
    have := gsz_le p
    rw [h, List.length_cons]
    omega
theorem gsz_mem {ps : List Pr} {p : Pr} (h : p ∈ ps) : gsz p ≤ gs ps := by
  induction ps with
  | nil => cases h
  | cons q ps ih =>
    have e : gs (q :: ps) = gsz q + gs ps := by simp [gs]
    rcases List.mem_cons.1 h with rfl | h
    · omega
    · have := ih h
      omega
theorem grt_small {ps : List Pr} (h : grt ps = false) : ps.length ≤ 40 ∧ gs ps ≤ 3000 ∧ ∀ p ∈ ps, p.1.length ≤ 3000 ∧ p.2.length ≤ 3000 := by
  unfold grt at h
  rw [Bool.or_eq_false_iff, decide_eq_false_iff_not, decide_eq_false_iff_not] at h
  obtain ⟨h1, h2⟩ := h
  rw [List.take_of_length_le (by omega)] at h2
  refine ⟨by omega, by omega, fun p hp => ?_⟩
  have h3 := gsz_mem hp
  unfold gsz at h3
  omega
set_option maxHeartbeats 4000000 in
theorem r14_Great (v : Value) (ps : List Pr) (w : World) (hv : IsPairs v ps w) (hl : ps.length ≤ 9223372036854775807) : Calls Tryd.prog 32 #[v] w (Ret w (.bool (grt ps))) := by
  obtain ⟨a, ca, rfl⟩ := hv.form
  obtain ⟨n, hnn⟩ : ∃ n, ps.length = n := ⟨_, rfl⟩
  have HN := Lib.hid hnn
  have HV := Lib.hid hv
  rw [hnn] at HV hl ⊢
  have HLV : Hid (IsPairs (.slice a n ca) ps w) := HV
  obtain ⟨D, hD⟩ : ∃ D, grt ps = D := ⟨_, rfl⟩
  rw [hD]
  have HD := Lib.hid hD
  clear hv hnn HV hD
  go_enter Tryd.func32, Tryd.ntmps32
  go_wp2_with fail
  go_loopw [3, 4] (fun s i wr => ∃ k g m : Nat, k ≤ n ∧ k ≤ 50 ∧ g ≤ 10000 * k ∧ s = .int .i64 g ∧ i = .int .i64 k ∧ gs (ps.take k) = g ∧ wr = w.drewN m) (fun s i _ => n - (intOf i).toNat)
  case atStart => exact ⟨0, 0, 0, Nat.zero_le _, by decide, by decide, rfl, rfl, rfl, rfl⟩
  case round =>
    obtain ⟨k, g, mm, hk, hk50, hg, rfl, rfl, hgs, rfl⟩ := hrel
    have HG := Lib.hid hgs
    clear hgs
    by_cases hlt : k < n
    · by_cases h50 : k < 50
      · have hx : k < ps.length := by have := HN.out; omega
        obtain ⟨b1, o1, cap1, hs1, _, c1, c2⟩ := HLV.out.cell hx
        have ha1 : a = some ⟨b1, o1, none⟩ := by injection hs1
        subst ha1
        obtain ⟨X1, hX1⟩ : ∃ X : ByteArray, ⟨ps[k].1.toArray⟩ = X := ⟨_, rfl⟩
        obtain ⟨X2, hX2⟩ : ∃ X : ByteArray, ⟨ps[k].2.toArray⟩ = X := ⟨_, rfl⟩
        rw [hX1] at c1
        rw [hX2] at c2
        have l1 : ps[k].1.length = X1.size := by rw [← hX1]; rfl
        have l2 : ps[k].2.length = X2.size := by rw [← hX2]; rfl
        have hg2 : gs (ps.take (k + 1)) = g + (min X1.size 5000 + min X2.size 5000) := by
          rw [List.take_succ_eq_append_getElem hx, gs_snoc, HG.out]
          unfold gsz
          rw [l1, l2]
        have HG2 := Lib.hid hg2
        have g1 : (k : Int) < n := by omega
        have g3 : (k : Int) < 50 := by omega
        have g2 : (0 : Int) ≤ (k : Int) := by omega
        clear hX1 hX2 hs1 hx l1 l2 hg2
        go_wp2_with fail
        go_quiet (fail)
        go_wp2_with fail
        go_roundw
        case rel =>
          exact ⟨k + 1, g + (min X1.size 5000 + min X2.size 5000), _, by omega, by omega, by omega, by go_num, by go_num, HG2.out, rfl⟩
        case measure => simp [intOf]; omega
      · have e50 : k = 50 := by omega
        subst e50
        have g1 : (50 : Int) < n := by omega
        have g4 : (40 : Int) < n := by omega
        have hDt : D = true := by
          rw [← HD.out]
          unfold grt
          rw [decide_eq_true (by have := HN.out; omega : 40 < ps.length)]
          rfl
        subst hDt
        clear h50
        go_wp2_with fail
        go_ret
        exact ⟨rfl, below_drewN _ _⟩
    · obtain rfl : k = n := by omega
      have hDv : D = (decide (40 < k) || decide (3000 < g)) := by
        rw [← HD.out]
        unfold grt
        rw [HN.out, List.take_of_length_le (by have := HN.out; omega)]
        have h := HG.out
        rw [List.take_of_length_le (by have := HN.out; omega)] at h
        rw [h]
      by_cases h40 : 40 < k
      · have g4 : (40 : Int) < k := by omega
        have hDt : D = true := by rw [hDv, decide_eq_true h40]; rfl
        subst hDt
        clear hDv hlt
        go_wp2_with fail
        go_ret
        exact ⟨rfl, below_drewN _ _⟩
      · have g4 : ¬ (40 : Int) < k := by omega
        rw [decide_eq_false h40, Bool.false_or] at hDv
        by_cases hg3 : 3000 < g
        · have g5 : (3000 : Int) < g := by omega
          rw [decide_eq_true hg3] at hDv
          subst hDv
          clear hlt h40
          go_wp2_with fail
          go_ret
          exact ⟨rfl, below_drewN _ _⟩
        · have g5 : ¬ (3000 : Int) < g := by omega
          rw [decide_eq_false hg3] at hDv
          subst hDv
          clear hlt h40
          go_wp2_with fail
          go_ret
          exact ⟨rfl, below_drewN _ _⟩
end Go.Proofs.YtnfgpcccmbblcaaDoor
