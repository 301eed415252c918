/- HeadNames: what its literals come to (plain). -/
import Derived.Test.YtnfgpcccmbblcaaDoorHdR
namespace Go.Proofs.YtnfgpcccmbblcaaDoor

theorem nmO0 : hdE [32, 97, 58, 32, 98, 13, 10] = 140 := by decide +kernel
theorem nmO1 : hdE [97, 32, 98, 58, 32, 99, 13, 10] = 140 := by decide +kernel
theorem nmO2 : hdE [97, 58, 32, 98] = 140 := by decide +kernel
theorem nmO3 : hdE [13, 10] = 140 := by decide +kernel
theorem nmO4 : hdE [97, 58, 32, 98, 10] = 140 := by decide +kernel
theorem nmO5 : hdE [97, 13, 10] = 140 := by decide +kernel
theorem nmO6 : hdE [97, 58, 32, 98, 13, 99, 13, 10] = 140 := by decide +kernel
theorem nmO7 : hdE [58, 32, 120, 13, 10] = 140 := by decide +kernel
theorem nmL0 : frm [([116, 114, 97, 110, 115, 102, 101, 114, 45, 101, 110, 99, 111, 100, 105, 110, 103], [99, 104, 117, 110, 107, 101, 100]), ([99, 111, 110, 116, 101, 110, 116, 45, 108, 101, 110, 103, 116, 104], [49])] = (0, 0, 140) := by decide +kernel
theorem nmL1 : frm [([99, 111, 110, 116, 101, 110, 116, 45, 108, 101, 110, 103, 116, 104], [49]), ([99, 111, 110, 116, 101, 110, 116, 45, 108, 101, 110, 103, 116, 104], [49])] = (0, 0, 140) := by decide +kernel
theorem nmL2 : frm [([99, 111, 110, 116, 101, 110, 116, 45, 108, 101, 110, 103, 116, 104], [45, 49])] = (0, 0, 140) := by decide +kernel
theorem nmL3 : frm [([116, 114, 97, 110, 115, 102, 101, 114, 45, 101, 110, 99, 111, 100, 105, 110, 103], [103, 122, 105, 112, 44, 32, 99, 104, 117, 110, 107, 101, 100])] = (0, 0, 140) := by decide +kernel
theorem nmF0 : frm [([84, 114, 97, 110, 115, 102, 101, 114, 45, 69, 110, 99, 111, 100, 105, 110, 103], [32, 67, 104, 117, 110, 107, 101, 100, 44])] = (2, 0, 0) := by decide +kernel
theorem nmF1 : frm [] = (0, 0, 0) := by decide +kernel
def rep : Nat → List UInt8
  | 0 => []
  | k + 1 => rep k ++ [97, 58, 98, 13, 10]
theorem rep_len (k : Nat) : (rep k).length = 5 * k := by
  induction k with
  | zero => rfl
  | succ k ih =>
    show (rep k ++ [97, 58, 98, 13, 10]).length = 5 * (k + 1)
    rw [List.length_append, ih]
    rfl
theorem nmP0 : hdE (rep 33) = 4 := by decide +kernel
theorem nmP1 : hdE ((rep 33).drop 5) = 0 ∧ (hdV ((rep 33).drop 5)).length = 32 := by decide +kernel
theorem nmK0 : kep [([67, 111, 110, 110, 101, 99, 116, 105, 111, 110], [120, 44, 32, 67, 76, 79, 83, 69])] = (false, 0) := by decide +kernel
theorem nmK1 : kep [([99, 111, 110, 110, 101, 99, 116, 105, 111, 110], [107, 101, 101, 112, 45, 97, 108, 105, 118, 101])] = (true, 0) := by decide +kernel
theorem nmK2 : kep [([99, 111, 110, 110, 101, 99, 116, 105, 111, 110], [97, 32, 98])] = (false, 140) := by decide +kernel
theorem nmH0 : hst [([104, 111, 115, 116], [65, 46, 101, 120, 97, 109, 112, 108, 101, 58, 53, 50, 56, 48])] = ([97, 46, 101, 120, 97, 109, 112, 108, 101], 0) := by decide +kernel
theorem nmH1 : hst [([104, 111, 115, 116], [97, 58, 98])] = ([], 140) := by decide +kernel
theorem nmH2 : hst [] = ([], 140) := by decide +kernel
theorem nmA0 : hdE [] = 0 ∧ hdV [] = [] := by decide +kernel
theorem nmA1 : hdE [97, 58, 9, 32, 98, 32, 99, 32, 13, 10] = 0 ∧ hdV [97, 58, 9, 32, 98, 32, 99, 32, 13, 10] = [([97], [98, 32, 99])] := by decide +kernel
end Go.Proofs.YtnfgpcccmbblcaaDoor
