/- slices.Equal and slices.Contains at lists of strings. -/
import Derived.Test.YtjgeiieiinmdnaaGreatDoorGc
import Derived.Test.YtjgeiieiinmdnaaGreatDoorShelf
namespace Go.Proofs.YtjgeiieiinmdnaaGreatDoor
open Go.RowKit

theorem vals_cell' {v : Value} {vs : List Value} {w : World} (h : IsVals v vs w) {k : Nat} (hk : k < vs.length) : ∃ b off cap, v = .slice (some ⟨b, off, none⟩) vs.length cap ∧ b < w.heap.size ∧ ∀ j (hj : j < vs.length), w.cell? ⟨b, off + j, none⟩ = some vs[j] := by
 obtain ⟨a, cap, rfl, _, hc⟩ := h
 rcases hc with rfl | ⟨b, off, rfl, h1, h2⟩
 ·simp at hk
 ·exact ⟨b, off, cap, rfl, h1, h2⟩
def bts (xs : List (List UInt8)) : List ByteArray := xs.map fun l => ⟨l.toArray⟩
theorem bts_len (xs : List (List UInt8)) : (bts xs).length = xs.length := by simp [bts]
theorem bts_inj {xs ys : List (List UInt8)} : bts xs = bts ys ↔ xs = ys := by
 constructor
 ·intro h
  have h2 := congrArg (List.map fun b : ByteArray => b.data.toList) h
  simpa [bts, Function.comp_def] using h2
 ·rintro rfl
  rfl
theorem vals_bts {v : Value} {xs : List (List UInt8)} {w : World} (h : IsVals v (strV xs) w) (h0 : 0 < xs.length) : ∃ b off cap, v = .slice (some ⟨b, off, none⟩) xs.length cap ∧ ∀ j, j < (bts xs).length → w.cell? ⟨b, off + j, none⟩ = some (.string ((bts xs).getD j ByteArray.empty)) := by
 obtain ⟨b, off, cap, rfl, _, hc⟩ := vals_cell' h (k := 0) (by rw [strV_len]; exact h0)
 refine ⟨b, off, cap, by rw [strV_len], fun j hj => ?_⟩
 have hj' : j < xs.length := by simpa [bts] using hj
 rw [hc j (by rw [strV_len]; exact hj')]
 simp [strV, bts, hj']
theorem vals_equal (v u : Value) (xs ys : List (List UInt8)) (w : World) (hv : IsVals v (strV xs) w) (hu : IsVals u (strV ys) w) (hx : xs.length ≤ 1000001) (hy : ys.length ≤ 1000001) :
  Calls Tryz.prog 86 #[v, u] w (Ret w (.bool (decide (xs = ys)))) := by
 by_cases hl : xs.length = ys.length
 ·by_cases h0 : ys.length = 0
  ·have e1 : xs = [] := List.length_eq_zero_iff.1 (by omega)
   have e2 : ys = [] := List.length_eq_zero_iff.1 h0
   subst e1 e2
   obtain ⟨a, ca, rfl, _, _⟩ := hv
   obtain ⟨b, cb, rfl, _, _⟩ := hu
   refine (Tryz.slices_Equal_string_empty a b ca 0 cb w (by decide)).mono ?_
   rintro e w' ⟨rfl, rfl⟩
   exact ⟨rfl, Below.refl _ _⟩
  ·obtain ⟨b, off, cap, rfl, hc⟩ := vals_bts hv (by omega)
   obtain ⟨b', off', cap', rfl, hc'⟩ := vals_bts hu (by omega)
   refine (Tryz.slices_Equal_string b off xs.length cap b' off' ys.length cap' (bts xs) (bts ys) w (by rw [bts_len]; omega) (by rw [bts_len]; omega) (by omega) (by omega) hc hc').mono ?_
   rintro e w' ⟨rfl, q, rfl⟩
   refine ⟨ret_b ?_, below_drewN w q⟩
   rw [List.take_of_length_le (by rw [bts_len]; omega), List.take_of_length_le (by rw [bts_len]; omega)]
   exact decide_eq_decide.2 bts_inj
 ·obtain ⟨a, ca, rfl, _, _⟩ := hv
  obtain ⟨b, cb, rfl, _, _⟩ := hu
  rw [strV_len, strV_len]
  refine (Tryz.slices_Equal_string_lens a b xs.length ca ys.length cb w hl).mono ?_
  rintro e w' ⟨rfl, rfl⟩
  exact ⟨ret_b (decide_eq_false (fun h => hl (by rw [h]))).symm, Below.refl _ _⟩
theorem mem_bts {xs : List (List UInt8)} {x : List UInt8} : (⟨x.toArray⟩ : ByteArray) ∈ bts xs ↔ x ∈ xs := by
 constructor
 ·intro h
  obtain ⟨y, hy, e⟩ := List.mem_map.1 h
  have e2 := congrArg (fun b : ByteArray => b.data.toList) e
  simp only at e2
  have e3 : y = x := by simpa using e2
  exact e3 ▸ hy
 ·intro h
  exact List.mem_map.2 ⟨x, h, rfl⟩
theorem vals_contains (v : Value) (xs : List (List UInt8)) (x : List UInt8) (w : World) (hv : IsVals v (strV xs) w) (hx : xs.length ≤ 1000001) :
  Calls Tryz.prog 57 #[v, .string ⟨x.toArray⟩] w (Ret w (.bool (decide (x ∈ xs)))) := by
 by_cases h0 : xs.length = 0
 ·have e1 : xs = [] := List.length_eq_zero_iff.1 h0
  subst e1
  obtain ⟨a, ca, rfl, _, _⟩ := hv
  refine (Tryz.slices_Contains_string_empty a ca ⟨x.toArray⟩ w).mono ?_
  rintro e w' ⟨rfl, rfl⟩
  exact ⟨rfl, Below.refl _ _⟩
 ·obtain ⟨b, off, cap, rfl, hc⟩ := vals_bts hv (by omega)
  refine (Tryz.slices_Contains_string b off xs.length cap (bts xs) ⟨x.toArray⟩ w (by rw [bts_len]; omega) (by omega) hc).mono ?_
  rintro e w' ⟨rfl, rfl⟩
  refine ⟨ret_b ?_, Below.refl _ _⟩
  rw [List.take_of_length_le (by rw [bts_len]; omega)]
  rw [Bool.eq_iff_iff, Lib.containsS_iff, mem_bts, decide_eq_true_eq]
end Go.Proofs.YtjgeiieiinmdnaaGreatDoor
