/- chunked, long; slices.Equal and slices.Contains at lists of strings. -/
import Derived.Test.YtnfgpcccmbblcaaDoorHdG
import Derived.Test.YtnfgpcccmbblcaaDoorNumA
import Derived.Test.YtnfgpcccmbblcaaDoorAsN
import Derived.Test.YtnfgpcccmbblcaaDoorShelf
namespace Go.Proofs.YtnfgpcccmbblcaaDoor
open Go.RowKit

def bts (xs : List (List UInt8)) : List ByteArray := xs.map fun l => ⟨l.toArray⟩
theorem bts_len (xs : List (List UInt8)) : (bts xs).length = xs.length := by simp [bts]
theorem bts_inj {xs ys : List (List UInt8)} : bts xs = bts ys ↔ xs = ys := by
  constructor
  · intro h
    have h2 := congrArg (List.map fun b : ByteArray => b.data.toList) h
    simpa [bts, Function.comp_def] using h2
  · rintro rfl
    rfl
theorem vals_bts {v : Value} {xs : List (List UInt8)} {w : World} (h : IsVals v (strV xs) w) (h0 : 0 < xs.length) : ∃ b off cap, v = .slice (some ⟨b, off, none⟩) xs.length cap ∧ ∀ j, j < (bts xs).length → w.cell? ⟨b, off + j, none⟩ = some (.string ((bts xs).getD j ByteArray.empty)) := by
  obtain ⟨b, off, cap, rfl, _, hc⟩ := vals_cell' h (k := 0) (by rw [strV_len]; exact h0)
  refine ⟨b, off, cap, by rw [strV_len], fun j hj => ?_⟩
  have hj' : j < xs.length := by simpa [bts] using hj
  rw [hc j (by rw [strV_len]; exact hj')]
  simp [strV, bts, hj']
theorem one_vals (w : World) (x : List UInt8) : IsVals (.slice (some ⟨w.heap.size, 0, none⟩) 1 1) (strV [x]) (w.alloc (.cells #[.string ⟨x.toArray⟩] 9)) := by
  refine ⟨some ⟨w.heap.size, 0, none⟩, 1, rfl, (fun h => by cases h), .inr ⟨w.heap.size, 0, rfl, by simp, fun j hj => ?_⟩⟩
  simp [strV] at hj
  subst hj
  rw [Nat.zero_add, World.cell?_alloc_new]
  rfl
theorem vals_equal (v u : Value) (xs ys : List (List UInt8)) (w : World) (hv : IsVals v (strV xs) w) (hu : IsVals u (strV ys) w) (hx : xs.length ≤ 1000001) (hy : ys.length ≤ 1000001) :
    Calls Tryd.prog 102 #[v, u] w (Ret w (.bool (decide (xs = ys)))) := by
  by_cases hl : xs.length = ys.length
  · by_cases h0 : ys.length = 0
    · have e1 : xs = [] := List.length_eq_zero_iff.1 (by omega)
      have e2 : ys = [] := List.length_eq_zero_iff.1 h0
      subst e1 e2
      obtain ⟨a, ca, rfl, _, _⟩ := hv
      obtain ⟨b, cb, rfl, _, _⟩ := hu
      refine (Tryd.slices_Equal_string_empty a b ca 0 cb w (by decide)).mono ?_
      rintro e w' ⟨rfl, rfl⟩
      exact ⟨rfl, Below.refl _ _⟩
    · obtain ⟨b, off, cap, rfl, hc⟩ := vals_bts hv (by omega)
      obtain ⟨b', off', cap', rfl, hc'⟩ := vals_bts hu (by omega)
      refine (Tryd.slices_Equal_string b off xs.length cap b' off' ys.length cap' (bts xs) (bts ys) w (by rw [bts_len]; omega) (by rw [bts_len]; omega) (by omega) (by omega) hc hc').mono ?_
      rintro e w' ⟨rfl, q, rfl⟩
      refine ⟨ret_b ?_, below_drewN w q⟩
      rw [List.take_of_length_le (by rw [bts_len]; omega), List.take_of_length_le (by rw [bts_len]; omega)]
      exact decide_eq_decide.2 bts_inj
  · obtain ⟨a, ca, rfl, _, _⟩ := hv
    obtain ⟨b, cb, rfl, _, _⟩ := hu
    rw [strV_len, strV_len]
    refine (Tryd.slices_Equal_string_lens a b xs.length ca ys.length cb w hl).mono ?_
    rintro e w' ⟨rfl, rfl⟩
    exact ⟨ret_b (decide_eq_false (fun h => hl (by rw [h]))).symm, Below.refl _ _⟩
def lngV (l : List UInt8) : Value := .tuple #[.int .u8 1, .int .i64 (rdN l), .bool (decide (rdE l = 0))]
theorem hd_long (s : ByteArray) (w : World) (hs : s.size ≤ 1000000) : Calls Tryd.prog 73 #[.string s] w (Ret w (lngV s.data.toList)) := by
  have R0 := num_Read s w (by omega)
  unfold lngV
  obtain ⟨N, hN⟩ : ∃ N, rdN s.data.toList = N := ⟨_, rfl⟩
  obtain ⟨E, hE⟩ : ∃ E, rdE s.data.toList = E := ⟨_, rfl⟩
  rw [hN, hE] at R0 ⊢
  clear hN hE
  have R := Lib.hid R0
  clear R0
  go_enter Tryd.func73, Tryd.ntmps73
  go_wp2_with fail
  refine (R.out).mono ?_
  rintro e w1 ⟨rfl, hb1⟩
  go_wp2_with fail
  go_ret3
  exact ⟨by first | rfl | simp [beq_eq_decide], hb1⟩
theorem lstV_le (l : List UInt8) : (lstV l).length ≤ l.length + 1 := by
  unfold lstV
  split
  · have h1 := lstG_len (cutG 44 [] l)
    have h2 := cutG_len 44 l []
    exact Nat.le_trans h1 h2
  · simp
def chk : List UInt8 := [99, 104, 117, 110, 107, 101, 100]
def chkV (l : List UInt8) : Value := .tuple #[.int .u8 2, .int .i64 0, .bool (decide (lstE l = 0 ∧ lstV l = [chk]))]
theorem hd_chunked (s : ByteArray) (w : World) (hs : s.size ≤ 1000000) : Calls Tryd.prog 72 #[.string s] w (Ret w (chkV s.data.toList)) := by
  have L0 := as_List s w hs
  unfold LstIs at L0
  unfold chkV
  obtain ⟨V, hV⟩ : ∃ V, lstV s.data.toList = V := ⟨_, rfl⟩
  obtain ⟨E, hE⟩ : ∃ E, lstE s.data.toList = E := ⟨_, rfl⟩
  have hVl : V.length ≤ 1000001 := by
    rw [← hV]
    have := lstV_le s.data.toList
    rw [size_toList] at this
    omega
  rw [hV, hE] at L0 ⊢
  clear hV hE
  have L := Lib.hid L0
  have HVL := Lib.hid hVl
  clear L0 hVl
  by_cases h : E = 0
  · subst h
    obtain ⟨B, hB⟩ : ∃ B, decide ((0 : Int) = 0 ∧ V = [chk]) = B := ⟨_, rfl⟩
    have HB := Lib.hid hB
    rw [hB]
    clear hB
    go_enter Tryd.func72, Tryd.ntmps72
    go_wp2_with fail
    refine (L.out).mono ?_
    rintro e w1 ⟨v, rfl, hv, hb1⟩
    have HV := Lib.hid hv
    clear hv
    go_wp2_with fail
    refine (vals_equal _ _ V [chk] _ (HV.out.ret ((Below.refl _ w1).alloc (Nat.le_refl _) _)) (one_vals w1 chk) HVL.out (by decide)).mono ?_
    rintro e w2 ⟨rfl, hb2⟩
    have q2 := (hb1.alloc hb1.size (.cells #[.string ⟨chk.toArray⟩] 9)).trans (hb2.mono (by have := hb1.size; simp; omega))
    go_wp2_with fail
    go_ret3
    refine ⟨?_, q2⟩
    rw [← HB.out]
    simp
  · have g : (E == 0) = false := by rw [beq_eq_false_iff_ne]; exact h
    rw [show decide (E = 0 ∧ V = [chk]) = false from decide_eq_false (fun k => h k.1)]
    clear h
    go_enter Tryd.func72, Tryd.ntmps72
    go_wp2_with fail
    refine (L.out).mono ?_
    rintro e w1 ⟨v, rfl, hv, hb1⟩
    clear hv
    go_wp2_with fail
    go_ret3
    exact ⟨rfl, hb1⟩
end Go.Proofs.YtnfgpcccmbblcaaDoor
