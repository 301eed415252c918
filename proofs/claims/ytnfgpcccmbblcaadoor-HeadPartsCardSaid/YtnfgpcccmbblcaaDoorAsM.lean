/- slices.IndexFunc and ContainsFunc at List's predicate: a part that is no token. -/
import Derived.Test.YtnfgpcccmbblcaaDoorAsL
namespace Go.Proofs.YtnfgpcccmbblcaaDoor
open Go.RowKit

theorem as_listT (s : ByteArray) (w : World) (hs : s.size ≤ 1000000) : Calls Tryd.prog 105 #[.string s] w (Ret w (.bool (!tok s.data.toList))) := by
  have T := Lib.hid (as_Token s w hs)
  obtain ⟨p, hp⟩ : ∃ p, tok s.data.toList = p := ⟨_, rfl⟩
  rw [hp] at T ⊢
  clear hp
  go_enter Tryd.func105, Tryd.ntmps105
  go_wp2_with fail
  refine T.out.mono ?_
  rintro e w1 ⟨rfl, hb⟩
  go_wp2_with fail
  go_ret
  exact ⟨rfl, hb⟩
set_option maxHeartbeats 4000000 in
theorem idx_lst (v : Value) (xs : List (List UInt8)) (n : Nat) (hn : xs.length = n) (hn2 : n ≤ 1000000) (hx1 : ∀ x ∈ xs, x.length ≤ 1000000) (w : World) (hV : IsVals v (strV xs) w) :
    Calls Tryd.prog 127 #[v, .func (.func 105) #[] #[]] w fun e w' => ∃ m : Int, e = .returned (.int .i64 m) ∧ decide (0 ≤ m) = (!xs.all tok) ∧ Below w.heap.size w w' := by
  obtain ⟨a, cap, rfl, _, hcells⟩ := hV
  rw [strV_len, hn]
  have HCE := Lib.hid hcells
  have HN := Lib.hid hn
  have HX := Lib.hid hx1
  clear hcells hn hx1
  go_enter Tryd.func127, Tryd.ntmps127
  go_wp2_with fail
  go_loopw [8] (fun i wr => ∃ k : Nat, k ≤ n ∧ i = .int .i64 k ∧ (xs.take k).all tok = true ∧ Below w.heap.size w wr) (fun i _ => n - (intOf i).toNat)
  case atStart => exact ⟨0, Nat.zero_le _, rfl, rfl, Below.refl _ _⟩
  case round =>
    obtain ⟨k, hk, rfl, hall, hBw⟩ := hrel
    have HA := Lib.hid hall
    clear hall
    by_cases hlt : k < n
    · have hx : k < xs.length := by have := HN.out; omega
      rcases HCE.out with h | ⟨b1, o1, rfl, h1⟩
      · have := congrArg List.length h
        rw [strV_len] at this
        simp only [List.length_nil] at this
        omega
      have c1 := (h1.ret hBw).2 k (by rw [strV_len]; exact hx)
      obtain ⟨x, hxx⟩ : ∃ x, xs[k] = x := ⟨_, rfl⟩
      obtain ⟨X, hX⟩ : ∃ X : ByteArray, ⟨x.toArray⟩ = X := ⟨_, rfl⟩
      rw [show (strV xs)[k]'(by rw [strV_len]; exact hx) = .string X by rw [← hX, ← hxx]; simp [strV]] at c1
      have hXl : X.data.toList = x := by rw [← hX]
      have hXs : X.size ≤ 1000000 := by
        rw [← size_toList, hXl, ← hxx]
        exact HX.out _ (List.getElem_mem hx)
      have T := fun w => as_listT X w hXs
      rw [hXl] at T
      cases ht : tok x with
      | true =>
        rw [ht] at T
        have hnn : (xs.take (k + 1)).all tok = true := by
          rw [List.take_succ_eq_append_getElem hx, List.all_append, HA.out, hxx]
          simp [ht]
        have TH := Lib.hid T
        have HNN := Lib.hid hnn
        clear T ht hnn hxx hX hXl h1 HA
        go_wp2_with fail
        refine (TH.out _).mono ?_
        rintro e w2 ⟨rfl, hb2⟩
        go_wp2_with fail
        go_roundw
        case rel => exact ⟨k + 1, by omega, by go_num, HNN.out, hBw.trans (hb2.mono hBw.size)⟩
        case measure => simp [intOf]; omega
      | false =>
        rw [ht] at T
        have hno : xs.all tok = false := by
          rw [List.all_eq_false]
          exact ⟨x, by rw [← hxx]; exact List.getElem_mem hx, by simp [ht]⟩
        have TH := Lib.hid T
        have HNO := Lib.hid hno
        clear T ht hno hxx hX hXl h1 HA
        go_wp2_with fail
        refine (TH.out _).mono ?_
        rintro e w2 ⟨rfl, hb2⟩
        go_wp2_with fail
        go_ret
        exact ⟨(k : Int), rfl, by rw [HNO.out]; simp, hBw.trans (hb2.mono hBw.size)⟩
    · have ha := HA.out
      rw [List.take_of_length_le (by have := HN.out; omega)] at ha
      have HA2 := Lib.hid ha
      clear ha
      go_wp2_with fail
      go_ret
      exact ⟨-1, rfl, by rw [HA2.out]; rfl, hBw⟩
theorem has_lst (v : Value) (xs : List (List UInt8)) (n : Nat) (hn : xs.length = n) (hn2 : n ≤ 1000000) (hx1 : ∀ x ∈ xs, x.length ≤ 1000000) (w : World) (hV : IsVals v (strV xs) w) :
    Calls Tryd.prog 104 #[v, .func (.func 105) #[] #[]] w (Ret w (.bool (!xs.all tok))) := by
  have C := Lib.hid (idx_lst v xs n hn hn2 hx1 w hV)
  obtain ⟨p, hp⟩ : ∃ p, (!xs.all tok) = p := ⟨_, rfl⟩
  rw [hp] at C ⊢
  obtain ⟨a, cap, rfl, _, _⟩ := hV
  rw [strV_len, hn] at C ⊢
  clear hn hp hx1
  go_enter Tryd.func104, Tryd.ntmps104
  go_wp2_with fail
  refine (C.out).mono ?_
  rintro e w1 ⟨m, rfl, hm, hb⟩
  cases p with
  | true =>
    have g : (0 : Int) ≤ m := of_decide_eq_true hm
    clear hm
    go_wp2_with fail
    go_ret
    exact ⟨ret_b (by first | rfl | simp [g]), hb⟩
  | false =>
    have g : ¬ (0 : Int) ≤ m := of_decide_eq_false hm
    clear hm
    go_wp2_with fail
    go_ret
    exact ⟨ret_b (by first | rfl | simp [g]), hb⟩
end Go.Proofs.YtnfgpcccmbblcaaDoor
