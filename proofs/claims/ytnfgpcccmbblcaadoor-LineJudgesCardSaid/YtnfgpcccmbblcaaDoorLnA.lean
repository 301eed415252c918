/- line's small functions: digit, three, may. -/
import Derived.Test.YtnfgpcccmbblcaaDoorLnP
import Derived.Test.YtnfgpcccmbblcaaDoorAsUa
namespace Go.Proofs.YtnfgpcccmbblcaaDoor
open Go.RowKit

theorem ln_digit (c : UInt8) (w : World) : Calls Tryd.prog 62 #[.int .u8 c.toNat] w fun e w' => e = .returned (.int .i64 (dgt c)) ∧ w' = w := by
  have h1 := c.toNat_lt
  by_cases ha : c.toNat < 48
  · have g1 : (c.toNat : Int) < 48 := by omega
    have hd : dgt c = -1 := by unfold dgt; rw [if_neg (by omega)]
    rw [hd]
    clear hd
    go_enter Tryd.func62, Tryd.ntmps62
    go_wp2_with fail
    go_ret
    exact ⟨rfl, rfl⟩
  · have g1 : ¬ (c.toNat : Int) < 48 := by omega
    by_cases hb : 57 < c.toNat
    · have g2 : (57 : Int) < c.toNat := by omega
      have hd : dgt c = -1 := by unfold dgt; rw [if_neg (by omega)]
      rw [hd]
      clear hd
      go_enter Tryd.func62, Tryd.ntmps62
      go_wp2_with fail
      go_ret
      exact ⟨rfl, rfl⟩
    · have g2 : ¬ (57 : Int) < c.toNat := by omega
      have hd : dgt c = (c.toNat : Int) - 48 := by unfold dgt; rw [if_pos (by omega)]
      rw [hd]
      clear hd
      have g3 : (0 : Int) ≤ (c.toNat : Int) - 48 := by omega
      have g4 : (c.toNat : Int) - 48 ≤ 9 := by omega
      go_enter Tryd.func62, Tryd.ntmps62
      go_wp2_with fail
      go_ret
      exact ⟨rfl, rfl⟩
theorem ln_mayP (c : UInt8) (w : World) : Calls Tryd.prog 96 #[.int .u8 c.toNat] w fun e w' => e = .returned (.bool (!tgC c)) ∧ w' = w := by
  have h1 := c.toNat_lt
  by_cases ha : c.toNat ≤ 32
  · have g1 : (c.toNat : Int) ≤ 32 := by omega
    have hd : tgC c = false := by unfold tgC; rw [decide_eq_false (by omega)]; rfl
    rw [hd]
    clear hd
    go_enter Tryd.func96, Tryd.ntmps96
    go_wp2_with fail
    go_ret
    exact ⟨ret_b (by first | rfl | simp), rfl⟩
  · have g1 : ¬ (c.toNat : Int) ≤ 32 := by omega
    by_cases hb : 126 < c.toNat
    · have g2 : (126 : Int) < c.toNat := by omega
      have hd : tgC c = false := by unfold tgC; rw [decide_eq_false (by omega : ¬ c.toNat ≤ 126)]; simp
      rw [hd]
      clear hd
      go_enter Tryd.func96, Tryd.ntmps96
      go_wp2_with fail
      go_ret
      exact ⟨ret_b (by first | rfl | simp), rfl⟩
    · have g2 : ¬ (126 : Int) < c.toNat := by omega
      have hd : tgC c = true := by unfold tgC; rw [decide_eq_true (by omega), decide_eq_true (by omega)]; rfl
      rw [hd]
      clear hd
      go_enter Tryd.func96, Tryd.ntmps96
      go_wp2_with fail
      go_ret
      exact ⟨ret_b (by first | rfl | simp), rfl⟩
set_option maxHeartbeats 4000000 in
theorem idx_tg (B n cap : Nat) (l : List UInt8) (hn : l.length = n) (hn2 : n ≤ 1000000) (w : World) (hc : ∀ j (h : j < l.length), w.cell? ⟨B, j, none⟩ = some (.int .u8 l[j].toNat)) :
    Calls Tryd.prog 101 #[.slice (some ⟨B, 0, none⟩) n cap, .func (.func 96) #[] #[]] w fun e w' => ∃ m : Int, e = .returned (.int .i64 m) ∧ decide (0 ≤ m) = l.any (fun c => !tgC c) ∧ w' = w := by
  have HC := Lib.hid hc
  have HN := Lib.hid hn
  clear hc hn
  go_enter Tryd.func101, Tryd.ntmps101
  go_wp2_with fail
  go_loop [8] (fun i => ∃ k : Nat, k ≤ n ∧ i = .int .i64 k ∧ (l.take k).any (fun c => !tgC c) = false) (fun i => n - (intOf i).toNat)
  case atStart => exact ⟨0, Nat.zero_le _, rfl, rfl⟩
  case round =>
    obtain ⟨k, hk, rfl, hno⟩ := hrel
    have HNO := Lib.hid hno
    clear hno
    by_cases hlt : k < n
    · have hx : k < l.length := by have := HN.out; omega
      have hcell := HC.out k hx
      have P := fun w => ln_mayP l[k] w
      obtain ⟨c, hcc⟩ : ∃ c, l[k] = c := ⟨_, rfl⟩
      rw [hcc] at hcell
      simp only [hcc] at P
      have hsn : (l.take (k + 1)).any (fun c => !tgC c) = !tgC c := by
        rw [List.take_succ_eq_append_getElem hx, List.any_append, HNO.out, hcc]
        simp
      cases hp : tgC c with
      | true =>
        rw [hp] at hsn
        simp only [hp] at P
        have PH := Lib.hid P
        have HS := Lib.hid hsn
        clear P hsn hp hcc
        go_wp2_with fail
        refine (PH.out _).mono ?_
        rintro e w1 ⟨rfl, rfl⟩
        go_wp2_with fail
        go_round
        case rel => exact ⟨k + 1, by omega, by go_num, HS.out⟩
        case measure => simp [intOf]; omega
      | false =>
        simp only [hp] at P
        have PH := Lib.hid P
        have hany : l.any (fun c => !tgC c) = true := by
          rw [List.any_eq_true]
          exact ⟨c, by rw [← hcc]; exact List.getElem_mem hx, by simp [hp]⟩
        have HA := Lib.hid hany
        clear P hsn hp hcc hany
        go_wp2_with fail
        refine (PH.out _).mono ?_
        rintro e w1 ⟨rfl, rfl⟩
        go_wp2_with fail
        go_ret
        exact ⟨(k : Int), rfl, by rw [HA.out]; simp, rfl⟩
    · have hno := HNO.out
      rw [List.take_of_length_le (by have := HN.out; omega)] at hno
      have HNO2 := Lib.hid hno
      clear hno
      go_wp2_with fail
      go_ret
      exact ⟨-1, rfl, by rw [HNO2.out]; rfl, rfl⟩
theorem has_tg (B n cap : Nat) (l : List UInt8) (hn : l.length = n) (hn2 : n ≤ 1000000) (w : World) (hc : ∀ j (h : j < l.length), w.cell? ⟨B, j, none⟩ = some (.int .u8 l[j].toNat)) :
    Calls Tryd.prog 70 #[.slice (some ⟨B, 0, none⟩) n cap, .func (.func 96) #[] #[]] w fun e w' => e = .returned (.bool (l.any (fun c => !tgC c))) ∧ w' = w := by
  have C := Lib.hid (idx_tg B n cap l hn hn2 w hc)
  obtain ⟨p, hp⟩ : ∃ p, l.any (fun c => !tgC c) = p := ⟨_, rfl⟩
  rw [hp] at C ⊢
  clear hc hn hp
  go_enter Tryd.func70, Tryd.ntmps70
  go_wp2_with fail
  refine (C.out).mono ?_
  rintro e w1 ⟨m, rfl, hm, rfl⟩
  cases p with
  | true =>
    have g : (0 : Int) ≤ m := of_decide_eq_true hm
    clear hm
    go_wp2_with fail
    go_ret
    exact ⟨ret_b (by first | rfl | simp [g]), rfl⟩
  | false =>
    have g : ¬ (0 : Int) ≤ m := of_decide_eq_false hm
    clear hm
    go_wp2_with fail
    go_ret
    exact ⟨ret_b (by first | rfl | simp [g]), rfl⟩
theorem vals_cell {v : Value} {vs : List Value} {w : World} (h : IsVals v vs w) {k : Nat} (hk : k < vs.length) : ∃ b off cap, v = .slice (some ⟨b, off, none⟩) vs.length cap ∧ b < w.heap.size ∧ ∀ j (hj : j < vs.length), w.cell? ⟨b, off + j, none⟩ = some vs[j] := by
  obtain ⟨a, cap, rfl, _, hc⟩ := h
  rcases hc with rfl | ⟨b, off, rfl, h1, h2⟩
  · simp at hk
  · exact ⟨b, off, cap, rfl, h1, h2⟩
/-- three: where they are not three. -/
theorem ln_three_no (v : Value) (xs : List (List UInt8)) (w : World) (hv : IsVals v (strV xs) w) (h : xs.length ≠ 3) : Calls Tryd.prog 59 #[v] w (Ret w (.tuple #[.string ⟨#[]⟩, .string ⟨#[]⟩, .string ⟨#[]⟩, .bool false])) := by
  obtain ⟨a, cap, rfl, _, _⟩ := hv
  rw [strV_len]
  obtain ⟨n, hn⟩ : ∃ n, xs.length = n := ⟨_, rfl⟩
  rw [hn] at h ⊢
  have g1 : ((n : Int) != 3) = true := by simp; omega
  have g2 : ¬ (n : Int) = 3 := by omega
  clear hn h
  go_enter Tryd.func59, Tryd.ntmps59
  go_wp2_with fail
  refine bodyPost_ret (results_tmp4 rfl _ _ _) rfl ?_
  exact ⟨rfl, Below.refl _ _⟩
theorem ln_three (v : Value) (m t u : ByteArray) (w : World) (hv : IsVals v [.string m, .string t, .string u] w) : Calls Tryd.prog 59 #[v] w (Ret w (.tuple #[.string m, .string t, .string u, .bool true])) := by
  obtain ⟨b, off, cap, rfl, _, hc⟩ := vals_cell hv (k := 0) (by simp)
  have c0 := hc 0 (by simp)
  have c1 := hc 1 (by simp)
  have c2 := hc 2 (by simp)
  simp only [List.getElem_cons_zero, List.getElem_cons_succ, Nat.add_zero, List.length_cons, List.length_nil] at c0 c1 c2 ⊢
  clear hc hv
  go_enter Tryd.func59, Tryd.ntmps59
  go_wp2_with fail
  go_quiet (fail)
  go_wp2_with fail
  refine bodyPost_ret (results_tmp4 rfl _ _ _) rfl ?_
  exact ⟨rfl, below_drewN _ _⟩
end Go.Proofs.YtnfgpcccmbblcaaDoor
