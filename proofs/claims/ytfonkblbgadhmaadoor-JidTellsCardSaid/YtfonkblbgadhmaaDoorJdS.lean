/- The document's texts (tidewaiterref05): six, Bytes. -/
import Derived.Test.YtfonkblbgadhmaaDoorJdR
namespace Go.Proofs.YtfonkblbgadhmaaDoor
open Go.RowKit Go.Lib

theorem ret_i {k : IntKind} {a b : Int} (h : a = b) : Ending.returned (.int k a) = .returned (.int k b) := by rw [h]
set_option maxHeartbeats 4000000 in
theorem r5_six (n up : Nat) (hu : up ≤ 2) (hn : n ≤ 1114111) (w : World) : Calls Tryd.prog 90 #[.int .i64 n, .int .i64 up] w fun e w' => e = .returned (.int .u8 (128 + n / 64 ^ up % 64 : Nat)) ∧ w' = w := by
  obtain ⟨V, hV⟩ : ∃ V : Int, ((128 + n / 64 ^ up % 64 : Nat) : Int) = V := ⟨_, rfl⟩
  rw [hV]
  have HV := Lib.hid hV
  clear hV
  go_enter Tryd.func90, Tryd.ntmps90
  go_wp2_with fail
  go_loop [0, 5] (fun a i => ∃ k : Nat, k ≤ up ∧ i = .int .i64 k ∧ a = .int .i64 (n / 64 ^ k : Nat)) (fun _ i => up - (intOf i).toNat)
  case atStart => exact ⟨0, Nat.zero_le _, rfl, by simp⟩
  case round =>
    obtain ⟨k, hk, rfl, rfl⟩ := hrel
    have hM : n / 64 ^ k ≤ n := Nat.div_le_self _ _
    have hS : n / 64 ^ (k + 1) = n / 64 ^ k / 64 := by rw [Nat.pow_succ, Nat.div_div_eq_div_mul]
    by_cases hlt : k < up
    · obtain ⟨M, hMe⟩ : ∃ M, n / 64 ^ k = M := ⟨_, rfl⟩
      rw [hMe] at hM hS ⊢
      have g0 : (0 : Int) ≤ M := by omega
      have g1 : (M : Int) ≤ 1114111 := by omega
      have HS := Lib.hid hS
      clear hS hMe
      go_wp2_with fail
      go_round
      case rel => exact ⟨k + 1, by omega, by go_num, by rw [HS.out]; go_num⟩
      case measure => simp [intOf]; omega
    · obtain rfl : k = up := by omega
      obtain ⟨M, hMe⟩ : ∃ M, n / 64 ^ k = M := ⟨_, rfl⟩
      rw [hMe] at hM ⊢
      have g0 : (0 : Int) ≤ M := by omega
      have g1 : (M : Int) ≤ 1114111 := by omega
      have HM := Lib.hid hMe
      clear hS hMe
      go_wp2_with fail
      go_ret
      exact ⟨ret_i (by rw [← HV.out, HM.out]; omega), rfl⟩
theorem r5_six0 (n : Nat) (hn : n ≤ 1114111) (w : World) : Calls Tryd.prog 90 #[.int .i64 n, .int .i64 0] w fun e w' => e = .returned (.int .u8 (128 + n % 64 : Nat)) ∧ w' = w := by
  have := r5_six n 0 (by omega) hn w
  rwa [Nat.pow_zero, Nat.div_one] at this
theorem r5_six1 (n : Nat) (hn : n ≤ 1114111) (w : World) : Calls Tryd.prog 90 #[.int .i64 n, .int .i64 1] w fun e w' => e = .returned (.int .u8 (128 + n / 64 % 64 : Nat)) ∧ w' = w := by
  have := r5_six n 1 (by omega) hn w
  rwa [Nat.pow_one] at this
theorem r5_six2 (n : Nat) (hn : n ≤ 1114111) (w : World) : Calls Tryd.prog 90 #[.int .i64 n, .int .i64 2] w fun e w' => e = .returned (.int .u8 (128 + n / 4096 % 64 : Nat)) ∧ w' = w := r5_six n 2 (by omega) hn w
/-- a slice of so many bytes, new. -/
def BysIs (w : World) (l : List Nat) (e : Ending) (w' : World) : Prop := ∃ g, e = .returned (.slice (some ⟨g, 0, none⟩) l.length l.length) ∧ Below w.heap.size w w' ∧ ∀ j (h : j < l.length), w'.cell? ⟨g, j, none⟩ = some (.int .u8 (l[j] : Nat))
set_option maxHeartbeats 4000000 in
theorem r5_Bytes (n : Nat) (hn : n ≤ 1114111) (w : World) : Calls Tryd.prog 89 #[.int .i64 n] w (BysIs w (byN n)) := by
  obtain ⟨l, hl⟩ : ∃ l, byN n = l := ⟨_, rfl⟩
  rw [hl]
  unfold byN at hl
  have C0 := Lib.hid (r5_six0 n hn)
  have C1 := Lib.hid (r5_six1 n hn)
  have C2 := Lib.hid (r5_six2 n hn)
  have g0 : (0 : Int) ≤ n := by omega
  have g1 : (n : Int) ≤ 1114111 := by omega
  by_cases h1 : n < 128
  · rw [if_pos h1] at hl
    subst hl
    have z1 : (n : Int) < 128 := by omega
    go_enter Tryd.func89, Tryd.ntmps89
    go_wp2_with fail
    go_ret
    refine ⟨w.heap.size, rfl, (Below.refl _ _).alloc (Nat.le_refl _) _, fun j h => ?_⟩
    match j, h with
    | 0, _ => simp
  · rw [if_neg h1] at hl
    have z1 : ¬ (n : Int) < 128 := by omega
    by_cases h2 : n < 2048
    · rw [if_pos h2] at hl
      subst hl
      have z2 : (n : Int) < 2048 := by omega
      clear C1 C2
      go_enter Tryd.func89, Tryd.ntmps89
      go_wp2_with fail
      refine (C0.out _).mono ?_
      rintro e w1 ⟨rfl, rfl⟩
      go_wp2_with fail
      go_ret
      refine ⟨w1.heap.size, rfl, (Below.refl _ _).alloc (Nat.le_refl _) _, fun j h => ?_⟩
      match j, h with
      | 0, _ => simp
      | 1, _ => simp
    · rw [if_neg h2] at hl
      have z2 : ¬ (n : Int) < 2048 := by omega
      by_cases h3 : n < 65536
      · rw [if_pos h3] at hl
        subst hl
        have z3 : (n : Int) < 65536 := by omega
        clear C2
        go_enter Tryd.func89, Tryd.ntmps89
        go_wp2_with fail
        refine (C1.out _).mono ?_
        rintro e w1 ⟨rfl, rfl⟩
        go_wp2_with fail
        refine (C0.out _).mono ?_
        rintro e w2 ⟨rfl, rfl⟩
        go_wp2_with fail
        go_ret
        refine ⟨w2.heap.size, rfl, (Below.refl _ _).alloc (Nat.le_refl _) _, fun j h => ?_⟩
        match j, h with
        | 0, _ => simp
        | 1, _ => simp
        | 2, _ => simp
      · rw [if_neg h3] at hl
        subst hl
        have z3 : ¬ (n : Int) < 65536 := by omega
        go_enter Tryd.func89, Tryd.ntmps89
        go_wp2_with fail
        refine (C2.out _).mono ?_
        rintro e w1 ⟨rfl, rfl⟩
        go_wp2_with fail
        refine (C1.out _).mono ?_
        rintro e w2 ⟨rfl, rfl⟩
        go_wp2_with fail
        refine (C0.out _).mono ?_
        rintro e w3 ⟨rfl, rfl⟩
        go_wp2_with fail
        go_ret
        refine ⟨w3.heap.size, rfl, (Below.refl _ _).alloc (Nat.le_refl _) _, fun j h => ?_⟩
        match j, h with
        | 0, _ => simp
        | 1, _ => simp
        | 2, _ => simp
        | 3, _ => simp
end Go.Proofs.YtfonkblbgadhmaaDoor
