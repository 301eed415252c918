/- The document's Token and Plain. PRINTED BY PROGRAM (gen_as.py). -/
import Derived.Test.YtnfgpcccmbblcaaDoorAsA
namespace Go.Proofs.YtnfgpcccmbblcaaDoor
open Go.RowKit

theorem all_no (s : ByteArray) (k : Nat) (h : k < s.size) {p : UInt8 → Bool} (hp : p s[k] = false) : s.data.toList.all p = false := by
  rw [List.all_eq_false]
  exact ⟨s[k], by rw [List.mem_iff_getElem?]; exact ⟨k, getElem_data s k h⟩, by simp [hp]⟩
theorem tok_iv (c : UInt8) : (ltr c = true ∧ 97 ≤ c.toNat ∧ c.toNat ≤ 122) ∨ (ltr c = true ∧ 65 ≤ c.toNat ∧ c.toNat ≤ 90) ∨ (ltr c = true ∧ 48 ≤ c.toNat ∧ c.toNat ≤ 57) ∨ (ltr c = false ∧ 0 ≤ c.toNat ∧ c.toNat ≤ 47) ∨ (ltr c = false ∧ 58 ≤ c.toNat ∧ c.toNat ≤ 64) ∨ (ltr c = false ∧ 91 ≤ c.toNat ∧ c.toNat ≤ 96) ∨ (ltr c = false ∧ 123 ≤ c.toNat ∧ c.toNat ≤ 255) := by
  have := c.toNat_lt
  cases h : ltr c with
  | true =>
    unfold ltr at h
    simp only [Bool.or_eq_true, Bool.and_eq_true, decide_eq_true_eq] at h
    simp
    omega
  | false =>
    unfold ltr at h
    simp only [Bool.or_eq_false_iff, Bool.and_eq_false_iff, decide_eq_false_iff_not] at h
    simp
    omega
set_option maxHeartbeats 8000000 in
set_option maxRecDepth 100000 in
theorem r7_Token (s : ByteArray) (w : World) (hs : s.size ≤ 1000000) : Calls Tryd.prog 86 #[.string s] w fun e w' => e = .returned (.bool (tok s.data.toList)) ∧ w' = w := by
  have I0 := fun c w => r7_in ⟨#[33, 35, 36, 37, 38, 39, 42, 43, 45, 46, 94, 95, 96, 124, 126]⟩ c w (by decide)
  have IH := Lib.hid I0
  clear I0
  go_enter Tryd.func86, Tryd.ntmps86
  go_wp2_with fail
  go_loop [3] (fun i => ∃ k : Nat, k ≤ s.size ∧ i = .int .i64 k ∧ (s.data.toList.take k).all tokC = true) (fun i => s.size - (intOf i).toNat)
  case atStart => exact ⟨0, Nat.zero_le _, rfl, rfl⟩
  case round =>
    obtain ⟨k, hk, rfl, hall⟩ := hrel
    have HA := Lib.hid hall
    clear hall
    by_cases hlt : k < s.size
    · have I1 := fun w => IH.out s[k] w
      have hcc : ∀ q, ltr s[k] = q → tokC s[k] = (q || tokP.contains s[k]) := by intro q hq; unfold tokC; rw [hq]
      obtain ⟨p, hp⟩ : ∃ p, tokP.contains s[k] = p := ⟨_, rfl⟩
      rw [hp] at hcc
      have I2 : ∀ w, Calls Tryd.prog 112 #[.string ⟨#[33, 35, 36, 37, 38, 39, 42, 43, 45, 46, 94, 95, 96, 124, 126]⟩, .int .u8 s[k].toNat] w fun e w' => e = .returned (.bool p) ∧ w' = w := by
        intro w
        have := I1 w
        rw [show ([33, 35, 36, 37, 38, 39, 42, 43, 45, 46, 94, 95, 96, 124, 126] : List UInt8).contains s[k] = p from hp] at this
        exact this
      have IN := Lib.hid I2
      clear I1 I2 hp
      rcases tok_iv s[k] with ⟨hq, hiv⟩ | ⟨hq, hiv⟩ | ⟨hq, hiv⟩ | ⟨hq, hiv⟩ | ⟨hq, hiv⟩ | ⟨hq, hiv⟩ | ⟨hq, hiv⟩
      all_goals
        have hc := hcc _ hq
        simp only [Bool.true_or, Bool.false_or] at hc
        have HC := Lib.hid hc
        clear hcc hq hc
      · have g0 : (97 : Int) ≤ s[k].toNat := by omega
        have g1 : (s[k].toNat : Int) ≤ 122 := by omega
        have g2 : (65 : Int) ≤ s[k].toNat := by omega
        have g3 : ¬ (s[k].toNat : Int) ≤ 90 := by omega
        have g4 : (48 : Int) ≤ s[k].toNat := by omega
        have g5 : ¬ (s[k].toNat : Int) ≤ 57 := by omega
        clear hiv
        go_wp2_with fail
        go_round
        case rel => exact ⟨k + 1, by omega, by go_num, by rw [take_snoc s k hlt, List.all_append, HA.out, List.all_cons, HC.out]; rfl⟩
        case measure => simp [intOf]; omega
      · have g0 : ¬ (97 : Int) ≤ s[k].toNat := by omega
        have g1 : (s[k].toNat : Int) ≤ 122 := by omega
        have g2 : (65 : Int) ≤ s[k].toNat := by omega
        have g3 : (s[k].toNat : Int) ≤ 90 := by omega
        have g4 : (48 : Int) ≤ s[k].toNat := by omega
        have g5 : ¬ (s[k].toNat : Int) ≤ 57 := by omega
        clear hiv
        go_wp2_with fail
        go_round
        case rel => exact ⟨k + 1, by omega, by go_num, by rw [take_snoc s k hlt, List.all_append, HA.out, List.all_cons, HC.out]; rfl⟩
        case measure => simp [intOf]; omega
      · have g0 : ¬ (97 : Int) ≤ s[k].toNat := by omega
        have g1 : (s[k].toNat : Int) ≤ 122 := by omega
        have g2 : ¬ (65 : Int) ≤ s[k].toNat := by omega
        have g3 : (s[k].toNat : Int) ≤ 90 := by omega
        have g4 : (48 : Int) ≤ s[k].toNat := by omega
        have g5 : (s[k].toNat : Int) ≤ 57 := by omega
        clear hiv
        go_wp2_with fail
        go_round
        case rel => exact ⟨k + 1, by omega, by go_num, by rw [take_snoc s k hlt, List.all_append, HA.out, List.all_cons, HC.out]; rfl⟩
        case measure => simp [intOf]; omega
      · have g0 : ¬ (97 : Int) ≤ s[k].toNat := by omega
        have g1 : (s[k].toNat : Int) ≤ 122 := by omega
        have g2 : ¬ (65 : Int) ≤ s[k].toNat := by omega
        have g3 : (s[k].toNat : Int) ≤ 90 := by omega
        have g4 : ¬ (48 : Int) ≤ s[k].toNat := by omega
        have g5 : (s[k].toNat : Int) ≤ 57 := by omega
        clear hiv
        go_wp2_with fail
        refine (IN.out _).mono ?_
        rintro e w1 ⟨rfl, rfl⟩
        cases p with
        | true =>
          go_wp2_with fail
          go_round
          case rel => exact ⟨k + 1, by omega, by go_num, by rw [take_snoc s k hlt, List.all_append, HA.out, List.all_cons, HC.out]; rfl⟩
          case measure => simp [intOf]; omega
        | false =>
          have hno : tok s.data.toList = false := by
            unfold tok
            rw [all_no s k hlt HC.out, Bool.and_false]
          have HN := Lib.hid hno
          clear hno
          go_wp2_with fail
          go_ret
          rw [HN.out]
          exact ⟨rfl, rfl⟩
      · have g0 : ¬ (97 : Int) ≤ s[k].toNat := by omega
        have g1 : (s[k].toNat : Int) ≤ 122 := by omega
        have g2 : ¬ (65 : Int) ≤ s[k].toNat := by omega
        have g3 : (s[k].toNat : Int) ≤ 90 := by omega
        have g4 : (48 : Int) ≤ s[k].toNat := by omega
        have g5 : ¬ (s[k].toNat : Int) ≤ 57 := by omega
        clear hiv
        go_wp2_with fail
        refine (IN.out _).mono ?_
        rintro e w1 ⟨rfl, rfl⟩
        cases p with
        | true =>
          go_wp2_with fail
          go_round
          case rel => exact ⟨k + 1, by omega, by go_num, by rw [take_snoc s k hlt, List.all_append, HA.out, List.all_cons, HC.out]; rfl⟩
          case measure => simp [intOf]; omega
        | false =>
          have hno : tok s.data.toList = false := by
            unfold tok
            rw [all_no s k hlt HC.out, Bool.and_false]
          have HN := Lib.hid hno
          clear hno
          go_wp2_with fail
          go_ret
          rw [HN.out]
          exact ⟨rfl, rfl⟩
      · have g0 : ¬ (97 : Int) ≤ s[k].toNat := by omega
        have g1 : (s[k].toNat : Int) ≤ 122 := by omega
        have g2 : (65 : Int) ≤ s[k].toNat := by omega
        have g3 : ¬ (s[k].toNat : Int) ≤ 90 := by omega
        have g4 : (48 : Int) ≤ s[k].toNat := by omega
        have g5 : ¬ (s[k].toNat : Int) ≤ 57 := by omega
        clear hiv
        go_wp2_with fail
        refine (IN.out _).mono ?_
        rintro e w1 ⟨rfl, rfl⟩
        cases p with
        | true =>
          go_wp2_with fail
          go_round
          case rel => exact ⟨k + 1, by omega, by go_num, by rw [take_snoc s k hlt, List.all_append, HA.out, List.all_cons, HC.out]; rfl⟩
          case measure => simp [intOf]; omega
        | false =>
          have hno : tok s.data.toList = false := by
            unfold tok
            rw [all_no s k hlt HC.out, Bool.and_false]
          have HN := Lib.hid hno
          clear hno
          go_wp2_with fail
          go_ret
          rw [HN.out]
          exact ⟨rfl, rfl⟩
      · have g0 : (97 : Int) ≤ s[k].toNat := by omega
        have g1 : ¬ (s[k].toNat : Int) ≤ 122 := by omega
        have g2 : (65 : Int) ≤ s[k].toNat := by omega
        have g3 : ¬ (s[k].toNat : Int) ≤ 90 := by omega
        have g4 : (48 : Int) ≤ s[k].toNat := by omega
        have g5 : ¬ (s[k].toNat : Int) ≤ 57 := by omega
        clear hiv
        go_wp2_with fail
        refine (IN.out _).mono ?_
        rintro e w1 ⟨rfl, rfl⟩
        cases p with
        | true =>
          go_wp2_with fail
          go_round
          case rel => exact ⟨k + 1, by omega, by go_num, by rw [take_snoc s k hlt, List.all_append, HA.out, List.all_cons, HC.out]; rfl⟩
          case measure => simp [intOf]; omega
        | false =>
          have hno : tok s.data.toList = false := by
            unfold tok
            rw [all_no s k hlt HC.out, Bool.and_false]
          have HN := Lib.hid hno
          clear hno
          go_wp2_with fail
          go_ret
          rw [HN.out]
          exact ⟨rfl, rfl⟩
    · obtain rfl : k = s.size := by omega
      have ha := HA.out
      rw [List.take_of_length_le (by rw [size_toList]; exact Nat.le_refl _)] at ha
      have hno : tok s.data.toList = !s.data.toList.isEmpty := by
        unfold tok
        rw [ha, Bool.and_true]
      have HN := Lib.hid hno
      clear ha hno
      go_wp2_with fail
      go_ret
      rw [HN.out]
      exact ⟨ret_b (by rw [← Lib.toList_data]), rfl⟩
end Go.Proofs.YtnfgpcccmbblcaaDoor
