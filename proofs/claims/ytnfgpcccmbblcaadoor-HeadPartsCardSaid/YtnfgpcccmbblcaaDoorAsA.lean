/- The document's letters, tokens and lists (tidewaiterref07), and whether two lists are the same (tidewaiterref04.Same). -/
import Derived.Test.YtnfgpcccmbblcaaDoorAsF
import Derived.Test.YtnfgpcccmbblcaaDoorVals
import Derived.Deep.QuietTactic
import Derived.BigQuiet
import Derived.IntWalk
namespace Go.Proofs.YtnfgpcccmbblcaaDoor
open Go.RowKit

set_option maxHeartbeats 4000000 in
theorem r7_Lower (s : ByteArray) (w : World) (hs : s.size ≤ 1000000) : Calls Tryd.prog 87 #[.string s] w (Ret w (.string ⟨(lowL s.data.toList).toArray⟩)) := by
  go_enter Tryd.func87, Tryd.ntmps87
  go_wp2_with fail
  go_loopw [3, 4] (fun v i wr => ∃ k : Nat, k ≤ s.size ∧ i = .int .i64 k ∧ wr.ownsRow w.heap.size 5 1 v k ((lowL (s.data.toList.take k)).map fun c => Value.int .u8 c.toNat) ∧ Below w.heap.size w wr) (fun _ i _ => s.size - (intOf i).toNat)
  case atStart => exact ⟨0, Nat.zero_le _, rfl, World.ownsRow_nil _ _ _ _, Below.refl _ _⟩
  case round =>
    obtain ⟨k, hk, rfl, hown, hBw⟩ := hrel
    obtain ⟨i0, hi, hz0, hz1, hz2⟩ := info_parts vinfo_byte
    have hsz := hBw.size
    by_cases hlt : k < s.size
    · have hsn : lowL (s.data.toList.take (k + 1)) = lowL (s.data.toList.take k) ++ [loB s[k]] := by rw [take_snoc s k hlt, lowL_snoc]
      have HS := Lib.hid hsn
      have HO := Lib.hid hown
      have hb : (s[k].toNat : Int) ≤ 255 := by have := s[k].toNat_lt; omega
      clear hsn hown
      by_cases hc : 65 ≤ s[k].toNat ∧ s[k].toNat ≤ 90
      · have hlo := loB_hi hc.1 hc.2
        obtain ⟨d, hd⟩ : ∃ d, loB s[k] = d := ⟨_, rfl⟩
        rw [hd] at hlo HS
        have hdd : (s[k].toNat : Int) + 32 = (d.toNat : Int) := by omega
        have g1 : (65 : Int) ≤ s[k].toNat := by omega
        have g2 : (s[k].toNat : Int) ≤ 90 := by omega
        have HDD := Lib.hid hdd
        clear hc hlo hd hdd
        go_wp2_with (at_builtin; refine wpList_app1 rfl _ _ 50 rfl w.heap.size 5 i0 (.int .u8 0) 1 Tryd.underlying50 hi hz0 hz1 hz2 rfl _ _ _ rfl HO.out (.int .u8 ((s[k].toNat : Int) + 32)) rfl rfl (by omega) (by omega) (by omega) ?_; intro v' w2 hown' hbel)
        have hb2 := hbel _ hBw
        have hown2 : w2.ownsRow w.heap.size 5 1 v' (k + 1) ((lowL (s.data.toList.take (k + 1))).map fun c => Value.int .u8 c.toNat) := by
          rw [HS.out, List.map_append]
          rw [HDD.out] at hown'
          exact hown'
        have HO2 := Lib.hid hown2
        clear hown' hbel hown2 hi hz0 hz1 hz2
        go_wp2_with fail
        go_roundw
        case rel => exact ⟨k + 1, by omega, by go_num, HO2.out, hb2⟩
        case measure => simp [intOf]; omega
      · have hlo := loB_lo hc
        rw [hlo] at HS
        have g1 : (s[k].toNat : Int) < 65 ∨ 90 < (s[k].toNat : Int) := by omega
        clear hc hlo
        rcases g1 with g1 | g1
        · have g2 : ¬ (65 : Int) ≤ s[k].toNat := by omega
          go_wp2_with (at_builtin; refine wpList_app1 rfl _ _ 50 rfl w.heap.size 5 i0 (.int .u8 0) 1 Tryd.underlying50 hi hz0 hz1 hz2 rfl _ _ _ rfl HO.out (.int .u8 s[k].toNat) rfl rfl (by omega) (by omega) (by omega) ?_; intro v' w2 hown' hbel)
          have hb2 := hbel _ hBw
          have hown2 : w2.ownsRow w.heap.size 5 1 v' (k + 1) ((lowL (s.data.toList.take (k + 1))).map fun c => Value.int .u8 c.toNat) := by
            rw [HS.out, List.map_append]
            exact hown'
          have HO2 := Lib.hid hown2
          clear hown' hbel hown2 hi hz0 hz1 hz2
          go_wp2_with fail
          go_roundw
          case rel => exact ⟨k + 1, by omega, by go_num, HO2.out, hb2⟩
          case measure => simp [intOf]; omega
        · have g2 : (65 : Int) ≤ s[k].toNat := by omega
          have g3 : ¬ (s[k].toNat : Int) ≤ 90 := by omega
          go_wp2_with (at_builtin; refine wpList_app1 rfl _ _ 50 rfl w.heap.size 5 i0 (.int .u8 0) 1 Tryd.underlying50 hi hz0 hz1 hz2 rfl _ _ _ rfl HO.out (.int .u8 s[k].toNat) rfl rfl (by omega) (by omega) (by omega) ?_; intro v' w2 hown' hbel)
          have hb2 := hbel _ hBw
          have hown2 : w2.ownsRow w.heap.size 5 1 v' (k + 1) ((lowL (s.data.toList.take (k + 1))).map fun c => Value.int .u8 c.toNat) := by
            rw [HS.out, List.map_append]
            exact hown'
          have HO2 := Lib.hid hown2
          clear hown' hbel hown2 hi hz0 hz1 hz2
          go_wp2_with fail
          go_roundw
          case rel => exact ⟨k + 1, by omega, by go_num, HO2.out, hb2⟩
          case measure => simp [intOf]; omega
    · obtain rfl : k = s.size := by omega
      rw [List.take_of_length_le (by rw [size_toList]; exact Nat.le_refl _)] at hown
      have hcv := conv_own hown
      obtain ⟨l, hl⟩ : ∃ l, lowL s.data.toList = l := ⟨_, rfl⟩
      rw [hl] at hcv
      have HL := Lib.hid hl
      clear hown hl hi hz0 hz1 hz2
      go_wp2_with fail
      go_ret
      rw [HL.out]
      exact ⟨rfl, hBw⟩
theorem r7_Same (a b : ByteArray) (w : World) (ha : a.size ≤ 1000000) (hb : b.size ≤ 1000000) : Calls Tryd.prog 88 #[.string a, .string b] w (Ret w (.bool (decide (lowL a.data.toList = lowL b.data.toList)))) := by
  have C1 := Lib.hid fun w => r7_Lower a w ha
  have C2 := Lib.hid fun w => r7_Lower b w hb
  obtain ⟨x, hx⟩ : ∃ x, lowL a.data.toList = x := ⟨_, rfl⟩
  obtain ⟨y, hy⟩ : ∃ x, lowL b.data.toList = x := ⟨_, rfl⟩
  rw [hx] at C1 ⊢
  rw [hy] at C2 ⊢
  clear hx hy
  go_enter Tryd.func88, Tryd.ntmps88
  go_wp2_with fail
  refine (C1.out _).mono ?_
  rintro e w1 ⟨rfl, hb1⟩
  go_wp2_with fail
  refine (C2.out _).mono ?_
  rintro e w2 ⟨rfl, hb2⟩
  go_wp2_with fail
  go_ret
  exact ⟨ret_b (eqb_list x y), hb1.trans (hb2.mono hb1.size)⟩
theorem r7_blank (c : UInt8) (w : World) : Calls Tryd.prog 129 #[.int .u8 c.toNat] w fun e w' => e = .returned (.bool (blk c)) ∧ w' = w := by
  have h1 := u8_beq c 32
  have h2 := u8_beq c 9
  have e1 : (UInt8.toNat 32 : Int) = 32 := rfl
  have e2 : (UInt8.toNat 9 : Int) = 9 := rfl
  rw [e1] at h1
  rw [e2] at h2
  unfold blk
  cases hb1 : c == 32 with
  | true =>
    rw [hb1] at h1
    clear h2 e1 e2 hb1
    go_enter Tryd.func129, Tryd.ntmps129
    go_wp2_with fail
    go_ret
    exact ⟨rfl, rfl⟩
  | false =>
    rw [hb1] at h1
    obtain ⟨p, hp⟩ : ∃ p, (c == 9) = p := ⟨_, rfl⟩
    rw [hp] at h2 ⊢
    clear e1 e2 hb1 hp
    go_enter Tryd.func129, Tryd.ntmps129
    go_wp2_with fail
    go_ret
    exact ⟨rfl, rfl⟩
set_option maxHeartbeats 2000000 in
theorem r7_in (s : ByteArray) (c : UInt8) (w : World) (hs : s.size ≤ 1000000) : Calls Tryd.prog 112 #[.string s, .int .u8 c.toNat] w fun e w' => e = .returned (.bool (s.data.toList.contains c)) ∧ w' = w := by
  obtain ⟨z, hz⟩ : ∃ z, s.data.toList.contains c = z := ⟨_, rfl⟩
  rw [hz]
  have HZ := Lib.hid hz
  clear hz
  go_enter Tryd.func112, Tryd.ntmps112
  go_wp2_with fail
  go_loop [5] (fun i => ∃ k : Nat, k ≤ s.size ∧ i = .int .i64 k ∧ z = (s.data.toList.drop k).contains c) (fun i => s.size - (intOf i).toNat)
  case atStart => exact ⟨0, Nat.zero_le _, rfl, HZ.out.symm⟩
  case round =>
    obtain ⟨k, hk, rfl, hin⟩ := hrel
    by_cases hlt : k < s.size
    · rw [drop_cons s k hlt, List.contains_cons] at hin
      have hq := u8_beq s[k] c
      rw [beq_comm_u8] at hin
      obtain ⟨p, hp⟩ : ∃ p, (s[k] == c) = p := ⟨_, rfl⟩
      rw [hp] at hq hin
      have HI := Lib.hid hin
      clear hin hp
      cases p with
      | true =>
        go_wp2_with fail
        go_ret
        rw [HI.out]
        exact ⟨rfl, rfl⟩
      | false =>
        go_wp2_with fail
        go_round
        case rel => exact ⟨k + 1, by omega, by go_num, by rw [HI.out, Bool.false_or]⟩
        case measure => simp [intOf]; omega
    · have hd : z = false := by rw [hin, List.drop_eq_nil_of_le (by rw [size_toList]; omega)]; rfl
      have HI := Lib.hid hd
      clear hin hd
      go_wp2_with fail
      go_ret
      rw [HI.out]
      exact ⟨rfl, rfl⟩
end Go.Proofs.YtnfgpcccmbblcaaDoor
