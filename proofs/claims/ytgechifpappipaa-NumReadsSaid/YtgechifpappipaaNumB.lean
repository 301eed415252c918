/- The document's own numbers (tidewaiterref06): Digits, value, Read, Signed. -/
import Derived.Test.YtgechifpappipaaRows
import Derived.Test.YtgechifpappipaaStr
import Derived.Test.YtgechifpappipaaNumG
import Derived.Lib.ItoaLen
namespace Go.Proofs.Ytgechifpappipaa
open Go.RowKit

/-- 'string([]byte{c})'. -/
theorem conv_one {P : Program} (w : World) (src dst e : TypeId) (c : UInt8) (v : Int) (hv : v = (c.toNat : Int)) (hs : P.underlying src = some (.slice e)) (he : P.underlying e = some (.int .u8)) (hd : P.underlying dst = some .string) :
    (convert src dst (.slice (some ⟨w.heap.size, 0, none⟩) 1 1)).run P (w.alloc (.cells #[.int .u8 v] e)) = .ok (.string ⟨#[c]⟩) (w.alloc (.cells #[.int .u8 v] e)) :=
  run_convert_bytes_back (P := P) (w.alloc (.cells #[.int .u8 v] e)) src dst e ⟨w.heap.size, 0, none⟩ 1 [c] hs he hd (fun j hj => by
    obtain rfl : j = 0 := by simp at hj; omega
    subst hv
    simp [Addr.add])
theorem dig_cast {i : Nat} (h : i < 10) : (48 + (i : Int)) = ((UInt8.ofNat (48 + i)).toNat : Int) := by
  rw [dig_toNat h]
  omega

set_option maxHeartbeats 2000000 in
/-- Digits: the decimal digits. -/
theorem ref06_Digits (n : Nat) (hn : n ≤ 9223372036854775807) (w : World) : Calls Try.prog 31 #[.int .i64 n] w (Ret w (.string ⟨(Lib.decDigits n).toArray⟩)) := by
  go_enter Try.func31, Try.ntmps31
  go_wp2_with fail
  go_loopw [0, 3] (fun i s wr => ∃ (m : Nat) (t : ByteArray), m ≤ n ∧ i = .int .i64 m ∧ s = .string t ∧ Lib.decDigits n = Lib.decDigits m ++ t.data.toList ∧ Below w.heap.size w wr) (fun i _ _ => (intOf i).toNat)
  case atStart => exact ⟨n, ⟨#[]⟩, Nat.le_refl _, rfl, rfl, by simp, by go_grown⟩
  case round =>
    obtain ⟨m, t, hm, rfl, rfl, hd, hBw⟩ := hrel
    have hlen : t.size ≤ 20 := by
      have h1 := congrArg List.length hd
      rw [List.length_append, size_toList, Lib.decDigits_length] at h1
      have := Lib.nDigits_le20 n (by omega)
      omega
    have HD := Lib.hid hd
    clear hd
    have hsz := hBw.size
    by_cases h9 : 9 < m
    · obtain ⟨c, ec⟩ : ∃ c, UInt8.ofNat (48 + m % 10) = c := ⟨_, rfl⟩
      have hc : 48 + (m : Int) % 10 = (c.toNat : Int) := by rw [← ec]; have := dig_cast (i := m % 10) (by omega); omega
      have hcv := conv_one (P := Try.prog) wr 22 9 5 c (48 + (m : Int) % 10) hc Try.underlying22 Try.underlying5 Try.underlying9
      have EC := Lib.hid ec
      clear ec hc
      go_wp2
      go_roundw
      case rel => exact ⟨m / 10, ⟨#[c]⟩ ++ t, by omega, by go_num, rfl, by rw [HD.out, decDigits_big (by omega), EC.out]; simp, by go_grown⟩
      case measure => simp [intOf]; omega
    · obtain ⟨c, ec⟩ : ∃ c, UInt8.ofNat (48 + m) = c := ⟨_, rfl⟩
      have hc : 48 + (m : Int) = (c.toNat : Int) := by rw [← ec]; exact dig_cast (by omega)
      have hcv := conv_one (P := Try.prog) wr 22 9 5 c (48 + (m : Int)) hc Try.underlying22 Try.underlying5 Try.underlying9
      have EC := Lib.hid ec
      clear ec hc
      go_wp2
      go_ret
      refine ⟨?_, by go_grown⟩
      have h1 := HD.out
      have h2 : Lib.decDigits m = [UInt8.ofNat (48 + m)] := Lib.decDigits_one (by omega)
      rw [h2, EC.out] at h1
      rw [h1]
      rfl
set_option maxHeartbeats 2000000 in
/-- value: what at most 16 digits tell; below 0: they are none. -/
theorem ref06_value (s : ByteArray) (hs : s.size ≤ 16) (w : World) : Calls Try.prog 30 #[.string s] w (Ret w (.int .i64 (vlF s.data.toList))) := by
  go_enter Try.func30, Try.ntmps30
  go_wp2_with fail
  go_loop [3, 4] (fun n i => ∃ k : Nat, k ≤ s.size ∧ i = .int .i64 k ∧ n = .int .i64 (valOf 0 (s.data.toList.take k)) ∧ (s.data.toList.take k).all isDig = true) (fun _ i => s.size - (intOf i).toNat)
  case atStart => exact ⟨0, Nat.zero_le _, rfl, rfl, rfl⟩
  case round =>
    obtain ⟨k, hk, rfl, rfl, hall⟩ := hrel
    have hv := valOf_le _ hall (Nat.le_trans (List.length_take_le _ _) (Nat.le_trans hk hs))
    obtain ⟨v, ev⟩ : ∃ v, valOf 0 (s.data.toList.take k) = v := ⟨_, rfl⟩
    rw [ev] at hv ⊢
    have HV := Lib.hid ev
    have HA := Lib.hid hall
    clear ev hall
    by_cases hlt : k < s.size
    · have hlt' : (k : Int) < (s.size : Int) := by omega
      cases hd : isDig s[k]
      · have HD := Lib.hid hd
        have hd1 : (s[k].toNat : Int) < 48 ∨ 57 < (s[k].toNat : Int) := by
          simp only [isDig, Bool.and_eq_false_iff, decide_eq_false_iff_not] at hd
          omega
        have hd3 : (s[k].toNat : Int) ≤ 255 := by have := s[k].toNat_lt; omega
        clear hd
        have B := Lib.hid (vlF_bad (not_all_of s k hlt HD.out))
        rcases hd1 with hd1 | hd1
        · go_wp2
          go_ret
          rw [B.out]
          exact ⟨rfl, by go_grown⟩
        · have hd2 : 48 ≤ (s[k].toNat : Int) := by omega
          go_wp2
          go_ret
          rw [B.out]
          exact ⟨rfl, by go_grown⟩
      · have HD := Lib.hid hd
        have hd1 : 48 ≤ (s[k].toNat : Int) := by simp only [isDig, Bool.and_eq_true, decide_eq_true_eq] at hd; omega
        have hd2 : (s[k].toNat : Int) ≤ 57 := by simp only [isDig, Bool.and_eq_true, decide_eq_true_eq] at hd; omega
        clear hd
        go_wp2
        go_round
        case rel => exact ⟨k + 1, by omega, by go_num, by rw [take_snoc s k hlt, valOf_snoc, HV.out]; go_num, by rw [all_take_snoc s k hlt, HA.out, HD.out]; rfl⟩
        case measure => simp [intOf]; omega
    · obtain rfl : k = s.size := by omega
      have ha := HA.out
      have hv2 := HV.out
      rw [List.take_of_length_le (by rw [size_toList]; exact Nat.le_refl _)] at ha hv2
      have B := Lib.hid (vlF_good ha)
      rw [hv2] at B
      clear ha hv2
      go_wp2
      go_ret
      rw [B.out]
      exact ⟨rfl, by go_grown⟩
end Go.Proofs.Ytgechifpappipaa
