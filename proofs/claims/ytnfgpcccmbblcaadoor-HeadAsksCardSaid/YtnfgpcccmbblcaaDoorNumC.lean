/- The document's Read (tidewaiterref06). -/
import Derived.Test.YtnfgpcccmbblcaaDoorNumB
import Derived.Test.YtnfgpcccmbblcaaDoorNumL
namespace Go.Proofs.YtnfgpcccmbblcaaDoor
open Go.RowKit

set_option maxHeartbeats 2000000 in
/-- value: what at most 16 digits tell; below 0: they are none. -/
theorem ref06_value (s : ByteArray) (hs : s.size ≤ 16) (w : World) : Calls Tryd.prog 111 #[.string s] w (Ret w (.int .i64 (vlF s.data.toList))) := by
  go_enter Tryd.func111, Tryd.ntmps111
  go_wp2_with fail
  go_loop [3, 4] (fun n i => ∃ k : Nat, k ≤ s.size ∧ i = .int .i64 k ∧ n = .int .i64 (valOf 0 (s.data.toList.take k)) ∧ (s.data.toList.take k).all isDig = true) (fun _ i => s.size - (intOf i).toNat)
  case atStart => exact ⟨0, Nat.zero_le _, rfl, rfl, rfl⟩
  case round =>
    obtain ⟨k, hk, rfl, rfl, hall⟩ := hrel
    have hv := valOf_le _ hall (Nat.le_trans (List.length_take_le _ _) (Nat.le_trans hk hs))
    obtain ⟨v, ev⟩ : ∃ v, valOf 0 (s.data.toList.take k) = v := ⟨_, rfl⟩
    rw [ev] at hv ⊢
    have HV := Lib.hid ev
    have HA := Lib.hid hall
    clear ev hall
    by_cases hlt : k < s.size
    · have hlt' : (k : Int) < (s.size : Int) := by omega
      cases hd : isDig s[k]
      · have HD := Lib.hid hd
        have hd1 : (s[k].toNat : Int) < 48 ∨ 57 < (s[k].toNat : Int) := by
          simp only [isDig, Bool.and_eq_false_iff, decide_eq_false_iff_not] at hd
          omega
        have hd3 : (s[k].toNat : Int) ≤ 255 := by have := s[k].toNat_lt; omega
        clear hd
        have B := Lib.hid (vlF_bad (not_all_of s k hlt HD.out))
        rcases hd1 with hd1 | hd1
        · go_wp2
          go_ret
          rw [B.out]
          exact ⟨rfl, by go_grown⟩
        · have hd2 : 48 ≤ (s[k].toNat : Int) := by omega
          go_wp2
          go_ret
          rw [B.out]
          exact ⟨rfl, by go_grown⟩
      · have HD := Lib.hid hd
        have hd1 : 48 ≤ (s[k].toNat : Int) := by simp only [isDig, Bool.and_eq_true, decide_eq_true_eq] at hd; omega
        have hd2 : (s[k].toNat : Int) ≤ 57 := by simp only [isDig, Bool.and_eq_true, decide_eq_true_eq] at hd; omega
        clear hd
        go_wp2
        go_round
        case rel => exact ⟨k + 1, by omega, by go_num, by rw [take_snoc s k hlt, valOf_snoc, HV.out]; go_num, by rw [all_take_snoc s k hlt, HA.out, HD.out]; rfl⟩
        case measure => simp [intOf]; omega
    · obtain rfl : k = s.size := by omega
      have ha := HA.out
      have hv2 := HV.out
      rw [List.take_of_length_le (by rw [size_toList]; exact Nat.le_refl _)] at ha hv2
      have B := Lib.hid (vlF_good ha)
      rw [hv2] at B
      clear ha hv2
      go_wp2
      go_ret
      rw [B.out]
      exact ⟨rfl, by go_grown⟩
set_option maxHeartbeats 2000000 in
theorem ref06_Read_size (s : ByteArray) (w : World) (hs : s.size ≤ 9223372036854775807) (h : s.size = 0 ∨ 16 < s.size) :
    Calls Tryd.prog 84 #[.string s] w (Ret w (.tuple #[.int .i64 0, .int .i64 60])) := by
  rcases h with h | h
  · have h1 : (s.size : Int) < 1 := by omega
    go_enter Tryd.func84, Tryd.ntmps84
    go_wp2_with fail
    go_ret2
    exact ⟨rfl, by go_grown⟩
  · have h1 : 1 ≤ (s.size : Int) := by omega
    have h2 : 16 < (s.size : Int) := by omega
    go_enter Tryd.func84, Tryd.ntmps84
    go_wp2_with fail
    go_ret2
    exact ⟨rfl, by go_grown⟩
set_option maxHeartbeats 2000000 in
theorem ref06_Read_out (s : ByteArray) (w : World) (h0 : 0 < s.size) (hs : s.size ≤ 16) (h : vlF s.data.toList < 0 ∨ 9007199254740991 < vlF s.data.toList) :
    Calls Tryd.prog 84 #[.string s] w (Ret w (.tuple #[.int .i64 0, .int .i64 60])) := by
  have c := ref06_value s hs
  generalize vlF s.data.toList = v at h c
  have C := Lib.hid c
  clear c
  have h1 : 1 ≤ (s.size : Int) := by omega
  have h2 : (s.size : Int) ≤ 16 := by omega
  rcases h with h | h
  · go_enter Tryd.func84, Tryd.ntmps84
    go_wp2_with fail
    refine (C.out _).mono ?_
    rintro e w1 ⟨rfl, hb⟩
    go_wp2_with fail
    go_ret2
    exact ⟨rfl, by go_grown⟩
  · have h3 : 0 ≤ v := by omega
    go_enter Tryd.func84, Tryd.ntmps84
    go_wp2_with fail
    refine (C.out _).mono ?_
    rintro e w1 ⟨rfl, hb⟩
    go_wp2_with fail
    go_ret2
    exact ⟨rfl, by go_grown⟩
set_option maxHeartbeats 2000000 in
theorem ref06_Read_in (s d : ByteArray) (v : Nat) (w : World) (h0 : 0 < s.size) (hs : s.size ≤ 16) (hv : vlF s.data.toList = v) (hm : v ≤ 9007199254740991) (hd : ⟨(Lib.decDigits v).toArray⟩ = d) (b : Bool) (hq : (d.toList == s.toList) = b) :
    Calls Tryd.prog 84 #[.string s] w (Ret w (.tuple #[.int .i64 (if b then (v : Int) else 0), .int .i64 (if b then 0 else 60)])) := by
  have c := ref06_value s hs
  rw [hv] at c
  have c2 := ref06_Digits v (by omega)
  rw [hd] at c2
  have C := Lib.hid c
  have C2 := Lib.hid c2
  clear c c2 hv hd
  have h1 : 1 ≤ (s.size : Int) := by omega
  have h2 : (s.size : Int) ≤ 16 := by omega
  cases b
  all_goals
    go_enter Tryd.func84, Tryd.ntmps84
    go_wp2_with fail
    refine (C.out _).mono ?_
    rintro e w1 ⟨rfl, hb⟩
    go_wp2_with fail
    refine (C2.out _).mono ?_
    rintro e w2 ⟨rfl, hb2⟩
    go_wp2_with fail
    go_ret2
    exact ⟨rfl, hb.trans (hb2.mono hb.size)⟩
/-- The document's Read, of every text. -/
theorem ref06_Read (s : ByteArray) (w : World) (hs : s.size ≤ 9223372036854775807) :
    Calls Tryd.prog 84 #[.string s] w (Ret w (.tuple #[.int .i64 (rdN s.data.toList), .int .i64 (rdE s.data.toList)])) := by
  by_cases h0 : s.size = 0
  · have hl : s.data.toList = [] := List.eq_nil_of_length_eq_zero (by rw [size_toList]; exact h0)
    obtain ⟨b1, b2⟩ := rd_bad (show numOk s.data.toList = false by rw [hl]; rfl)
    rw [b1, b2]
    exact ref06_Read_size s w hs (.inl h0)
  by_cases h1 : 16 < s.size
  · obtain ⟨b1, b2⟩ := rd_bad (numOk_long (l := s.data.toList) (by rw [size_toList]; exact h1))
    rw [b1, b2]
    exact ref06_Read_size s w hs (.inr h1)
  have h0' : 0 < s.size := by omega
  cases ha : s.data.toList.all isDig
  · obtain ⟨b1, b2⟩ := rd_bad (numOk_all ha)
    rw [b1, b2]
    exact ref06_Read_out s w h0' (by omega) (.inl (by rw [vlF_bad ha]; omega))
  · have hv := vlF_good ha
    by_cases hm : valOf 0 s.data.toList ≤ 9007199254740991
    · have key := ref06_Read_in s ⟨(Lib.decDigits (valOf 0 s.data.toList)).toArray⟩ _ w h0' (by omega) hv hm rfl _ rfl
      by_cases hq : Lib.decDigits (valOf 0 s.data.toList) = s.data.toList
      · have ok : numOk s.data.toList = true := by rw [← hq]; exact numOk_dec hm
        obtain ⟨b1, b2⟩ := rd_good ok
        rw [b1, b2]
        rw [Lib.toList_data, Lib.toList_data, show ((⟨(Lib.decDigits (valOf 0 s.data.toList)).toArray⟩ : ByteArray).data.toList == s.data.toList) = true by simpa using hq] at key
        exact key
      · have no : numOk s.data.toList = false := by
          cases hn : numOk s.data.toList
          · rfl
          · exact absurd (dec_of_ok hn).1 hq
        obtain ⟨b1, b2⟩ := rd_bad no
        rw [b1, b2]
        rw [Lib.toList_data, Lib.toList_data, show ((⟨(Lib.decDigits (valOf 0 s.data.toList)).toArray⟩ : ByteArray).data.toList == s.data.toList) = false by simpa using hq] at key
        exact key
    · have no : numOk s.data.toList = false := by
        cases hn : numOk s.data.toList
        · rfl
        · exact absurd (dec_of_ok hn).2 hm
      obtain ⟨b1, b2⟩ := rd_bad no
      rw [b1, b2]
      exact ref06_Read_out s w h0' (by omega) (.inr (by rw [hv]; omega))

end Go.Proofs.YtnfgpcccmbblcaaDoor
