/- The document's Read and Signed (tidewaiterref06). -/
import Derived.Test.YtgechifpappipaaNumB
namespace Go.Proofs.Ytgechifpappipaa
open Go.RowKit

set_option maxHeartbeats 2000000 in
theorem ref06_Read_size (s : ByteArray) (w : World) (hs : s.size ≤ 9223372036854775807) (h : s.size = 0 ∨ 16 < s.size) :
    Calls Try.prog 13 #[.string s] w (Ret w (.tuple #[.int .i64 0, .int .i64 60])) := by
  rcases h with h | h
  · have h1 : (s.size : Int) < 1 := by omega
    go_enter Try.func13, Try.ntmps13
    go_wp2_with fail
    go_ret2
    exact ⟨rfl, by go_grown⟩
  · have h1 : 1 ≤ (s.size : Int) := by omega
    have h2 : 16 < (s.size : Int) := by omega
    go_enter Try.func13, Try.ntmps13
    go_wp2_with fail
    go_ret2
    exact ⟨rfl, by go_grown⟩
set_option maxHeartbeats 2000000 in
theorem ref06_Read_out (s : ByteArray) (w : World) (h0 : 0 < s.size) (hs : s.size ≤ 16) (h : vlF s.data.toList < 0 ∨ 9007199254740991 < vlF s.data.toList) :
    Calls Try.prog 13 #[.string s] w (Ret w (.tuple #[.int .i64 0, .int .i64 60])) := by
  have c := ref06_value s hs
  generalize vlF s.data.toList = v at h c
  have C := Lib.hid c
  clear c
  have h1 : 1 ≤ (s.size : Int) := by omega
  have h2 : (s.size : Int) ≤ 16 := by omega
  rcases h with h | h
  · go_enter Try.func13, Try.ntmps13
    go_wp2_with fail
    refine (C.out _).mono ?_
    rintro e w1 ⟨rfl, hb⟩
    go_wp2_with fail
    go_ret2
    exact ⟨rfl, by go_grown⟩
  · have h3 : 0 ≤ v := by omega
    go_enter Try.func13, Try.ntmps13
    go_wp2_with fail
    refine (C.out _).mono ?_
    rintro e w1 ⟨rfl, hb⟩
    go_wp2_with fail
    go_ret2
    exact ⟨rfl, by go_grown⟩
set_option maxHeartbeats 2000000 in
theorem ref06_Read_in (s d : ByteArray) (v : Nat) (w : World) (h0 : 0 < s.size) (hs : s.size ≤ 16) (hv : vlF s.data.toList = v) (hm : v ≤ 9007199254740991) (hd : ⟨(Lib.decDigits v).toArray⟩ = d) (b : Bool) (hq : (d.toList == s.toList) = b) :
    Calls Try.prog 13 #[.string s] w (Ret w (.tuple #[.int .i64 (if b then (v : Int) else 0), .int .i64 (if b then 0 else 60)])) := by
  have c := ref06_value s hs
  rw [hv] at c
  have c2 := ref06_Digits v (by omega)
  rw [hd] at c2
  have C := Lib.hid c
  have C2 := Lib.hid c2
  clear c c2 hv hd
  have h1 : 1 ≤ (s.size : Int) := by omega
  have h2 : (s.size : Int) ≤ 16 := by omega
  cases b
  all_goals
    go_enter Try.func13, Try.ntmps13
    go_wp2_with fail
    refine (C.out _).mono ?_
    rintro e w1 ⟨rfl, hb⟩
    go_wp2_with fail
    refine (C2.out _).mono ?_
    rintro e w2 ⟨rfl, hb2⟩
    go_wp2_with fail
    go_ret2
    exact ⟨rfl, hb.trans (hb2.mono hb.size)⟩
/-- The document's Read, of every text. -/
theorem ref06_Read (s : ByteArray) (w : World) (hs : s.size ≤ 9223372036854775807) :
    Calls Try.prog 13 #[.string s] w (Ret w (.tuple #[.int .i64 (rdN s.data.toList), .int .i64 (rdE s.data.toList)])) := by
  by_cases h0 : s.size = 0
  · have hl : s.data.toList = [] := List.eq_nil_of_length_eq_zero (by rw [size_toList]; exact h0)
    obtain ⟨b1, b2⟩ := rd_bad (show numOk s.data.toList = false by rw [hl]; rfl)
    rw [b1, b2]
    exact ref06_Read_size s w hs (.inl h0)
  by_cases h1 : 16 < s.size
  · obtain ⟨b1, b2⟩ := rd_bad (numOk_long (l := s.data.toList) (by rw [size_toList]; exact h1))
    rw [b1, b2]
    exact ref06_Read_size s w hs (.inr h1)
  have h0' : 0 < s.size := by omega
  cases ha : s.data.toList.all isDig
  · obtain ⟨b1, b2⟩ := rd_bad (numOk_all ha)
    rw [b1, b2]
    exact ref06_Read_out s w h0' (by omega) (.inl (by rw [vlF_bad ha]; omega))
  · have hv := vlF_good ha
    by_cases hm : valOf 0 s.data.toList ≤ 9007199254740991
    · have key := ref06_Read_in s ⟨(Lib.decDigits (valOf 0 s.data.toList)).toArray⟩ _ w h0' (by omega) hv hm rfl _ rfl
      by_cases hq : Lib.decDigits (valOf 0 s.data.toList) = s.data.toList
      · have ok : numOk s.data.toList = true := by rw [← hq]; exact numOk_dec hm
        obtain ⟨b1, b2⟩ := rd_good ok
        rw [b1, b2]
        rw [Lib.toList_data, Lib.toList_data, show ((⟨(Lib.decDigits (valOf 0 s.data.toList)).toArray⟩ : ByteArray).data.toList == s.data.toList) = true by simpa using hq] at key
        exact key
      · have no : numOk s.data.toList = false := by
          cases hn : numOk s.data.toList
          · rfl
          · exact absurd (dec_of_ok hn).1 hq
        obtain ⟨b1, b2⟩ := rd_bad no
        rw [b1, b2]
        rw [Lib.toList_data, Lib.toList_data, show ((⟨(Lib.decDigits (valOf 0 s.data.toList)).toArray⟩ : ByteArray).data.toList == s.data.toList) = false by simpa using hq] at key
        exact key
    · have no : numOk s.data.toList = false := by
        cases hn : numOk s.data.toList
        · rfl
        · exact absurd (dec_of_ok hn).2 hm
      obtain ⟨b1, b2⟩ := rd_bad no
      rw [b1, b2]
      exact ref06_Read_out s w h0' (by omega) (.inr (by rw [hv]; omega))

theorem str_append (l1 l2 : List UInt8) : (⟨l1.toArray⟩ : ByteArray) ++ ⟨l2.toArray⟩ = ⟨(l1 ++ l2).toArray⟩ := by
  apply ByteArray.ext
  simp
/-- Signed: a level's text. -/
def sgnF (n : Int) : List UInt8 := if n < 0 then 45 :: Lib.decDigits n.natAbs else Lib.decDigits n.toNat
set_option maxHeartbeats 2000000 in
theorem ref06_Signed (n : Int) (h1 : -128 ≤ n) (h2 : n ≤ 127) (w : World) : Calls Try.prog 33 #[.int .i64 n] w (Ret w (.string ⟨(sgnF n).toArray⟩)) := by
  by_cases h : n < 0
  · obtain ⟨m, hm⟩ : ∃ m : Nat, n = -(m : Int) := ⟨n.natAbs, by omega⟩
    subst hm
    have e1 : sgnF (-(m : Int)) = 45 :: Lib.decDigits m := by
      unfold sgnF
      rw [if_pos h]
      simp
    rw [e1]
    have c := ref06_Digits m (by omega)
    have hl : (Lib.decDigits m).length ≤ 20 := by rw [Lib.decDigits_length]; exact Lib.nDigits_le20 m (by omega)
    generalize Lib.decDigits m = d at c hl
    have C := Lib.hid c
    clear c e1
    have hm : 1 ≤ (m : Int) := by omega
    go_enter Try.func33, Try.ntmps33
    go_wp2_with fail
    refine (C.out _).mono ?_
    rintro e w1 ⟨rfl, hb⟩
    go_wp2_with fail
    go_ret
    exact ⟨congrArg (fun x => Ending.returned (Value.string x)) (str_append [45] d), hb⟩
  · obtain ⟨m, rfl⟩ := Int.eq_ofNat_of_zero_le (by omega : 0 ≤ n)
    have e1 : sgnF (m : Int) = Lib.decDigits m := by
      unfold sgnF
      rw [if_neg h]
      simp
    rw [e1]
    have c := ref06_Digits m (by omega)
    generalize Lib.decDigits m = d at c
    have C := Lib.hid c
    clear c e1
    go_enter Try.func33, Try.ntmps33
    go_wp2_with fail
    refine (C.out _).mono ?_
    rintro e w1 ⟨rfl, hb⟩
    go_wp2_with fail
    go_ret
    exact ⟨rfl, hb⟩
end Go.Proofs.Ytgechifpappipaa
