/- NumA, NumB, NumC: put together by mergetpl.py. -/
import Derived.Test.YthgmgmbjjjnhnaaGreatDoorRows
import Derived.Test.YthgmgmbjjjnhnaaGreatDoorGa
import Derived.Lib.ItoaLen
namespace Go.Proofs.YthgmgmbjjjnhnaaGreatDoor
open Go.RowKit

set_option maxRecDepth 100000 in
set_option maxHeartbeats 2000000 in
theorem num_Read_loop (s : ByteArray) (w : World) (hs : s.size ≤ 16) (h0 : 0 < s.size) (h1 : ((s[0].toNat : Int) == 48) = false) :
    Calls Tryz.prog 65 #[.string s] w (Ret w (.tuple #[.int .i64 (rdN s.data.toList), .int .i64 (rdE s.data.toList)])) := by
  have e0 := isEmpty_of_pos h0
  have e1 := ne_nil_of_pos h0
  have e2 : ¬ (s[0].toNat : Int) = 48 := by simpa using h1
  obtain ⟨cap, C, hC, hCs, hcv⟩ := str_bytes (P := Tryz.prog) w 9 38 5 s Tryz.underlying9 Tryz.underlying38 Tryz.underlying5
  have HC := Lib.hid hC
  clear hC
  go_enter Tryz.func65, Tryz.ntmps65
  go_wp2_with fail
  go_step3
  go_wp2_with fail
  go_step3
  go_wp2_with fail
  have hz : ∀ k (h : k < s.size), ((w.alloc (.cells C 5 (C.size, C.size + 1))).drew).cell? ⟨w.heap.size, k, none⟩ = some (.int .u8 (s[k].toNat : Int)) := fun k h => (World.cell?_alloc_mark w C _ _ k).trans (HC.out k h)
  have HZ := Lib.hid hz
  clear hz
  go_loop [2, 4, 27] (fun n b i => ∃ k : Nat, k ≤ s.size ∧ i = .int .i64 k ∧ b = .bool false ∧ n = .int .i64 (valOf 0 (s.data.toList.take k)) ∧ (s.data.toList.take k).all isDig = true) (fun _ _ i => s.size - (intOf i).toNat)
  case atStart => exact ⟨0, Nat.zero_le _, rfl, rfl, rfl, rfl⟩
  case round =>
    obtain ⟨k, hk, rfl, rfl, rfl, hall⟩ := hrel
    have hv := valOf_le _ hall (Nat.le_trans (List.length_take_le _ _) (Nat.le_trans hk hs))
    obtain ⟨v, ev⟩ : ∃ v, valOf 0 (s.data.toList.take k) = v := ⟨_, rfl⟩
    rw [ev] at hv ⊢
    have HV := Lib.hid ev
    have HA := Lib.hid hall
    clear ev hall
    by_cases hlt : k < s.size
    · have hcell := HZ.out k hlt
      cases hd : isDig s[k]
      · have HD := Lib.hid hd
        have hd1 : (s[k].toNat : Int) < 48 ∨ 57 < (s[k].toNat : Int) := by
          simp only [isDig, Bool.and_eq_false_iff, decide_eq_false_iff_not] at hd
          omega
        have hd3 : (s[k].toNat : Int) ≤ 255 := by have := s[k].toNat_lt; omega
        clear hd
        obtain ⟨b1, b2⟩ := rd_bad (numOk_all (not_all_of s k hlt HD.out))
        have B1 := Lib.hid b1
        have B2 := Lib.hid b2
        clear b1 b2
        rcases hd1 with hd1 | hd1
        · have hd2 : ¬ 48 ≤ (s[k].toNat : Int) := by omega
          go_wp2
          (try rw [Exit.noGoto_ret])
          go_ret2
          rw [B1.out, B2.out]
          exact ⟨rfl, by go_grown⟩
        · have hd2 : 48 ≤ (s[k].toNat : Int) := by omega
          go_wp2
          (try rw [Exit.noGoto_ret])
          go_ret2
          rw [B1.out, B2.out]
          exact ⟨rfl, by go_grown⟩
      · have HD := Lib.hid hd
        have hd1 : 48 ≤ (s[k].toNat : Int) := by simp only [isDig, Bool.and_eq_true, decide_eq_true_eq] at hd; omega
        have hd2 : (s[k].toNat : Int) ≤ 57 := by simp only [isDig, Bool.and_eq_true, decide_eq_true_eq] at hd; omega
        clear hd
        go_wp2
        go_round
        case rel => exact ⟨k + 1, by omega, by go_num, rfl, by rw [take_snoc s k hlt, valOf_snoc, HV.out]; go_num, by rw [all_take_snoc s k hlt, HA.out, HD.out]; rfl⟩
        case measure => simp [intOf]; omega
    · obtain rfl : k = s.size := by omega
      have hl0 : s.data.toList ≠ [] := by
        have := e1
        rwa [Lib.toList_data] at this
      have hl1 : s.data.toList.head? ≠ some 48 := by
        rw [List.head?_eq_getElem?, getElem_data s 0 h0]
        intro h
        injection h with h
        rw [h] at e2
        exact e2 rfl
      have ha := HA.out
      have hv2 := HV.out
      rw [List.take_of_length_le (by rw [size_toList]; exact Nat.le_refl _)] at ha hv2
      have hn := numOk_is hl0 (by rw [size_toList]; exact hs) hl1 ha
      rw [hv2] at hn
      clear hl0 hl1 ha
      by_cases hm : v ≤ 9007199254740991
      · rw [decide_eq_true hm] at hn
        obtain ⟨b1, b2⟩ := rd_good hn
        rw [hv2] at b1
        have B1 := Lib.hid b1
        have B2 := Lib.hid b2
        clear b1 b2 hn hv2
        go_wp2
        (try rw [Exit.noGoto_ret])
        go_ret2
        rw [B1.out, B2.out]
        exact ⟨rfl, by go_grown⟩
      · rw [decide_eq_false hm] at hn
        obtain ⟨b1, b2⟩ := rd_bad hn
        have B1 := Lib.hid b1
        have B2 := Lib.hid b2
        clear b1 b2 hn hv2
        go_wp2
        (try rw [Exit.noGoto_ret])
        go_ret2
        rw [B1.out, B2.out]
        exact ⟨rfl, by go_grown⟩

set_option maxHeartbeats 2000000 in
theorem num_Read_empty (w : World) : Calls Tryz.prog 65 #[.string ⟨#[]⟩] w (Ret w (.tuple #[.int .i64 0, .int .i64 60])) := by
  go_enter Tryz.func65, Tryz.ntmps65
  go_wp2_with fail
  go_step3
  go_wp2_with fail
  rw [Exit.noGoto_ret]
  go_ret2
  exact ⟨rfl, by go_grown⟩
set_option maxHeartbeats 2000000 in
theorem num_Read_long (s : ByteArray) (w : World) (h : 16 < s.size) (hs : s.size ≤ 9223372036854775807) : Calls Tryz.prog 65 #[.string s] w (Ret w (.tuple #[.int .i64 0, .int .i64 60])) := by
  have e0 := isEmpty_of_pos (s := s) (by omega)
  have e1 := ne_nil_of_pos (s := s) (by omega)
  have e2 : (16 : Int) < (s.size : Int) := by omega
  go_enter Tryz.func65, Tryz.ntmps65
  go_wp2_with fail
  go_step3
  go_wp2_with fail
  rw [Exit.noGoto_ret]
  go_ret2
  exact ⟨rfl, by go_grown⟩
set_option maxHeartbeats 2000000 in
theorem num_Read_lead (s : ByteArray) (w : World) (h0 : 0 < s.size) (hs : s.size ≤ 16) (h1 : (s[0].toNat : Int) = 48) (h2 : (s.toList == [48]) = false) : Calls Tryz.prog 65 #[.string s] w (Ret w (.tuple #[.int .i64 0, .int .i64 60])) := by
  have e0 := isEmpty_of_pos h0
  have e1 := ne_nil_of_pos h0
  have e2 : (s.size : Int) ≤ 16 := by omega
  go_enter Tryz.func65, Tryz.ntmps65
  go_wp2_with fail
  go_step3
  go_wp2_with fail
  rw [Exit.noGoto_ret]
  go_ret2
  exact ⟨rfl, by go_grown⟩
set_option maxRecDepth 100000 in
set_option maxHeartbeats 2000000 in
theorem num_Read_0 (w : World) : Calls Tryz.prog 65 #[.string ⟨#[48]⟩] w (Ret w (.tuple #[.int .i64 0, .int .i64 0])) := by
  obtain ⟨cap, C, hC, hCs, hcv⟩ := str_bytes (P := Tryz.prog) w 9 38 5 ⟨#[48]⟩ Tryz.underlying9 Tryz.underlying38 Tryz.underlying5
  have hcell : ((w.alloc (.cells C 5 (C.size, C.size + 1))).drew).cell? ⟨w.heap.size, 0, none⟩ = some (.int .u8 48) := (World.cell?_alloc_mark w C _ _ 0).trans (hC 0 (by decide))
  clear hC
  go_enter Tryz.func65, Tryz.ntmps65
  go_wp2_with fail
  go_step3
  go_wp2_with fail
  go_step3
  go_wp2_with fail
  refine wp_loop_rounds 2 ?_
  rw [rounds_succ]
  go_wp2_with fail
  rw [rounds_succ]
  go_wp2_with fail
  (try rw [Exit.noGoto_ret])
  go_ret2
  exact ⟨rfl, by go_grown⟩
/-- num.Read, of every text. -/
theorem num_Read (s : ByteArray) (w : World) (hs : s.size ≤ 9223372036854775807) :
    Calls Tryz.prog 65 #[.string s] w (Ret w (.tuple #[.int .i64 (rdN s.data.toList), .int .i64 (rdE s.data.toList)])) := by
  by_cases h0 : s.size = 0
  · obtain rfl : s = ByteArray.empty := by simpa using h0
    exact num_Read_empty w
  by_cases h1 : 16 < s.size
  · obtain ⟨b1, b2⟩ := rd_bad (numOk_long (l := s.data.toList) (by rw [size_toList]; exact h1))
    rw [b1, b2]
    exact num_Read_long s w h1 hs
  have h0' : 0 < s.size := by omega
  by_cases h2 : s[0] = 48
  · have hh : s.data.toList.head? = some 48 := by rw [List.head?_eq_getElem?, getElem_data s 0 h0', h2]
    by_cases h3 : s.data.toList = [48]
    · obtain rfl : s = ⟨#[48]⟩ := by
        cases s with
        | mk d => congr; exact Array.toList_inj.1 (by simpa using h3)
      exact num_Read_0 w
    · obtain ⟨b1, b2⟩ := rd_bad (numOk_zero hh h3)
      rw [b1, b2]
      exact num_Read_lead s w h0' (by omega) (by rw [h2]; rfl) (by rw [Lib.toList_data]; simpa using h3)
  · exact num_Read_loop s w (by omega) h0' (by
      apply beq_eq_false_iff_ne.2
      intro h
      apply h2
      apply UInt8.toNat_inj.1
      have : s[0].toNat = 48 := by omega
      exact this)
end Go.Proofs.YthgmgmbjjjnhnaaGreatDoor
namespace Go.Proofs.YthgmgmbjjjnhnaaGreatDoor
open Go.RowKit

/-- 'string([]byte{c})'. -/
theorem conv_one {P : Program} (w : World) (src dst e : TypeId) (c : UInt8) (v : Int) (hv : v = (c.toNat : Int)) (hs : P.underlying src = some (.slice e)) (he : P.underlying e = some (.int .u8)) (hd : P.underlying dst = some .string) :
    (convert src dst (.slice (some ⟨w.heap.size, 0, none⟩) 1 1)).run P (w.alloc (.cells #[.int .u8 v] e)) = .ok (.string ⟨#[c]⟩) (w.alloc (.cells #[.int .u8 v] e)) :=
  run_convert_bytes_back (P := P) (w.alloc (.cells #[.int .u8 v] e)) src dst e ⟨w.heap.size, 0, none⟩ 1 [c] hs he hd (fun j hj => by
    obtain rfl : j = 0 := by simp at hj; omega
    subst hv
    simp [Addr.add])
theorem dig_cast {i : Nat} (h : i < 10) : (48 + (i : Int)) = ((UInt8.ofNat (48 + i)).toNat : Int) := by
  rw [dig_toNat h]
  omega

set_option maxRecDepth 100000 in
set_option maxHeartbeats 2000000 in
/-- Digits: the decimal digits. -/
theorem ref06_Digits (n : Nat) (hn : n ≤ 9223372036854775807) (w : World) : Calls Tryz.prog 55 #[.int .i64 n] w (Ret w (.string ⟨(Lib.decDigits n).toArray⟩)) := by
  go_enter Tryz.func55, Tryz.ntmps55
  go_wp2_with fail
  go_loopw [0, 3] (fun i s wr => ∃ (m : Nat) (t : ByteArray), m ≤ n ∧ i = .int .i64 m ∧ s = .string t ∧ Lib.decDigits n = Lib.decDigits m ++ t.data.toList ∧ Below w.heap.size w wr) (fun i _ _ => (intOf i).toNat)
  case atStart => exact ⟨n, ⟨#[]⟩, Nat.le_refl _, rfl, rfl, by simp, by go_grown⟩
  case round =>
    obtain ⟨m, t, hm, rfl, rfl, hd, hBw⟩ := hrel
    have hlen : t.size ≤ 20 := by
      have h1 := congrArg List.length hd
      rw [List.length_append, size_toList, Lib.decDigits_length] at h1
      have := Lib.nDigits_le20 n (by omega)
      omega
    have HD := Lib.hid hd
    clear hd
    have hsz := hBw.size
    by_cases h9 : 9 < m
    · obtain ⟨c, ec⟩ : ∃ c, UInt8.ofNat (48 + m % 10) = c := ⟨_, rfl⟩
      have hc : 48 + (m : Int) % 10 = (c.toNat : Int) := by rw [← ec]; have := dig_cast (i := m % 10) (by omega); omega
      have hcv := conv_one (P := Tryz.prog) wr 38 9 5 c (48 + (m : Int) % 10) hc Tryz.underlying38 Tryz.underlying5 Tryz.underlying9
      have EC := Lib.hid ec
      clear ec hc
      go_wp2
      go_roundw
      case rel => exact ⟨m / 10, ⟨#[c]⟩ ++ t, by omega, by go_num, rfl, by rw [HD.out, decDigits_big (by omega), EC.out]; simp, by go_grown⟩
      case measure => simp [intOf]; omega
    · obtain ⟨c, ec⟩ : ∃ c, UInt8.ofNat (48 + m) = c := ⟨_, rfl⟩
      have hc : 48 + (m : Int) = (c.toNat : Int) := by rw [← ec]; exact dig_cast (by omega)
      have hcv := conv_one (P := Tryz.prog) wr 38 9 5 c (48 + (m : Int)) hc Tryz.underlying38 Tryz.underlying5 Tryz.underlying9
      have EC := Lib.hid ec
      clear ec hc
      go_wp2
      go_ret
      refine ⟨?_, by go_grown⟩
      have h1 := HD.out
      have h2 : Lib.decDigits m = [UInt8.ofNat (48 + m)] := Lib.decDigits_one (by omega)
      rw [h2, EC.out] at h1
      rw [h1]
      rfl
theorem str_append (l1 l2 : List UInt8) : (⟨l1.toArray⟩ : ByteArray) ++ ⟨l2.toArray⟩ = ⟨(l1 ++ l2).toArray⟩ := by
  apply ByteArray.ext
  simp
end Go.Proofs.YthgmgmbjjjnhnaaGreatDoor
namespace Go.Proofs.YthgmgmbjjjnhnaaGreatDoor
open Go.RowKit

set_option maxHeartbeats 2000000 in
/-- value: what at most 16 digits tell; below 0: they are none. -/
theorem ref06_value (s : ByteArray) (hs : s.size ≤ 16) (w : World) : Calls Tryz.prog 150 #[.string s] w (Ret w (.int .i64 (vlF s.data.toList))) := by
  go_enter Tryz.func150, Tryz.ntmps150
  go_wp2_with fail
  go_loop [3, 4] (fun n i => ∃ k : Nat, k ≤ s.size ∧ i = .int .i64 k ∧ n = .int .i64 (valOf 0 (s.data.toList.take k)) ∧ (s.data.toList.take k).all isDig = true) (fun _ i => s.size - (intOf i).toNat)
  case atStart => exact ⟨0, Nat.zero_le _, rfl, rfl, rfl⟩
  case round =>
    obtain ⟨k, hk, rfl, rfl, hall⟩ := hrel
    have hv := valOf_le _ hall (Nat.le_trans (List.length_take_le _ _) (Nat.le_trans hk hs))
    obtain ⟨v, ev⟩ : ∃ v, valOf 0 (s.data.toList.take k) = v := ⟨_, rfl⟩
    rw [ev] at hv ⊢
    have HV := Lib.hid ev
    have HA := Lib.hid hall
    clear ev hall
    by_cases hlt : k < s.size
    · have hlt' : (k : Int) < (s.size : Int) := by omega
      cases hd : isDig s[k]
      · have HD := Lib.hid hd
        have hd1 : (s[k].toNat : Int) < 48 ∨ 57 < (s[k].toNat : Int) := by
          simp only [isDig, Bool.and_eq_false_iff, decide_eq_false_iff_not] at hd
          omega
        have hd3 : (s[k].toNat : Int) ≤ 255 := by have := s[k].toNat_lt; omega
        clear hd
        have B := Lib.hid (vlF_bad (not_all_of s k hlt HD.out))
        rcases hd1 with hd1 | hd1
        · go_wp2
          go_ret
          rw [B.out]
          exact ⟨rfl, by go_grown⟩
        · have hd2 : 48 ≤ (s[k].toNat : Int) := by omega
          go_wp2
          go_ret
          rw [B.out]
          exact ⟨rfl, by go_grown⟩
      · have HD := Lib.hid hd
        have hd1 : 48 ≤ (s[k].toNat : Int) := by simp only [isDig, Bool.and_eq_true, decide_eq_true_eq] at hd; omega
        have hd2 : (s[k].toNat : Int) ≤ 57 := by simp only [isDig, Bool.and_eq_true, decide_eq_true_eq] at hd; omega
        clear hd
        go_wp2
        go_round
        case rel => exact ⟨k + 1, by omega, by go_num, by rw [take_snoc s k hlt, valOf_snoc, HV.out]; go_num, by rw [all_take_snoc s k hlt, HA.out, HD.out]; rfl⟩
        case measure => simp [intOf]; omega
    · obtain rfl : k = s.size := by omega
      have ha := HA.out
      have hv2 := HV.out
      rw [List.take_of_length_le (by rw [size_toList]; exact Nat.le_refl _)] at ha hv2
      have B := Lib.hid (vlF_good ha)
      rw [hv2] at B
      clear ha hv2
      go_wp2
      go_ret
      rw [B.out]
      exact ⟨rfl, by go_grown⟩
set_option maxHeartbeats 2000000 in
theorem ref06_Read_size (s : ByteArray) (w : World) (hs : s.size ≤ 9223372036854775807) (h : s.size = 0 ∨ 16 < s.size) :
    Calls Tryz.prog 112 #[.string s] w (Ret w (.tuple #[.int .i64 0, .int .i64 60])) := by
  rcases h with h | h
  · have h1 : (s.size : Int) < 1 := by omega
    go_enter Tryz.func112, Tryz.ntmps112
    go_wp2_with fail
    go_ret2
    exact ⟨rfl, by go_grown⟩
  · have h1 : 1 ≤ (s.size : Int) := by omega
    have h2 : 16 < (s.size : Int) := by omega
    go_enter Tryz.func112, Tryz.ntmps112
    go_wp2_with fail
    go_ret2
    exact ⟨rfl, by go_grown⟩
set_option maxHeartbeats 2000000 in
theorem ref06_Read_out (s : ByteArray) (w : World) (h0 : 0 < s.size) (hs : s.size ≤ 16) (h : vlF s.data.toList < 0 ∨ 9007199254740991 < vlF s.data.toList) :
    Calls Tryz.prog 112 #[.string s] w (Ret w (.tuple #[.int .i64 0, .int .i64 60])) := by
  have c := ref06_value s hs
  generalize vlF s.data.toList = v at h c
  have C := Lib.hid c
  clear c
  have h1 : 1 ≤ (s.size : Int) := by omega
  have h2 : (s.size : Int) ≤ 16 := by omega
  rcases h with h | h
  · go_enter Tryz.func112, Tryz.ntmps112
    go_wp2_with fail
    refine (C.out _).mono ?_
    rintro e w1 ⟨rfl, hb⟩
    go_wp2_with fail
    go_ret2
    exact ⟨rfl, by go_grown⟩
  · have h3 : 0 ≤ v := by omega
    go_enter Tryz.func112, Tryz.ntmps112
    go_wp2_with fail
    refine (C.out _).mono ?_
    rintro e w1 ⟨rfl, hb⟩
    go_wp2_with fail
    go_ret2
    exact ⟨rfl, by go_grown⟩
set_option maxHeartbeats 2000000 in
theorem ref06_Read_in (s d : ByteArray) (v : Nat) (w : World) (h0 : 0 < s.size) (hs : s.size ≤ 16) (hv : vlF s.data.toList = v) (hm : v ≤ 9007199254740991) (hd : ⟨(Lib.decDigits v).toArray⟩ = d) (b : Bool) (hq : (d.toList == s.toList) = b) :
    Calls Tryz.prog 112 #[.string s] w (Ret w (.tuple #[.int .i64 (if b then (v : Int) else 0), .int .i64 (if b then 0 else 60)])) := by
  have c := ref06_value s hs
  rw [hv] at c
  have c2 := ref06_Digits v (by omega)
  rw [hd] at c2
  have C := Lib.hid c
  have C2 := Lib.hid c2
  clear c c2 hv hd
  have h1 : 1 ≤ (s.size : Int) := by omega
  have h2 : (s.size : Int) ≤ 16 := by omega
  cases b
  all_goals
    go_enter Tryz.func112, Tryz.ntmps112
    go_wp2_with fail
    refine (C.out _).mono ?_
    rintro e w1 ⟨rfl, hb⟩
    go_wp2_with fail
    refine (C2.out _).mono ?_
    rintro e w2 ⟨rfl, hb2⟩
    go_wp2_with fail
    go_ret2
    exact ⟨rfl, hb.trans (hb2.mono hb.size)⟩
/-- The document's Read, of every text. -/
theorem ref06_Read (s : ByteArray) (w : World) (hs : s.size ≤ 9223372036854775807) :
    Calls Tryz.prog 112 #[.string s] w (Ret w (.tuple #[.int .i64 (rdN s.data.toList), .int .i64 (rdE s.data.toList)])) := by
  by_cases h0 : s.size = 0
  · have hl : s.data.toList = [] := List.eq_nil_of_length_eq_zero (by rw [size_toList]; exact h0)
    obtain ⟨b1, b2⟩ := rd_bad (show numOk s.data.toList = false by rw [hl]; rfl)
    rw [b1, b2]
    exact ref06_Read_size s w hs (.inl h0)
  by_cases h1 : 16 < s.size
  · obtain ⟨b1, b2⟩ := rd_bad (numOk_long (l := s.data.toList) (by rw [size_toList]; exact h1))
    rw [b1, b2]
    exact ref06_Read_size s w hs (.inr h1)
  have h0' : 0 < s.size := by omega
  cases ha : s.data.toList.all isDig
  · obtain ⟨b1, b2⟩ := rd_bad (numOk_all ha)
    rw [b1, b2]
    exact ref06_Read_out s w h0' (by omega) (.inl (by rw [vlF_bad ha]; omega))
  · have hv := vlF_good ha
    by_cases hm : valOf 0 s.data.toList ≤ 9007199254740991
    · have key := ref06_Read_in s ⟨(Lib.decDigits (valOf 0 s.data.toList)).toArray⟩ _ w h0' (by omega) hv hm rfl _ rfl
      by_cases hq : Lib.decDigits (valOf 0 s.data.toList) = s.data.toList
      · have ok : numOk s.data.toList = true := by rw [← hq]; exact numOk_dec hm
        obtain ⟨b1, b2⟩ := rd_good ok
        rw [b1, b2]
        rw [Lib.toList_data, Lib.toList_data, show ((⟨(Lib.decDigits (valOf 0 s.data.toList)).toArray⟩ : ByteArray).data.toList == s.data.toList) = true by simpa using hq] at key
        exact key
      · have no : numOk s.data.toList = false := by
          cases hn : numOk s.data.toList
          · rfl
          · exact absurd (dec_of_ok hn).1 hq
        obtain ⟨b1, b2⟩ := rd_bad no
        rw [b1, b2]
        rw [Lib.toList_data, Lib.toList_data, show ((⟨(Lib.decDigits (valOf 0 s.data.toList)).toArray⟩ : ByteArray).data.toList == s.data.toList) = false by simpa using hq] at key
        exact key
    · have no : numOk s.data.toList = false := by
        cases hn : numOk s.data.toList
        · rfl
        · exact absurd (dec_of_ok hn).2 hm
      obtain ⟨b1, b2⟩ := rd_bad no
      rw [b1, b2]
      exact ref06_Read_out s w h0' (by omega) (.inr (by rw [hv]; omega))

end Go.Proofs.YthgmgmbjjjnhnaaGreatDoor
