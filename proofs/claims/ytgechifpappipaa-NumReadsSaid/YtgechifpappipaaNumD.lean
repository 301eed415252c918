/- Levels (num.Level, tidewaiterref06.Level). -/
import Derived.Test.YtgechifpappipaaNumA
import Derived.Test.YtgechifpappipaaNumC
namespace Go.Proofs.Ytgechifpappipaa
open Go.RowKit

/-- num.from. -/
theorem num_from (n a b : Int) (w : World) : Calls Try.prog 32 #[.int .i64 n, .int .i64 a, .int .i64 b] w (Ret w (.bool (decide (a ≤ n) && decide (n ≤ b)))) := by
  by_cases h1 : a ≤ n
  · go_enter Try.func32, Try.ntmps32
    go_wp2
    go_ret
    exact ⟨by simp [h1], by go_grown⟩
  · go_enter Try.func32, Try.ntmps32
    go_wp2
    go_ret
    exact ⟨by rw [decide_eq_false (by omega : ¬ a ≤ n)]; rfl, by go_grown⟩

/-- What a level's text tells. -/
def lvOf (l : List UInt8) : Option Int :=
  match l with
  | 45 :: r => if numOk r && decide (valOf 0 r ≤ 128) && !(valOf 0 r == 0) then some (-(valOf 0 r : Int)) else none
  | l => if numOk l && decide (valOf 0 l ≤ 127) then some (valOf 0 l : Int) else none
def lvN (l : List UInt8) : Int := (lvOf l).getD 0
def lvE (l : List UInt8) : Int := if (lvOf l).isSome then 0 else 60

/-- A level's text is what is written of just one number. -/
theorem lv_some {l : List UInt8} {n : Int} (h1 : -128 ≤ n) (h2 : n ≤ 127) (h : sgnF n = l) : lvOf l = some n := by
  subst h
  unfold sgnF
  by_cases hn : n < 0
  · rw [if_pos hn]
    show (if (numOk (Lib.decDigits n.natAbs) && decide (valOf 0 (Lib.decDigits n.natAbs) ≤ 128) && !(valOf 0 (Lib.decDigits n.natAbs) == 0)) = true then some (-(valOf 0 (Lib.decDigits n.natAbs) : Int)) else none) = some n
    rw [numOk_dec (by omega), valOf_dec]
    have e1 : decide (n.natAbs ≤ 128) = true := decide_eq_true (by omega)
    have e2 : (n.natAbs == 0) = false := by simp; omega
    rw [e1, e2]
    simp
    omega
  · rw [if_neg hn]
    obtain ⟨m, rfl⟩ := Int.eq_ofNat_of_zero_le (by omega : 0 ≤ n)
    rw [Int.toNat_natCast]
    have hall := all_dec m
    have hok := numOk_dec (n := m) (by omega)
    have hv := valOf_dec m
    generalize Lib.decDigits m = d at hall hok hv
    unfold lvOf
    split
    · simp [isDig] at hall
    · rw [hok, hv, decide_eq_true (by omega : m ≤ 127)]
      rfl
theorem lv_none {l : List UInt8} (h : ∀ n : Int, -128 ≤ n → n ≤ 127 → sgnF n ≠ l) : lvOf l = none := by
  unfold lvOf
  split
  · rename_i r
    by_cases hc : (numOk r && decide (valOf 0 r ≤ 128) && !(valOf 0 r == 0)) = true
    · exfalso
      simp only [Bool.and_eq_true, decide_eq_true_eq] at hc
      obtain ⟨⟨c1, c2⟩, c3⟩ := hc
      have hv : valOf 0 r ≠ 0 := by simpa using c3
      apply h (-(valOf 0 r : Int)) (by omega) (by omega)
      unfold sgnF
      rw [if_pos (by omega)]
      have : (-(valOf 0 r : Int)).natAbs = valOf 0 r := by omega
      rw [this, (dec_of_ok c1).1]
    · rw [if_neg hc]
  · by_cases hc : (numOk l && decide (valOf 0 l ≤ 127)) = true
    · exfalso
      simp only [Bool.and_eq_true, decide_eq_true_eq] at hc
      apply h (valOf 0 l : Int) (by omega) (by omega)
      unfold sgnF
      rw [if_neg (by omega), Int.toNat_natCast, (dec_of_ok hc.1).1]
    · rw [if_neg hc]

set_option maxHeartbeats 4000000 in
/-- The document's Level. -/
theorem ref06_Level (s : ByteArray) (w : World) : Calls Try.prog 15 #[.string s] w (Ret w (.tuple #[.int .i64 (lvN s.data.toList), .int .i64 (lvE s.data.toList)])) := by
  go_enter Try.func15, Try.ntmps15
  go_wp2_with fail
  go_loopw [4] (fun i wr => ∃ n : Int, -128 ≤ n ∧ n ≤ 128 ∧ i = .int .i64 n ∧ (∀ m : Int, -128 ≤ m → m < n → sgnF m ≠ s.data.toList) ∧ Below w.heap.size w wr) (fun i _ => (128 - intOf i).toNat)
  case atStart => exact ⟨-128, by omega, by omega, rfl, fun m h1 h2 => by omega, by go_grown⟩
  case round =>
    obtain ⟨n, hn1, hn2, rfl, hno, hBw⟩ := hrel
    have HN := Lib.hid hno
    clear hno
    by_cases hlt : n ≤ 127
    · obtain ⟨d, hd⟩ : ∃ d : ByteArray, ⟨(sgnF n).toArray⟩ = d := ⟨_, rfl⟩
      have c := ref06_Signed n hn1 hlt
      rw [hd] at c
      have C := Lib.hid c
      clear c
      by_cases hq : sgnF n = s.data.toList
      · have e : (d.toList == s.toList) = true := by rw [← hd, Lib.toList_data, Lib.toList_data]; simpa using hq
        have hl := lv_some hn1 hlt hq
        have A1 : Hid (lvN s.data.toList = n) := by show _ = _; unfold lvN; rw [hl]; rfl
        have A2 : Hid (lvE s.data.toList = 0) := by show _ = _; unfold lvE; rw [hl]; rfl
        clear hd hq hl
        go_wp2_with fail
        refine (C.out _).mono ?_
        rintro e w1 ⟨rfl, hb⟩
        go_wp2_with fail
        go_ret2
        rw [A1.out, A2.out]
        exact ⟨rfl, hBw.trans (hb.mono hBw.size)⟩
      · have e : (d.toList == s.toList) = false := by rw [← hd, Lib.toList_data, Lib.toList_data]; simpa using hq
        have HQ := Lib.hid hq
        clear hd hq
        go_wp2_with fail
        refine (C.out _).mono ?_
        rintro e w1 ⟨rfl, hb⟩
        go_wp2_with fail
        go_roundw
        case rel => exact ⟨n + 1, by omega, by omega, rfl, fun m h1 h2 => by
          by_cases hm : m = n
          · subst hm; exact HQ.out
          · exact HN.out m h1 (by omega), hBw.trans (hb.mono hBw.size)⟩
        case measure => simp [intOf]; omega
    · have hl := lv_none (l := s.data.toList) (fun m h1 h2 => HN.out m h1 (by omega))
      have A1 : Hid (lvN s.data.toList = 0) := by show _ = _; unfold lvN; rw [hl]; rfl
      have A2 : Hid (lvE s.data.toList = 60) := by show _ = _; unfold lvE; rw [hl]; rfl
      clear hl
      go_wp2_with fail
      go_ret2
      rw [A1.out, A2.out]
      exact ⟨rfl, hBw⟩
end Go.Proofs.Ytgechifpappipaa
