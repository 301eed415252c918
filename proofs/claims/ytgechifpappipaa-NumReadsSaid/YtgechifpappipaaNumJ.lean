/- The document's Version. -/
import Derived.Test.YtgechifpappipaaNumC
import Derived.Test.YtgechifpappipaaNumV
namespace Go.Proofs.Ytgechifpappipaa
open Go.RowKit

set_option maxHeartbeats 2000000 in
theorem ref06_Version_long (s : ByteArray) (w : World) (hs : s.size ≤ 9223372036854775807) (h : 5 < s.size) :
    Calls Try.prog 17 #[.string s] w (Ret w (.tuple #[.int .i64 0, .int .i64 0, .int .i64 60])) := by
  have h1 : 5 < (s.size : Int) := by omega
  go_enter Try.func17, Try.ntmps17
  go_wp2_with fail
  go_ret3
  exact ⟨rfl, by go_grown⟩
set_option maxHeartbeats 4000000 in
theorem ref06_Version_short (s : ByteArray) (w : World) (hs : s.size ≤ 5) :
    Calls Try.prog 17 #[.string s] w (Ret w (.tuple #[.int .i64 (vsA s.data.toList), .int .i64 (vsB s.data.toList), .int .i64 (vsE s.data.toList)])) := by
  have h1 : (s.size : Int) ≤ 5 := by omega
  go_enter Try.func17, Try.ntmps17
  go_wp2_with fail
  go_loopw [5] (fun i wr => ∃ n : Nat, n ≤ 100 ∧ i = .int .i64 n ∧ (∀ a b : Nat, a < n → b ≤ 99 → Lib.decDigits a ++ 46 :: Lib.decDigits b ≠ s.data.toList) ∧ Below w.heap.size w wr) (fun i _ => 100 - (intOf i).toNat)
  case atStart => exact ⟨0, by omega, rfl, fun a b h _ => by omega, by go_grown⟩
  case round =>
    obtain ⟨n, hn, rfl, hno, hBw⟩ := hrel
    have HN := Lib.hid hno
    clear hno
    by_cases hlt : n ≤ 99
    · have h11 : decide ((n : Int) ≤ 99) = true := by simp; omega
      obtain ⟨wo, rfl⟩ : ∃ wo : World, wo = wr := ⟨_, rfl⟩
      obtain ⟨d, hd⟩ : ∃ d : ByteArray, ⟨(Lib.decDigits n).toArray⟩ = d := ⟨_, rfl⟩
      have c := ref06_Digits n (by omega)
      have hd2 : d.size ≤ 2 := by
        rw [← hd, ← size_toList]
        exact dec_len2 hlt
      rw [hd] at c
      have C := Lib.hid c
      have HD := Lib.hid hd
      clear c hd
      go_wp2_with fail
      go_loopw [6] (fun j wi => ∃ m : Nat, m ≤ 100 ∧ j = .int .i64 m ∧ (∀ b : Nat, b < m → Lib.decDigits n ++ 46 :: Lib.decDigits b ≠ s.data.toList) ∧ Below w.heap.size w wi) (fun j _ => 100 - (intOf j).toNat)
      case atStart => exact ⟨0, by omega, rfl, fun b h => by omega, hBw⟩
      case round =>
        obtain ⟨m, hm, rfl, hmo, hBi⟩ := hrel
        have HM := Lib.hid hmo
        clear hmo
        by_cases hlm : m ≤ 99
        · obtain ⟨f, hf⟩ : ∃ f : ByteArray, ⟨(Lib.decDigits m).toArray⟩ = f := ⟨_, rfl⟩
          have c2 := ref06_Digits m (by omega)
          have hf2 : f.size ≤ 2 := by
            rw [← hf, ← size_toList]
            exact dec_len2 hlm
          rw [hf] at c2
          have C2 := Lib.hid c2
          have HF := Lib.hid hf
          clear c2 hf
          have hl : (d ++ ⟨#[46]⟩ ++ f).data.toList = Lib.decDigits n ++ 46 :: Lib.decDigits m := by
            rw [← HD.out, ← HF.out]
            simp
          by_cases hq : Lib.decDigits n ++ 46 :: Lib.decDigits m = s.data.toList
          · have e : ((d ++ ⟨#[46]⟩ ++ f).toList == s.toList) = true := by rw [Lib.toList_data, Lib.toList_data, hl]; simpa using hq
            obtain ⟨x, y, z⟩ := vs_is (vs_some hlt hlm hq)
            have X := Lib.hid x
            have Y := Lib.hid y
            have Z := Lib.hid z
            clear hl hq x y z
            go_wp2_with fail
            refine (C.out _).mono ?_
            rintro e w1 ⟨rfl, hb1⟩
            go_wp2_with fail
            refine (C2.out _).mono ?_
            rintro e w2 ⟨rfl, hb2⟩
            go_wp2_with fail
            go_ret3
            rw [X.out, Y.out, Z.out]
            exact ⟨rfl, (hBi.trans (hb1.mono hBi.size)).trans (hb2.mono (Nat.le_trans hBi.size hb1.size))⟩
          · have e : ((d ++ ⟨#[46]⟩ ++ f).toList == s.toList) = false := by rw [Lib.toList_data, Lib.toList_data, hl]; simpa using hq
            have HQ := Lib.hid hq
            clear hl hq
            go_wp2_with fail
            refine (C.out _).mono ?_
            rintro e w1 ⟨rfl, hb1⟩
            go_wp2_with fail
            refine (C2.out _).mono ?_
            rintro e w2 ⟨rfl, hb2⟩
            go_wp2_with fail
            go_roundw
            case rel =>
              have key : ∃ m' : Nat, m' ≤ 100 ∧ Value.int .i64 ((m : Int) + 1) = .int .i64 m' ∧ (∀ b : Nat, b < m' → Lib.decDigits n ++ 46 :: Lib.decDigits b ≠ s.data.toList) ∧ Below w.heap.size w w2 := ⟨m + 1, by omega, by go_num, fun b h => by
                by_cases hb : b = m
                · subst hb; exact HQ.out
                · exact HM.out b (by omega), (hBi.trans (hb1.mono hBi.size)).trans (hb2.mono (Nat.le_trans hBi.size hb1.size))⟩
              first | exact key | ((repeat apply Exists.intro); exact ⟨key, rfl⟩)
            case measure => simp [intOf]; omega
        · go_wp2_with fail
          go_roundw
          case rel => exact ⟨n + 1, by omega, by go_num, fun a b h hb => by
            by_cases ha : a = n
            · subst ha; exact HM.out b (by omega)
            · exact HN.out a b (by omega) hb, hBi⟩
          case measure => simp [intOf]; omega
    · obtain ⟨x, y, z⟩ := vs_no (vs_none (l := s.data.toList) (fun a b ha hb => HN.out a b (by omega) hb))
      have X := Lib.hid x
      have Y := Lib.hid y
      have Z := Lib.hid z
      clear x y z
      go_wp2_with fail
      go_ret3
      rw [X.out, Y.out, Z.out]
      exact ⟨rfl, hBw⟩
theorem ref06_Version (s : ByteArray) (w : World) (hs : s.size ≤ 9223372036854775807) :
    Calls Try.prog 17 #[.string s] w (Ret w (.tuple #[.int .i64 (vsA s.data.toList), .int .i64 (vsB s.data.toList), .int .i64 (vsE s.data.toList)])) := by
  by_cases h : 5 < s.size
  · obtain ⟨a, b, c⟩ := vs_no (vs_long (l := s.data.toList) (by rw [size_toList]; exact h))
    rw [a, b, c]
    exact ref06_Version_long s w hs h
  · exact ref06_Version_short s w (by omega)
end Go.Proofs.Ytgechifpappipaa
