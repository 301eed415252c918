/- A text's first code point, as the document finds it, plain: how many bytes the first one tells, the number, and its bytes again. -/
import Derived.Test.YtfonkblbgadhmaaDoorJdP
import Derived.Lib.TrimUEq
import Derived.Lib.DecodeN
namespace Go.Proofs.YtfonkblbgadhmaaDoor
open Go.Lib

/-- how many bytes the first one tells, and its bits. -/
def hdN (b : Nat) : Nat × Nat := if b < 128 then (1, b) else if 192 ≤ b ∧ b < 224 then (2, b - 192) else if 224 ≤ b ∧ b < 240 then (3, b - 224) else if 240 ≤ b ∧ b < 248 then (4, b - 240) else (0, 0)
/-- the number of so many bytes. -/
def nmN (sz h b1 b2 b3 : Nat) : Nat := if sz = 1 then h else if sz = 2 then 64 * h + b1 % 64 else if sz = 3 then 64 * (64 * h + b1 % 64) + b2 % 64 else 64 * (64 * (64 * h + b1 % 64) + b2 % 64) + b3 % 64
/-- the bytes of a number. -/
def byN (n : Nat) : List Nat := if n < 128 then [n] else if n < 2048 then [192 + n / 64, 128 + n % 64] else if n < 65536 then [224 + n / 4096, 128 + n / 64 % 64, 128 + n % 64] else [240 + n / 262144, 128 + n / 4096 % 64, 128 + n / 64 % 64, 128 + n % 64]
/-- what One finds: how many bytes; 0: none. -/
def okN (n b0 b1 b2 b3 : Nat) : Bool := decide ((hdN b0).1 ≠ 0) && decide ((hdN b0).1 ≤ n) && (mayP (nmN (hdN b0).1 (hdN b0).2 b1 b2 b3) && decide (byN (nmN (hdN b0).1 (hdN b0).2 b1 b2 b3) = [b0, b1, b2, b3].take (hdN b0).1))
theorem may_facts (n : Nat) (h : mayP n = true) : n ≤ 1114111 ∧ (n < 55296 ∨ 57343 < n) := by
  unfold mayP at h
  split at h
  · omega
  · simp only [Bool.and_eq_true, Bool.or_eq_true, decide_eq_true_eq] at h
    omega
set_option maxRecDepth 100000 in
set_option maxHeartbeats 4000000 in
theorem one_N (n b0 b1 b2 b3 r k : Nat) (hn : 1 ≤ n) (h0 : b0 < 256) (h1 : b1 < 256) (h2 : b2 < 256) (h3 : b3 < 256) (h : decodeN n b0 b1 b2 b3 = (r, k)) :
    okN n b0 b1 b2 b3 = !decide ((r = 65533 ∧ k = 1) ∨ mayP r = false) ∧ (okN n b0 b1 b2 b3 = true → (hdN b0).1 = k) := by
  unfold okN
  by_cases c1 : b0 < 128
  · have e1 : hdN b0 = (1, b0) := by unfold hdN; rw [if_pos c1]
    rw [e1]
    have e2 : (r, k) = (b0, 1) := by rw [← h]; unfold decodeN; rw [if_pos c1]
    obtain ⟨rfl, rfl⟩ := Prod.mk.inj e2
    have e3 : nmN 1 r b1 b2 b3 = r := rfl
    have e4 : byN r = [r] := by unfold byN; rw [if_pos c1]
    have e5 : r ≠ 65533 := by omega
    simp [e3, e4, e5, hn]
  · by_cases c2 : 192 ≤ b0 ∧ b0 < 224
    · have e1 : hdN b0 = (2, b0 - 192) := by unfold hdN; rw [if_neg c1, if_pos c2]
      rw [e1]
      have e3 : nmN 2 (b0 - 192) b1 b2 b3 = 64 * (b0 - 192) + b1 % 64 := rfl
      rw [e3]
      obtain ⟨m, hm⟩ : ∃ m, 64 * (b0 - 192) + b1 % 64 = m := ⟨_, rfl⟩
      rw [hm]
      have e4 : (byN m = [b0, b1]) ↔ (128 ≤ m ∧ 128 ≤ b1 ∧ b1 < 192) := by
        unfold byN
        repeat' split
        all_goals simp
        all_goals omega
      have e5 : [b0, b1, b2, b3].take 2 = [b0, b1] := rfl
      rw [e5]
      by_cases c3 : 2 ≤ n ∧ 128 ≤ m ∧ 128 ≤ b1 ∧ b1 < 192
      · have e6 : (r, k) = (m, 2) := by
          rw [← h]; unfold decodeN; rw [if_neg c1, if_pos (by omega), if_pos (by omega)]
          congr 1; omega
        obtain ⟨rfl, rfl⟩ := Prod.mk.inj e6
        simp [e4, c3]
      · have e6 : (r, k) = (65533, 1) := by
          rw [← h]; unfold decodeN; rw [if_neg c1]
          split
          · rw [if_neg (by omega)]
          · rw [if_neg (by omega), if_neg (by omega)]
        obtain ⟨rfl, rfl⟩ := Prod.mk.inj e6
        have : (decide (2 ≤ n) && (mayP m && decide (byN m = [b0, b1]))) = false := by
          simp only [Bool.and_eq_false_iff, decide_eq_false_iff_not, e4]
          by_cases q : 2 ≤ n
          · exact .inr (.inr (by omega))
          · exact .inl q
        simp [this]
    · by_cases c3 : 224 ≤ b0 ∧ b0 < 240
      · have e1 : hdN b0 = (3, b0 - 224) := by unfold hdN; rw [if_neg c1, if_neg c2, if_pos c3]
        rw [e1]
        have e3 : nmN 3 (b0 - 224) b1 b2 b3 = 64 * (64 * (b0 - 224) + b1 % 64) + b2 % 64 := rfl
        rw [e3]
        obtain ⟨m, hm⟩ : ∃ m, 64 * (64 * (b0 - 224) + b1 % 64) + b2 % 64 = m := ⟨_, rfl⟩
        rw [hm]
        have e4 : (byN m = [b0, b1, b2]) ↔ (2048 ≤ m ∧ 128 ≤ b1 ∧ b1 < 192 ∧ 128 ≤ b2 ∧ b2 < 192) := by
          unfold byN
          repeat' split
          all_goals simp
          all_goals omega
        have e5 : [b0, b1, b2, b3].take 3 = [b0, b1, b2] := rfl
        rw [e5]
        have e8 : mayP m = true → (m < 55296 ∨ 57343 < m) := fun q => (may_facts m q).2
        by_cases c4 : 3 ≤ n ∧ 2048 ≤ m ∧ 128 ≤ b1 ∧ b1 < 192 ∧ 128 ≤ b2 ∧ b2 < 192
        · by_cases c5 : m < 55296 ∨ 57343 < m
          · have e6 : (r, k) = (m, 3) := by
              rw [← h]; unfold decodeN; rw [if_neg c1, if_neg (by omega), if_pos (by omega), if_pos (by omega)]
              congr 1; omega
            obtain ⟨rfl, rfl⟩ := Prod.mk.inj e6
            simp [e4, c4]
          · have e6 : (r, k) = (65533, 1) := by
              rw [← h]; unfold decodeN; rw [if_neg c1, if_neg (by omega), if_pos (by omega), if_neg (by omega)]
            obtain ⟨rfl, rfl⟩ := Prod.mk.inj e6
            have e9 : mayP m = false := by
              cases hq : mayP m with
              | false => rfl
              | true => exact absurd (e8 hq) c5
            simp [e9]
        · have e6 : (r, k) = (65533, 1) := by
            rw [← h]; unfold decodeN; rw [if_neg c1, if_neg (by omega)]
            split
            · rw [if_neg (by omega)]
            · rw [if_neg (by omega)]
          obtain ⟨rfl, rfl⟩ := Prod.mk.inj e6
          have : (decide (3 ≤ n) && (mayP m && decide (byN m = [b0, b1, b2]))) = false := by
            simp only [Bool.and_eq_false_iff, decide_eq_false_iff_not, e4]
            by_cases q : 3 ≤ n
            · exact .inr (.inr (by omega))
            · exact .inl q
          simp [this]
      · by_cases c4 : 240 ≤ b0 ∧ b0 < 248
        · have e1 : hdN b0 = (4, b0 - 240) := by unfold hdN; rw [if_neg c1, if_neg c2, if_neg c3, if_pos c4]
          rw [e1]
          have e3 : nmN 4 (b0 - 240) b1 b2 b3 = 64 * (64 * (64 * (b0 - 240) + b1 % 64) + b2 % 64) + b3 % 64 := rfl
          rw [e3]
          obtain ⟨m, hm⟩ : ∃ m, 64 * (64 * (64 * (b0 - 240) + b1 % 64) + b2 % 64) + b3 % 64 = m := ⟨_, rfl⟩
          rw [hm]
          have e4 : (byN m = [b0, b1, b2, b3]) ↔ (65536 ≤ m ∧ 128 ≤ b1 ∧ b1 < 192 ∧ 128 ≤ b2 ∧ b2 < 192 ∧ 128 ≤ b3 ∧ b3 < 192) := by
            unfold byN
            repeat' split
            all_goals simp
            all_goals omega
          have e5 : [b0, b1, b2, b3].take 4 = [b0, b1, b2, b3] := rfl
          rw [e5]
          have e8 : mayP m = true → m ≤ 1114111 := fun q => (may_facts m q).1
          by_cases c5 : 4 ≤ n ∧ 65536 ≤ m ∧ 128 ≤ b1 ∧ b1 < 192 ∧ 128 ≤ b2 ∧ b2 < 192 ∧ 128 ≤ b3 ∧ b3 < 192
          · by_cases c6 : m ≤ 1114111
            · have e6 : (r, k) = (m, 4) := by
                rw [← h]; unfold decodeN; rw [if_neg c1, if_neg (by omega), if_neg (by omega), if_pos (by omega), if_pos (by omega)]
                congr 1; omega
              obtain ⟨rfl, rfl⟩ := Prod.mk.inj e6
              simp [e4, c5]
            · have e6 : (r, k) = (65533, 1) := by
                rw [← h]; unfold decodeN; rw [if_neg c1, if_neg (by omega), if_neg (by omega), if_pos (by omega), if_neg (by omega)]
              obtain ⟨rfl, rfl⟩ := Prod.mk.inj e6
              have e9 : mayP m = false := by
                cases hq : mayP m with
                | false => rfl
                | true => exact absurd (e8 hq) c6
              simp [e9]
          · have e6 : (r, k) = (65533, 1) := by
              rw [← h]; unfold decodeN; rw [if_neg c1, if_neg (by omega), if_neg (by omega)]
              split
              · rw [if_neg (by omega)]
              · rfl
            obtain ⟨rfl, rfl⟩ := Prod.mk.inj e6
            have : (decide (4 ≤ n) && (mayP m && decide (byN m = [b0, b1, b2, b3]))) = false := by
              simp only [Bool.and_eq_false_iff, decide_eq_false_iff_not, e4]
              by_cases q : 4 ≤ n
              · exact .inr (.inr (by omega))
              · exact .inl q
            simp [this]
        · have e1 : hdN b0 = (0, 0) := by unfold hdN; rw [if_neg c1, if_neg c2, if_neg c3, if_neg c4]
          rw [e1]
          have e6 : (r, k) = (65533, 1) := by
            rw [← h]; unfold decodeN; rw [if_neg c1, if_neg (by omega), if_neg (by omega), if_neg (by omega)]
          obtain ⟨rfl, rfl⟩ := Prod.mk.inj e6
          simp
/-- One finds a code point at a list's beginning. -/
def okL (l : List UInt8) : Bool := okN l.length (l.getD 0 0).toNat (l.getD 1 0).toNat (l.getD 2 0).toNat (l.getD 3 0).toNat
def szL (l : List UInt8) : Nat := (hdN (l.getD 0 0).toNat).1
theorem txP_ok (l : List UInt8) (h : l ≠ []) : txP l = (okL l && txP (l.drop (szL l))) := by
  have hl : 1 ≤ l.length := List.length_pos_iff.2 h
  obtain ⟨h1, h2⟩ := one_N l.length _ _ _ _ (decodeL l).1 (decodeL l).2 hl (UInt8.toNat_lt (l.getD 0 0)) (UInt8.toNat_lt (l.getD 1 0)) (UInt8.toNat_lt (l.getD 2 0)) (UInt8.toNat_lt (l.getD 3 0)) (by rw [← decodeL_N])
  have e : okL l = okN l.length (l.getD 0 0).toNat (l.getD 1 0).toNat (l.getD 2 0).toNat (l.getD 3 0).toNat := rfl
  rw [← e] at h1 h2
  rw [txP_step l h]
  by_cases hb : ((decodeL l).1 = 65533 ∧ (decodeL l).2 = 1) ∨ mayP (decodeL l).1 = false
  · rw [if_pos hb, h1, decide_eq_true hb]
    rfl
  · rw [if_neg hb]
    rw [decide_eq_false hb] at h1
    rw [h1, show szL l = (decodeL l).2 from h2 h1]
    rfl
theorem okL_sz (l : List UInt8) (h : okL l = true) : 1 ≤ szL l ∧ szL l ≤ l.length := by
  unfold okL okN at h
  simp only [Bool.and_eq_true, decide_eq_true_eq] at h
  unfold szL
  omega
end Go.Proofs.YtfonkblbgadhmaaDoor
