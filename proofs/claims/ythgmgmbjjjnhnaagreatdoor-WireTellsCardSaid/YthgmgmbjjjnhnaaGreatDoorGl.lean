/- ChP, ChR: put together by mergetpl.py. -/
import Derived.Test.YthgmgmbjjjnhnaaGreatDoorGk
namespace Go.Proofs.YthgmgmbjjjnhnaaGreatDoor
open Go.RowKit

/-- The content, how many bytes, whether done, the error: what a run tells. -/
def CR.tell : CR → List UInt8 × Nat × Bool × Int
  | .err e => ([], 0, false, e)
  | .whole m n => (m.body, n, true, 0)
  | .waits _ => ([], 0, false, 0)
theorem dcOf_tell (l : List UInt8) : dcOf l = (CM.zero.run 0 l).tell := by
  unfold dcOf CR.tell
  cases CM.zero.run 0 l <;> rfl
theorem run_cons (m : CM) (n : Nat) (c : UInt8) (l : List UInt8) : m.run n (c :: l) = if (m.take c).2 ≠ 0 then .err (m.take c).2 else if (m.take c).1.st = 7 then .whole (m.take c).1 (n + 1) else CM.run (m.take c).1 (n + 1) l := rfl
theorem run_on {m m' : CM} {n : Nat} {c : UInt8} {l : List UInt8} (h : m.take c = (m', 0)) (h7 : m'.st ≠ 7) : m.run n (c :: l) = m'.run (n + 1) l := by
  rw [run_cons, h]
  simp [h7]
theorem run_no {m m' : CM} {n : Nat} {c : UInt8} {l : List UInt8} {e : Int} (h : m.take c = (m', e)) (he : e ≠ 0) : m.run n (c :: l) = .err e := by
  rw [run_cons, h]
  simp [he]
theorem run_end {m m' : CM} {n : Nat} {c : UInt8} {l : List UInt8} (h : m.take c = (m', 0)) (h7 : m'.st = 7) : m.run n (c :: l) = .whole m' (n + 1) := by
  rw [run_cons, h]
  simp [h7]

/-- The machine at a chunk's beginning. -/
abbrev CM.at0 (sz mn : Nat) (body : List UInt8) : CM := ⟨0, sz, mn, 0, body⟩

theorem at0_last {sz mn n : Nat} {body l : List UInt8} : (CM.at0 sz mn body).run n (48 :: 13 :: 10 :: 13 :: 10 :: l) = .whole ⟨7, sz, mn, 0, body⟩ (n + 5) := by
  rw [run_on (m' := ⟨5, sz, mn, 0, body⟩) (by simp [CM.take]) (by simp), run_on (m' := ⟨5, sz, mn, 1, body⟩) (by simp [CM.take, CM.mark]) (by simp), run_on (m' := ⟨6, sz, mn, 0, body⟩) (by simp [CM.take, CM.mark]) (by simp), run_on (m' := ⟨6, sz, mn, 1, body⟩) (by simp [CM.take, CM.mark]) (by simp), run_end (m' := ⟨7, sz, mn, 0, body⟩) (by simp [CM.take, CM.mark]) rfl]
/-- What begins with a 0 and is neither. -/
theorem at0_zero {sz mn n : Nat} {body : List UInt8} : ∀ (l : List UInt8), (¬ ([48, 13, 10, 13, 10] : List UInt8) <+: 48 :: l) →
    ((48 :: l : List UInt8) <+: [48, 13, 10, 13, 10] → ∃ m, (CM.at0 sz mn body).run n (48 :: l) = .waits m) ∧ ((¬ (48 :: l : List UInt8) <+: [48, 13, 10, 13, 10]) → (CM.at0 sz mn body).run n (48 :: l) = .err 160) := by
  intro l h
  rw [run_on (m' := ⟨5, sz, mn, 0, body⟩) (by simp [CM.take]) (by simp)]
  match l with
  | [] => exact ⟨fun _ => ⟨_, rfl⟩, fun h => absurd (by decide) h⟩
  | a :: l =>
    by_cases ha : a = 13
    · subst ha
      rw [run_on (m' := ⟨5, sz, mn, 1, body⟩) (by simp [CM.take, CM.mark]) (by simp)]
      match l with
      | [] => exact ⟨fun _ => ⟨_, rfl⟩, fun h => absurd (by decide) h⟩
      | b :: l =>
        by_cases hb : b = 10
        · subst hb
          rw [run_on (m' := ⟨6, sz, mn, 0, body⟩) (by simp [CM.take, CM.mark]) (by simp)]
          match l with
          | [] => exact ⟨fun _ => ⟨_, rfl⟩, fun h => absurd (by decide) h⟩
          | c :: l =>
            by_cases hc : c = 13
            · subst hc
              rw [run_on (m' := ⟨6, sz, mn, 1, body⟩) (by simp [CM.take, CM.mark]) (by simp)]
              match l with
              | [] => exact ⟨fun _ => ⟨_, rfl⟩, fun h => absurd (by decide) h⟩
              | d :: l =>
                by_cases hd : d = 10
                · subst hd
                  exact absurd (by simp) h
                · refine ⟨fun h => ?_, fun _ => run_no (m' := ⟨7, sz, mn, 0, body⟩) (e := 160) (by simp [CM.take, CM.mark, hd]) (by simp)⟩
                  simp [hd] at h
            · refine ⟨fun h => ?_, fun _ => run_no (m' := ⟨6, sz, mn, 1, body⟩) (e := 160) (by simp [CM.take, CM.mark, hc]) (by simp)⟩
              simp [hc] at h
        · refine ⟨fun h => ?_, fun _ => run_no (m' := ⟨6, sz, mn, 0, body⟩) (e := 160) (by simp [CM.take, CM.mark, hb]) (by simp)⟩
          simp [hb] at h
    · refine ⟨fun h => ?_, fun _ => run_no (m' := ⟨5, sz, mn, 1, body⟩) (e := 160) (by simp [CM.take, CM.mark, ha]) (by simp)⟩
      simp [ha] at h

/-- What digits tell, behind k of them that tell n: how far, and what. -/
def hexRun (k n : Nat) : List UInt8 → Nat × Nat
  | [] => (n, k)
  | c :: l => if k < 4 ∧ 0 ≤ hexN c ∧ (0 < k ∨ c ≠ 48) then hexRun (k + 1) (16 * n + (hexN c).toNat) l else (n, k)
theorem hexRun_le (l : List UInt8) : ∀ k n, k ≤ 4 → k ≤ (hexRun k n l).2 ∧ (hexRun k n l).2 ≤ 4 ∧ (hexRun k n l).2 ≤ k + l.length := by
  induction l with
  | nil => intro k n h; simp [hexRun]; omega
  | cons c l ih =>
    intro k n h
    simp only [hexRun]
    split
    · have := ih (k + 1) (16 * n + (hexN c).toNat) (by omega)
      simp only [List.length_cons]
      omega
    · simp only [List.length_cons]
      omega
theorem hexRun_lt (l : List UInt8) : ∀ k n, n < 16 ^ k → (hexRun k n l).1 < 16 ^ (hexRun k n l).2 := by
  induction l with
  | nil => intro k n h; exact h
  | cons c l ih =>
    intro k n h
    simp only [hexRun]
    split
    · refine ih _ _ ?_
      have := hexN_le c
      rw [Nat.pow_succ]
      omega
    · exact h
/-- The machine goes over the digits. -/
theorem run_hex {body : List UInt8} (l : List UInt8) : ∀ (k n at' : Nat), 0 < k → k ≤ 4 →
    (⟨1, n, k, 0, body⟩ : CM).run at' l = (⟨1, (hexRun k n l).1, (hexRun k n l).2, 0, body⟩ : CM).run (at' + ((hexRun k n l).2 - k)) (l.drop ((hexRun k n l).2 - k)) := by
  induction l with
  | nil => intro k n at' _ _; simp [hexRun]
  | cons c l ih =>
    intro k n at' h0 h4
    by_cases h : k < 4 ∧ 0 ≤ hexN c ∧ (0 < k ∨ c ≠ 48)
    · have hle := hexRun_le l (k + 1) (16 * n + (hexN c).toNat) (by omega)
      have e : hexRun k n (c :: l) = hexRun (k + 1) (16 * n + (hexN c).toNat) l := by simp only [hexRun]; rw [if_pos h]
      rw [run_on (m' := ⟨1, 16 * n + (hexN c).toNat, k + 1, 0, body⟩) (by simp [CM.take, CM.digits, h.1, h.2.1]) (by simp), ih (k + 1) _ (at' + 1) (by omega) (by omega), e]
      rw [show (hexRun (k + 1) (16 * n + (hexN c).toNat) l).2 - k = ((hexRun (k + 1) (16 * n + (hexN c).toNat) l).2 - (k + 1)) + 1 by omega, List.drop_succ_cons]
      congr 1
      omega
    · have e : hexRun k n (c :: l) = (n, k) := by simp only [hexRun]; rw [if_neg h]
      rw [e]
      simp
/-- Behind the digits: there is no further one that is taken. -/
theorem hexRun_stop (l : List UInt8) : ∀ (k n : Nat), 0 < k → k ≤ 4 → ∀ c r, l.drop ((hexRun k n l).2 - k) = c :: r → ¬ (0 ≤ hexN c ∧ (hexRun k n l).2 < 4) := by
  induction l with
  | nil => intro k n _ _ c r h; simp at h
  | cons c l ih =>
    intro k n h0 h4 x r hx
    by_cases h : k < 4 ∧ 0 ≤ hexN c ∧ (0 < k ∨ c ≠ 48)
    · have hle := hexRun_le l (k + 1) (16 * n + (hexN c).toNat) (by omega)
      have e : hexRun k n (c :: l) = hexRun (k + 1) (16 * n + (hexN c).toNat) l := by simp only [hexRun]; rw [if_pos h]
      rw [e] at hx ⊢
      rw [show (hexRun (k + 1) (16 * n + (hexN c).toNat) l).2 - k = ((hexRun (k + 1) (16 * n + (hexN c).toNat) l).2 - (k + 1)) + 1 by omega, List.drop_succ_cons] at hx
      exact ih _ _ (by omega) (by omega) _ _ hx
    · have e : hexRun k n (c :: l) = (n, k) := by simp only [hexRun]; rw [if_neg h]
      rw [e] at hx ⊢
      simp at hx
      obtain ⟨rfl, rfl⟩ := hx
      intro hc
      exact h ⟨hc.2, hc.1, .inl h0⟩
/-- The machine goes over data. -/
theorem run_data {mn : Nat} (d r : List UInt8) : ∀ (sz at' : Nat) (body : List UInt8), d.length ≤ sz →
    (⟨3, sz, mn, 0, body⟩ : CM).run at' (d ++ r) = (⟨3, sz - d.length, mn, 0, body ++ d⟩ : CM).run (at' + d.length) r := by
  induction d with
  | nil => intro sz at' body _; simp
  | cons c d ih =>
    intro sz at' body h
    simp only [List.length_cons] at h
    rw [List.cons_append, run_on (m' := ⟨3, sz - 1, mn, 0, body ++ [c]⟩) (by simp [CM.take]; omega) (by simp), ih _ _ _ (by omega)]
    simp only [List.length_cons, List.append_assoc, List.singleton_append]
    rw [show sz - 1 - d.length = sz - (d.length + 1) by omega, show at' + 1 + d.length = at' + (d.length + 1) by omega]

/-- The first digit. -/
theorem at0_first {sz mn n : Nat} {body : List UInt8} {c : UInt8} {l : List UInt8} (h48 : c ≠ 48) (hd : 0 ≤ hexN c) : (CM.at0 sz mn body).run n (c :: l) = (⟨1, (hexN c).toNat, 1, 0, body⟩ : CM).run (n + 1) l :=
  run_on (by simp [CM.take, CM.digits, h48, hd]) (by simp)
/-- No digit at all. -/
theorem at0_none {sz mn n : Nat} {body : List UInt8} {c : UInt8} {l : List UInt8} (h48 : c ≠ 48) (hd : ¬ 0 ≤ hexN c) : (CM.at0 sz mn body).run n (c :: l) = .err 160 :=
  run_no (m' := ⟨1, 0, 0, 0, body⟩) (by simp [CM.take, CM.digits, h48, hd]) (by simp)

/-- A chunk's digits, as the document reads them. -/
abbrev szOf (l : List UInt8) : Nat × Nat := hexRun 0 0 l
theorem szOf_none {c : UInt8} {l : List UInt8} (h : (szOf (c :: l)).2 = 0) : c = 48 ∨ ¬ 0 ≤ hexN c := by
  unfold szOf at h
  simp only [hexRun] at h
  split at h
  · have := hexRun_le l (0 + 1) (16 * 0 + (hexN c).toNat) (by omega)
    omega
  · rename_i h'
    by_cases e : c = 48
    · exact .inl e
    · exact .inr fun h2 => h' ⟨by omega, h2, .inr e⟩
theorem szOf_some {l : List UInt8} (h : (szOf l).2 ≠ 0) : ∃ c r, l = c :: r ∧ c ≠ 48 ∧ 0 ≤ hexN c ∧ szOf l = hexRun 1 (hexN c).toNat r := by
  match l with
  | [] => simp [hexRun] at h
  | c :: r =>
    unfold szOf at h ⊢
    simp only [hexRun] at h ⊢
    split at h
    · rename_i h'
      rw [if_pos h']
      refine ⟨c, r, rfl, by rcases h'.2.2 with h | h; omega; exact h, h'.2.1, by simp⟩
    · simp at h
/-- THE MACHINE OVER A CHUNK'S DIGITS. -/
theorem at0_digits {sz mn n : Nat} {body l : List UInt8} (h : (szOf l).2 ≠ 0) : (CM.at0 sz mn body).run n l = (⟨1, (szOf l).1, (szOf l).2, 0, body⟩ : CM).run (n + (szOf l).2) (l.drop (szOf l).2) := by
  obtain ⟨c, r, rfl, h48, hd, e⟩ := szOf_some h
  rw [at0_first h48 hd, run_hex r 1 _ _ (by omega) (by omega), e]
  have := hexRun_le r 1 (hexN c).toNat (by omega)
  obtain ⟨j, hj⟩ : ∃ j, (hexRun 1 (hexN c).toNat r).2 = j + 1 := ⟨(hexRun 1 (hexN c).toNat r).2 - 1, by omega⟩
  rw [hj]
  simp only [Nat.add_sub_cancel, List.drop_succ_cons]
  rw [show n + 1 + j = n + (j + 1) by omega]
theorem szOf_stop {l : List UInt8} (h : (szOf l).2 ≠ 0) {c : UInt8} {r : List UInt8} (hc : l.drop (szOf l).2 = c :: r) : ¬ (0 ≤ hexN c ∧ (szOf l).2 < 4) := by
  obtain ⟨c0, r0, rfl, h48, hd, e⟩ := szOf_some h
  have hle := hexRun_le r0 1 (hexN c0).toNat (by omega)
  rw [e] at hc ⊢
  obtain ⟨j, hj⟩ : ∃ j, (hexRun 1 (hexN c0).toNat r0).2 = j + 1 := ⟨(hexRun 1 (hexN c0).toNat r0).2 - 1, by omega⟩
  rw [hj, List.drop_succ_cons] at hc
  refine hexRun_stop r0 1 _ (by omega) (by omega) c r ?_
  rw [hj]
  simpa using hc
/-- .. behind them: the line's end. -/
theorem dig_end {n k at' : Nat} {body r : List UInt8} (h0 : 0 < k) (h : ¬ 8192 < body.length + n) : (⟨1, n, k, 0, body⟩ : CM).run at' (13 :: 10 :: r) = (⟨3, n, k, 0, body⟩ : CM).run (at' + 2) r := by
  rw [run_on (m' := ⟨2, n, k, 0, body⟩) (by simp [CM.take, CM.digits, show ¬ 0 ≤ hexN 13 by decide]; omega) (by simp), run_on (m' := ⟨3, n, k, 0, body⟩) (by simp [CM.take, CM.told, h]) (by simp)]
theorem dig_many {n k at' : Nat} {body r : List UInt8} (h0 : 0 < k) (h : 8192 < body.length + n) : (⟨1, n, k, 0, body⟩ : CM).run at' (13 :: 10 :: r) = .err 4 := by
  rw [run_on (m' := ⟨2, n, k, 0, body⟩) (by simp [CM.take, CM.digits, show ¬ 0 ≤ hexN 13 by decide]; omega) (by simp), run_no (m' := ⟨2, n, k, 0, body⟩) (e := 4) (by simp [CM.take, CM.told, h]) (by simp)]
theorem dig_wait0 {n k at' : Nat} {body : List UInt8} : ∃ m, (⟨1, n, k, 0, body⟩ : CM).run at' [] = .waits m := ⟨_, rfl⟩
theorem dig_wait1 {n k at' : Nat} {body : List UInt8} (h0 : 0 < k) : ∃ m, (⟨1, n, k, 0, body⟩ : CM).run at' [13] = .waits m := by
  rw [run_on (m' := ⟨2, n, k, 0, body⟩) (by simp [CM.take, CM.digits, show ¬ 0 ≤ hexN 13 by decide]; omega) (by simp)]
  exact ⟨_, rfl⟩
theorem dig_bad {n k at' : Nat} {body : List UInt8} (h0 : 0 < k) {c : UInt8} {r : List UInt8} (hs : ¬ (0 ≤ hexN c ∧ k < 4)) (h1 : r ≠ [] ∨ c ≠ 13) (h2 : ¬ ([13, 10] : List UInt8) <+: c :: r) : (⟨1, n, k, 0, body⟩ : CM).run at' (c :: r) = .err 160 := by
  by_cases hc : c = 13
  · subst hc
    rw [run_on (m' := ⟨2, n, k, 0, body⟩) (by simp [CM.take, CM.digits, show ¬ 0 ≤ hexN 13 by decide]; omega) (by simp)]
    match r with
    | [] => simp at h1
    | b :: r =>
      have hb : b ≠ 10 := by
        intro e
        subst e
        exact h2 (by simp)
      exact run_no (m' := ⟨2, n, k, 0, body⟩) (e := 160) (by simp [CM.take, hb]) (by simp)
  · exact run_no (m' := ⟨1, n, k, 0, body⟩) (by simp only [CM.take, CM.digits]; rw [if_neg hs, if_pos (.inl hc)]) (by simp)
/-- Data, and the end behind them. -/
theorem data_wait {n k at' : Nat} {body d : List UInt8} (h : d.length ≤ n) : ∃ m, (⟨3, n, k, 0, body⟩ : CM).run at' d = .waits m := by
  have := run_data (mn := k) d [] n at' body h
  rw [List.append_nil] at this
  rw [this]
  exact ⟨_, rfl⟩
theorem data_run {n k at' : Nat} {body d : List UInt8} (h : n ≤ d.length) : (⟨3, n, k, 0, body⟩ : CM).run at' d = (⟨3, 0, k, 0, body ++ d.take n⟩ : CM).run (at' + n) (d.drop n) := by
  have h1 : (d.take n).length = n := by simp; omega
  have := run_data (mn := k) (d.take n) (d.drop n) n at' body (by omega)
  rw [List.take_append_drop, h1, Nat.sub_self] at this
  exact this
theorem tail_wait {k at' : Nat} {body : List UInt8} : ∃ m, (⟨3, 0, k, 0, body⟩ : CM).run at' [13] = .waits m := by
  rw [run_on (m' := ⟨4, 0, k, 1, body⟩) (by simp [CM.take, CM.mark]) (by simp)]
  exact ⟨_, rfl⟩
theorem tail_bad {k at' : Nat} {body : List UInt8} {c : UInt8} {r : List UInt8} (h1 : r ≠ [] ∨ c ≠ 13) (h2 : ¬ ([13, 10] : List UInt8) <+: c :: r) : (⟨3, 0, k, 0, body⟩ : CM).run at' (c :: r) = .err 160 := by
  by_cases hc : c = 13
  · subst hc
    rw [run_on (m' := ⟨4, 0, k, 1, body⟩) (by simp [CM.take, CM.mark]) (by simp)]
    match r with
    | [] => simp at h1
    | b :: r =>
      have hb : b ≠ 10 := by
        intro e
        subst e
        exact h2 (by simp)
      exact run_no (m' := ⟨0, 0, k, 0, body⟩) (e := 160) (by simp [CM.take, CM.mark, hb]) (by simp)
  · exact run_no (m' := ⟨4, 0, k, 1, body⟩) (e := 160) (by simp [CM.take, CM.mark, hc]) (by simp)
theorem tail_on {k at' : Nat} {body r : List UInt8} : (⟨3, 0, k, 0, body⟩ : CM).run at' (13 :: 10 :: r) = (CM.at0 0 k body).run (at' + 2) r := by
  rw [run_on (m' := ⟨4, 0, k, 1, body⟩) (by simp [CM.take, CM.mark]) (by simp), run_on (m' := ⟨0, 0, k, 0, body⟩) (by simp [CM.take, CM.mark]) (by simp)]
end Go.Proofs.YthgmgmbjjjnhnaaGreatDoor
namespace Go.Proofs.YthgmgmbjjjnhnaaGreatDoor
open Go.RowKit

theorem lpos {α : Type} {l : List α} (h : l ≠ []) : 0 < l.length := List.length_pos_iff.2 h
/-- A hexadecimal digit. -/
def hexD (d : Nat) : UInt8 := if 9 < d then UInt8.ofNat (87 + d) else UInt8.ofNat (48 + d)
/-- A number's digits, at most f of them. -/
def hexOf : Nat → Nat → List UInt8
  | 0, _ => []
  | f + 1, n => if n = 0 then [] else hexOf f (n / 16) ++ [hexD (n % 16)]
theorem hexN_D' : ∀ d : Fin 16, hexN (hexD d.val) = d.val ∧ (hexD d.val = 48 ↔ d.val = 0) := by decide +kernel
theorem hexN_D {d : Nat} (h : d < 16) : hexN (hexD d) = d := (hexN_D' ⟨d, h⟩).1
theorem hexN_48' : ∀ n : Fin 256, hexN (UInt8.ofNat n.val) = 0 → UInt8.ofNat n.val = 48 := by decide +kernel
theorem hexN_48 (c : UInt8) (h : hexN c = 0) : c = 48 := by
  have := hexN_48' ⟨c.toNat, c.toNat_lt⟩
  simp at this
  exact this h
theorem hexD_48 {d : Nat} (h : d < 16) (h0 : d ≠ 0) : hexD d ≠ 48 := fun e => h0 ((hexN_D' ⟨d, h⟩).2.1 e)
theorem hexOf_zero (f : Nat) : hexOf f 0 = [] := by cases f <;> simp [hexOf]
theorem hexOf_len (f : Nat) : ∀ n, (hexOf f n).length ≤ f := by
  induction f with
  | zero => intro n; simp [hexOf]
  | succ f ih =>
    intro n
    simp only [hexOf]
    split
    · simp
    · have := ih (n / 16)
      simp
      omega
theorem hexOf_ne {f n : Nat} (hf : 0 < f) (h : n ≠ 0) : hexOf f n ≠ [] := by
  obtain ⟨g, rfl⟩ : ∃ g, f = g + 1 := ⟨f - 1, by omega⟩
  simp [hexOf, h]
theorem hexOf_le {k : Nat} : ∀ (f n : Nat), n < 16 ^ k → (hexOf f n).length ≤ k := by
  induction k with
  | zero =>
    intro f n h
    obtain rfl : n = 0 := by simpa using h
    rw [hexOf_zero]
    simp
  | succ k ih =>
    intro f n h
    match f with
    | 0 => simp [hexOf]
    | f + 1 =>
      simp only [hexOf]
      split
      · simp
      · have := ih f (n / 16) (by rw [Nat.pow_succ] at h; omega)
        simp
        omega
theorem hexRun_of (f : Nat) : ∀ (n k v : Nat) (r : List UInt8), n < 16 ^ f → k + (hexOf f n).length ≤ 4 →
    hexRun k v (hexOf f n ++ r) = hexRun (k + (hexOf f n).length) (v * 16 ^ (hexOf f n).length + n) r := by
  induction f with
  | zero =>
    intro n k v r hn hk
    obtain rfl : n = 0 := by simpa using hn
    simp [hexOf]
  | succ f ih =>
    intro n k v r hn hk
    by_cases h0 : n = 0
    · subst h0
      simp [hexOf]
    · have e : hexOf (f + 1) n = hexOf f (n / 16) ++ [hexD (n % 16)] := by simp only [hexOf]; rw [if_neg h0]
      rw [e] at hk ⊢
      simp only [List.length_append, List.length_cons, List.length_nil] at hk ⊢
      rw [List.append_assoc, ih (n / 16) k v _ (by rw [Nat.pow_succ] at hn; omega) (by omega)]
      have hd : n % 16 < 16 := Nat.mod_lt _ (by omega)
      have hc : k + (hexOf f (n / 16)).length < 4 ∧ 0 ≤ hexN (hexD (n % 16)) ∧ (0 < k + (hexOf f (n / 16)).length ∨ hexD (n % 16) ≠ 48) := by
        refine ⟨by omega, by rw [hexN_D hd]; omega, ?_⟩
        by_cases h1 : n / 16 = 0
        · right
          exact hexD_48 hd (by omega)
        · left
          by_cases hf : f = 0
          · subst hf
            simp at hn
            omega
          · have := lpos (hexOf_ne (f := f) (by omega) h1)
            omega
      show hexRun _ _ (hexD (n % 16) :: r) = _
      rw [show ∀ K V, hexRun K V (hexD (n % 16) :: r) = if K < 4 ∧ 0 ≤ hexN (hexD (n % 16)) ∧ (0 < K ∨ hexD (n % 16) ≠ 48) then hexRun (K + 1) (16 * V + (hexN (hexD (n % 16))).toNat) r else (V, K) from fun _ _ => rfl, if_pos hc, hexN_D hd]
      have e1 : 16 * (v * 16 ^ (hexOf f (n / 16)).length + n / 16) + ((n % 16 : Nat) : Int).toNat = v * 16 ^ ((hexOf f (n / 16)).length + (0 + 1)) + n := by
        rw [Int.toNat_natCast, Nat.zero_add, Nat.pow_succ, ← Nat.mul_assoc]
        omega
      rw [e1]
      congr 1
theorem szOf_hex {n : Nat} (h : n < 65536) (r : List UInt8) : szOf (hexOf 4 n ++ 13 :: r) = (n, (hexOf 4 n).length) := by
  have hl := hexOf_len 4 n
  unfold szOf
  rw [hexRun_of 4 n 0 0 _ (by simpa using h) (by omega)]
  simp only [Nat.zero_add, Nat.zero_mul, hexRun]
  rw [if_neg (by intro h; exact absurd h.2.1 (by decide))]

/-- A content in chunks of these sizes; none: the sizes don't fit. -/
def encR : List UInt8 → List Int → Option (List UInt8)
  | body, [] => if body = [] then some [48, 13, 10, 13, 10] else none
  | body, n :: l => if n < 1 ∨ (body.length : Int) < n then none else (encR (body.drop n.toNat) l).map fun r => hexOf 4 n.toNat ++ [13, 10] ++ body.take n.toNat ++ [13, 10] ++ r
def encOf (body : List UInt8) (l : List Int) : Option (List UInt8) := if 8192 < body.length then none else encR body l
theorem enc_run (l : List Int) : ∀ (body body0 more t : List UInt8) (sz mn at' : Nat), encR body l = some t → body0.length + body.length ≤ 8192 →
    ∃ m, (CM.at0 sz mn body0).run at' (t ++ more) = .whole m (at' + t.length) ∧ m.body = body0 ++ body := by
  induction l with
  | nil =>
    intro body body0 more t sz mn at' h hb
    simp only [encR] at h
    split at h
    · rename_i hn
      subst hn
      injection h with h
      subst h
      exact ⟨_, at0_last, by simp⟩
    · cases h
  | cons n l ih =>
    intro body body0 more t sz mn at' h hb
    simp only [encR] at h
    split at h
    · cases h
    · rename_i hn
      obtain ⟨k, rfl⟩ := Int.eq_ofNat_of_zero_le (by omega : 0 ≤ n)
      simp only [Int.toNat_natCast] at h
      obtain ⟨r, hr, rfl⟩ := Option.map_eq_some_iff.1 h
      have hk0 : k ≠ 0 := by omega
      have hk : k ≤ body.length := by omega
      have hsz := szOf_hex (n := k) (by omega) (10 :: (body.take k ++ [13, 10] ++ r ++ more))
      have hlist : hexOf 4 k ++ [13, 10] ++ body.take k ++ [13, 10] ++ r ++ more = hexOf 4 k ++ 13 :: 10 :: (body.take k ++ [13, 10] ++ r ++ more) := by simp
      rw [hlist]
      have hne : (szOf (hexOf 4 k ++ 13 :: 10 :: (body.take k ++ [13, 10] ++ r ++ more))).2 ≠ 0 := by
        rw [hsz]
        have := lpos (hexOf_ne (f := 4) (by omega) hk0)
        simp only
        omega
      rw [at0_digits hne, hsz]
      simp only
      rw [List.drop_left, dig_end (by have := lpos (hexOf_ne (f := 4) (by omega) hk0); omega) (by omega)]
      have hd : body.take k ++ [13, 10] ++ r ++ more = body.take k ++ (13 :: 10 :: (r ++ more)) := by simp
      rw [hd]
      have hkl : (body.take k).length = k := by simp; omega
      rw [data_run (by simp only [List.length_append, hkl]; omega), List.take_left' hkl, List.drop_left' hkl, tail_on]
      obtain ⟨m, h1, h2⟩ := ih (body.drop k) (body0 ++ body.take k) more r 0 (hexOf 4 k).length (at' + (hexOf 4 k).length + 2 + k + 2) hr (by simp; omega)
      refine ⟨m, ?_, ?_⟩
      · rw [h1]
        congr 1
        simp only [List.length_append, hkl, List.length_cons, List.length_nil]
        omega
      · rw [h2, List.append_assoc, List.take_append_drop]
/-- WHAT IS ENCODED IS DECODED, WHATEVER STANDS BEHIND. -/
theorem enc_dec {body : List UInt8} {l : List Int} {t : List UInt8} (h : encOf body l = some t) (more : List UInt8) : dcOf (t ++ more) = (body, t.length, true, 0) := by
  unfold encOf at h
  split at h
  · cases h
  · obtain ⟨m, h1, h2⟩ := enc_run l body [] more t 0 0 0 h (by simp; omega)
    rw [dcOf_tell]
    show ((CM.at0 0 0 []).run 0 (t ++ more)).tell = _
    rw [h1]
    simp [CR.tell, h2]
theorem run_le (l : List UInt8) : ∀ (m : CM) (n : Nat) (m' : CM) (j : Nat), m.run n l = .whole m' j → j ≤ n + l.length := by
  induction l with
  | nil => intro m n m' j h; simp [CM.run] at h
  | cons c l ih =>
    intro m n m' j h
    rw [run_cons] at h
    split at h
    · cases h
    · split at h
      · injection h with _ h
        simp
        omega
      · have := ih _ _ _ _ h
        simp
        omega
/-- .. EACH BEGINNING OF IT IS ONE. -/
theorem enc_begun {body : List UInt8} {l : List Int} {t : List UInt8} (h : encOf body l = some t) {k : Nat} (hk : k < t.length) : dcOf (t.take k) = ([], 0, false, 0) := by
  unfold encOf at h
  split at h
  · cases h
  · obtain ⟨m, h1, h2⟩ := enc_run l body [] [] t 0 0 0 h (by simp; omega)
    rw [List.append_nil] at h1
    rw [dcOf_tell]
    show ((CM.at0 0 0 []).run 0 (t.take k)).tell = _
    cases hr : (CM.at0 0 0 []).run 0 (t.take k) with
    | waits m => rfl
    | err e =>
      have := run_more (t.take k) (t.drop k) (CM.at0 0 0 []) 0 (by intro q hq; rw [hr] at hq; cases hq)
      rw [List.take_append_drop, h1, hr] at this
      cases this
    | whole m' j =>
      have := run_more (t.take k) (t.drop k) (CM.at0 0 0 []) 0 (by intro q hq; rw [hr] at hq; cases hq)
      rw [List.take_append_drop, h1, hr] at this
      injection this with _ hj
      have := run_le _ _ _ _ _ hr
      simp at this
      omega
/-- What is told stays told. -/
theorem dc_lasts {l : List UInt8} (h : (dcOf l).2.2.1 = true ∨ (dcOf l).2.2.2 ≠ 0) (r : List UInt8) : dcOf (l ++ r) = dcOf l := by
  rw [dcOf_tell] at h
  rw [dcOf_tell, dcOf_tell, run_more l r CM.zero 0 ?_]
  intro k hk
  rw [hk] at h
  simp [CR.tell] at h

/-- The machine, chunk by chunk. -/
theorem at0_cases {sz mn at' : Nat} {body : List UInt8} (l : List UInt8) :
    (∃ m, (CM.at0 sz mn body).run at' l = .waits m) ∨ (∃ e, e ≠ 0 ∧ (CM.at0 sz mn body).run at' l = .err e) ∨ ((CM.at0 sz mn body).run at' l = .whole ⟨7, sz, mn, 0, body⟩ (at' + 5)) ∨
      (∃ (k : Nat) (d r : List UInt8), 1 ≤ k ∧ 1 ≤ d.length ∧ d.length < 16 ^ k ∧ r.length < l.length ∧ body.length + d.length ≤ 8192 ∧ (CM.at0 sz mn body).run at' l = (CM.at0 0 k (body ++ d)).run (at' + k + 4 + d.length) r) := by
  match l with
  | [] => exact .inl ⟨_, rfl⟩
  | c :: l' =>
  by_cases h48 : c = 48
  · subst h48
    by_cases h5 : ([48, 13, 10, 13, 10] : List UInt8) <+: 48 :: l'
    · obtain ⟨r, hr⟩ := h5
      rw [← hr]
      exact .inr (.inr (.inl at0_last))
    · have := at0_zero (sz := sz) (mn := mn) (n := at') (body := body) l' h5
      by_cases h6 : (48 :: l' : List UInt8) <+: [48, 13, 10, 13, 10]
      · exact .inl (this.1 h6)
      · exact .inr (.inl ⟨160, by omega, this.2 h6⟩)
  · by_cases hd : 0 ≤ hexN c
    · have hne : (szOf (c :: l')).2 ≠ 0 := fun h => by
        rcases szOf_none h with h | h
        · exact h48 h
        · exact h hd
      have hlt := hexRun_lt (c :: l') 0 0 (by simp)
      have hle := hexRun_le (c :: l') 0 0 (by omega)
      have h1 : 1 ≤ (szOf (c :: l')).1 := by
        obtain ⟨c0, r0, he, h48', hd', e⟩ := szOf_some hne
        injection he with he1 he2
        subst he1
        subst he2
        rw [e]
        have key : ∀ (l : List UInt8) (k n : Nat), 1 ≤ n → 1 ≤ (hexRun k n l).1 := by
          intro l
          induction l with
          | nil => intro k n h; exact h
          | cons c l ih =>
            intro k n h
            simp only [hexRun]
            split
            · exact ih _ _ (by omega)
            · exact h
        refine key _ _ _ ?_
        have : hexN c ≠ 0 := by
          intro e
          have := hexN_48 c e
          exact h48 this
        omega
      rw [at0_digits hne]
      obtain ⟨v, hv⟩ : ∃ v, (szOf (c :: l')).1 = v := ⟨_, rfl⟩
      obtain ⟨k, hk⟩ : ∃ k, (szOf (c :: l')).2 = k := ⟨_, rfl⟩
      have hstop := fun c' r' => szOf_stop hne (c := c') (r := r')
      have hlen : ((c :: l').drop k).length = (c :: l').length - k := by simp
      change (szOf (c :: l')).1 < 16 ^ (szOf (c :: l')).2 at hlt
      change 0 ≤ (szOf (c :: l')).2 ∧ (szOf (c :: l')).2 ≤ 4 ∧ (szOf (c :: l')).2 ≤ 0 + (c :: l').length at hle
      rw [hv] at h1
      rw [hv, hk] at hlt ⊢
      rw [hk] at hne hle hstop
      generalize hL : (c :: l').length = L at *
      generalize (c :: l').drop k = q at *
      match q with
      | [] => exact .inl dig_wait0
      | x :: q =>
        by_cases h13 : ([13, 10] : List UInt8) <+: x :: q
        · obtain ⟨r, hr⟩ := h13
          rw [← hr] at hlen ⊢
          simp only [List.cons_append, List.nil_append] at hlen ⊢
          by_cases hm : 8192 < body.length + v
          · exact .inr (.inl ⟨4, by omega, dig_many (by omega) hm⟩)
          · rw [dig_end (by omega) hm]
            by_cases hw : r.length ≤ v
            · exact .inl (data_wait hw)
            · rw [data_run (by omega)]
              have htl : (r.take v).length = v := by simp; omega
              have hdl : (r.drop v).length = r.length - v := by simp
              generalize hT : r.take v = T at *
              generalize r.drop v = D at *
              match D with
              | [] => exact .inl ⟨_, rfl⟩
              | y :: D =>
                by_cases hy : ([13, 10] : List UInt8) <+: y :: D
                · obtain ⟨r2, hr2⟩ := hy
                  rw [← hr2] at hdl ⊢
                  simp only [List.cons_append, List.nil_append] at hdl ⊢
                  refine .inr (.inr (.inr ⟨k, T, r2, by omega, by omega, by rw [htl]; exact hlt, ?_, by omega, ?_⟩))
                  · simp only [List.length_cons] at hdl hlen
                    omega
                  · rw [tail_on, htl]
                    congr 1
                    omega
                · by_cases hz : D = [] ∧ y = 13
                  · obtain ⟨rfl, rfl⟩ := hz
                    exact .inl tail_wait
                  · refine .inr (.inl ⟨160, by omega, tail_bad ?_ hy⟩)
                    by_cases hD : D = []
                    · right
                      intro e
                      exact hz ⟨hD, e⟩
                    · exact .inl hD
        · by_cases hz : q = [] ∧ x = 13
          · obtain ⟨rfl, rfl⟩ := hz
            exact .inl (dig_wait1 (by omega))
          · refine .inr (.inl ⟨160, by omega, dig_bad (by omega) (hstop x q rfl) ?_ h13⟩)
            by_cases hD : q = []
            · right
              intro e
              exact hz ⟨hD, e⟩
            · exact .inl hD
    · exact .inr (.inl ⟨160, by omega, at0_none h48 hd⟩)
/-- What is done took at least as many bytes as one chunk would. -/
def Cost (body : List UInt8) (n : Nat) : Prop := body = [] ∨ (body ≠ [] ∧ (hexOf 4 body.length).length + 4 + body.length ≤ n)
theorem whole_cost (N : Nat) : ∀ (l : List UInt8), l.length ≤ N → ∀ (sz mn at' : Nat) (body : List UInt8) (m : CM) (n : Nat), (CM.at0 sz mn body).run at' l = .whole m n →
    Cost body at' → body.length ≤ 8192 → m.body.length ≤ 8192 ∧ ∃ i, n = i + 5 ∧ Cost m.body i := by
  induction N with
  | zero =>
    intro l hl sz mn at' body m n h
    obtain rfl : l = [] := by simpa using hl
    simp [CM.run] at h
  | succ N ih =>
    intro l hl sz mn at' body m n h hj hb
    rcases at0_cases (sz := sz) (mn := mn) (at' := at') (body := body) l with ⟨q, hq⟩ | ⟨e, _, hq⟩ | hq | ⟨k, d, r, hk, hd, hlt, hr, hbd, hq⟩
    · rw [hq] at h; cases h
    · rw [hq] at h; cases h
    · rw [hq] at h
      injection h with h1 h2
      subst h1
      subst h2
      exact ⟨hb, at', rfl, hj⟩
    · rw [hq] at h
      refine ih r (by omega) _ _ _ _ _ _ h (.inr ⟨by intro e; rw [(List.append_eq_nil_iff.1 e).2] at hd; simp at hd, ?_⟩) (by simpa using hbd)
      rcases hj with rfl | ⟨h0, hj⟩
      · have := hexOf_le 4 _ hlt
        simp only [List.nil_append]
        omega
      · have h4 := hexOf_len 4 (body ++ d).length
        have h1 := lpos (hexOf_ne (f := 4) (n := body.length) (by omega) (by intro e; exact h0 (by simpa using e)))
        simp only [List.length_append] at h4 ⊢
        omega
/-- WHAT IS DONE IS ENCODED ALIKE, in one chunk or none. -/
theorem dc_again {l : List UInt8} (h : (dcOf l).2.2.1 = true) : (dcOf l).1.length ≤ 8192 ∧ (dcOf l).2.1 ≤ l.length ∧ (dcOf l).1.length + 5 ≤ (dcOf l).2.1 ∧
    ∃ t, encOf (dcOf l).1 (if 0 < (dcOf l).1.length then [((dcOf l).1.length : Int)] else []) = some t ∧ t.length ≤ (dcOf l).2.1 := by
  rw [dcOf_tell] at h ⊢
  cases hr : CM.zero.run 0 l with
  | err e => rw [hr] at h; simp [CR.tell] at h
  | waits m => rw [hr] at h; simp [CR.tell] at h
  | whole m n =>
    obtain ⟨h1, i, rfl, hc⟩ := whole_cost l.length l (Nat.le_refl _) 0 0 0 [] m n hr (.inl rfl) (by simp)
    have hle := run_le _ _ _ _ _ hr
    show m.body.length ≤ 8192 ∧ i + 5 ≤ l.length ∧ m.body.length + 5 ≤ i + 5 ∧ ∃ t, encOf m.body (if 0 < m.body.length then [(m.body.length : Int)] else []) = some t ∧ t.length ≤ i + 5
    rcases hc with hc | ⟨h0, hc⟩
    · rw [hc]
      refine ⟨by simp, by omega, by simp, [48, 13, 10, 13, 10], ?_, by simp⟩
      simp [encOf, encR]
    · have hp := lpos h0
      refine ⟨h1, by omega, by omega, hexOf 4 m.body.length ++ [13, 10] ++ m.body ++ [13, 10] ++ [48, 13, 10, 13, 10], ?_, ?_⟩
      · rw [if_pos hp]
        unfold encOf
        rw [if_neg (by omega)]
        simp only [encR, Int.toNat_natCast]
        rw [if_neg (by omega), if_pos (List.drop_length (l := m.body))]
        simp
      · simp only [List.length_append, List.length_cons, List.length_nil]
        omega
end Go.Proofs.YthgmgmbjjjnhnaaGreatDoor
