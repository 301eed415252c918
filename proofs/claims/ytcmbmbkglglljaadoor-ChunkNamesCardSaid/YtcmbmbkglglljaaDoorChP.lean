/- chunk's machine in plain Lean: what it does chunk by chunk. No program in sight. -/
import Derived.Test.YtcmbmbkglglljaaDoorChG
namespace Go.Proofs.YtcmbmbkglglljaaDoor
open Go.RowKit

/-- The content, how many bytes, whether done, the error: what a run tells. -/
def CR.tell : CR → List UInt8 × Nat × Bool × Int
  | .err e => ([], 0, false, e)
  | .whole m n => (m.body, n, true, 0)
  | .waits _ => ([], 0, false, 0)
theorem dcOf_tell (l : List UInt8) : dcOf l = (CM.zero.run 0 l).tell := by
  unfold dcOf CR.tell
  cases CM.zero.run 0 l <;> rfl
theorem run_cons (m : CM) (n : Nat) (c : UInt8) (l : List UInt8) : m.run n (c :: l) = if (m.take c).2 ≠ 0 then .err (m.take c).2 else if (m.take c).1.st = 7 then .whole (m.take c).1 (n + 1) else CM.run (m.take c).1 (n + 1) l := rfl
theorem run_on {m m' : CM} {n : Nat} {c : UInt8} {l : List UInt8} (h : m.take c = (m', 0)) (h7 : m'.st ≠ 7) : m.run n (c :: l) = m'.run (n + 1) l := by
  rw [run_cons, h]
  simp [h7]
theorem run_no {m m' : CM} {n : Nat} {c : UInt8} {l : List UInt8} {e : Int} (h : m.take c = (m', e)) (he : e ≠ 0) : m.run n (c :: l) = .err e := by
  rw [run_cons, h]
  simp [he]
theorem run_end {m m' : CM} {n : Nat} {c : UInt8} {l : List UInt8} (h : m.take c = (m', 0)) (h7 : m'.st = 7) : m.run n (c :: l) = .whole m' (n + 1) := by
  rw [run_cons, h]
  simp [h7]

/-- The machine at a chunk's beginning. -/
abbrev CM.at0 (sz mn : Nat) (body : List UInt8) : CM := ⟨0, sz, mn, 0, body⟩

theorem at0_last {sz mn n : Nat} {body l : List UInt8} : (CM.at0 sz mn body).run n (48 :: 13 :: 10 :: 13 :: 10 :: l) = .whole ⟨7, sz, mn, 0, body⟩ (n + 5) := by
  rw [run_on (m' := ⟨5, sz, mn, 0, body⟩) (by simp [CM.take]) (by simp), run_on (m' := ⟨5, sz, mn, 1, body⟩) (by simp [CM.take, CM.mark]) (by simp), run_on (m' := ⟨6, sz, mn, 0, body⟩) (by simp [CM.take, CM.mark]) (by simp), run_on (m' := ⟨6, sz, mn, 1, body⟩) (by simp [CM.take, CM.mark]) (by simp), run_end (m' := ⟨7, sz, mn, 0, body⟩) (by simp [CM.take, CM.mark]) rfl]
/-- What begins with a 0 and is neither. -/
theorem at0_zero {sz mn n : Nat} {body : List UInt8} : ∀ (l : List UInt8), (¬ ([48, 13, 10, 13, 10] : List UInt8) <+: 48 :: l) →
    ((48 :: l : List UInt8) <+: [48, 13, 10, 13, 10] → ∃ m, (CM.at0 sz mn body).run n (48 :: l) = .waits m) ∧ ((¬ (48 :: l : List UInt8) <+: [48, 13, 10, 13, 10]) → (CM.at0 sz mn body).run n (48 :: l) = .err 160) := by
  intro l h
  rw [run_on (m' := ⟨5, sz, mn, 0, body⟩) (by simp [CM.take]) (by simp)]
  match l with
  | [] => exact ⟨fun _ => ⟨_, rfl⟩, fun h => absurd (by decide) h⟩
  | a :: l =>
    by_cases ha : a = 13
    · subst ha
      rw [run_on (m' := ⟨5, sz, mn, 1, body⟩) (by simp [CM.take, CM.mark]) (by simp)]
      match l with
      | [] => exact ⟨fun _ => ⟨_, rfl⟩, fun h => absurd (by decide) h⟩
      | b :: l =>
        by_cases hb : b = 10
        · subst hb
          rw [run_on (m' := ⟨6, sz, mn, 0, body⟩) (by simp [CM.take, CM.mark]) (by simp)]
          match l with
          | [] => exact ⟨fun _ => ⟨_, rfl⟩, fun h => absurd (by decide) h⟩
          | c :: l =>
            by_cases hc : c = 13
            · subst hc
              rw [run_on (m' := ⟨6, sz, mn, 1, body⟩) (by simp [CM.take, CM.mark]) (by simp)]
              match l with
              | [] => exact ⟨fun _ => ⟨_, rfl⟩, fun h => absurd (by decide) h⟩
              | d :: l =>
                by_cases hd : d = 10
                · subst hd
                  exact absurd (by simp) h
                · refine ⟨fun h => ?_, fun _ => run_no (m' := ⟨7, sz, mn, 0, body⟩) (e := 160) (by simp [CM.take, CM.mark, hd]) (by simp)⟩
                  simp [hd] at h
            · refine ⟨fun h => ?_, fun _ => run_no (m' := ⟨6, sz, mn, 1, body⟩) (e := 160) (by simp [CM.take, CM.mark, hc]) (by simp)⟩
              simp [hc] at h
        · refine ⟨fun h => ?_, fun _ => run_no (m' := ⟨6, sz, mn, 0, body⟩) (e := 160) (by simp [CM.take, CM.mark, hb]) (by simp)⟩
          simp [hb] at h
    · refine ⟨fun h => ?_, fun _ => run_no (m' := ⟨5, sz, mn, 1, body⟩) (e := 160) (by simp [CM.take, CM.mark, ha]) (by simp)⟩
      simp [ha] at h

/-- What digits tell, behind k of them that tell n: how far, and what. -/
def hexRun (k n : Nat) : List UInt8 → Nat × Nat
  | [] => (n, k)
  | c :: l => if k < 4 ∧ 0 ≤ hexN c ∧ (0 < k ∨ c ≠ 48) then hexRun (k + 1) (16 * n + (hexN c).toNat) l else (n, k)
theorem hexRun_le (l : List UInt8) : ∀ k n, k ≤ 4 → k ≤ (hexRun k n l).2 ∧ (hexRun k n l).2 ≤ 4 ∧ (hexRun k n l).2 ≤ k + l.length := by
  induction l with
  | nil => intro k n h; simp [hexRun]; omega
  | cons c l ih =>
    intro k n h
    simp only [hexRun]
    split
    · have := ih (k + 1) (16 * n + (hexN c).toNat) (by omega)
      simp only [List.length_cons]
      omega
    · simp only [List.length_cons]
      omega
theorem hexRun_lt (l : List UInt8) : ∀ k n, n < 16 ^ k → (hexRun k n l).1 < 16 ^ (hexRun k n l).2 := by
  induction l with
  | nil => intro k n h; exact h
  | cons c l ih =>
    intro k n h
    simp only [hexRun]
    split
    · refine ih _ _ ?_
      have := hexN_le c
      rw [Nat.pow_succ]
      omega
    · exact h
/-- The machine goes over the digits. -/
theorem run_hex {body : List UInt8} (l : List UInt8) : ∀ (k n at' : Nat), 0 < k → k ≤ 4 →
    (⟨1, n, k, 0, body⟩ : CM).run at' l = (⟨1, (hexRun k n l).1, (hexRun k n l).2, 0, body⟩ : CM).run (at' + ((hexRun k n l).2 - k)) (l.drop ((hexRun k n l).2 - k)) := by
  induction l with
  | nil => intro k n at' _ _; simp [hexRun]
  | cons c l ih =>
    intro k n at' h0 h4
    by_cases h : k < 4 ∧ 0 ≤ hexN c ∧ (0 < k ∨ c ≠ 48)
    · have hle := hexRun_le l (k + 1) (16 * n + (hexN c).toNat) (by omega)
      have e : hexRun k n (c :: l) = hexRun (k + 1) (16 * n + (hexN c).toNat) l := by simp only [hexRun]; rw [if_pos h]
      rw [run_on (m' := ⟨1, 16 * n + (hexN c).toNat, k + 1, 0, body⟩) (by simp [CM.take, CM.digits, h.1, h.2.1]) (by simp), ih (k + 1) _ (at' + 1) (by omega) (by omega), e]
      rw [show (hexRun (k + 1) (16 * n + (hexN c).toNat) l).2 - k = ((hexRun (k + 1) (16 * n + (hexN c).toNat) l).2 - (k + 1)) + 1 by omega, List.drop_succ_cons]
      congr 1
      omega
    · have e : hexRun k n (c :: l) = (n, k) := by simp only [hexRun]; rw [if_neg h]
      rw [e]
      simp
/-- Behind the digits: there is no further one that is taken. -/
theorem hexRun_stop (l : List UInt8) : ∀ (k n : Nat), 0 < k → k ≤ 4 → ∀ c r, l.drop ((hexRun k n l).2 - k) = c :: r → ¬ (0 ≤ hexN c ∧ (hexRun k n l).2 < 4) := by
  induction l with
  | nil => intro k n _ _ c r h; simp at h
  | cons c l ih =>
    intro k n h0 h4 x r hx
    by_cases h : k < 4 ∧ 0 ≤ hexN c ∧ (0 < k ∨ c ≠ 48)
    · have hle := hexRun_le l (k + 1) (16 * n + (hexN c).toNat) (by omega)
      have e : hexRun k n (c :: l) = hexRun (k + 1) (16 * n + (hexN c).toNat) l := by simp only [hexRun]; rw [if_pos h]
      rw [e] at hx ⊢
      rw [show (hexRun (k + 1) (16 * n + (hexN c).toNat) l).2 - k = ((hexRun (k + 1) (16 * n + (hexN c).toNat) l).2 - (k + 1)) + 1 by omega, List.drop_succ_cons] at hx
      exact ih _ _ (by omega) (by omega) _ _ hx
    · have e : hexRun k n (c :: l) = (n, k) := by simp only [hexRun]; rw [if_neg h]
      rw [e] at hx ⊢
      simp at hx
      obtain ⟨rfl, rfl⟩ := hx
      intro hc
      exact h ⟨hc.2, hc.1, .inl h0⟩
/-- The machine goes over data. -/
theorem run_data {mn : Nat} (d r : List UInt8) : ∀ (sz at' : Nat) (body : List UInt8), d.length ≤ sz →
    (⟨3, sz, mn, 0, body⟩ : CM).run at' (d ++ r) = (⟨3, sz - d.length, mn, 0, body ++ d⟩ : CM).run (at' + d.length) r := by
  induction d with
  | nil => intro sz at' body _; simp
  | cons c d ih =>
    intro sz at' body h
    simp only [List.length_cons] at h
    rw [List.cons_append, run_on (m' := ⟨3, sz - 1, mn, 0, body ++ [c]⟩) (by simp [CM.take]; omega) (by simp), ih _ _ _ (by omega)]
    simp only [List.length_cons, List.append_assoc, List.singleton_append]
    rw [show sz - 1 - d.length = sz - (d.length + 1) by omega, show at' + 1 + d.length = at' + (d.length + 1) by omega]

/-- The first digit. -/
theorem at0_first {sz mn n : Nat} {body : List UInt8} {c : UInt8} {l : List UInt8} (h48 : c ≠ 48) (hd : 0 ≤ hexN c) : (CM.at0 sz mn body).run n (c :: l) = (⟨1, (hexN c).toNat, 1, 0, body⟩ : CM).run (n + 1) l :=
  run_on (by simp [CM.take, CM.digits, h48, hd]) (by simp)
/-- No digit at all. -/
theorem at0_none {sz mn n : Nat} {body : List UInt8} {c : UInt8} {l : List UInt8} (h48 : c ≠ 48) (hd : ¬ 0 ≤ hexN c) : (CM.at0 sz mn body).run n (c :: l) = .err 160 :=
  run_no (m' := ⟨1, 0, 0, 0, body⟩) (by simp [CM.take, CM.digits, h48, hd]) (by simp)

/-- A chunk's digits, as the document reads them. -/
abbrev szOf (l : List UInt8) : Nat × Nat := hexRun 0 0 l
theorem szOf_none {c : UInt8} {l : List UInt8} (h : (szOf (c :: l)).2 = 0) : c = 48 ∨ ¬ 0 ≤ hexN c := by
  unfold szOf at h
  simp only [hexRun] at h
  split at h
  · have := hexRun_le l (0 + 1) (16 * 0 + (hexN c).toNat) (by omega)
    omega
  · rename_i h'
    by_cases e : c = 48
    · exact .inl e
    · exact .inr fun h2 => h' ⟨by omega, h2, .inr e⟩
theorem szOf_some {l : List UInt8} (h : (szOf l).2 ≠ 0) : ∃ c r, l = c :: r ∧ c ≠ 48 ∧ 0 ≤ hexN c ∧ szOf l = hexRun 1 (hexN c).toNat r := by
  match l with
  | [] => simp [hexRun] at h
  | c :: r =>
    unfold szOf at h ⊢
    simp only [hexRun] at h ⊢
    split at h
    · rename_i h'
      rw [if_pos h']
      refine ⟨c, r, rfl, by rcases h'.2.2 with h | h; omega; exact h, h'.2.1, by simp⟩
    · simp at h
/-- THE MACHINE OVER A CHUNK'S DIGITS. -/
theorem at0_digits {sz mn n : Nat} {body l : List UInt8} (h : (szOf l).2 ≠ 0) : (CM.at0 sz mn body).run n l = (⟨1, (szOf l).1, (szOf l).2, 0, body⟩ : CM).run (n + (szOf l).2) (l.drop (szOf l).2) := by
  obtain ⟨c, r, rfl, h48, hd, e⟩ := szOf_some h
  rw [at0_first h48 hd, run_hex r 1 _ _ (by omega) (by omega), e]
  have := hexRun_le r 1 (hexN c).toNat (by omega)
  obtain ⟨j, hj⟩ : ∃ j, (hexRun 1 (hexN c).toNat r).2 = j + 1 := ⟨(hexRun 1 (hexN c).toNat r).2 - 1, by omega⟩
  rw [hj]
  simp only [Nat.add_sub_cancel, List.drop_succ_cons]
  rw [show n + 1 + j = n + (j + 1) by omega]
theorem szOf_stop {l : List UInt8} (h : (szOf l).2 ≠ 0) {c : UInt8} {r : List UInt8} (hc : l.drop (szOf l).2 = c :: r) : ¬ (0 ≤ hexN c ∧ (szOf l).2 < 4) := by
  obtain ⟨c0, r0, rfl, h48, hd, e⟩ := szOf_some h
  have hle := hexRun_le r0 1 (hexN c0).toNat (by omega)
  rw [e] at hc ⊢
  obtain ⟨j, hj⟩ : ∃ j, (hexRun 1 (hexN c0).toNat r0).2 = j + 1 := ⟨(hexRun 1 (hexN c0).toNat r0).2 - 1, by omega⟩
  rw [hj, List.drop_succ_cons] at hc
  refine hexRun_stop r0 1 _ (by omega) (by omega) c r ?_
  rw [hj]
  simpa using hc
/-- .. behind them: the line's end. -/
theorem dig_end {n k at' : Nat} {body r : List UInt8} (h0 : 0 < k) (h : ¬ 8192 < body.length + n) : (⟨1, n, k, 0, body⟩ : CM).run at' (13 :: 10 :: r) = (⟨3, n, k, 0, body⟩ : CM).run (at' + 2) r := by
  rw [run_on (m' := ⟨2, n, k, 0, body⟩) (by simp [CM.take, CM.digits, show ¬ 0 ≤ hexN 13 by decide]; omega) (by simp), run_on (m' := ⟨3, n, k, 0, body⟩) (by simp [CM.take, CM.told, h]) (by simp)]
theorem dig_many {n k at' : Nat} {body r : List UInt8} (h0 : 0 < k) (h : 8192 < body.length + n) : (⟨1, n, k, 0, body⟩ : CM).run at' (13 :: 10 :: r) = .err 4 := by
  rw [run_on (m' := ⟨2, n, k, 0, body⟩) (by simp [CM.take, CM.digits, show ¬ 0 ≤ hexN 13 by decide]; omega) (by simp), run_no (m' := ⟨2, n, k, 0, body⟩) (e := 4) (by simp [CM.take, CM.told, h]) (by simp)]
theorem dig_wait0 {n k at' : Nat} {body : List UInt8} : ∃ m, (⟨1, n, k, 0, body⟩ : CM).run at' [] = .waits m := ⟨_, rfl⟩
theorem dig_wait1 {n k at' : Nat} {body : List UInt8} (h0 : 0 < k) : ∃ m, (⟨1, n, k, 0, body⟩ : CM).run at' [13] = .waits m := by
  rw [run_on (m' := ⟨2, n, k, 0, body⟩) (by simp [CM.take, CM.digits, show ¬ 0 ≤ hexN 13 by decide]; omega) (by simp)]
  exact ⟨_, rfl⟩
theorem dig_bad {n k at' : Nat} {body : List UInt8} (h0 : 0 < k) {c : UInt8} {r : List UInt8} (hs : ¬ (0 ≤ hexN c ∧ k < 4)) (h1 : r ≠ [] ∨ c ≠ 13) (h2 : ¬ ([13, 10] : List UInt8) <+: c :: r) : (⟨1, n, k, 0, body⟩ : CM).run at' (c :: r) = .err 160 := by
  by_cases hc : c = 13
  · subst hc
    rw [run_on (m' := ⟨2, n, k, 0, body⟩) (by simp [CM.take, CM.digits, show ¬ 0 ≤ hexN 13 by decide]; omega) (by simp)]
    match r with
    | [] => simp at h1
    | b :: r =>
      have hb : b ≠ 10 := by
        intro e
        subst e
        exact h2 (by simp)
      exact run_no (m' := ⟨2, n, k, 0, body⟩) (e := 160) (by simp [CM.take, hb]) (by simp)
  · exact run_no (m' := ⟨1, n, k, 0, body⟩) (by simp only [CM.take, CM.digits]; rw [if_neg hs, if_pos (.inl hc)]) (by simp)
/-- Data, and the end behind them. -/
theorem data_wait {n k at' : Nat} {body d : List UInt8} (h : d.length ≤ n) : ∃ m, (⟨3, n, k, 0, body⟩ : CM).run at' d = .waits m := by
  have := run_data (mn := k) d [] n at' body h
  rw [List.append_nil] at this
  rw [this]
  exact ⟨_, rfl⟩
theorem data_run {n k at' : Nat} {body d : List UInt8} (h : n ≤ d.length) : (⟨3, n, k, 0, body⟩ : CM).run at' d = (⟨3, 0, k, 0, body ++ d.take n⟩ : CM).run (at' + n) (d.drop n) := by
  have h1 : (d.take n).length = n := by simp; omega
  have := run_data (mn := k) (d.take n) (d.drop n) n at' body (by omega)
  rw [List.take_append_drop, h1, Nat.sub_self] at this
  exact this
theorem tail_wait {k at' : Nat} {body : List UInt8} : ∃ m, (⟨3, 0, k, 0, body⟩ : CM).run at' [13] = .waits m := by
  rw [run_on (m' := ⟨4, 0, k, 1, body⟩) (by simp [CM.take, CM.mark]) (by simp)]
  exact ⟨_, rfl⟩
theorem tail_bad {k at' : Nat} {body : List UInt8} {c : UInt8} {r : List UInt8} (h1 : r ≠ [] ∨ c ≠ 13) (h2 : ¬ ([13, 10] : List UInt8) <+: c :: r) : (⟨3, 0, k, 0, body⟩ : CM).run at' (c :: r) = .err 160 := by
  by_cases hc : c = 13
  · subst hc
    rw [run_on (m' := ⟨4, 0, k, 1, body⟩) (by simp [CM.take, CM.mark]) (by simp)]
    match r with
    | [] => simp at h1
    | b :: r =>
      have hb : b ≠ 10 := by
        intro e
        subst e
        exact h2 (by simp)
      exact run_no (m' := ⟨0, 0, k, 0, body⟩) (e := 160) (by simp [CM.take, CM.mark, hb]) (by simp)
  · exact run_no (m' := ⟨4, 0, k, 1, body⟩) (e := 160) (by simp [CM.take, CM.mark, hc]) (by simp)
theorem tail_on {k at' : Nat} {body r : List UInt8} : (⟨3, 0, k, 0, body⟩ : CM).run at' (13 :: 10 :: r) = (CM.at0 0 k body).run (at' + 2) r := by
  rw [run_on (m' := ⟨4, 0, k, 1, body⟩) (by simp [CM.take, CM.mark]) (by simp), run_on (m' := ⟨0, 0, k, 0, body⟩) (by simp [CM.take, CM.mark]) (by simp)]
end Go.Proofs.YtcmbmbkglglljaaDoor
