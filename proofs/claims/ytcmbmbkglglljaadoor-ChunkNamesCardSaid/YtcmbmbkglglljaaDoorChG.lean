/- chunk's machine in plain Lean: what stays true. No program in sight. -/
import Derived.Test.YtcmbmbkglglljaaDoorChF
namespace Go.Proofs.YtcmbmbkglglljaaDoor
open Go.RowKit

theorem digits_keeps {m : CM} (hm : m.Ok) (h1 : m.st = 1) {c : UInt8} (h : (m.digits c).2 = 0) : (m.digits c).1.Ok := by
  obtain ⟨st, sz, mn, sn, body⟩ := m
  obtain ⟨o1, o2, o3, o4, o5, o6, o7⟩ := hm
  have hx := hexN_le c
  simp only at o1 o2 o3 o4 o5 o6 o7 h1
  unfold CM.digits at h ⊢
  simp only at h ⊢
  split at h
  · rename_i hd
    rw [if_pos hd]
    have h16 : 16 ^ (mn + 1) = 16 ^ mn * 16 := Nat.pow_succ 16 mn
    exact ⟨by simp; omega, by simp; omega, by simp; omega, by show 16 * sz + (hexN c).toNat < 16 ^ (mn + 1); omega, by simp; omega, by simp; omega, by simp⟩
  · rename_i hd
    rw [if_neg hd]
    split at h
    · simp at h
    · rename_i hc
      rw [if_neg hc]
      exact ⟨by simp, by simp, by simp; omega, by simpa using o4, by simp; omega, by simp, by simp⟩
theorem mark_keeps {m : CM} (hm : m.Ok) (h3 : m.st ≠ 3) (h1 : m.st ≠ 1) {z : Nat} (hz : z ≤ 7) (hz3 : z ≠ 3) (hz1 : z ≠ 1) {c : UInt8} (h : (m.mark z c).2 = 0) : (m.mark z c).1.Ok := by
  obtain ⟨st, sz, mn, sn, body⟩ := m
  obtain ⟨o1, o2, o3, o4, o5, o6, o7⟩ := hm
  simp only at o1 o2 o3 o4 o5 o6 o7 h1 h3
  unfold CM.mark at h ⊢
  simp only at h ⊢
  split at h
  · rename_i hd
    rw [if_pos hd]
    exact ⟨by simp; omega, by simp, by simp; omega, by simpa using o4, by simp; omega, by simp; omega, by simp; omega⟩
  · rename_i hd
    rw [if_neg hd]
    exact ⟨by simp; omega, by simp, by simp; omega, by simpa using o4, by simp; omega, by simp; omega, by simp; omega⟩
theorem take_keeps {m : CM} (hm : m.Ok) {c : UInt8} (h : (m.take c).2 = 0) : (m.take c).1.Ok := by
  obtain ⟨st, sz, mn, sn, body⟩ := m
  have hm' := hm
  obtain ⟨o1, o2, o3, o4, o5, o6, o7⟩ := hm'
  simp only at o1 o2 o3 o4 o5 o6 o7
  match st, o1 with
  | 0, _ =>
    simp only [CM.take] at h ⊢
    split at h
    · rename_i h48
      rw [if_pos h48]
      exact ⟨by simp, by simp, by simp; omega, by simpa using o4, by simp; omega, by simp, by simp⟩
    · rename_i h48
      rw [if_neg h48]
      have hx := hexN_le c
      unfold CM.digits at h ⊢
      simp only at h ⊢
      split at h
      · rename_i hd
        rw [if_pos hd]
        exact ⟨by simp, by simp, by simp, by show 16 * 0 + (hexN c).toNat < 16 ^ (0 + 1); omega, by simp; omega, by simp, by simp⟩
      · rename_i hd
        rw [if_neg hd]
        split at h
        · simp at h
        · rename_i hc
          simp at hc
  | 1, _ => exact digits_keeps hm rfl h
  | 2, _ =>
    simp only [CM.take] at h ⊢
    split at h
    · simp at h
    · rename_i hc
      rw [if_neg hc]
      unfold CM.told at h ⊢
      simp only at h ⊢
      split at h
      · simp at h
      · rename_i ht
        rw [if_neg ht]
        exact ⟨by simp, by simp, by simp; omega, by simpa using o4, by simp; omega, by simp; omega, by simp⟩
  | 3, _ =>
    have o8 := o6 rfl
    simp only [CM.take] at h ⊢
    split at h
    · rename_i hs
      rw [if_pos hs]
      exact ⟨by simp, by simp; omega, by simp; omega, by show sz - 1 < 16 ^ mn; omega, by simp; omega, by simp; omega, by simp⟩
    · rename_i hs
      rw [if_neg hs]
      exact mark_keeps (m := ⟨4, sz, mn, 0, body⟩) ⟨by simp, by simp, by simp; omega, by simpa using o4, by simp; omega, by simp, by simp⟩ (by simp) (by simp) (by omega) (by omega) (by omega) h
  | 4, _ => exact mark_keeps hm (by simp) (by simp) (by omega) (by omega) (by omega) h
  | 5, _ => exact mark_keeps hm (by simp) (by simp) (by omega) (by omega) (by omega) h
  | 6, _ => exact mark_keeps hm (by simp) (by simp) (by omega) (by omega) (by omega) h
  | 7, _ => exact hm

/-- The run of the machine over bytes: the first error; or how it stands when it is whole, with how many bytes it took; or that it waits. -/
inductive CR where
  | err (e : Int)
  | whole (m : CM) (n : Nat)
  | waits (m : CM)
def CM.run (m : CM) (n : Nat) : List UInt8 → CR
  | [] => .waits m
  | c :: l => if (m.take c).2 ≠ 0 then .err (m.take c).2 else if (m.take c).1.st = 7 then .whole (m.take c).1 (n + 1) else CM.run (m.take c).1 (n + 1) l
def CM.zero : CM := ⟨0, 0, 0, 0, []⟩
/-- What chunk.Decode answers. -/
def dcOf (l : List UInt8) : List UInt8 × Nat × Bool × Int :=
  match CM.zero.run 0 l with
  | .err e => ([], 0, false, e)
  | .whole m n => (m.body, n, true, 0)
  | .waits _ => ([], 0, false, 0)
theorem zero_ok : CM.zero.Ok := ⟨by simp [CM.zero], by simp [CM.zero], by simp [CM.zero], by simp [CM.zero], by simp [CM.zero], by simp [CM.zero], by simp [CM.zero]⟩
/-- More behind it counts for nothing, once it is done or has an error. -/
theorem run_more (l r : List UInt8) : ∀ (m : CM) (n : Nat), (∀ k, m.run n l ≠ .waits k) → m.run n (l ++ r) = m.run n l := by
  induction l with
  | nil => intro m n h; exact absurd rfl (h m)
  | cons c l ih =>
    intro m n h
    simp only [List.cons_append, CM.run] at h ⊢
    split
    · rfl
    · split
      · rfl
      · rename_i h1 h2
        refine ih _ _ fun k hk => h k ?_
        rw [if_neg h1, if_neg h2]
        exact hk
end Go.Proofs.YtcmbmbkglglljaaDoor
