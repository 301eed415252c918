/- Chapter 15's plain laws: first lines of requests, in plain Lean. -/
import Derived.Test.YtnfgpcccmbblcaaDoorAsXp
import Derived.Lib.ItoaNum
namespace Go.Proofs.YtnfgpcccmbblcaaDoor
open Go.RowKit

def tgC (c : UInt8) : Bool := decide (33 ≤ c.toNat) && decide (c.toNat ≤ 126)
def tgt (l : List UInt8) : Bool := !l.isEmpty && l.all tgC
/-- A digit's number; below 0: it is none. -/
def dgt (c : UInt8) : Int := if 48 ≤ c.toNat ∧ c.toNat ≤ 57 then (c.toNat : Int) - 48 else -1
/-- May a line be? -/
def lnMay (m t : List UInt8) (g s : Int) : Bool := tok m && (tgt t && ((decide (0 ≤ g) && decide (g ≤ 9)) && (decide (0 ≤ s) && decide (s ≤ 9))))
def http : List UInt8 := [72, 84, 84, 80, 47]
def dC (g : Int) : UInt8 := UInt8.ofNat (48 + g.toNat)
/-- A line's text. -/
def lnTxt (m t : List UInt8) (g s : Int) : List UInt8 := m ++ 32 :: (t ++ 32 :: (http ++ [dC g, 46, dC s]))
/-- The line that three words are; none: they are none. -/
def lnW (m t v : List UInt8) : Option (List UInt8 × List UInt8 × Int × Int) :=
  match v with
  | [a0, a1, a2, a3, a4, a, p, b] => if [a0, a1, a2, a3, a4] = http ∧ p = 46 ∧ lnMay m t (dgt a) (dgt b) = true then some (m, t, dgt a, dgt b) else none
  | _ => none
def lnOf (l : List UInt8) : Option (List UInt8 × List UInt8 × Int × Int) :=
  match cutG 32 [] l with
  | [m, t, v] => lnW m t v
  | _ => none
theorem lnW_len {m t v : List UInt8} (h : v.length ≠ 8) : lnW m t v = none := by
  unfold lnW
  split
  · exact absurd rfl h
  · rfl
theorem lnOf_len {l : List UInt8} (h : (cutG 32 [] l).length ≠ 3) : lnOf l = none := by
  unfold lnOf
  split
  · rename_i e
    rw [e] at h
    exact absurd rfl h
  · rfl
theorem lnOf_3 {l m t v : List UInt8} (h : cutG 32 [] l = [m, t, v]) : lnOf l = lnW m t v := by
  unfold lnOf
  rw [h]
theorem dgt_range (c : UInt8) : dgt c = -1 ∨ (0 ≤ dgt c ∧ dgt c ≤ 9 ∧ c.toNat = 48 + (dgt c).toNat) := by
  unfold dgt
  split
  · right
    omega
  · left
    rfl
theorem dgt_of {c : UInt8} (h : 0 ≤ dgt c) : c = dC (dgt c) := by
  rcases dgt_range c with h1 | ⟨_, h2, h3⟩
  · omega
  · apply UInt8.toNat_inj.1
    unfold dC
    rw [UInt8.toNat_ofNat', h3]
    exact (Nat.mod_eq_of_lt (by omega)).symm
theorem dC_nat {g : Int} (h0 : 0 ≤ g) (h9 : g ≤ 9) : (dC g).toNat = 48 + g.toNat := by
  unfold dC
  rw [UInt8.toNat_ofNat']
  exact Nat.mod_eq_of_lt (by omega)
theorem dgt_dC {g : Int} (h0 : 0 ≤ g) (h9 : g ≤ 9) : dgt (dC g) = g := by
  unfold dgt
  rw [dC_nat h0 h9, if_pos (by omega)]
  omega
theorem lnMay_parts {m t : List UInt8} {g s : Int} (h : lnMay m t g s = true) : tok m = true ∧ tgt t = true ∧ 0 ≤ g ∧ g ≤ 9 ∧ 0 ≤ s ∧ s ≤ 9 := by
  unfold lnMay at h
  simp only [Bool.and_eq_true, decide_eq_true_eq] at h
  exact ⟨h.1, h.2.1, h.2.2.1.1, h.2.2.1.2, h.2.2.2.1, h.2.2.2.2⟩
theorem lnMay_of {m t : List UInt8} {g s : Int} (h1 : tok m = true) (h2 : tgt t = true) (h3 : 0 ≤ g) (h4 : g ≤ 9) (h5 : 0 ≤ s) (h6 : s ≤ 9) : lnMay m t g s = true := by
  unfold lnMay
  rw [h1, h2]
  simp [h3, h4, h5, h6]
/-- What is cut, put together again. -/
def joinG (b : UInt8) : List (List UInt8) → List UInt8
  | [] => []
  | [x] => x
  | x :: y :: r => x ++ b :: joinG b (y :: r)
theorem cutG_ne (b : UInt8) (l : List UInt8) : ∀ cur, ∃ x r, cutG b cur l = x :: r := by
  induction l with
  | nil => intro cur; exact ⟨cur, [], rfl⟩
  | cons c l ih =>
    intro cur
    simp only [cutG]
    split
    · exact ⟨_, _, rfl⟩
    · exact ih _
theorem joinG_cut (b : UInt8) (l : List UInt8) : ∀ cur, joinG b (cutG b cur l) = cur ++ l := by
  induction l with
  | nil => intro cur; simp [cutG, joinG]
  | cons c l ih =>
    intro cur
    simp only [cutG]
    by_cases hc : c = b
    · rw [if_pos hc]
      obtain ⟨x, r, h⟩ := cutG_ne b l []
      have h2 := ih []
      rw [h] at h2 ⊢
      show cur ++ b :: joinG b (x :: r) = _
      rw [h2, hc]
      rfl
    · rw [if_neg hc, ih]
      simp
theorem cut3_join {l m t v : List UInt8} (h : cutG 32 [] l = [m, t, v]) : l = m ++ 32 :: (t ++ 32 :: v) := by
  have := joinG_cut 32 l []
  rw [h] at this
  exact this.symm
theorem cutG_has (b : UInt8) (l : List UInt8) : ∀ cur : List UInt8, cur.contains b = false → ∀ x ∈ cutG b cur l, x.contains b = false := by
  induction l with
  | nil =>
    intro cur hc x hx
    simp only [cutG, List.mem_singleton] at hx
    rw [hx]
    exact hc
  | cons c l ih =>
    intro cur hc x hx
    simp only [cutG] at hx
    by_cases hb : c = b
    · rw [if_pos hb] at hx
      rcases List.mem_cons.1 hx with rfl | hx
      · exact hc
      · exact ih [] rfl x hx
    · rw [if_neg hb] at hx
      refine ih (cur ++ [c]) ?_ x hx
      rw [Bool.eq_false_iff] at hc ⊢
      intro h
      rw [List.contains_iff_mem] at h
      rcases List.mem_append.1 h with h | h
      · exact hc (List.contains_iff_mem.2 h)
      · exact hb (List.mem_singleton.1 h).symm
theorem cut3_of {m t v : List UInt8} (hm : m.contains 32 = false) (ht : t.contains 32 = false) (hv : v.contains 32 = false) : cutG 32 [] (m ++ 32 :: (t ++ 32 :: v)) = [m, t, v] := by
  rw [cutG_app, cutG_app, cutG_none 32 m [] hm, cutG_none 32 t [] ht, cutG_none 32 v [] hv]
  rfl
theorem tok_32 {x : List UInt8} (h : tok x = true) : x.contains 32 = false := by
  obtain ⟨_, _, h3⟩ := tok_parts h
  rw [Bool.eq_false_iff]
  intro hc
  rw [List.contains_iff_mem] at hc
  exact absurd (h3 32 hc) (by decide)
theorem tgt_32 {x : List UInt8} (h : tgt x = true) : x.contains 32 = false := by
  unfold tgt at h
  rw [Bool.and_eq_true, List.all_eq_true] at h
  rw [Bool.eq_false_iff]
  intro hc
  rw [List.contains_iff_mem] at hc
  exact absurd (h.2 32 hc) (by decide)
theorem dC_32 {g : Int} (h0 : 0 ≤ g) (h9 : g ≤ 9) : dC g ≠ 32 := by
  intro h
  have := congrArg UInt8.toNat h
  rw [dC_nat h0 h9] at this
  have h2 : (32 : UInt8).toNat = 32 := rfl
  omega
/-- What is written is read as that line. -/
theorem lnOf_txt {m t : List UInt8} {g s : Int} (h : lnMay m t g s = true) : lnOf (lnTxt m t g s) = some (m, t, g, s) := by
  obtain ⟨h1, h2, h3, h4, h5, h6⟩ := lnMay_parts h
  have hv : (http ++ [dC g, 46, dC s]).contains 32 = false := by
    rw [Bool.eq_false_iff]
    intro hc
    rw [List.contains_iff_mem] at hc
    rcases List.mem_append.1 hc with hc | hc
    · exact absurd hc (by decide)
    · simp only [List.mem_cons, List.not_mem_nil, or_false] at hc
      rcases hc with hc | hc | hc
      · exact dC_32 h3 h4 hc.symm
      · exact absurd hc (by decide)
      · exact dC_32 h5 h6 hc.symm
  unfold lnTxt
  rw [lnOf_3 (cut3_of (tok_32 h1) (tgt_32 h2) hv)]
  show lnW m t [72, 84, 84, 80, 47, dC g, 46, dC s] = _
  unfold lnW
  simp only [dgt_dC h3 h4, dgt_dC h5 h6, h, and_true]
  rw [if_pos (show ([72, 84, 84, 80, 47] : List UInt8) = http from rfl)]
/-- What is read is written as just this text. -/
theorem lnOf_some {l m t : List UInt8} {g s : Int} (h : lnOf l = some (m, t, g, s)) : lnMay m t g s = true ∧ l = lnTxt m t g s := by
  by_cases hl : (cutG 32 [] l).length = 3
  · match hc : cutG 32 [] l, hl with
    | [m', t', v], _ =>
      rw [lnOf_3 hc] at h
      unfold lnW at h
      split at h
      · rename_i a0 a1 a2 a3 a4 a p b
        split at h
        · rename_i hh
          obtain ⟨q1, q2, q3⟩ := hh
          simp only [Option.some.injEq, Prod.mk.injEq] at h
          obtain ⟨rfl, rfl, rfl, rfl⟩ := h
          refine ⟨q3, ?_⟩
          obtain ⟨_, _, r1, r2, r3, r4⟩ := lnMay_parts q3
          rw [cut3_join hc]
          unfold lnTxt
          rw [← dgt_of r1, ← dgt_of r3, ← q1, q2]
          rfl
        · cases h
      · cases h
  · rw [lnOf_len hl] at h
    cases h
end Go.Proofs.YtnfgpcccmbblcaaDoor
