/- Addresses' order, plain: the domain's text first, then the local part's, then the resource's. -/
import Derived.Test.YtfonkblbgadhmaaDoorGa
namespace Go.Proofs.YtfonkblbgadhmaaDoor
theorem bl_irr : ∀ l : List UInt8, Op.bytesLess l l = false
  | [] => rfl
  | a :: l => by
    show (decide (a < a) || (a == a && Op.bytesLess l l)) = false
    rw [bl_irr l]
    simp
theorem bl_tri : ∀ a b : List UInt8, (Op.bytesLess a b = true ∧ Op.bytesLess b a = false ∧ a ≠ b) ∨ (Op.bytesLess a b = false ∧ Op.bytesLess b a = true ∧ a ≠ b) ∨ (Op.bytesLess a b = false ∧ Op.bytesLess b a = false ∧ a = b)
  | [], [] => .inr (.inr ⟨rfl, rfl, rfl⟩)
  | [], _ :: _ => .inl ⟨rfl, rfl, by simp⟩
  | _ :: _, [] => .inr (.inl ⟨rfl, rfl, by simp⟩)
  | x :: a, y :: b => by
    show (((decide (x < y) || (x == y && Op.bytesLess a b)) = true ∧ (decide (y < x) || (y == x && Op.bytesLess b a)) = false ∧ _) ∨ ((decide (x < y) || (x == y && Op.bytesLess a b)) = false ∧ (decide (y < x) || (y == x && Op.bytesLess b a)) = true ∧ _) ∨ ((decide (x < y) || (x == y && Op.bytesLess a b)) = false ∧ (decide (y < x) || (y == x && Op.bytesLess b a)) = false ∧ _))
    rcases Nat.lt_trichotomy x.toNat y.toNat with h | h | h
    · have h1 : x < y := UInt8.lt_iff_toNat_lt.2 h
      have h2 : ¬ y < x := fun e => by have := UInt8.lt_iff_toNat_lt.1 e; omega
      have h3 : x ≠ y := fun e => by subst e; omega
      exact .inl ⟨by simp [h1], by simp [h2, Ne.symm h3], by simp [h3]⟩
    · have h3 : x = y := UInt8.toNat_inj.1 h
      subst h3
      have h2 : ¬ x < x := fun e => by have := UInt8.lt_iff_toNat_lt.1 e; omega
      rcases bl_tri a b with ⟨e1, e2, e3⟩ | ⟨e1, e2, e3⟩ | ⟨e1, e2, e3⟩
      · exact .inl ⟨by simp [h2, e1], by simp [h2, e2], by simp [e3]⟩
      · exact .inr (.inl ⟨by simp [h2, e1], by simp [h2, e2], by simp [e3]⟩)
      · exact .inr (.inr ⟨by simp [h2, e1], by simp [h2, e2], by simp [e3]⟩)
    · have h1 : y < x := UInt8.lt_iff_toNat_lt.2 h
      have h2 : ¬ x < y := fun e => by have := UInt8.lt_iff_toNat_lt.1 e; omega
      have h3 : x ≠ y := fun e => by subst e; omega
      exact .inr (.inl ⟨by simp [h2, h3], by simp [h1], by simp [h3]⟩)
theorem bl_trans : ∀ a b c : List UInt8, Op.bytesLess a b = true → Op.bytesLess b c = true → Op.bytesLess a c = true
  | _, [], _, h, _ => by
    rename_i a c
    cases a <;> simp [Op.bytesLess] at h
  | _, _ :: _, [], _, h => by simp [Op.bytesLess] at h
  | [], _ :: _, _ :: _, _, _ => rfl
  | x :: a, y :: b, z :: c, h1, h2 => by
    have e1 : (decide (x < y) || (x == y && Op.bytesLess a b)) = true := h1
    have e2 : (decide (y < z) || (y == z && Op.bytesLess b c)) = true := h2
    show (decide (x < z) || (x == z && Op.bytesLess a c)) = true
    simp only [Bool.or_eq_true, decide_eq_true_eq, Bool.and_eq_true, beq_iff_eq] at e1 e2 ⊢
    rcases e1 with e1 | ⟨rfl, e1⟩ <;> rcases e2 with e2 | ⟨rfl, e2⟩
    · exact .inl (UInt8.lt_iff_toNat_lt.2 (by have := UInt8.lt_iff_toNat_lt.1 e1; have := UInt8.lt_iff_toNat_lt.1 e2; omega))
    · exact .inl e1
    · exact .inl e2
    · exact .inr ⟨rfl, bl_trans a b c e1 e2⟩
/-- an address: local part, domain, resource. -/
abbrev Adr := List UInt8 × List UInt8 × List UInt8
def lsP (a b : Adr) : Bool := Op.bytesLess a.2.1 b.2.1 || (!Op.bytesLess b.2.1 a.2.1 && (Op.bytesLess a.1 b.1 || (!Op.bytesLess b.1 a.1 && Op.bytesLess a.2.2 b.2.2)))
theorem ls_irr (a : Adr) : lsP a a = false := by simp [lsP, bl_irr]
theorem ls_tri (a b : Adr) : (lsP a b && lsP b a) = false ∧ (lsP a b || lsP b a) = !decide (a = b) := by
  obtain ⟨al, ad, ar⟩ := a
  obtain ⟨bl, bd, br⟩ := b
  unfold lsP
  rcases bl_tri ad bd with ⟨d1, d2, d3⟩ | ⟨d1, d2, d3⟩ | ⟨d1, d2, rfl⟩
  · simp [d1, d2, d3]
  · simp [d1, d2, d3]
  · rcases bl_tri al bl with ⟨l1, l2, l3⟩ | ⟨l1, l2, l3⟩ | ⟨l1, l2, rfl⟩
    · simp [d1, l1, l2, l3]
    · simp [d1, l1, l2, l3]
    · rcases bl_tri ar br with ⟨r1, r2, r3⟩ | ⟨r1, r2, r3⟩ | ⟨r1, r2, rfl⟩ <;> simp_all
theorem ls_trans (a b c : Adr) (h1 : lsP a b = true) (h2 : lsP b c = true) : lsP a c = true := by
  obtain ⟨al, ad, ar⟩ := a
  obtain ⟨bl, bd, br⟩ := b
  obtain ⟨cl, cd, cr⟩ := c
  unfold lsP at *
  simp only [Bool.or_eq_true, Bool.and_eq_true, Bool.not_eq_true'] at *
  rcases h1 with h1 | ⟨h1, h1'⟩ <;> rcases h2 with h2 | ⟨h2, h2'⟩
  · exact .inl (bl_trans _ _ _ h1 h2)
  · rcases bl_tri bd cd with ⟨d1, d2, d3⟩ | ⟨d1, d2, d3⟩ | ⟨d1, d2, d3⟩
    · exact .inl (bl_trans _ _ _ h1 d1)
    · rw [d2] at h2; cases h2
    · subst d3; exact .inl h1
  · rcases bl_tri ad bd with ⟨d1, d2, d3⟩ | ⟨d1, d2, d3⟩ | ⟨d1, d2, d3⟩
    · exact .inl (bl_trans _ _ _ d1 h2)
    · rw [d2] at h1; cases h1
    · subst d3; exact .inl h2
  · rcases bl_tri ad bd with ⟨d1, d2, d3⟩ | ⟨d1, d2, d3⟩ | ⟨d1, d2, d3⟩
    · rcases bl_tri bd cd with ⟨f1, f2, f3⟩ | ⟨f1, f2, f3⟩ | ⟨f1, f2, f3⟩
      · exact .inl (bl_trans _ _ _ d1 f1)
      · rw [f2] at h2; cases h2
      · subst f3; exact .inl d1
    · rw [d2] at h1; cases h1
    · subst d3
      rcases bl_tri ad cd with ⟨f1, f2, f3⟩ | ⟨f1, f2, f3⟩ | ⟨f1, f2, f3⟩
      · exact .inl f1
      · rw [f2] at h2; cases h2
      · refine .inr ⟨f2, ?_⟩
        rcases h1' with h1' | ⟨h1', h1''⟩ <;> rcases h2' with h2' | ⟨h2', h2''⟩
        · exact .inl (bl_trans _ _ _ h1' h2')
        · rcases bl_tri bl cl with ⟨g1, g2, g3⟩ | ⟨g1, g2, g3⟩ | ⟨g1, g2, g3⟩
          · exact .inl (bl_trans _ _ _ h1' g1)
          · rw [g2] at h2'; cases h2'
          · subst g3; exact .inl h1'
        · rcases bl_tri al bl with ⟨g1, g2, g3⟩ | ⟨g1, g2, g3⟩ | ⟨g1, g2, g3⟩
          · exact .inl (bl_trans _ _ _ g1 h2')
          · rw [g2] at h1'; cases h1'
          · subst g3; exact .inl h2'
        · rcases bl_tri al bl with ⟨g1, g2, g3⟩ | ⟨g1, g2, g3⟩ | ⟨g1, g2, g3⟩
          · rcases bl_tri bl cl with ⟨k1, k2, k3⟩ | ⟨k1, k2, k3⟩ | ⟨k1, k2, k3⟩
            · exact .inl (bl_trans _ _ _ g1 k1)
            · rw [k2] at h2'; cases h2'
            · subst k3; exact .inl g1
          · rw [g2] at h1'; cases h1'
          · subst g3
            rcases bl_tri al cl with ⟨k1, k2, k3⟩ | ⟨k1, k2, k3⟩ | ⟨k1, k2, k3⟩
            · exact .inl k1
            · rw [k2] at h2'; cases h2'
            · exact .inr ⟨k2, bl_trans _ _ _ h1'' h2''⟩
/-- without its resource it is the same, or less. -/
theorem ls_bare (l d r : List UInt8) : (r = [] → lsP (l, d, []) (l, d, r) = false) ∧ (r ≠ [] → lsP (l, d, []) (l, d, r) = true) := by
  refine ⟨fun h => by subst h; exact ls_irr _, fun h => ?_⟩
  cases r with
  | nil => exact absurd rfl h
  | cons a r => simp [lsP, bl_irr, Op.bytesLess]
end Go.Proofs.YtfonkblbgadhmaaDoor
