/- JdO, JdP: put together by mergetpl.py. -/
import Derived.Test.YtjgeiieiinmdnaaGreatDoorGa
import Derived.Test.YtjgeiieiinmdnaaGreatDoorGc
import Derived.Lib.MapLaws
import Derived.Lib.TrimAscii
namespace Go.Proofs.YtjgeiieiinmdnaaGreatDoor
theorem bl_irr : ∀ l : List UInt8, Op.bytesLess l l = false
 | [] => rfl
 | a :: l => by
  show (decide (a < a) || (a == a && Op.bytesLess l l)) = false
  rw [bl_irr l]
  simp
theorem bl_tri : ∀ a b : List UInt8, (Op.bytesLess a b = true ∧ Op.bytesLess b a = false ∧ a ≠ b) ∨ (Op.bytesLess a b = false ∧ Op.bytesLess b a = true ∧ a ≠ b) ∨ (Op.bytesLess a b = false ∧ Op.bytesLess b a = false ∧ a = b)
 | [], [] => .inr (.inr ⟨rfl, rfl, rfl⟩)
 | [], _ :: _ => .inl ⟨rfl, rfl, by simp⟩
 | _ :: _, [] => .inr (.inl ⟨rfl, rfl, by simp⟩)
 | x :: a, y :: b => by
  show (((decide (x < y) || (x == y && Op.bytesLess a b)) = true ∧ (decide (y < x) || (y == x && Op.bytesLess b a)) = false ∧ _) ∨ ((decide (x < y) || (x == y && Op.bytesLess a b)) = false ∧ (decide (y < x) || (y == x && Op.bytesLess b a)) = true ∧ _) ∨ ((decide (x < y) || (x == y && Op.bytesLess a b)) = false ∧ (decide (y < x) || (y == x && Op.bytesLess b a)) = false ∧ _))
  rcases Nat.lt_trichotomy x.toNat y.toNat with h | h | h
  ·have h1 : x < y := UInt8.lt_iff_toNat_lt.2 h
   have h2 : ¬ y < x := fun e => by have := UInt8.lt_iff_toNat_lt.1 e; omega
   have h3 : x ≠ y := fun e => by subst e; omega
   exact .inl ⟨by simp [h1], by simp [h2, Ne.symm h3], by simp [h3]⟩
  ·have h3 : x = y := UInt8.toNat_inj.1 h
   subst h3
   have h2 : ¬ x < x := fun e => by have := UInt8.lt_iff_toNat_lt.1 e; omega
   rcases bl_tri a b with ⟨e1, e2, e3⟩ | ⟨e1, e2, e3⟩ | ⟨e1, e2, e3⟩
   ·exact .inl ⟨by simp [h2, e1], by simp [h2, e2], by simp [e3]⟩
   ·exact .inr (.inl ⟨by simp [h2, e1], by simp [h2, e2], by simp [e3]⟩)
   ·exact .inr (.inr ⟨by simp [h2, e1], by simp [h2, e2], by simp [e3]⟩)
  ·have h1 : y < x := UInt8.lt_iff_toNat_lt.2 h
   have h2 : ¬ x < y := fun e => by have := UInt8.lt_iff_toNat_lt.1 e; omega
   have h3 : x ≠ y := fun e => by subst e; omega
   exact .inr (.inl ⟨by simp [h2, h3], by simp [h1], by simp [h3]⟩)
theorem bl_trans : ∀ a b c : List UInt8, Op.bytesLess a b = true → Op.bytesLess b c = true → Op.bytesLess a c = true
 | _, [], _, h, _ => by
  rename_i a c
  cases a <;> simp [Op.bytesLess] at h
 | _, _ :: _, [], _, h => by simp [Op.bytesLess] at h
 | [], _ :: _, _ :: _, _, _ => rfl
 | x :: a, y :: b, z :: c, h1, h2 => by
  have e1 : (decide (x < y) || (x == y && Op.bytesLess a b)) = true := h1
  have e2 : (decide (y < z) || (y == z && Op.bytesLess b c)) = true := h2
  show (decide (x < z) || (x == z && Op.bytesLess a c)) = true
  simp only [Bool.or_eq_true, decide_eq_true_eq, Bool.and_eq_true, beq_iff_eq] at e1 e2 ⊢
  rcases e1 with e1 | ⟨rfl, e1⟩ <;> rcases e2 with e2 | ⟨rfl, e2⟩
  ·exact .inl (UInt8.lt_iff_toNat_lt.2 (by have := UInt8.lt_iff_toNat_lt.1 e1; have := UInt8.lt_iff_toNat_lt.1 e2; omega))
  ·exact .inl e1
  ·exact .inl e2
  ·exact .inr ⟨rfl, bl_trans a b c e1 e2⟩
/-- an address: local part, domain, resource. -/
abbrev Adr := List UInt8 × List UInt8 × List UInt8
def lsP (a b : Adr) : Bool := Op.bytesLess a.2.1 b.2.1 || (!Op.bytesLess b.2.1 a.2.1 && (Op.bytesLess a.1 b.1 || (!Op.bytesLess b.1 a.1 && Op.bytesLess a.2.2 b.2.2)))
theorem ls_irr (a : Adr) : lsP a a = false := by simp [lsP, bl_irr]
theorem ls_tri (a b : Adr) : (lsP a b && lsP b a) = false ∧ (lsP a b || lsP b a) = !decide (a = b) := by
 obtain ⟨al, ad, ar⟩ := a
 obtain ⟨bl, bd, br⟩ := b
 unfold lsP
 rcases bl_tri ad bd with ⟨d1, d2, d3⟩ | ⟨d1, d2, d3⟩ | ⟨d1, d2, rfl⟩
 ·simp [d1, d2, d3]
 ·simp [d1, d2, d3]
 ·rcases bl_tri al bl with ⟨l1, l2, l3⟩ | ⟨l1, l2, l3⟩ | ⟨l1, l2, rfl⟩
  ·simp [d1, l1, l2, l3]
  ·simp [d1, l1, l2, l3]
  ·rcases bl_tri ar br with ⟨r1, r2, r3⟩ | ⟨r1, r2, r3⟩ | ⟨r1, r2, rfl⟩ <;> simp_all
theorem ls_trans (a b c : Adr) (h1 : lsP a b = true) (h2 : lsP b c = true) : lsP a c = true := by
 obtain ⟨al, ad, ar⟩ := a
 obtain ⟨bl, bd, br⟩ := b
 obtain ⟨cl, cd, cr⟩ := c
 unfold lsP at *
 simp only [Bool.or_eq_true, Bool.and_eq_true, Bool.not_eq_true'] at *
 rcases h1 with h1 | ⟨h1, h1'⟩ <;> rcases h2 with h2 | ⟨h2, h2'⟩
 ·exact .inl (bl_trans _ _ _ h1 h2)
 ·rcases bl_tri bd cd with ⟨d1, d2, d3⟩ | ⟨d1, d2, d3⟩ | ⟨d1, d2, d3⟩
  ·exact .inl (bl_trans _ _ _ h1 d1)
  ·rw [d2] at h2; cases h2
  ·subst d3; exact .inl h1
 ·rcases bl_tri ad bd with ⟨d1, d2, d3⟩ | ⟨d1, d2, d3⟩ | ⟨d1, d2, d3⟩
  ·exact .inl (bl_trans _ _ _ d1 h2)
  ·rw [d2] at h1; cases h1
  ·subst d3; exact .inl h2
 ·rcases bl_tri ad bd with ⟨d1, d2, d3⟩ | ⟨d1, d2, d3⟩ | ⟨d1, d2, d3⟩
  ·rcases bl_tri bd cd with ⟨f1, f2, f3⟩ | ⟨f1, f2, f3⟩ | ⟨f1, f2, f3⟩
   ·exact .inl (bl_trans _ _ _ d1 f1)
   ·rw [f2] at h2; cases h2
   ·subst f3; exact .inl d1
  ·rw [d2] at h1; cases h1
  ·subst d3
   rcases bl_tri ad cd with ⟨f1, f2, f3⟩ | ⟨f1, f2, f3⟩ | ⟨f1, f2, f3⟩
   ·exact .inl f1
   ·rw [f2] at h2; cases h2
   ·refine .inr ⟨f2, ?_⟩
    rcases h1' with h1' | ⟨h1', h1''⟩ <;> rcases h2' with h2' | ⟨h2', h2''⟩
    ·exact .inl (bl_trans _ _ _ h1' h2')
    ·rcases bl_tri bl cl with ⟨g1, g2, g3⟩ | ⟨g1, g2, g3⟩ | ⟨g1, g2, g3⟩
     ·exact .inl (bl_trans _ _ _ h1' g1)
     ·rw [g2] at h2'; cases h2'
     ·subst g3; exact .inl h1'
    ·rcases bl_tri al bl with ⟨g1, g2, g3⟩ | ⟨g1, g2, g3⟩ | ⟨g1, g2, g3⟩
     ·exact .inl (bl_trans _ _ _ g1 h2')
     ·rw [g2] at h1'; cases h1'
     ·subst g3; exact .inl h2'
    ·rcases bl_tri al bl with ⟨g1, g2, g3⟩ | ⟨g1, g2, g3⟩ | ⟨g1, g2, g3⟩
     ·rcases bl_tri bl cl with ⟨k1, k2, k3⟩ | ⟨k1, k2, k3⟩ | ⟨k1, k2, k3⟩
      ·exact .inl (bl_trans _ _ _ g1 k1)
      ·rw [k2] at h2'; cases h2'
      ·subst k3; exact .inl g1
     ·rw [g2] at h1'; cases h1'
     ·subst g3
      rcases bl_tri al cl with ⟨k1, k2, k3⟩ | ⟨k1, k2, k3⟩ | ⟨k1, k2, k3⟩
      ·exact .inl k1
      ·rw [k2] at h2'; cases h2'
      ·exact .inr ⟨k2, bl_trans _ _ _ h1'' h2''⟩
end Go.Proofs.YtjgeiieiinmdnaaGreatDoor
namespace Go.Proofs.YtjgeiieiinmdnaaGreatDoor
open Go.Lib

/-! ### texts -/
def mayP (n : Nat) : Bool := if n < 32 then (n == 9 || n == 10 || n == 13) else (decide (n ≤ 1114111) && (decide (n < 55296) || decide (57343 < n)) && !(n == 65534) && !(n == 65535))
def txG : Nat → List UInt8 → Bool
 | 0, _ => true
 | n + 1, l => if l = [] then true else if ((decodeL l).1 = 65533 ∧ (decodeL l).2 = 1) ∨ mayP (decodeL l).1 = false then false else txG n (l.drop (decodeL l).2)
def txP (l : List UInt8) : Bool := txG l.length l
theorem txG_enough : ∀ (n m : Nat) (l : List UInt8), l.length ≤ n → l.length ≤ m → txG n l = txG m l
 | 0, m, l, h, _ => by
  have : l = [] := List.length_eq_zero_iff.1 (by omega)
  subst this
  cases m <;> simp [txG]
 | n + 1, 0, l, _, h => by
  have : l = [] := List.length_eq_zero_iff.1 (by omega)
  subst this
  simp [txG]
 | n + 1, m + 1, l, h1, h2 => by
  unfold txG
  split
  ·rfl
  ·split
   ·rfl
   ·have := decodeL_width l
    exact txG_enough n m _ (by rw [List.length_drop]; omega) (by rw [List.length_drop]; omega)
theorem txP_nil : txP [] = true := rfl
theorem txP_step (l : List UInt8) (h : l ≠ []) : txP l = if ((decodeL l).1 = 65533 ∧ (decodeL l).2 = 1) ∨ mayP (decodeL l).1 = false then false else txP (l.drop (decodeL l).2) := by
 obtain ⟨n, hn⟩ : ∃ n, l.length = n + 1 := ⟨l.length - 1, by have := List.length_pos_iff.2 h; omega⟩
 have hw := decodeL_width l
 unfold txP
 rw [hn]
 conv => lhs; unfold txG
 rw [if_neg h]
 split
 ·rfl
 ·exact txG_enough _ _ _ (by rw [List.length_drop]; omega) (Nat.le_refl _)

/-! ### parts -/
def jdA (c : UInt8) : Bool := (decide (97 ≤ c.toNat) && decide (c.toNat ≤ 122)) || (decide (48 ≤ c.toNat) && decide (c.toNat ≤ 57))
def jdD (c : UInt8) : Bool := jdA c || c == 46 || c == 45
def jdL (c : UInt8) : Bool := jdD c || c == 95
def dotsP : List UInt8 → Bool
 | a :: b :: l => (a == 46 && b == 46) || dotsP (b :: l)
 | _ => false
def locP (l : List UInt8) : Bool := !l.isEmpty && decide (l.length ≤ 64) && l.all jdL
def domP (l : List UInt8) : Bool := !l.isEmpty && decide (l.length ≤ 64) && (l.all jdD && (jdA (l.headD 0) && jdA (l.getLastD 0)) && !dotsP l)
def resP (l : List UInt8) : Bool := !l.isEmpty && decide (l.length ≤ 64) && (txP l && l.all fun c => decide (32 ≤ c.toNat))
/-- what Check asks of a local part, a domain and a resource. -/
def chkP (l d r : List UInt8) : Bool := (l.isEmpty || locP l) && (r.isEmpty || resP r) && domP d
/-- the text of an address that may be. -/
def txtP (l d r : List UInt8) : List UInt8 := (if l.isEmpty then d else l ++ 64 :: d) ++ (if r.isEmpty then [] else 47 :: r)
/-- what Parse lays out of a text: local part, domain, resource. -/
def lowA (s : List UInt8) : List UInt8 := lowL (cA 47 s)
def jLoc (s : List UInt8) : List UInt8 := if (lowA s).contains 64 then cA 64 (lowA s) else []
def jDom (s : List UInt8) : List UInt8 := if (lowA s).contains 64 then cR 64 (lowA s) else lowA s
def jRes (s : List UInt8) : List UInt8 := cR 47 s
/-- Parse answers it. -/
def prsP (s : List UInt8) : Bool := !((lowA s).contains 64 && (jLoc s).isEmpty) && !(s.contains 47 && (jRes s).isEmpty) && chkP (jLoc s) (jDom s) (jRes s)

theorem all256 {q : UInt8 → Bool} (h : (List.range 256).all (fun n => q (UInt8.ofNat n)) = true) (c : UInt8) : q c = true := by
 have := List.all_eq_true.1 h c.toNat (List.mem_range.2 (UInt8.toNat_lt c))
 rwa [UInt8.ofNat_toNat] at this
theorem jdL_facts (c : UInt8) : (!jdL c || (loB c == c && c != 64 && c != 47)) = true := all256 (q := fun c => !jdL c || (loB c == c && c != 64 && c != 47)) (by decide +kernel) c
theorem jdL_of (c : UInt8) (h : jdL c = true) : loB c = c ∧ c ≠ 64 ∧ c ≠ 47 := by
 have := jdL_facts c
 rw [h] at this
 simp only [Bool.not_true, Bool.false_or, Bool.and_eq_true, beq_iff_eq, bne_iff_ne, ne_eq] at this
 exact ⟨this.1.1, this.1.2, this.2⟩
theorem jdD_of (c : UInt8) (h : jdD c = true) : jdL c = true := by unfold jdL; rw [h]; rfl
theorem cA_app (c : UInt8) (l r : List UInt8) (h : c ∉ l) : cA c (l ++ c :: r) = l ∧ cR c (l ++ c :: r) = r := by
 induction l with
 | nil => simp [cA, cR]
 | cons a l ih =>
  have ha : a ≠ c := fun e => h (by simp [e])
  have := ih (fun e => h (by simp [e]))
  simp only [cA, cR] at this ⊢
  constructor
  ·rw [List.cons_append, List.takeWhile_cons_of_pos (by simpa using ha), this.1]
  ·rw [List.cons_append, List.dropWhile_cons_of_pos (by simpa using ha), this.2]
theorem cA_not (c : UInt8) (l : List UInt8) (h : c ∉ l) : cA c l = l ∧ cR c l = [] := by
 induction l with
 | nil => simp [cA, cR]
 | cons a l ih =>
  have ha : a ≠ c := fun e => h (by simp [e])
  have := ih (fun e => h (by simp [e]))
  simp only [cA, cR] at this ⊢
  constructor
  ·rw [List.takeWhile_cons_of_pos (by simpa using ha), this.1]
  ·rw [List.dropWhile_cons_of_pos (by simpa using ha), this.2]
theorem all_low {l : List UInt8} (h : l.all jdL = true) : lowL l = l ∧ (64 : UInt8) ∉ l ∧ (47 : UInt8) ∉ l := by
 refine ⟨?_, fun hc => ?_, fun hc => ?_⟩
 ·unfold lowL
  conv => rhs; rw [← List.map_id l]
  exact List.map_congr_left fun c hc => (jdL_of c (List.all_eq_true.1 h c hc)).1
 ·exact (jdL_of _ (List.all_eq_true.1 h _ hc)).2.1 rfl
 ·exact (jdL_of _ (List.all_eq_true.1 h _ hc)).2.2 rfl
theorem domP_all {d : List UInt8} (h : domP d = true) : d.all jdL = true ∧ d ≠ [] := by
 unfold domP at h
 simp only [Bool.and_eq_true, Bool.not_eq_true', decide_eq_true_eq] at h
 refine ⟨List.all_eq_true.2 fun c hc => jdD_of c (List.all_eq_true.1 h.2.1.1 c hc), fun e => ?_⟩
 rw [e] at h
 simp at h
theorem locP_all {l : List UInt8} (h : locP l = true) : l.all jdL = true := by
 unfold locP at h
 simp only [Bool.and_eq_true] at h
 exact h.2
theorem lowL_app (a b : List UInt8) : lowL (a ++ b) = lowL a ++ lowL b := by simp [lowL]
theorem chk_facts {l d r : List UInt8} (h : chkP l d r = true) : l.all jdL = true ∧ d.all jdL = true ∧ d ≠ [] := by
 unfold chkP at h
 simp only [Bool.and_eq_true, Bool.or_eq_true] at h
 refine ⟨?_, domP_all h.2⟩
 cases h.1.1 with
 | inl e => rw [List.isEmpty_iff.1 e]; rfl
 | inr e => exact locP_all e
/-- what is written is read as that. -/
theorem prs_txt {l d r : List UInt8} (h : chkP l d r = true) : prsP (txtP l d r) = true ∧ jLoc (txtP l d r) = l ∧ jDom (txtP l d r) = d ∧ jRes (txtP l d r) = r := by
 obtain ⟨hl, hd, hn⟩ := chk_facts h
 obtain ⟨l1, l2, l3⟩ := all_low hl
 obtain ⟨d1, d2, d3⟩ := all_low hd
 have hA : cA 47 (txtP l d r) = (if l.isEmpty then d else l ++ 64 :: d) ∧ cR 47 (txtP l d r) = r ∧ (txtP l d r).contains 47 = !r.isEmpty := by
  have h3 : (47 : UInt8) ∉ (if l.isEmpty then d else l ++ 64 :: d) := by
   split
   ·exact d3
   ·simp [l3, d3]
  unfold txtP
  cases r with
  | nil =>
   have := cA_not 47 _ h3
   refine ⟨by simpa using this.1, by simpa using this.2, ?_⟩
   simpa using h3
  | cons a r =>
   have := cA_app 47 (if l.isEmpty then d else l ++ 64 :: d) (a :: r) h3
   exact ⟨by simpa using this.1, by simpa using this.2, by simp⟩
 have hlow : lowA (txtP l d r) = (if l.isEmpty then d else l ++ 64 :: d) := by
  unfold lowA
  rw [hA.1]
  split
  ·exact d1
  ·rw [lowL_app, l1]
   show l ++ (loB 64 :: lowL d) = _
   rw [d1]
   rfl
 have hB : jLoc (txtP l d r) = l ∧ jDom (txtP l d r) = d ∧ (lowA (txtP l d r)).contains 64 = !l.isEmpty := by
  unfold jLoc jDom
  rw [hlow]
  cases l with
  | nil =>
   have hc : d.contains 64 = false := by simpa using d2
   simp only [List.isEmpty_nil, if_true, hc, Bool.false_eq_true, if_false, Bool.not_true]
   exact ⟨trivial, trivial, trivial⟩
  | cons a l =>
   have := cA_app 64 (a :: l) d l2
   have hc : (a :: l ++ 64 :: d).contains 64 = true := by simp
   simp only [List.isEmpty_cons, Bool.false_eq_true, if_false, hc, if_true, Bool.not_false]
   exact ⟨this.1, this.2, trivial⟩
 refine ⟨?_, hB.1, hB.2.1, hA.2.1⟩
 unfold prsP
 rw [hB.1, hB.2.1, hB.2.2, hA.2.2, show jRes (txtP l d r) = r from hA.2.1, h]
 cases l <;> cases r <;> rfl
theorem prs_chk {s : List UInt8} (h : prsP s = true) : chkP (jLoc s) (jDom s) (jRes s) = true := by
 unfold prsP at h
 simp only [Bool.and_eq_true] at h
 exact h.2
end Go.Proofs.YtjgeiieiinmdnaaGreatDoor
