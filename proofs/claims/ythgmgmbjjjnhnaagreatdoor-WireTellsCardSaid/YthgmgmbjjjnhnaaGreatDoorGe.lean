/- HdP, HdA, HdB, HdC, HdD, HdE, HdG: put together by mergetpl.py. -/
import Derived.Test.YthgmgmbjjjnhnaaGreatDoorGc
import Derived.Test.YthgmgmbjjjnhnaaGreatDoorGa
import Derived.Test.YthgmgmbjjjnhnaaGreatDoorGb
import Derived.Deep.RegionHeld3
import Derived.Lib.IndexMore
namespace Go.Proofs.YthgmgmbjjjnhnaaGreatDoor
open Go.RowKit

/-- What stands ahead of the first end of a line, and behind it. -/
def crA : List UInt8 → Option (List UInt8 × List UInt8)
  | [] => none
  | [_] => none
  | c :: d :: r => if c = 13 ∧ d = 10 then some ([], r) else (crA (d :: r)).map fun x => (c :: x.1, x.2)
theorem crA_split : ∀ (l : List UInt8) {x r : List UInt8}, crA l = some (x, r) → l = x ++ 13 :: 10 :: r
  | [], _, _, h => by cases h
  | [_], _, _, h => by cases h
  | c :: d :: l, x, r, h => by
    simp only [crA] at h
    by_cases hc : c = 13 ∧ d = 10
    · rw [if_pos hc] at h
      cases h
      rw [hc.1, hc.2]
      rfl
    · rw [if_neg hc] at h
      obtain ⟨⟨y, s⟩, h1, h2⟩ := Option.map_eq_some_iff.1 h
      cases h2
      rw [crA_split (d :: l) h1]
      rfl
theorem crA_lt {l x r : List UInt8} (h : crA l = some (x, r)) : r.length + 2 + x.length = l.length := by
  rw [crA_split l h]
  simp
  omega
theorem crA_app (b : List UInt8) : ∀ (a : List UInt8) {x r : List UInt8}, crA a = some (x, r) → crA (a ++ b) = some (x, r ++ b)
  | [], _, _, h => by cases h
  | [_], _, _, h => by cases h
  | c :: d :: l, x, r, h => by
    simp only [crA] at h
    show crA (c :: d :: (l ++ b)) = _
    simp only [crA]
    by_cases hc : c = 13 ∧ d = 10
    · rw [if_pos hc] at h ⊢
      cases h
      rfl
    · rw [if_neg hc] at h ⊢
      obtain ⟨⟨y, s⟩, h1, h2⟩ := Option.map_eq_some_iff.1 h
      cases h2
      have := crA_app b (d :: l) h1
      rw [List.cons_append] at this
      rw [this]
      rfl
theorem crA_of : ∀ (x r : List UInt8), (∀ c ∈ x, c ≠ 13) → crA (x ++ 13 :: 10 :: r) = some (x, r)
  | [], r, _ => by
    show crA (13 :: 10 :: r) = _
    simp only [crA]
    rw [if_pos (by simp)]
  | [c], r, h => by
    show crA (c :: 13 :: 10 :: r) = _
    simp only [crA]
    rw [if_neg (fun e => h c (by simp) e.1), if_pos (by simp)]
    rfl
  | c :: d :: x, r, h => by
    have ih := crA_of (d :: x) r (fun e he => h e (List.mem_cons_of_mem _ he))
    show crA (c :: d :: (x ++ 13 :: 10 :: r)) = _
    simp only [crA]
    rw [if_neg (fun e => h c (by simp) e.1)]
    rw [List.cons_append] at ih
    rw [ih]
    rfl
abbrev Pr := List UInt8 × List UInt8
/-- A line's field. -/
def fldB (l : List UInt8) : Bool := l.contains 58 && (tok (cA 58 l) && pln (cR 58 l))
def fldV (l : List UInt8) : Pr := (lowL (cA 58 l), trm (cR 58 l))
/-- A text's lines, and whether each has an end. -/
def lnsN : Nat → List UInt8 → List (List UInt8 × Bool)
  | 0, _ => []
  | n + 1, l => if l = [] then [] else match crA l with
    | none => [(l, false)]
    | some (x, r) => (x, true) :: lnsN n r
def lns (l : List UInt8) : List (List UInt8 × Bool) := lnsN l.length l
theorem lnsN_fuel : ∀ (n m : Nat) (l : List UInt8), l.length ≤ n → l.length ≤ m → lnsN n l = lnsN m l
  | 0, 0, _, _, _ => rfl
  | 0, m + 1, l, h, _ => by
    obtain rfl : l = [] := List.eq_nil_of_length_eq_zero (by omega)
    rfl
  | n + 1, 0, l, _, h => by
    obtain rfl : l = [] := List.eq_nil_of_length_eq_zero (by omega)
    rfl
  | n + 1, m + 1, l, h1, h2 => by
    simp only [lnsN]
    by_cases h0 : l = []
    · rw [if_pos h0, if_pos h0]
    · rw [if_neg h0, if_neg h0]
      cases hc : crA l with
      | none => rfl
      | some y =>
        obtain ⟨x, r⟩ := y
        have := crA_lt hc
        simp only
        rw [lnsN_fuel n m r (by omega) (by omega)]
theorem lns_nil : lns [] = [] := rfl
theorem lns_none {l : List UInt8} (h0 : l ≠ []) (h : crA l = none) : lns l = [(l, false)] := by
  unfold lns
  cases l with
  | nil => exact absurd rfl h0
  | cons c l =>
    rw [List.length_cons]
    simp only [lnsN]
    rw [if_neg h0, h]
theorem lns_some {l x r : List UInt8} (h : crA l = some (x, r)) : lns l = (x, true) :: lns r := by
  unfold lns
  cases l with
  | nil => cases h
  | cons c l =>
    have hl := crA_lt h
    rw [List.length_cons] at hl ⊢
    simp only [lnsN]
    rw [if_neg (by simp), h]
    simp only
    rw [lnsN_fuel l.length r.length r (by omega) (Nat.le_refl _)]
/-- Lines' fields. -/
def flds : List (List UInt8 × Bool) → Option (List Pr)
  | [] => some []
  | x :: r => if x.2 = true ∧ fldB x.1 = true then (flds r).map (fldV x.1 :: ·) else none
def hdA (l : List UInt8) : Option (List Pr) := flds (lns l)
theorem flds_app (a b : List (List UInt8 × Bool)) : flds (a ++ b) = (flds a).bind fun p => (flds b).map (p ++ ·) := by
  induction a with
  | nil =>
    simp only [List.nil_append, flds, Option.bind_some]
    cases flds b <;> rfl
  | cons x a ih =>
    simp only [List.cons_append, flds]
    by_cases h : x.2 = true ∧ fldB x.1 = true
    · rw [if_pos h, if_pos h, ih]
      cases flds a with
      | none => rfl
      | some p =>
        cases flds b with
        | none => rfl
        | some q => rfl
    · rw [if_neg h, if_neg h]
      rfl
theorem flds_bad {a : List (List UInt8 × Bool)} {x : List UInt8 × Bool} (hx : x ∈ a) (h : ¬ (x.2 = true ∧ fldB x.1 = true)) : flds a = none := by
  induction a with
  | nil => cases hx
  | cons y a ih =>
    simp only [flds]
    rcases List.mem_cons.1 hx with rfl | hx
    · rw [if_neg h]
    · rw [ih hx]
      split <;> rfl
theorem flds_good {a : List (List UInt8 × Bool)} (h : ∀ x ∈ a, x.2 = true ∧ fldB x.1 = true) : flds a = some (a.map fun x => fldV x.1) := by
  induction a with
  | nil => rfl
  | cons y a ih =>
    simp only [flds]
    rw [if_pos (h y (List.mem_cons_self ..)), ih fun x hx => h x (List.mem_cons_of_mem _ hx)]
    rfl
theorem hdA_nil : hdA [] = some [] := rfl
theorem hdA_none {l : List UInt8} (h0 : l ≠ []) (h : crA l = none) : hdA l = none := by
  unfold hdA
  rw [lns_none h0 h]
  rfl
theorem hdA_some {l x r : List UInt8} (h : crA l = some (x, r)) : hdA l = if fldB x = true then (hdA r).map (fldV x :: ·) else none := by
  unfold hdA
  rw [lns_some h]
  simp only [flds, true_and]
/-- What head.Parse answers. -/
def hdE (l : List UInt8) : Int := if 16384 < l.length then 4 else match hdA l with
  | none => 140
  | some ps => if 32 < ps.length then 4 else 0
def hdV (l : List UInt8) : List Pr := if hdE l = 0 then (hdA l).getD [] else []
theorem hdE_ok {l : List UInt8} (h : hdE l = 0) : l.length ≤ 16384 ∧ ∃ ps, hdA l = some ps ∧ ps.length ≤ 32 ∧ hdV l = ps := by
  have hv : hdV l = (hdA l).getD [] := by unfold hdV; rw [if_pos h]
  unfold hdE at h
  by_cases hl : 16384 < l.length
  · rw [if_pos hl] at h
    cases h
  · rw [if_neg hl] at h
    refine ⟨by omega, ?_⟩
    cases ha : hdA l with
    | none => rw [ha] at h; cases h
    | some ps =>
      rw [ha] at h
      simp only at h
      by_cases hp : 32 < ps.length
      · rw [if_pos hp] at h
        cases h
      · exact ⟨ps, rfl, by omega, by rw [hv, ha]; rfl⟩
theorem hdE_of {l : List UInt8} {ps : List Pr} (hl : l.length ≤ 16384) (h : hdA l = some ps) (hp : ps.length ≤ 32) : hdE l = 0 ∧ hdV l = ps := by
  have he : hdE l = 0 := by
    unfold hdE
    rw [if_neg (by omega), h]
    simp only
    rw [if_neg (by omega)]
  exact ⟨he, by unfold hdV; rw [if_pos he, h]; rfl⟩
theorem hdE_many {l : List UInt8} {ps : List Pr} (h : hdA l = some ps) (hp : 32 < ps.length) : hdE l = 4 ∧ hdV l = [] := by
  have he : hdE l = 4 := by
    unfold hdE
    split
    · rfl
    · rw [h]
      simp only
      rw [if_pos hp]
  exact ⟨he, by unfold hdV; rw [if_neg (by rw [he]; decide)]⟩
theorem hdE_bad {l : List UInt8} (h : hdE l ≠ 0) : hdV l = [] := by unfold hdV; rw [if_neg h]
theorem hdA_app {a : List UInt8} (b : List UInt8) : ∀ {p : List Pr}, hdA a = some p → hdA (a ++ b) = (hdA b).map (p ++ ·) := by
  have key : ∀ (n : Nat) (a : List UInt8), a.length ≤ n → ∀ {p : List Pr}, hdA a = some p → hdA (a ++ b) = (hdA b).map (p ++ ·) := by
    intro n
    induction n with
    | zero =>
      intro a hn p h
      obtain rfl : a = [] := List.eq_nil_of_length_eq_zero (by omega)
      cases h
      rw [List.nil_append]
      cases hdA b <;> rfl
    | succ n ih =>
      intro a hn p h
      by_cases h0 : a = []
      · subst h0
        cases h
        rw [List.nil_append]
        cases hdA b <;> rfl
      · cases hc : crA a with
        | none => rw [hdA_none h0 hc] at h; cases h
        | some y =>
          obtain ⟨x, r⟩ := y
          have hl := crA_lt hc
          rw [hdA_some hc] at h
          rw [hdA_some (crA_app b a hc)]
          by_cases hf : fldB x = true
          · rw [if_pos hf] at h ⊢
            obtain ⟨q, h1, h2⟩ := Option.map_eq_some_iff.1 h
            subst h2
            rw [ih r (by omega) h1]
            cases hdA b <;> rfl
          · rw [if_neg hf] at h
            cases h
  intro p h
  exact key a.length a (Nat.le_refl _) h
/-- Fields as lines. -/
def hdL (p : Pr) : List UInt8 := p.1 ++ 58 :: 32 :: (p.2 ++ [13, 10])
def hdW (ps : List Pr) : List UInt8 := (ps.map hdL).flatten
def hmay (p : Pr) : Bool := tok p.1 && (decide (lowL p.1 = p.1) && (pln p.2 && decide (trm p.2 = p.2)))
theorem hmay_parts {p : Pr} (h : hmay p = true) : tok p.1 = true ∧ lowL p.1 = p.1 ∧ pln p.2 = true ∧ trm p.2 = p.2 := by
  unfold hmay at h
  simp only [Bool.and_eq_true, decide_eq_true_eq] at h
  exact ⟨h.1, h.2.1, h.2.2.1, h.2.2.2⟩
theorem hmay_of {p : Pr} (h1 : tok p.1 = true) (h2 : lowL p.1 = p.1) (h3 : pln p.2 = true) (h4 : trm p.2 = p.2) : hmay p = true := by
  unfold hmay
  simp [h1, h2, h3, h4]
theorem fldV_may {x : List UInt8} (h : fldB x = true) : hmay (fldV x) = true := by
  unfold fldB at h
  simp only [Bool.and_eq_true] at h
  exact hmay_of (p := fldV x) (by unfold fldV; rw [tok_low]; exact h.2.1) (lowL_again _) (by unfold fldV; rw [pln_trm]; exact h.2.2) (trm_again _)
theorem tokC_13' : ∀ n : Fin 256, tokC (UInt8.ofNat n.val) = true → UInt8.ofNat n.val ≠ 13 ∧ UInt8.ofNat n.val ≠ 58 := by decide +kernel
theorem plnC_13' : ∀ n : Fin 256, plnC (UInt8.ofNat n.val) = true → UInt8.ofNat n.val ≠ 13 ∧ UInt8.ofNat n.val ≠ 10 := by decide +kernel
theorem tokC_13 {c : UInt8} (h : tokC c = true) : c ≠ 13 ∧ c ≠ 58 := by
  have := tokC_13' ⟨c.toNat, c.toNat_lt⟩
  simp only [u8_ofNat] at this
  exact this h
theorem plnC_13 {c : UInt8} (h : plnC c = true) : c ≠ 13 ∧ c ≠ 10 := by
  have := plnC_13' ⟨c.toNat, c.toNat_lt⟩
  simp only [u8_ofNat] at this
  exact this h
theorem tok_no {x : List UInt8} (h : tok x = true) : ∀ c ∈ x, c ≠ 13 ∧ c ≠ 58 := by
  unfold tok at h
  rw [Bool.and_eq_true, List.all_eq_true] at h
  exact fun c hc => tokC_13 (h.2 c hc)
theorem pln_no {x : List UInt8} (h : pln x = true) : ∀ c ∈ x, c ≠ 13 ∧ c ≠ 10 := by
  unfold pln at h
  rw [List.all_eq_true] at h
  exact fun c hc => plnC_13 (h c hc)
theorem cA_of (c : UInt8) (r : List UInt8) : ∀ (x : List UInt8), (∀ d ∈ x, d ≠ c) → cA c (x ++ c :: r) = x ∧ cR c (x ++ c :: r) = r := by
  intro x
  induction x with
  | nil => intro _; exact ⟨by simp [cA], by simp [cR]⟩
  | cons d x ih =>
    intro h
    have hd : d ≠ c := h d (List.mem_cons_self ..)
    obtain ⟨i1, i2⟩ := ih fun e he => h e (List.mem_cons_of_mem _ he)
    unfold cA at i1 ⊢
    unfold cR at i2 ⊢
    rw [List.cons_append, List.takeWhile_cons_of_pos (by simpa using hd), List.dropWhile_cons_of_pos (by simpa using hd)]
    exact ⟨by rw [i1], i2⟩
theorem fld_line {p : Pr} (h : hmay p = true) : fldB (p.1 ++ 58 :: 32 :: p.2) = true ∧ fldV (p.1 ++ 58 :: 32 :: p.2) = p := by
  obtain ⟨h1, h2, h3, h4⟩ := hmay_parts h
  obtain ⟨c1, c2⟩ := cA_of 58 (32 :: p.2) p.1 fun d hd => (tok_no h1 d hd).2
  unfold fldB fldV
  rw [c1, c2]
  refine ⟨?_, ?_⟩
  · have e1 : (p.1 ++ 58 :: 32 :: p.2).contains 58 = true := by
      rw [List.contains_iff_mem]
      simp
    have e2 : pln (32 :: p.2) = true := by
      unfold pln at h3 ⊢
      rw [List.all_cons, h3]
      rfl
    rw [e1, h1, e2]
    rfl
  · rw [h2, trm_cons (by rfl), h4]
theorem hdW_cons (p : Pr) (ps : List Pr) : hdW (p :: ps) = hdL p ++ hdW ps := by simp [hdW]
theorem hdW_snoc (p : Pr) (ps : List Pr) : hdW (ps ++ [p]) = hdW ps ++ hdL p := by simp [hdW]
/-- What is written is read. -/
theorem hdA_W (ps : List Pr) (h : ∀ p ∈ ps, hmay p = true) : hdA (hdW ps) = some ps := by
  induction ps with
  | nil => rfl
  | cons p ps ih =>
    have hp := h p (List.mem_cons_self ..)
    obtain ⟨h1, _, h3, _⟩ := hmay_parts hp
    obtain ⟨f1, f2⟩ := fld_line hp
    have hc : crA (hdW (p :: ps)) = some (p.1 ++ 58 :: 32 :: p.2, hdW ps) := by
      have : hdW (p :: ps) = (p.1 ++ 58 :: 32 :: p.2) ++ 13 :: 10 :: hdW ps := by
        rw [hdW_cons]
        unfold hdL
        simp
      rw [this]
      refine crA_of _ _ fun c hc => ?_
      rcases List.mem_append.1 hc with hc | hc
      · exact (tok_no h1 c hc).1
      · simp only [List.mem_cons] at hc
        rcases hc with rfl | rfl | hc
        · decide
        · decide
        · exact (pln_no h3 c hc).1
    rw [hdA_some hc, if_pos f1, f2, ih fun q hq => h q (List.mem_cons_of_mem _ hq)]
    rfl
theorem hdA_all : ∀ (n : Nat) (l : List UInt8), l.length ≤ n → ∀ {ps : List Pr}, hdA l = some ps → (∀ p ∈ ps, hmay p = true) ∧ (hdW ps).length ≤ l.length + ps.length := by
  intro n
  induction n with
  | zero =>
    intro l hn ps h
    obtain rfl : l = [] := List.eq_nil_of_length_eq_zero (by omega)
    cases h
    exact ⟨(fun p hp => (by cases hp)), Nat.le_refl _⟩
  | succ n ih =>
    intro l hn ps h
    by_cases h0 : l = []
    · subst h0
      cases h
      exact ⟨(fun p hp => (by cases hp)), Nat.le_refl _⟩
    · cases hc : crA l with
      | none => rw [hdA_none h0 hc] at h; cases h
      | some y =>
        obtain ⟨x, r⟩ := y
        have hl := crA_lt hc
        rw [hdA_some hc] at h
        by_cases hf : fldB x = true
        · rw [if_pos hf] at h
          obtain ⟨q, h1, h2⟩ := Option.map_eq_some_iff.1 h
          subst h2
          obtain ⟨i1, i2⟩ := ih r (by omega) h1
          refine ⟨fun p hp => ?_, ?_⟩
          · rcases List.mem_cons.1 hp with rfl | hp
            · exact fldV_may hf
            · exact i1 p hp
          · have hx : (fldV x).1.length + 1 + (fldV x).2.length ≤ x.length := by
              unfold fldB at hf
              simp only [Bool.and_eq_true] at hf
              unfold fldV
              simp only
              rw [lowL_len]
              have ht := trm_le (cR 58 x)
              rcases ib_cases 58 x with ⟨_, _, _, i4⟩ | ⟨i, _, i0, i2, i3, _⟩
              · rw [i4] at hf
                cases hf.1
              · rw [i2, List.length_take]
                rw [i3, List.length_drop] at ht
                rw [i3]
                omega
            rw [hdW_cons, List.length_append, List.length_cons]
            unfold hdL
            simp only [List.length_append, List.length_cons, List.length_nil]
            omega
        · rw [if_neg hf] at h
          cases h
theorem hdA_may {l : List UInt8} {ps : List Pr} (h : hdA l = some ps) : (∀ p ∈ ps, hmay p = true) ∧ (hdW ps).length ≤ l.length + ps.length := hdA_all l.length l (Nat.le_refl _) h
end Go.Proofs.YthgmgmbjjjnhnaaGreatDoor
namespace Go.Proofs.YthgmgmbjjjnhnaaGreatDoor
open Go.RowKit

abbrev prC (p : Pr) : List Value := [.string ⟨p.1.toArray⟩, .string ⟨p.2.toArray⟩]
def prV (ps : List Pr) : List Value := ps.flatMap prC
theorem prV_cons (p : Pr) (ps : List Pr) : prV (p :: ps) = prC p ++ prV ps := rfl
theorem prV_len (ps : List Pr) : (prV ps).length = ps.length * 2 := by
  induction ps with
  | nil => rfl
  | cons p ps ih => rw [prV_cons, List.length_append, ih]; simp; omega
theorem prV_app (ps qs : List Pr) : prV (ps ++ qs) = prV ps ++ prV qs := by simp [prV]
theorem prV_one (ps : List Pr) : ∀ u ∈ prV ps, u.oneCell' = true := by
  intro u hu
  unfold prV at hu
  obtain ⟨p, _, hp⟩ := List.mem_flatMap.1 hu
  simp only [List.mem_cons, List.not_mem_nil, or_false] at hp
  rcases hp with rfl | rfl <;> rfl
theorem prV_at : ∀ (ps : List Pr) (k : Nat) (h : k < ps.length), (prV ps)[k * 2]? = some (.string ⟨ps[k].1.toArray⟩) ∧ (prV ps)[k * 2 + 1]? = some (.string ⟨ps[k].2.toArray⟩)
  | [], k, h => by simp at h
  | p :: ps, 0, _ => ⟨rfl, rfl⟩
  | p :: ps, k + 1, h => by
    obtain ⟨i1, i2⟩ := prV_at ps k (by simpa using h)
    have e1 : (k + 1) * 2 = k * 2 + 2 := by omega
    rw [e1, prV_cons]
    exact ⟨i1, i2⟩
/-- A slice that reads as a list of pairs. -/
def IsPairs (v : Value) (ps : List Pr) (w : World) : Prop := IsRow 2 v ps.length (prV ps) w
theorem IsPairs.ret {v : Value} {ps : List Pr} {w w' : World} (h : IsPairs v ps w) (hb : Below w.heap.size w w') : IsPairs v ps w' := IsRow.ret h hb
theorem IsPairs.nil (w : World) : IsPairs (.slice none 0 0) [] w := IsRow.nil 2 w
theorem IsPairs.form {v : Value} {ps : List Pr} {w : World} (h : IsPairs v ps w) : ∃ a cap, v = .slice a ps.length cap := by
  obtain ⟨_, a, cap, h, _⟩ := h
  exact ⟨a, cap, h⟩
theorem IsPairs.cell {v : Value} {ps : List Pr} {w : World} (h : IsPairs v ps w) {k : Nat} (hk : k < ps.length) : ∃ b off cap, v = .slice (some ⟨b, off, none⟩) ps.length cap ∧ b < w.heap.size ∧
    w.cell? ⟨b, off + k * 2, none⟩ = some (.string ⟨ps[k].1.toArray⟩) ∧ w.cell? ⟨b, off + k * 2 + 1, none⟩ = some (.string ⟨ps[k].2.toArray⟩) := by
  obtain ⟨hl, a, cap, rfl, _, hc⟩ := h
  rcases hc with h0 | ⟨b, off, rfl, h1, h2⟩
  · omega
  · have hl2 := prV_len ps
    obtain ⟨c1, c2⟩ := prV_at ps k hk
    have d1 := h2 (k * 2) (by omega)
    have d2 := h2 (k * 2 + 1) (by omega)
    rw [List.getElem?_eq_getElem (by omega)] at c1 c2
    refine ⟨b, off, cap, rfl, h1, d1.trans c1, ?_⟩
    rw [Nat.add_assoc]
    exact d2.trans c2
theorem vinfo_pair : (Tryz.prog.info? 106).map (fun i => (i.zero, i.size, i.bytes)) = some (some (.agg #[.string ⟨#[]⟩, .string ⟨#[]⟩]), 2, 32) := by kernel_rfl
/-- What stands ahead of the first colon, and behind it. -/
def ptA (l : List UInt8) : List UInt8 := if l.contains 58 then cA 58 l else []
def ptR (l : List UInt8) : List UInt8 := if l.contains 58 then cR 58 l else l
set_option maxHeartbeats 4000000 in
theorem r9_Parts (s : ByteArray) (w : World) (hs : s.size ≤ 1000000) : Calls Tryz.prog 111 #[.string s] w fun e w' => e = .returned (.tuple #[.string ⟨(ptA s.data.toList).toArray⟩, .string ⟨(ptR s.data.toList).toArray⟩, .bool (s.data.toList.contains 58)]) ∧ Below w.heap.size w w' := by
  obtain ⟨x, hx⟩ : ∃ x : ByteArray, ⟨(ptA s.data.toList).toArray⟩ = x := ⟨_, rfl⟩
  obtain ⟨y, hy⟩ : ∃ x : ByteArray, ⟨(ptR s.data.toList).toArray⟩ = x := ⟨_, rfl⟩
  obtain ⟨b, hb⟩ : ∃ x, s.data.toList.contains 58 = x := ⟨_, rfl⟩
  have hxl : x.data.toList = ptA s.data.toList := by rw [← hx]
  have hyl : y.data.toList = ptR s.data.toList := by rw [← hy]
  rw [hx, hy, hb]
  unfold ptA at hxl
  unfold ptR at hyl
  rw [hb] at hxl hyl
  have HX := Lib.hid hxl
  have HY := Lib.hid hyl
  have HB := Lib.hid hb
  clear hx hy hb hxl hyl
  go_enter Tryz.func111, Tryz.ntmps111
  go_wp2_with fail
  go_loop [5] (fun i => ∃ k : Nat, k ≤ s.size ∧ i = .int .i64 k ∧ (s.data.toList.take k).contains 58 = false) (fun i => s.size - (intOf i).toNat)
  case atStart => exact ⟨0, Nat.zero_le _, rfl, rfl⟩
  case round =>
    obtain ⟨k, hk, rfl, hno⟩ := hrel
    by_cases hlt : k < s.size
    · have hsn : (s.data.toList.take (k + 1)).contains 58 = (s[k] == 58) := by
        rw [take_snoc s k hlt, List.contains_append, hno, Bool.false_or, List.contains_cons, List.contains_nil, Bool.or_false]
        exact beq_comm_u8 _ _
      have hbe := u8_beq s[k] 58
      rw [show ((UInt8.toNat 58 : Nat) : Int) = 58 from rfl] at hbe
      by_cases hc : s[k] = 58
      · have hsplit : s.data.toList = s.data.toList.take k ++ 58 :: s.data.toList.drop (k + 1) := by
          have h1 := drop_cons s k hlt
          rw [hc] at h1
          rw [← h1, List.take_append_drop]
        have hne : ∀ d ∈ s.data.toList.take k, d ≠ 58 := by
          intro d hd he
          subst he
          rw [Bool.eq_false_iff] at hno
          exact hno (List.contains_iff_mem.2 hd)
        obtain ⟨c1, c2⟩ := cA_of 58 (s.data.toList.drop (k + 1)) (s.data.toList.take k) hne
        rw [← hsplit] at c1 c2
        have hbt : b = true := by
          rw [← HB.out, hsplit, List.contains_iff_mem]
          simp
        subst hbt
        have hx2 : x = s.extract 0 k := str_ext (by rw [HX.out, if_pos rfl, c1, ext_data]; rfl)
        have hy2 : y = s.extract (k + 1) s.size := str_ext (by rw [HY.out, if_pos rfl, c2, ext_tail])
        have HX2 := Lib.hid hx2
        have HY2 := Lib.hid hy2
        have e1 : ((s[k].toNat : Int) == 58) = true := by rw [hbe, hc]; rfl
        have g1 : (k : Int) < s.size := by omega
        have g2 : (0 : Int) ≤ (k : Int) := by omega
        have g3 : (k : Int) ≤ s.size := by omega
        have g4 : (k : Int) + 1 ≤ s.size := by omega
        have g5 : (0 : Int) ≤ (k : Int) + 1 := by omega
        have g6 : ((k : Int) + 1).toNat = k + 1 := by omega
        have g7 : IntKind.i64.wrap ((k : Int) + 1) = (k : Int) + 1 := IntWalk.i64_in _ (by omega)
        clear hsn hbe hc hsplit hne c1 c2 hx2 hy2 hno HX HY
        go_wp2_with fail
        go_quiet (fail)
        go_wp2_with fail
        go_ret3
        rw [HX2.out, HY2.out]
        exact ⟨rfl, below_drewN _ _⟩
      · have e1 : ((s[k].toNat : Int) == 58) = false := by rw [hbe]; simpa using hc
        rw [show (s[k] == 58) = false by simpa using hc] at hsn
        have HS := Lib.hid hsn
        clear hsn hbe hc hno
        go_wp2_with fail
        go_round
        case rel => exact ⟨k + 1, by omega, by go_num, HS.out⟩
        case measure => simp [intOf]; omega
    · have hbf : b = false := by
        rw [← HB.out]
        rw [List.take_of_length_le (by rw [size_toList]; omega)] at hno
        exact hno
      subst hbf
      have hx2 : x = ⟨#[]⟩ := str_ext (by rw [HX.out]; rfl)
      have hy2 : y = s := str_ext (by rw [HY.out]; rfl)
      subst hx2
      subst hy2
      clear hno HX HY HB
      go_wp2_with fail
      go_ret3
      exact ⟨rfl, Below.refl _ _⟩
/-- What Line answers. -/
def lnX (l : List UInt8) : List UInt8 := match crA l with | some (x, _) => x | none => []
def lnR (l : List UInt8) : List UInt8 := match crA l with | some (_, r) => r | none => []
def lnB (l : List UInt8) : Bool := (crA l).isSome
theorem crA_short {l : List UInt8} (h : l.length ≤ 1) : crA l = none := by
  match l, h with
  | [], _ => rfl
  | [_], _ => rfl
set_option maxHeartbeats 4000000 in
theorem r14_Line (s : ByteArray) (w : World) (hs : s.size ≤ 1000000) : Calls Tryz.prog 75 #[.string s] w fun e w' => e = .returned (.tuple #[.string ⟨(lnX s.data.toList).toArray⟩, .string ⟨(lnR s.data.toList).toArray⟩, .bool (lnB s.data.toList)]) ∧ Below w.heap.size w w' := by
  have hform : (crA s.data.toList = none → lnX s.data.toList = [] ∧ lnR s.data.toList = [] ∧ lnB s.data.toList = false) ∧ (∀ x r, crA s.data.toList = some (x, r) → lnX s.data.toList = x ∧ lnR s.data.toList = r ∧ lnB s.data.toList = true) := by
    refine ⟨fun h => ?_, fun x r h => ?_⟩
    · unfold lnX lnR lnB; rw [h]; exact ⟨rfl, rfl, rfl⟩
    · unfold lnX lnR lnB; rw [h]; exact ⟨rfl, rfl, rfl⟩
  obtain ⟨x, hx⟩ : ∃ x : ByteArray, ⟨(lnX s.data.toList).toArray⟩ = x := ⟨_, rfl⟩
  obtain ⟨y, hy⟩ : ∃ x : ByteArray, ⟨(lnR s.data.toList).toArray⟩ = x := ⟨_, rfl⟩
  obtain ⟨b, hb⟩ : ∃ x, lnB s.data.toList = x := ⟨_, rfl⟩
  have hxl : x.data.toList = lnX s.data.toList := by rw [← hx]
  have hyl : y.data.toList = lnR s.data.toList := by rw [← hy]
  rw [hx, hy, hb]
  rw [← hxl, ← hyl, hb] at hform
  have HF := Lib.hid hform
  clear hx hy hb hxl hyl hform
  go_enter Tryz.func75, Tryz.ntmps75
  go_wp2_with fail
  go_loop [5] (fun i => ∃ k : Nat, k ≤ s.size ∧ i = .int .i64 k ∧ crA s.data.toList = (crA (s.data.toList.drop k)).map (fun z => (s.data.toList.take k ++ z.1, z.2))) (fun i => s.size - (intOf i).toNat)
  case atStart =>
    refine ⟨0, Nat.zero_le _, rfl, ?_⟩
    rw [List.drop_zero, List.take_zero]
    cases crA s.data.toList <;> rfl
  case round =>
    obtain ⟨k, hk, rfl, hcr⟩ := hrel
    by_cases hlt : k + 1 < s.size
    · have hk0 : k < s.size := by omega
      have d1 := drop_cons s k hk0
      have d2 := drop_cons s (k + 1) hlt
      have hb1 := u8_beq s[k] 13
      rw [show ((UInt8.toNat 13 : Nat) : Int) = 13 from rfl] at hb1
      have hb2 := u8_beq s[k + 1] 10
      rw [show ((UInt8.toNat 10 : Nat) : Int) = 10 from rfl] at hb2
      have g1 : (k : Int) + 1 < s.size := by omega
      have g2 : (k : Int) < s.size := by omega
      have g6 : ((k : Int) + 1).toNat = k + 1 := by omega
      have g7 : IntKind.i64.wrap ((k : Int) + 1) = (k : Int) + 1 := IntWalk.i64_in _ (by omega)
      have g8 : (0 : Int) ≤ (k : Int) + 1 := by omega
      by_cases hc : s[k] = 13 ∧ s[k + 1] = 10
      · have hh : crA (s.data.toList.drop k) = some ([], s.data.toList.drop (k + 2)) := by
          rw [d1, d2, hc.1, hc.2]
          simp only [crA]
          rw [if_pos (by simp)]
        rw [hh] at hcr
        obtain ⟨i1, i2, i3⟩ := HF.out.2 _ _ hcr
        subst i3
        have hx2 : x = s.extract 0 k := str_ext (by rw [i1, ext_data, List.append_nil]; rfl)
        have hy2 : y = s.extract (k + 2) s.size := str_ext (by rw [i2, ext_tail])
        have HX2 := Lib.hid hx2
        have HY2 := Lib.hid hy2
        have e1 : ((s[k].toNat : Int) == 13) = true := by rw [hb1, hc.1]; rfl
        have e2 : ((s[k + 1].toNat : Int) == 10) = true := by rw [hb2, hc.2]; rfl
        have g9 : (k : Int) + 2 ≤ s.size := by omega
        have g10 : (0 : Int) ≤ (k : Int) + 2 := by omega
        have g11 : ((k : Int) + 2).toNat = k + 2 := by omega
        have g12 : IntKind.i64.wrap ((k : Int) + 2) = (k : Int) + 2 := IntWalk.i64_in _ (by omega)
        have g13 : (k : Int) ≤ s.size := by omega
        clear hcr hh d1 d2 hb1 hb2 hc i1 i2 hx2 hy2 HF
        go_wp2_with fail
        go_quiet (fail)
        go_wp2_with fail
        go_ret3
        rw [HX2.out, HY2.out]
        exact ⟨rfl, below_drewN _ _⟩
      · have hh : crA s.data.toList = (crA (s.data.toList.drop (k + 1))).map (fun z => (s.data.toList.take (k + 1) ++ z.1, z.2)) := by
          rw [hcr, d1, d2]
          simp only [crA]
          rw [if_neg hc, ← d2, Option.map_map]
          congr 1
          funext z
          rw [take_snoc s k hk0]
          simp
        have HH := Lib.hid hh
        by_cases h13 : s[k] = 13
        · have e1 : ((s[k].toNat : Int) == 13) = true := by rw [hb1, h13]; rfl
          have e2 : ((s[k + 1].toNat : Int) == 10) = false := by
            rw [hb2]
            have : ¬ s[k + 1] = 10 := fun e => hc ⟨h13, e⟩
            simpa using this
          clear hcr hh d1 d2 hb1 hb2 hc h13
          go_wp2_with fail
          go_round
          case rel => exact ⟨k + 1, by omega, by go_num, HH.out⟩
          case measure => simp [intOf]; omega
        · have e1 : ((s[k].toNat : Int) == 13) = false := by rw [hb1]; simpa using h13
          clear hcr hh d1 d2 hb1 hb2 hc h13
          go_wp2_with fail
          go_round
          case rel => exact ⟨k + 1, by omega, by go_num, HH.out⟩
          case measure => simp [intOf]; omega
    · have hnone : crA (s.data.toList.drop k) = none := crA_short (by rw [List.length_drop, size_toList]; omega)
      rw [hnone] at hcr
      obtain ⟨i1, i2, i3⟩ := HF.out.1 hcr
      subst i3
      have hx2 : x = ⟨#[]⟩ := str_ext (by rw [i1])
      have hy2 : y = ⟨#[]⟩ := str_ext (by rw [i2])
      subst hx2
      subst hy2
      have g1 : (s.size : Int) ≤ (k : Int) + 1 := by omega
      have g7 : IntKind.i64.wrap ((k : Int) + 1) = (k : Int) + 1 := IntWalk.i64_in _ (by omega)
      clear hcr hnone i1 i2 HF
      go_wp2_with fail
      go_ret3
      exact ⟨rfl, Below.refl _ _⟩
end Go.Proofs.YthgmgmbjjjnhnaaGreatDoor
namespace Go.Proofs.YthgmgmbjjjnhnaaGreatDoor
open Go.RowKit

abbrev prS (p : Pr) : Value := .agg #[.string ⟨p.1.toArray⟩, .string ⟨p.2.toArray⟩]
/-- What field answers. -/
def fldP (l : List UInt8) : Pr := if fldB l = true then fldV l else ([], [])
theorem fldB_def (l : List UInt8) : fldB l = (l.contains 58 && (tok (ptA l) && pln (ptR l))) := by
  unfold fldB ptA ptR
  cases h : l.contains 58 with
  | false => rfl
  | true => rw [if_pos rfl, if_pos rfl]
/-- A pair in two cells of its own. -/
structure PrAt (L : Nat) (a b : Value) (w : World) : Prop where
  lt : L < w.heap.size
  c0 : w.cell? ⟨L, 0, none⟩ = some a
  c1 : w.cell? ⟨L, 1, none⟩ = some b
  f0 : w.frozen? ⟨L, 0, none⟩ = false
  f1 : w.frozen? ⟨L, 1, none⟩ = false
theorem PrAt.ret {L : Nat} {a b : Value} {w w' : World} (h : PrAt L a b w) (hb : Below w.heap.size w w') : PrAt L a b w' := by
  obtain ⟨h0, h1, h2, h3, h4⟩ := h
  obtain ⟨q, r⟩ := bcell hb
  exact ⟨Nat.lt_of_lt_of_le h0 hb.size, (q _ _ h0).trans h1, (q _ _ h0).trans h2, (r _ _ h0).trans h3, (r _ _ h0).trans h4⟩
theorem PrAt.new (w : World) (a b : Value) : PrAt w.heap.size a b (w.alloc (.cells #[a, b] 106)) := by constructor <;> simp
theorem PrAt.alloc {L : Nat} {a b : Value} {w : World} (h : PrAt L a b w) (o : Obj) : PrAt L a b (w.alloc o) := h.ret ((Below.refl _ w).alloc (Nat.le_refl _) o)
theorem below_al {w w' : World} (h : Below w.heap.size w w') (o : Obj) : Below w.heap.size w (w'.alloc o) := h.alloc h.size o
set_option maxHeartbeats 4000000 in
theorem r14_field (s : ByteArray) (w : World) (hs : s.size ≤ 1000000) : Calls Tryz.prog 147 #[.string s] w (Ret w (.tuple #[prS (fldP s.data.toList), .bool (fldB s.data.toList)])) := by
  have P0 := fun w => r9_Parts s w hs
  have hdef := fldB_def s.data.toList
  have hAs : (ptA s.data.toList).length ≤ 1000000 := by
    unfold ptA
    split
    · exact Nat.le_trans (cA_le _ _) (by rw [size_toList]; exact hs)
    · simp
  have hRs : (ptR s.data.toList).length ≤ 1000000 := by
    unfold ptR
    split
    · by_cases h0 : s.data.toList = []
      · rw [h0]; simp [cR]
      · exact Nat.le_trans (Nat.le_of_lt (cR_lt 58 h0)) (by rw [size_toList]; exact hs)
    · rw [size_toList]; exact hs
  have hV : s.data.toList.contains 58 = true → fldV s.data.toList = (lowL (ptA s.data.toList), trm (ptR s.data.toList)) := fun h => by
    unfold fldV ptA ptR
    rw [if_pos h, if_pos h]
  obtain ⟨A, hA⟩ : ∃ x : ByteArray, ⟨(ptA s.data.toList).toArray⟩ = x := ⟨_, rfl⟩
  obtain ⟨R, hR⟩ : ∃ x : ByteArray, ⟨(ptR s.data.toList).toArray⟩ = x := ⟨_, rfl⟩
  have hAl : A.data.toList = ptA s.data.toList := by rw [← hA]
  have hRl : R.data.toList = ptR s.data.toList := by rw [← hR]
  have zA : A.size ≤ 1000000 := by rw [← size_toList, hAl]; exact hAs
  have zR : R.size ≤ 1000000 := by rw [← size_toList, hRl]; exact hRs
  rw [hA, hR] at P0
  rw [← hAl, ← hRl] at hdef hV
  obtain ⟨b, hb⟩ : ∃ x, s.data.toList.contains 58 = x := ⟨_, rfl⟩
  obtain ⟨k, hk⟩ : ∃ x, tok A.data.toList = x := ⟨_, rfl⟩
  obtain ⟨p, hp⟩ : ∃ x, pln R.data.toList = x := ⟨_, rfl⟩
  obtain ⟨F, hF⟩ : ∃ x, fldP s.data.toList = x := ⟨_, rfl⟩
  rw [hb] at P0 hV
  rw [hb, hk, hp] at hdef
  have T := Lib.hid fun w => (by have h := r7_Token A w zA; rwa [hk] at h : Calls Tryz.prog 113 #[.string A] w fun e w' => e = .returned (.bool k) ∧ w' = w)
  have Q := Lib.hid fun w => (by have h := r7_Plain R w zR; rwa [hp] at h : Calls Tryz.prog 177 #[.string R] w fun e w' => e = .returned (.bool p) ∧ w' = w)
  have LW := Lib.hid fun w => r7_Lower A w zA
  have TR := Lib.hid fun w => r7_Trim R w zR
  rw [hdef, hF]
  have hFv : fldP s.data.toList = if (b && (k && p)) = true then fldV s.data.toList else ([], []) := by unfold fldP; rw [hdef]
  rw [hF] at hFv
  have PH := Lib.hid P0
  have HV := Lib.hid hV
  have HFV := Lib.hid hFv
  clear P0 hdef hAs hRs hV hA hR hAl hRl hb hk hp hF hFv
  have q0 : Below w.heap.size w (w.alloc (.cells #[.string ⟨#[]⟩, .string ⟨#[]⟩] 106)) := (Below.refl _ w).alloc (Nat.le_refl _) _
  have A0 := Lib.hid (PrAt.new w (.string ⟨#[]⟩) (.string ⟨#[]⟩))
  cases b with
  | false =>
    obtain rfl : F = ([], []) := HFV.out
    clear HV HFV T Q LW TR
    go_enter Tryz.func147, Tryz.ntmps147
    go_wp2_with fail
    refine (PH.out _).mono ?_
    rintro e w1 ⟨rfl, hb1⟩
    have a1 := A0.out.ret hb1
    have q1 := q0.trans (hb1.mono q0.size)
    obtain ⟨j0, j1, j2, j3, j4⟩ := a1
    clear hb1 q0 A0 PH
    go_wp2_with fail
    refine bodyPost_ret (v := .tuple #[.agg #[.string ⟨#[]⟩, .string ⟨#[]⟩], .bool false]) (by simp (maxDischargeDepth := 9) [results, Tryz.results147, go_sem, *]) rfl ⟨rfl, ?_⟩
    repeat (first | with_reducible exact q1 | with_reducible refine Below.drew ?_ | with_reducible refine Below.setCell ?_ (by simp) _)
  | true =>
    cases k with
    | false =>
      obtain rfl : F = ([], []) := HFV.out
      clear HV HFV Q LW TR
      go_enter Tryz.func147, Tryz.ntmps147
      go_wp2_with fail
      refine (PH.out _).mono ?_
      rintro e w1 ⟨rfl, hb1⟩
      have a1 := A0.out.ret hb1
      have q1 := q0.trans (hb1.mono q0.size)
      obtain ⟨j0, j1, j2, j3, j4⟩ := a1
      clear hb1 q0 A0 PH
      go_wp2_with fail
      refine (T.out _).mono ?_
      rintro e w2 ⟨rfl, rfl⟩
      go_wp2_with fail
      refine bodyPost_ret (v := .tuple #[.agg #[.string ⟨#[]⟩, .string ⟨#[]⟩], .bool false]) (by simp (maxDischargeDepth := 9) [results, Tryz.results147, go_sem, *]) rfl ⟨rfl, ?_⟩
      repeat (first | with_reducible exact q1 | with_reducible refine Below.drew ?_ | with_reducible refine Below.setCell ?_ (by simp) _)
    | true =>
      cases p with
      | false =>
        obtain rfl : F = ([], []) := HFV.out
        clear HV HFV LW TR
        go_enter Tryz.func147, Tryz.ntmps147
        go_wp2_with fail
        refine (PH.out _).mono ?_
        rintro e w1 ⟨rfl, hb1⟩
        have a1 := A0.out.ret hb1
        have q1 := q0.trans (hb1.mono q0.size)
        obtain ⟨j0, j1, j2, j3, j4⟩ := a1
        clear hb1 q0 A0 PH
        go_wp2_with fail
        refine (T.out _).mono ?_
        rintro e w2 ⟨rfl, rfl⟩
        go_wp2_with fail
        refine (Q.out _).mono ?_
        rintro e w2 ⟨rfl, rfl⟩
        go_wp2_with fail
        refine bodyPost_ret (v := .tuple #[.agg #[.string ⟨#[]⟩, .string ⟨#[]⟩], .bool false]) (by simp (maxDischargeDepth := 9) [results, Tryz.results147, go_sem, *]) rfl ⟨rfl, ?_⟩
        repeat (first | with_reducible exact q1 | with_reducible refine Below.drew ?_ | with_reducible refine Below.setCell ?_ (by simp) _)
      | true =>
        obtain rfl : F = (lowL A.data.toList, trm R.data.toList) := HFV.out.trans ((if_pos rfl).trans (HV.out rfl))
        obtain ⟨X, hX⟩ : ∃ x : ByteArray, ⟨(lowL A.data.toList).toArray⟩ = x := ⟨_, rfl⟩
        obtain ⟨Y, hY⟩ : ∃ x : ByteArray, ⟨(trm R.data.toList).toArray⟩ = x := ⟨_, rfl⟩
        have LW2 := Lib.hid (by have h := LW.out; rwa [hX] at h : ∀ w, Calls Tryz.prog 114 #[.string A] w (Ret w (.string X)))
        have TR2 := Lib.hid (by have h := TR.out; rwa [hY] at h : ∀ w, Calls Tryz.prog 149 #[.string R] w fun e w' => e = .returned (.string Y) ∧ w' = w)
        unfold prS
        simp only [hX, hY]
        clear HV HFV LW TR hX hY
        go_enter Tryz.func147, Tryz.ntmps147
        go_wp2_with fail
        refine (PH.out _).mono ?_
        rintro e w1 ⟨rfl, hb1⟩
        have a1 := A0.out.ret hb1
        have q1 := q0.trans (hb1.mono q0.size)
        obtain ⟨j0, j1, j2, j3, j4⟩ := a1
        clear hb1 q0 A0 PH
        go_wp2_with fail
        refine (T.out _).mono ?_
        rintro e w2 ⟨rfl, rfl⟩
        go_wp2_with fail
        refine (Q.out _).mono ?_
        rintro e w2 ⟨rfl, rfl⟩
        go_wp2_with fail
        refine (LW2.out _).mono ?_
        rintro e w3 ⟨rfl, hb3⟩
        have a3 := (PrAt.mk j0 j1 j2 j3 j4).ret hb3
        have q3 := q1.trans (hb3.mono q1.size)
        clear j0 j1 j2 j3 j4 q1 hb3 T Q LW2
        obtain ⟨j0, j1, j2, j3, j4⟩ := a3
        go_wp2_with fail
        refine (TR2.out _).mono ?_
        rintro e w4 ⟨rfl, rfl⟩
        clear TR2
        go_wp2_with fail
        refine bodyPost_ret (v := .tuple #[.agg #[.string X, .string Y], .bool true]) (by simp (maxDischargeDepth := 9) [results, Tryz.results147, go_sem, *]) rfl ⟨rfl, ?_⟩
        repeat (first | with_reducible exact q3 | with_reducible refine Below.drew ?_ | with_reducible refine Below.setCell ?_ (by simp) _)
end Go.Proofs.YthgmgmbjjjnhnaaGreatDoor
namespace Go.Proofs.YthgmgmbjjjnhnaaGreatDoor
open Go.RowKit

theorem new_row2 (w : World) (a b : Value) : IsRow 2 (.slice (some ⟨w.heap.size, 0, none⟩) 1 1) 1 [a, b] (w.alloc (.cells #[a, b] 106)) := by
  refine ⟨rfl, some ⟨w.heap.size, 0, none⟩, 1, rfl, (fun h => by cases h), .inr ⟨w.heap.size, 0, rfl, by simp, fun j hj => ?_⟩⟩
  rw [Nat.zero_add, World.cell?_alloc_new]
  match j, hj with
  | 0, _ => rfl
  | 1, _ => rfl
theorem lns_len : ∀ (n : Nat) (l : List UInt8), l.length ≤ n → (lns l).length ≤ l.length := by
  intro n
  induction n with
  | zero =>
    intro l hl
    obtain rfl : l = [] := List.eq_nil_of_length_eq_zero (by omega)
    exact Nat.le_refl _
  | succ n ih =>
    intro l hl
    by_cases h0 : l = []
    · subst h0
      exact Nat.le_refl _
    · cases hc : crA l with
      | none =>
        rw [lns_none h0 hc]
        have : 0 < l.length := List.length_pos_iff.2 h0
        simp
        omega
      | some x =>
        obtain ⟨x, r⟩ := x
        have h1 := crA_lt hc
        have h2 := ih r (by omega)
        rw [lns_some hc, List.length_cons]
        omega
theorem flds_len {a : List (List UInt8 × Bool)} : ∀ {fs : List Pr}, flds a = some fs → fs.length = a.length := by
  induction a with
  | nil =>
    intro fs h
    cases h
    rfl
  | cons x a ih =>
    intro fs h
    simp only [flds] at h
    split at h
    · obtain ⟨q, h1, h2⟩ := Option.map_eq_some_iff.1 h
      subst h2
      simp [ih h1]
    · cases h
theorem hdA_len {l : List UInt8} {fs : List Pr} (h : hdA l = some fs) : fs.length ≤ l.length := by
  rw [flds_len h]
  exact lns_len l.length l (Nat.le_refl _)
/-- What All answers. -/
def HdAll (l : List UInt8) (w : World) (e : Ending) (w' : World) : Prop :=
  (∃ v fs, hdA l = some fs ∧ e = .returned (.tuple #[v, .bool true]) ∧ IsPairs v fs w' ∧ Below w.heap.size w w') ∨ (hdA l = none ∧ e = .returned (.tuple #[.slice none 0 0, .bool false]) ∧ Below w.heap.size w w')
theorem fldB_nil : fldB [] = false := rfl
set_option maxHeartbeats 8000000 in
set_option maxRecDepth 100000 in
theorem r14_All (s : ByteArray) (w : World) (hs : s.size ≤ 1000000) : Calls Tryz.prog 107 #[.string s] w (HdAll s.data.toList w) := by
  obtain ⟨i0, hi, hz0, hz1, hz2⟩ := info_parts vinfo_pair
  go_enter Tryz.func107, Tryz.ntmps107
  go_wp2_with fail
  go_loopw [0, 4] (fun z v wr => ∃ (r : ByteArray) (fs : List Pr), z = .string r ∧ r.size + fs.length ≤ s.size ∧ hdA s.data.toList = (hdA r.data.toList).map (fs ++ ·) ∧ wr.ownsRow w.heap.size 106 2 v fs.length (prV fs) ∧ Below w.heap.size w wr) (fun z _ _ => strLen z)
  case atStart =>
    refine ⟨s, [], rfl, by simp, ?_, World.ownsRow_nil _ _ _ _, Below.refl _ _⟩
    cases hdA s.data.toList <;> rfl
  case round =>
    obtain ⟨r, fs, rfl, hn, hd, hown, hB⟩ := hrel
    by_cases h0 : r.size = 0
    · obtain rfl : r = ⟨#[]⟩ := str_ext (List.eq_nil_of_length_eq_zero (by rw [size_toList]; exact h0))
      have hd2 : hdA s.data.toList = some fs := by
        rw [hd]
        show (some ([] : List Pr)).map (fs ++ ·) = _
        simp
      have HD := Lib.hid hd2
      have HO := Lib.hid hown
      clear hd hd2 hown h0
      go_wp2_with fail
      go_ret2
      exact .inl ⟨_, fs, HD.out, rfl, own_row HO.out, hB⟩
    · have e1 := isEmpty_of_pos (s := r) (by omega)
      have e2 := ne_nil_of_pos (s := r) (by omega)
      have hne : r.data.toList ≠ [] := fun h => h0 (by rw [← size_toList, h]; rfl)
      have L0 := fun w => r14_Line r w (by omega)
      cases hc : crA r.data.toList with
      | none =>
        have hd2 : hdA s.data.toList = none := by rw [hd, hdA_none hne hc]; rfl
        unfold lnX lnR lnB at L0
        rw [hc] at L0
        have LH := Lib.hid L0
        have FH := Lib.hid fun w => (r14_field ⟨#[]⟩ w (by decide) : Calls Tryz.prog 147 #[.string ⟨#[]⟩] w (Ret w (.tuple #[.agg #[.string ⟨#[]⟩, .string ⟨#[]⟩], .bool false])))
        have HD := Lib.hid hd2
        clear L0 hc hd hd2 hown h0 hne
        go_wp2_with fail
        refine (LH.out _).mono ?_
        rintro e w1 ⟨rfl, hb1⟩
        go_wp2_with fail
        refine (FH.out _).mono ?_
        rintro e w2 ⟨rfl, hb2⟩
        have q2 := (hB.trans (hb1.mono hB.size)).trans (hb2.mono (Nat.le_trans hB.size hb1.size))
        go_wp2_with fail
        go_ret2
        exact .inr ⟨HD.out, rfl, below_al q2 _⟩
      | some z =>
        obtain ⟨x, y⟩ := z
        have hlt := crA_lt hc
        rw [size_toList] at hlt
        unfold lnX lnR lnB at L0
        rw [hc] at L0
        simp only [Option.isSome_some] at L0
        obtain ⟨X, hX⟩ : ∃ X : ByteArray, ⟨x.toArray⟩ = X := ⟨_, rfl⟩
        obtain ⟨Y, hY⟩ : ∃ X : ByteArray, ⟨y.toArray⟩ = X := ⟨_, rfl⟩
        have hXl : X.data.toList = x := by rw [← hX]
        have hYl : Y.data.toList = y := by rw [← hY]
        rw [hX, hY] at L0
        have F0 := fun w => r14_field X w (by rw [← size_toList, hXl]; omega)
        have zY : Y.size + (fs.length + 1) ≤ s.size := by rw [← size_toList, hYl]; omega
        have zYr : Y.size < r.size := by rw [← size_toList, hYl]; omega
        unfold fldP at F0
        rw [hXl] at F0
        cases hf : fldB x with
        | false =>
          have hd2 : hdA s.data.toList = none := by rw [hd, hdA_some hc, hf]; rfl
          rw [hf] at F0
          have LH := Lib.hid L0
          have FH := Lib.hid F0
          have HD := Lib.hid hd2
          clear L0 F0 hc hd hd2 hown h0 hne hX hY hXl hYl hf hlt zY zYr
          go_wp2_with fail
          refine (LH.out _).mono ?_
          rintro e w1 ⟨rfl, hb1⟩
          go_wp2_with fail
          refine (FH.out _).mono ?_
          rintro e w2 ⟨rfl, hb2⟩
          have q2 := (hB.trans (hb1.mono hB.size)).trans (hb2.mono (Nat.le_trans hB.size hb1.size))
          go_wp2_with fail
          go_ret2
          exact .inr ⟨HD.out, rfl, below_al q2 _⟩
        | true =>
          have hd2 : hdA s.data.toList = (hdA Y.data.toList).map ((fs ++ [fldV x]) ++ ·) := by
            rw [hd, hdA_some hc, hf, if_pos rfl, hYl, Option.map_map]
            congr 1
            funext z
            simp
          rw [hf, if_pos rfl] at F0
          obtain ⟨P, hP⟩ : ∃ P, fldV x = P := ⟨_, rfl⟩
          rw [hP] at F0 hd2
          obtain ⟨p1, p2⟩ := P
          obtain ⟨A, hA⟩ : ∃ X : ByteArray, ⟨p1.toArray⟩ = X := ⟨_, rfl⟩
          obtain ⟨D, hD⟩ : ∃ X : ByteArray, ⟨p2.toArray⟩ = X := ⟨_, rfl⟩
          unfold prS at F0
          simp only [hA, hD] at F0
          have hpv : prV (fs ++ [(p1, p2)]) = prV fs ++ [.string A, .string D] := by
            rw [prV_app, ← hA, ← hD]
            rfl
          have LH := Lib.hid L0
          have FH := Lib.hid F0
          have HD := Lib.hid hd2
          have HO := Lib.hid hown
          have HPV := Lib.hid hpv
          clear L0 F0 hc hd hd2 hown h0 hne hX hY hXl hYl hf hlt hP hA hD hpv
          go_wp2_with fail
          refine (LH.out _).mono ?_
          rintro e w1 ⟨rfl, hb1⟩
          go_wp2_with fail
          refine (FH.out _).mono ?_
          rintro e w2 ⟨rfl, hb2⟩
          have q2 := (hB.trans (hb1.mono hB.size)).trans (hb2.mono (Nat.le_trans hB.size hb1.size))
          have HO2 := Lib.hid (own_below (own_below HO.out hb1) hb2)
          clear hb1 hb2 hB LH FH HO
          go_wp2_with (at_builtin; refine Hid.out ?_)
          refine Lib.hid ?_
          have hsz := q2.size
          refine wpList_app_row rfl _ _ _ rfl w.heap.size 106 i0 _ 2 32 Tryz.underlying62 hi hz0 hz1 hz2 rfl (by omega) _ fs.length (prV fs) rfl ((HO2.out.alloc _).alloc _) (.slice (some ⟨w2.heap.size + 1, 0, none⟩) 1 1) (by rfl) 1 [.string A, .string D] (by have h := new_row2 (w2.alloc (.cells #[.string A, .string D] 106)) (.string A) (.string D); rwa [World.size_alloc] at h) (by simp [Value.oneCell']) (by omega) (by omega) (by simp; omega) ?_
          intro v' w' hown' hgrow
          have q3 := ((q2.alloc q2.size (.cells #[.string A, .string D] 106)).alloc (by simp; omega) (.cells #[.string A, .string D] 106)).grown hgrow (by simp; omega) (fun k hk => (HO2.out.lt k hk).1)
          have HO3 := Lib.hid hown'
          clear hown' hgrow
          go_wp2_with fail
          go_roundw
          case rel => exact ⟨Y, fs ++ [(p1, p2)], rfl, by rw [List.length_append]; exact zY, HD.out, by rw [HPV.out, List.length_append]; exact HO3.out, q3⟩
          case measure => simpa [strLen] using zYr
end Go.Proofs.YthgmgmbjjjnhnaaGreatDoor
namespace Go.Proofs.YthgmgmbjjjnhnaaGreatDoor
open Go.RowKit

/-- What Parse answers. -/
def HdIs (l : List UInt8) (w : World) (e : Ending) (w' : World) : Prop := ∃ v, e = .returned (.tuple #[v, .int .i64 (hdE l)]) ∧ IsPairs v (hdV l) w' ∧ Below w.heap.size w w'
set_option maxHeartbeats 4000000 in
theorem r14_Parse (s : ByteArray) (w : World) (hs : s.size ≤ 1000000) : Calls Tryz.prog 78 #[.string s] w (HdIs s.data.toList w) := by
  by_cases h1 : 16384 < s.size
  · have hE : hdE s.data.toList = 4 := by unfold hdE; rw [if_pos (by rw [size_toList]; exact h1)]
    have hV := hdE_bad (l := s.data.toList) (by rw [hE]; decide)
    have HE := Lib.hid (And.intro hE hV)
    have g1 : (16384 : Int) < s.size := by omega
    clear hE hV
    go_enter Tryz.func78, Tryz.ntmps78
    go_wp2_with fail
    go_ret2
    exact ⟨_, by rw [HE.out.1]; rfl, by rw [HE.out.2]; exact IsPairs.nil _, Below.refl _ _⟩
  · have g1 : ¬ (16384 : Int) < s.size := by omega
    have zl : ¬ 16384 < s.data.toList.length := by rw [size_toList]; exact h1
    have AH := Lib.hid (r14_All s w hs)
    have hdef : hdE s.data.toList = match hdA s.data.toList with | none => 140 | some ps => if 32 < ps.length then 4 else 0 := by
      unfold hdE
      rw [if_neg zl]
      all_goals (cases hdA s.data.toList <;> rfl)
    have HD := Lib.hid hdef
    clear hdef zl
    go_enter Tryz.func78, Tryz.ntmps78
    go_wp2_with fail
    refine (AH.out).mono ?_
    rintro e w1 (⟨v, fs, ha, rfl, iv, hb1⟩ | ⟨ha, rfl, hb1⟩)
    · obtain ⟨a, cap, rfl⟩ := iv.form
      have hd := HD.out
      rw [ha] at hd
      simp only at hd
      have hlen := hdA_len ha
      rw [size_toList] at hlen
      obtain ⟨n, hn⟩ : ∃ n, fs.length = n := ⟨_, rfl⟩
      have HN := Lib.hid hn
      have IV := Lib.hid iv
      rw [hn] at hd hlen ⊢
      by_cases h32 : 32 < n
      · rw [if_pos h32] at hd
        have hV := hdE_bad (l := s.data.toList) (by rw [hd]; decide)
        have HE := Lib.hid (And.intro hd hV)
        have g2 : (32 : Int) < n := by omega
        clear hd hV ha hn iv
        go_wp2_with fail
        go_ret2
        exact ⟨_, by rw [HE.out.1]; rfl, by rw [HE.out.2]; exact IsPairs.nil _, hb1⟩
      · rw [if_neg h32] at hd
        have hV : hdV s.data.toList = fs := by unfold hdV; rw [if_pos hd, ha]; rfl
        have HE := Lib.hid (And.intro hd hV)
        have g2 : ¬ (32 : Int) < n := by omega
        clear hd hV ha hn iv
        go_wp2_with fail
        go_ret2
        refine ⟨_, by rw [HE.out.1]; rfl, ?_, hb1⟩
        rw [HE.out.2]
        have h := IV.out
        rw [HN.out] at h
        exact h
    · have hd := HD.out
      rw [ha] at hd
      simp only at hd
      have hV := hdE_bad (l := s.data.toList) (by rw [hd]; decide)
      have HE := Lib.hid (And.intro hd hV)
      clear hd hV ha
      go_wp2_with fail
      go_ret2
      exact ⟨_, by rw [HE.out.1]; rfl, by rw [HE.out.2]; exact IsPairs.nil _, hb1⟩
theorem bytes_ne {a b : List UInt8} (h : a ≠ b) : ((⟨a.toArray⟩ : ByteArray).toList == (⟨b.toArray⟩ : ByteArray).toList) = false := by
  rw [eqb_bytes]
  exact decide_eq_false h
end Go.Proofs.YthgmgmbjjjnhnaaGreatDoor
namespace Go.Proofs.YthgmgmbjjjnhnaaGreatDoor
open Go.RowKit

attribute [local go_sem] Oper.semAt_some

theorem pre_two (c d : UInt8) (r : List UInt8) : ([13, 10] : List UInt8).isPrefixOf (c :: d :: r) = decide (c = 13 ∧ d = 10) := by
  rw [Bool.eq_iff_iff, decide_eq_true_eq]
  simp only [List.isPrefixOf, Bool.and_eq_true, beq_iff_eq, and_true]
  constructor
  · rintro ⟨h1, h2⟩
    exact ⟨h1.symm, h2.symm⟩
  · rintro ⟨h1, h2⟩
    exact ⟨h1.symm, h2.symm⟩
theorem index_crA : ∀ l : List UInt8, Lib.index l [13, 10] = match crA l with | none => -1 | some (x, _) => (x.length : Int)
  | [] => rfl
  | [c] => by
    have h : ([13, 10] : List UInt8).isPrefixOf [c] = false := by simp [List.isPrefixOf]
    unfold Lib.index
    rw [h]
    rfl
  | c :: d :: r => by
    have ih := index_crA (d :: r)
    rw [Lib.index, pre_two]
    simp only [crA]
    by_cases h : c = 13 ∧ d = 10
    · rw [if_pos h, decide_eq_true h]
      rfl
    · rw [if_neg h, decide_eq_false h, ih]
      cases crA (d :: r) with
      | none => rfl
      | some z =>
        obtain ⟨x, y⟩ := z
        have hne : (((x.length : Nat) : Int) == -1) = false := by
          rw [beq_eq_false_iff_ne]
          omega
        simp [hne]
def cutX (l : List UInt8) : List UInt8 := match crA l with | some (x, _) => x | none => l
theorem cut_crA (l : List UInt8) : Lib.cut l [13, 10] = (cutX l, lnR l, lnB l) := by
  unfold Lib.cut cutX lnR lnB
  rw [index_crA]
  cases h : crA l with
  | none => rfl
  | some z =>
    obtain ⟨x, y⟩ := z
    simp only [Option.isSome_some]
    rw [if_pos (by omega), crA_split l h]
    simp
theorem lns_step {l : List UInt8} (h0 : l ≠ []) : lns l = (cutX l, lnB l) :: lns (lnR l) := by
  unfold cutX lnR lnB
  cases h : crA l with
  | none =>
    rw [lns_none h0 h]
    rfl
  | some z =>
    obtain ⟨x, y⟩ := z
    rw [lns_some h]
    rfl
theorem cutX_le (l : List UInt8) : (cutX l).length ≤ l.length := by
  unfold cutX
  cases h : crA l with
  | none => exact Nat.le_refl _
  | some z =>
    obtain ⟨x, y⟩ := z
    have := crA_lt h
    simp only
    omega
theorem lnR_lt {l : List UInt8} (h0 : l ≠ []) : (lnR l).length < l.length := by
  unfold lnR
  cases h : crA l with
  | none => exact List.length_pos_iff.2 h0
  | some z =>
    obtain ⟨x, y⟩ := z
    have := crA_lt h
    simp only
    omega
theorem hd_Cut (s : ByteArray) (w : World) (hs : s.size ≤ 1000000) (hm : ML w) : Calls Tryz.prog 58 #[.string s, .string ⟨#[13, 10]⟩] w (Ret w (.tuple #[.string ⟨(cutX s.data.toList).toArray⟩, .string ⟨(lnR s.data.toList).toArray⟩, .bool (lnB s.data.toList)])) := by
  obtain ⟨_, m, hm⟩ := hm
  refine (Tryz.strings_Cut s ⟨#[13, 10]⟩ m w (by omega) hm).mono ?_
  rintro e w' ⟨rfl, n, rfl⟩
  rw [show (⟨#[13, 10]⟩ : ByteArray).data.toList = [13, 10] from rfl, cut_crA]
  exact ⟨rfl, below_drewN _ _⟩
theorem lns_mem : ∀ (n : Nat) (l : List UInt8), l.length ≤ n → ∀ x ∈ lns l, x.1.length ≤ l.length := by
  intro n
  induction n with
  | zero =>
    intro l hl x hx
    obtain rfl : l = [] := List.eq_nil_of_length_eq_zero (by omega)
    cases hx
  | succ n ih =>
    intro l hl x hx
    by_cases h0 : l = []
    · subst h0
      cases hx
    · rw [lns_step h0] at hx
      have h1 := lnR_lt h0
      rcases List.mem_cons.1 hx with rfl | hx
      · exact cutX_le l
      · have := ih _ (by omega) x hx
        omega
def encP (x : List UInt8 × Bool) : Array Value := #[.string ⟨x.1.toArray⟩, .bool x.2]
set_option maxRecDepth 100000 in
set_option maxHeartbeats 8000000 in
theorem lines1_seq (B : Nat) (s : ByteArray) (w : World) (hs : s.size ≤ 1000000) (hbox : Boxed w B 9 (.string s)) :
    SeqG Tryz.prog 131 #[.pointer (some ⟨B, 0, none⟩)] encP B (fun xs => xs = lns s.data.toList) (fun pre => pre <+: lns s.data.toList) (lns s.data.toList).length ML (fun x => x ∈ lns s.data.toList) w := by
  intro l J Jx W hb hJ hJx hG hY h0
  have hbW : Boxed W B 9 (.string s) := boxed_below hbox hb
  have HY := Lib.hid hY
  have HJ := Lib.hid hJ
  have HG := Lib.hid hG
  clear hY hJ hb hbox hJx hG
  refine callsIn_of_wp Tryz.func131 rfl trivial ?_ rfl
  simp only [Tryz.ntmps131, List.size_toArray, List.length_cons, List.length_nil, Nat.reduceAdd, Nat.reduceSub, Array.replicate_succ, Array.replicate_zero, List.push_toArray, List.append_toArray, List.nil_append, List.cons_append]
  gi_wp2_with fail
  gi_loopw [3] (fun _ wr => ∃ (pre : List (List UInt8 × Bool)) (r : ByteArray), Boxed wr B 9 (.string r) ∧ lns s.data.toList = pre ++ lns r.data.toList ∧ r.size ≤ 1000000 ∧ J pre wr) (fun _ wr => boxLen B wr)
  case atStart => exact ⟨[], s, hbW, rfl, hs, h0⟩
  case round =>
    obtain ⟨pre, r, hbx, hp, hr, hJs⟩ := hrel
    have hc := hbx.cell
    have HBX := Lib.hid hbx
    have HP := Lib.hid hp
    have HJS := Lib.hid hJs
    clear hp hJs hbx hbW h0
    by_cases h0 : r.size = 0
    · obtain rfl : r = ⟨#[]⟩ := str_ext (List.eq_nil_of_length_eq_zero (by rw [size_toList]; exact h0))
      clear h0
      gi_wp2_with fail
      go_end0
      have he : lns s.data.toList = pre := HP.out.trans (List.append_nil _)
      exact ⟨⟨_, rfl⟩, .inl (by rw [he]; exact HJS.out)⟩
    · have e1 := isEmpty_of_pos (s := r) (by omega)
      have e2 := ne_nil_of_pos (s := r) (by omega)
      have hne : r.data.toList ≠ [] := fun h => h0 (by rw [← size_toList, h]; rfl)
      have C := hd_Cut r wr hr (HG.out pre wr HJS.out)
      have hstep := lns_step hne
      have hlt := lnR_lt hne
      obtain ⟨x, hx⟩ : ∃ x, cutX r.data.toList = x := ⟨_, rfl⟩
      obtain ⟨y, hy⟩ : ∃ x, lnR r.data.toList = x := ⟨_, rfl⟩
      obtain ⟨f, hf⟩ : ∃ f, lnB r.data.toList = f := ⟨_, rfl⟩
      rw [hx, hy, hf] at C hstep
      rw [hy, size_toList] at hlt
      obtain ⟨X, hX⟩ : ∃ X : ByteArray, ⟨x.toArray⟩ = X := ⟨_, rfl⟩
      obtain ⟨Y, hY⟩ : ∃ Y : ByteArray, ⟨y.toArray⟩ = Y := ⟨_, rfl⟩
      rw [hX, hY] at C
      have hYl : Y.data.toList = y := by rw [← hY]
      have hYr : Y.size < r.size := by rw [← size_toList, hYl]; exact hlt
      have hYs : Y.size ≤ 1000000 := by omega
      have CH := Lib.hid C
      have hsm : lns s.data.toList = pre ++ ((x, f) :: lns Y.data.toList) := by rw [HP.out, hstep, hYl]
      have HSM := Lib.hid hsm
      have HLT := Lib.hid hYr
      have HX := Lib.hid hX
      clear C hstep hYl hX hY hx hy hf hlt hYr hsm hne
      gi_wp2_with fail
      refine ⟨trivial, callsIn_wide.2 ((CH.out).mono ?_)⟩
      rintro e w3 ⟨rfl, hb13⟩
      have hbx3 := boxed_below HBX.out hb13
      have hJ3 := HJ.out pre wr w3 none HJS.out (grown_of_below hb13 _) (fun r e => by cases e)
      obtain ⟨fn, tmps, assign, body, hy, hR⟩ := HY.out pre (x, f) w3 hJ3 (by rw [HSM.out]; simp) (by rw [HSM.out]; simp)
      have HBX3 := Lib.hid hbx3
      have HR := Lib.hid hR
      clear hbx3 hR hJ3
      unfold encP at hy
      simp only [HX.out] at hy
      gi_wp2_with fail
      refine HR.out.mono ?_
      rintro e w4 (⟨rfl, hJ4, hk4⟩ | ⟨rfl, hJ4⟩)
      · have hbx4 : Boxed w4 B 9 (.string r) := hk4.2.trans HBX3.out
        have hc4 := hbx4.cell
        have hf4 := hbx4.frozen
        have HBX4 := Lib.hid hbx4
        have HJ4 := Lib.hid hJ4
        clear hbx4 hJ4
        gi_wp2_with fail
        go_roundw
        case rel => exact ⟨pre ++ [(x, f)], Y, HBX4.out.set _, by rw [HSM.out]; simp, hYs, HJ.out _ _ _ (some B) HJ4.out (grownBy_setCell' _ _ _) (fun r e => by cases e; rfl)⟩
        case measure =>
          rw [boxLen_eq (HBX4.out.set _), boxLen_eq HBX.out]
          exact HLT.out
      · have HJ4 := Lib.hid hJ4
        clear hJ4
        gi_wp2_with fail
        refine bodyPost_ret (results_none rfl _ _ _) rfl ?_
        exact ⟨⟨_, rfl⟩, .inr ⟨pre ++ [(x, f)], by rw [HSM.out]; exact ⟨lns Y.data.toList, by simp⟩, HJ4.out⟩⟩
theorem hd_lines (s : ByteArray) (w : World) : Calls Tryz.prog 93 #[.string s] w (fun e w' => e = .returned (.func (.func 131) #[] #[.pointer (some ⟨w.heap.size, 0, none⟩)]) ∧ w' = w.alloc (.cells #[.string s] 9)) := by
  go_enter Tryz.func93, Tryz.ntmps93
  go_wp2_with fail
  go_ret
  exact ⟨rfl, rfl⟩
end Go.Proofs.YthgmgmbjjjnhnaaGreatDoor
namespace Go.Proofs.YthgmgmbjjjnhnaaGreatDoor
open Go.RowKit

/-- The values of a name. -/
def fndV : List Pr → List UInt8 → List (List UInt8)
  | [], _ => []
  | p :: ps, n => if decide (lowL p.1 = lowL n) = true then p.2 :: fndV ps n else fndV ps n
theorem fndV_snoc (ps : List Pr) (p : Pr) (n : List UInt8) : fndV (ps ++ [p]) n = if decide (lowL p.1 = lowL n) = true then fndV ps n ++ [p.2] else fndV ps n := by
  induction ps with
  | nil =>
    simp only [List.nil_append, fndV]
  | cons q ps ih =>
    simp only [List.cons_append, fndV, ih]
    split <;> split <;> rfl
theorem fndV_len (ps : List Pr) (n : List UInt8) : (fndV ps n).length ≤ ps.length := by
  induction ps with
  | nil => exact Nat.le_refl _
  | cons q ps ih =>
    simp only [fndV]
    split
    · simpa using ih
    · simp
      omega
theorem vals_cell' {v : Value} {vs : List Value} {w : World} (h : IsVals v vs w) {k : Nat} (hk : k < vs.length) : ∃ b off cap, v = .slice (some ⟨b, off, none⟩) vs.length cap ∧ b < w.heap.size ∧ ∀ j (hj : j < vs.length), w.cell? ⟨b, off + j, none⟩ = some vs[j] := by
  obtain ⟨a, cap, rfl, _, hc⟩ := h
  rcases hc with rfl | ⟨b, off, rfl, h1, h2⟩
  · simp at hk
  · exact ⟨b, off, cap, rfl, h1, h2⟩
def FndIs (ps : List Pr) (n : List UInt8) (w : World) (e : Ending) (w' : World) : Prop := ∃ v, e = .returned v ∧ IsVals v (strV (fndV ps n)) w' ∧ Below w.heap.size w w'
theorem one_row (w : World) (a : Value) : IsRow 1 (.slice (some ⟨w.heap.size, 0, none⟩) 1 1) 1 [a] (w.alloc (.cells #[a] 9)) := by
  refine ⟨rfl, some ⟨w.heap.size, 0, none⟩, 1, rfl, (fun h => by cases h), .inr ⟨w.heap.size, 0, rfl, by simp, fun j hj => ?_⟩⟩
  rw [Nat.zero_add, World.cell?_alloc_new]
  match j, hj with
  | 0, _ => rfl
set_option maxHeartbeats 8000000 in
set_option maxRecDepth 100000 in
theorem hd_Find (v : Value) (ps : List Pr) (n : ByteArray) (w : World) (hv : IsPairs v ps w) (hl : ps.length ≤ 1000) (hz : ∀ p ∈ ps, p.1.length ≤ 1000000) (hn : n.size ≤ 1000000) : Calls Tryz.prog 94 #[v, .string n] w (FndIs ps n.data.toList w) := by
  obtain ⟨i0, hi, hz0, hz1, hz2⟩ := info_parts vinfo_str
  obtain ⟨a, ca, rfl⟩ := hv.form
  obtain ⟨m, hm⟩ : ∃ m, ps.length = m := ⟨_, rfl⟩
  have HV := Lib.hid hv
  have HN := Lib.hid hm
  have HZ := Lib.hid hz
  rw [hm] at HV hl ⊢
  have HW : Hid (IsPairs (.slice a m ca) ps w) := HV
  clear hv HV hm hz
  go_enter Tryz.func94, Tryz.ntmps94
  go_wp2_with fail
  go_loopw [4, 9] (fun x y wr => ∃ k : Nat, k ≤ m ∧ y = .int .i64 k ∧ wr.ownsRow w.heap.size 9 1 x (fndV (ps.take k) n.data.toList).length (strV (fndV (ps.take k) n.data.toList)) ∧ Below w.heap.size w wr) (fun _ y _ => m - (intOf y).toNat)
  case atStart => exact ⟨0, Nat.zero_le _, rfl, World.ownsRow_nil _ _ _ _, Below.refl _ _⟩
  case round =>
    obtain ⟨k, hk, rfl, hown, hB⟩ := hrel
    by_cases hlt : k < m
    · have hx : k < ps.length := by have := HN.out; omega
      obtain ⟨b1, o1, cap1, hs1, hb0, c1, c2⟩ := (HW.out.ret hB).cell hx
      have ha1 : a = some ⟨b1, o1, none⟩ := by injection hs1
      subst ha1
      have hzk := HZ.out ps[k] (List.getElem_mem hx)
      have htk := fndV_snoc (ps.take k) ps[k] n.data.toList
      rw [← List.take_succ_eq_append_getElem hx] at htk
      have hfl := fndV_len (ps.take k) n.data.toList
      rw [List.length_take] at hfl
      obtain ⟨P, hP⟩ : ∃ P, ps[k] = P := ⟨_, rfl⟩
      rw [hP] at c1 c2 hzk htk
      obtain ⟨p1, p2⟩ := P
      obtain ⟨X, hX⟩ : ∃ X : ByteArray, ⟨p1.toArray⟩ = X := ⟨_, rfl⟩
      obtain ⟨Y, hY⟩ : ∃ X : ByteArray, ⟨p2.toArray⟩ = X := ⟨_, rfl⟩
      have hXl : X.data.toList = p1 := by rw [← hX]
      have hYl : Y.data.toList = p2 := by rw [← hY]
      simp only [hX, hY] at c1 c2
      rw [← hXl] at htk
      have zX : X.size ≤ 1000000 := by rw [← size_toList, hXl]; exact hzk
      have S0 := fun w => as_Same X n w zX hn
      obtain ⟨q, hq⟩ : ∃ q, decide (lowL X.data.toList = lowL n.data.toList) = q := ⟨_, rfl⟩
      rw [hq] at S0 htk
      have SH := Lib.hid S0
      have HB := Lib.hid hB
      obtain ⟨fs, hfs⟩ : ∃ fs, fndV (ps.take k) n.data.toList = fs := ⟨_, rfl⟩
      rw [hfs] at hown htk hfl
      have HO := Lib.hid hown
      have g1 : (k : Int) < m := by omega
      have g2 : (0 : Int) ≤ (k : Int) := by omega
      clear S0 hq hP hX hXl zX hzk hs1 hB hx hfs hown
      cases q with
      | false =>
        rw [if_neg (by decide)] at htk
        have HT := Lib.hid htk
        clear htk hYl hY
        go_wp2_with fail
        refine (SH.out _).mono ?_
        rintro e w2 ⟨rfl, hb2⟩
        have q2 := (HB.out.alloc HB.out.size (.cells #[.string X, .string Y] 106)).trans (hb2.mono ((HB.out.alloc HB.out.size (.cells #[.string X, .string Y] 106)).size))
        have HO2 := Lib.hid (own_below (HO.out.alloc _) hb2)
        go_wp2_with fail
        go_roundw
        case rel => exact ⟨k + 1, by omega, by go_num, by rw [HT.out]; exact HO2.out, q2⟩
        case measure => simp [intOf]; omega
      | true =>
        rw [if_pos rfl] at htk
        have hsv := strV_snoc fs p2
        rw [hY] at hsv
        have HT := Lib.hid htk
        have HSV := Lib.hid hsv
        clear htk hYl hY hsv
        go_wp2_with fail
        refine (SH.out _).mono ?_
        rintro e w2 ⟨rfl, hb2⟩
        have q2 := (HB.out.alloc HB.out.size (.cells #[.string X, .string Y] 106)).trans (hb2.mono ((HB.out.alloc HB.out.size (.cells #[.string X, .string Y] 106)).size))
        have HO2 := Lib.hid (own_below (HO.out.alloc _) hb2)
        have d1 := (bcell hb2).1 wr.heap.size 1 (by simp)
        simp at d1
        clear hb2 c1 c2 SH
        go_wp2_with (at_builtin; refine Hid.out ?_)
        refine Lib.hid ?_
        have hsz := q2.size
        refine wpList_app_row rfl _ _ _ rfl w.heap.size 9 i0 _ 1 16 Tryz.underlying64 hi hz0 hz1 hz2 rfl (by omega) _ fs.length (strV fs) rfl (HO2.out.alloc _) (.slice (some ⟨w2.heap.size, 0, none⟩) 1 1) (by rfl) 1 [.string Y] (one_row w2 _) (by simp [Value.oneCell']) (by omega) (by omega) (by simp; omega) ?_
        intro v' w' hown' hgrow
        have q3 := (q2.alloc q2.size (.cells #[.string Y] 9)).grown hgrow (by simp; omega) (fun r hr => (HO2.out.lt r hr).1)
        have HO3 := Lib.hid hown'
        clear hown' hgrow
        go_wp2_with fail
        go_roundw
        case rel => exact ⟨k + 1, by omega, by go_num, by rw [HT.out, HSV.out, List.length_append]; exact HO3.out, q3⟩
        case measure => simp [intOf]; omega
    · have hfull : ps.take k = ps := List.take_of_length_le (by have := HN.out; omega)
      rw [hfull] at hown
      have HO := Lib.hid hown
      clear hown hfull
      go_wp2_with fail
      go_ret
      exact ⟨_, rfl, own_vals HO.out, hB⟩
set_option maxHeartbeats 8000000 in
set_option maxRecDepth 100000 in
theorem r14_Find (v : Value) (ps : List Pr) (n : ByteArray) (w : World) (hv : IsPairs v ps w) (hl : ps.length ≤ 1000) (hz : ∀ p ∈ ps, p.1.length ≤ 1000000) (hn : n.size ≤ 1000000) : Calls Tryz.prog 108 #[v, .string n] w (FndIs ps n.data.toList w) := by
  obtain ⟨i0, hi, hz0, hz1, hz2⟩ := info_parts vinfo_str
  obtain ⟨a, ca, rfl⟩ := hv.form
  obtain ⟨m, hm⟩ : ∃ m, ps.length = m := ⟨_, rfl⟩
  have HV := Lib.hid hv
  have HN := Lib.hid hm
  have HZ := Lib.hid hz
  rw [hm] at HV hl ⊢
  have HW : Hid (IsPairs (.slice a m ca) ps w) := HV
  clear hv HV hm hz
  go_enter Tryz.func108, Tryz.ntmps108
  go_wp2_with fail
  go_loopw [5, 6] (fun x y wr => ∃ k : Nat, k ≤ m ∧ y = .int .i64 k ∧ wr.ownsRow w.heap.size 9 1 x (fndV (ps.take k) n.data.toList).length (strV (fndV (ps.take k) n.data.toList)) ∧ Below w.heap.size w wr) (fun _ y _ => m - (intOf y).toNat)
  case atStart => exact ⟨0, Nat.zero_le _, rfl, World.ownsRow_nil _ _ _ _, Below.refl _ _⟩
  case round =>
    obtain ⟨k, hk, rfl, hown, hB⟩ := hrel
    by_cases hlt : k < m
    · have hx : k < ps.length := by have := HN.out; omega
      obtain ⟨b1, o1, cap1, hs1, hb0, c1, c2⟩ := (HW.out.ret hB).cell hx
      have ha1 : a = some ⟨b1, o1, none⟩ := by injection hs1
      subst ha1
      have hzk := HZ.out ps[k] (List.getElem_mem hx)
      have htk := fndV_snoc (ps.take k) ps[k] n.data.toList
      rw [← List.take_succ_eq_append_getElem hx] at htk
      have hfl := fndV_len (ps.take k) n.data.toList
      rw [List.length_take] at hfl
      obtain ⟨P, hP⟩ : ∃ P, ps[k] = P := ⟨_, rfl⟩
      rw [hP] at c1 c2 hzk htk
      obtain ⟨p1, p2⟩ := P
      obtain ⟨X, hX⟩ : ∃ X : ByteArray, ⟨p1.toArray⟩ = X := ⟨_, rfl⟩
      obtain ⟨Y, hY⟩ : ∃ X : ByteArray, ⟨p2.toArray⟩ = X := ⟨_, rfl⟩
      have hXl : X.data.toList = p1 := by rw [← hX]
      have hYl : Y.data.toList = p2 := by rw [← hY]
      simp only [hX, hY] at c1 c2
      rw [← hXl] at htk
      have zX : X.size ≤ 1000000 := by rw [← size_toList, hXl]; exact hzk
      have S0 := fun w => r7_Same X n w zX hn
      obtain ⟨q, hq⟩ : ∃ q, decide (lowL X.data.toList = lowL n.data.toList) = q := ⟨_, rfl⟩
      rw [hq] at S0 htk
      have SH := Lib.hid S0
      have HB := Lib.hid hB
      obtain ⟨fs, hfs⟩ : ∃ fs, fndV (ps.take k) n.data.toList = fs := ⟨_, rfl⟩
      rw [hfs] at hown htk hfl
      have HO := Lib.hid hown
      have g1 : (k : Int) < m := by omega
      have g2 : (0 : Int) ≤ (k : Int) := by omega
      clear S0 hq hP hX hXl zX hzk hs1 hB hx hfs hown
      cases q with
      | false =>
        rw [if_neg (by decide)] at htk
        have HT := Lib.hid htk
        clear htk hYl hY
        go_wp2_with fail
        refine (SH.out _).mono ?_
        rintro e w2 ⟨rfl, hb2⟩
        have q2 := HB.out.trans (hb2.mono (HB.out.size))
        have HO2 := Lib.hid (own_below HO.out hb2)
        go_wp2_with fail
        go_roundw
        case rel => exact ⟨k + 1, by omega, by go_num, by rw [HT.out]; exact HO2.out, q2⟩
        case measure => simp [intOf]; omega
      | true =>
        rw [if_pos rfl] at htk
        have hsv := strV_snoc fs p2
        rw [hY] at hsv
        have HT := Lib.hid htk
        have HSV := Lib.hid hsv
        clear htk hYl hY hsv
        go_wp2_with fail
        refine (SH.out _).mono ?_
        rintro e w2 ⟨rfl, hb2⟩
        have q2 := HB.out.trans (hb2.mono (HB.out.size))
        have HO2 := Lib.hid (own_below HO.out hb2)
        have d2 := ((bcell hb2).1 b1 (o1 + k * 2 + 1) hb0).trans c2
        clear hb2 c1 c2 SH
        go_wp2_with (at_builtin; refine Hid.out ?_)
        refine Lib.hid ?_
        have hsz := q2.size
        refine wpList_app_row rfl _ _ _ rfl w.heap.size 9 i0 _ 1 16 Tryz.underlying64 hi hz0 hz1 hz2 rfl (by omega) _ fs.length (strV fs) rfl (HO2.out.alloc _) (.slice (some ⟨w2.heap.size, 0, none⟩) 1 1) (by rfl) 1 [.string Y] (one_row w2 _) (by simp [Value.oneCell']) (by omega) (by omega) (by simp; omega) ?_
        intro v' w' hown' hgrow
        have q3 := (q2.alloc q2.size (.cells #[.string Y] 9)).grown hgrow (by simp; omega) (fun r hr => (HO2.out.lt r hr).1)
        have HO3 := Lib.hid hown'
        clear hown' hgrow
        go_wp2_with fail
        go_roundw
        case rel => exact ⟨k + 1, by omega, by go_num, by rw [HT.out, HSV.out, List.length_append]; exact HO3.out, q3⟩
        case measure => simp [intOf]; omega
    · have hfull : ps.take k = ps := List.take_of_length_le (by have := HN.out; omega)
      rw [hfull] at hown
      have HO := Lib.hid hown
      clear hown hfull
      go_wp2_with fail
      go_ret
      exact ⟨_, rfl, own_vals HO.out, hB⟩
/-- What One answers. -/
def oneX (xs : List (List UInt8)) : List UInt8 × Bool × Int := match xs with | [] => ([], false, 0) | [x] => (x, true, 0) | _ => ([], false, 140)
def OneIs (ps : List Pr) (n : List UInt8) (w : World) : Ending → World → Prop := Ret w (.tuple #[.string ⟨(oneX (fndV ps n)).1.toArray⟩, .bool (oneX (fndV ps n)).2.1, .int .i64 (oneX (fndV ps n)).2.2])
set_option maxHeartbeats 4000000 in
theorem hd_One (v : Value) (ps : List Pr) (n : ByteArray) (w : World) (hv : IsPairs v ps w) (hl : ps.length ≤ 1000) (hz : ∀ p ∈ ps, p.1.length ≤ 1000000) (hn : n.size ≤ 1000000) : Calls Tryz.prog 63 #[v, .string n] w (OneIs ps n.data.toList w) := by
  have FH := Lib.hid (hd_Find v ps n w hv hl hz hn)
  have hfl := fndV_len ps n.data.toList
  unfold OneIs
  obtain ⟨xs, hxs⟩ : ∃ xs, fndV ps n.data.toList = xs := ⟨_, rfl⟩
  unfold FndIs at FH
  rw [hxs] at FH hfl ⊢
  have zx : xs.length ≤ 1000 := by omega
  clear hv hl hz hxs hfl
  match xs, zx with
  | [], _ =>
    go_enter Tryz.func63, Tryz.ntmps63
    go_wp2_with fail
    refine (FH.out).mono ?_
    rintro e w1 ⟨u, rfl, ⟨a, cap, rfl, _, _⟩, hb1⟩
    rw [show (strV []).length = 0 from rfl]
    go_wp2_with fail
    go_ret3
    exact ⟨rfl, hb1⟩
  | [x], _ =>
    obtain ⟨X, hX⟩ : ∃ X : ByteArray, ⟨x.toArray⟩ = X := ⟨_, rfl⟩
    have HX := Lib.hid hX
    go_enter Tryz.func63, Tryz.ntmps63
    go_wp2_with fail
    refine (FH.out).mono ?_
    rintro e w1 ⟨u, rfl, iv, hb1⟩
    obtain ⟨b, off, cap, rfl, _, hc⟩ := vals_cell' iv (k := 0) (by simp [strV])
    have c0 := hc 0 (by simp [strV])
    rw [show (strV [x]).length = 1 from rfl]
    rw [show (strV [x])[0]'(by simp [strV]) = .string X by rw [← hX]; rfl] at c0
    rw [Nat.add_zero] at c0
    clear hX iv hc
    go_wp2_with fail
    go_ret3
    refine ⟨?_, hb1⟩
    show _ = Ending.returned (.tuple #[.string ⟨x.toArray⟩, .bool true, .int .i64 0])
    rw [HX.out]
    rfl
  | x :: y :: r, zx =>
    obtain ⟨m, hm⟩ : ∃ m, r.length + 2 = m := ⟨_, rfl⟩
    have hm2 : (strV (x :: y :: r)).length = m := by rw [strV_len, ← hm]; rfl
    have HM := Lib.hid hm2
    have g1 : (2 : Int) ≤ m := by omega
    have g0 : m ≤ 1000 := by simp at zx; omega
    have e0 : ((m : Int) == 0) = false := by rw [beq_eq_false_iff_ne]; omega
    have e1 : ((m : Int) == 1) = false := by rw [beq_eq_false_iff_ne]; omega
    have e2 : (1 : Int) < m := by omega
    clear hm hm2 zx
    go_enter Tryz.func63, Tryz.ntmps63
    go_wp2_with fail
    refine (FH.out).mono ?_
    rintro e w1 ⟨u, rfl, ⟨a, cap, rfl, _, _⟩, hb1⟩
    rw [HM.out]
    go_wp2_with fail
    go_ret3
    exact ⟨rfl, hb1⟩
set_option maxHeartbeats 4000000 in
theorem r14_One (v : Value) (ps : List Pr) (n : ByteArray) (w : World) (hv : IsPairs v ps w) (hl : ps.length ≤ 1000) (hz : ∀ p ∈ ps, p.1.length ≤ 1000000) (hn : n.size ≤ 1000000) : Calls Tryz.prog 110 #[v, .string n] w (OneIs ps n.data.toList w) := by
  have FH := Lib.hid (r14_Find v ps n w hv hl hz hn)
  have hfl := fndV_len ps n.data.toList
  unfold OneIs
  obtain ⟨xs, hxs⟩ : ∃ xs, fndV ps n.data.toList = xs := ⟨_, rfl⟩
  unfold FndIs at FH
  rw [hxs] at FH hfl ⊢
  have zx : xs.length ≤ 1000 := by omega
  clear hv hl hz hxs hfl
  match xs, zx with
  | [], _ =>
    go_enter Tryz.func110, Tryz.ntmps110
    go_wp2_with fail
    refine (FH.out).mono ?_
    rintro e w1 ⟨u, rfl, ⟨a, cap, rfl, _, _⟩, hb1⟩
    rw [show (strV []).length = 0 from rfl]
    go_wp2_with fail
    go_ret3
    exact ⟨rfl, hb1⟩
  | [x], _ =>
    obtain ⟨X, hX⟩ : ∃ X : ByteArray, ⟨x.toArray⟩ = X := ⟨_, rfl⟩
    have HX := Lib.hid hX
    go_enter Tryz.func110, Tryz.ntmps110
    go_wp2_with fail
    refine (FH.out).mono ?_
    rintro e w1 ⟨u, rfl, iv, hb1⟩
    obtain ⟨b, off, cap, rfl, _, hc⟩ := vals_cell' iv (k := 0) (by simp [strV])
    have c0 := hc 0 (by simp [strV])
    rw [show (strV [x]).length = 1 from rfl]
    rw [show (strV [x])[0]'(by simp [strV]) = .string X by rw [← hX]; rfl] at c0
    rw [Nat.add_zero] at c0
    clear hX iv hc
    go_wp2_with fail
    go_ret3
    refine ⟨?_, hb1⟩
    show _ = Ending.returned (.tuple #[.string ⟨x.toArray⟩, .bool true, .int .i64 0])
    rw [HX.out]
    rfl
  | x :: y :: r, zx =>
    obtain ⟨m, hm⟩ : ∃ m, r.length + 2 = m := ⟨_, rfl⟩
    have hm2 : (strV (x :: y :: r)).length = m := by rw [strV_len, ← hm]; rfl
    have HM := Lib.hid hm2
    have g1 : (2 : Int) ≤ m := by omega
    have g0 : m ≤ 1000 := by simp at zx; omega
    have e0 : ((m : Int) == 0) = false := by rw [beq_eq_false_iff_ne]; omega
    have e1 : ((m : Int) == 1) = false := by rw [beq_eq_false_iff_ne]; omega
    have e2 : (1 : Int) < m := by omega
    clear hm hm2 zx
    go_enter Tryz.func110, Tryz.ntmps110
    go_wp2_with fail
    refine (FH.out).mono ?_
    rintro e w1 ⟨u, rfl, ⟨a, cap, rfl, _, _⟩, hb1⟩
    rw [HM.out]
    go_wp2_with fail
    go_ret3
    exact ⟨rfl, hb1⟩
end Go.Proofs.YthgmgmbjjjnhnaaGreatDoor
