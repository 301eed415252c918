/- Chapter 14's plain laws: header fields, in plain Lean. -/
import Derived.Test.YtnfgpcccmbblcaaDoorAsXp
import Derived.Test.YtnfgpcccmbblcaaDoorAsK
namespace Go.Proofs.YtnfgpcccmbblcaaDoor
open Go.RowKit

/-- What stands ahead of the first end of a line, and behind it. -/
def crA : List UInt8 → Option (List UInt8 × List UInt8)
  | [] => none
  | [_] => none
  | c :: d :: r => if c = 13 ∧ d = 10 then some ([], r) else (crA (d :: r)).map fun x => (c :: x.1, x.2)
theorem crA_split : ∀ (l : List UInt8) {x r : List UInt8}, crA l = some (x, r) → l = x ++ 13 :: 10 :: r
  | [], _, _, h => by cases h
  | [_], _, _, h => by cases h
  | c :: d :: l, x, r, h => by
    simp only [crA] at h
    by_cases hc : c = 13 ∧ d = 10
    · rw [if_pos hc] at h
      cases h
      rw [hc.1, hc.2]
      rfl
    · rw [if_neg hc] at h
      obtain ⟨⟨y, s⟩, h1, h2⟩ := Option.map_eq_some_iff.1 h
      cases h2
      rw [crA_split (d :: l) h1]
      rfl
theorem crA_lt {l x r : List UInt8} (h : crA l = some (x, r)) : r.length + 2 + x.length = l.length := by
  rw [crA_split l h]
  simp
  omega
theorem crA_app (b : List UInt8) : ∀ (a : List UInt8) {x r : List UInt8}, crA a = some (x, r) → crA (a ++ b) = some (x, r ++ b)
  | [], _, _, h => by cases h
  | [_], _, _, h => by cases h
  | c :: d :: l, x, r, h => by
    simp only [crA] at h
    show crA (c :: d :: (l ++ b)) = _
    simp only [crA]
    by_cases hc : c = 13 ∧ d = 10
    · rw [if_pos hc] at h ⊢
      cases h
      rfl
    · rw [if_neg hc] at h ⊢
      obtain ⟨⟨y, s⟩, h1, h2⟩ := Option.map_eq_some_iff.1 h
      cases h2
      have := crA_app b (d :: l) h1
      rw [List.cons_append] at this
      rw [this]
      rfl
theorem crA_of : ∀ (x r : List UInt8), (∀ c ∈ x, c ≠ 13) → crA (x ++ 13 :: 10 :: r) = some (x, r)
  | [], r, _ => by
    show crA (13 :: 10 :: r) = _
    simp only [crA]
    rw [if_pos (by simp)]
  | [c], r, h => by
    show crA (c :: 13 :: 10 :: r) = _
    simp only [crA]
    rw [if_neg (fun e => h c (by simp) e.1), if_pos (by simp)]
    rfl
  | c :: d :: x, r, h => by
    have ih := crA_of (d :: x) r (fun e he => h e (List.mem_cons_of_mem _ he))
    show crA (c :: d :: (x ++ 13 :: 10 :: r)) = _
    simp only [crA]
    rw [if_neg (fun e => h c (by simp) e.1)]
    rw [List.cons_append] at ih
    rw [ih]
    rfl
abbrev Pr := List UInt8 × List UInt8
/-- A line's field. -/
def fldB (l : List UInt8) : Bool := l.contains 58 && (tok (cA 58 l) && pln (cR 58 l))
def fldV (l : List UInt8) : Pr := (lowL (cA 58 l), trm (cR 58 l))
/-- A text's lines, and whether each has an end. -/
def lnsN : Nat → List UInt8 → List (List UInt8 × Bool)
  | 0, _ => []
  | n + 1, l => if l = [] then [] else match crA l with
    | none => [(l, false)]
    | some (x, r) => (x, true) :: lnsN n r
def lns (l : List UInt8) : List (List UInt8 × Bool) := lnsN l.length l
theorem lnsN_fuel : ∀ (n m : Nat) (l : List UInt8), l.length ≤ n → l.length ≤ m → lnsN n l = lnsN m l
  | 0, 0, _, _, _ => rfl
  | 0, m + 1, l, h, _ => by
    obtain rfl : l = [] := List.eq_nil_of_length_eq_zero (by omega)
    rfl
  | n + 1, 0, l, _, h => by
    obtain rfl : l = [] := List.eq_nil_of_length_eq_zero (by omega)
    rfl
  | n + 1, m + 1, l, h1, h2 => by
    simp only [lnsN]
    by_cases h0 : l = []
    · rw [if_pos h0, if_pos h0]
    · rw [if_neg h0, if_neg h0]
      cases hc : crA l with
      | none => rfl
      | some y =>
        obtain ⟨x, r⟩ := y
        have := crA_lt hc
        simp only
        rw [lnsN_fuel n m r (by omega) (by omega)]
theorem lns_nil : lns [] = [] := rfl
theorem lns_none {l : List UInt8} (h0 : l ≠ []) (h : crA l = none) : lns l = [(l, false)] := by
  unfold lns
  cases l with
  | nil => exact absurd rfl h0
  | cons c l =>
    rw [List.length_cons]
    simp only [lnsN]
    rw [if_neg h0, h]
theorem lns_some {l x r : List UInt8} (h : crA l = some (x, r)) : lns l = (x, true) :: lns r := by
  unfold lns
  cases l with
  | nil => cases h
  | cons c l =>
    have hl := crA_lt h
    rw [List.length_cons] at hl ⊢
    simp only [lnsN]
    rw [if_neg (by simp), h]
    simp only
    rw [lnsN_fuel l.length r.length r (by omega) (Nat.le_refl _)]
/-- Lines' fields. -/
def flds : List (List UInt8 × Bool) → Option (List Pr)
  | [] => some []
  | x :: r => if x.2 = true ∧ fldB x.1 = true then (flds r).map (fldV x.1 :: ·) else none
def hdA (l : List UInt8) : Option (List Pr) := flds (lns l)
theorem flds_app (a b : List (List UInt8 × Bool)) : flds (a ++ b) = (flds a).bind fun p => (flds b).map (p ++ ·) := by
  induction a with
  | nil =>
    simp only [List.nil_append, flds, Option.bind_some]
    cases flds b <;> rfl
  | cons x a ih =>
    simp only [List.cons_append, flds]
    by_cases h : x.2 = true ∧ fldB x.1 = true
    · rw [if_pos h, if_pos h, ih]
      cases flds a with
      | none => rfl
      | some p =>
        cases flds b with
        | none => rfl
        | some q => rfl
    · rw [if_neg h, if_neg h]
      rfl
theorem flds_bad {a : List (List UInt8 × Bool)} {x : List UInt8 × Bool} (hx : x ∈ a) (h : ¬ (x.2 = true ∧ fldB x.1 = true)) : flds a = none := by
  induction a with
  | nil => cases hx
  | cons y a ih =>
    simp only [flds]
    rcases List.mem_cons.1 hx with rfl | hx
    · rw [if_neg h]
    · rw [ih hx]
      split <;> rfl
theorem flds_good {a : List (List UInt8 × Bool)} (h : ∀ x ∈ a, x.2 = true ∧ fldB x.1 = true) : flds a = some (a.map fun x => fldV x.1) := by
  induction a with
  | nil => rfl
  | cons y a ih =>
    simp only [flds]
    rw [if_pos (h y (List.mem_cons_self ..)), ih fun x hx => h x (List.mem_cons_of_mem _ hx)]
    rfl
theorem hdA_nil : hdA [] = some [] := rfl
theorem hdA_none {l : List UInt8} (h0 : l ≠ []) (h : crA l = none) : hdA l = none := by
  unfold hdA
  rw [lns_none h0 h]
  rfl
theorem hdA_some {l x r : List UInt8} (h : crA l = some (x, r)) : hdA l = if fldB x = true then (hdA r).map (fldV x :: ·) else none := by
  unfold hdA
  rw [lns_some h]
  simp only [flds, true_and]
/-- What head.Parse answers. -/
def hdE (l : List UInt8) : Int := if 16384 < l.length then 4 else match hdA l with
  | none => 140
  | some ps => if 32 < ps.length then 4 else 0
def hdV (l : List UInt8) : List Pr := if hdE l = 0 then (hdA l).getD [] else []
theorem hdE_ok {l : List UInt8} (h : hdE l = 0) : l.length ≤ 16384 ∧ ∃ ps, hdA l = some ps ∧ ps.length ≤ 32 ∧ hdV l = ps := by
  have hv : hdV l = (hdA l).getD [] := by unfold hdV; rw [if_pos h]
  unfold hdE at h
  by_cases hl : 16384 < l.length
  · rw [if_pos hl] at h
    cases h
  · rw [if_neg hl] at h
    refine ⟨by omega, ?_⟩
    cases ha : hdA l with
    | none => rw [ha] at h; cases h
    | some ps =>
      rw [ha] at h
      simp only at h
      by_cases hp : 32 < ps.length
      · rw [if_pos hp] at h
        cases h
      · exact ⟨ps, rfl, by omega, by rw [hv, ha]; rfl⟩
theorem hdE_of {l : List UInt8} {ps : List Pr} (hl : l.length ≤ 16384) (h : hdA l = some ps) (hp : ps.length ≤ 32) : hdE l = 0 ∧ hdV l = ps := by
  have he : hdE l = 0 := by
    unfold hdE
    rw [if_neg (by omega), h]
    simp only
    rw [if_neg (by omega)]
  exact ⟨he, by unfold hdV; rw [if_pos he, h]; rfl⟩
theorem hdE_many {l : List UInt8} {ps : List Pr} (h : hdA l = some ps) (hp : 32 < ps.length) : hdE l = 4 ∧ hdV l = [] := by
  have he : hdE l = 4 := by
    unfold hdE
    split
    · rfl
    · rw [h]
      simp only
      rw [if_pos hp]
  exact ⟨he, by unfold hdV; rw [if_neg (by rw [he]; decide)]⟩
theorem hdE_bad {l : List UInt8} (h : hdE l ≠ 0) : hdV l = [] := by unfold hdV; rw [if_neg h]
theorem hdA_app {a : List UInt8} (b : List UInt8) : ∀ {p : List Pr}, hdA a = some p → hdA (a ++ b) = (hdA b).map (p ++ ·) := by
  have key : ∀ (n : Nat) (a : List UInt8), a.length ≤ n → ∀ {p : List Pr}, hdA a = some p → hdA (a ++ b) = (hdA b).map (p ++ ·) := by
    intro n
    induction n with
    | zero =>
      intro a hn p h
      obtain rfl : a = [] := List.eq_nil_of_length_eq_zero (by omega)
      cases h
      rw [List.nil_append]
      cases hdA b <;> rfl
    | succ n ih =>
      intro a hn p h
      by_cases h0 : a = []
      · subst h0
        cases h
        rw [List.nil_append]
        cases hdA b <;> rfl
      · cases hc : crA a with
        | none => rw [hdA_none h0 hc] at h; cases h
        | some y =>
          obtain ⟨x, r⟩ := y
          have hl := crA_lt hc
          rw [hdA_some hc] at h
          rw [hdA_some (crA_app b a hc)]
          by_cases hf : fldB x = true
          · rw [if_pos hf] at h ⊢
            obtain ⟨q, h1, h2⟩ := Option.map_eq_some_iff.1 h
            subst h2
            rw [ih r (by omega) h1]
            cases hdA b <;> rfl
          · rw [if_neg hf] at h
            cases h
  intro p h
  exact key a.length a (Nat.le_refl _) h
/-- Fields as lines. -/
def hdL (p : Pr) : List UInt8 := p.1 ++ 58 :: 32 :: (p.2 ++ [13, 10])
def hdW (ps : List Pr) : List UInt8 := (ps.map hdL).flatten
def hmay (p : Pr) : Bool := tok p.1 && (decide (lowL p.1 = p.1) && (pln p.2 && decide (trm p.2 = p.2)))
theorem hmay_parts {p : Pr} (h : hmay p = true) : tok p.1 = true ∧ lowL p.1 = p.1 ∧ pln p.2 = true ∧ trm p.2 = p.2 := by
  unfold hmay at h
  simp only [Bool.and_eq_true, decide_eq_true_eq] at h
  exact ⟨h.1, h.2.1, h.2.2.1, h.2.2.2⟩
theorem hmay_of {p : Pr} (h1 : tok p.1 = true) (h2 : lowL p.1 = p.1) (h3 : pln p.2 = true) (h4 : trm p.2 = p.2) : hmay p = true := by
  unfold hmay
  simp [h1, h2, h3, h4]
theorem fldV_may {x : List UInt8} (h : fldB x = true) : hmay (fldV x) = true := by
  unfold fldB at h
  simp only [Bool.and_eq_true] at h
  exact hmay_of (p := fldV x) (by unfold fldV; rw [tok_low]; exact h.2.1) (lowL_again _) (by unfold fldV; rw [pln_trm]; exact h.2.2) (trm_again _)
theorem tokC_13' : ∀ n : Fin 256, tokC (UInt8.ofNat n.val) = true → UInt8.ofNat n.val ≠ 13 ∧ UInt8.ofNat n.val ≠ 58 := by decide +kernel
theorem plnC_13' : ∀ n : Fin 256, plnC (UInt8.ofNat n.val) = true → UInt8.ofNat n.val ≠ 13 ∧ UInt8.ofNat n.val ≠ 10 := by decide +kernel
theorem tokC_13 {c : UInt8} (h : tokC c = true) : c ≠ 13 ∧ c ≠ 58 := by
  have := tokC_13' ⟨c.toNat, c.toNat_lt⟩
  simp only [u8_ofNat] at this
  exact this h
theorem plnC_13 {c : UInt8} (h : plnC c = true) : c ≠ 13 ∧ c ≠ 10 := by
  have := plnC_13' ⟨c.toNat, c.toNat_lt⟩
  simp only [u8_ofNat] at this
  exact this h
theorem tok_no {x : List UInt8} (h : tok x = true) : ∀ c ∈ x, c ≠ 13 ∧ c ≠ 58 := by
  unfold tok at h
  rw [Bool.and_eq_true, List.all_eq_true] at h
  exact fun c hc => tokC_13 (h.2 c hc)
theorem pln_no {x : List UInt8} (h : pln x = true) : ∀ c ∈ x, c ≠ 13 ∧ c ≠ 10 := by
  unfold pln at h
  rw [List.all_eq_true] at h
  exact fun c hc => plnC_13 (h c hc)
theorem cA_of (c : UInt8) (r : List UInt8) : ∀ (x : List UInt8), (∀ d ∈ x, d ≠ c) → cA c (x ++ c :: r) = x ∧ cR c (x ++ c :: r) = r := by
  intro x
  induction x with
  | nil => intro _; exact ⟨by simp [cA], by simp [cR]⟩
  | cons d x ih =>
    intro h
    have hd : d ≠ c := h d (List.mem_cons_self ..)
    obtain ⟨i1, i2⟩ := ih fun e he => h e (List.mem_cons_of_mem _ he)
    unfold cA at i1 ⊢
    unfold cR at i2 ⊢
    rw [List.cons_append, List.takeWhile_cons_of_pos (by simpa using hd), List.dropWhile_cons_of_pos (by simpa using hd)]
    exact ⟨by rw [i1], i2⟩
theorem fld_line {p : Pr} (h : hmay p = true) : fldB (p.1 ++ 58 :: 32 :: p.2) = true ∧ fldV (p.1 ++ 58 :: 32 :: p.2) = p := by
  obtain ⟨h1, h2, h3, h4⟩ := hmay_parts h
  obtain ⟨c1, c2⟩ := cA_of 58 (32 :: p.2) p.1 fun d hd => (tok_no h1 d hd).2
  unfold fldB fldV
  rw [c1, c2]
  refine ⟨?_, ?_⟩
  · have e1 : (p.1 ++ 58 :: 32 :: p.2).contains 58 = true := by
      rw [List.contains_iff_mem]
      simp
    have e2 : pln (32 :: p.2) = true := by
      unfold pln at h3 ⊢
      rw [List.all_cons, h3]
      rfl
    rw [e1, h1, e2]
    rfl
  · rw [h2, trm_cons (by rfl), h4]
theorem hdW_cons (p : Pr) (ps : List Pr) : hdW (p :: ps) = hdL p ++ hdW ps := by simp [hdW]
theorem hdW_snoc (p : Pr) (ps : List Pr) : hdW (ps ++ [p]) = hdW ps ++ hdL p := by simp [hdW]
/-- What is written is read. -/
theorem hdA_W (ps : List Pr) (h : ∀ p ∈ ps, hmay p = true) : hdA (hdW ps) = some ps := by
  induction ps with
  | nil => rfl
  | cons p ps ih =>
    have hp := h p (List.mem_cons_self ..)
    obtain ⟨h1, _, h3, _⟩ := hmay_parts hp
    obtain ⟨f1, f2⟩ := fld_line hp
    have hc : crA (hdW (p :: ps)) = some (p.1 ++ 58 :: 32 :: p.2, hdW ps) := by
      have : hdW (p :: ps) = (p.1 ++ 58 :: 32 :: p.2) ++ 13 :: 10 :: hdW ps := by
        rw [hdW_cons]
        unfold hdL
        simp
      rw [this]
      refine crA_of _ _ fun c hc => ?_
      rcases List.mem_append.1 hc with hc | hc
      · exact (tok_no h1 c hc).1
      · simp only [List.mem_cons] at hc
        rcases hc with rfl | rfl | hc
        · decide
        · decide
        · exact (pln_no h3 c hc).1
    rw [hdA_some hc, if_pos f1, f2, ih fun q hq => h q (List.mem_cons_of_mem _ hq)]
    rfl
theorem hdA_all : ∀ (n : Nat) (l : List UInt8), l.length ≤ n → ∀ {ps : List Pr}, hdA l = some ps → (∀ p ∈ ps, hmay p = true) ∧ (hdW ps).length ≤ l.length + ps.length := by
  intro n
  induction n with
  | zero =>
    intro l hn ps h
    obtain rfl : l = [] := List.eq_nil_of_length_eq_zero (by omega)
    cases h
    exact ⟨(fun p hp => (by cases hp)), Nat.le_refl _⟩
  | succ n ih =>
    intro l hn ps h
    by_cases h0 : l = []
    · subst h0
      cases h
      exact ⟨(fun p hp => (by cases hp)), Nat.le_refl _⟩
    · cases hc : crA l with
      | none => rw [hdA_none h0 hc] at h; cases h
      | some y =>
        obtain ⟨x, r⟩ := y
        have hl := crA_lt hc
        rw [hdA_some hc] at h
        by_cases hf : fldB x = true
        · rw [if_pos hf] at h
          obtain ⟨q, h1, h2⟩ := Option.map_eq_some_iff.1 h
          subst h2
          obtain ⟨i1, i2⟩ := ih r (by omega) h1
          refine ⟨fun p hp => ?_, ?_⟩
          · rcases List.mem_cons.1 hp with rfl | hp
            · exact fldV_may hf
            · exact i1 p hp
          · have hx : (fldV x).1.length + 1 + (fldV x).2.length ≤ x.length := by
              unfold fldB at hf
              simp only [Bool.and_eq_true] at hf
              unfold fldV
              simp only
              rw [lowL_len]
              have ht := trm_le (cR 58 x)
              rcases ib_cases 58 x with ⟨_, _, _, i4⟩ | ⟨i, _, i0, i2, i3, _⟩
              · rw [i4] at hf
                cases hf.1
              · rw [i2, List.length_take]
                rw [i3, List.length_drop] at ht
                rw [i3]
                omega
            rw [hdW_cons, List.length_append, List.length_cons]
            unfold hdL
            simp only [List.length_append, List.length_cons, List.length_nil]
            omega
        · rw [if_neg hf] at h
          cases h
theorem hdA_may {l : List UInt8} {ps : List Pr} (h : hdA l = some ps) : (∀ p ∈ ps, hmay p = true) ∧ (hdW ps).length ≤ l.length + ps.length := hdA_all l.length l (Nat.le_refl _) h
end Go.Proofs.YtnfgpcccmbblcaaDoor
