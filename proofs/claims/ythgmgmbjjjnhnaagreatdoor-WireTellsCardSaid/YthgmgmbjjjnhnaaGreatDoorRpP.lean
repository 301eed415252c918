/- Replies: the plain laws. -/
import Derived.Test.YthgmgmbjjjnhnaaGreatDoorGg
import Derived.Test.YthgmgmbjjjnhnaaGreatDoorGh
import Derived.Test.YthgmgmbjjjnhnaaGreatDoorGe
import Derived.Test.YthgmgmbjjjnhnaaGreatDoorGi
namespace Go.Proofs.YthgmgmbjjjnhnaaGreatDoor
open Go.RowKit

def sep4 : List UInt8 := [13, 10, 13, 10]
theorem sep_no {c : UInt8} {l : List UInt8} (h : c ≠ 13) : sep4.isPrefixOf (c :: l) = false := by
  have h' : ((13 : UInt8) == c) = false := by rw [beq_eq_false_iff_ne]; exact h.symm
  simp [sep4, List.isPrefixOf, h']
theorem sep_no3 {c : UInt8} {l : List UInt8} (h : c ≠ 13) : sep4.isPrefixOf (13 :: 10 :: c :: l) = false := by
  have h' : ((13 : UInt8) == c) = false := by rw [beq_eq_false_iff_ne]; exact h.symm
  simp [sep4, List.isPrefixOf, h']
theorem idx_cons {c : UInt8} {l : List UInt8} {n : Nat} (h : sep4.isPrefixOf (c :: l) = false) (hn : Lib.index l sep4 = (n : Int)) : Lib.index (c :: l) sep4 = ((n + 1 : Nat) : Int) := by
  have hne : (((n : Nat) : Int) == -1) = false := by
    rw [beq_eq_false_iff_ne]
    omega
  rw [Lib.index, h, hn, hne]
  simp
theorem idx_app {x y : List UInt8} {n : Nat} (hx : ∀ c ∈ x, c ≠ 13) (hn : Lib.index y sep4 = (n : Int)) : Lib.index (x ++ y) sep4 = ((x.length + n : Nat) : Int) := by
  induction x with
  | nil => simpa using hn
  | cons c x ih =>
    have := idx_cons (l := x ++ y) (sep_no (hx c (List.mem_cons_self ..))) (ih fun d hd => hx d (List.mem_cons_of_mem _ hd))
    rw [List.cons_append, this, List.length_cons]
    congr 1
    omega
theorem idx_line {x : List UInt8} {c : UInt8} {r : List UInt8} {n : Nat} (hx : ∀ d ∈ x, d ≠ 13) (hc : c ≠ 13) (hn : Lib.index (c :: r) sep4 = (n : Int)) : Lib.index (x ++ 13 :: 10 :: c :: r) sep4 = ((x.length + 2 + n : Nat) : Int) := by
  have h1 := idx_cons (c := 10) (l := c :: r) (sep_no (by decide)) hn
  have h2 := idx_cons (c := 13) (l := 10 :: c :: r) (sep_no3 hc) h1
  rw [idx_app hx h2]
  congr 1
  omega
theorem idx_end {x r : List UInt8} (hx : ∀ d ∈ x, d ≠ 13) : Lib.index (x ++ 13 :: 10 :: 13 :: 10 :: r) sep4 = ((x.length : Nat) : Int) := by
  have h : Lib.index (13 :: 10 :: 13 :: 10 :: r) sep4 = ((0 : Nat) : Int) := by
    rw [Lib.index]
    simp [sep4, List.isPrefixOf]
  rw [idx_app hx h]
  simp
def hdK (p : Pr) : List UInt8 := p.1 ++ 58 :: 32 :: p.2
theorem hdL_K (p : Pr) : hdL p = hdK p ++ [13, 10] := by simp [hdL, hdK]
theorem hdK_ok {p : Pr} (h : hmay p = true) : (∀ c ∈ hdK p, c ≠ 13) ∧ ∃ c r, hdK p = c :: r ∧ c ≠ 13 := by
  obtain ⟨h1, _, h3, _⟩ := hmay_parts h
  have hall : ∀ c ∈ hdK p, c ≠ 13 := by
    intro c hc
    unfold hdK at hc
    rcases List.mem_append.1 hc with hc | hc
    · exact (tok_no h1 c hc).1
    · rcases List.mem_cons.1 hc with rfl | hc
      · decide
      · rcases List.mem_cons.1 hc with rfl | hc
        · decide
        · exact (pln_no h3 c hc).1
  refine ⟨hall, ?_⟩
  cases hp : hdK p with
  | nil => simp [hdK] at hp
  | cons c r => exact ⟨c, r, rfl, hall c (by rw [hp]; exact List.mem_cons_self ..)⟩
theorem idx_hdW (rest : List UInt8) : ∀ {F : List Pr}, F ≠ [] → (∀ p ∈ F, hmay p = true) → Lib.index (hdW F ++ 13 :: 10 :: rest) sep4 = (((hdW F).length - 2 : Nat) : Int) ∧ ∃ c r, hdW F ++ 13 :: 10 :: rest = c :: r ∧ c ≠ 13
  | [], h, _ => absurd rfl h
  | [p], _, h => by
    obtain ⟨h1, c, r, h2, h3⟩ := hdK_ok (h p (List.mem_cons_self ..))
    have e : hdW [p] ++ 13 :: 10 :: rest = hdK p ++ 13 :: 10 :: 13 :: 10 :: rest := by simp [hdW, hdL_K]
    rw [e]
    refine ⟨?_, c, r ++ 13 :: 10 :: 13 :: 10 :: rest, by rw [h2]; rfl, h3⟩
    rw [idx_end h1]
    congr 1
    simp [hdW, hdL_K]
  | p :: q :: F, _, h => by
    obtain ⟨h1, c, r, h2, h3⟩ := hdK_ok (h p (List.mem_cons_self ..))
    obtain ⟨i1, c2, r2, i2, i3⟩ := idx_hdW rest (F := q :: F) (by simp) (fun x hx => h x (List.mem_cons_of_mem _ hx))
    have e : hdW (p :: q :: F) ++ 13 :: 10 :: rest = hdK p ++ 13 :: 10 :: (hdW (q :: F) ++ 13 :: 10 :: rest) := by rw [hdW_cons, hdL_K]; simp
    rw [e]
    refine ⟨?_, c, r ++ 13 :: 10 :: (hdW (q :: F) ++ 13 :: 10 :: rest), by rw [h2]; rfl, h3⟩
    rw [i2] at i1 ⊢
    rw [idx_line h1 i3 i1]
    congr 1
    rw [hdW_cons p, List.length_append, hdL_K, List.length_append]
    have : 2 ≤ (hdW (q :: F)).length := by
      rw [hdW_cons, List.length_append, hdL_K, List.length_append]
      simp only [List.length_cons, List.length_nil]
      omega
    simp only [List.length_cons, List.length_nil]
    omega
theorem hdW_end {F : List Pr} (h : F ≠ []) : ∃ z, hdW F = z ++ [13, 10] := by
  obtain ⟨G, p, rfl⟩ : ∃ G p, F = G ++ [p] := ⟨F.dropLast, F.getLast h, (List.dropLast_concat_getLast h).symm⟩
  exact ⟨hdW G ++ hdK p, by rw [hdW_snoc, hdL_K]; simp⟩
/-- The two cuts of a reply's text. -/
theorem rp_cut {A rest z : List UInt8} {F : List Pr} (hA : ∀ c ∈ A, c ≠ 13) (h0 : F ≠ []) (hF : ∀ p ∈ F, hmay p = true) (hz : hdW F = z ++ [13, 10]) :
    Lib.cut (A ++ 13 :: 10 :: (hdW F ++ 13 :: 10 :: rest)) sep4 = (A ++ 13 :: 10 :: z, rest, true) := by
  obtain ⟨i1, c, r, i2, i3⟩ := idx_hdW rest h0 hF
  have hi : Lib.index (A ++ 13 :: 10 :: (hdW F ++ 13 :: 10 :: rest)) sep4 = ((A.length + 2 + z.length : Nat) : Int) := by
    rw [i2] at i1 ⊢
    rw [idx_line hA i3 i1, hz]
    congr 1
    simp
  unfold Lib.cut
  rw [hi, if_pos (by omega)]
  have e : A ++ 13 :: 10 :: (hdW F ++ 13 :: 10 :: rest) = (A ++ 13 :: 10 :: z) ++ (sep4 ++ rest) := by rw [hz]; simp [sep4]
  rw [e, Int.toNat_natCast]
  have hl : A.length + 2 + z.length = (A ++ 13 :: 10 :: z).length := by simp; omega
  rw [hl, List.take_left, List.drop_append, List.drop_eq_nil_of_le (by omega)]
  simp [sep4]
/-! ### What a reply is -/
def ctype : Pr := ([99, 111, 110, 116, 101, 110, 116, 45, 116, 121, 112, 101], [116, 101, 120, 116, 47, 120, 109, 108, 59, 32, 99, 104, 97, 114, 115, 101, 116, 61, 117, 116, 102, 45, 56])
def clen (n : Nat) : Pr := (clL, Lib.decDigits n)
def cclose : Pr := (conL, cloL)
def rpF (st : Int) (b : List UInt8) (k : Bool) : List Pr := (if st = 200 then [ctype] else []) ++ clen b.length :: (if k = true then [] else [cclose])
def rpMay (st : Int) (b : List UInt8) (k : Bool) : Bool := if st = 200 then decide (b.length ≤ 16384) else (!decide (stN st = []) && (decide (b = []) && !k))
def rpT (st : Int) (b : List UInt8) (k : Bool) : List UInt8 := stT st ++ (hdW (rpF st b k) ++ 13 :: 10 :: b)
def codes : List Int := [200, 400, 403, 404, 405, 413, 505]
theorem trm_digs {l : List UInt8} (h : l.all isDig = true) (h0 : l ≠ []) : trm l = l := by
  have hb : ∀ c ∈ l, blk c = false := fun c hc => by
    have h1 := List.all_eq_true.1 h c hc
    unfold isDig at h1
    simp only [Bool.and_eq_true, decide_eq_true_eq] at h1
    unfold blk
    rw [Bool.or_eq_false_iff, beq_eq_false_iff_ne, beq_eq_false_iff_ne]
    constructor
    · rintro rfl
      exact absurd h1.1 (by decide)
    · rintro rfl
      exact absurd h1.1 (by decide)
  have := trm_word (p := []) (q := []) (x := l) rfl rfl h0 hb
  simpa using this
theorem pln_digs {l : List UInt8} (h : l.all isDig = true) : pln l = true := by
  unfold pln
  rw [List.all_eq_true] at h ⊢
  intro c hc
  have h1 := h c hc
  unfold isDig at h1
  simp only [Bool.and_eq_true, decide_eq_true_eq] at h1
  unfold plnC
  have e1 : (c == 9) = false := by
    rw [beq_eq_false_iff_ne]
    rintro rfl
    exact absurd h1.1 (by decide)
  have e2 : (c == 127) = false := by
    rw [beq_eq_false_iff_ne]
    rintro rfl
    exact absurd h1.2 (by decide)
  have e3 : decide (c.toNat < 32) = false := decide_eq_false (by omega)
  rw [e1, e2, e3]
  rfl
theorem clen_may (n : Nat) : hmay (clen n) = true :=
  hmay_of (p := clen n) (by show tok clL = true; decide +kernel) (by show lowL clL = clL; decide +kernel) (pln_digs (all_dec n)) (trm_digs (all_dec n) (decDigits_ne n))
theorem ctype_may : hmay ctype = true := by decide +kernel
theorem cclose_may : hmay cclose = true := by decide +kernel
theorem rpF_may (st : Int) (b : List UInt8) (k : Bool) : (∀ p ∈ rpF st b k, hmay p = true) ∧ rpF st b k ≠ [] ∧ (rpF st b k).length ≤ 3 := by
  unfold rpF
  have h1 := clen_may b.length
  by_cases hs : st = 200 <;> cases k <;> simp [hs, h1, ctype_may, cclose_may]
theorem rpF_wr (st : Int) (b : List UInt8) (k : Bool) : wrE (rpF st b k) = 0 ∧ wrS (rpF st b k) = hdW (rpF st b k) := by
  obtain ⟨h1, _, h3⟩ := rpF_may st b k
  exact wrE_of (List.all_eq_true.2 h1) (by omega)
theorem low_clL : lowL clL = clL := by decide +kernel
theorem fnd_cons (p : Pr) (ps : List Pr) (n : List UInt8) : fndV (p :: ps) n = (if decide (lowL p.1 = lowL n) = true then p.2 :: fndV ps n else fndV ps n) := rfl
theorem rpF_len (st : Int) (b : List UInt8) (k : Bool) : fndV (rpF st b k) clL = [Lib.decDigits b.length] := by
  unfold rpF
  have e1 : decide (lowL ctype.1 = lowL clL) = false := by decide +kernel
  have e2 : decide (lowL (clen b.length).1 = lowL clL) = true := by show decide (lowL clL = lowL clL) = true; decide +kernel
  have e3 : decide (lowL cclose.1 = lowL clL) = false := by decide +kernel
  by_cases hs : st = 200 <;> cases k <;> simp [hs, fnd_cons, fndV, e1, e2, e3] <;> rfl
theorem rpF_con (st : Int) (b : List UInt8) (k : Bool) : fndV (rpF st b k) conL = if k = true then [] else [cloL] := by
  unfold rpF
  have e1 : decide (lowL ctype.1 = lowL conL) = false := by decide +kernel
  have e2 : decide (lowL (clen b.length).1 = lowL conL) = false := by show decide (lowL clL = lowL conL) = false; decide +kernel
  have e3 : decide (lowL cclose.1 = lowL conL) = true := by decide +kernel
  by_cases hs : st = 200 <;> cases k <;> simp [hs, fnd_cons, fndV, e1, e2, e3] <;> rfl
theorem rpF_keep (st : Int) (b : List UInt8) (k : Bool) : kep (rpF st b k) = (k, 0) := by
  unfold kep
  rw [rpF_con]
  cases k <;> decide +kernel
/-- What a text may begin with, and what it does begin with. -/
def rpG (s : List UInt8) : Option (Int × List UInt8 × Bool) :=
  let x := Lib.cut s sep4
  let f := cutX x.1
  let o := lnR x.1 ++ [13, 10]
  let l := hdV o
  match codes.find? (fun c => decide (stT c = f ++ [13, 10])) with
  | none => none
  | some c =>
    if x.2.2 = true ∧ hdE o = 0 ∧ (oneX (fndV l clL)).2.1 = true ∧ (kep l).2 = 0 ∧ rdE (oneX (fndV l clL)).1 = 0 ∧ rdN (oneX (fndV l clL)).1 ≤ (x.2.1.length : Int)
    then some (c, x.2.1.take (rdN (oneX (fndV l clL)).1).toNat, (kep l).1) else none
def rpR (s : List UInt8) : Option (Int × List UInt8 × Bool) :=
  match rpG s with
  | none => none
  | some (c, b, k) => if rpMay c b k = true ∧ (rpT c b k).isPrefixOf s = true then some (c, b, k) else none
theorem rpMay_code {st : Int} {b : List UInt8} {k : Bool} (h : rpMay st b k = true) : st ∈ codes := by
  unfold rpMay at h
  by_cases hs : st = 200
  · rw [hs]; decide
  · rw [if_neg hs] at h
    simp only [Bool.and_eq_true, Bool.not_eq_true', decide_eq_false_iff_not] at h
    have h1 := h.1
    by_cases h4 : st ∈ codes
    · exact h4
    · exfalso
      apply h1
      unfold codes at h4
      simp only [List.mem_cons, List.not_mem_nil, or_false, not_or] at h4
      obtain ⟨a1, a2, a3, a4, a5, a6, a7⟩ := h4
      unfold stN
      simp [a1, a2, a3, a4, a5, a6, a7]
def stA (n : Int) : List UInt8 := [72, 84, 84, 80, 47, 49, 46, 49, 32] ++ (Lib.decDigits n.toNat ++ ([32] ++ stN n))
theorem stT_A (n : Int) : stT n = stA n ++ [13, 10] := by simp [stT, stA]
theorem stA_13 {n : Int} (h : n ∈ codes) : ∀ c ∈ stA n, c ≠ 13 := by
  unfold codes at h
  simp only [List.mem_cons, List.not_mem_nil, or_false] at h
  rcases h with rfl | rfl | rfl | rfl | rfl | rfl | rfl <;> decide +kernel
theorem find_code {n : Int} (h : n ∈ codes) : codes.find? (fun c => decide (stT c = stA n ++ [13, 10])) = some n := by
  rw [← stT_A]
  unfold codes at h
  simp only [List.mem_cons, List.not_mem_nil, or_false] at h
  rcases h with rfl | rfl | rfl | rfl | rfl | rfl | rfl <;> decide +kernel
theorem rpF_size {st : Int} {b : List UInt8} {k : Bool} (hb : b.length ≤ 9007199254740991) : (hdW (rpF st b k)).length ≤ 100 := by
  have hd := len_dec hb
  have e1 : (hdL ctype).length = 39 := by decide +kernel
  have e3 : (hdL cclose).length = 19 := by decide +kernel
  have e2 : (hdL (clen b.length)).length = 14 + (Lib.decDigits b.length).length + 4 := by rw [hdL_len]; rfl
  unfold rpF
  by_cases hs : st = 200 <;> cases k <;> simp [hs, hdW, e1, e2, e3] <;> omega
/-- What is written is read, whatever stands behind. -/
theorem rp_back {st : Int} {b : List UInt8} {k : Bool} (h : rpMay st b k = true) (hb : b.length ≤ 9007199254740991) (more : List UInt8) : rpR (rpT st b k ++ more) = some (st, b, k) := by
  have hc := rpMay_code h
  obtain ⟨m1, m2, m3⟩ := rpF_may st b k
  obtain ⟨z, hz⟩ := hdW_end m2
  have hA := stA_13 hc
  have e0 : rpT st b k ++ more = stA st ++ 13 :: 10 :: (hdW (rpF st b k) ++ 13 :: 10 :: (b ++ more)) := by
    unfold rpT
    rw [stT_A]
    simp
  have hcut := rp_cut (rest := b ++ more) hA m2 m1 hz
  have hcr : crA (stA st ++ 13 :: 10 :: z) = some (stA st, z) := crA_of _ _ hA
  have hX : cutX (stA st ++ 13 :: 10 :: z) = stA st := by unfold cutX; rw [hcr]
  have hR : lnR (stA st ++ 13 :: 10 :: z) = z := by unfold lnR; rw [hcr]
  obtain ⟨h1, h2⟩ := hdE_of (by have := rpF_size (st := st) (k := k) hb; omega) (hdA_W (rpF st b k) m1) (by omega)
  have hr := rd_good (numOk_dec hb)
  have hg : rpG (rpT st b k ++ more) = some (st, b, k) := by
    unfold rpG
    rw [e0, hcut]
    simp only [hX, hR]
    rw [find_code hc, ← hz, h1, h2, rpF_len, rpF_keep]
    simp only [oneX]
    rw [hr.1, hr.2, valOf_dec]
    rw [if_pos (by simp; omega)]
    simp
  unfold rpR
  rw [hg]
  simp only
  rw [if_pos ⟨h, by simp [List.isPrefixOf_iff_prefix]⟩]
theorem rp_some {s b : List UInt8} {st : Int} {k : Bool} (h : rpR s = some (st, b, k)) : rpMay st b k = true ∧ ∃ more, s = rpT st b k ++ more := by
  unfold rpR at h
  cases hg : rpG s with
  | none => rw [hg] at h; cases h
  | some x =>
    obtain ⟨c, b2, k2⟩ := x
    rw [hg] at h
    simp only at h
    split at h
    · rename_i h2
      injection h with h
      injection h with e1 h
      injection h with e2 e3
      subst e1 e2 e3
      obtain ⟨t, ht⟩ := List.isPrefixOf_iff_prefix.1 h2.2
      exact ⟨h2.1, t, ht.symm⟩
    · cases h
theorem rpT_size {st : Int} {b : List UInt8} {k : Bool} (hc : st ∈ codes) (hb : b.length ≤ 9007199254740991) : (rpT st b k).length ≤ 200 + b.length ∧ 1 ≤ (rpT st b k).length := by
  have h1 := rpF_size (st := st) (k := k) hb
  have h2 : (stT st).length ≤ 50 ∧ 1 ≤ (stT st).length := by
    unfold codes at hc
    simp only [List.mem_cons, List.not_mem_nil, or_false] at hc
    rcases hc with rfl | rfl | rfl | rfl | rfl | rfl | rfl <;> decide +kernel
  unfold rpT
  rw [List.length_append, List.length_append, List.length_cons, List.length_cons]
  omega
/-- No text of one is the beginning of another one's. -/
theorem rp_free {s1 s2 : Int} {b1 b2 : List UInt8} {k1 k2 : Bool} (h1 : rpMay s1 b1 k1 = true) (h2 : rpMay s2 b2 k2 = true) (z1 : b1.length ≤ 9007199254740991) (z2 : b2.length ≤ 9007199254740991) (hp : rpT s1 b1 k1 <+: rpT s2 b2 k2) : (s1, b1, k1) = (s2, b2, k2) := by
  obtain ⟨t, ht⟩ := hp
  have e1 := rp_back h1 z1 t
  have e2 := rp_back h2 z2 []
  rw [ht] at e1
  rw [List.append_nil, e1] at e2
  injection e2
end Go.Proofs.YthgmgmbjjjnhnaaGreatDoor
