/- Plain laws of lists put together again. -/
import Derived.Test.YtnfgpcccmbblcaaDoorAsWq
namespace Go.Proofs.YtnfgpcccmbblcaaDoor
open Go.RowKit

theorem cutG_app (c : UInt8) (r : List UInt8) : ∀ (l cur : List UInt8), cutG c cur (l ++ c :: r) = cutG c cur l ++ cutG c [] r := by
  intro l
  induction l with
  | nil => intro cur; simp [cutG]
  | cons b l ih =>
    intro cur
    simp only [List.cons_append, cutG]
    by_cases hb : b = c
    · rw [if_pos hb, if_pos hb, ih]
      rfl
    · rw [if_neg hb, if_neg hb, ih]
theorem lstG_app (p q : List (List UInt8)) : lstG (p ++ q) = lstG p ++ lstG q := by
  unfold lstG
  simp
theorem lstP_app (a b : List UInt8) : lstP (a ++ 44 :: b) = lstP a ++ lstP b := by
  show lstG (cutG 44 [] (a ++ 44 :: b)) = lstG (cutG 44 [] a) ++ lstG (cutG 44 [] b)
  rw [cutG_app, lstG_app]
theorem cutG_none (c : UInt8) : ∀ (l cur : List UInt8), l.contains c = false → cutG c cur l = [cur ++ l] := by
  intro l
  induction l with
  | nil => intro cur _; simp [cutG]
  | cons b l ih =>
    intro cur h
    rw [List.contains_cons, Bool.or_eq_false_iff] at h
    have hb : ¬ b = c := by
      intro e
      rw [e] at h
      simp at h
    simp only [cutG]
    rw [if_neg hb, ih _ h.2]
    simp
theorem lstP_one {l : List UInt8} (h : l.contains 44 = false) : lstP l = if (trm l).isEmpty then [] else [lowL (trm l)] := by
  show lstG (cutG 44 [] l) = _
  rw [cutG_none 44 l [] h, List.nil_append]
  unfold lstG
  simp only [List.map_cons, List.map_nil, List.filter_cons, List.filter_nil]
  cases h : (trm l).isEmpty <;> simp
theorem tokC_mark' : ∀ n : Fin 256, tokC (UInt8.ofNat n.val) = true → UInt8.ofNat n.val ≠ 44 ∧ blk (UInt8.ofNat n.val) = false := by decide +kernel
theorem tokC_mark {c : UInt8} (h : tokC c = true) : c ≠ 44 ∧ blk c = false := by
  have := tokC_mark' ⟨c.toNat, c.toNat_lt⟩
  simp only [u8_ofNat] at this
  exact this h
theorem tok_parts {x : List UInt8} (h : tok x = true) : x ≠ [] ∧ x.contains 44 = false ∧ ∀ c ∈ x, blk c = false := by
  unfold tok at h
  rw [Bool.and_eq_true, List.all_eq_true] at h
  refine ⟨?_, ?_, fun c hc => (tokC_mark (h.2 c hc)).2⟩
  · rintro rfl
    simp at h
  · cases hc : x.contains 44 with
    | false => rfl
    | true =>
      have hm : (44 : UInt8) ∈ x := by simpa using hc
      exact absurd rfl (tokC_mark (h.2 44 hm)).1
theorem dw_app {p q : List UInt8} (hp : p.all blk = true) : (p ++ q).dropWhile blk = q.dropWhile blk := by
  induction p with
  | nil => rfl
  | cons c p ih =>
    rw [List.all_cons, Bool.and_eq_true] at hp
    rw [List.cons_append, List.dropWhile_cons_of_pos hp.1]
    exact ih hp.2
theorem dw_stay {x q : List UInt8} (hx : x ≠ []) (h : ∀ c ∈ x, blk c = false) : (x ++ q).dropWhile blk = x ++ q := by
  cases x with
  | nil => exact absurd rfl hx
  | cons c x =>
    have := h c (List.mem_cons_self ..)
    rw [List.cons_append, List.dropWhile_cons_of_neg (by simp [this])]
theorem trm_word {p x q : List UInt8} (hp : p.all blk = true) (hq : q.all blk = true) (hx : x ≠ []) (h : ∀ c ∈ x, blk c = false) : trm (p ++ (x ++ q)) = x := by
  unfold trm
  rw [dw_app hp, dw_stay hx h, List.reverse_append, dw_app (by rw [List.all_reverse]; exact hq)]
  have h2 : x.reverse.dropWhile blk = x.reverse := by
    have := dw_stay (x := x.reverse) (q := []) (by simpa using hx) (fun c hc => h c (List.mem_reverse.1 hc))
    simpa using this
  rw [h2, List.reverse_reverse]
theorem blk_no {p : List UInt8} (h : p.all blk = true) : p.contains 44 = false := by
  cases hc : p.contains 44 with
  | false => rfl
  | true =>
    have hm : (44 : UInt8) ∈ p := by simpa using hc
    have := List.all_eq_true.1 h 44 hm
    exact absurd this (by decide)
theorem lstP_word {p x q : List UInt8} (hp : p.all blk = true) (hq : q.all blk = true) (ht : tok x = true) (hl : lowL x = x) : lstP (p ++ (x ++ q)) = [x] := by
  obtain ⟨h1, h2, h3⟩ := tok_parts ht
  have hc : (p ++ (x ++ q)).contains 44 = false := by
    cases hcc : (p ++ (x ++ q)).contains 44 with
    | false => rfl
    | true =>
      have hm : (44 : UInt8) ∈ p ++ (x ++ q) := by simpa using hcc
      rcases List.mem_append.1 hm with hm | hm
      · have := blk_no hp
        simp [hm] at this
      · rcases List.mem_append.1 hm with hm | hm
        · simp [hm] at h2
        · have := blk_no hq
          simp [hm] at this
  rw [lstP_one hc, trm_word hp hq h1 h3, hl]
  cases x with
  | nil => exact absurd rfl h1
  | cons c x => rfl
/-- What AsciiLists puts together, behind ' ,'. -/
def joi (xs : List (List UInt8)) : List UInt8 := (xs.map fun x => 9 :: (x ++ [32, 44, 32])).flatten
theorem joi_snoc (xs : List (List UInt8)) (x : List UInt8) : joi (xs ++ [x]) = joi xs ++ (9 :: (x ++ [32, 44, 32])) := by simp [joi]
theorem lstP_joi (xs : List (List UInt8)) : ∀ p : List UInt8, p.all blk = true → (∀ x ∈ xs, tok x = true ∧ lowL x = x) → lstP (p ++ joi xs) = xs := by
  induction xs with
  | nil =>
    intro p hp _
    have h : trm p = [] := by
      have h0 := dw_app (q := []) hp
      unfold trm
      rw [List.append_nil] at h0
      rw [h0]
      rfl
    show lstP (p ++ []) = []
    rw [List.append_nil, lstP_one (blk_no hp), h]
    rfl
  | cons x xs ih =>
    intro p hp hx
    have hj : p ++ joi (x :: xs) = ((p ++ [9]) ++ (x ++ [32])) ++ 44 :: ([32] ++ joi xs) := by simp [joi]
    obtain ⟨h1, h2⟩ := hx x (List.mem_cons_self ..)
    rw [hj, lstP_app, ih [32] rfl (fun y hy => hx y (List.mem_cons_of_mem _ hy)), lstP_word (by rw [List.all_append, hp]; rfl) rfl h1 h2]
    rfl
theorem lstP_all (xs : List (List UInt8)) (hx : ∀ x ∈ xs, tok x = true ∧ lowL x = x) : lstP ([32, 44] ++ joi xs) = xs := by
  have h : [32, 44] ++ joi xs = [32] ++ 44 :: ([] ++ joi xs) := rfl
  rw [h, lstP_app, lstP_joi xs [] rfl hx]
  rfl
theorem lst_ok {l : List UInt8} (h : lstE l = 0) : (lstP l).length ≤ 16 ∧ (∀ x ∈ lstP l, tok x = true ∧ lowL x = x) ∧ lstV l = lstP l := by
  have hv : lstV l = lstP l := by unfold lstV; rw [if_pos h]
  unfold lstE at h
  by_cases h16 : 16 < (lstP l).length
  · rw [if_pos h16] at h
    cases h
  · rw [if_neg h16] at h
    cases ha : (lstP l).all tok with
    | false => rw [ha] at h; cases h
    | true =>
      refine ⟨by omega, fun x hx => ⟨List.all_eq_true.1 ha x hx, ?_⟩, hv⟩
      unfold lstP at hx
      obtain ⟨y, _, rfl⟩ := List.mem_map.1 hx
      exact lowL_again y
theorem lst_of {l : List UInt8} {xs : List (List UInt8)} (h : lstP l = xs) (hn : xs.length ≤ 16) (hx : ∀ x ∈ xs, tok x = true) : lstE l = 0 ∧ lstV l = xs := by
  have he : lstE l = 0 := by
    unfold lstE
    rw [h, if_neg (by omega), List.all_eq_true.2 hx]
    rfl
  exact ⟨he, by unfold lstV; rw [if_pos he, h]⟩
theorem lst_many {l : List UInt8} (h : 16 < (lstP l).length) : lstE l = 4 ∧ lstV l = [] := by
  have he : lstE l = 4 := by unfold lstE; rw [if_pos h]
  exact ⟨he, by unfold lstV; rw [if_neg (by rw [he]; decide)]⟩
theorem lst_bad {l : List UInt8} (h : lstE l ≠ 0) : lstV l = [] := by unfold lstV; rw [if_neg h]
theorem joi_len (xs : List (List UInt8)) (b : Nat) (h : ∀ x ∈ xs, x.length ≤ b) : (joi xs).length ≤ xs.length * (b + 4) := by
  induction xs with
  | nil => simp [joi]
  | cons x xs ih =>
    have h1 := h x (List.mem_cons_self ..)
    have h2 := ih fun y hy => h y (List.mem_cons_of_mem _ hy)
    have h3 : (joi (x :: xs)).length = x.length + 4 + (joi xs).length := by
      simp [joi]
      omega
    rw [h3, List.length_cons, Nat.add_mul]
    omega
end Go.Proofs.YtnfgpcccmbblcaaDoor
