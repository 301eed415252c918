/- Plain laws of small letters and of what is trimmed. -/
import Derived.Test.YtnfgpcccmbblcaaDoorAsJ
namespace Go.Proofs.YtnfgpcccmbblcaaDoor
open Go.RowKit

theorem loB_again' : ∀ n : Fin 256, loB (loB (UInt8.ofNat n.val)) = loB (UInt8.ofNat n.val) := by decide +kernel
theorem u8_ofNat (c : UInt8) : UInt8.ofNat c.toNat = c := by simp
theorem loB_again (c : UInt8) : loB (loB c) = loB c := by
  have := loB_again' ⟨c.toNat, c.toNat_lt⟩
  simpa using this
theorem lowL_again (l : List UInt8) : lowL (lowL l) = lowL l := by
  unfold lowL
  rw [List.map_map]
  exact List.map_congr_left fun c _ => loB_again c
theorem tokC_lo' : ∀ n : Fin 256, tokC (loB (UInt8.ofNat n.val)) = tokC (UInt8.ofNat n.val) := by decide +kernel
theorem tokC_lo (c : UInt8) : tokC (loB c) = tokC c := by
  have := tokC_lo' ⟨c.toNat, c.toNat_lt⟩
  simpa using this
theorem tok_low (l : List UInt8) : tok (lowL l) = tok l := by
  unfold tok lowL
  rw [List.all_map]
  congr 1
  · cases l <;> rfl
  · congr 1
    funext c
    exact tokC_lo c
theorem blk_plain' : ∀ n : Fin 256, blk (UInt8.ofNat n.val) = true → plnC (UInt8.ofNat n.val) = true := by decide +kernel
theorem blk_plain {c : UInt8} (h : blk c = true) : plnC c = true := by
  have := blk_plain' ⟨c.toNat, c.toNat_lt⟩
  simp only [u8_ofNat] at this
  exact this h
theorem drop_split (p : UInt8 → Bool) (l : List UInt8) : l = l.takeWhile p ++ l.dropWhile p := (List.takeWhile_append_dropWhile).symm
theorem tw_all (p : UInt8 → Bool) (l : List UInt8) : (l.takeWhile p).all p = true := by
  rw [List.all_eq_true]
  intro x hx
  induction l with
  | nil => cases hx
  | cons c l ih =>
    by_cases hc : p c = true
    · rw [List.takeWhile_cons_of_pos hc] at hx
      rcases List.mem_cons.1 hx with rfl | hx
      · exact hc
      · exact ih hx
    · rw [List.takeWhile_cons_of_neg hc] at hx
      cases hx
/-- What is trimmed stands in the text between blanks. -/
theorem trm_split (l : List UInt8) : ∃ p q, l = p ++ trm l ++ q ∧ p.all blk = true ∧ q.all blk = true := by
  refine ⟨l.takeWhile blk, ((l.dropWhile blk).reverse.takeWhile blk).reverse, ?_, tw_all _ _, ?_⟩
  · have h1 := drop_split blk (l.dropWhile blk).reverse
    have h2 := congrArg List.reverse h1
    rw [List.reverse_reverse, List.reverse_append] at h2
    unfold trm
    rw [List.append_assoc, ← h2]
    exact drop_split blk l
  · rw [List.all_reverse]
    exact tw_all _ _
theorem dw_head (p : UInt8 → Bool) (l : List UInt8) : l.dropWhile p = [] ∨ ∃ c r, l.dropWhile p = c :: r ∧ p c = false := by
  induction l with
  | nil => exact .inl rfl
  | cons c l ih =>
    by_cases hc : p c = true
    · rw [List.dropWhile_cons_of_pos hc]
      exact ih
    · rw [List.dropWhile_cons_of_neg hc]
      exact .inr ⟨c, l, rfl, by simpa using hc⟩
/-- .. and begins and ends with none. -/
theorem trm_last (l : List UInt8) : trm l = [] ∨ ∃ r c, trm l = r ++ [c] ∧ blk c = false := by
  rcases dw_head blk (l.dropWhile blk).reverse with h | ⟨c, r, h, hc⟩
  · left
    unfold trm
    rw [h]
    rfl
  · right
    refine ⟨r.reverse, c, ?_, hc⟩
    unfold trm
    rw [h, List.reverse_cons]
theorem trm_head (l : List UInt8) : trm l = [] ∨ ∃ c r, trm l = c :: r ∧ blk c = false := by
  rw [trm_comm]
  exact dw_head blk _
theorem trm_again (l : List UInt8) : trm (trm l) = trm l := by
  rcases trm_head l with h | ⟨c, r, h, hc⟩
  · rw [h]
    rfl
  · rcases trm_last l with h2 | ⟨r2, c2, h2, hc2⟩
    · rw [h2]
      rfl
    · have h3 : trm (trm l) = trmR (trm l) := by rw [h]; exact trm_eq hc
      rw [h3, h2]
      exact trmR_stop hc2
theorem pln_trm (l : List UInt8) : pln (trm l) = pln l := by
  obtain ⟨p, q, h, hp, hq⟩ := trm_split l
  have e : ∀ p : List UInt8, p.all blk = true → p.all plnC = true := by
    intro p hp
    rw [List.all_eq_true] at hp ⊢
    exact fun x hx => blk_plain (hp x hx)
  unfold pln
  conv => rhs; rw [h]
  rw [List.all_append, List.all_append, e p hp, e q hq, Bool.true_and, Bool.and_true]
/-- A place at which b stands in l between blanks. -/
def plc (l b : List UInt8) (j : Nat) : Bool := decide ((l.drop j).take b.length = b) && ((l.take j).all blk && (l.drop (j + b.length)).all blk)
theorem plc_some (l : List UInt8) (n m : Nat) (hn : l.length = n) (hm : (trm l).length = m) : (List.range (n - m + 1)).any (plc l (trm l)) = true := by
  obtain ⟨p, q, h, hp, hq⟩ := trm_split l
  obtain ⟨b, hb⟩ : ∃ b, trm l = b := ⟨_, rfl⟩
  rw [hb] at h hm ⊢
  rw [List.any_eq_true]
  have hl := congrArg List.length h
  simp only [List.length_append] at hl
  refine ⟨p.length, List.mem_range.2 (by omega), ?_⟩
  unfold plc
  have h1 : l.drop p.length = b ++ q := by rw [h, List.append_assoc, List.drop_left]
  have h2 : l.take p.length = p := by rw [h, List.append_assoc, List.take_left]
  have h3 : l.drop (p.length + b.length) = q := by rw [← List.drop_drop, h1, List.drop_left]
  rw [h1, h2, h3, List.take_left, hp, hq]
  simp
end Go.Proofs.YtnfgpcccmbblcaaDoor
