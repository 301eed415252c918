/- The machine at a chunk's beginning, in the cases of the document's Decode. No program in sight. -/
import Derived.Test.YtcmbmbkglglljaaDoorChR
namespace Go.Proofs.YtcmbmbkglglljaaDoor
open Go.RowKit
variable {sz mn k : Nat} {body L : List UInt8}
theorem dc1 (h : ([48, 13, 10, 13, 10] : List UInt8) <+: L) : ((CM.at0 sz mn body).run k L).tell = (body, k + 5, true, 0) := by
  obtain ⟨r, rfl⟩ := h
  show ((CM.at0 sz mn body).run k (48 :: 13 :: 10 :: 13 :: 10 :: r)).tell = _
  rw [at0_last]
  rfl
theorem dc2 (c1 : ¬ ([48, 13, 10, 13, 10] : List UInt8) <+: L) (h : L <+: ([48, 13, 10, 13, 10] : List UInt8)) : ((CM.at0 sz mn body).run k L).tell = ([], 0, false, 0) := by
  match L, c1, h with
  | [], _, _ => rfl
  | c :: l, c1, h =>
    obtain rfl : c = 48 := (List.cons_prefix_cons.1 h).1
    obtain ⟨m, hm⟩ := (at0_zero (sz := sz) (mn := mn) (n := k) (body := body) l c1).1 h
    rw [hm]
    rfl
theorem dc3 (c1 : ¬ ([48, 13, 10, 13, 10] : List UInt8) <+: L) (c2 : ¬ L <+: ([48, 13, 10, 13, 10] : List UInt8)) (h : (szOf L).2 = 0) : ((CM.at0 sz mn body).run k L).tell = ([], 0, false, 160) := by
  match L, c1, c2, h with
  | [], _, c2, _ => exact absurd (List.nil_prefix) c2
  | c :: l, c1, c2, h =>
    by_cases hc : c = 48
    · subst hc
      rw [(at0_zero (sz := sz) (mn := mn) (n := k) (body := body) l c1).2 c2]
      rfl
    · rcases szOf_none h with h | h
      · exact absurd h hc
      · rw [at0_none hc h]
        rfl
theorem dc4a (h : (szOf L).2 ≠ 0) (hl : L.drop (szOf L).2 = []) : ((CM.at0 sz mn body).run k L).tell = ([], 0, false, 0) := by
  rw [at0_digits h, hl]
  rfl
theorem dc4b (h : (szOf L).2 ≠ 0) (hl : L.drop (szOf L).2 = [13]) : ((CM.at0 sz mn body).run k L).tell = ([], 0, false, 0) := by
  rw [at0_digits h, hl]
  obtain ⟨m, hm⟩ := dig_wait1 (n := (szOf L).1) (k := (szOf L).2) (at' := k + (szOf L).2) (body := body) (by omega)
  rw [hm]
  rfl
theorem dc5 (h : (szOf L).2 ≠ 0) (h1 : L.drop (szOf L).2 ≠ []) (h2 : L.drop (szOf L).2 ≠ [13]) (h3 : ¬ ([13, 10] : List UInt8) <+: L.drop (szOf L).2) : ((CM.at0 sz mn body).run k L).tell = ([], 0, false, 160) := by
  rw [at0_digits h]
  have hs := fun c r => szOf_stop h (c := c) (r := r)
  generalize L.drop (szOf L).2 = q at *
  match q, h1, h2, h3, hs with
  | c :: r, _, h2, h3, hs =>
    rw [dig_bad (by omega) (hs c r rfl) ?_ h3]
    · rfl
    · by_cases hr : r = []
      · right
        intro e
        exact h2 (by rw [hr, e])
      · exact .inl hr
theorem drop_two {n : Nat} (h : ([13, 10] : List UInt8) <+: L.drop n) : L.drop n = 13 :: 10 :: L.drop (n + 2) := by
  obtain ⟨r, hr⟩ := h
  have : L.drop (n + 2) = r := by
    rw [← List.drop_drop, ← hr]
    rfl
  rw [this, ← hr]
  rfl
theorem dc6 (h : (szOf L).2 ≠ 0) (h3 : ([13, 10] : List UInt8) <+: L.drop (szOf L).2) (hm : 8192 < body.length + (szOf L).1) : ((CM.at0 sz mn body).run k L).tell = ([], 0, false, 4) := by
  rw [at0_digits h, drop_two h3, dig_many (by omega) hm]
  rfl
theorem dcs (h : (szOf L).2 ≠ 0) (h3 : ([13, 10] : List UInt8) <+: L.drop (szOf L).2) (hm : ¬ 8192 < body.length + (szOf L).1) :
    (CM.at0 sz mn body).run k L = (⟨3, (szOf L).1, (szOf L).2, 0, body⟩ : CM).run (k + (szOf L).2 + 2) (L.drop ((szOf L).2 + 2)) := by
  rw [at0_digits h, drop_two h3, dig_end (by omega) hm]
theorem dc7a (h : (szOf L).2 ≠ 0) (h3 : ([13, 10] : List UInt8) <+: L.drop (szOf L).2) (hm : ¬ 8192 < body.length + (szOf L).1) (hd : (L.drop ((szOf L).2 + 2)).length ≤ (szOf L).1) : ((CM.at0 sz mn body).run k L).tell = ([], 0, false, 0) := by
  rw [dcs h h3 hm]
  obtain ⟨m, hm⟩ := data_wait (n := (szOf L).1) (k := (szOf L).2) (at' := k + (szOf L).2 + 2) (body := body) hd
  rw [hm]
  rfl
theorem dc7b (h : (szOf L).2 ≠ 0) (h3 : ([13, 10] : List UInt8) <+: L.drop (szOf L).2) (hm : ¬ 8192 < body.length + (szOf L).1) (hd : ¬ (L.drop ((szOf L).2 + 2)).length ≤ (szOf L).1)
    (hp : (L.drop ((szOf L).2 + 2)).drop (szOf L).1 <+: ([13, 10] : List UInt8)) (hl : (L.drop ((szOf L).2 + 2)).length < (szOf L).1 + 2) : ((CM.at0 sz mn body).run k L).tell = ([], 0, false, 0) := by
  rw [dcs h h3 hm, data_run (by omega)]
  have hq : ((L.drop ((szOf L).2 + 2)).drop (szOf L).1).length = 1 := by rw [List.length_drop]; omega
  generalize (L.drop ((szOf L).2 + 2)).drop (szOf L).1 = q at *
  match q, hq, hp with
  | [c], _, hp =>
    obtain rfl : c = 13 := (List.cons_prefix_cons.1 hp).1
    obtain ⟨m, hm⟩ := tail_wait (k := (szOf L).2) (at' := k + (szOf L).2 + 2 + (szOf L).1) (body := body ++ List.take (szOf L).1 (List.drop ((szOf L).2 + 2) L))
    rw [hm]
    rfl
theorem dc8 (h : (szOf L).2 ≠ 0) (h3 : ([13, 10] : List UInt8) <+: L.drop (szOf L).2) (hm : ¬ 8192 < body.length + (szOf L).1) (hd : ¬ (L.drop ((szOf L).2 + 2)).length ≤ (szOf L).1)
    (hw : ¬ ((L.drop ((szOf L).2 + 2)).drop (szOf L).1 <+: ([13, 10] : List UInt8) ∧ (L.drop ((szOf L).2 + 2)).length < (szOf L).1 + 2)) (hp : ¬ ([13, 10] : List UInt8) <+: (L.drop ((szOf L).2 + 2)).drop (szOf L).1) : ((CM.at0 sz mn body).run k L).tell = ([], 0, false, 160) := by
  rw [dcs h h3 hm, data_run (by omega)]
  have hq : ((L.drop ((szOf L).2 + 2)).drop (szOf L).1).length = (L.drop ((szOf L).2 + 2)).length - (szOf L).1 := by rw [List.length_drop]
  generalize (L.drop ((szOf L).2 + 2)).drop (szOf L).1 = q at *
  match q, hq, hp, hw with
  | [], hq, _, _ => simp only [List.length_nil] at hq; omega
  | c :: r, hq, hp, hw =>
    rw [tail_bad ?_ hp]
    · rfl
    · by_cases hr : r = []
      · right
        intro e
        subst hr
        subst e
        simp only [List.length_cons, List.length_nil] at hq
        exact hw ⟨by simp, by omega⟩
      · exact .inl hr
theorem dc9 (h : (szOf L).2 ≠ 0) (h3 : ([13, 10] : List UInt8) <+: L.drop (szOf L).2) (hm : ¬ 8192 < body.length + (szOf L).1) (hd : ¬ (L.drop ((szOf L).2 + 2)).length ≤ (szOf L).1)
    (hp : ([13, 10] : List UInt8) <+: (L.drop ((szOf L).2 + 2)).drop (szOf L).1) :
    (CM.at0 sz mn body).run k L = (CM.at0 0 (szOf L).2 (body ++ (L.drop ((szOf L).2 + 2)).take (szOf L).1)).run (k + (szOf L).2 + 2 + (szOf L).1 + 2) ((L.drop ((szOf L).2 + 2)).drop ((szOf L).1 + 2)) := by
  rw [dcs h h3 hm, data_run (by omega), drop_two hp, tail_on]
end Go.Proofs.YtcmbmbkglglljaaDoor
