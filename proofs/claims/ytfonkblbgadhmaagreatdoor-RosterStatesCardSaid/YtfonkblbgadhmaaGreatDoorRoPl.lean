/- Rosters, plain: what is seen of a contact behind a turn, and that no other one is turned. -/
import Derived.Test.YtfonkblbgadhmaaGreatDoorRoR
namespace Go.Proofs.YtfonkblbgadhmaaGreatDoor

/-- what is seen of a contact. -/
def seeI (x : It) : It := (x.j, x.n, x.g, (x.s.1, x.s.2.1, x.s.2.2.1, false), true)
def seeL (L : List It) (t : List UInt8) : It × Bool :=
 match findL L t with
 | some x => if x.k then (seeI x, true) else (it0, false)
 | none => (it0, false)
def changedL (L L' : List It) (t : List UInt8) : Bool := ((seeL L t).2 != (seeL L' t).2) || !decide ((seeL L t).1 = (seeL L' t).1)
/-- all contacts but one are there, as they are. -/
def othersL (A B : List It) (t : List UInt8) : Prop := ∀ x ∈ A, x.j ≠ t → findL B x.j = some x
/-- what the law asks of a turn. -/
structure TurnsOk (L : List It) (v : Int) (L' : List It) (v' : Int) (t : List UInt8) (push set : Bool) : Prop where
 may : mayR L v = true
 may' : mayR L' v' = true
 owed : push = (changedL L L' t || set)
 same : push = false → v' = v
 next : push = true → v < mostV → v' = v + 1
 a : othersL L L' t
 b : othersL L' L t
theorem others_of {L L' : List It} {t : List UInt8} (hc : chainB L = true) (h : ∀ u, u ≠ t → findL L' u = findL L u) : othersL L L' t := fun x hx hne => by
 rw [h _ hne]
 exact find_mem hc hx
theorem next_one {v : Int} (h : v < mostV) : nextV v = v + 1 := by
 unfold nextV
 rw [if_pos (by omega)]

/-! ### behind a turn -/
section
variable {L : List It} {v : Int} {t : List UInt8} {s : Sb}
theorem was_known (hc : chainB L = true) (hk : (wasL L t).k = true) : findL L t = some (wasL L t) := by
 cases h : thereL L t with
 | true => rw [(there_find hc).1 h, (was_there hc h).1]
 | false => rw [was_not hc h] at hk; cases hk
theorem turnI_item (h : mayR L v = true) (ht : adrOk t = true) (hs : subMay s = true) (hq : quitP (turnI (wasL L t) t s) s = false) : itemP (turnI (wasL L t) t s) = true := by
 obtain ⟨w1, w2, w3, w4⟩ := was_may (t := t) h
 have hodd : (wasL L t).k = false → (wasL L t).n = [] ∧ (wasL L t).g = [] := fun hk => by
  unfold wasL at hk ⊢
  cases hf : findL L t with
  | none => exact ⟨rfl, rfl⟩
  | some x =>
   rw [hf] at hk
   have hi := (may_facts21 h).1 x (find_some hf).1
   unfold itemP oddP at hi
   simp only [Option.getD_some] at hk ⊢
   rw [hk] at hi
   simp only [Bool.false_or, Bool.and_eq_true, List.isEmpty_iff] at hi
   exact ⟨hi.2.2.2.1, hi.2.2.2.2.1⟩
 unfold itemP
 show (adrOk t && (wordsP (wasL L t).n (wasL L t).g && (subMay s && ((turnI (wasL L t) t s).k || oddP (turnI (wasL L t) t s))))) = true
 rw [ht, w4, hs, Bool.true_and, Bool.true_and, Bool.true_and]
 cases hk : (turnI (wasL L t) t s).k with
 | true => rfl
 | false =>
  have hk2 : ((wasL L t).k || (s.1 || (s.2.1 || s.2.2.1))) = false := hk
  simp only [Bool.or_eq_false_iff] at hk2
  obtain ⟨k1, k2, k3, k4⟩ := hk2
  obtain ⟨n1, n2⟩ := hodd k1
  have hs4 : s = (false, false, false, true) := by
   obtain ⟨a, b, c, d⟩ := s
   simp only at k2 k3 k4
   subst k2 k3 k4
   cases d with
   | true => rfl
   | false =>
    unfold quitP at hq
    rw [hk] at hq
    simp [sb0] at hq
  unfold oddP
  show (false || ((wasL L t).n.isEmpty && ((wasL L t).g.isEmpty && decide (s = (false, false, false, true))))) = true
  rw [n1, n2, hs4]
  rfl
theorem turn_find (h : mayR L v = true) (ht : adrOk t = true) (_hs : subMay s = true) : findL (turnL L t s) t = if quitP (turnI (wasL L t) t s) s then none else some (turnI (wasL L t) t s) := by
 obtain ⟨a, b, c, d, e⟩ := may_facts21 h
 unfold turnL
 cases hq : quitP (turnI (wasL L t) t s) s with
 | true => rw [if_pos rfl, if_pos rfl]; exact gone_find b
 | false =>
  rw [if_neg (by decide), if_neg (by decide)]
  exact put_find (x := turnI (wasL L t) t s) b (fun y hy => itemP_adr (a y hy)) ht
theorem turn_other (h : mayR L v = true) (ht : adrOk t = true) {u : List UInt8} (hne : u ≠ t) : findL (turnL L t s) u = findL L u := by
 obtain ⟨a, b, c, d, e⟩ := may_facts21 h
 unfold turnL
 cases hq : quitP (turnI (wasL L t) t s) s with
 | true => rw [if_pos rfl]; exact gone_other b hne
 | false =>
  rw [if_neg (by decide)]
  exact put_other (x := turnI (wasL L t) t s) b (fun y hy => itemP_adr (a y hy)) ht hne
theorem turn_may (h : mayR L v = true) (ht : adrOk t = true) (hs : subMay s = true) (hc : turnC L t s = 0) : mayR (turnL L t s) (turnV L v t s) = true := by
 obtain ⟨a, b, c, d, e⟩ := may_facts21 h
 have hv : 0 ≤ turnV L v t s ∧ turnV L v t s ≤ mostV := by
  unfold turnV
  split
  ·exact next_le d
  ·exact ⟨d, e⟩
 unfold turnL
 cases hq : quitP (turnI (wasL L t) t s) s with
 | true => rw [if_pos rfl]; exact may_gone h hv.1 hv.2
 | false =>
  rw [if_neg (by decide)]
  refine may_put h (turnI_item h ht hs hq) ?_ hv.1 hv.2
  unfold turnC at hc
  rw [hq, Bool.false_or] at hc
  cases h2 : thereL L t || decide (L.length < 16) with
  | false => rw [h2] at hc; simp at hc
  | true =>
   rw [Bool.or_eq_true, decide_eq_true_eq] at h2
   exact h2
theorem name_inj {a c a' c' : Bool} : (bL (subName a c) == bL (subName a' c')) = (a == a' && c == c') := by
 revert a c a' c'
 decide +kernel
theorem name_none (a c : Bool) : (([] : List UInt8) == bL (subName a c)) = false := by
 revert a c
 decide +kernel
theorem see_find {L : List It} {t : List UInt8} {x : It} (h : findL L t = some x) : seeL L t = if x.k then (seeI x, true) else (it0, false) := by unfold seeL; rw [h]
theorem see_none {L : List It} {t : List UInt8} (h : findL L t = none) : seeL L t = (it0, false) := by unfold seeL; rw [h]
theorem see_not {L : List It} {t : List UInt8} (hk : (wasL L t).k = false) : seeL L t = (it0, false) := by
 unfold wasL at hk
 unfold seeL
 cases h : findL L t with
 | none => rfl
 | some x => rw [h] at hk; simp only [Option.getD_some] at hk; simp only [hk]; rfl
/-- a push is owed just where what is seen was turned. -/
theorem turn_push (h : mayR L v = true) (ht : adrOk t = true) (hs : subMay s = true) : turnPush L t s = changedL L (turnL L t s) t := by
 obtain ⟨a, b, c, d, e⟩ := may_facts21 h
 have hf := turn_find h ht hs
 unfold turnPush changedL
 cases hq : quitP (turnI (wasL L t) t s) s with
 | true =>
  rw [hq, if_pos rfl] at hf
  rw [see_none hf]
  have hk : (wasL L t).k = false := by
   unfold quitP at hq
   rw [Bool.and_eq_true, Bool.not_eq_true'] at hq
   have h1 : ((wasL L t).k || (s.1 || (s.2.1 || s.2.2.1))) = false := hq.1
   rw [Bool.or_eq_false_iff] at h1
   exact h1.1
  rw [see_not hk]
  simp
 | false =>
  rw [hq, if_neg (by decide)] at hf
  rw [see_find hf]
  cases hk : (wasL L t).k with
  | false =>
   rw [see_not hk]
   cases hy : (turnI (wasL L t) t s).k with
   | false =>
    unfold pushP seenP
    rw [hk, hy]
    simp
   | true =>
    unfold pushP seenP
    rw [hk, hy]
    simp only [if_true, Bool.false_eq_true, if_false]
    rw [name_none]
    simp
  | true =>
   have hy : (turnI (wasL L t) t s).k = true := by show ((wasL L t).k || _) = true; rw [hk]; rfl
   have hw := was_known b hk
   rw [see_find hw, hk, hy]
   have hj : (wasL L t).j = t := (find_some hw).2
   unfold pushP seenP
   rw [hk, hy]
   simp only [if_true]
   rw [name_inj]
   obtain ⟨X, hX⟩ : ∃ X, wasL L t = X := ⟨_, rfl⟩
   rw [hX] at hj ⊢
   obtain ⟨xj, xn, xg, ⟨x1, x2, x3, x4⟩, xk⟩ := X
   obtain ⟨s1, s2, s3, s4⟩ := s
   replace hj : xj = t := hj
   subst hj
   clear hX hy hk hf hq hw
   simp only [turnI, seeI, Prod.mk.injEq, true_and, and_true, Bool.not_false, Bool.true_and, bne_self_eq_false, Bool.false_or]
   cases x1 <;> cases x2 <;> cases x3 <;> cases s1 <;> cases s2 <;> cases s3 <;> rfl
theorem turns_turn (h : mayR L v = true) (ht : adrOk t = true) (hs : subMay s = true) (hc : turnC L t s = 0) : TurnsOk L v (turnL L t s) (turnV L v t s) t (turnPush L t s) false := by
 have hm := turn_may h ht hs hc
 refine ⟨h, hm, by rw [Bool.or_false]; exact turn_push h ht hs, fun hp => ?_, fun hp hv => ?_, others_of (may_facts21 h).2.1 fun u hu => turn_other h ht hu, others_of (may_facts21 hm).2.1 fun u hu => (turn_other h ht hu).symm⟩
 ·unfold turnV; rw [hp]; rfl
 ·unfold turnV; rw [hp, if_pos rfl]; exact next_one hv
end
/-! ### behind what was set, and dropped -/
theorem setC_facts {L : List It} {v : Int} {t n : List UInt8} {g : List (List UInt8)} (h : setC L v t n g = 0) : mayR L v = true ∧ adrOk t = true ∧ wordsP n g = true ∧ (thereL L t = true ∨ L.length < 16) := by
 unfold setC at h
 cases h1 : mayR L v with
 | false => rw [h1] at h; simp at h
 | true =>
  rw [h1, if_pos rfl] at h
  cases h2 : adrOk t && wordsP n g with
  | false => rw [h2] at h; simp at h
  | true =>
   rw [h2, if_pos rfl] at h
   cases h3 : thereL L t || decide (L.length < 16) with
   | false => rw [h3] at h; simp at h
   | true =>
    rw [Bool.and_eq_true] at h2
    rw [Bool.or_eq_true, decide_eq_true_eq] at h3
    exact ⟨rfl, h2.1, h2.2, h3⟩
theorem turns_set {L : List It} {v : Int} {t n : List UInt8} {g : List (List UInt8)} (h : setC L v t n g = 0) : TurnsOk L v (setP L v t n g).1 (setP L v t n g).2 t true true := by
 obtain ⟨h1, h2, h3, h4⟩ := setC_facts h
 obtain ⟨a, b, c, d, e⟩ := may_facts21 h1
 have hi : itemP (setI L t n g) = true := by
  unfold itemP
  show (adrOk t && (wordsP n g && (subMay (wasL L t).s && (true || _)))) = true
  rw [h2, h3, (was_may h1).1]
  rfl
 have hm : mayR (putL L (setI L t n g)) (nextV v) = true := may_put h1 hi h4 (next_le d).1 (next_le d).2
 have ho : ∀ u, u ≠ t → findL (putL L (setI L t n g)) u = findL L u := fun u hu => put_other (x := setI L t n g) b (fun y hy => itemP_adr (a y hy)) h2 hu
 unfold setP
 rw [if_pos h]
 exact ⟨h1, hm, by simp, (fun hp => by cases hp), fun _ hv => next_one hv, others_of b ho, others_of (may_facts21 hm).2.1 fun u hu => (ho u hu).symm⟩
theorem dropC_facts {L : List It} {v : Int} {t : List UInt8} (h : dropC L v t = 0) : mayR L v = true ∧ thereL L t = true ∧ (wasL L t).k = true := by
 unfold dropC at h
 cases h1 : mayR L v with
 | false => rw [h1] at h; simp at h
 | true =>
  rw [h1, if_pos rfl] at h
  cases h2 : thereL L t && (wasL L t).k with
  | false => rw [h2] at h; simp at h
  | true =>
   rw [Bool.and_eq_true] at h2
   exact ⟨rfl, h2⟩
theorem turns_drop {L : List It} {v : Int} {t : List UInt8} (h : dropC L v t = 0) : TurnsOk L v (dropP L v t).1 (dropP L v t).2.1 t true true := by
 obtain ⟨h1, h2, h3⟩ := dropC_facts h
 obtain ⟨a, b, c, d, e⟩ := may_facts21 h1
 have hm : mayR (goneL L t) (nextV v) = true := may_gone h1 (next_le d).1 (next_le d).2
 have ho : ∀ u, u ≠ t → findL (goneL L t) u = findL L u := fun u hu => gone_other b hu
 unfold dropP
 rw [if_pos h]
 exact ⟨h1, hm, by simp, (fun hp => by cases hp), fun _ hv => next_one hv, others_of b ho, others_of (may_facts21 hm).2.1 fun u hu => (ho u hu).symm⟩
theorem askC_facts {L : List It} {v : Int} {t : List UInt8} {k : Int} (h : askC L v t k = 0) : mayR L v = true ∧ adrOk t = true ∧ 1 ≤ k ∧ k ≤ 4 := by
 unfold askC at h
 cases h1 : mayR L v with
 | false => rw [h1] at h; simp at h
 | true =>
  rw [h1, if_pos rfl] at h
  cases h2 : adrOk t && (decide (1 ≤ k) && decide (k ≤ 4)) with
  | false => rw [h2] at h; simp at h
  | true =>
   simp only [Bool.and_eq_true, decide_eq_true_eq] at h2
   exact ⟨rfl, h2⟩
theorem sendC_facts {L : List It} {v : Int} {t : List UInt8} {k : Int} (h : sendC L v t k = 0) : askC L v t k = 0 ∧ turnC L t (subSend (wasL L t).s k).1 = 0 := by
 unfold sendC at h
 by_cases h1 : askC L v t k = 0
 ·rw [if_pos h1] at h; exact ⟨h1, h⟩
 ·rw [if_neg h1] at h; exact absurd h h1
theorem takeC_facts {L : List It} {v : Int} {t : List UInt8} {k : Int} (h : takeC L v t k = 0) : askC L v t k = 0 ∧ turnC L t (subTake (wasL L t).s k).1 = 0 := by
 unfold takeC at h
 by_cases h1 : askC L v t k = 0
 ·rw [if_pos h1] at h; exact ⟨h1, h⟩
 ·rw [if_neg h1] at h; exact absurd h h1
theorem turns_send {L : List It} {v : Int} {t : List UInt8} {k : Int} (h : sendC L v t k = 0) : TurnsOk L v (sendP L v t k).1 (sendP L v t k).2.1 t (sendP L v t k).2.2.2 false := by
 obtain ⟨h1, h2⟩ := sendC_facts h
 obtain ⟨m, a, k1, k2⟩ := askC_facts h1
 unfold sendP
 rw [if_pos h]
 exact turns_turn m a (send_may (was_may m).1 k1 k2) h2
theorem turns_take {L : List It} {v : Int} {t : List UInt8} {k : Int} (h : takeC L v t k = 0) : TurnsOk L v (takeP L v t k).1 (takeP L v t k).2.1 t (takeP L v t k).2.2.2.2 false := by
 obtain ⟨h1, h2⟩ := takeC_facts h
 obtain ⟨m, a, k1, k2⟩ := askC_facts h1
 unfold takeP
 rw [if_pos h]
 exact turns_turn m a (take_may (was_may m).1 k1 k2) h2

/-! ### a contact's state behind a stanza -/
theorem states_turn {L : List It} {v : Int} {t : List UInt8} {s : Sb} (h : mayR L v = true) (ht : adrOk t = true) (hs : subMay s = true) :
  (wasL (turnL L t s) t).s = s ∧ (findL (turnL L t s) t).isSome = (((findL L t).isSome && (wasL L t).k) || !decide (s = sb0)) := by
 have hf := turn_find h ht hs
 unfold wasL at *
 rw [hf]
 obtain ⟨X, hX⟩ : ∃ X, (findL L t).getD it0 = X := ⟨_, rfl⟩
 have hk0 : X.k = true → (findL L t).isSome = true := fun hk => by
  cases hq : findL L t with
  | none => rw [hq] at hX; subst hX; cases hk
  | some y => rfl
 rw [hX]
 have hand : ((findL L t).isSome && X.k) = X.k := by
  cases hk : X.k with
  | true => rw [hk0 hk]; rfl
  | false => simp
 rw [hand]
 obtain ⟨xj, xn, xg, xs, xk⟩ := X
 obtain ⟨s1, s2, s3, s4⟩ := s
 unfold quitP turnI sb0
 simp only
 cases xk <;> cases s1 <;> cases s2 <;> cases s3 <;> cases s4 <;> exact ⟨rfl, rfl⟩
end Go.Proofs.YtfonkblbgadhmaaGreatDoor
