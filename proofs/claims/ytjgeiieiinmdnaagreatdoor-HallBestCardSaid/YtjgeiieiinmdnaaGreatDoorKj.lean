/- RoP, RoQ, RoM: put together by mergetpl.py. -/
import Derived.Test.YtjgeiieiinmdnaaGreatDoorKa
import Derived.Test.YtjgeiieiinmdnaaGreatDoorGa
import Derived.Deep.Onto
namespace Go.Proofs.YtjgeiieiinmdnaaGreatDoor

abbrev Sb := Bool × Bool × Bool × Bool
/-- a contact: its address's text, its name, its groups, how it stands, whether it is known. -/
abbrev It := List UInt8 × List UInt8 × List (List UInt8) × Sb × Bool
abbrev It.j (x : It) : List UInt8 := x.1
abbrev It.n (x : It) : List UInt8 := x.2.1
abbrev It.g (x : It) : List (List UInt8) := x.2.2.1
abbrev It.s (x : It) : Sb := x.2.2.2.1
abbrev It.k (x : It) : Bool := x.2.2.2.2
def sb0 : Sb := (false, false, false, false)
def it0 : It := ([], [], [], sb0, false)

/-! ### addresses' texts -/
def adr (s : List UInt8) : Adr := if prsP s then (jLoc s, jDom s, jRes s) else ([], [], [])
def adrOk (s : List UInt8) : Bool := prsP s && (decide (txtP (jLoc s) (jDom s) (jRes s) = s) && (jRes s).isEmpty)
def lessT (a b : List UInt8) : Bool := lsP (adr a) (adr b)
theorem adr_inj {a b : List UInt8} (ha : adrOk a = true) (hb : adrOk b = true) (h : adr a = adr b) : a = b := by
 unfold adrOk at ha hb
 simp only [Bool.and_eq_true, decide_eq_true_eq] at ha hb
 unfold adr at h
 rw [if_pos ha.1, if_pos hb.1] at h
 obtain ⟨h1, h2⟩ := Prod.mk.inj h
 obtain ⟨h2, h3⟩ := Prod.mk.inj h2
 rw [← ha.2.1, ← hb.2.1, h1, h2, h3]
theorem lessT_irr (a : List UInt8) : lessT a a = false := ls_irr _
theorem lessT_trans {a b c : List UInt8} (h1 : lessT a b = true) (h2 : lessT b c = true) : lessT a c = true := ls_trans _ _ _ h1 h2
theorem lessT_anti {a b : List UInt8} (h1 : lessT a b = true) : lessT b a = false := by
 cases h : lessT b a with
 | false => rfl
 | true => have := lessT_trans h1 h; rw [lessT_irr] at this; cases this
/-- neither is less: the same address. -/
theorem lessT_eq {a b : List UInt8} (h1 : lessT a b = false) (h2 : lessT b a = false) : adr a = adr b := by
 have := (ls_tri (adr a) (adr b)).2
 unfold lessT at h1 h2
 rw [h1, h2] at this
 have h3 : decide (adr a = adr b) = true := by
  cases hd : decide (adr a = adr b) with
  | true => rfl
  | false => rw [hd] at this; cases this
 exact of_decide_eq_true h3
theorem lessT_congr {a b c : List UInt8} (h : adr a = adr b) : lessT a c = lessT b c ∧ lessT c a = lessT c b := by
 unfold lessT
 rw [h]
 exact ⟨rfl, rfl⟩
/-- how two texts' addresses stand. -/
def ordT (a b : List UInt8) : Int := if lessT a b then -1 else if lessT b a then 1 else 0
theorem ordT_neg (a b : List UInt8) : decide (ordT a b < 0) = lessT a b := by
 unfold ordT
 cases lessT a b
 ·simp only [Bool.false_eq_true, if_false]
  split <;> rfl
 ·rfl
theorem ordT_zero (a b : List UInt8) : (ordT a b == 0) = (!lessT a b && !lessT b a) := by
 unfold ordT
 cases lessT a b <;> cases lessT b a <;> rfl

/-! ### what may be -/
def subMay (s : Sb) : Bool := !(s.1 && s.2.1) && !(s.2.2.1 && s.2.2.2)
def withinP (lo hi : Nat) (s : List UInt8) : Bool := decide (lo ≤ s.length) && (decide (s.length ≤ hi) && txP s)
/-- no text stands twice. -/
def onceP : List (List UInt8) → Bool
 | [] => true
 | a :: l => !l.contains a && onceP l
def wordsP (n : List UInt8) (g : List (List UInt8)) : Bool := g.all (withinP 1 32) && (onceP g && (withinP 0 64 n && decide (g.length ≤ 4)))
def oddP (x : It) : Bool := x.n.isEmpty && (x.g.isEmpty && decide (x.s = (false, false, false, true)))
def itemP (x : It) : Bool := adrOk x.j && (wordsP x.n x.g && (subMay x.s && (x.k || oddP x)))
/-- in order. -/
def chainB : List It → Bool
 | a :: b :: l => lessT a.j b.j && chainB (b :: l)
 | _ => true
def mostV : Int := 9007199254740991
def mayR (L : List It) (v : Int) : Bool := L.all itemP && (chainB L && (decide (L.length ≤ 16) && (decide (0 ≤ v) && decide (v ≤ mostV))))
def nextV (v : Int) : Int := if v + 1 ≤ mostV then v + 1 else mostV

theorem chain_tail {a : It} {l : List It} (h : chainB (a :: l) = true) : chainB l = true := by
 cases l with
 | nil => rfl
 | cons b l => unfold chainB at h; rw [Bool.and_eq_true] at h; exact h.2
theorem chain_head : ∀ {a : It} {l : List It}, chainB (a :: l) = true → ∀ x ∈ l, lessT a.j x.j = true
 | a, [], _, x, hx => by cases hx
 | a, b :: l, h, x, hx => by
  have h2 := h
  unfold chainB at h2
  rw [Bool.and_eq_true] at h2
  cases hx with
  | head => exact h2.1
  | tail _ hx => exact lessT_trans h2.1 (chain_head h2.2 x hx)
theorem chain_cons {a : It} {l : List It} (h : ∀ x ∈ l, lessT a.j x.j = true) (hl : chainB l = true) : chainB (a :: l) = true := by
 cases l with
 | nil => rfl
 | cons b l => unfold chainB; rw [h b (List.mem_cons_self ..), hl]; rfl
theorem chain_app : ∀ {l r : List It}, chainB l = true → chainB r = true → (∀ x ∈ l, ∀ y ∈ r, lessT x.j y.j = true) → chainB (l ++ r) = true
 | [], r, _, hr, _ => hr
 | a :: l, r, hl, hr, h => by
  rw [List.cons_append]
  refine chain_cons (fun x hx => ?_) (chain_app (chain_tail hl) hr fun x hx => h x (List.mem_cons_of_mem _ hx))
  rcases List.mem_append.1 hx with hx | hx
  ·exact chain_head hl x hx
  ·exact h a (List.mem_cons_self ..) x hx
theorem chain_left : ∀ {l r : List It}, chainB (l ++ r) = true → chainB l = true ∧ chainB r = true ∧ ∀ x ∈ l, ∀ y ∈ r, lessT x.j y.j = true
 | [], r, h => ⟨rfl, h, fun x hx => by cases hx⟩
 | a :: l, r, h => by
  rw [List.cons_append] at h
  obtain ⟨h1, h2, h3⟩ := chain_left (chain_tail h)
  have hh := chain_head h
  refine ⟨chain_cons (fun x hx => hh x (List.mem_append_left _ hx)) h1, h2, fun x hx y hy => ?_⟩
  cases hx with
  | head => exact hh y (List.mem_append_right _ hy)
  | tail _ hx => exact h3 x hx y hy
/-- with one more behind. -/
theorem chain_snoc (l : List It) (x : It) : chainB (l ++ [x]) = (chainB l && (l.isEmpty || lessT (l.getLastD it0).j x.j)) := by
 induction l with
 | nil => rfl
 | cons a l ih =>
  cases l with
  | nil => simp [chainB]
  | cons b l =>
   show (lessT a.j b.j && chainB ((b :: l) ++ [x])) = ((lessT a.j b.j && chainB (b :: l)) && _)
   rw [ih, Bool.and_assoc]
   rfl

/-! ### where a text's address stands -/
def posL (L : List It) (t : List UInt8) : Nat := (L.takeWhile fun x => lessT x.j t).length
def findL (L : List It) (t : List UInt8) : Option It := L.find? fun x => x.j == t
theorem posL_le (L : List It) (t : List UInt8) : posL L t ≤ L.length := (List.takeWhile_sublist _).length_le
theorem posL_iff : ∀ {L : List It} {t : List UInt8}, chainB L = true → ∀ k (h : k < L.length), lessT (L[k]).j t = decide (k < posL L t)
 | [], _, _, k, h => by simp at h
 | a :: l, t, hc, k, h => by
  unfold posL
  rw [List.takeWhile_cons]
  cases ha : lessT a.j t with
  | true =>
   simp only [if_true, List.length_cons]
   cases k with
   | zero => simp [ha]
   | succ k =>
    have := posL_iff (chain_tail hc) (t := t) k (by simpa using h)
    rw [List.getElem_cons_succ, this]
    exact decide_eq_decide.2 (by unfold posL; omega)
  | false =>
   simp only [Bool.false_eq_true, if_false, List.length_nil]
   cases k with
   | zero => simp [ha]
   | succ k =>
    rw [List.getElem_cons_succ]
    have hm : l[k]'(by simpa using h) ∈ l := List.getElem_mem _
    have h1 := chain_head hc _ hm
    cases h2 : lessT (l[k]'(by simpa using h)).j t with
    | false => simp
    | true => have := lessT_trans h1 h2; rw [ha] at this; cases this
/-- the list, ahead of the place and behind it. -/
theorem pos_split {L : List It} {t : List UInt8} (hc : chainB L = true) : (∀ x ∈ L.take (posL L t), lessT x.j t = true) ∧ (∀ x ∈ L.drop (posL L t), lessT x.j t = false) := by
 constructor
 ·intro x hx
  obtain ⟨i, hi, rfl⟩ := List.mem_iff_getElem.1 hx
  rw [List.length_take] at hi
  rw [List.getElem_take, posL_iff hc i (by omega)]
  exact decide_eq_true (by omega)
 ·intro x hx
  obtain ⟨i, hi, rfl⟩ := List.mem_iff_getElem.1 hx
  rw [List.length_drop] at hi
  rw [List.getElem_drop, posL_iff hc _ (by omega)]
  exact decide_eq_false (by omega)
/-- is the contact there? -/
def thereL (L : List It) (t : List UInt8) : Bool := decide (posL L t < L.length) && ((L.getD (posL L t) it0).j == t)
theorem itemP_adr {x : It} (h : itemP x = true) : adrOk x.j = true := by
 unfold itemP at h
 rw [Bool.and_eq_true] at h
 exact h.1
theorem there_iff {L : List It} {t : List UInt8} (hc : chainB L = true) (hx : ∃ x ∈ L, x.j = t) : thereL L t = true := by
 obtain ⟨x, hx, rfl⟩ := hx
 obtain ⟨i, hi, rfl⟩ := List.mem_iff_getElem.1 hx
 have h1 : ¬ i < posL L (L[i]).j := fun h => by
  have := posL_iff hc (t := (L[i]).j) i hi
  rw [lessT_irr, decide_eq_true h] at this
  cases this
 have h2 : posL L (L[i]).j = i := by
  rcases Nat.lt_or_ge (posL L (L[i]).j) i with h | h
  ·have h3 := posL_iff hc (t := (L[i]).j) (posL L (L[i]).j) (by omega)
   rw [decide_eq_false (Nat.lt_irrefl _)] at h3
   have h4 : lessT (L[posL L (L[i]).j]'(by omega)).j (L[i]).j = true := by
    have hs : L = L.take (posL L (L[i]).j) ++ L.drop (posL L (L[i]).j) := (List.take_append_drop _ _).symm
    have hc2 := hc
    rw [hs] at hc2
    obtain ⟨_, hr, _⟩ := chain_left hc2
    have hd : L.drop (posL L (L[i]).j) = L[posL L (L[i]).j]'(by omega) :: L.drop (posL L (L[i]).j + 1) := List.drop_eq_getElem_cons (by omega)
    rw [hd] at hr
    refine chain_head hr _ ?_
    rw [List.mem_iff_getElem]
    refine ⟨i - (posL L (L[i]).j + 1), by rw [List.length_drop]; omega, ?_⟩
    rw [List.getElem_drop]
    congr 1
    omega
   rw [h4] at h3
   cases h3
  ·omega
 unfold thereL
 rw [h2, decide_eq_true hi]
 simp [List.getD, hi]
theorem there_find {L : List It} {t : List UInt8} (hc : chainB L = true) : (thereL L t = true → findL L t = some (L.getD (posL L t) it0)) ∧ (thereL L t = false → findL L t = none) := by
 have none_of : thereL L t = false → findL L t = none := fun h => by
  unfold findL
  rw [List.find?_eq_none]
  intro x hx e
  have := there_iff hc ⟨x, hx, by simpa using e⟩
  rw [h] at this
  cases this
 refine ⟨fun h => ?_, none_of⟩
 unfold thereL at h
 rw [Bool.and_eq_true, decide_eq_true_eq, beq_iff_eq] at h
 obtain ⟨h1, h2⟩ := h
 have hg : L.getD (posL L t) it0 = L[posL L t] := by simp [List.getD, h1]
 rw [hg] at h2 ⊢
 have hs : L = L.take (posL L t) ++ L[posL L t] :: L.drop (posL L t + 1) := by
  rw [← List.drop_eq_getElem_cons h1, List.take_append_drop]
 obtain ⟨X, hX⟩ : ∃ X, L[posL L t] = X := ⟨_, rfl⟩
 rw [hX] at h2 hs ⊢
 have hno : ∀ x ∈ L.take (posL L t), ¬ (x.j == t) = true := fun x hx e => by
  have := (pos_split hc (t := t)).1 x hx
  rw [beq_iff_eq] at e
  rw [e, lessT_irr] at this
  cases this
 unfold findL
 have hf : ∀ l : List It, (∀ x ∈ l, ¬ (x.j == t) = true) → (l ++ X :: L.drop (posL L t + 1)).find? (fun x => x.j == t) = some X := fun l hl => by
  rw [List.find?_append, List.find?_eq_none.2 hl]
  simp [h2]
 have := hf _ hno
 rwa [← hs] at this
end Go.Proofs.YtjgeiieiinmdnaaGreatDoor
namespace Go.Proofs.YtjgeiieiinmdnaaGreatDoor

def withoutL (L : List It) (t : List UInt8) : List It := L.filter fun x => !(x.j == t)
def withL (L : List It) (x : It) : List It := ((withoutL L x.j).filter fun y => lessT y.j x.j) ++ x :: ((withoutL L x.j).filter fun y => lessT x.j y.j)
def putL (L : List It) (x : It) : List It := if thereL L x.j then L.set (posL L x.j) x else L.take (posL L x.j) ++ x :: L.drop (posL L x.j)
def goneL (L : List It) (t : List UInt8) : List It := if thereL L t then L.eraseIdx (posL L t) else L

theorem chain_split {L : List It} (hc : chainB L = true) (t : List UInt8) : (∀ x ∈ L.take (posL L t), ∀ y ∈ L.drop (posL L t), lessT x.j y.j = true) ∧ chainB (L.take (posL L t)) = true ∧ chainB (L.drop (posL L t)) = true := by
 have h : chainB (L.take (posL L t) ++ L.drop (posL L t)) = true := by rw [List.take_append_drop]; exact hc
 obtain ⟨h1, h2, h3⟩ := chain_left h
 exact ⟨h3, h1, h2⟩
theorem there_drop {L : List It} {t : List UInt8} (h : thereL L t = true) : ∃ (hp : posL L t < L.length), (L[posL L t]).j = t ∧ L.drop (posL L t) = L[posL L t] :: L.drop (posL L t + 1) := by
 unfold thereL at h
 rw [Bool.and_eq_true, decide_eq_true_eq, beq_iff_eq] at h
 obtain ⟨h1, h2⟩ := h
 have hg : L.getD (posL L t) it0 = L[posL L t] := by simp [List.getD, h1]
 rw [hg] at h2
 exact ⟨h1, h2, List.drop_eq_getElem_cons h1⟩
theorem not_there {L : List It} {t : List UInt8} (hc : chainB L = true) (h : thereL L t = false) : ∀ x ∈ L, x.j ≠ t := fun x hx e => by
 have := there_iff hc ⟨x, hx, e⟩
 rw [h] at this
 cases this
theorem set_split {L : List It} {k : Nat} (h : k < L.length) (x : It) : L.set k x = L.take k ++ x :: L.drop (k + 1) := by
 rw [List.set_eq_take_append_cons_drop, if_pos h]
theorem erase_split {L : List It} {k : Nat} : L.eraseIdx k = L.take k ++ L.drop (k + 1) := List.eraseIdx_eq_take_drop_succ L k
theorem filter_all {p : It → Bool} {l : List It} (h : ∀ x ∈ l, p x = true) : l.filter p = l := List.filter_eq_self.2 h
theorem filter_none {p : It → Bool} {l : List It} (h : ∀ x ∈ l, p x = false) : l.filter p = [] := List.filter_eq_nil_iff.2 fun x hx => by rw [h x hx]; decide
/-- without a contact: ahead and behind. -/
theorem without_there {L : List It} {t : List UInt8} (hc : chainB L = true) (h : thereL L t = true) : withoutL L t = L.take (posL L t) ++ L.drop (posL L t + 1) := by
 obtain ⟨hp, hj, hd⟩ := there_drop h
 obtain ⟨h1, h2, h3⟩ := chain_split hc t
 have e : L = L.take (posL L t) ++ L[posL L t] :: L.drop (posL L t + 1) := by rw [← hd, List.take_append_drop]
 have hA : ∀ x ∈ L.take (posL L t), (!(x.j == t)) = true := fun x hx => by
  have := (pos_split hc (t := t)).1 x hx
  cases hb : x.j == t with
  | false => rfl
  | true => rw [beq_iff_eq.1 hb, lessT_irr] at this; cases this
 have hB : ∀ x ∈ L.drop (posL L t + 1), (!(x.j == t)) = true := fun x hx => by
  rw [hd] at h3
  have := chain_head h3 x hx
  rw [hj] at this
  cases hb : x.j == t with
  | false => rfl
  | true => rw [beq_iff_eq.1 hb, lessT_irr] at this; cases this
 unfold withoutL
 conv => lhs; rw [e]
 rw [List.filter_append, List.filter_cons, filter_all hA, filter_all hB]
 have : (!(L[posL L t].j == t)) = false := by rw [hj]; simp
 rw [this]
 simp
theorem without_not {L : List It} {t : List UInt8} (hc : chainB L = true) (h : thereL L t = false) : withoutL L t = L :=
 filter_all fun x hx => by simpa using not_there hc h x hx
theorem without_gone {L : List It} {t : List UInt8} (hc : chainB L = true) : withoutL L t = goneL L t := by
 unfold goneL
 cases h : thereL L t with
 | true => rw [if_pos rfl, without_there hc h, erase_split]
 | false => rw [if_neg (by decide), without_not hc h]
theorem with_put {L : List It} {x : It} (hc : chainB L = true) (hL : ∀ y ∈ L, adrOk y.j = true) (hx : adrOk x.j = true) : withL L x = putL L x := by
 obtain ⟨h1, h2, h3⟩ := chain_split hc x.j
 obtain ⟨p1, p2⟩ := pos_split hc (t := x.j)
 have hA1 : (L.take (posL L x.j)).filter (fun y => lessT y.j x.j) = L.take (posL L x.j) := filter_all p1
 have hA2 : (L.take (posL L x.j)).filter (fun y => lessT x.j y.j) = [] := filter_none fun y hy => lessT_anti (p1 y hy)
 unfold withL putL
 cases h : thereL L x.j with
 | true =>
  obtain ⟨hp, hj, hd⟩ := there_drop h
  rw [hd] at h3
  have hb : ∀ y ∈ L.drop (posL L x.j + 1), lessT x.j y.j = true := fun y hy => by
   have := chain_head h3 y hy
   rwa [hj] at this
  rw [if_pos rfl, without_there hc h, List.filter_append, List.filter_append, hA1, hA2, filter_all hb, filter_none (fun y hy => lessT_anti (hb y hy)), set_split hp, List.append_nil, List.nil_append]
 | false =>
  have hb : ∀ y ∈ L.drop (posL L x.j), lessT x.j y.j = true := fun y hy => by
   cases hq : lessT x.j y.j with
   | true => rfl
   | false =>
    have hm := List.mem_of_mem_drop hy
    have := adr_inj (hL y hm) hx (lessT_eq (p2 y hy) hq)
    exact absurd this (not_there hc h y hm)
  rw [if_neg (by decide), without_not hc h]
  have e : ∀ p : It → Bool, L.filter p = (L.take (posL L x.j)).filter p ++ (L.drop (posL L x.j)).filter p := fun p => by rw [← List.filter_append, List.take_append_drop]
  rw [e, e, hA1, hA2, filter_none (fun y hy => lessT_anti (hb y hy)), filter_all hb, List.append_nil, List.nil_append]
theorem may_facts21 {L : List It} {v : Int} (h : mayR L v = true) : (∀ x ∈ L, itemP x = true) ∧ chainB L = true ∧ L.length ≤ 16 ∧ 0 ≤ v ∧ v ≤ mostV := by
 unfold mayR at h
 simp only [Bool.and_eq_true, decide_eq_true_eq, List.all_eq_true] at h
 exact ⟨h.1, h.2.1, h.2.2.1, h.2.2.2.1, h.2.2.2.2⟩
theorem may_mk {L : List It} {v : Int} (h1 : ∀ x ∈ L, itemP x = true) (h2 : chainB L = true) (h3 : L.length ≤ 16) (h4 : 0 ≤ v) (h5 : v ≤ mostV) : mayR L v = true := by
 unfold mayR
 simp only [Bool.and_eq_true, decide_eq_true_eq, List.all_eq_true]
 exact ⟨h1, h2, h3, h4, h5⟩
theorem next_le {v : Int} (h0 : 0 ≤ v) : 0 ≤ nextV v ∧ nextV v ≤ mostV := by
 unfold nextV mostV
 split <;> omega
/-- what is put, ahead and behind. -/
theorem put_split {L : List It} {x : It} : ∃ B, putL L x = L.take (posL L x.j) ++ x :: B ∧ (∀ y ∈ B, y ∈ L.drop (posL L x.j)) ∧ (thereL L x.j = true → B = L.drop (posL L x.j + 1)) ∧ (thereL L x.j = false → B = L.drop (posL L x.j)) := by
 unfold putL
 cases h : thereL L x.j with
 | true =>
  obtain ⟨hp, hj, hd⟩ := there_drop h
  exact ⟨L.drop (posL L x.j + 1), by rw [if_pos rfl, set_split hp], fun y hy => by rw [hd]; exact List.mem_cons_of_mem _ hy, (fun _ => rfl), (fun h => by cases h)⟩
 | false => exact ⟨L.drop (posL L x.j), by rw [if_neg (by decide)], fun y hy => hy, (fun h => by cases h), fun _ => rfl⟩
theorem put_chain {L : List It} {x : It} (hc : chainB L = true) (hL : ∀ y ∈ L, adrOk y.j = true) (hx : adrOk x.j = true) : chainB (putL L x) = true := by
 obtain ⟨h1, h2, h3⟩ := chain_split hc x.j
 obtain ⟨p1, p2⟩ := pos_split hc (t := x.j)
 obtain ⟨B, hB, hm, ht, hf⟩ := put_split (L := L) (x := x)
 rw [hB]
 have hb : ∀ y ∈ B, lessT x.j y.j = true := fun y hy => by
  cases h : thereL L x.j with
  | true =>
   obtain ⟨hp, hj, hd⟩ := there_drop h
   rw [hd] at h3
   rw [ht h] at hy
   have := chain_head h3 y hy
   rwa [hj] at this
  | false =>
   cases hq : lessT x.j y.j with
   | true => rfl
   | false =>
    have hy2 := hm y hy
    have hmm := List.mem_of_mem_drop hy2
    exact absurd (adr_inj (hL y hmm) hx (lessT_eq (p2 y hy2) hq)) (not_there hc h y hmm)
 have hBc : chainB B = true := by
  cases h : thereL L x.j with
  | true =>
   obtain ⟨hp, hj, hd⟩ := there_drop h
   rw [hd] at h3
   rw [ht h]
   exact chain_tail h3
  | false => rw [hf h]; exact h3
 refine chain_app h2 (chain_cons hb hBc) fun a ha y hy => ?_
 cases hy with
 | head => exact p1 a ha
 | tail _ hy => exact h1 a ha y (hm y hy)
theorem put_len {L : List It} {x : It} : (putL L x).length = if thereL L x.j then L.length else L.length + 1 := by
 have hp := posL_le L x.j
 unfold putL
 cases h : thereL L x.j with
 | true => rw [if_pos rfl, if_pos rfl, List.length_set]
 | false => rw [if_neg (by decide), if_neg (by decide)]; simp; omega
theorem put_mem {L : List It} {x : It} : ∀ y ∈ putL L x, y = x ∨ y ∈ L := fun y hy => by
 obtain ⟨B, hB, hm, _, _⟩ := put_split (L := L) (x := x)
 rw [hB] at hy
 rcases List.mem_append.1 hy with hy | hy
 ·exact .inr (List.mem_of_mem_take hy)
 ·cases hy with
  | head => exact .inl rfl
  | tail _ hy => exact .inr (List.mem_of_mem_drop (hm y hy))
theorem may_put {L : List It} {v v' : Int} {x : It} (h : mayR L v = true) (hx : itemP x = true) (hl : thereL L x.j = true ∨ L.length < 16) (h0 : 0 ≤ v') (h1 : v' ≤ mostV) : mayR (putL L x) v' = true := by
 obtain ⟨a, b, c, d, e⟩ := may_facts21 h
 refine may_mk (fun y hy => ?_) (put_chain b (fun y hy => itemP_adr (a y hy)) (itemP_adr hx)) ?_ h0 h1
 ·rcases put_mem y hy with rfl | hy
  ·exact hx
  ·exact a y hy
 ·rw [put_len]
  rcases hl with hl | hl
  ·rw [if_pos hl]; exact c
  ·split <;> omega
theorem gone_mem {L : List It} {t : List UInt8} : ∀ y ∈ goneL L t, y ∈ L := fun y hy => by
 unfold goneL at hy
 split at hy
 ·exact List.mem_of_mem_eraseIdx hy
 ·exact hy
theorem gone_chain {L : List It} {t : List UInt8} (hc : chainB L = true) : chainB (goneL L t) = true := by
 obtain ⟨h1, h2, h3⟩ := chain_split hc t
 unfold goneL
 cases h : thereL L t with
 | true =>
  obtain ⟨hp, hj, hd⟩ := there_drop h
  rw [if_pos rfl, erase_split]
  rw [hd] at h3
  refine chain_app h2 (chain_tail h3) fun a ha y hy => h1 a ha y ?_
  rw [hd]
  exact List.mem_cons_of_mem _ hy
 | false => rw [if_neg (by decide)]; exact hc
theorem may_gone {L : List It} {v v' : Int} {t : List UInt8} (h : mayR L v = true) (h0 : 0 ≤ v') (h1 : v' ≤ mostV) : mayR (goneL L t) v' = true := by
 obtain ⟨a, b, c, d, e⟩ := may_facts21 h
 refine may_mk (fun y hy => a y (gone_mem y hy)) (gone_chain b) ?_ h0 h1
 unfold goneL
 split
 ·rw [List.length_eraseIdx]; split <;> omega
 ·exact c

/-! ### what is found behind it -/
theorem find_mem {L : List It} (hc : chainB L = true) {x : It} (hx : x ∈ L) : findL L x.j = some x := by
 have ht := there_iff hc ⟨x, hx, rfl⟩
 rw [(there_find hc).1 ht]
 obtain ⟨hp, hj, hd⟩ := there_drop ht
 have hg : L.getD (posL L x.j) it0 = L[posL L x.j] := by simp [List.getD, hp]
 rw [hg]
 obtain ⟨i, hi, rfl⟩ := List.mem_iff_getElem.1 hx
 congr 1
 have h1 := posL_iff hc (t := (L[i]).j) i hi
 rw [lessT_irr] at h1
 have h2 : posL L (L[i]).j ≤ i := by
  rcases Nat.lt_or_ge i (posL L (L[i]).j) with h | h
  ·rw [decide_eq_true h] at h1; cases h1
  ·exact h
 rcases Nat.lt_or_ge (posL L (L[i]).j) i with h | h
 ·obtain ⟨_, _, h3⟩ := chain_split hc (L[i]).j
  rw [hd] at h3
  have := chain_head h3 (L[i]) (by
   rw [List.mem_iff_getElem]
   refine ⟨i - (posL L (L[i]).j + 1), by rw [List.length_drop]; omega, ?_⟩
   rw [List.getElem_drop]
   congr 1
   omega)
  rw [hj, lessT_irr] at this
  cases this
 ·have : posL L (L[i]).j = i := by omega
  congr 1
theorem find_none {L : List It} {t : List UInt8} (h : ∀ x ∈ L, x.j ≠ t) : findL L t = none := by
 unfold findL
 rw [List.find?_eq_none]
 intro x hx e
 exact h x hx (by simpa using e)
theorem find_some {L : List It} {t : List UInt8} {x : It} (h : findL L t = some x) : x ∈ L ∧ x.j = t := by
 unfold findL at h
 exact ⟨List.mem_of_find?_eq_some h, by have := List.find?_some h; simpa using this⟩
theorem put_find {L : List It} {x : It} (hc : chainB L = true) (hL : ∀ y ∈ L, adrOk y.j = true) (hx : adrOk x.j = true) : findL (putL L x) x.j = some x := by
 refine find_mem (put_chain hc hL hx) ?_
 obtain ⟨B, hB, _⟩ := put_split (L := L) (x := x)
 rw [hB]
 simp
theorem put_other {L : List It} {x : It} {t : List UInt8} (hc : chainB L = true) (hL : ∀ y ∈ L, adrOk y.j = true) (hx : adrOk x.j = true) (hne : t ≠ x.j) : findL (putL L x) t = findL L t := by
 cases h : findL L t with
 | some y =>
  obtain ⟨h1, h2⟩ := find_some h
  have : y ∈ putL L x := by
   obtain ⟨B, hB, _, ht, hf⟩ := put_split (L := L) (x := x)
   rw [hB]
   have hs : L = L.take (posL L x.j) ++ L.drop (posL L x.j) := (List.take_append_drop _ _).symm
   rw [hs] at h1
   rcases List.mem_append.1 h1 with h1 | h1
   ·exact List.mem_append_left _ h1
   ·refine List.mem_append_right _ (List.mem_cons_of_mem _ ?_)
    cases hq : thereL L x.j with
    | true =>
     obtain ⟨hp, hj, hd⟩ := there_drop hq
     rw [ht hq]
     rw [hd] at h1
     cases h1 with
     | head => exact absurd (h2.symm.trans hj) hne
     | tail _ h1 => exact h1
    | false => rw [hf hq]; exact h1
  rw [← h2]
  exact find_mem (put_chain hc hL hx) this
 | none =>
  refine find_none fun y hy e => ?_
  rcases put_mem y hy with rfl | hy
  ·exact hne e.symm
  ·have := find_mem hc hy
   rw [e, h] at this
   cases this
theorem gone_find {L : List It} {t : List UInt8} (hc : chainB L = true) : findL (goneL L t) t = none := by
 rw [← without_gone hc]
 refine find_none fun y hy e => ?_
 unfold withoutL at hy
 have := (List.mem_filter.1 hy).2
 rw [e] at this
 simp at this
theorem gone_other {L : List It} {t s : List UInt8} (hc : chainB L = true) (hne : s ≠ t) : findL (goneL L t) s = findL L s := by
 cases h : findL L s with
 | some y =>
  obtain ⟨h1, h2⟩ := find_some h
  rw [← h2]
  refine find_mem (gone_chain hc) ?_
  rw [← without_gone hc]
  unfold withoutL
  refine List.mem_filter.2 ⟨h1, ?_⟩
  rw [h2]
  simpa using hne
 | none =>
  refine find_none fun y hy e => ?_
  have := find_mem hc (gone_mem y hy)
  rw [e, h] at this
  cases this
end Go.Proofs.YtjgeiieiinmdnaaGreatDoor
namespace Go.Proofs.YtjgeiieiinmdnaaGreatDoor
open Go.RowKit

/-- A contact, and where its groups lie: an address, and a capacity. -/
abbrev Im := It × (Option Addr × Nat)
abbrev gvI (p : Im) : Value := .slice p.2.1 p.1.g.length p.2.2
abbrev itC (p : Im) : List Value := [.string ⟨p.1.j.toArray⟩, .string ⟨p.1.n.toArray⟩, gvI p, .bool p.1.s.1, .bool p.1.s.2.1, .bool p.1.s.2.2.1, .bool p.1.s.2.2.2, .bool p.1.k]
abbrev itA (p : Im) : Value := .agg #[.string ⟨p.1.j.toArray⟩, .string ⟨p.1.n.toArray⟩, gvI p, .bool p.1.s.1, .bool p.1.s.2.1, .bool p.1.s.2.2.1, .bool p.1.s.2.2.2, .bool p.1.k]
def itV (M : List Im) : List Value := M.flatMap itC
theorem itV_cons (p : Im) (M : List Im) : itV (p :: M) = itC p ++ itV M := rfl
theorem itV_app (M N : List Im) : itV (M ++ N) = itV M ++ itV N := by simp [itV]
theorem itV_len (M : List Im) : (itV M).length = M.length * 8 := by
 induction M with
 | nil => rfl
 | cons p M ih => rw [itV_cons, List.length_append, ih]; simp; omega
theorem itV_at : ∀ (M : List Im) (k : Nat) (h : k < M.length) (c : Nat) (_ : c < 8), (itV M)[k * 8 + c]? = (itC M[k])[c]?
 | [], k, h, _, _ => by simp at h
 | p :: M, 0, _, c, hc => by
  rw [itV_cons, List.getElem?_append_left (by simp; omega)]
  simp
 | p :: M, k + 1, h, c, hc => by
  rw [itV_cons, List.getElem?_append_right (by simp; omega)]
  have e : (k + 1) * 8 + c - (itC p).length = k * 8 + c := by simp; omega
  rw [e]
  exact itV_at M k (by simpa using h) c hc
theorem itV_take (M : List Im) (k : Nat) : itV (M.take k) = (itV M).take (k * 8) := by
 induction M generalizing k with
 | nil => simp [itV]
 | cons p M ih =>
  cases k with
  | zero => simp [itV]
  | succ k =>
   rw [List.take_succ_cons, itV_cons, itV_cons, ih]
   have : (k + 1) * 8 = (itC p).length + k * 8 := by simp; omega
   rw [this, List.take_append, List.take_of_length_le (l := itC p) (Nat.le_add_right _ _), Nat.add_sub_cancel_left]
theorem itV_drop (M : List Im) (k : Nat) : itV (M.drop k) = (itV M).drop (k * 8) := by
 induction M generalizing k with
 | nil => simp [itV]
 | cons p M ih =>
  cases k with
  | zero => simp
  | succ k =>
   rw [List.drop_succ_cons, itV_cons, ih]
   have : (k + 1) * 8 = (itC p).length + k * 8 := by simp; omega
   rw [this, List.drop_append]
   simp
theorem itV_one (M : List Im) : ∀ u ∈ itV M, u.oneCell' = true := by
 intro u hu
 unfold itV at hu
 obtain ⟨p, hp, hu⟩ := List.mem_flatMap.1 hu
 simp only [itC, List.mem_cons, List.not_mem_nil, or_false] at hu
 rcases hu with rfl | rfl | rfl | rfl | rfl | rfl | rfl | rfl <;> rfl
theorem strV_one (xs : List (List UInt8)) : ∀ u ∈ strV xs, u.oneCell' = true := by
 intro u hu
 obtain ⟨x, _, rfl⟩ := List.mem_map.1 hu
 rfl
theorem vals_one {v : Value} {vs : List Value} {w : World} (h : IsVals v vs w) : v.oneCell' = true := by
 obtain ⟨a, cap, rfl, _⟩ := h
 rfl
/-- A slice that reads as texts. -/
def IsGrp (v : Value) (g : List (List UInt8)) (w : World) : Prop := IsVals v (strV g) w ∧ ∃ a cap, v = .slice a g.length cap ∧ g.length ≤ cap
theorem IsGrp.ret {v : Value} {g : List (List UInt8)} {w w' : World} (h : IsGrp v g w) (hb : Below w.heap.size w w') : IsGrp v g w' := ⟨h.1.ret hb, h.2⟩
theorem IsGrp.own {B : Nat} {v : Value} {g : List (List UInt8)} {w : World} {e : TypeId} (h : w.ownsRow B e 1 v g.length (strV g)) : IsGrp v g w := by
 refine ⟨own_vals h, ?_⟩
 rcases h.2 with ⟨h1, h2⟩ | ⟨b, cap, cur, h1, _, _, h2, _⟩
 ·exact ⟨none, 0, by rw [h1, h2], by omega⟩
 ·exact ⟨_, cap, h1, h2⟩
theorem IsGrp.nil (w : World) : IsGrp (.slice none 0 0) [] w := ⟨IsVals.nil w, none, 0, rfl, Nat.le_refl _⟩
/-- A slice that reads as contacts. -/
def IsItems (v : Value) (M : List Im) (w : World) : Prop := IsRow 8 v M.length (itV M) w ∧ ∀ p ∈ M, IsGrp (gvI p) p.1.g w
theorem IsItems.ret {v : Value} {M : List Im} {w w' : World} (h : IsItems v M w) (hb : Below w.heap.size w w') : IsItems v M w' := ⟨h.1.ret hb, fun p hp => (h.2 p hp).ret hb⟩
theorem IsItems.nil (w : World) : IsItems (.slice none 0 0) [] w := ⟨IsRow.nil 8 w, fun p hp => by cases hp⟩
theorem IsItems.form {v : Value} {M : List Im} {w : World} (h : IsItems v M w) : ∃ a cap, v = .slice a M.length cap ∧ (a = none → cap = 0 ∧ M = []) := by
 obtain ⟨⟨_, a, cap, h, h0, h1⟩, _⟩ := h
 refine ⟨a, cap, h, fun e => ⟨h0 e, ?_⟩⟩
 rcases h1 with h1 | ⟨b, off, h1, _⟩
 ·exact List.eq_nil_of_length_eq_zero h1
 ·rw [e] at h1; cases h1
/-- the cells of one. -/
theorem IsItems.cell {v : Value} {M : List Im} {w : World} (h : IsItems v M w) {k : Nat} (hk : k < M.length) : ∃ b off cap, v = .slice (some ⟨b, off, none⟩) M.length cap ∧ b < w.heap.size ∧
  (w.cell? ⟨b, off + k * 8, none⟩ = some (.string ⟨M[k].1.j.toArray⟩) ∧ w.cell? ⟨b, off + k * 8 + 1, none⟩ = some (.string ⟨M[k].1.n.toArray⟩) ∧ w.cell? ⟨b, off + k * 8 + 2, none⟩ = some (gvI M[k]) ∧
   w.cell? ⟨b, off + k * 8 + 3, none⟩ = some (.bool M[k].1.s.1) ∧ w.cell? ⟨b, off + k * 8 + 4, none⟩ = some (.bool M[k].1.s.2.1) ∧ w.cell? ⟨b, off + k * 8 + 5, none⟩ = some (.bool M[k].1.s.2.2.1) ∧
   w.cell? ⟨b, off + k * 8 + 6, none⟩ = some (.bool M[k].1.s.2.2.2) ∧ w.cell? ⟨b, off + k * 8 + 7, none⟩ = some (.bool M[k].1.k)) := by
 obtain ⟨⟨hl, a, cap, rfl, _, hc⟩, _⟩ := h
 rcases hc with h0 | ⟨b, off, rfl, h1, h2⟩
 ·omega
 ·have hl2 := itV_len M
  have g : ∀ c (hc : c < 8), w.cell? ⟨b, off + k * 8 + c, none⟩ = (itC M[k])[c]? := fun c hc => by
   have d := h2 (k * 8 + c) (by omega)
   have i := itV_at M k hk c hc
   rw [List.getElem?_eq_getElem (by omega)] at i
   rw [Nat.add_assoc, d, i]
  exact ⟨b, off, cap, rfl, h1, g 0 (by omega), g 1 (by omega), g 2 (by omega), g 3 (by omega), g 4 (by omega), g 5 (by omega), g 6 (by omega), g 7 (by omega)⟩
/-- .. that lies in memory of the call's own. -/
def OwnItems (B : Nat) (v : Value) (M : List Im) (w : World) : Prop :=
 w.ownsRow B 99 8 v M.length (itV M) ∧ ∀ p ∈ M, w.ownsRow B 9 1 (gvI p) p.1.g.length (strV p.1.g)
theorem OwnItems.items {B : Nat} {v : Value} {M : List Im} {w : World} (h : OwnItems B v M w) : IsItems v M w := ⟨own_row h.1, fun p hp => IsGrp.own (h.2 p hp)⟩
theorem OwnItems.ret {B : Nat} {v : Value} {M : List Im} {w w' : World} (h : OwnItems B v M w) (hb : Below w.heap.size w w') : OwnItems B v M w' := ⟨own_below h.1 hb, fun p hp => own_below (h.2 p hp) hb⟩
theorem OwnItems.mono {B C : Nat} {v : Value} {M : List Im} {w : World} (h : OwnItems B v M w) (hb : C ≤ B) : OwnItems C v M w := ⟨h.1.mono hb, fun p hp => (h.2 p hp).mono hb⟩
theorem OwnItems.nil (B : Nat) (w : World) : OwnItems B (.slice none 0 0) [] w := ⟨World.ownsRow_nil _ _ _ _, fun p hp => by cases hp⟩
/-- a block of eight cells. -/
structure It8 (L : Nat) (v0 v1 v2 v3 v4 v5 v6 v7 : Value) (w : World) : Prop where
 lt : L < w.heap.size
 c0 : w.cell? ⟨L, 0, none⟩ = some v0
 c1 : w.cell? ⟨L, 1, none⟩ = some v1
 c2 : w.cell? ⟨L, 2, none⟩ = some v2
 c3 : w.cell? ⟨L, 3, none⟩ = some v3
 c4 : w.cell? ⟨L, 4, none⟩ = some v4
 c5 : w.cell? ⟨L, 5, none⟩ = some v5
 c6 : w.cell? ⟨L, 6, none⟩ = some v6
 c7 : w.cell? ⟨L, 7, none⟩ = some v7
 f0 : w.frozen? ⟨L, 0, none⟩ = false
 f1 : w.frozen? ⟨L, 1, none⟩ = false
 f2 : w.frozen? ⟨L, 2, none⟩ = false
 f3 : w.frozen? ⟨L, 3, none⟩ = false
 f4 : w.frozen? ⟨L, 4, none⟩ = false
 f5 : w.frozen? ⟨L, 5, none⟩ = false
 f6 : w.frozen? ⟨L, 6, none⟩ = false
 f7 : w.frozen? ⟨L, 7, none⟩ = false
theorem It8.ret {L : Nat} {v0 v1 v2 v3 v4 v5 v6 v7 : Value} {w w' : World} (h : It8 L v0 v1 v2 v3 v4 v5 v6 v7 w) (hb : Below w.heap.size w w') : It8 L v0 v1 v2 v3 v4 v5 v6 v7 w' := by
 obtain ⟨q, r⟩ := bcell hb
 have hl := h.lt
 exact ⟨Nat.lt_of_lt_of_le hl hb.size, (q _ _ hl).trans h.c0, (q _ _ hl).trans h.c1, (q _ _ hl).trans h.c2, (q _ _ hl).trans h.c3, (q _ _ hl).trans h.c4, (q _ _ hl).trans h.c5, (q _ _ hl).trans h.c6, (q _ _ hl).trans h.c7,
  (r _ _ hl).trans h.f0, (r _ _ hl).trans h.f1, (r _ _ hl).trans h.f2, (r _ _ hl).trans h.f3, (r _ _ hl).trans h.f4, (r _ _ hl).trans h.f5, (r _ _ hl).trans h.f6, (r _ _ hl).trans h.f7⟩
theorem It8.new (w : World) (v0 v1 v2 v3 v4 v5 v6 v7 : Value) (t : TypeId) : It8 w.heap.size v0 v1 v2 v3 v4 v5 v6 v7 (w.alloc (.cells #[v0, v1, v2, v3, v4, v5, v6, v7] t)) := by constructor <;> simp
abbrev ItAt (L : Nat) (p : Im) (w : World) : Prop := It8 L (.string ⟨p.1.j.toArray⟩) (.string ⟨p.1.n.toArray⟩) (gvI p) (.bool p.1.s.1) (.bool p.1.s.2.1) (.bool p.1.s.2.2.1) (.bool p.1.s.2.2.2) (.bool p.1.k) w
/-- a block of two cells. -/
structure Two (L : Nat) (v0 v1 : Value) (w : World) : Prop where
 lt : L < w.heap.size
 c0 : w.cell? ⟨L, 0, none⟩ = some v0
 c1 : w.cell? ⟨L, 1, none⟩ = some v1
 f0 : w.frozen? ⟨L, 0, none⟩ = false
 f1 : w.frozen? ⟨L, 1, none⟩ = false
theorem Two.ret {L : Nat} {v0 v1 : Value} {w w' : World} (h : Two L v0 v1 w) (hb : Below w.heap.size w w') : Two L v0 v1 w' := by
 obtain ⟨q, r⟩ := bcell hb
 have hl := h.lt
 exact ⟨Nat.lt_of_lt_of_le hl hb.size, (q _ _ hl).trans h.c0, (q _ _ hl).trans h.c1, (r _ _ hl).trans h.f0, (r _ _ hl).trans h.f1⟩
theorem Two.new (w : World) (v0 v1 : Value) (t : TypeId) : Two w.heap.size v0 v1 (w.alloc (.cells #[v0, v1] t)) := by constructor <;> simp
theorem vinfo_item : (Tryz.prog.info? 99).map (fun i => (i.zero, i.size, i.bytes)) = some (some (.agg #[.string ⟨#[]⟩, .string ⟨#[]⟩, .slice none 0 0, .bool false, .bool false, .bool false, .bool false, .bool false]), 8, 64) := by kernel_rfl
end Go.Proofs.YtjgeiieiinmdnaaGreatDoor
