/- Rosters, plain: what Set, Drop, Send and Take answer. -/
import Derived.Test.YtfonkblbgadhmaaGreatDoorKj
import Derived.Test.YtfonkblbgadhmaaGreatDoorSubF
import Derived.Test.YtfonkblbgadhmaaGreatDoorKi
import Derived.Test.YtfonkblbgadhmaaGreatDoorKm
namespace Go.Proofs.YtfonkblbgadhmaaGreatDoor

def subSend (s : Sb) (k : Int) : Sb × Bool := ((m1 s.1 k, m2 s.1 s.2.1 k, n1 s.2.2.1 s.2.2.2 k, n2 s.2.2.2 k), sgo s.2.2.1 s.2.2.2 k)
def subTake (s : Sb) (k : Int) : Sb × Bool × Int := ((n1 s.1 s.2.1 k, n2 s.2.1 k, m1 s.2.2.1 k, m2 s.2.2.1 s.2.2.2 k), ttold s.1 s.2.1 s.2.2.1 s.2.2.2 k, if k = 1 ∧ s.2.2.1 = true then 2 else 0)
theorem subMay_ho {s : Sb} (h : subMay s = true) : (s.1 && s.2.1 || s.2.2.1 && s.2.2.2) = false := by
 obtain ⟨a, b, c, d⟩ := s
 revert h
 cases a <;> cases b <;> cases c <;> cases d <;> decide
theorem ho_subMay {s : Sb} (h : (s.1 && s.2.1 || s.2.2.1 && s.2.2.2) = false) : subMay s = true := by
 obtain ⟨a, b, c, d⟩ := s
 revert h
 cases a <;> cases b <;> cases c <;> cases d <;> decide
theorem send_may {s : Sb} {k : Int} (h : subMay s = true) (h1 : 1 ≤ k) (h2 : k ≤ 4) : subMay (subSend s k).1 = true := by
 obtain ⟨a, b, c, d⟩ := s
 exact ho_subMay (may_send a b c d k (subMay_ho h) h1 h2)
theorem take_may {s : Sb} {k : Int} (h : subMay s = true) (h1 : 1 ≤ k) (h2 : k ≤ 4) : subMay (subTake s k).1 = true := by
 obtain ⟨a, b, c, d⟩ := s
 have := subMay_ho h
 obtain rfl | rfl | rfl | rfl : k = 1 ∨ k = 2 ∨ k = 3 ∨ k = 4 := by omega
 all_goals revert this; cases a <;> cases b <;> cases c <;> cases d <;> decide
/-- the contact's state ahead of it: nothing, where there is none. -/
def wasL (L : List It) (t : List UInt8) : It := (findL L t).getD it0
theorem was_there {L : List It} {t : List UInt8} (hc : chainB L = true) (h : thereL L t = true) : wasL L t = L.getD (posL L t) it0 ∧ (wasL L t).j = t := by
 have e : wasL L t = L.getD (posL L t) it0 := by unfold wasL; rw [(there_find hc).1 h]; rfl
 refine ⟨e, ?_⟩
 rw [e]
 unfold thereL at h
 rw [Bool.and_eq_true, beq_iff_eq] at h
 exact h.2
theorem was_not {L : List It} {t : List UInt8} (hc : chainB L = true) (h : thereL L t = false) : wasL L t = it0 := by
 unfold wasL; rw [(there_find hc).2 h]; rfl
theorem find_there {L : List It} {t : List UInt8} (hc : chainB L = true) : (findL L t).isSome = thereL L t := by
 cases h : thereL L t with
 | true => rw [(there_find hc).1 h]; rfl
 | false => rw [(there_find hc).2 h]; rfl
theorem was_may {L : List It} {v : Int} {t : List UInt8} (h : mayR L v = true) : subMay (wasL L t).s = true ∧ (∀ x ∈ (wasL L t).g, withinP 1 32 x = true) ∧ (wasL L t).g.length ≤ 4 ∧ wordsP (wasL L t).n (wasL L t).g = true := by
 have key : wasL L t = it0 ∨ itemP (wasL L t) = true := by
  unfold wasL
  cases hf : findL L t with
  | none => exact .inl rfl
  | some x => exact .inr ((may_facts21 h).1 x (find_some hf).1)
 rcases key with e | e
 ·rw [e]; exact ⟨rfl, (fun x hx => by cases hx), Nat.zero_le _, by decide +kernel⟩
 ·unfold itemP at e
  simp only [Bool.and_eq_true] at e
  have hw := e.2.1
  refine ⟨e.2.2.1, fun x hx => ?_, ?_, hw⟩
  ·unfold wordsP at hw
   simp only [Bool.and_eq_true, List.all_eq_true] at hw
   exact hw.1 x hx
  ·unfold wordsP at hw
   simp only [Bool.and_eq_true, decide_eq_true_eq] at hw
   exact hw.2.2.2
/-! ### what is answered -/
abbrev setC (L : List It) (v : Int) (t n : List UInt8) (g : List (List UInt8)) : Int :=
 if mayR L v then (if adrOk t && wordsP n g then (if thereL L t || decide (L.length < 16) then 0 else 9) else 2) else 8
abbrev setI (L : List It) (t n : List UInt8) (g : List (List UInt8)) : It := (t, n, g, (wasL L t).s, true)
def setP (L : List It) (v : Int) (t n : List UInt8) (g : List (List UInt8)) : List It × Int := if setC L v t n g = 0 then (putL L (setI L t n g), nextV v) else ([], 0)
abbrev dropC (L : List It) (v : Int) (t : List UInt8) : Int := if mayR L v then (if thereL L t && (wasL L t).k then 0 else 6) else 8
def dropP (L : List It) (v : Int) (t : List UInt8) : List It × Int × It := if dropC L v t = 0 then (goneL L t, nextV v, wasL L t) else ([], 0, it0)
def bL (b : ByteArray) : List UInt8 := b.data.toList
def seenP (x : It) : List UInt8 × Bool := if x.k then (bL (subName x.s.1 x.s.2.2.1), x.s.2.1) else ([], false)
def turnI (x : It) (t : List UInt8) (s : Sb) : It := (t, x.n, x.g, s, x.k || (s.1 || (s.2.1 || s.2.2.1)))
def quitP (y : It) (s : Sb) : Bool := !y.k && decide (s = sb0)
def turnC (L : List It) (t : List UInt8) (s : Sb) : Int := if quitP (turnI (wasL L t) t s) s || (thereL L t || decide (L.length < 16)) then 0 else 9
def pushP (x y : It) : Bool := !(((seenP x).1 == (seenP y).1) && ((seenP x).2 == (seenP y).2))
def turnPush (L : List It) (t : List UInt8) (s : Sb) : Bool := !quitP (turnI (wasL L t) t s) s && pushP (wasL L t) (turnI (wasL L t) t s)
def turnL (L : List It) (t : List UInt8) (s : Sb) : List It := if quitP (turnI (wasL L t) t s) s then goneL L t else putL L (turnI (wasL L t) t s)
def turnV (L : List It) (v : Int) (t : List UInt8) (s : Sb) : Int := if turnPush L t s then nextV v else v
abbrev askC (L : List It) (v : Int) (t : List UInt8) (k : Int) : Int := if mayR L v then (if adrOk t && (decide (1 ≤ k) && decide (k ≤ 4)) then 0 else 2) else 8
def sendC (L : List It) (v : Int) (t : List UInt8) (k : Int) : Int := if askC L v t k = 0 then turnC L t (subSend (wasL L t).s k).1 else askC L v t k
def takeC (L : List It) (v : Int) (t : List UInt8) (k : Int) : Int := if askC L v t k = 0 then turnC L t (subTake (wasL L t).s k).1 else askC L v t k
def sendP (L : List It) (v : Int) (t : List UInt8) (k : Int) : List It × Int × Bool × Bool :=
 if sendC L v t k = 0 then (turnL L t (subSend (wasL L t).s k).1, turnV L v t (subSend (wasL L t).s k).1, (subSend (wasL L t).s k).2, turnPush L t (subSend (wasL L t).s k).1) else ([], 0, false, false)
def takeP (L : List It) (v : Int) (t : List UInt8) (k : Int) : List It × Int × Bool × Int × Bool :=
 if takeC L v t k = 0 then (turnL L t (subTake (wasL L t).s k).1, turnV L v t (subTake (wasL L t).s k).1, (subTake (wasL L t).s k).2.1, (subTake (wasL L t).s k).2.2, turnPush L t (subTake (wasL L t).s k).1) else ([], 0, false, 0, false)
end Go.Proofs.YtfonkblbgadhmaaGreatDoor
