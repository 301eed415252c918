/- Tk: put together by mergetpl.py. -/
import Derived.Deep.RegionHeld3
import Derived.Test.YtjgeiieiinmdnaaGreatDoorGa
namespace Go.Proofs.YtjgeiieiinmdnaaGreatDoor
section
variable {P : Program} {ops : Array Oper} {Q : Exit → Act → World → Prop} {md : Region.Mode} {S : World → Prop}

/-- An operation whose guard keeps it from running. -/
theorem tk_off {i : Nat} (d : Option Tmp) {fuel : Nat} {listed : Array Bool} {a : Act} {w : World} (hd : (ops[i]?).map (fun o => (o.dst, Region.wanted o (yielded ops a.tmps))) = some (d, false))
  (hs : Region.noSelect ops = true) (hf : Region.free md ops listed i = true) (hr : (Region.ready md ops listed).contains i = true)
  (hQ : ∀ c a' w', Q (.panic c) (a'.put d undef) w' → Q (.panic c) a' w') (hS : S w)
  (h : wpAnyH P md ops Q S fuel (listed.setIfInBounds i true) (a.put d undef) w) : wpAnyH P md ops Q S (fuel + 1) listed a w := by
 obtain ⟨o, ho, he⟩ := Option.map_eq_some_iff.1 hd
 obtain ⟨h1, h2⟩ := Prod.mk.inj he
 subst h1
 exact wpAnyH_take ho hs hf hr (hQ) (.inr ⟨h2, rfl⟩) hS h
/-- One that yields in every world that meets S. -/
theorem tk_on {i : Nat} (d : Option Tmp) {v : Value} {fuel : Nat} {listed : Array Bool} {a : Act} {w : World} (hd : (ops[i]?).map (fun o => (o.dst, Region.wanted o (yielded ops a.tmps))) = some (d, true))
  (hs : Region.noSelect ops = true) (hf : Region.free md ops listed i = true) (hr : (Region.ready md ops listed).contains i = true)
  (hQ : ∀ c a' w', Q (.panic c) (a'.put d v) w' → Q (.panic c) a' w') (hS : S w)
  (hy : ∀ o, ops[i]? = some o → ∀ w', S w' → (execOp a.eval o).run P w' = .ok (.value v) w')
  (h : wpAnyH P md ops Q S fuel (listed.setIfInBounds i true) (a.put d v) w) : wpAnyH P md ops Q S (fuel + 1) listed a w := by
 obtain ⟨o, ho, he⟩ := Option.map_eq_some_iff.1 hd
 obtain ⟨h1, h2⟩ := Prod.mk.inj he
 subst h1
 exact wpAnyH_take ho hs hf hr (hQ) (.inl ⟨h2, hy o ho⟩) hS h
/-- Free operations, one behind the other: their numbers and slots are read off the goal. -/
def RunL (_ : List (Nat × Option Tmp)) (p : Prop) : Prop := p
theorem tk_start (L : List (Nat × Option Tmp)) {p : Prop} (h : RunL L p) : p := h
theorem tk_end {p : Prop} (h : p) : RunL [] p := h
theorem tk_step {i : Nat} {d : Option Tmp} {r : List (Nat × Option Tmp)} {v : Value} {fuel : Nat} {listed : Array Bool} {a : Act} {w : World} (hd : (ops[i]?).map (fun o => (o.dst, Region.wanted o (yielded ops a.tmps))) = some (d, true))
  (hc : (Region.noSelect ops && (Region.free md ops listed i && (Region.ready md ops listed).contains i)) = true)
  (hQ : ∀ c a' w', Q (.panic c) (a'.put d v) w' → Q (.panic c) a' w') (hS : S w)
  (hy : ∀ o, ops[i]? = some o → ∀ w', S w' → (execOp a.eval o).run P w' = .ok (.value v) w')
  (h : RunL r (wpAnyH P md ops Q S fuel (listed.setIfInBounds i true) (a.put d v) w)) : RunL ((i, d) :: r) (wpAnyH P md ops Q S (fuel + 1) listed a w) := by
 simp only [Bool.and_eq_true] at hc
 exact tk_on d hd hc.1 hc.2.1 hc.2.2 hQ hS hy h
/-- The only one that may come up. -/
theorem tk_call {i : Nat} {fuel : Nat} {listed : Array Bool} {a : Act} {w : World} (hd : (ops[i]?).map (fun o => Region.wanted o (yielded ops a.tmps)) = some true)
  (hr : Region.ready md ops listed = [i])
  (h : ∀ o, ops[i]? = some o → ∀ K : Act → World → Prop, Shut (∀ a w, S w → (S w → wpAnyH P md ops Q S fuel (listed.setIfInBounds i true) a w) → K a w) → Oper.wp P o a w K Q) : wpAnyH P md ops Q S (fuel + 1) listed a w := by
 obtain ⟨o, ho, h2⟩ := Option.map_eq_some_iff.1 hd
 refine wpAnyH_ready hr (by simp) (AllReadyH.cons ho (fun K hK => ?_) AllReadyH.nil)
 rw [if_pos h2]
 exact h o ho K hK
/-- One of several that may come up. -/
theorem tk_cons {i : Nat} {rs : List Nat} {fuel : Nat} {listed : Array Bool} {a : Act} {w : World} (hd : (ops[i]?).map (fun o => Region.wanted o (yielded ops a.tmps)) = some true)
  (h : ∀ o, ops[i]? = some o → ∀ K : Act → World → Prop, Shut (∀ a w, S w → (S w → wpAnyH P md ops Q S fuel (listed.setIfInBounds i true) a w) → K a w) → Oper.wp P o a w K Q)
  (hs : AllReadyH P md ops Q S fuel listed a w rs) : AllReadyH P md ops Q S fuel listed a w (i :: rs) := by
 obtain ⟨o, ho, h2⟩ := Option.map_eq_some_iff.1 hd
 refine AllReadyH.cons ho (fun K hK => ?_) hs
 rw [if_pos h2]
 exact h o ho K hK
end
end Go.Proofs.YtjgeiieiinmdnaaGreatDoor
