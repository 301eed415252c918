/- RoK, RoL, RoS, RoT, RoU: put together by mergetpl.py. -/
import Derived.Test.YtjgeiieiinmdnaaGreatDoorKm
namespace Go.Proofs.YtjgeiieiinmdnaaGreatDoor
open Go.RowKit Go.Lib

/-- 'clear(s[i:])' of a row of the call's own. -/
theorem run_clear_own {P : Program} (w : World) (B g n cap size i : Nat) (t e : TypeId) (z : Value) (xs : List Value) (ht : P.underlying t = some (.slice e)) (hv : ∀ w, (zeroValue e).run P w = .ok z w) (hz : z.cells.size = size)
  (h1 : ∀ u ∈ z.cells.toList, u.oneCell' = true) (hown : w.ownsRow B e size (.slice (some ⟨g, 0, none⟩) n cap) n xs) (hi : i < n) :
  ∃ w', (∀ ty, (Builtin.clear_ #[t] ty #[.slice (some ⟨g, i * size, none⟩) (n - i) (cap - i)]).run P w = .ok (.tuple #[]) w') ∧ w'.ownsRow B e size (.slice (some ⟨g, 0, none⟩) i cap) i (xs.take (i * size)) ∧ w.grownBy w' (some g) := by
 rcases hown.2 with ⟨h, _⟩ | ⟨g', cap', cur, h, hbg, hg, hnc, hcm, hcs, htake⟩
 ·simp at h
 ·simp only [Value.slice.injEq, Option.some.injEq, Addr.mk.injEq, and_true, true_and] at h
  obtain ⟨rfl, rfl⟩ := h
  have hl : (Builtin.zeroCells z.cells (n - i)).toList.length = (n - i) * size := by rw [Array.length_toList, size_zeroCells, hz]
  have hone : ∀ v ∈ (Builtin.zeroCells z.cells (n - i)).toList, v.oneCell' = true := by
   intro v hv'
   simp only [Builtin.zeroCells, Array.toList_map, List.mem_map, Array.toList_range] at hv'
   obtain ⟨j, hj, rfl⟩ := hv'
   have hj2 := List.mem_range.1 hj
   have hs0 : 0 < z.cells.size := by
    rcases Nat.eq_zero_or_pos z.cells.size with h | h
    ·rw [h, Nat.mul_zero] at hj2; omega
    ·exact h
   have hm : j % z.cells.size < z.cells.size := Nat.mod_lt _ hs0
   rw [getElem!_pos z.cells (j % z.cells.size) hm]
   exact h1 _ (by simp)
  have hsum : i * size + (n - i) * size = n * size := by rw [← Nat.add_mul]; congr 1; omega
  have hle : n * size ≤ cap * size := Nat.mul_le_mul_right _ hnc
  have hst := run_storeCells_at P g (i * size) e (Builtin.zeroCells z.cells (n - i)).toList 0 cur w hg (by rw [hl, hcs]; omega) hone
  simp only [Nat.add_zero] at hst
  obtain ⟨m, hm⟩ : ∃ m, n - i = m + 1 := ⟨n - i - 1, by omega⟩
  refine ⟨w.setRow g (cur.toList.take (i * size) ++ (Builtin.zeroCells z.cells (n - i)).toList ++ cur.toList.drop (i * size + (Builtin.zeroCells z.cells (n - i)).toList.length)).toArray, ?_, ⟨?_, .inr ⟨g, cap, _, rfl, hbg, setRow_heap w g cur _ e _ hg, by omega, hcm, ?_, ?_⟩⟩, ⟨rfl, rfl, rfl, by simp [World.setRow], fun k _ hk => setRow_other w g k _ (fun e => hk (by simp [e]))⟩⟩
  ·intro ty
   rw [hm] at hst ⊢
   simp [Builtin.clear_, run_underlying ht, hv, hst]
  ·rw [List.length_take, hown.1]
   exact Nat.min_eq_left (by omega)
  ·simp only [List.size_toArray, List.length_append, List.length_take, List.length_drop, Array.length_toList, hcs, size_zeroCells, hz]
   omega
  ·rw [List.append_assoc, List.take_append_of_le_length (by rw [List.length_take, Array.length_toList, hcs]; omega), List.take_take, Nat.min_self, ← htake, List.take_take, Nat.min_eq_left (by omega)]
end Go.Proofs.YtjgeiieiinmdnaaGreatDoor
namespace Go.Proofs.YtjgeiieiinmdnaaGreatDoor
open Go.RowKit Go.Lib

def PredAll (f : Value) (q : It → Bool) : Prop := ∃ g lb, f = .func (.func g) #[] lb ∧ (∀ args w, (callFunc g args).run Tryz.prog w = .ok (.enter g args) w) ∧ ∀ (p : Im) (W : World), Calls Tryz.prog g (#[itA p] ++ lb) W (Ret W (.bool (q p.1)))
theorem PredAll.is {f : Value} {q : It → Bool} (h : PredAll f q) (M : List Im) (w : World) : PredIs f q M w := by
 obtain ⟨g, lb, h1, h2, h3⟩ := h
 exact ⟨g, lb, h1, h2, fun p _ W _ => h3 p W⟩
/-- the row, in place or in new memory, of these contacts. -/
def RowIs (B : Nat) (w : World) (N : List Im) (e : Ending) (w' : World) : Prop := ∃ a c, e = .returned (.slice a N.length c) ∧ OwnItems B (.slice a N.length c) N w' ∧ Below B w w'
end Go.Proofs.YtjgeiieiinmdnaaGreatDoor
namespace Go.Proofs.YtjgeiieiinmdnaaGreatDoor
open Go.RowKit Go.Lib

def shownL (L : List It) (ver : Int) : List It := if mayR L ver then L.filter fun x => x.k else []
def ShownIs (w : World) (L : List It) (ver : Int) (e : Ending) (w' : World) : Prop := ∃ a c, e = .returned (.tuple #[.slice a (shownL L ver).length c, .int .i64 (if mayR L ver then 0 else 8)]) ∧ OwnR w (shownL L ver) (.slice a (shownL L ver).length c) w'
end Go.Proofs.YtjgeiieiinmdnaaGreatDoor
namespace Go.Proofs.YtjgeiieiinmdnaaGreatDoor
open Go.RowKit Go.Lib

/-- a contact of these, or none. -/
def F21 (w : World) (M : List Im) (t : List UInt8) (e : Ending) (w' : World) : Prop := Below w.heap.size w w' ∧
 ((∃ p ∈ M, findL (M.map Prod.fst) t = some p.1 ∧ e = .returned (.tuple #[itA p, .bool true])) ∨ (findL (M.map Prod.fst) t = none ∧ e = .returned (.tuple #[itA (it0, (none, 0)), .bool false])))
end Go.Proofs.YtjgeiieiinmdnaaGreatDoor
namespace Go.Proofs.YtjgeiieiinmdnaaGreatDoor
open Go.RowKit Go.Lib

def bigI (x : It) : Bool := decide (500 < x.j.length) || (decide (500 < x.n.length) || (decide (10 < x.g.length) || x.g.any fun y => decide (500 < y.length)))
def greatP (L : List It) : Bool := (L.take 20).any bigI || decide (18 < L.length)
end Go.Proofs.YtjgeiieiinmdnaaGreatDoor
