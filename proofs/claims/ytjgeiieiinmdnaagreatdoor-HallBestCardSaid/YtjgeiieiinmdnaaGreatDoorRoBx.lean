/- Boxes: a block of cells by its list; rows of the call's own below a bound. -/
import Derived.Test.YtjgeiieiinmdnaaGreatDoorKp
import Derived.Test.YtjgeiieiinmdnaaGreatDoorKn
namespace Go.Proofs.YtjgeiieiinmdnaaGreatDoor
open Go.RowKit Go.Lib

def Bx (L : Nat) (cs : List Value) (w : World) : Prop := L < w.heap.size ∧ ∀ i v, cs[i]? = some v → w.cell? ⟨L, i, none⟩ = some v ∧ w.frozen? ⟨L, i, none⟩ = false
theorem Bx.lt {L : Nat} {cs : List Value} {w : World} (h : Bx L cs w) : L < w.heap.size := h.1
theorem Bx.at {L : Nat} {cs : List Value} {w : World} (h : Bx L cs w) (i : Nat) {v : Value} (hi : cs[i]? = some v) : w.cell? ⟨L, i, none⟩ = some v := (h.2 i v hi).1
theorem Bx.fz {L : Nat} {cs : List Value} {w : World} (h : Bx L cs w) (i : Nat) (hi : i < cs.length) : w.frozen? ⟨L, i, none⟩ = false := (h.2 i _ (List.getElem?_eq_getElem hi)).2
theorem Bx.ret {L : Nat} {cs : List Value} {w w' : World} (h : Bx L cs w) (hb : Below w.heap.size w w') : Bx L cs w' := by
 obtain ⟨q, r⟩ := bcell hb
 exact ⟨Nat.lt_of_lt_of_le h.1 hb.size, fun i v hi => ⟨(q _ _ h.1).trans (h.2 i v hi).1, (r _ _ h.1).trans (h.2 i v hi).2⟩⟩
theorem Bx.retB {B L : Nat} {cs : List Value} {w w' : World} (h : Bx L cs w) (hb : Below B w w') (hl : L < B) : Bx L cs w' :=
 ⟨Nat.lt_of_lt_of_le h.1 hb.size, fun i v hi => ⟨(hb.cell (p := ⟨L, i, none⟩) hl).trans (h.2 i v hi).1, (hb.frozen (p := ⟨L, i, none⟩) hl).trans (h.2 i v hi).2⟩⟩
theorem Bx.same {L : Nat} {cs : List Value} {w w' : World} (h : Bx L cs w) (hk : w'.heap[L]? = w.heap[L]?) : Bx L cs w' := by
 refine ⟨?_, fun i v hi => ?_⟩
 ·rcases Nat.lt_or_ge L w'.heap.size with h1 | h1
  ·exact h1
  ·rw [Array.getElem?_eq_none h1, Array.getElem?_eq_getElem h.1] at hk
   cases hk
 ·obtain ⟨h1, h2⟩ := h.2 i v hi
  exact ⟨by rw [← h1]; simp only [World.cell?, hk], by rw [← h2]; simp only [World.frozen?, hk]⟩
theorem Bx.new (w : World) (cs : List Value) (t : TypeId) : Bx w.heap.size cs (w.alloc (.cells cs.toArray t)) := by
 refine ⟨by simp, fun i v hi => ⟨?_, ?_⟩⟩
 ·rw [World.cell?_alloc_new]
  simpa using hi
 ·simp
theorem Bx.set {L : Nat} {cs : List Value} {w : World} (h : Bx L cs w) (i : Nat) (hi : i < cs.length) (x : Value) : Bx L (cs.set i x) (w.setCell ⟨L, i, none⟩ x) := by
 have hc := h.at i (List.getElem?_eq_getElem hi)
 refine ⟨by simpa using h.1, fun j v hj => ⟨?_, ?_⟩⟩
 ·by_cases e : i = j
  ·subst e
   rw [List.getElem?_set_self hi] at hj
   cases hj
   exact World.cell?_setCell_same _ _ _ hc
  ·rw [List.getElem?_set_ne e] at hj
   rw [World.cell?_setCell_other _ _ _ _ (by simp only [ne_eq, Addr.mk.injEq, not_and]; omega)]
   exact (h.2 j v hj).1
 ·rw [World.frozen?_setCell]
  rcases Nat.lt_or_ge j cs.length with hl | hl
  ·exact h.fz j hl
  ·rw [List.getElem?_eq_none (by simpa using hl)] at hj
   cases hj
theorem Bx.other {L g o : Nat} {cs : List Value} {w : World} (h : Bx L cs w) (hne : L ≠ g) (x : Value) : Bx L cs (w.setCell ⟨g, o, none⟩ x) :=
 ⟨by simpa using h.1, fun j v hj => ⟨by rw [World.cell?_setCell_other _ _ _ _ (by simp only [ne_eq, Addr.mk.injEq, not_and]; omega)]; exact (h.2 j v hj).1, by rw [World.frozen?_setCell]; exact (h.2 j v hj).2⟩⟩
theorem Bx.two {L : Nat} {v0 v1 : Value} {w : World} (h : Bx L [v0, v1] w) : Two L v0 v1 w := ⟨h.1, h.at 0 rfl, h.at 1 rfl, h.fz 0 (by simp), h.fz 1 (by simp)⟩
theorem Bx.it8 {L : Nat} {v0 v1 v2 v3 v4 v5 v6 v7 : Value} {w : World} (h : Bx L [v0, v1, v2, v3, v4, v5, v6, v7] w) : It8 L v0 v1 v2 v3 v4 v5 v6 v7 w :=
 ⟨h.1, h.at 0 rfl, h.at 1 rfl, h.at 2 rfl, h.at 3 rfl, h.at 4 rfl, h.at 5 rfl, h.at 6 rfl, h.at 7 rfl, h.fz 0 (by simp), h.fz 1 (by simp), h.fz 2 (by simp), h.fz 3 (by simp), h.fz 4 (by simp), h.fz 5 (by simp), h.fz 6 (by simp), h.fz 7 (by simp)⟩

/-! ### rows of the call's own, below a bound -/
theorem own_set {w : World} {B g o n size : Nat} {e : TypeId} {v : Value} {xs : List Value} (h : w.ownsRow B e size v n xs) (hne : v.ownBlock ≠ some g) (x : Value) : (w.setCell ⟨g, o, none⟩ x).ownsRow B e size v n xs := by
 refine h.kept (row := some g) ⟨rfl, rfl, rfl, by simp, fun k _ hk => heap_setCell_other w ⟨g, o, none⟩ k x (fun e => hk (by simp [e]))⟩ ?_
 cases hv : v.ownBlock with
 | none => exact .inl rfl
 | some b => exact .inr (by rw [← hv]; exact hne)
/-- a row of the call's own: from block C on, below block D. -/
def OwB (C D : Nat) (e : TypeId) (size : Nat) (v : Value) (n : Nat) (xs : List Value) (w : World) : Prop := w.ownsRow C e size v n xs ∧ ∀ g, v.ownBlock = some g → g < D
theorem OwB.mk' {C n size : Nat} {e : TypeId} {v : Value} {xs : List Value} {w : World} (h : w.ownsRow C e size v n xs) : OwB C w.heap.size e size v n xs w := ⟨h, fun g hg => (h.lt g hg).2⟩
theorem OwB.ret {C D n size : Nat} {e : TypeId} {v : Value} {xs : List Value} {w w' : World} (h : OwB C D e size v n xs w) (hb : Below w.heap.size w w') : OwB C D e size v n xs w' := ⟨own_below h.1 hb, h.2⟩
theorem OwB.mono {C C' D D' n size : Nat} {e : TypeId} {v : Value} {xs : List Value} {w : World} (h : OwB C D e size v n xs w) (hC : C' ≤ C) (hD : D ≤ D') : OwB C' D' e size v n xs w := ⟨h.1.mono hC, fun g hg => Nat.lt_of_lt_of_le (h.2 g hg) hD⟩
theorem OwB.set {C D n size g o : Nat} {e : TypeId} {v : Value} {xs : List Value} {w : World} (h : OwB C D e size v n xs w) (hg : g < C ∨ D ≤ g) (x : Value) : OwB C D e size v n xs (w.setCell ⟨g, o, none⟩ x) :=
 ⟨own_set h.1 (fun e => by have h1 := h.2 g e; have h2 := (h.1.lt g e).1; omega) x, h.2⟩
theorem OwB.keep {C D n size : Nat} {e : TypeId} {v : Value} {xs : List Value} {w w' : World} (h : OwB C D e size v n xs w) (hk : ∀ k, C ≤ k → k < D → w'.heap[k]? = w.heap[k]?) : OwB C D e size v n xs w' := by
 refine ⟨⟨h.1.1, ?_⟩, h.2⟩
 rcases h.1.2 with h1 | ⟨g, cap, cur, e1, hb, hg, r⟩
 ·exact .inl h1
 ·exact .inr ⟨g, cap, cur, e1, hb, by rw [hk g hb (h.2 g (by rw [e1]; rfl))]; exact hg, r⟩
/-- a list of contacts of the call's own. -/
def OwnB (C D : Nat) (v : Value) (M : List Im) (w : World) : Prop := OwB C D 99 8 v M.length (itV M) w ∧ ∀ p ∈ M, OwB C D 9 1 (gvI p) p.1.g.length (strV p.1.g) w
theorem OwnB.own {C D : Nat} {v : Value} {M : List Im} {w : World} (h : OwnB C D v M w) : OwnItems C v M w := ⟨h.1.1, fun p hp => (h.2 p hp).1⟩
theorem OwnB.mk' {C : Nat} {v : Value} {M : List Im} {w : World} (h : OwnItems C v M w) : OwnB C w.heap.size v M w := ⟨OwB.mk' h.1, fun p hp => OwB.mk' (h.2 p hp)⟩
theorem OwnB.ret {C D : Nat} {v : Value} {M : List Im} {w w' : World} (h : OwnB C D v M w) (hb : Below w.heap.size w w') : OwnB C D v M w' := ⟨h.1.ret hb, fun p hp => (h.2 p hp).ret hb⟩
theorem OwnB.mono {C C' D D' : Nat} {v : Value} {M : List Im} {w : World} (h : OwnB C D v M w) (hC : C' ≤ C) (hD : D ≤ D') : OwnB C' D' v M w := ⟨h.1.mono hC hD, fun p hp => (h.2 p hp).mono hC hD⟩
theorem OwnB.set {C D g o : Nat} {v : Value} {M : List Im} {w : World} (h : OwnB C D v M w) (hg : g < C ∨ D ≤ g) (x : Value) : OwnB C D v M (w.setCell ⟨g, o, none⟩ x) := ⟨h.1.set hg x, fun p hp => (h.2 p hp).set hg x⟩
theorem OwnB.keep {C D : Nat} {v : Value} {M : List Im} {w w' : World} (h : OwnB C D v M w) (hk : ∀ k, C ≤ k → k < D → w'.heap[k]? = w.heap[k]?) : OwnB C D v M w' := ⟨h.1.keep hk, fun p hp => (h.2 p hp).keep hk⟩
theorem OwnB.nil (C D : Nat) (w : World) : OwnB C D (.slice none 0 0) [] w := ⟨⟨World.ownsRow_nil _ _ _ _, fun g hg => by cases hg⟩, fun p hp => by cases hp⟩

/-! ### results out of boxes -/
theorem ret_r1 {fn : Func} {tmps : Array Value} {W : World} {R p : Nat} {v0 v1 : Value} (h : fn.results = #[.cell p 31]) (h2 : tmps.getD p undef = .pointer (some ⟨R, 0, none⟩)) (k : Bx R [v0, v1] W) :
  (results fn tmps).run Tryz.prog W = .ok (.agg #[v0, v1]) W := ret_two1 h h2 k.two
theorem ret_r2 {fn : Func} {tmps : Array Value} {W : World} {R p q : Nat} {v0 v1 e : Value} (h : fn.results = #[.cell p 31, .tmp q]) (h2 : tmps.getD p undef = .pointer (some ⟨R, 0, none⟩)) (h3 : tmps.getD q undef = e) (k : Bx R [v0, v1] W) :
  (results fn tmps).run Tryz.prog W = .ok (.tuple #[.agg #[v0, v1], e]) W := by
 have c0 := k.at 0 rfl
 have c1 := k.at 1 rfl
 rw [results_cell_tmp h, h2, h3]
 simp [go_sem, Result.andThen, c0, c1]
theorem ret_r3 {fn : Func} {tmps : Array Value} {W : World} {R R' p q r : Nat} {v0 v1 u0 u1 u2 u3 u4 u5 u6 u7 e : Value} (h : fn.results = #[.cell p 31, .cell q 99, .tmp r]) (h2 : tmps.getD p undef = .pointer (some ⟨R, 0, none⟩)) (h3 : tmps.getD q undef = .pointer (some ⟨R', 0, none⟩)) (h4 : tmps.getD r undef = e) (k : Bx R [v0, v1] W) (k' : Bx R' [u0, u1, u2, u3, u4, u5, u6, u7] W) :
  (results fn tmps).run Tryz.prog W = .ok (.tuple #[.agg #[v0, v1], .agg #[u0, u1, u2, u3, u4, u5, u6, u7], e]) W := by
 have c0 := k.at 0 rfl
 have c1 := k.at 1 rfl
 have d0 := k'.at 0 rfl
 have d1 := k'.at 1 rfl
 have d2 := k'.at 2 rfl
 have d3 := k'.at 3 rfl
 have d4 := k'.at 4 rfl
 have d5 := k'.at 5 rfl
 have d6 := k'.at 6 rfl
 have d7 := k'.at 7 rfl
 simp only [Array.getD_eq_getD_getElem?] at h2 h3 h4
 simp [results, h, h2, h3, h4, go_sem, Result.andThen, c0, c1, d0, d1, d2, d3, d4, d5, d6, d7]
theorem ret_r4 {fn : Func} {tmps : Array Value} {W : World} {R p q r s : Nat} {v0 v1 e f g : Value} (h : fn.results = #[.cell p 31, .tmp q, .tmp r, .tmp s]) (h2 : tmps.getD p undef = .pointer (some ⟨R, 0, none⟩)) (h3 : tmps.getD q undef = e) (h4 : tmps.getD r undef = f) (h5 : tmps.getD s undef = g) (k : Bx R [v0, v1] W) :
  (results fn tmps).run Tryz.prog W = .ok (.tuple #[.agg #[v0, v1], e, f, g]) W := by
 have c0 := k.at 0 rfl
 have c1 := k.at 1 rfl
 simp only [Array.getD_eq_getD_getElem?] at h2 h3 h4 h5
 simp [results, h, h2, h3, h4, h5, go_sem, Result.andThen, c0, c1]
theorem ret_r5 {fn : Func} {tmps : Array Value} {W : World} {R p q r s t : Nat} {v0 v1 e f g i : Value} (h : fn.results = #[.cell p 31, .tmp q, .tmp r, .tmp s, .tmp t]) (h2 : tmps.getD p undef = .pointer (some ⟨R, 0, none⟩)) (h3 : tmps.getD q undef = e) (h4 : tmps.getD r undef = f) (h5 : tmps.getD s undef = g) (h6 : tmps.getD t undef = i) (k : Bx R [v0, v1] W) :
  (results fn tmps).run Tryz.prog W = .ok (.tuple #[.agg #[v0, v1], e, f, g, i]) W := by
 have c0 := k.at 0 rfl
 have c1 := k.at 1 rfl
 simp only [Array.getD_eq_getD_getElem?] at h2 h3 h4 h5 h6
 simp [results, h, h2, h3, h4, h5, h6, go_sem, Result.andThen, c0, c1]
theorem ret_r3b {fn : Func} {tmps : Array Value} {W : World} {R p q r : Nat} {v0 v1 e f : Value} (h : fn.results = #[.cell p 31, .tmp q, .tmp r]) (h2 : tmps.getD p undef = .pointer (some ⟨R, 0, none⟩)) (h3 : tmps.getD q undef = e) (h4 : tmps.getD r undef = f) (k : Bx R [v0, v1] W) :
  (results fn tmps).run Tryz.prog W = .ok (.tuple #[.agg #[v0, v1], e, f]) W := by
 have c0 := k.at 0 rfl
 have c1 := k.at 1 rfl
 simp only [Array.getD_eq_getD_getElem?] at h2 h3 h4
 simp [results, h, h2, h3, h4, go_sem, Result.andThen, c0, c1]
end Go.Proofs.YtjgeiieiinmdnaaGreatDoor
