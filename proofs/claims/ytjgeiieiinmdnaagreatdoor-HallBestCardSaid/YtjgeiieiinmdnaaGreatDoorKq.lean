/- RoZb, RoZc, RoLa: put together by mergetpl.py. -/
import Derived.Test.YtjgeiieiinmdnaaGreatDoorKp
import Derived.Test.YtjgeiieiinmdnaaGreatDoorKm
namespace Go.Proofs.YtjgeiieiinmdnaaGreatDoor
open Go.RowKit Go.Lib

end Go.Proofs.YtjgeiieiinmdnaaGreatDoor
namespace Go.Proofs.YtjgeiieiinmdnaaGreatDoor
open Go.RowKit Go.Lib

/-- contacts in memory of one's own; what the texts are does not matter. -/
def Sp (B : Nat) (v : Value) (M : List Im) (w : World) : Prop := (∃ xs, w.ownsRow B 99 8 v M.length xs ∧ ∀ j p, M[j]? = some p → xs[j * 8 + 2]? = some (gvI p)) ∧ ∀ p ∈ M, ∃ ys, w.ownsRow B 9 1 (gvI p) p.1.g.length ys
theorem OwnItems.sp {B : Nat} {v : Value} {M : List Im} {w : World} (h : OwnItems B v M w) : Sp B v M w := by
 refine ⟨⟨_, h.1, fun j p hp => ?_⟩, fun p hp => ⟨_, h.2 p hp⟩⟩
 obtain ⟨hj, rfl⟩ := List.getElem?_eq_some_iff.1 hp
 rw [itV_at M j hj 2 (by omega)]
 rfl
theorem Sp.form {B L cap : Nat} {a : Option Addr} {M : List Im} {w : World} (h : Sp B (.slice a L cap) M w) : M.length = L := by
 obtain ⟨⟨xs, h1, _⟩, _⟩ := h
 obtain ⟨a', c', e, _⟩ := row_form h1
 simp only [Value.slice.injEq] at e
 exact e.2.1.symm
theorem Sp.block {B L cap : Nat} {a : Option Addr} {M : List Im} {w : World} (h : Sp B (.slice a L cap) M w) (h0 : 0 < L) : ∃ g, a = some ⟨g, 0, none⟩ ∧ B ≤ g ∧ g < w.heap.size := by
 have hl := h.form
 obtain ⟨⟨xs, h1, _⟩, _⟩ := h
 obtain ⟨g, e, _, h2, h3⟩ := own_some h1 (by omega)
 exact ⟨g, e, h2, h3⟩
theorem Sp.cells {B L cap g : Nat} {M : List Im} {w : World} (h : Sp B (.slice (some ⟨g, 0, none⟩) L cap) M w) {j : Nat} {p : Im} (hp : M[j]? = some p) :
  w.cell? ⟨g, j * 8 + 2, none⟩ = some (gvI p) ∧ (∃ x, w.cell? ⟨g, j * 8 + 1, none⟩ = some x) ∧ w.frozen? ⟨g, j * 8 + 1, none⟩ = false := by
 have hl := h.form
 obtain ⟨⟨xs, h1, h2⟩, _⟩ := h
 rw [hl] at h1
 have hj : j < L := by have := (List.getElem?_eq_some_iff.1 hp).1; omega
 have hlen : xs.length = L * 8 := h1.1
 refine ⟨by rw [h1.cellAt (j * 8 + 2) (by omega)]; exact h2 j p hp, ⟨xs[j * 8 + 1]'(by omega), ?_⟩, h1.frozenAt _⟩
 rw [h1.cellAt (j * 8 + 1) (by omega)]
 exact List.getElem?_eq_getElem (by omega)
theorem Sp.name {B L cap g : Nat} {M : List Im} {w : World} (h : Sp B (.slice (some ⟨g, 0, none⟩) L cap) M w) (j : Nat) (x : Value) : Sp B (.slice (some ⟨g, 0, none⟩) L cap) M (w.setCell ⟨g, j * 8 + 1, none⟩ x) := by
 have hl := h.form
 obtain ⟨⟨xs, h1, h2⟩, h3⟩ := h
 refine ⟨⟨xs.set (j * 8 + 1) x, by rw [hl] at h1 ⊢; exact (h1.stored (j * 8 + 1) x).1, fun k p hp => ?_⟩, fun p hp => ?_⟩
 ·rw [List.getElem?_set_ne (by omega)]
  exact h2 k p hp
 ·obtain ⟨ys, h4⟩ := h3 p hp
  rw [hl] at h1
  refine ⟨ys, h4.kept (row := some g) ⟨rfl, rfl, rfl, by simp, fun k _ hk => heap_setCell_other w ⟨g, _, none⟩ k x (fun e => hk (by simp [e]))⟩ ?_⟩
  exact .inr (own_apart h1 h4)
theorem Sp.mk {B : Nat} {v : Value} {M : List Im} {w w' : World} (h : Sp B v M w) (hb : Below w.heap.size w w') : Sp B v M w' := by
 obtain ⟨⟨xs, h1, h2⟩, h3⟩ := h
 exact ⟨⟨xs, own_below h1 hb, h2⟩, fun p hp => by obtain ⟨ys, h4⟩ := h3 p hp; exact ⟨ys, own_below h4 hb⟩⟩
theorem Sp.grp {B : Nat} {v : Value} {M : List Im} {w : World} (h : Sp B v M w) {p : Im} (hp : p ∈ M) {e : Nat} (he : e < p.1.g.length) : ∃ g, p.2.1 = some ⟨g, 0, none⟩ ∧ B ≤ g ∧ (∃ x, w.cell? ⟨g, e, none⟩ = some x) ∧ w.frozen? ⟨g, e, none⟩ = false := by
 obtain ⟨ys, h4⟩ := h.2 p hp
 obtain ⟨g, e1, _, h5, _⟩ := own_some h4 (by omega)
 have e2 : gvI p = .slice (some ⟨g, 0, none⟩) p.1.g.length p.2.2 := by show Value.slice p.2.1 _ _ = _; rw [e1]
 rw [e2] at h4
 have hlen : ys.length = p.1.g.length * 1 := h4.1
 refine ⟨g, e1, h5, ⟨ys[e]'(by omega), ?_⟩, h4.frozenAt _⟩
 rw [h4.cellAt e (by omega)]
 exact List.getElem?_eq_getElem (by omega)
end Go.Proofs.YtjgeiieiinmdnaaGreatDoor
namespace Go.Proofs.YtjgeiieiinmdnaaGreatDoor
open Go.RowKit Go.Lib

theorem own_keep {C n size : Nat} {e : TypeId} {v : Value} {xs : List Value} {w w' : World} (h : w.ownsRow C e size v n xs) (hk : ∀ k, C ≤ k → w'.heap[k]? = w.heap[k]?) : w'.ownsRow C e size v n xs := by
 refine ⟨h.1, ?_⟩
 rcases h.2 with h | ⟨g, cap, cur, e1, hb, hg, r⟩
 ·exact .inl h
 ·exact .inr ⟨g, cap, cur, e1, hb, by rw [hk g hb]; exact hg, r⟩
theorem OwnItems.keep {C : Nat} {v : Value} {M : List Im} {w w' : World} (h : OwnItems C v M w) (hk : ∀ k, C ≤ k → w'.heap[k]? = w.heap[k]?) : OwnItems C v M w' := ⟨own_keep h.1 hk, fun p hp => own_keep (h.2 p hp) hk⟩
theorem Two.keep {C L : Nat} {v0 v1 : Value} {w w' : World} (h : Two L v0 v1 w) (hL : C ≤ L) (hk : ∀ k, C ≤ k → w'.heap[k]? = w.heap[k]?) : Two L v0 v1 w' := by
 have e := hk L hL
 have hl : L < w'.heap.size := by
  rcases Nat.lt_or_ge L w'.heap.size with h1 | h1
  ·exact h1
  ·rw [Array.getElem?_eq_none h1, Array.getElem?_eq_getElem h.lt] at e
   cases e
 refine ⟨hl, ?_, ?_, ?_, ?_⟩
 ·rw [← h.c0]; simp only [World.cell?, e]
 ·rw [← h.c1]; simp only [World.cell?, e]
 ·rw [← h.f0]; simp only [World.frozen?, e]
 ·rw [← h.f1]; simp only [World.frozen?, e]
/-- the two rosters in their cells. -/
structure Rr (w : World) (v u : Value) (x y : Int) (W : World) : Prop where
 A : Two w.heap.size v (.int .i64 x) W
 B : Two (w.heap.size + 1) u (.int .i64 y) W
 q : Below w.heap.size w W
theorem Rr.ret {w : World} {v u : Value} {x y : Int} {W W' : World} (h : Rr w v u x y W) (hb : Below W.heap.size W W') : Rr w v u x y W' := ⟨h.A.ret hb, h.B.ret hb, h.q.trans (hb.mono h.q.size)⟩
theorem Rr.new (w : World) (v u : Value) (x y : Int) : Rr w v u x y ((w.alloc (.cells #[v, .int .i64 x] 31)).alloc (.cells #[u, .int .i64 y] 31)) := by
 have a1 := Two.new w v (.int .i64 x) 31
 have b1 := (Below.refl w.heap.size w).alloc (Nat.le_refl _) (.cells #[v, .int .i64 x] 31)
 obtain ⟨W1, h1⟩ : ∃ W, w.alloc (.cells #[v, .int .i64 x] 31) = W := ⟨_, rfl⟩
 have s1 : W1.heap.size = w.heap.size + 1 := by rw [← h1]; simp
 rw [h1] at a1 b1 ⊢
 have a2 := Two.new W1 u (.int .i64 y) 31
 have b2 := (Below.refl W1.heap.size W1).alloc (Nat.le_refl _) (.cells #[u, .int .i64 y] 31)
 rw [s1] at a2
 exact ⟨a1.ret b2, a2, b1.trans (b2.mono b1.size)⟩
end Go.Proofs.YtjgeiieiinmdnaaGreatDoor
