/- For wire.Feed: stores into the results' cells, and the append of what came. -/
import Derived.Test.YthgmgmbjjjnhnaaGreatDoorWiG
import Derived.Test.YthgmgmbjjjnhnaaGreatDoorRangeA
namespace Go.Proofs.YthgmgmbjjjnhnaaGreatDoor
open Go.RowKit

theorem grownBy_set (W : World) (p : Addr) (v : Value) : W.grownBy (W.setCell p v) (some p.block) :=
  ⟨rfl, rfl, rfl, by simp [World.setCell], fun k _ hk => Below.heap_setCell _ _ _ k (fun e => hk (by rw [e]))⟩
/-- All but block q of the results. -/
theorem FdS.rest {b B : Nat} {w : World} {v : Value} {cs : List Cm} {X : ByteArray} {f : Bool} {W W' : World} {q : Nat} (h : FdS b B w v cs X f W) (hg : W.grownBy W' (some q)) (hq : q ≤ B) (hqb : b ≤ q) :
    W'.ownsRow (B + 1) 40 4 v cs.length (cmsV cs) ∧ Below b w W' ∧ B < W'.heap.size ∧ (q ≠ b + 1 → W'.heap[b + 1]? = some (.cells #[.string X, .bool f] 44 (0, 0))) ∧ (q ≠ b + 2 → Boxed W' (b + 2) 45 v) ∧ (q ≠ b + 3 → Boxed W' (b + 3) 24 (.int .i64 0)) := by
  obtain ⟨ho, hb, hr, he, hB, hl, hbB⟩ := h
  have key : ∀ k, k ≠ q → some k ≠ some q := fun k hk e => hk (by cases e; rfl)
  refine ⟨hr.kept hg ?_, hB.grown hg (by have := hb.lt; omega) (fun k hk => by cases hk; exact hqb), Nat.lt_of_lt_of_le hl hg.size, fun hne => (hg.block _ (by have := hb.lt; omega) (key _ (fun e => hne e.symm))).trans ho, fun hne => hb.kept hg (key _ (fun e => hne e.symm)), fun hne => he.kept hg (key _ (fun e => hne e.symm))⟩
  rcases hr.2 with ⟨rfl, _⟩ | ⟨g, cap, cur, rfl, hgl, _, _⟩
  · exact .inl rfl
  · refine .inr fun e => ?_
    have e' : g = q := by simpa [Value.ownBlock] using e
    omega
theorem FdS.setOut {b B : Nat} {w : World} {v : Value} {cs : List Cm} {X : ByteArray} {f : Bool} {W : World} (h : FdS b B w v cs X f W) (Y : ByteArray) : FdS b B w v cs Y f (W.setCell ⟨b + 1, 0, none⟩ (.string Y)) := by
  obtain ⟨r1, r2, r3, _, r5, r6⟩ := h.rest (grownBy_set W ⟨b + 1, 0, none⟩ (.string Y)) (by have := h.le; show b + 1 ≤ B; omega) (by show b ≤ b + 1; omega)
  refine ⟨?_, r5 (by show b + 1 ≠ b + 2; omega), r1, r6 (by show b + 1 ≠ b + 3; omega), r2, r3, h.le⟩
  have ho := h.out
  simp [World.setCell, Array.getElem?_modify, ho]
theorem FdS.setOff {b B : Nat} {w : World} {v : Value} {cs : List Cm} {X : ByteArray} {f : Bool} {W : World} (h : FdS b B w v cs X f W) (f' : Bool) : FdS b B w v cs X f' (W.setCell ⟨b + 1, 1, none⟩ (.bool f')) := by
  obtain ⟨r1, r2, r3, _, r5, r6⟩ := h.rest (grownBy_set W ⟨b + 1, 1, none⟩ (.bool f')) (by have := h.le; show b + 1 ≤ B; omega) (by show b ≤ b + 1; omega)
  refine ⟨?_, r5 (by show b + 1 ≠ b + 2; omega), r1, r6 (by show b + 1 ≠ b + 3; omega), r2, r3, h.le⟩
  have ho := h.out
  simp [World.setCell, Array.getElem?_modify, ho]
theorem FdS.setL {b B : Nat} {w : World} {v : Value} {cs : List Cm} {X : ByteArray} {f : Bool} {W : World} (h : FdS b B w v cs X f W) : FdS b B w v cs X f (W.setCell ⟨b + 2, 0, none⟩ v) := by
  obtain ⟨r1, r2, r3, r4, _, r6⟩ := h.rest (grownBy_set W ⟨b + 2, 0, none⟩ v) (by have := h.le; show b + 2 ≤ B; omega) (by show b ≤ b + 2; omega)
  exact ⟨r4 (by show b + 2 ≠ b + 1; omega), h.box.set v, r1, r6 (by show b + 2 ≠ b + 3; omega), r2, r3, h.le⟩
theorem FdS.setE {b B : Nat} {w : World} {v : Value} {cs : List Cm} {X : ByteArray} {f : Bool} {W : World} (h : FdS b B w v cs X f W) : FdS b B w v cs X f (W.setCell ⟨b + 3, 0, none⟩ (.int .i64 0)) := by
  obtain ⟨r1, r2, r3, r4, r5, _⟩ := h.rest (grownBy_set W ⟨b + 3, 0, none⟩ (.int .i64 0)) (by have := h.le; show b + 3 ≤ B; omega) (by show b ≤ b + 3; omega)
  exact ⟨r4 (by show b + 3 ≠ b + 1; omega), r5 (by show b + 3 ≠ b + 2; omega), r1, h.err.set _, r2, r3, h.le⟩
theorem FdS.alloc {b B : Nat} {w : World} {v : Value} {cs : List Cm} {X : ByteArray} {f : Bool} {W : World} (h : FdS b B w v cs X f W) (hw : b = w.heap.size) (o : Obj) : FdS b B w v cs X f (W.alloc o) :=
  h.keep hw (Nat.le_refl _) (World.grownBy_alloc W o none) (fun r e => by cases e)
theorem FdS.put {b B : Nat} {w : World} {v : Value} {cs : List Cm} {X : ByteArray} {f : Bool} {W : World} (h : FdS b B w v cs X f W) (hw : b = w.heap.size) {l : Nat} {o : Obj} (o' : Obj) (hl : W.heap[l]? = some o) (ho : o.isCells = false) (hD : b ≤ l) : FdS b B w v cs X f (W.putObj l o') :=
  h.keep hw (Nat.le_refl _) (grownBy_putObj' W l o') (fun r e => by cases e; exact .inr ⟨hD, o, hl, ho⟩)
theorem FdS.drew {b B : Nat} {w : World} {v : Value} {cs : List Cm} {X : ByteArray} {f : Bool} {W : World} (h : FdS b B w v cs X f W) : FdS b B w v cs X f W.drew :=
  ⟨h.out, h.box, h.row, h.err, h.bel.drew, h.lt, h.le⟩
/-- The cells that a walk asks for. -/
theorem FdS.cells {b B : Nat} {w : World} {v : Value} {cs : List Cm} {X : ByteArray} {f : Bool} {W : World} (h : FdS b B w v cs X f W) :
    W.cell? ⟨b + 1, 0, none⟩ = some (.string X) ∧ W.cell? ⟨b + 1, 1, none⟩ = some (.bool f) ∧ W.frozen? ⟨b + 1, 0, none⟩ = false ∧ W.frozen? ⟨b + 1, 1, none⟩ = false ∧
    W.cell? ⟨b + 1 + 1, 0, none⟩ = some v ∧ W.frozen? ⟨b + 1 + 1, 0, none⟩ = false ∧ W.cell? ⟨b + 1 + 1 + 1, 0, none⟩ = some (.int .i64 0) ∧ W.frozen? ⟨b + 1 + 1 + 1, 0, none⟩ = false :=
  ⟨by rw [Lib.cell_of_heap h.out]; rfl, by rw [Lib.cell_of_heap h.out]; rfl, Lib.frozen_of_heap h.out 0, Lib.frozen_of_heap h.out 1, h.box.cell, h.box.frozen, h.err.cell, h.err.frozen⟩
/-- What came is appended: w1 is the world behind the append, ahead of its store. -/
theorem FdS.app {b B : Nat} {w : World} {v v' : Value} {cs : List Cm} {X : ByteArray} {f : Bool} {W w1 : World} {tmp : Obj} (c : Cm) (h : FdS b B w v cs X f W) (hw : b = w.heap.size)
    (hown' : w1.ownsRow (B + 1) 40 4 v' (cs.length + 1) (cmsV cs ++ [.int .i64 c.1, .string ⟨c.2.1.toArray⟩, .string ⟨c.2.2.1.toArray⟩, .bool c.2.2.2])) (hgrow : (W.alloc tmp).grownBy w1 v.ownBlock) :
    Boxed w1 (b + 2) 45 v ∧ w1.heap[b + 1]? = some (.cells #[.string X, .bool f] 44 (0, 0)) ∧ FdS b B w v' (cs ++ [c]) X f (w1.setCell ⟨b + 2, 0, none⟩ v') ∧ KeepsOthers W (w1.setCell ⟨b + 2, 0, none⟩ v') ∧ KeepV B W (w1.setCell ⟨b + 2, 0, none⟩ v') := by
  have hbB := h.le
  have hlt := h.lt
  have hbs := h.bel.size
  obtain ⟨hv1, hv2, hr2, hk2, hb2⟩ := h.box.appended (by decide) (h.row.mono (by omega : b ≤ B + 1)) (by omega) (by omega) (hown'.mono (by omega : b ≤ B + 1)) hgrow
  have low : ∀ k, k ≤ B → some k ≠ v.ownBlock := fun k hk e => by have := (h.row.lt k e.symm).1; omega
  have low' : ∀ k, k ≤ B → some k ≠ v'.ownBlock := fun k hk e => by have := (hown'.lt k e.symm).1; omega
  have blk : ∀ k, k ≤ B → k < W.heap.size → w1.heap[k]? = W.heap[k]? := fun k hk hl => (hgrow.block k (by simp; omega) (low k hk)).trans (Below.heap_alloc _ _ _ hl)
  have hs1 : W.heap.size ≤ w1.heap.size := by have := hgrow.size; simp at this; omega
  have ho1 : w1.heap[b + 1]? = some (.cells #[.string X, .bool f] 44 (0, 0)) := (blk _ (by omega) (by omega)).trans h.out
  refine ⟨hv1, ho1, ⟨?_, hv2, ?_, ?_, h.bel.trans hb2, ?_, hbB⟩, hk2, ?_⟩
  · exact (Below.heap_setCell _ _ _ (b + 1) (by show b + 1 ≠ b + 2; omega)).trans ho1
  · rw [List.length_append, cmsV_snoc]
    refine hown'.kept (grownBy_set w1 ⟨b + 2, 0, none⟩ v') ?_
    rcases hown'.2 with ⟨rfl, _⟩ | _
    · exact .inl rfl
    · exact .inr (low' (b + 2) (by omega)).symm
  · exact (Below.heap_setCell _ _ _ (b + 3) (by show b + 3 ≠ b + 2; omega)).trans ((blk _ (by omega) (by omega)).trans h.err)
  · simp [World.setCell]; omega
  · refine ⟨by simp [World.setCell]; omega, ?_⟩
    exact (Below.heap_setCell _ _ _ B (by show B ≠ b + 2; omega)).trans (blk B (Nat.le_refl _) hlt)
theorem keepV_set {B : Nat} {W0 W : World} (h : KeepV B W0 W) (p : Addr) (v : Value) (hp : p.block ≠ B) : KeepV B W0 (W.setCell p v) :=
  ⟨by have := h.1; simp [World.setCell]; omega, (Below.heap_setCell _ _ _ B (fun e => hp e.symm)).trans h.2⟩
theorem four_new (w : World) (a b c d : Value) (e : TypeId) : ∀ j u, [a, b, c, d][j]? = some u → (w.alloc (.cells #[a, b, c, d] e)).cell? ((⟨w.heap.size, 0, none⟩ : Addr).add j) = some u := by
  intro j u hj
  match j, hj with
  | 0, hj => simp at hj; subst hj; simp [Addr.add]
  | 1, hj => simp at hj; subst hj; simp [Addr.add]
  | 2, hj => simp at hj; subst hj; simp [Addr.add]
  | 3, hj => simp at hj; subst hj; simp [Addr.add]
end Go.Proofs.YthgmgmbjjjnhnaaGreatDoor
