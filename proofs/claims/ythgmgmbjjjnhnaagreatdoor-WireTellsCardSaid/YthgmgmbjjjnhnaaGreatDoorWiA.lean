/- The request under way: twelve cells. PRINTED BY PROGRAM (gen_wia.py). -/
import Derived.Test.YthgmgmbjjjnhnaaGreatDoorGa
import Derived.Test.YthgmgmbjjjnhnaaGreatDoorGa
namespace Go.Proofs.YthgmgmbjjjnhnaaGreatDoor
open Go.RowKit

/-- text, head, behind, fields, kind, long, status, host, body, keep, used, more. -/
structure UAt (L : Nat) (a0 a1 a2 a3 a4 a5 a6 a7 a8 a9 a10 a11 : Value) (w : World) : Prop where
  lt : L < w.heap.size
  c0 : w.cell? ⟨L, 0, none⟩ = some a0
  c1 : w.cell? ⟨L, 1, none⟩ = some a1
  c2 : w.cell? ⟨L, 2, none⟩ = some a2
  c3 : w.cell? ⟨L, 3, none⟩ = some a3
  c4 : w.cell? ⟨L, 4, none⟩ = some a4
  c5 : w.cell? ⟨L, 5, none⟩ = some a5
  c6 : w.cell? ⟨L, 6, none⟩ = some a6
  c7 : w.cell? ⟨L, 7, none⟩ = some a7
  c8 : w.cell? ⟨L, 8, none⟩ = some a8
  c9 : w.cell? ⟨L, 9, none⟩ = some a9
  c10 : w.cell? ⟨L, 10, none⟩ = some a10
  c11 : w.cell? ⟨L, 11, none⟩ = some a11
  f0 : w.frozen? ⟨L, 0, none⟩ = false
  f1 : w.frozen? ⟨L, 1, none⟩ = false
  f2 : w.frozen? ⟨L, 2, none⟩ = false
  f3 : w.frozen? ⟨L, 3, none⟩ = false
  f4 : w.frozen? ⟨L, 4, none⟩ = false
  f5 : w.frozen? ⟨L, 5, none⟩ = false
  f6 : w.frozen? ⟨L, 6, none⟩ = false
  f7 : w.frozen? ⟨L, 7, none⟩ = false
  f8 : w.frozen? ⟨L, 8, none⟩ = false
  f9 : w.frozen? ⟨L, 9, none⟩ = false
  f10 : w.frozen? ⟨L, 10, none⟩ = false
  f11 : w.frozen? ⟨L, 11, none⟩ = false
theorem UAt.ret {L B : Nat} {a0 a1 a2 a3 a4 a5 a6 a7 a8 a9 a10 a11 : Value} {w w' : World} (h : UAt L a0 a1 a2 a3 a4 a5 a6 a7 a8 a9 a10 a11 w) (hL : L < B) (hb : Below B w w') : UAt L a0 a1 a2 a3 a4 a5 a6 a7 a8 a9 a10 a11 w' := by
  obtain ⟨lt, c0, c1, c2, c3, c4, c5, c6, c7, c8, c9, c10, c11, f0, f1, f2, f3, f4, f5, f6, f7, f8, f9, f10, f11⟩ := h
  have q : ∀ o, w'.cell? ⟨L, o, none⟩ = w.cell? ⟨L, o, none⟩ := fun o => hb.cell (p := ⟨L, o, none⟩) hL
  have r : ∀ o, w'.frozen? ⟨L, o, none⟩ = w.frozen? ⟨L, o, none⟩ := fun o => hb.frozen (p := ⟨L, o, none⟩) hL
  exact ⟨Nat.lt_of_lt_of_le lt hb.size, (q _).trans c0, (q _).trans c1, (q _).trans c2, (q _).trans c3, (q _).trans c4, (q _).trans c5, (q _).trans c6, (q _).trans c7, (q _).trans c8, (q _).trans c9, (q _).trans c10, (q _).trans c11, (r _).trans f0, (r _).trans f1, (r _).trans f2, (r _).trans f3, (r _).trans f4, (r _).trans f5, (r _).trans f6, (r _).trans f7, (r _).trans f8, (r _).trans f9, (r _).trans f10, (r _).trans f11⟩
theorem UAt.ret' {L : Nat} {a0 a1 a2 a3 a4 a5 a6 a7 a8 a9 a10 a11 : Value} {w w' : World} (h : UAt L a0 a1 a2 a3 a4 a5 a6 a7 a8 a9 a10 a11 w) (hb : Below w.heap.size w w') : UAt L a0 a1 a2 a3 a4 a5 a6 a7 a8 a9 a10 a11 w' := h.ret h.lt hb
theorem UAt.new (w : World) (a0 a1 a2 a3 a4 a5 a6 a7 a8 a9 a10 a11 : Value) : UAt w.heap.size a0 a1 a2 a3 a4 a5 a6 a7 a8 a9 a10 a11 (w.alloc (.cells #[a0, a1, a2, a3, a4, a5, a6, a7, a8, a9, a10, a11] 72)) := by constructor <;> simp
/-- One of them put. -/
theorem UAt.p0 {L : Nat} {a0 a1 a2 a3 a4 a5 a6 a7 a8 a9 a10 a11 : Value} {w : World} (h : UAt L a0 a1 a2 a3 a4 a5 a6 a7 a8 a9 a10 a11 w) (v : Value) : UAt L v a1 a2 a3 a4 a5 a6 a7 a8 a9 a10 a11 (w.setCell ⟨L, 0, none⟩ v) := by
  obtain ⟨lt, c0, c1, c2, c3, c4, c5, c6, c7, c8, c9, c10, c11, f0, f1, f2, f3, f4, f5, f6, f7, f8, f9, f10, f11⟩ := h
  constructor <;> simp (maxDischargeDepth := 9) [go_sem, *]
theorem UAt.p1 {L : Nat} {a0 a1 a2 a3 a4 a5 a6 a7 a8 a9 a10 a11 : Value} {w : World} (h : UAt L a0 a1 a2 a3 a4 a5 a6 a7 a8 a9 a10 a11 w) (v : Value) : UAt L a0 v a2 a3 a4 a5 a6 a7 a8 a9 a10 a11 (w.setCell ⟨L, 1, none⟩ v) := by
  obtain ⟨lt, c0, c1, c2, c3, c4, c5, c6, c7, c8, c9, c10, c11, f0, f1, f2, f3, f4, f5, f6, f7, f8, f9, f10, f11⟩ := h
  constructor <;> simp (maxDischargeDepth := 9) [go_sem, *]
theorem UAt.p2 {L : Nat} {a0 a1 a2 a3 a4 a5 a6 a7 a8 a9 a10 a11 : Value} {w : World} (h : UAt L a0 a1 a2 a3 a4 a5 a6 a7 a8 a9 a10 a11 w) (v : Value) : UAt L a0 a1 v a3 a4 a5 a6 a7 a8 a9 a10 a11 (w.setCell ⟨L, 2, none⟩ v) := by
  obtain ⟨lt, c0, c1, c2, c3, c4, c5, c6, c7, c8, c9, c10, c11, f0, f1, f2, f3, f4, f5, f6, f7, f8, f9, f10, f11⟩ := h
  constructor <;> simp (maxDischargeDepth := 9) [go_sem, *]
theorem UAt.p3 {L : Nat} {a0 a1 a2 a3 a4 a5 a6 a7 a8 a9 a10 a11 : Value} {w : World} (h : UAt L a0 a1 a2 a3 a4 a5 a6 a7 a8 a9 a10 a11 w) (v : Value) : UAt L a0 a1 a2 v a4 a5 a6 a7 a8 a9 a10 a11 (w.setCell ⟨L, 3, none⟩ v) := by
  obtain ⟨lt, c0, c1, c2, c3, c4, c5, c6, c7, c8, c9, c10, c11, f0, f1, f2, f3, f4, f5, f6, f7, f8, f9, f10, f11⟩ := h
  constructor <;> simp (maxDischargeDepth := 9) [go_sem, *]
theorem UAt.p4 {L : Nat} {a0 a1 a2 a3 a4 a5 a6 a7 a8 a9 a10 a11 : Value} {w : World} (h : UAt L a0 a1 a2 a3 a4 a5 a6 a7 a8 a9 a10 a11 w) (v : Value) : UAt L a0 a1 a2 a3 v a5 a6 a7 a8 a9 a10 a11 (w.setCell ⟨L, 4, none⟩ v) := by
  obtain ⟨lt, c0, c1, c2, c3, c4, c5, c6, c7, c8, c9, c10, c11, f0, f1, f2, f3, f4, f5, f6, f7, f8, f9, f10, f11⟩ := h
  constructor <;> simp (maxDischargeDepth := 9) [go_sem, *]
theorem UAt.p5 {L : Nat} {a0 a1 a2 a3 a4 a5 a6 a7 a8 a9 a10 a11 : Value} {w : World} (h : UAt L a0 a1 a2 a3 a4 a5 a6 a7 a8 a9 a10 a11 w) (v : Value) : UAt L a0 a1 a2 a3 a4 v a6 a7 a8 a9 a10 a11 (w.setCell ⟨L, 5, none⟩ v) := by
  obtain ⟨lt, c0, c1, c2, c3, c4, c5, c6, c7, c8, c9, c10, c11, f0, f1, f2, f3, f4, f5, f6, f7, f8, f9, f10, f11⟩ := h
  constructor <;> simp (maxDischargeDepth := 9) [go_sem, *]
theorem UAt.p6 {L : Nat} {a0 a1 a2 a3 a4 a5 a6 a7 a8 a9 a10 a11 : Value} {w : World} (h : UAt L a0 a1 a2 a3 a4 a5 a6 a7 a8 a9 a10 a11 w) (v : Value) : UAt L a0 a1 a2 a3 a4 a5 v a7 a8 a9 a10 a11 (w.setCell ⟨L, 6, none⟩ v) := by
  obtain ⟨lt, c0, c1, c2, c3, c4, c5, c6, c7, c8, c9, c10, c11, f0, f1, f2, f3, f4, f5, f6, f7, f8, f9, f10, f11⟩ := h
  constructor <;> simp (maxDischargeDepth := 9) [go_sem, *]
theorem UAt.p7 {L : Nat} {a0 a1 a2 a3 a4 a5 a6 a7 a8 a9 a10 a11 : Value} {w : World} (h : UAt L a0 a1 a2 a3 a4 a5 a6 a7 a8 a9 a10 a11 w) (v : Value) : UAt L a0 a1 a2 a3 a4 a5 a6 v a8 a9 a10 a11 (w.setCell ⟨L, 7, none⟩ v) := by
  obtain ⟨lt, c0, c1, c2, c3, c4, c5, c6, c7, c8, c9, c10, c11, f0, f1, f2, f3, f4, f5, f6, f7, f8, f9, f10, f11⟩ := h
  constructor <;> simp (maxDischargeDepth := 9) [go_sem, *]
theorem UAt.p8 {L : Nat} {a0 a1 a2 a3 a4 a5 a6 a7 a8 a9 a10 a11 : Value} {w : World} (h : UAt L a0 a1 a2 a3 a4 a5 a6 a7 a8 a9 a10 a11 w) (v : Value) : UAt L a0 a1 a2 a3 a4 a5 a6 a7 v a9 a10 a11 (w.setCell ⟨L, 8, none⟩ v) := by
  obtain ⟨lt, c0, c1, c2, c3, c4, c5, c6, c7, c8, c9, c10, c11, f0, f1, f2, f3, f4, f5, f6, f7, f8, f9, f10, f11⟩ := h
  constructor <;> simp (maxDischargeDepth := 9) [go_sem, *]
theorem UAt.p9 {L : Nat} {a0 a1 a2 a3 a4 a5 a6 a7 a8 a9 a10 a11 : Value} {w : World} (h : UAt L a0 a1 a2 a3 a4 a5 a6 a7 a8 a9 a10 a11 w) (v : Value) : UAt L a0 a1 a2 a3 a4 a5 a6 a7 a8 v a10 a11 (w.setCell ⟨L, 9, none⟩ v) := by
  obtain ⟨lt, c0, c1, c2, c3, c4, c5, c6, c7, c8, c9, c10, c11, f0, f1, f2, f3, f4, f5, f6, f7, f8, f9, f10, f11⟩ := h
  constructor <;> simp (maxDischargeDepth := 9) [go_sem, *]
theorem UAt.p10 {L : Nat} {a0 a1 a2 a3 a4 a5 a6 a7 a8 a9 a10 a11 : Value} {w : World} (h : UAt L a0 a1 a2 a3 a4 a5 a6 a7 a8 a9 a10 a11 w) (v : Value) : UAt L a0 a1 a2 a3 a4 a5 a6 a7 a8 a9 v a11 (w.setCell ⟨L, 10, none⟩ v) := by
  obtain ⟨lt, c0, c1, c2, c3, c4, c5, c6, c7, c8, c9, c10, c11, f0, f1, f2, f3, f4, f5, f6, f7, f8, f9, f10, f11⟩ := h
  constructor <;> simp (maxDischargeDepth := 9) [go_sem, *]
theorem UAt.p11 {L : Nat} {a0 a1 a2 a3 a4 a5 a6 a7 a8 a9 a10 a11 : Value} {w : World} (h : UAt L a0 a1 a2 a3 a4 a5 a6 a7 a8 a9 a10 a11 w) (v : Value) : UAt L a0 a1 a2 a3 a4 a5 a6 a7 a8 a9 a10 v (w.setCell ⟨L, 11, none⟩ v) := by
  obtain ⟨lt, c0, c1, c2, c3, c4, c5, c6, c7, c8, c9, c10, c11, f0, f1, f2, f3, f4, f5, f6, f7, f8, f9, f10, f11⟩ := h
  constructor <;> simp (maxDischargeDepth := 9) [go_sem, *]
end Go.Proofs.YthgmgmbjjjnhnaaGreatDoor
