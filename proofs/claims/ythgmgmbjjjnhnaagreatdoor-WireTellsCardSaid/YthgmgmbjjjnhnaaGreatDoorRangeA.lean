/- A range over a function whose round begins by laying what came into a block of its own. -/
import Derived.Test.YthgmgmbjjjnhnaaGreatDoorGc
namespace Go.Proofs.YthgmgmbjjjnhnaaGreatDoor
open Go.RowKit

set_option maxHeartbeats 1000000 in
/-- THE LAW. -/
theorem range_lawA {α : Type} {P : Program} {g : Operand} {ps : Array Tmp} {assign body : Code} {Q : Exit → Act → World → Prop} {a : Act} {w : World} {gf : Nat} {lb : Array Value}
    (hg : a.eval g = .func (.func gf) #[] lb) (eg : ∀ args w, (callFunc gf args).run P w = .ok (.enter gf args) w) {B : Nat} (hB : B < w.heap.size)
    {encs : α → Array Value} {S Sp : List α → Prop} {N : Nat} {G : World → Prop} {Yp : α → Prop} (hseq : SeqG P gf lb encs B S Sp N G Yp w) (hps : ∀ x, (encs x).size = ps.size)
    (I : List α → World → Prop) (Ix : Code → List α → World → Prop) (hI : OwnV B w.heap.size I) (hIx : ∀ c, OwnV B w.heap.size (Ix c)) (hG : ∀ pre W, I pre W → G W) (h0 : I [] w) (a₁ : α → Nat → Act) (ob : α → Obj)
    (hassign : ∀ (l : Nat) (x : α) (W : World) (K : Act → World → Prop), K (a₁ x W.heap.size) (W.alloc (ob x)) →
      assign.wpIn (Fence.wide.inRound l) 1 P (Exit.then K (fun _ _ _ => False)) { tmps := (ps.zip (encs x)).foldl (fun t (p, v) => t.setIfInBounds p v) a.tmps, defers := [] } W)
    (hbody : ∀ (l : Nat) (pre : List α) (x : α) (W : World) (o o' : Obj), I pre W → pre.length < N → Yp x → W.heap[l]? = some o → o.isCells = false → w.heap.size ≤ l → body.wpIn (Fence.wide.inRound l) 1 P (postV B I Ix (pre ++ [x]) ((W.alloc (ob x)).putObj l o')) (a₁ x W.heap.size) ((W.alloc (ob x)).putObj l o'))
    (hdone : ∀ (D : Nat) (xs : List α) (W : World), w.heap.size ≤ D → S xs → I xs W → W.heap[D]? = some (.deferred (some [])) → Q .normal { a with defers := { target := .collected D, args := #[] } :: a.defers } W)
    (hstop : ∀ (D : Nat) (c : Code) (pre : List α) (W : World), w.heap.size ≤ D → Sp pre → Ix c pre W → W.heap[D]? = some (.deferred (some [])) → c.wpIn Fence.wide 3 P Q { a with defers := { target := .collected D, args := #[] } :: a.defers } W) :
    (Code.rangeFunc g ps assign body).wpIn Fence.wide 3 P Q a w := by
  refine wpIn_rangeFunc fun fn _ => ?_
  let lp : LoopState → Option Code → Obj := fun st pe => .loop { state := st, pending := pe, fn, tmps := a.tmps, params := ps, assign, body, defers := w.heap.size }
  obtain ⟨W1, hW1⟩ : ∃ W1, (w.alloc (.deferred (some []))).alloc (lp .ready none) = W1 := ⟨_, rfl⟩
  have hbel : Below w.heap.size w W1 := by
    rw [← hW1]
    exact ((Below.refl _ w).alloc (Nat.le_refl _) _).alloc (by simp) _
  have hrec : W1.heap[w.heap.size + 1]? = some (lp .ready none) := by
    rw [← hW1]
    have := World.alloc_heap_new (w.alloc (.deferred (some []))) (lp .ready none)
    rwa [World.size_alloc] at this
  have hdef : W1.heap[w.heap.size]? = some (.deferred (some [])) := by
    rw [← hW1]
    exact (Below.heap_alloc _ _ _ (by simp)).trans (World.alloc_heap_new w _)
  refine ⟨w.heap.size + 1, [{ target := .collected w.heap.size, args := #[] }], W1, { target := .fn (.func gf) lb, args := #[.func (.yield (w.heap.size + 1)) #[] #[]] }, W1, gf, #[.func (.yield (w.heap.size + 1)) #[] #[]] ++ lb, W1, ?_, ?_, ?_, ?_, fun _ => by omega, ?_⟩
  · rw [← hW1]
    exact run_enterLoop_outer _ _ _ _ _
  · simp only [resolve, hg]
    simp [go_sem]
  · intro f' _
    trivial
  · simp [invoke, go_sem, eg]
  · refine (hseq (w.heap.size + 1) (fun pre W => I pre W ∧ W.heap[w.heap.size + 1]? = some (lp .ready none) ∧ W.heap[w.heap.size]? = some (.deferred (some [])))
      (fun pre W => ∃ c, Ix c pre W ∧ W.heap[w.heap.size + 1]? = some (lp .done (some c)) ∧ W.heap[w.heap.size]? = some (.deferred (some []))) W1 hbel ?abJ ?abX (fun pre W h => hG pre W h.1) ?round ⟨?start, hrec, hdef⟩).mono ?behind
    case start =>
      rw [← hW1]
      exact ownV_alloc hI _ (ownV_alloc hI _ h0)
    case abJ =>
      rintro s A C row ⟨i, r, d⟩ hg' hr
      refine ⟨hI s A C row i hg' (fun r e => .inl (hr r e)), ?_, ?_⟩
      · exact (hg'.block _ (lt_of_get r) (fun e => by have := hr _ e.symm; omega)).trans r
      · exact (hg'.block _ (lt_of_get d) (fun e => by have := hr _ e.symm; omega)).trans d
    case abX =>
      rintro s A C row ⟨c, i, r, d⟩ hg' hr
      refine ⟨c, hIx c s A C row i hg' (fun r e => .inl (hr r e)), ?_, ?_⟩
      · exact (hg'.block _ (lt_of_get r) (fun e => by have := hr _ e.symm; omega)).trans r
      · exact (hg'.block _ (lt_of_get d) (fun e => by have := hr _ e.symm; omega)).trans d
    case behind =>
      rintro e W2 ⟨⟨v, rfl⟩, h⟩
      rcases h with ⟨xs, hS, i, r, d⟩ | ⟨pre, hSp, c, i, r, d⟩
      · exact ⟨none, _, run_endLoop r (by simp), hdone _ xs _ (Nat.le_refl _) hS (ownV_put hI _ i (by omega) r rfl) ((World.putObj_heap_other (by omega)).trans d)⟩
      · exact ⟨some c, _, run_endLoop r (by simp), hstop _ c pre _ (Nat.le_refl _) hSp (ownV_put (hIx c) _ i (by omega) r rfl) ((World.putObj_heap_other (by omega)).trans d)⟩
    case round =>
      rintro pre x W₀ ⟨i₀, r₀, d₀⟩ hlen hyp
      have hl0 := lt_of_get r₀
      obtain ⟨W, hW⟩ : ∃ W, W₀.alloc (ob x) = W := ⟨_, rfl⟩
      have i : I pre W := by rw [← hW]; exact ownV_alloc hI _ i₀
      have r : W.heap[w.heap.size + 1]? = some (lp .ready none) := by rw [← hW]; exact (Below.heap_alloc _ _ _ hl0).trans r₀
      have d : W.heap[w.heap.size]? = some (.deferred (some [])) := by rw [← hW]; exact (Below.heap_alloc _ _ _ (lt_of_get d₀)).trans d₀
      have k0 : KeepV B W₀ W := by rw [← hW]; exact ⟨by simp, Below.heap_alloc _ _ _ (by omega)⟩
      refine ⟨fn, _, assign, body, run_yield (args := encs x) r₀ (hps x), roundIn_of_wpIn trivial (hassign _ x W₀ _ ?_)⟩
      rw [hW]
      refine ⟨_, run_beginRound r rfl, ?_⟩
      have hl1 := lt_of_get r
      have hbd := hbody (w.heap.size + 1) pre x W₀ _ (lp .busy none) i₀ hlen hyp r₀ rfl (by omega)
      rw [hW] at hbd
      refine wpIn_mono hbd ?_
      have busy : (W.putObj (w.heap.size + 1) (lp .busy none)).heap[w.heap.size + 1]? = some (lp .busy none) := World.putObj_heap_same hl1
      have dbusy : (W.putObj (w.heap.size + 1) (lp .busy none)).heap[w.heap.size]? = some (.deferred (some [])) := (World.putObj_heap_other (by omega)).trans d
      have leave : ∀ (jump : Option Code) (W3 : World), KeepsOthers (W.putObj (w.heap.size + 1) (lp .busy none)) W3 →
          (Instr.endRound (w.heap.size + 1) jump).run P W3 = .ok (.bool jump.isNone) (W3.putObj (w.heap.size + 1) (lp (if jump.isNone then .ready else .done) jump)) ∧ W3.heap[w.heap.size + 1]? = some (lp .busy none) ∧
          (W3.putObj (w.heap.size + 1) (lp (if jump.isNone then .ready else .done) jump)).heap[w.heap.size + 1]? = some (lp (if jump.isNone then .ready else .done) jump) ∧
          (W3.putObj (w.heap.size + 1) (lp (if jump.isNone then .ready else .done) jump)).heap[w.heap.size]? = some (.deferred (some [])) := by
        intro jump W3 hk
        have b3 := hk.same _ _ busy rfl
        exact ⟨run_endRound jump b3, b3, World.putObj_heap_same (lt_of_get b3), (World.putObj_heap_other (by omega)).trans (hk.same _ _ dbusy rfl)⟩
      rintro e a3 W3 hp
      cases e with
      | panic ch => exact hp.elim
      | outgrown => exact hp.elim
      | normal =>
        obtain ⟨hk, hv, hi⟩ := hp
        obtain ⟨q1, q2, q3, q4⟩ := leave none W3 hk
        exact ⟨_, _, q1, .inl ⟨rfl, ⟨ownV_put hI _ hi (by omega) q2 rfl, q3, q4⟩, keepV_trans k0 (keepV_trans (keepV_trans (keepV_put W _ (by omega)) hv) (keepV_put W3 _ (by omega)))⟩⟩
      | ret =>
        obtain ⟨hk, hi⟩ := hp
        obtain ⟨q1, q2, q3, q4⟩ := leave (some .ret) W3 hk
        exact ⟨_, _, q1, .inr ⟨rfl, .ret, ownV_put (hIx _) _ hi (by omega) q2 rfl, q3, q4⟩⟩
      | exit id =>
        obtain ⟨hk, hi⟩ := hp
        obtain ⟨q1, q2, q3, q4⟩ := leave (some (.exit id)) W3 hk
        exact ⟨_, _, q1, .inr ⟨rfl, .exit id, ownV_put (hIx _) _ hi (by omega) q2 rfl, q3, q4⟩⟩
      | goto t =>
        obtain ⟨hk, hi⟩ := hp
        obtain ⟨q1, q2, q3, q4⟩ := leave (some (.goto t)) W3 hk
        exact ⟨_, _, q1, .inr ⟨rfl, .goto t, ownV_put (hIx _) _ hi (by omega) q2 rfl, q3, q4⟩⟩
end Go.Proofs.YthgmgmbjjjnhnaaGreatDoor
