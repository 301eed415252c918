/- slices.Insert, slices.Delete at contacts. -/
import Derived.Test.YtjgeiieiinmdnaaGreatDoorKn
import Derived.Shelf.Spec.SlicesInsertGrow
namespace Go.Proofs.YtjgeiieiinmdnaaGreatDoor
open Go.RowKit Go.Lib
section
variable {P : Program}
theorem own_setRow {w : World} {B g n cap size o : Nat} {e : TypeId} {xs cs : List Value} {cur : Array Value} (hown : w.ownsRow B e size (.slice (some ⟨g, 0, none⟩) n cap) n xs) (hcur : w.heap[g]? = some (.cells cur e (0, 0))) (hfit : o + cs.length ≤ n * size) :
  (w.setRow g (cur.toList.take o ++ cs ++ cur.toList.drop (o + cs.length)).toArray).ownsRow B e size (.slice (some ⟨g, 0, none⟩) n cap) n (xs.take o ++ cs ++ xs.drop (o + cs.length)) ∧
  w.grownBy (w.setRow g (cur.toList.take o ++ cs ++ cur.toList.drop (o + cs.length)).toArray) (some g) := by
 rcases hown.2 with ⟨h, _⟩ | ⟨g', cap', cur', h, hbg, hg, hnc, hcm, hcs, htake⟩
 ·simp at h
 ·simp only [Value.slice.injEq, Option.some.injEq, Addr.mk.injEq, and_true, true_and] at h
  obtain ⟨rfl, rfl⟩ := h
  rw [hcur] at hg
  injection hg with hg
  injection hg with hg _ _
  subst hg
  have hle : n * size ≤ cap * size := Nat.mul_le_mul_right _ hnc
  have hxl := hown.1
  refine ⟨⟨?_, .inr ⟨g, cap, _, rfl, hbg, setRow_heap w g cur _ e _ hcur, hnc, hcm, ?_, ?_⟩⟩, ⟨rfl, rfl, rfl, by simp [World.setRow], fun k _ hk => setRow_other w g k _ (fun e => hk (by simp [e]))⟩⟩
  ·simp only [List.length_append, List.length_take, List.length_drop, hxl]
   omega
  ·simp only [List.size_toArray, List.length_append, List.length_take, List.length_drop, Array.length_toList, hcs]
   omega
  ·have h1 : (cur.toList.take o).length = o := by rw [List.length_take, Array.length_toList, hcs]; omega
   rw [List.append_assoc, List.take_append, h1, List.take_take, Nat.min_eq_right (by omega), List.take_append, List.take_of_length_le (l := cs) (by omega), List.take_drop, ← htake, List.take_take, Nat.min_eq_left (by omega), List.append_assoc]
   congr 3
   rw [show o + cs.length + (n * size - o - cs.length) = n * size by omega]
/-- 'copy' onto a part of a row of the call's own: all is read before anything is written. -/
theorem run_copy_own (w : World) (B g n cap size i dLen dCap : Nat) (dT sT e : TypeId) (a : Addr) (sLen sCap : Nat) (xs cs : List Value) (hu : P.underlying dT = some (.slice e)) (hs : (P.info? e).map (·.size) = some size)
  (hown : w.ownsRow B e size (.slice (some ⟨g, 0, none⟩) n cap) n xs) (hn : cs.length = Nat.min sLen dLen * size) (hsrc : ∀ j v, cs[j]? = some v → w.cell? (a.add j) = some v) (hfit : i * size + cs.length ≤ n * size) (h1 : ∀ v ∈ cs, v.oneCell' = true) :
  ∃ w', (∀ ty, (Builtin.copy_ #[dT, sT] ty #[.slice (some ⟨g, i * size, none⟩) dLen dCap, .slice (some a) sLen sCap]).run P w = .ok (goInt (Nat.min sLen dLen)) w') ∧ w'.ownsRow B e size (.slice (some ⟨g, 0, none⟩) n cap) n (xs.take (i * size) ++ cs ++ xs.drop (i * size + cs.length)) ∧ w.grownBy w' (some g) := by
 rcases id hown.2 with ⟨h, _⟩ | ⟨g', cap', cur, h, hbg, hg, hnc, hcm, hcs, htake⟩
 ·simp at h
 ·simp only [Value.slice.injEq, Option.some.injEq, Addr.mk.injEq, and_true, true_and] at h
  obtain ⟨rfl, rfl⟩ := h
  obtain ⟨o1, o2⟩ := own_setRow (cs := cs) (o := i * size) hown hg hfit
  have hle : n * size ≤ cap * size := Nat.mul_le_mul_right _ hnc
  refine ⟨_, fun ty => ?_, o1, o2⟩
  have hl := run_loadCells_list (P := P) w a cs hsrc
  have hst := run_storeCells_at P g (i * size) e cs 0 cur w hg (by simp only [Nat.add_zero]; omega) h1
  simp only [Nat.add_zero] at hst
  cases hq : P.info? e with
  | none => simp [hq] at hs
  | some ii =>
   have hi : ii.size = size := by simpa [hq] using hs
   simp [Builtin.copy_, run_underlying hu, Builtin.lenOf, Builtin.firstCells, sizeOf, typeInfo, hq, hi, ← hn, hl, hst]
/-- 'append(s[:i], x...)' in place, of a row of the call's own that has room as it is. -/
theorem run_app_own_in (w : World) (B g n cap i : Nat) (t e : TypeId) (ii : TypeInfo) (ht : P.underlying t = some (.slice e)) (hi : P.info? e = some ii) (a : Addr) (m c : Nat) (xs cs : List Value)
  (hown : w.ownsRow B e ii.size (.slice (some ⟨g, 0, none⟩) n cap) n xs) (hn : cs.length = m * ii.size) (hsrc : ∀ j v, cs[j]? = some v → w.cell? (a.add j) = some v) (hfit : i + m ≤ n) (h1 : ∀ v ∈ cs, v.oneCell' = true) :
  ∃ w', (∀ ty, (Builtin.append_ #[t, t] ty #[.slice (some ⟨g, 0, none⟩) i cap, .slice (some a) m c]).run P w = .ok (.slice (some ⟨g, 0, none⟩) (i + m) cap) w') ∧ w'.ownsRow B e ii.size (.slice (some ⟨g, 0, none⟩) n cap) n (xs.take (i * ii.size) ++ cs ++ xs.drop (i * ii.size + cs.length)) ∧ w.grownBy w' (some g) := by
 rcases id hown.2 with ⟨h, _⟩ | ⟨g', cap', cur, h, hbg, hg, hnc, hcm, hcs, htake⟩
 ·simp at h
 ·simp only [Value.slice.injEq, Option.some.injEq, Addr.mk.injEq, and_true, true_and] at h
  obtain ⟨rfl, rfl⟩ := h
  have hf : i * ii.size + cs.length ≤ n * ii.size := by rw [hn, ← Nat.add_mul]; exact Nat.mul_le_mul_right _ hfit
  have hle : n * ii.size ≤ cap * ii.size := Nat.mul_le_mul_right _ hnc
  obtain ⟨o1, o2⟩ := own_setRow (cs := cs) (o := i * ii.size) hown hg hf
  exact ⟨_, fun ty => run_append_room w t ty e ii ht hi g i cap cur hg a m c cs hn hsrc h1 (by omega) (by omega), o1, o2⟩
/-- one more element of what lies behind a row. -/
theorem own_wider {w : World} {B g n cap size : Nat} {e : TypeId} {xs : List Value} (h : w.ownsRow B e size (.slice (some ⟨g, 0, none⟩) n cap) n xs) (hn : n + 1 ≤ cap) : ∃ st : List Value, st.length = size ∧ w.ownsRow B e size (.slice (some ⟨g, 0, none⟩) (n + 1) cap) (n + 1) (xs ++ st) := by
 rcases id h.2 with ⟨h, _⟩ | ⟨g', cap', cur, h', hbg, hg, hnc, hcm, hcs, htake⟩
 ·simp at h
 ·simp only [Value.slice.injEq, Option.some.injEq, Addr.mk.injEq, and_true, true_and] at h'
  obtain ⟨rfl, rfl⟩ := h'
  have hle : (n + 1) * size ≤ cap * size := Nat.mul_le_mul_right _ hn
  rw [Nat.add_mul, Nat.one_mul] at hle
  refine ⟨(cur.toList.drop (n * size)).take size, by rw [List.length_take, List.length_drop, Array.length_toList, hcs]; omega, ?_, .inr ⟨g, cap, cur, rfl, hbg, hg, hn, hcm, hcs, ?_⟩⟩
  ·rw [List.length_append, h.1, List.length_take, List.length_drop, Array.length_toList, hcs, Nat.add_mul]
   omega
  ·rw [← htake, Nat.add_mul, Nat.one_mul, List.take_add]
theorem own_addr {w : World} {B g n cap size : Nat} {e : TypeId} {xs : List Value} (h : w.ownsRow B e size (.slice (some ⟨g, 0, none⟩) n cap) n xs) (o : Nat) : ∀ j v, (xs.drop o)[j]? = some v → w.cell? ((⟨g, o, none⟩ : Addr).add j) = some v := fun j v hj => by
 rw [List.getElem?_drop] at hj
 have := h.cells (g := g) rfl (o + j) v hj
 rw [Addr.add_lit] at this
 rw [Addr.add_lit]
 simpa using this
end
theorem ins_room {α : Type _} (T D st P : List α) (h8 : P.length = st.length) :
  ((((T ++ D) ++ st).take (T.length + P.length) ++ D ++ ((T ++ D) ++ st).drop (T.length + P.length + D.length)).take T.length ++ P ++ (((T ++ D) ++ st).take (T.length + P.length) ++ D ++ ((T ++ D) ++ st).drop (T.length + P.length + D.length)).drop (T.length + P.length)) = T ++ (P ++ D) := by
 have hA : (((T ++ D) ++ st).take (T.length + P.length)).length = T.length + P.length := by simp only [List.length_take, List.length_append]; omega
 have hE : ((T ++ D) ++ st).drop (T.length + P.length + D.length) = [] := List.drop_eq_nil_of_le (by simp only [List.length_append]; omega)
 have hT : (((T ++ D) ++ st).take (T.length + P.length)).take T.length = T := by
  rw [List.take_take, Nat.min_eq_left (by omega), List.append_assoc, List.take_left]
 rw [hE]
 generalize ((T ++ D) ++ st).take (T.length + P.length) = A at hA hT ⊢
 rw [List.append_nil, List.take_append_of_le_length (by omega), hT, ← hA, List.drop_left, List.append_assoc]
theorem ins_grow {α : Type _} (T D Z P : List α) (hz : Z.length = P.length + D.length) :
  ((((T ++ Z).take T.length ++ P ++ (T ++ Z).drop (T.length + P.length)).take (T.length + P.length)) ++ D ++ (((T ++ Z).take T.length ++ P ++ (T ++ Z).drop (T.length + P.length)).drop (T.length + P.length + D.length))) = T ++ (P ++ D) := by
 have h1 : (T ++ Z).take T.length = T := List.take_left
 have h2 : ((T ++ P) ++ (T ++ Z).drop (T.length + P.length)).take (T.length + P.length) = T ++ P := by rw [← List.length_append, List.take_left]
 have h3 : ((T ++ P) ++ (T ++ Z).drop (T.length + P.length)).drop (T.length + P.length + D.length) = [] := List.drop_eq_nil_of_le (by simp only [List.length_append, List.length_drop]; omega)
 rw [h1, h2, h3, List.append_nil, List.append_assoc]
theorem grown_new {w w1 w2 : World} {row : Option Nat} {g : Nat} (h : w.grownBy w1 row) (k : w1.grownBy w2 (some g)) (hg : w.heap.size ≤ g) : w.grownBy w2 row :=
 ⟨k.os.trans h.os, k.tape.trans h.tape, k.output.trans h.output, Nat.le_trans h.size k.size, fun i hi hne => (k.block i (Nat.lt_of_lt_of_le hi h.size) (fun e => by cases e; omega)).trans (h.block i hi hne)⟩
theorem grown_trans2 {w w1 w2 : World} {row : Option Nat} (h : w.grownBy w1 row) (k : w1.grownBy w2 row) : w.grownBy w2 row :=
 ⟨k.os.trans h.os, k.tape.trans h.tape, k.output.trans h.output, Nat.le_trans h.size k.size, fun i hi hne => (k.block i (Nat.lt_of_lt_of_le hi h.size) hne).trans (h.block i hi hne)⟩
theorem step_append_runI {P : Program} {ops : Array Oper} {o : Oper} {a : Act} {w : World} {K : Act → World → Prop} {Q : Exit → Act → World → Prop} {E : Prop}
  (hg : o.guard = none) (d x : Operand) (dT sT : TypeId) (hop : o.op = Op.call { callee := Callee.builtin Builtin.append, args := #[d, x], argTypes := #[dT, sT] })
  (v u : Value) (hd : a.eval d = v) (hx : a.eval x = u) {v' : Value} {w' : World} (hr : (Builtin.append_ #[dT, sT] o.type #[v, u]).run P w = .ok v' w') (hK : K (a.put o.dst v') w') :
  if Region.wanted o (yielded ops a.tmps) = true then Oper.wp P o a w K Q else E := by
 have hw : Region.wanted o (yielded ops a.tmps) = true := by simp [Region.wanted, hg]
 rw [if_pos hw]
 unfold Oper.wp
 simp [execOp, hop, resolve, invoke, builtin, hd, hx, hr, Result.andThen]
 exact hK
end Go.Proofs.YtjgeiieiinmdnaaGreatDoor
