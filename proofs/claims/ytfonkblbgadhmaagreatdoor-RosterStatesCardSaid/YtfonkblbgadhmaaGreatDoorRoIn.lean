/- slices.Insert, slices.Delete at contacts. -/
import Derived.Test.YtfonkblbgadhmaaGreatDoorKn
import Derived.Shelf.Spec.SlicesInsertGrow
namespace Go.Proofs.YtfonkblbgadhmaaGreatDoor
open Go.RowKit Go.Lib
section
variable {P : Program}
theorem own_setRow {w : World} {B g n cap size o : Nat} {e : TypeId} {xs cs : List Value} {cur : Array Value} (hown : w.ownsRow B e size (.slice (some ⟨g, 0, none⟩) n cap) n xs) (hcur : w.heap[g]? = some (.cells cur e (0, 0))) (hfit : o + cs.length ≤ n * size) :
  (w.setRow g (cur.toList.take o ++ cs ++ cur.toList.drop (o + cs.length)).toArray).ownsRow B e size (.slice (some ⟨g, 0, none⟩) n cap) n (xs.take o ++ cs ++ xs.drop (o + cs.length)) ∧
  w.grownBy (w.setRow g (cur.toList.take o ++ cs ++ cur.toList.drop (o + cs.length)).toArray) (some g) := by
 rcases hown.2 with ⟨h, _⟩ | ⟨g', cap', cur', h, hbg, hg, hnc, hcm, hcs, htake⟩
 ·simp at h
 ·simp only [Value.slice.injEq, Option.some.injEq, Addr.mk.injEq, and_true, true_and] at h
  obtain ⟨rfl, rfl⟩ := h
  rw [hcur] at hg
  injection hg with hg
  injection hg with hg _ _
  subst hg
  have hle : n * size ≤ cap * size := Nat.mul_le_mul_right _ hnc
  have hxl := hown.1
  refine ⟨⟨?_, .inr ⟨g, cap, _, rfl, hbg, setRow_heap w g cur _ e _ hcur, hnc, hcm, ?_, ?_⟩⟩, ⟨rfl, rfl, rfl, by simp [World.setRow], fun k _ hk => setRow_other w g k _ (fun e => hk (by simp [e]))⟩⟩
  ·simp only [List.length_append, List.length_take, List.length_drop, hxl]
   omega
  ·simp only [List.size_toArray, List.length_append, List.length_take, List.length_drop, Array.length_toList, hcs]
   omega
  ·have h1 : (cur.toList.take o).length = o := by rw [List.length_take, Array.length_toList, hcs]; omega
   rw [List.append_assoc, List.take_append, h1, List.take_take, Nat.min_eq_right (by omega), List.take_append, List.take_of_length_le (l := cs) (by omega), List.take_drop, ← htake, List.take_take, Nat.min_eq_left (by omega), List.append_assoc]
   congr 3
   rw [show o + cs.length + (n * size - o - cs.length) = n * size by omega]
/-- 'copy' onto a part of a row of the call's own: all is read before anything is written. -/
theorem run_copy_own (w : World) (B g n cap size i dLen dCap : Nat) (dT sT e : TypeId) (a : Addr) (sLen sCap : Nat) (xs cs : List Value) (hu : P.underlying dT = some (.slice e)) (hs : (P.info? e).map (·.size) = some size)
  (hown : w.ownsRow B e size (.slice (some ⟨g, 0, none⟩) n cap) n xs) (hn : cs.length = Nat.min sLen dLen * size) (hsrc : ∀ j v, cs[j]? = some v → w.cell? (a.add j) = some v) (hfit : i * size + cs.length ≤ n * size) (h1 : ∀ v ∈ cs, v.oneCell' = true) :
  ∃ w', (∀ ty, (Builtin.copy_ #[dT, sT] ty #[.slice (some ⟨g, i * size, none⟩) dLen dCap, .slice (some a) sLen sCap]).run P w = .ok (goInt (Nat.min sLen dLen)) w') ∧ w'.ownsRow B e size (.slice (some ⟨g, 0, none⟩) n cap) n (xs.take (i * size) ++ cs ++ xs.drop (i * size + cs.length)) ∧ w.grownBy w' (some g) := by
 rcases id hown.2 with ⟨h, _⟩ | ⟨g', cap', cur, h, hbg, hg, hnc, hcm, hcs, htake⟩
 ·simp at h
 ·simp only [Value.slice.injEq, Option.some.injEq, Addr.mk.injEq, and_true, true_and] at h
  obtain ⟨rfl, rfl⟩ := h
  obtain ⟨o1, o2⟩ := own_setRow (cs := cs) (o := i * size) hown hg hfit
  have hle : n * size ≤ cap * size := Nat.mul_le_mul_right _ hnc
  refine ⟨_, fun ty => ?_, o1, o2⟩
  have hl := run_loadCells_list (P := P) w a cs hsrc
  have hst := run_storeCells_at P g (i * size) e cs 0 cur w hg (by simp only [Nat.add_zero]; omega) h1
  simp only [Nat.add_zero] at hst
  cases hq : P.info? e with
  | none => simp [hq] at hs
  | some ii =>
   have hi : ii.size = size := by simpa [hq] using hs
   simp [Builtin.copy_, run_underlying hu, Builtin.lenOf, Builtin.firstCells, sizeOf, typeInfo, hq, hi, ← hn, hl, hst]
/-- 'append(s[:i], x...)' in place, of a row of the call's own that has room as it is. -/
theorem run_app_own_in (w : World) (B g n cap i : Nat) (t e : TypeId) (ii : TypeInfo) (ht : P.underlying t = some (.slice e)) (hi : P.info? e = some ii) (a : Addr) (m c : Nat) (xs cs : List Value)
  (hown : w.ownsRow B e ii.size (.slice (some ⟨g, 0, none⟩) n cap) n xs) (hn : cs.length = m * ii.size) (hsrc : ∀ j v, cs[j]? = some v → w.cell? (a.add j) = some v) (hfit : i + m ≤ n) (h1 : ∀ v ∈ cs, v.oneCell' = true) :
  ∃ w', (∀ ty, (Builtin.append_ #[t, t] ty #[.slice (some ⟨g, 0, none⟩) i cap, .slice (some a) m c]).run P w = .ok (.slice (some ⟨g, 0, none⟩) (i + m) cap) w') ∧ w'.ownsRow B e ii.size (.slice (some ⟨g, 0, none⟩) n cap) n (xs.take (i * ii.size) ++ cs ++ xs.drop (i * ii.size + cs.length)) ∧ w.grownBy w' (some g) := by
 rcases id hown.2 with ⟨h, _⟩ | ⟨g', cap', cur, h, hbg, hg, hnc, hcm, hcs, htake⟩
 ·simp at h
 ·simp only [Value.slice.injEq, Option.some.injEq, Addr.mk.injEq, and_true, true_and] at h
  obtain ⟨rfl, rfl⟩ := h
  have hf : i * ii.size + cs.length ≤ n * ii.size := by rw [hn, ← Nat.add_mul]; exact Nat.mul_le_mul_right _ hfit
  have hle : n * ii.size ≤ cap * ii.size := Nat.mul_le_mul_right _ hnc
  obtain ⟨o1, o2⟩ := own_setRow (cs := cs) (o := i * ii.size) hown hg hf
  exact ⟨_, fun ty => run_append_room w t ty e ii ht hi g i cap cur hg a m c cs hn hsrc h1 (by omega) (by omega), o1, o2⟩
/-- one more element of what lies behind a row. -/
theorem own_wider {w : World} {B g n cap size : Nat} {e : TypeId} {xs : List Value} (h : w.ownsRow B e size (.slice (some ⟨g, 0, none⟩) n cap) n xs) (hn : n + 1 ≤ cap) : ∃ st : List Value, st.length = size ∧ w.ownsRow B e size (.slice (some ⟨g, 0, none⟩) (n + 1) cap) (n + 1) (xs ++ st) := by
 rcases id h.2 with ⟨h, _⟩ | ⟨g', cap', cur, h', hbg, hg, hnc, hcm, hcs, htake⟩
 ·simp at h
 ·simp only [Value.slice.injEq, Option.some.injEq, Addr.mk.injEq, and_true, true_and] at h'
  obtain ⟨rfl, rfl⟩ := h'
  have hle : (n + 1) * size ≤ cap * size := Nat.mul_le_mul_right _ hn
  rw [Nat.add_mul, Nat.one_mul] at hle
  refine ⟨(cur.toList.drop (n * size)).take size, by rw [List.length_take, List.length_drop, Array.length_toList, hcs]; omega, ?_, .inr ⟨g, cap, cur, rfl, hbg, hg, hn, hcm, hcs, ?_⟩⟩
  ·rw [List.length_append, h.1, List.length_take, List.length_drop, Array.length_toList, hcs, Nat.add_mul]
   omega
  ·rw [← htake, Nat.add_mul, Nat.one_mul, List.take_add]
theorem own_addr {w : World} {B g n cap size : Nat} {e : TypeId} {xs : List Value} (h : w.ownsRow B e size (.slice (some ⟨g, 0, none⟩) n cap) n xs) (o : Nat) : ∀ j v, (xs.drop o)[j]? = some v → w.cell? ((⟨g, o, none⟩ : Addr).add j) = some v := fun j v hj => by
 rw [List.getElem?_drop] at hj
 have := h.cells (g := g) rfl (o + j) v hj
 rw [Addr.add_lit] at this
 rw [Addr.add_lit]
 simpa using this
end
theorem ins_room {α : Type _} (T D st P : List α) (h8 : P.length = st.length) :
  ((((T ++ D) ++ st).take (T.length + P.length) ++ D ++ ((T ++ D) ++ st).drop (T.length + P.length + D.length)).take T.length ++ P ++ (((T ++ D) ++ st).take (T.length + P.length) ++ D ++ ((T ++ D) ++ st).drop (T.length + P.length + D.length)).drop (T.length + P.length)) = T ++ (P ++ D) := by
 have hA : (((T ++ D) ++ st).take (T.length + P.length)).length = T.length + P.length := by simp only [List.length_take, List.length_append]; omega
 have hE : ((T ++ D) ++ st).drop (T.length + P.length + D.length) = [] := List.drop_eq_nil_of_le (by simp only [List.length_append]; omega)
 have hT : (((T ++ D) ++ st).take (T.length + P.length)).take T.length = T := by
  rw [List.take_take, Nat.min_eq_left (by omega), List.append_assoc, List.take_left]
 rw [hE]
 generalize ((T ++ D) ++ st).take (T.length + P.length) = A at hA hT ⊢
 rw [List.append_nil, List.take_append_of_le_length (by omega), hT, ← hA, List.drop_left, List.append_assoc]
theorem ins_grow {α : Type _} (T D Z P : List α) (hz : Z.length = P.length + D.length) :
  ((((T ++ Z).take T.length ++ P ++ (T ++ Z).drop (T.length + P.length)).take (T.length + P.length)) ++ D ++ (((T ++ Z).take T.length ++ P ++ (T ++ Z).drop (T.length + P.length)).drop (T.length + P.length + D.length))) = T ++ (P ++ D) := by
 have h1 : (T ++ Z).take T.length = T := List.take_left
 have h2 : ((T ++ P) ++ (T ++ Z).drop (T.length + P.length)).take (T.length + P.length) = T ++ P := by rw [← List.length_append, List.take_left]
 have h3 : ((T ++ P) ++ (T ++ Z).drop (T.length + P.length)).drop (T.length + P.length + D.length) = [] := List.drop_eq_nil_of_le (by simp only [List.length_append, List.length_drop]; omega)
 rw [h1, h2, h3, List.append_nil, List.append_assoc]
theorem grown_new {w w1 w2 : World} {row : Option Nat} {g : Nat} (h : w.grownBy w1 row) (k : w1.grownBy w2 (some g)) (hg : w.heap.size ≤ g) : w.grownBy w2 row :=
 ⟨k.os.trans h.os, k.tape.trans h.tape, k.output.trans h.output, Nat.le_trans h.size k.size, fun i hi hne => (k.block i (Nat.lt_of_lt_of_le hi h.size) (fun e => by cases e; omega)).trans (h.block i hi hne)⟩
theorem itC_len (p : Im) : (itC p).length = 8 := rfl
def InsIs (B : Nat) (w : World) (v : Value) (N : List Im) (e : Ending) (w' : World) : Prop := ∃ v', e = .returned v' ∧ w'.ownsRow B 31 8 v' N.length (itV N) ∧ w.grownBy w' v.ownBlock ∧ ∀ g, v'.ownBlock = some g → v.ownBlock = some g ∨ w.heap.size ≤ g
theorem grown_trans2 {w w1 w2 : World} {row : Option Nat} (h : w.grownBy w1 row) (k : w1.grownBy w2 row) : w.grownBy w2 row :=
 ⟨k.os.trans h.os, k.tape.trans h.tape, k.output.trans h.output, Nat.le_trans h.size k.size, fun i hi hne => (k.block i (Nat.lt_of_lt_of_le hi h.size) hne).trans (h.block i hi hne)⟩
/-- where a row lies behind an append of one: where it lay, or in new memory. -/
theorem app1_vb {w w' : World} {B n xb : Nat} {ty : TypeId} {v v' : Value} {xs : List Value} {p : Im} (hown : w.ownsRow B 31 8 v n xs) (hn : n ≤ 100000)
  (hx : ∀ j u, (itC p)[j]? = some u → w.cell? ((⟨xb, 0, none⟩ : Addr).add j) = some u)
  (hr : (Builtin.append_ #[22, 22] ty #[v, .slice (some ⟨xb, 0, none⟩) 1 1]).run Tryz.prog w = .ok v' w') : ∀ g, v'.ownBlock = some g → v.ownBlock = some g ∨ w.heap.size ≤ g := by
 obtain ⟨i0, hi0, hz0, hz1, hz2⟩ := info_parts vinfo_item
 have hP1 : ∀ u ∈ itC p, u.oneCell' = true := by intro u hu; exact itV_one [p] u (by simpa [itV] using hu)
 have hl : (itC p).length = 1 * i0.size := by rw [hz1]; rfl
 rcases id hown.2 with ⟨rfl, rfl⟩ | ⟨g, cap, cur, rfl, hbg, hg, hnc, hcm, hcs, htake⟩
 ·have h := run_append_nil (P := Tryz.prog) w 22 ty 31 i0 _ Tryz.underlying22 hi0 hz0 ⟨xb, 0, none⟩ 1 1 (itC p) hl hx (by omega) (by omega) (by rw [hz2]; omega)
  rw [h] at hr
  injection hr with h1 _
  subst h1
  intro g hg
  cases hg
  exact .inr (Nat.le_refl _)
 ·by_cases hroom : n + 1 ≤ cap
  ·have h := run_append_room (P := Tryz.prog) w 22 ty 31 i0 Tryz.underlying22 hi0 g n cap cur hg ⟨xb, 0, none⟩ 1 1 (itC p) hl hx hP1 hroom (by rw [hl, hcs, hz1, ← Nat.add_mul]; exact Nat.mul_le_mul_right _ hroom)
   rw [h] at hr
   injection hr with h1 _
   subst h1
   intro g' hg'
   exact .inl hg'
  ·have h := run_append_grow (P := Tryz.prog) w 22 ty 31 i0 _ Tryz.underlying22 hi0 hz0 ⟨g, 0, none⟩ n cap xs (by rw [hz1]; exact hown.1) (hown.cells (g := g) rfl) ⟨xb, 0, none⟩ 1 1 (itC p) hl hx (by omega) (by omega) (growslice_fits (by omega) (by rw [hz2]; omega))
   rw [h] at hr
   injection hr with h1 _
   subst h1
   intro g hg
   cases hg
   exact .inr (Nat.le_refl _)
set_option maxHeartbeats 4000000 in
set_option maxRecDepth 100000 in
theorem sl_Insert (B : Nat) (v : Value) (M : List Im) (i xb : Nat) (p : Im) (w : World) (hown : w.ownsRow B 31 8 v M.length (itV M)) (hB : B ≤ w.heap.size) (hi : i ≤ M.length) (hM : M.length ≤ 100000)
  (hx : w.heap[xb]? = some (.cells (itC p).toArray 31 (0, 0))) (hne : v.ownBlock ≠ some xb) :
  Calls Tryz.prog 80 #[v, .int .i64 i, .slice (some ⟨xb, 0, none⟩) 1 1] w (InsIs B w v (M.take i ++ p :: M.drop i)) := by
 obtain ⟨i0, hi0, hz0, hz1, hz2⟩ := info_parts vinfo_item
 have hxr : ∀ W : World, W.heap[xb]? = w.heap[xb]? → ∀ j u, (itC p)[j]? = some u → W.cell? ((⟨xb, 0, none⟩ : Addr).add j) = some u := fun W hW j u hj => by
  rw [Addr.add_lit]
  simp only [World.cell?, hW, hx, Nat.zero_add]
  simpa using hj
 have hxl : xb < w.heap.size := by
  rcases Nat.lt_or_ge xb w.heap.size with h | h
  ·exact h
  ·rw [Array.getElem?_eq_none h] at hx
   cases hx
 have hlen : (M.take i ++ p :: M.drop i).length = M.length + 1 := by rw [List.length_append, List.length_cons, List.length_take, List.length_drop]; omega
 have hitv : itV (M.take i ++ p :: M.drop i) = itV (M.take i) ++ (itC p ++ itV (M.drop i)) := by rw [itV_app, itV_cons]
 obtain ⟨n, hn⟩ : ∃ n, M.length = n := ⟨_, rfl⟩
 rw [hn] at hown hi hM hlen
 obtain ⟨a, c, rfl, hnc⟩ := row_form hown
 by_cases hin : i = n
 ·subst hin
  have hrow : IsRow 8 (.slice (some ⟨xb, 0, none⟩) 1 1) 1 (itC p) w := by
   refine ⟨rfl, some ⟨xb, 0, none⟩, 1, rfl, (fun h => by cases h), .inr ⟨xb, 0, rfl, hxl, fun j hj => ?_⟩⟩
   have := hxr w rfl j _ (List.getElem?_eq_getElem hj)
   rw [Addr.add_lit] at this
   rw [this]
  have hfin : M.take i ++ p :: M.drop i = M ++ [p] := by rw [List.take_of_length_le (by omega), List.drop_eq_nil_of_le (by omega)]
  rw [hfin] at hlen hitv ⊢
  obtain ⟨v', w', hr, hown', hgrow⟩ := run_app_row (P := Tryz.prog) w B 22 22 31 i0 _ 8 64 Tryz.underlying22 hi0 hz0 hz1 hz2 rfl (by omega) _ i (itV M) hown (.slice (some ⟨xb, 0, none⟩) 1 1) 1 (itC p) hrow (by intro u hu; exact itV_one [p] u (by simpa [itV] using hu)) (by omega) (by omega) hB
  have HVB := Lib.hid (app1_vb hown hM (hxr w rfl) hr)
  have hr2 : ∀ ty, (Builtin.append_ #[22, 22] ty #[.slice a i c, .slice (some ⟨xb, 0, none⟩) 1 1]).run Tryz.prog w = .ok v' w' := fun ty => hr
  have RR := Lib.hid hr2
  have HLN := Lib.hid hlen
  have HO3 := Lib.hid hown'
  have HG := Lib.hid hgrow
  clear hxr hfin hlen hitv hown hrow hn hx hr hr2 hown' hgrow
  by_cases hci : c = i
  ·subst hci
   go_enter Tryz.func80, Tryz.ntmps80
   go_wp2_with (at_builtin; refine Hid.out ?_)
   refine Lib.hid ?_
   refine Lib.wpList_append_run _ rfl _ _ _ _ rfl _ _ rfl rfl _ _ (RR.out _) ?_
   go_wp2_with fail
   go_ret
   exact ⟨v', rfl, by rw [HLN.out, itV_app]; simpa [itV] using HO3.out, HG.out, HVB.out⟩
  ·have w0 : (i : Int) ≤ (c : Int) := by omega
   go_enter Tryz.func80, Tryz.ntmps80
   go_wp2_with (at_builtin; refine Hid.out ?_)
   refine Lib.hid ?_
   refine Lib.wpList_append_run _ rfl _ _ _ _ rfl _ _ rfl rfl _ _ (RR.out _) ?_
   go_wp2_with fail
   go_ret
   exact ⟨v', rfl, by rw [HLN.out, itV_app]; simpa [itV] using HO3.out, HG.out, HVB.out⟩
 ·have hlt : i < n := by omega
  obtain ⟨g, rfl, -, hgB, hgl⟩ := own_some hown (by omega)
  have hgx : g ≠ xb := fun e => hne (by rw [e]; rfl)
  have hTl : (itV (M.take i)).length = i * 8 := by rw [itV_len, List.length_take]; congr 1; omega
  have hDl : (itV (M.drop i)).length = (n - i) * 8 := by rw [itV_len, List.length_drop, hn]
  have hMs : itV M = itV (M.take i) ++ itV (M.drop i) := by rw [← itV_app, List.take_append_drop]
  have hMd : (itV M).drop (i * 8) = itV (M.drop i) := (itV_drop M i).symm
  have hP1 : ∀ u ∈ itC p, u.oneCell' = true := by intro u hu; exact itV_one [p] u (by simpa [itV] using hu)
  have hsz : (Tryz.prog.info? 31).map (·.size) = some 8 := by rw [hi0]; simp [hz1]
  have hc63 : c ≤ 9223372036854775807 := by
   rcases hown.2 with ⟨h, _⟩ | ⟨g', cap', cur, h, _, _, _, h4, _⟩
   ·simp at h
   ·simp only [Value.slice.injEq] at h
    obtain ⟨_, _, rfl⟩ := h
    unfold maxLen at h4
    exact h4
  have w1 : IntKind.i64.wrap ((i : Int) + 1) = (i : Int) + 1 := IntWalk.i64_in _ (by omega)
  have w2 : ((i : Int) + 1).toNat = i + 1 := by omega
  have w3 : (0 : Int) ≤ (i : Int) + 1 := by omega
  have w4 : ¬ (c = i) := by omega
  have w5 : (i : Int) ≤ (n : Int) := by omega
  have w6 : ¬ ((i : Int) = (n : Int)) := by omega
  have w7 : IntKind.i64.wrap ((n : Int) + 1) = (n : Int) + 1 := IntWalk.i64_in _ (by omega)
  have w8 : ((n : Int) + 1).toNat = n + 1 := by omega
  by_cases hroom : n + 1 ≤ c
  ·have v1 : ¬ ((c : Int) < (n : Int) + 1) := by omega
   have v2 : ¬ (c = i + 1) := by omega
   have v3 : (i : Int) ≤ (n : Int) + 1 := by omega
   have v4 : (i : Int) + 1 ≤ (n : Int) + 1 := by omega
   have v5 : (n : Int) + 1 ≤ (c : Int) := by omega
   obtain ⟨st, hst, hwide⟩ := own_wider hown hroom
   obtain ⟨W2, hcp1, own2, grow2⟩ := run_copy_own w.drew B g (n + 1) c 8 (i + 1) (n + 1 - (i + 1)) (c - (i + 1)) 22 22 31 ⟨g, i * 8, none⟩ (n + 1 - i) (c - i) _ (itV (M.drop i)) Tryz.underlying22 hsz hwide.drew
    (by rw [hDl]; congr 1; simp only [Nat.min_def]; split <;> omega) (fun j v hj => own_addr hown (i * 8) j v (by rw [hMd]; exact hj)) (by rw [hDl, ← Nat.add_mul]; exact Nat.mul_le_mul_right _ (by omega)) (fun u hu => itV_one _ u hu)
   have hx2 : W2.heap[xb]? = w.heap[xb]? := grow2.block xb hxl (fun e => hgx (by cases e; rfl))
   obtain ⟨W3, hcp2, own3, grow3⟩ := run_copy_own W2 B g (n + 1) c 8 i (n + 1 - i) (c - i) 22 22 31 ⟨xb, 0, none⟩ 1 1 _ (itC p) Tryz.underlying22 hsz own2
    (by rw [itC_len]; have : Nat.min 1 (n + 1 - i) = 1 := by simp only [Nat.min_def]; split <;> omega
        rw [this]) (hxr W2 hx2) (by rw [itC_len]; omega) hP1
   have hov : ∀ lb cb, (callFunc 108 #[.slice (some ⟨xb, 0, none⟩) 1 1, .slice (some ⟨g, (i + 1) * 8, none⟩) lb cb]).run Tryz.prog w = .ok (.value (.bool false)) w := fun lb cb => by
    rcases hwide.2 with ⟨h, _⟩ | ⟨g', cap', cur, h, _, hg', _, _, hcs', _⟩
    ·simp at h
    ·simp only [Value.slice.injEq, Option.some.injEq, Addr.mk.injEq, and_true, true_and] at h
     obtain ⟨rfl, rfl⟩ := h
     rw [run_callFunc_extern Tryz.func108 (by kernel_rfl) (by kernel_rfl) (by kernel_rfl) (e := Extern.SlicesOverlaps.overlaps #[22, 22] #[4]) (by kernel_rfl),
      Lib.run_overlaps_apart w 22 4 31 Tryz.underlying22 8 (fun w => by simp [sizeOf, typeInfo, hi0, hz1]) ⟨xb, 0, none⟩ ⟨g, (i + 1) * 8, none⟩ 1 1 lb cb (fun e => hgx e.symm) 31 31 8 cur.size (by simp only [World.shape?, hx]; rfl) (by simp only [World.shape?, hg']) (by omega) (by simp [World.frozen?, hx]) (by simp [World.frozen?, hx])]
     rfl
   have hfin : itV (M.take i) ++ (itC p ++ itV (M.drop i)) = _ := (ins_room (itV (M.take i)) (itV (M.drop i)) st (itC p) (by rw [hst]; rfl)).symm
   rw [hTl, itC_len, ← hMs, show i * 8 + 8 = (i + 1) * 8 by omega] at hfin
   rw [itC_len, show i * 8 + 8 = (i + 1) * 8 by omega, ← hfin] at own3
   have HO := Lib.hid own3
   have HG := Lib.hid (grown_trans2 (w := w) (w1 := W2) ⟨grow2.os, grow2.tape, grow2.output, grow2.size, grow2.block⟩ grow3)
   have HLN := Lib.hid hlen
   have HI := Lib.hid hitv
   have CP1 := Lib.hid hcp1
   have CP2 := Lib.hid hcp2
   have OV := Lib.hid hov
   clear hx hxr hown hwide own2 own3 grow2 grow3 hTl hDl hMs hMd hP1 hsz hst hx2 hcp1 hcp2 hfin hlen hitv hn hov hne
   go_enter Tryz.func80, Tryz.ntmps80
   have mixed : Tryz.prog.follows Departure.mixedOrders = true := by kernel_rfl
   go_wp2_with (simp only [OV.out])
   go_region_law_o (refine step_copy_runI rfl _ _ 22 22 rfl _ _ (by simp [Act.eval, Act.put]) (by simp [Act.eval, Act.put]) (CP1.out _) ?_)
   have cp2 := CP2.out
   go_wp2_with fail
   go_ret
   exact ⟨_, rfl, by rw [HLN.out, HI.out]; exact HO.out, HG.out, fun g' hg' => .inl hg'⟩
  ·obtain rfl : c = n := by omega
   have hkk : (c : Int) + 1 - (i : Int) = ((c + 1 - i : Nat) : Int) := by omega
   have hik : i + (c + 1 - i) = c + 1 := by omega
   have hold : (Builtin.firstCells i0.size i (.slice (some ⟨g, 0, none⟩) i c)).run Tryz.prog w.drew = .ok (itV (M.take i)).toArray w.drew := by
    rw [hz1]
    exact run_firstCells_some w.drew 8 i ⟨g, 0, none⟩ i c (itV (M.take i)) hTl (fun j u hj => by
     have h2 : (itV M)[j]? = some u := by
      rw [hMs, List.getElem?_append_left]
      ·exact hj
      ·rcases Nat.lt_or_ge j (itV (M.take i)).length with h | h
       ·exact h
       ·rw [List.getElem?_eq_none h] at hj; cases hj
     exact hown.cells (g := g) rfl j u h2)
   have hrz := fun ty => Lib.run_append_grow_zeros w 22 3 ty 31 i0 _ .i64 .i64 Tryz.underlying22 Tryz.underlying3 hi0 hz0 (some ⟨g, 0, none⟩) i c (itV (M.take i)) hold (c + 1 - i) (by omega) (by omega) (by omega) (by omega) (by rw [hz2]; omega) (by rw [hz2, hik]; exact growslice_fits (by omega) (by omega))
   rw [hik] at hrz
   have hge := grownCap_ge w (c + 1) c 31
   have hmx : grownCap w (c + 1) c 31 ≤ maxLen := grownCap_le_maxLen w (c + 1) c 31 (by unfold maxLen; omega)
   obtain ⟨G, hG⟩ : ∃ G, grownCap w (c + 1) c 31 = G := ⟨_, rfl⟩
   rw [hG] at hrz hge hmx
   obtain ⟨Z, hZ⟩ : ∃ Z, (Builtin.zeroCells (Value.cells (.agg #[.string ⟨#[]⟩, .string ⟨#[]⟩, .slice none 0 0, .bool false, .bool false, .bool false, .bool false, .bool false])) (c + 1 - i)).toList = Z := ⟨_, rfl⟩
   have hZl : Z.length = (c + 1 - i) * 8 := by rw [← hZ, Array.length_toList, size_zeroCells]; rfl
   have own1 : (w.drew.alloc (.cells ((itV (M.take i)).toArray ++ Builtin.zeroCells (Value.cells (.agg #[.string ⟨#[]⟩, .string ⟨#[]⟩, .slice none 0 0, .bool false, .bool false, .bool false, .bool false, .bool false])) (c + 1 - i) ++ Builtin.zeroCells (Value.cells (.agg #[.string ⟨#[]⟩, .string ⟨#[]⟩, .slice none 0 0, .bool false, .bool false, .bool false, .bool false, .bool false])) (G - (c + 1))) 31)).ownsRow B 31 8 (.slice (some ⟨w.heap.size, 0, none⟩) (c + 1) G) (c + 1) (itV (M.take i) ++ Z) := by
    have hlen1 : (itV (M.take i) ++ Z).length = (c + 1) * 8 := by rw [List.length_append, hTl, hZl, ← Nat.add_mul, hik]
    refine ⟨hlen1, .inr ⟨w.heap.size, G, _, rfl, hB, heap_alloc_new w.drew _, hge, hmx, ?_, ?_⟩⟩
    ·simp only [Array.size_append, List.size_toArray, size_zeroCells, hTl]
     show i * 8 + (c + 1 - i) * 8 + (G - (c + 1)) * 8 = G * 8
     omega
    ·simp only [Array.toList_append]
     rw [hZ, ← hlen1]
     exact List.take_left
   have grow1 : w.grownBy (w.drew.alloc (.cells ((itV (M.take i)).toArray ++ Builtin.zeroCells (Value.cells (.agg #[.string ⟨#[]⟩, .string ⟨#[]⟩, .slice none 0 0, .bool false, .bool false, .bool false, .bool false, .bool false])) (c + 1 - i) ++ Builtin.zeroCells (Value.cells (.agg #[.string ⟨#[]⟩, .string ⟨#[]⟩, .slice none 0 0, .bool false, .bool false, .bool false, .bool false, .bool false])) (G - (c + 1))) 31)) (some g) := ⟨rfl, rfl, rfl, by simp, fun k hk _ => heap_alloc_old w.drew _ hk⟩
   obtain ⟨W1, hW1⟩ : ∃ W1, w.drew.alloc (.cells ((itV (M.take i)).toArray ++ Builtin.zeroCells (Value.cells (.agg #[.string ⟨#[]⟩, .string ⟨#[]⟩, .slice none 0 0, .bool false, .bool false, .bool false, .bool false, .bool false])) (c + 1 - i) ++ Builtin.zeroCells (Value.cells (.agg #[.string ⟨#[]⟩, .string ⟨#[]⟩, .slice none 0 0, .bool false, .bool false, .bool false, .bool false, .bool false])) (G - (c + 1))) 31) = W1 := ⟨_, rfl⟩
   have hrz2 : ∀ ty, (Builtin.append_ #[22, 3] ty #[.slice (some ⟨g, 0, none⟩) i c, .int .i64 ((c : Int) + 1 - (i : Int))]).run Tryz.prog w = .ok (.slice (some ⟨w.heap.size, 0, none⟩) (c + 1) G) W1 := fun ty => by rw [hkk, ← hW1]; exact hrz ty
   have hx1 : W1.heap[xb]? = w.heap[xb]? := by rw [← hW1]; exact heap_alloc_old w.drew _ hxl
   have hg1 : W1.heap[g]? = w.heap[g]? := by rw [← hW1]; exact heap_alloc_old w.drew _ hgl
   rw [hW1] at own1 grow1
   obtain ⟨W2, hcp1, own2, grow2⟩ := run_copy_own W1 B w.heap.size (c + 1) G 8 i (c + 1 - i) (G - i) 22 22 31 ⟨xb, 0, none⟩ 1 1 _ (itC p) Tryz.underlying22 hsz own1
    (by rw [itC_len]; have : Nat.min 1 (c + 1 - i) = 1 := by simp only [Nat.min_def]; split <;> omega
        rw [this]) (hxr W1 hx1) (by rw [itC_len]; omega) hP1
   have hs1 : w.heap.size < W1.heap.size := (own1.lt _ rfl).2
   have hg2 : W2.heap[g]? = w.heap[g]? := (grow2.block g (by omega) (fun e => by cases e; omega)).trans hg1
   obtain ⟨W3, hcp2, own3, grow3⟩ := run_copy_own W2.drew B w.heap.size (c + 1) G 8 (i + 1) (c + 1 - (i + 1)) (G - (i + 1)) 22 22 31 ⟨g, i * 8, none⟩ (c - i) (c - i) _ (itV (M.drop i)) Tryz.underlying22 hsz own2.drew
    (by rw [hDl]; congr 1; simp only [Nat.min_def]; split <;> omega) (fun j u hj => by
     have h := own_addr hown (i * 8) j u (by rw [hMd]; exact hj)
     rw [Addr.add_lit] at h ⊢
     simp only [World.cell?] at h ⊢
     rw [show W2.drew.heap[g]? = w.heap[g]? from hg2]
     exact h) (by rw [hDl, ← Nat.add_mul]; exact Nat.mul_le_mul_right _ (by omega)) (fun u hu => itV_one _ u hu)
   have hfin := ins_grow (itV (M.take i)) (itV (M.drop i)) Z (itC p) (by rw [hZl, hDl, itC_len]; omega)
   rw [hTl, itC_len, show i * 8 + 8 = (i + 1) * 8 by omega] at hfin
   rw [itC_len, show i * 8 + 8 = (i + 1) * 8 by omega, hfin] at own3
   have u1 : ¬ (G = i) := by omega
   have u2 : ¬ (G = i + 1) := by omega
   have u3 : (c : Int) < (c : Int) + 1 := by omega
   have u4 : G ≤ 9223372036854775807 := by unfold maxLen at hmx; exact hmx
   have u5 : (i : Int) ≤ (c : Int) + 1 := by omega
   have u6 : (i : Int) + 1 ≤ (c : Int) + 1 := by omega
   have u7 : IntKind.i64.wrap ((c : Int) + 1 - (i : Int)) = (c : Int) + 1 - (i : Int) := IntWalk.i64_in _ (by omega)
   have HO := Lib.hid own3
   have g2 := grown_new (row := some g) grow1 grow2 (Nat.le_refl _)
   have HG := Lib.hid (grown_new (w := w) (w1 := W2) (row := some g) g2 (g := w.heap.size) ⟨grow3.os, grow3.tape, grow3.output, grow3.size, grow3.block⟩ (Nat.le_refl _))
   have HLN := Lib.hid hlen
   have HI := Lib.hid hitv
   have CP1 := Lib.hid hcp1
   have CP2 := Lib.hid hcp2
   have RZ := Lib.hid hrz2
   clear hx hxr hown own1 own2 own3 grow1 grow2 grow3 g2 hTl hDl hMs hMd hP1 hsz hx1 hg1 hg2 hcp1 hcp2 hfin hlen hitv hn hne hrz hrz2 hW1 hZ hZl hG hold hge hmx hkk hik hs1
   go_enter Tryz.func80, Tryz.ntmps80
   go_wp2_with (at_builtin; refine Hid.out ?_)
   refine Lib.hid ?_
   refine Lib.wpList_append_run _ rfl _ _ _ _ rfl _ _ rfl rfl _ _ (RZ.out _) ?_
   have mixed : Tryz.prog.follows Departure.mixedOrders = true := by kernel_rfl
   have cp1 := CP1.out
   go_wp2_with fail
   go_region_law_o (refine step_copy_runI rfl _ _ 22 22 rfl _ _ (by simp [Act.eval, Act.put]) (by simp [Act.eval, Act.put]) (CP2.out _) ?_)
   go_wp2_with fail
   go_ret
   exact ⟨_, rfl, by rw [HLN.out, HI.out]; exact HO.out, HG.out, fun g' hg' => by (cases hg'; exact .inr (Nat.le_refl _))⟩
/-- roster rows: one taken out, in place. -/
theorem erase_eq (M : List Im) (i : Nat) : M.take i ++ M.drop (i + 1) = M.eraseIdx i := (List.eraseIdx_eq_take_drop_succ M i).symm
theorem step_append_runI {P : Program} {ops : Array Oper} {o : Oper} {a : Act} {w : World} {K : Act → World → Prop} {Q : Exit → Act → World → Prop} {E : Prop}
  (hg : o.guard = none) (d x : Operand) (dT sT : TypeId) (hop : o.op = Op.call { callee := Callee.builtin Builtin.append, args := #[d, x], argTypes := #[dT, sT] })
  (v u : Value) (hd : a.eval d = v) (hx : a.eval x = u) {v' : Value} {w' : World} (hr : (Builtin.append_ #[dT, sT] o.type #[v, u]).run P w = .ok v' w') (hK : K (a.put o.dst v') w') :
  if Region.wanted o (yielded ops a.tmps) = true then Oper.wp P o a w K Q else E := by
 have hw : Region.wanted o (yielded ops a.tmps) = true := by simp [Region.wanted, hg]
 rw [if_pos hw]
 unfold Oper.wp
 simp [execOp, hop, resolve, invoke, builtin, hd, hx, hr, Result.andThen]
 exact hK
set_option maxHeartbeats 4000000 in
set_option maxRecDepth 100000 in
theorem sl_Delete (B : Nat) (v : Value) (M : List Im) (i : Nat) (w : World) (hown : w.ownsRow B 31 8 v M.length (itV M)) (hi : i < M.length) (hM : M.length ≤ 100000) :
  Calls Tryz.prog 82 #[v, .int .i64 i, .int .i64 ((i : Int) + 1)] w (InsIs B w v (M.eraseIdx i)) := by
 obtain ⟨i0, hi0, hz0, hz1, hz2⟩ := info_parts vinfo_item
 obtain ⟨n, hn⟩ : ∃ n, M.length = n := ⟨_, rfl⟩
 rw [hn] at hown hi hM
 obtain ⟨a, c, rfl, hnc⟩ := row_form hown
 obtain ⟨g, rfl, -, hgB, hgl⟩ := own_some hown (by omega)
 have hlen : (M.eraseIdx i).length = n - 1 := by rw [List.length_eraseIdx, if_pos (by omega), hn]
 have hTl : (itV (M.take i)).length = i * 8 := by rw [itV_len, List.length_take]; congr 1; omega
 have hDl : (itV (M.drop (i + 1))).length = (n - (i + 1)) * 8 := by rw [itV_len, List.length_drop, hn]
 have hMd : (itV M).drop ((i + 1) * 8) = itV (M.drop (i + 1)) := (itV_drop M (i + 1)).symm
 have hMt : (itV M).take (i * 8) = itV (M.take i) := (itV_take M i).symm
 have hMl : (itV M).drop ((n - 1) * 8) = itV (M.drop (n - 1)) := (itV_drop M (n - 1)).symm
 have hc63 : c ≤ 9223372036854775807 := by
  rcases hown.2 with ⟨h, _⟩ | ⟨g', cap', cur, h, _, _, _, h4, _⟩
  ·simp at h
  ·simp only [Value.slice.injEq] at h
   obtain ⟨_, _, rfl⟩ := h
   unfold maxLen at h4
   exact h4
 have hown' : w.drew.ownsRow B 31 i0.size (.slice (some ⟨g, 0, none⟩) n c) n (itV M) := by rw [hz1]; exact hown.drew
 have key : ∀ a' : Addr, (∀ j u, (itV (M.drop (i + 1)))[j]? = some u → w.cell? (a'.add j) = some u) → ∀ cc, ∃ w', (∀ ty, (Builtin.append_ #[22, 22] ty #[.slice (some ⟨g, 0, none⟩) i c, .slice (some a') (n - (i + 1)) cc]).run Tryz.prog w.drew = .ok (.slice (some ⟨g, 0, none⟩) (n - 1) c) w') ∧
   w'.ownsRow B 31 8 (.slice (some ⟨g, 0, none⟩) n c) n (itV (M.eraseIdx i ++ M.drop (n - 1))) ∧ w.grownBy w' (some g) := fun a' ha cc => by
  obtain ⟨w', h1, h2, h3⟩ := run_app_own_in w.drew B g n c i 22 31 i0 Tryz.underlying22 hi0 a' (n - (i + 1)) cc (itV M) (itV (M.drop (i + 1))) hown' (by rw [hDl, hz1]) ha (by omega) (fun u hu => itV_one _ u hu)
  rw [show i + (n - (i + 1)) = n - 1 by omega] at h1
  rw [hz1, hMt, hDl, show i * 8 + (n - (i + 1)) * 8 = (n - 1) * 8 by omega, hMl, ← itV_app, ← itV_app, erase_eq] at h2
  exact ⟨w', h1, h2, ⟨h3.os, h3.tape, h3.output, h3.size, h3.block⟩⟩
 have w1 : ((i : Int) + 1).toNat = i + 1 := by omega
 have w2 : (0 : Int) ≤ (i : Int) + 1 := by omega
 have w3 : (i : Int) ≤ (i : Int) + 1 := by omega
 have w4 : (i : Int) + 1 ≤ (n : Int) := by omega
 have w5 : ¬ ((i : Int) = (i : Int) + 1) := by omega
 have w6 : (i : Int) ≤ (c : Int) := by omega
 have w7 : ((n - 1 : Nat) : Int) ≤ (n : Int) := by omega
 have w8 : ¬ (c = n - 1) := by omega
 have w9 : (n : Int) ≤ (c : Int) := by omega
 have fin : ∀ W1 : World, W1.ownsRow B 31 8 (.slice (some ⟨g, 0, none⟩) n c) n (itV (M.eraseIdx i ++ M.drop (n - 1))) → w.grownBy W1 (some g) →
   ∃ w', (∀ ty, (Builtin.clear_ #[22] ty #[.slice (some ⟨g, (n - 1) * 8, none⟩) (n - (n - 1)) (c - (n - 1))]).run Tryz.prog W1 = .ok (.tuple #[]) w') ∧ w'.ownsRow B 31 8 (.slice (some ⟨g, 0, none⟩) (n - 1) c) (M.eraseIdx i).length (itV (M.eraseIdx i)) ∧ w.grownBy w' (some g) := fun W1 h1 h2 => by
  obtain ⟨w', e1, e2, e3⟩ := run_clearI W1 B g n c (n - 1) _ h1 (by omega)
  have e4 : (M.eraseIdx i ++ M.drop (n - 1)).take (n - 1) = M.eraseIdx i := by rw [← hlen]; exact List.take_left
  rw [e4] at e2
  exact ⟨w', e1, by rw [hlen]; exact e2, grown_trans2 h2 e3⟩
 by_cases hcc : c = i + 1
 ·obtain ⟨W1, ap, own1, gr1⟩ := key ⟨g, 0, none⟩ (fun j u hj => by
   have : M.drop (i + 1) = [] := List.drop_eq_nil_of_le (by omega)
   rw [this] at hj
   simp [itV] at hj) 0
  obtain ⟨W2, cl, own2, gr2⟩ := fin W1 own1 gr1
  have hni : n = i + 1 := by omega
  have hn1 : n - 1 = i := by omega
  have hn2 : n - (n - 1) = 1 := by omega
  rw [hn2, hn1] at cl
  have hn3 : n - (i + 1) = 0 := by omega
  rw [hn3, hn1] at ap
  rw [hn1] at own2
  have hci : c - i = 1 := by omega
  rw [hci] at cl
  have AP := Lib.hid ap
  have HO := Lib.hid own2
  have HG := Lib.hid gr2
  subst hcc
  subst hni
  clear ap own1 gr1 own2 gr2 key fin hown hown' hlen hTl hDl hMd hMt hMl hn
  go_enter Tryz.func82, Tryz.ntmps82
  have mixed : Tryz.prog.follows Departure.mixedOrders = true := by kernel_rfl
  go_wp2_with fail
  go_region_law_o (refine step_append_runI rfl _ _ 22 22 rfl (.slice (some ⟨g, 0, none⟩) i (i + 1)) (.slice (some ⟨g, 0, none⟩) 0 0) (by simp [Act.eval, Act.put]) (by simp [Act.eval, Act.put]) (AP.out _) ?_)
  have CLR := cl
  go_wp2_with fail
  go_ret
  exact ⟨_, rfl, HO.out, HG.out, fun g' hg' => .inl hg'⟩
 ·obtain ⟨W1, ap, own1, gr1⟩ := key ⟨g, (i + 1) * 8, none⟩ (fun j u hj => own_addr hown ((i + 1) * 8) j u (by rw [hMd]; exact hj)) (c - (i + 1))
  obtain ⟨W2, cl, own2, gr2⟩ := fin W1 own1 gr1
  have AP := Lib.hid ap
  have HO := Lib.hid own2
  have HG := Lib.hid gr2
  clear ap own1 gr1 own2 gr2 key fin hown hown' hlen hTl hDl hMd hMt hMl hn
  go_enter Tryz.func82, Tryz.ntmps82
  have mixed : Tryz.prog.follows Departure.mixedOrders = true := by kernel_rfl
  go_wp2_with fail
  go_region_law_o (refine step_append_runI rfl _ _ 22 22 rfl _ _ (by simp [Act.eval, Act.put]) (by simp [Act.eval, Act.put]) (AP.out _) ?_)
  have CLR := cl
  go_wp2_with fail
  go_ret
  exact ⟨_, rfl, HO.out, HG.out, fun g' hg' => .inl hg'⟩
end Go.Proofs.YtfonkblbgadhmaaGreatDoor
