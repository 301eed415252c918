/- Lists of replies. -/
import Derived.Test.YthgmgmbjjjnhnaaDoorRpG
import Derived.Deep.Slices
import Derived.ChangeSame
import Derived.OpenShut
import Derived.Lib.SmallJoins
namespace Go.Proofs.YthgmgmbjjjnhnaaDoor
open Go.RowKit

abbrev Rp := Int × List UInt8 × Bool
abbrev rsC (r : Rp) : List Value := [.int .i64 r.1, .string ⟨r.2.1.toArray⟩, .bool r.2.2]
def rsV (rs : List Rp) : List Value := rs.flatMap rsC
theorem rsV_cons (r : Rp) (rs : List Rp) : rsV (r :: rs) = rsC r ++ rsV rs := rfl
theorem rsV_len (rs : List Rp) : (rsV rs).length = rs.length * 3 := by
  induction rs with
  | nil => rfl
  | cons p rs ih => rw [rsV_cons, List.length_append, ih]; simp; omega
theorem rsV_at : ∀ (rs : List Rp) (k : Nat) (h : k < rs.length), (rsV rs)[k * 3]? = some (.int .i64 rs[k].1) ∧ (rsV rs)[k * 3 + 1]? = some (.string ⟨rs[k].2.1.toArray⟩) ∧ (rsV rs)[k * 3 + 2]? = some (.bool rs[k].2.2)
  | [], k, h => by simp at h
  | r :: rs, 0, _ => ⟨rfl, rfl, rfl⟩
  | r :: rs, k + 1, h => by
    obtain ⟨i1, i2, i3⟩ := rsV_at rs k (by simpa using h)
    have e1 : (k + 1) * 3 = k * 3 + 3 := by omega
    rw [e1, rsV_cons]
    exact ⟨i1, i2, i3⟩
/-- A slice that reads as a list of replies. -/
def IsReps (v : Value) (rs : List Rp) (w : World) : Prop := IsRow 3 v rs.length (rsV rs) w
theorem IsReps.ret {v : Value} {rs : List Rp} {w w' : World} (h : IsReps v rs w) (hb : Below w.heap.size w w') : IsReps v rs w' := IsRow.ret h hb
theorem IsReps.form {v : Value} {rs : List Rp} {w : World} (h : IsReps v rs w) : ∃ a cap, v = .slice a rs.length cap := by
  obtain ⟨_, a, cap, h, _⟩ := h
  exact ⟨a, cap, h⟩
theorem IsReps.cell {v : Value} {rs : List Rp} {w : World} (h : IsReps v rs w) {k : Nat} (hk : k < rs.length) : ∃ b off cap, v = .slice (some ⟨b, off, none⟩) rs.length cap ∧ b < w.heap.size ∧
    w.cell? ⟨b, off + k * 3, none⟩ = some (.int .i64 rs[k].1) ∧ w.cell? ⟨b, off + k * 3 + 1, none⟩ = some (.string ⟨rs[k].2.1.toArray⟩) ∧ w.cell? ⟨b, off + k * 3 + 2, none⟩ = some (.bool rs[k].2.2) := by
  obtain ⟨hl, a, cap, rfl, _, hc⟩ := h
  rcases hc with h0 | ⟨b, off, rfl, h1, h2⟩
  · omega
  · have hl2 := rsV_len rs
    obtain ⟨c1, c2, c3⟩ := rsV_at rs k hk
    have d1 := h2 (k * 3) (by omega)
    have d2 := h2 (k * 3 + 1) (by omega)
    have d3 := h2 (k * 3 + 2) (by omega)
    rw [List.getElem?_eq_getElem (by omega)] at c1 c2 c3
    refine ⟨b, off, cap, rfl, h1, d1.trans c1, ?_, ?_⟩
    · rw [Nat.add_assoc]
      exact d2.trans c2
    · rw [Nat.add_assoc]
      exact d3.trans c3
/-- The texts of replies, and all of them. -/
def rpX (r : Rp) : List UInt8 := rpT r.1 r.2.1 r.2.2
def rpMy (r : Rp) : Bool := rpMay r.1 r.2.1 r.2.2
def allT (rs : List Rp) : List UInt8 := (rs.map rpX).flatten
theorem allT_snoc (rs : List Rp) (r : Rp) : allT (rs ++ [r]) = allT rs ++ rpX r := by simp [allT]
theorem allT_cons (r : Rp) (rs : List Rp) : allT (r :: rs) = rpX r ++ allT rs := by simp [allT]
theorem rpX_size {r : Rp} (h : rpMy r = true) (hb : r.2.1.length ≤ 1000) : (rpX r).length ≤ 1200 ∧ 1 ≤ (rpX r).length := by
  obtain ⟨h1, h2⟩ := rpT_size (b := r.2.1) (k := r.2.2) (rpMay_code h) (by omega)
  unfold rpX
  exact ⟨by omega, h2⟩
theorem allT_size {rs : List Rp} (h : ∀ r ∈ rs, rpMy r = true ∧ r.2.1.length ≤ 1000) : (allT rs).length ≤ 1200 * rs.length := by
  induction rs with
  | nil => decide
  | cons r rs ih =>
    have h1 := (rpX_size (h r (List.mem_cons_self ..)).1 (h r (List.mem_cons_self ..)).2).1
    have h2 := ih fun q hq => h q (List.mem_cons_of_mem _ hq)
    rw [allT_cons, List.length_append, List.length_cons]
    omega
/-- The first of texts that stand one behind the other. -/
theorem allT_read {r : Rp} {rs : List Rp} (h : rpMy r = true) (hb : r.2.1.length ≤ 1000) : rpR (allT (r :: rs)) = some r := by
  rw [allT_cons]
  exact rp_back h (by omega) _
/-- No text is the beginning of another one's. -/
theorem rpX_free {r q : Rp} (h1 : rpMy r = true) (h2 : rpMy q = true) (z1 : r.2.1.length ≤ 1000) (z2 : q.2.1.length ≤ 1000) (hne : r ≠ q) : ¬ rpX r <+: rpX q := fun h => hne (rp_free h1 h2 (Nat.le_trans z1 (by decide)) (Nat.le_trans z2 (by decide)) h)
end Go.Proofs.YthgmgmbjjjnhnaaDoor
namespace Go.Proofs.YthgmgmbjjjnhnaaDoor
open Go.RowKit Go.ChangeShapes Go.WideShapes Go.ChangeAt Go.Deep

def intV : Value → Int
  | .int _ n => n
  | _ => 0
def strV1 : Value → List UInt8
  | .string s => s.data.toList
  | _ => []
def boolV : Value → Bool
  | .bool b => b
  | _ => false
set_option maxRecDepth 100000 in
theorem open_reps {H : Type} {enc : TypeId × Value → H} {W : World} {base : Nat} {v : Value} {d : DataW H} {ps : List MemPlace}
    (hv : Value.okWide Tryd.prog W .any base 33 v) (h : DataW.Trod enc Tryd.prog W 0 (fun _ => true) true 33 v d ps) :
    ∃ qs : List Rp, IsReps v qs W ∧ qs.length ≤ 9223372036854775807 ∧ ∀ q ∈ qs, q.2.1.length ≤ 9223372036854775807 := by
  obtain ⟨a, len, cap, rfl⟩ := okWide_slice Tryd.underlying33 hv
  obtain ⟨fuel, hf⟩ := h
  rcases open_slice Tryd.underlying33 hf with ⟨hcs, _⟩ | ⟨x, l, c, m, n, D, Pl, hcs, _, hl, hm, hmm, _, hx⟩
  · simp [Value.cells] at hcs
    obtain ⟨rfl, rfl, rfl⟩ := hcs
    exact ⟨[], ⟨rfl, none, 0, rfl, fun _ => rfl, .inl rfl⟩, by simp, by simp⟩
  · simp [Value.cells] at hcs
    obtain ⟨rfl, rfl, rfl⟩ := hcs
    unfold maxLen at hm
    rw [if_pos rfl] at hmm
    subst hmm
    have ce : Tryd.prog.cellsOf 26 = 3 := by kernel_rfl
    rw [ce] at hx
    have each : ∀ i, i < m → ∃ q : Value × Value × Value, W.cell? (x.add (i * 3)) = some q.1 ∧ W.cell? (x.add (i * 3 + 1)) = some q.2.1 ∧ W.cell? (x.add (i * 3 + 2)) = some q.2.2 ∧
        q.1 = .int .i64 (intV q.1) ∧ q.2.1 = .string ⟨(strV1 q.2.1).toArray⟩ ∧ q.2.2 = .bool (boolV q.2.2) ∧ (strV1 q.2.1).length ≤ 9223372036854775807 := by
      intro i hi
      obtain ⟨cs', h1, h2⟩ := hx i hi
      obtain ⟨_, hlen, hcell⟩ := World.cells?_some h1
      obtain ⟨xs, k, hk, hxy, _, hxl, hf⟩ := DataW.trod_struct Tryd.underlying26 h2
      match cs', hlen with
      | [v0, v1, v2], _ =>
        have g0 := hf 0 _ rfl
        have g1 := hf 1 _ rfl
        have g2 := hf 2 _ rfl
        have c0 := hcell 0 (by omega)
        have c1 := hcell 1 (by omega)
        have c2 := hcell 2 (by omega)
        rw [add_add] at c0 c1 c2
        have i1 : Tryd.prog.cellsOf 3 = 1 := by kernel_rfl
        have i2 : Tryd.prog.cellsOf 9 = 1 := by kernel_rfl
        have i3 : Tryd.prog.cellsOf 4 = 1 := by kernel_rfl
        simp [i1, i2, i3] at g0 g1 g2
        match xs, hxl, g0, g1, g2 with
        | [y0, y1, y2], _, g0, g1, g2 =>
          obtain ⟨n0, e0, _, _⟩ := DataW.trod_int Tryd.underlying3 g0
          obtain ⟨s1, e1, _, z1⟩ := DataW.trod_string Tryd.underlying9 g1
          obtain ⟨b2, e2, _⟩ := DataW.trod_bool Tryd.underlying4 g2
          obtain rfl : v0 = .int .i64 n0 := by simpa using e0
          obtain rfl : v1 = .string s1 := by simpa using e1
          obtain rfl : v2 = .bool b2 := by simpa using e2
          unfold maxLen at z1
          exact ⟨(.int .i64 n0, .string s1, .bool b2), by simpa using c0, by simpa using c1, by simpa using c2, rfl, rfl, rfl, by show s1.data.toList.length ≤ _; rw [size_toList]; exact z1⟩
    obtain ⟨q, hq⟩ := choose_lt each
    have hql : ((List.range len).map fun i => ((intV (q i).1, strV1 (q i).2.1, boolV (q i).2.2) : Rp)).length = len := by simp
    refine ⟨(List.range len).map fun i => (intV (q i).1, strV1 (q i).2.1, boolV (q i).2.2), ?_, by rw [hql]; omega, ?_⟩
    · unfold IsReps
      rw [hql]
      refine ⟨by rw [rsV_len, hql], some x, m, rfl, (fun h => by cases h), ?_⟩
      by_cases h0 : len = 0
      · exact .inl h0
      · right
        obtain ⟨b, off, spot⟩ := x
        have hspot : spot = none := by simpa [Addr.add] using World.cell?_spot (hq 0 (by omega)).1
        subst hspot
        have hc : ∀ i, i < m → W.cell? ⟨b, off + i * 3, none⟩ = some (q i).1 ∧ W.cell? ⟨b, off + i * 3 + 1, none⟩ = some (q i).2.1 ∧ W.cell? ⟨b, off + i * 3 + 2, none⟩ = some (q i).2.2 := fun i hi => by
          obtain ⟨h1, h2, h3, _⟩ := hq i hi
          rw [Go.WideShapes.add_plain] at h1 h2 h3
          exact ⟨h1, h2, h3⟩
        have hb : b < W.heap.size := by
          rcases Nat.lt_or_ge b W.heap.size with h | h
          · exact h
          · have := (hc 0 (by omega)).1
            simp [World.cell?, Array.getElem?_eq_none h] at this
        refine ⟨b, off, rfl, hb, fun j hj => ?_⟩
        rw [rsV_len, hql] at hj
        have hk : j / 3 < ((List.range len).map fun i => ((intV (q i).1, strV1 (q i).2.1, boolV (q i).2.2) : Rp)).length := by rw [hql]; omega
        obtain ⟨g1, g2, g3⟩ := rsV_at _ _ hk
        rw [List.getElem_map, List.getElem_range] at g1 g2 g3
        obtain ⟨c1, c2, c3⟩ := hc (j / 3) (by omega)
        obtain ⟨_, _, _, v1, v2, v3, _⟩ := hq (j / 3) (by omega)
        have hj3 : j % 3 = 0 ∨ j % 3 = 1 ∨ j % 3 = 2 := by omega
        rcases hj3 with h | h | h
        · have ej : j / 3 * 3 = j := by omega
          rw [ej] at g1 c1
          rw [c1, v1, ← g1]
          exact List.getElem?_eq_getElem _
        · have ej : j / 3 * 3 + 1 = j := by omega
          rw [ej] at g2
          rw [Nat.add_assoc, ej] at c2
          rw [c2, v2, ← g2]
          exact List.getElem?_eq_getElem _
        · have ej : j / 3 * 3 + 2 = j := by omega
          rw [ej] at g3
          rw [Nat.add_assoc, ej] at c3
          rw [c3, v3, ← g3]
          exact List.getElem?_eq_getElem _
    · intro r hr
      obtain ⟨i, hi, rfl⟩ := List.mem_map.1 hr
      have := List.mem_range.1 hi
      exact (hq i (by omega)).2.2.2.2.2.2
end Go.Proofs.YthgmgmbjjjnhnaaDoor
