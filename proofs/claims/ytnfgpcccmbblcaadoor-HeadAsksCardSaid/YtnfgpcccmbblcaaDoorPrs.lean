/- A list of fields, and a field, that come in as data. -/
import Derived.Test.YtnfgpcccmbblcaaDoorHdC
import Derived.Deep.SlicePairs
import Derived.OpenShut
import Derived.Lib.SmallJoins
namespace Go.Proofs.YtnfgpcccmbblcaaDoor
open Go.RowKit Go.ChangeShapes Go.WideShapes Go.ChangeAt

def strOf : Value → List UInt8
  | .string s => s.data.toList
  | _ => []
set_option maxRecDepth 100000 in
theorem open_prs {H : Type} {enc : TypeId × Value → H} {W : World} {base : Nat} {v : Value} {d : DataW H} {ps : List MemPlace}
    (hv : Value.okWide Tryd.prog W .any base 22 v) (h : DataW.Trod enc Tryd.prog W 0 (fun _ => true) true 22 v d ps) :
    ∃ qs : List Pr, IsPairs v qs W ∧ qs.length ≤ 9223372036854775807 := by
  obtain ⟨a, len, cap, rfl⟩ := okWide_slice Tryd.underlying22 hv
  obtain ⟨fuel, hf⟩ := h
  rcases Go.Deep.open_slice_pairs Tryd.underlying22 Tryd.underlying52 (by kernel_rfl) rfl rfl (by kernel_rfl) (by kernel_rfl) hf with ⟨hcs, _⟩ | ⟨x, l, c, m, n, V0, V1, D0, D1, P0, P1, hcs, _, hl, hm, hmm, _, hx⟩
  · simp [Value.cells] at hcs
    obtain ⟨rfl, rfl, rfl⟩ := hcs
    exact ⟨[], IsPairs.nil _, by simp⟩
  · simp [Value.cells] at hcs
    obtain ⟨rfl, rfl, rfl⟩ := hcs
    unfold maxLen at hm
    rw [if_pos rfl] at hmm
    subst hmm
    have e0 : ∀ i, i < m → V0 i = .string ⟨(strOf (V0 i)).toArray⟩ ∧ V1 i = .string ⟨(strOf (V1 i)).toArray⟩ := fun i hi => by
      obtain ⟨_, _, h2, h3⟩ := hx i hi
      obtain ⟨s, hs, _, _⟩ := DataW.trod_string Tryd.underlying9 h2
      obtain ⟨t, ht, _, _⟩ := DataW.trod_string Tryd.underlying9 h3
      have hs2 : V0 i = .string s := by simpa using hs
      have ht2 : V1 i = .string t := by simpa using ht
      exact ⟨by rw [hs2]; rfl, by rw [ht2]; rfl⟩
    have hql : ((List.range len).map fun i => ((strOf (V0 i), strOf (V1 i)) : Pr)).length = len := by simp
    refine ⟨(List.range len).map fun i => (strOf (V0 i), strOf (V1 i)), ?_, by rw [hql]; omega⟩
    unfold IsPairs
    rw [hql]
    refine ⟨by rw [prV_len, hql], some x, m, rfl, (fun h => by cases h), ?_⟩
    by_cases h0 : len = 0
    · exact .inl h0
    · right
      obtain ⟨b, off, spot⟩ := x
      have hspot : spot = none := by simpa [Addr.add] using World.cell?_spot (hx 0 (by omega)).1
      subst hspot
      have hc : ∀ i, i < m → W.cell? ⟨b, off + i * 2, none⟩ = some (V0 i) ∧ W.cell? ⟨b, off + i * 2 + 1, none⟩ = some (V1 i) := fun i hi => by
        obtain ⟨h1, h2, _⟩ := hx i hi
        rw [Go.WideShapes.add_plain] at h1 h2
        exact ⟨h1, h2⟩
      have hb : b < W.heap.size := by
        rcases Nat.lt_or_ge b W.heap.size with h | h
        · exact h
        · have := (hc 0 (by omega)).1
          simp [World.cell?, Array.getElem?_eq_none h] at this
      refine ⟨b, off, rfl, hb, fun j hj => ?_⟩
      rw [prV_len, hql] at hj
      have hk : j / 2 < ((List.range len).map fun i => ((strOf (V0 i), strOf (V1 i)) : Pr)).length := by rw [hql]; omega
      obtain ⟨g1, g2⟩ := prV_at _ _ hk
      rw [List.getElem_map, List.getElem_range] at g1 g2
      obtain ⟨c1, c2⟩ := hc (j / 2) (by omega)
      obtain ⟨v1, v2⟩ := e0 (j / 2) (by omega)
      rcases Nat.mod_two_eq_zero_or_one j with hj2 | hj2
      · have ej : j / 2 * 2 = j := by omega
        rw [ej] at g1 c1
        rw [c1, v1, ← g1]
        exact List.getElem?_eq_getElem _
      · have ej : j / 2 * 2 + 1 = j := by omega
        rw [ej] at g2
        rw [Nat.add_assoc, ej] at c2
        rw [c2, v2, ← g2]
        exact List.getElem?_eq_getElem _
end Go.Proofs.YtnfgpcccmbblcaaDoor
