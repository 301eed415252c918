/- A list of ints that comes in, as data; the table that base 16 reads. -/
import Derived.Test.YthgmgmbjjjnhnaaGreatDoorEnc
import Derived.OpenShut
import Derived.Lib.LaidTab
namespace Go.Proofs.YthgmgmbjjjnhnaaGreatDoor
open Go.RowKit Go.ChangeShapes Go.WideShapes Go.ChangeAt

theorem gTz : Tryz.prog.globalNamed "math/bits.deBruijn64tab" = some 3 := by kernel_rfl
theorem tabZ_of {w : World} {zs : List Int} (h : Lib.TabIs Tryz.prog w "math/bits.deBruijn64tab" .u8 zs) (hz : zs[15]? = some 4) : TabZ w := by
  unfold Lib.TabIs World.var? at h
  rw [gTz] at h
  simp only [Option.bind_some] at h
  unfold TabZ World.cell?
  split at h
  · rename_i cs t fr hh
    injection h with h
    rw [hh]
    simp only [h]
    rw [List.getElem?_toArray, List.getElem?_map, hz]
    rfl
  · cases h
theorem own_ints {w : World} {B n : Nat} {v : Value} {xs : List Int} (h : w.ownsRow B 3 1 v n (xs.map (Value.int .i64))) : IsInts v xs w := by
  have hn : n = xs.length := by have := h.1; simp at this; omega
  subst hn
  rcases h.2 with ⟨rfl, h0⟩ | ⟨g, cap, cur, rfl, hg1, hg2, hg3⟩
  · exact ⟨none, 0, by rw [h0], .inl (List.eq_nil_of_length_eq_zero h0)⟩
  · refine ⟨some ⟨g, 0, none⟩, cap, rfl, .inr ⟨g, 0, rfl, ?_, fun j hj => ?_⟩⟩
    · rcases Nat.lt_or_ge g w.heap.size with h' | h'
      · exact h'
      · simp [Array.getElem?_eq_none h'] at hg2
    · have := h.cells (g := g) rfl j (.int .i64 xs[j]) (by rw [List.getElem?_map, List.getElem?_eq_getElem hj]; rfl)
      rw [Nat.zero_add, ← this]
      congr 1
      simp only [Addr.add]
      split
      · rename_i e
        rw [e]
      · rw [Nat.zero_add]
set_option maxRecDepth 100000 in
theorem open_list {H : Type} {enc : TypeId × Value → H} {W : World} {base : Nat} {v : Value} {d : DataW H} {ps : List MemPlace}
    (hv : Value.okWide Tryz.prog W .any base 56 v) (h : DataW.Trod enc Tryz.prog W 0 (fun _ => true) true 56 v d ps) :
    ∃ xs, IsInts v xs W ∧ (∀ x ∈ xs, -9223372036854775808 ≤ x ∧ x ≤ 9223372036854775807) ∧ xs.length ≤ 9223372036854775807 := by
  obtain ⟨a, len, cap, rfl⟩ := okWide_slice Tryz.underlying56 hv
  obtain ⟨fuel, hf⟩ := h
  rcases open_ints Tryz.underlying56 Tryz.underlying3 (by kernel_rfl) hf with ⟨hcs, _⟩ | ⟨x, l, c, zs, hcs, _, hl, hm, hz, _, hcell, hwz⟩
  · simp [Value.cells] at hcs
    obtain ⟨rfl, rfl, rfl⟩ := hcs
    exact ⟨[], ⟨none, 0, rfl, .inl rfl⟩, by simp, by simp⟩
  · simp [Value.cells] at hcs
    obtain ⟨rfl, rfl, rfl⟩ := hcs
    unfold maxLen at hm
    rw [if_pos rfl] at hz
    have hlen : (zs.take len).length = len := by rw [List.length_take]; omega
    refine ⟨zs.take len, ⟨some x, cap, by rw [hlen], ?_⟩, ?_, by omega⟩
    · by_cases h0 : len = 0
      · left
        rw [h0]
        rfl
      · right
        obtain ⟨b, off, rfl, hc⟩ := ints_at hcell (by omega)
        have hb : b < W.heap.size := by
          rcases Nat.lt_or_ge b W.heap.size with h | h
          · exact h
          · have := hc 0 (by omega)
            simp [World.cell?, Array.getElem?_eq_none h] at this
        refine ⟨b, off, rfl, hb, fun j hj => ?_⟩
        rw [hc j (by omega), List.getElem_take, List.getD_eq_getElem?_getD, List.getElem?_eq_getElem (by omega)]
        rfl
    · intro y hy
      have := hwz y (List.mem_of_mem_take hy)
      simp [Lit.wf, IntKind.min, IntKind.max, IntKind.bits, IntKind.signed] at this
      omega
set_option maxRecDepth 100000 in
theorem open_nil {H : Type} {enc : TypeId × Value → H} {W : World} {base : Nat} {v : Value} {d : DataW H} {ps : List MemPlace}
    (hv : Value.okWide Tryz.prog W .any base 56 v) (h : DataW.Trod enc Tryz.prog W 0 (fun _ => true) true 56 v d ps) : ∀ n c, v = .slice none n c → n = 0 ∧ c = 0 := by
  obtain ⟨a, len, cap, rfl⟩ := okWide_slice Tryz.underlying56 hv
  obtain ⟨fuel, hf⟩ := h
  intro n c e
  rcases open_ints Tryz.underlying56 Tryz.underlying3 (by kernel_rfl) hf with ⟨hcs, _⟩ | ⟨x, l, c', zs, hcs, _⟩
  · simp [Value.cells] at hcs
    obtain ⟨rfl, rfl, rfl⟩ := hcs
    injection e with _ e1 e2
    exact ⟨e1.symm, e2.symm⟩
  · simp [Value.cells] at hcs
    obtain ⟨rfl, rfl, rfl⟩ := hcs
    injection e with e1
    cases e1
end Go.Proofs.YthgmgmbjjjnhnaaGreatDoor
