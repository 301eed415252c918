/- line.may: the walk. -/
import Derived.Test.YtnfgpcccmbblcaaDoorLnA
namespace Go.Proofs.YtnfgpcccmbblcaaDoor
open Go.RowKit

/-- A line as a value. -/
abbrev lnV (m t : ByteArray) (g s : Int) : Value := .agg #[.string m, .string t, .int .i64 g, .int .i64 s]
set_option maxHeartbeats 8000000 in
set_option maxRecDepth 100000 in
theorem ln_may (m t : ByteArray) (g s : Int) (w : World) (hm : m.size ≤ 1000000) (ht : t.size ≤ 1000000) :
    Calls Tryd.prog 57 #[lnV m t g s] w (Ret w (.bool (lnMay m.data.toList t.data.toList g s))) := by
  obtain ⟨cap, C, hC, hCs, hcv⟩ := str_bytes (P := Tryd.prog) (w.alloc (.cells #[.string m, .string t, .int .i64 g, .int .i64 s] 36)) 9 50 5 t Tryd.underlying9 Tryd.underlying50 Tryd.underlying5
  have H := Lib.hid (has_tg (w.heap.size + 1) t.size cap t.data.toList (size_toList t) ht (((w.alloc (.cells #[.string m, .string t, .int .i64 g, .int .i64 s] 36)).alloc (.cells C 5 (C.size, C.size + 1))).drew) (fun j h => by
    rw [size_toList] at h
    have h2 := World.cell?_alloc_mark (w.alloc (.cells #[.string m, .string t, .int .i64 g, .int .i64 s] 36)) C 5 (C.size, C.size + 1) j
    rw [World.size_alloc] at h2
    exact h2.trans (hC j h)))
  have hq := any_all_not t.data.toList tgC
  obtain ⟨p, hp⟩ : ∃ p, (t.data.toList.any fun c => !tgC c) = p := ⟨_, rfl⟩
  obtain ⟨K, hK⟩ : ∃ K, tok m.data.toList = K := ⟨_, rfl⟩
  have T := Lib.hid fun w => token_at m K w hm hK
  rw [hp] at H hq
  have hres : lnMay m.data.toList t.data.toList g s = (K && ((!t.data.toList.isEmpty && !p) && ((decide (0 ≤ g) && decide (g ≤ 9)) && (decide (0 ≤ s) && decide (s ≤ 9))))) := by
    unfold lnMay tgt
    rw [hK, ← hq]
  clear hC hp hq hK hm ht
  cases K with
  | false =>
    have HR := Lib.hid hres
    clear hres
    rw [HR.out]
    go_enter Tryd.func57, Tryd.ntmps57
    go_wp2_with fail
    refine (H.out).mono ?_
    rintro e w1 ⟨rfl, rfl⟩
    go_wp2_with fail
    refine (T.out _).mono ?_
    rintro e w2 ⟨rfl, hb2⟩
    go_wp2_with fail
    go_ret
    exact ⟨rfl, (((Below.refl _ w).alloc (Nat.le_refl _) _).alloc (by simp) _).drew.trans (hb2.mono (by simp; omega))⟩
  | true =>
    by_cases h0 : t.size = 0
    · obtain rfl : t = ⟨#[]⟩ := str_ext (List.eq_nil_of_length_eq_zero (by rw [size_toList]; exact h0))
      have HR : Hid (lnMay m.data.toList (⟨#[]⟩ : ByteArray).data.toList g s = false) := Lib.hid (by rw [hres]; rfl)
      clear hres h0
      rw [HR.out]
      go_enter Tryd.func57, Tryd.ntmps57
      go_wp2_with fail
      refine (H.out).mono ?_
      rintro e w1 ⟨rfl, rfl⟩
      go_wp2_with fail
      refine (T.out _).mono ?_
      rintro e w2 ⟨rfl, hb2⟩
      have d1 := (bcell hb2).1 w.heap.size 1 (by simp; omega)
      simp at d1
      go_wp2_with fail
      go_ret
      exact ⟨ret_b (by first | rfl | simp), (((Below.refl _ w).alloc (Nat.le_refl _) _).alloc (by simp) _).drew.trans (hb2.mono (by simp; omega))⟩
    · have e1 := isEmpty_of_pos (s := t) (by omega)
      have e2 := ne_nil_of_pos (s := t) (by omega)
      rw [show t.data.toList.isEmpty = false by rw [← Lib.toList_data]; exact e1] at hres
      cases p with
      | true =>
        have HR := Lib.hid hres
        clear hres h0
        rw [HR.out]
        go_enter Tryd.func57, Tryd.ntmps57
        go_wp2_with fail
        refine (H.out).mono ?_
        rintro e w1 ⟨rfl, rfl⟩
        go_wp2_with fail
        refine (T.out _).mono ?_
        rintro e w2 ⟨rfl, hb2⟩
        have d1 := (bcell hb2).1 w.heap.size 1 (by simp; omega)
        simp at d1
        go_wp2_with fail
        go_ret
        exact ⟨ret_b (by first | rfl | simp), (((Below.refl _ w).alloc (Nat.le_refl _) _).alloc (by simp) _).drew.trans (hb2.mono (by simp; omega))⟩
      | false =>
        simp only [Bool.not_false, Bool.true_and] at hres
        have HR := Lib.hid hres
        clear hres h0
        go_enter Tryd.func57, Tryd.ntmps57
        go_wp2_with fail
        refine (H.out).mono ?_
        rintro e w1 ⟨rfl, rfl⟩
        go_wp2_with fail
        refine (T.out _).mono ?_
        rintro e w2 ⟨rfl, hb2⟩
        have d1 := (bcell hb2).1 w.heap.size 1 (by simp; omega)
        have d2 := (bcell hb2).1 w.heap.size 2 (by simp; omega)
        have d3 := (bcell hb2).1 w.heap.size 3 (by simp; omega)
        simp at d1 d2 d3
        go_wp2_with fail
        all_goals
          go_ret
          refine ⟨ret_b ?_, (((Below.refl _ w).alloc (Nat.le_refl _) _).alloc (by simp) _).drew.trans (hb2.mono (by simp; omega))⟩
          rw [HR.out, Bool.eq_iff_iff]
          simp
          omega
end Go.Proofs.YtnfgpcccmbblcaaDoor
