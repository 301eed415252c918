/- The document's Feed. PRINTED BY PROGRAM (gen_wiy.py). -/
import Derived.Test.YthgmgmbjjjnhnaaGreatDoorWiZ
namespace Go.Proofs.YthgmgmbjjjnhnaaGreatDoor
open Go.RowKit

theorem cames_set {v : Value} {l : List Cm} {w : World} {L o : Nat} (h : IsCames v l w) (hf : ∀ k, v.ownBlock = some k → L < k) (x : Value) : IsCames v l (w.setCell ⟨L, o, none⟩ x) := by
  obtain ⟨hl, a, cap, h1, h0, h2⟩ := h
  refine ⟨hl, a, cap, h1, h0, ?_⟩
  rcases h2 with h2 | ⟨b, off, h2, h3, h4⟩
  · exact .inl h2
  · subst h2
    have hb := hf b (by rw [h1]; rfl)
    refine .inr ⟨b, off, rfl, ?_, fun j hj => ?_⟩
    · simpa using h3
    · rw [← h4 j hj]
      exact World.cell?_of_block (Below.heap_setCell _ _ _ _ (by show b ≠ L; omega))
theorem cames_alloc {v : Value} {l : List Cm} {w : World} (h : IsCames v l w) (o : Obj) : IsCames v l (w.alloc o) := h.ret ((Below.refl _ _).alloc (Nat.le_refl _) o)
theorem r17_Fed_off (X D : ByteArray) (w : World) : Calls Tryz.prog 42 #[.agg #[.string X, .bool true], .string D] w (Ret w (.tuple #[.agg #[.string X, .bool true], .slice none 0 0])) := by
  have q0 := ((Below.refl w.heap.size w).alloc (Nat.le_refl _) (.cells #[.string X, .bool true] 44)).alloc (by simp) (.cells #[.string ⟨#[]⟩, .bool false] 44)
  have q1 := ((Below.refl w.heap.size w).alloc (Nat.le_refl _) (.cells #[.string X, .bool true] 44)).alloc (by simp) (.cells #[.string X, .bool true] 44)
  go_enter Tryz.func42, Tryz.ntmps42
  go_wp2_with fail
  refine bodyPost_ret (v := .tuple #[.agg #[.string X, .bool true], .slice none 0 0]) (by simp (maxDischargeDepth := 9) [results, Tryz.results42, go_sem, *]) rfl ⟨rfl, ?_⟩
  repeat (first | with_reducible exact q0 | with_reducible exact q1 | with_reducible refine Below.setCell ?_ (by first | omega | (simp <;> omega)) _)
set_option maxHeartbeats 16000000 in
set_option maxRecDepth 100000 in
theorem r17_Feed (X D : ByteArray) (off : Bool) (w : World) (hX : X.size ≤ 100000) (hD : D.size ≤ 100000) : Calls Tryz.prog 22 #[.agg #[.string X, .bool off], .string D] w (FdIs (fdT X.data.toList off D.data.toList) w) := by
  have q0 := ((Below.refl w.heap.size w).alloc (Nat.le_refl _) (.cells #[.string X, .bool off] 44)).alloc (by simp) (.cells #[.string ⟨#[]⟩, .bool false] 44)
  have A0 := Lib.hid ((WrAt.new w (.string X) (.bool off)).ret' ((Below.refl _ _).alloc (Nat.le_refl _) (.cells #[.string ⟨#[]⟩, .bool false] 44)))
  have W00 := WrAt.new (w.alloc (.cells #[.string X, .bool off] 44)) (.string ⟨#[]⟩) (.bool false)
  rw [World.size_alloc] at W00
  have W0 := Lib.hid W00
  obtain ⟨m, m0, m1, m2, m3⟩ := A0.out
  have M0 := fun w => r17_May X off w (by omega)
  have hck := wiCk_my X.data.toList off
  obtain ⟨O, hO⟩ : ∃ O, fdT X.data.toList off D.data.toList = O := ⟨_, rfl⟩
  rw [hO]
  have HO := Lib.hid hO
  clear W00 hO
  cases hb : wiMy X.data.toList off with
  | false =>
    rw [hb] at M0 hck
    have h8 : wiCk X.data.toList off = 8 := hck
    have hO2 := HO.out
    unfold fdT at hO2
    rw [h8, if_pos (by decide)] at hO2
    have HO2 := Lib.hid hO2
    have MH := Lib.hid M0
    clear M0 hck hb h8 hO2
    go_enter Tryz.func22, Tryz.ntmps22
    go_wp2_with fail
    refine (MH.out _).mono ?_
    rintro e w1 ⟨rfl, hb⟩
    have q1 := q0.trans (hb.mono q0.size)
    have A1 := Lib.hid (A0.out.ret' hb)
    have W1 := Lib.hid (W0.out.ret' hb)
    clear hb m m0 m1 m2 m3
    obtain ⟨m, m0, m1, m2, m3⟩ := A1.out
    obtain ⟨x, x0, x1, x2, x3⟩ := W1.out
    go_wp2_with fail
    refine bodyPost_ret (v := .tuple #[.agg #[.string ⟨#[]⟩, .bool false], .slice none 0 0, .int .i64 8]) (by simp (maxDischargeDepth := 9) [results, Tryz.results22, go_sem, *]) rfl ⟨.slice none 0 0, by rw [← HO2.out], by rw [← HO2.out]; exact IsRow.nil 4 _, ?_⟩
    repeat (first | with_reducible exact q1 | with_reducible refine Below.alloc ?_ (by first | omega | (simp <;> omega)) _ | with_reducible refine Below.setCell ?_ (by first | omega | (simp <;> omega)) _)
  | true =>
    rw [hb] at M0 hck
    have h0 : wiCk X.data.toList off = 0 := hck
    have MH := Lib.hid M0
    have hO2 := HO.out
    clear M0 hck hb
    by_cases h1 : 16384 < D.size
    · unfold fdT at hO2
      rw [h0, if_neg (by decide), if_pos (by rw [size_toList]; exact h1)] at hO2
      have HO2 := Lib.hid hO2
      have g1 : (16384 : Int) < D.size := by omega
      clear h0 hO2
      go_enter Tryz.func22, Tryz.ntmps22
      go_wp2_with fail
      refine (MH.out _).mono ?_
      rintro e w1 ⟨rfl, hb⟩
      have q1 := q0.trans (hb.mono q0.size)
      have A1 := Lib.hid (A0.out.ret' hb)
      have W1 := Lib.hid (W0.out.ret' hb)
      clear hb m m0 m1 m2 m3
      obtain ⟨m, m0, m1, m2, m3⟩ := A1.out
      obtain ⟨x, x0, x1, x2, x3⟩ := W1.out
      go_wp2_with fail
      refine bodyPost_ret (v := .tuple #[.agg #[.string ⟨#[]⟩, .bool false], .slice none 0 0, .int .i64 4]) (by simp (maxDischargeDepth := 9) [results, Tryz.results22, go_sem, *]) rfl ⟨.slice none 0 0, by rw [← HO2.out], by rw [← HO2.out]; exact IsRow.nil 4 _, ?_⟩
      repeat (first | with_reducible exact q1 | with_reducible refine Below.alloc ?_ (by first | omega | (simp <;> omega)) _ | with_reducible refine Below.setCell ?_ (by first | omega | (simp <;> omega)) _)
    · have g1 : ¬ (16384 : Int) < D.size := by omega
      clear hO2
      cases off with
      | true =>
        have hO2 := HO.out
        rw [fdT_off h0 (by rw [size_toList]; omega)] at hO2
        have HO2 := Lib.hid hO2
        have FO := Lib.hid fun w => r17_Fed_off X D w
        clear h0 hO2
        go_enter Tryz.func22, Tryz.ntmps22
        go_wp2_with fail
        refine (MH.out _).mono ?_
        rintro e w1 ⟨rfl, hb⟩
        have q1 := q0.trans (hb.mono q0.size)
        have A1 := Lib.hid (A0.out.ret' hb)
        have W1 := Lib.hid (W0.out.ret' hb)
        clear hb m m0 m1 m2 m3
        obtain ⟨m, m0, m1, m2, m3⟩ := A1.out
        obtain ⟨x, x0, x1, x2, x3⟩ := W1.out
        go_wp2_with fail
        refine (FO.out _).mono ?_
        rintro e w2 ⟨rfl, hb⟩
        have q2 := q1.trans (hb.mono q1.size)
        have al := hb.alloc hb.size (.cells #[.string X, .bool true] 44)
        have q3 := q1.trans (al.mono q1.size)
        have hlt := (W1.out.ret' hb).lt
        clear m m0 m1 m2 m3 x x0 x1 x2 x3
        obtain ⟨x, x0, x1, x2, x3⟩ := W1.out.ret' hb
        clear hb al
        go_wp2_with fail
        refine bodyPost_ret (v := .tuple #[.agg #[.string X, .bool true], .slice none 0 0, .int .i64 0]) (by simp (maxDischargeDepth := 9) [results, Tryz.results22, go_sem, *]) rfl ⟨.slice none 0 0, (by rw [← HO2.out]; try simp only [str_mk]), by rw [← HO2.out]; exact IsRow.nil 4 _, ?_⟩
        repeat (first | with_reducible exact q2 | with_reducible refine Below.alloc ?_ (by first | omega | (simp <;> omega)) _ | with_reducible refine Below.setCell ?_ (by first | omega | (simp <;> omega)) _)
      | false =>
        have hfed : fdT X.data.toList false D.data.toList = ((fedT (X.data.toList ++ D.data.toList)).1, (fedT (X.data.toList ++ D.data.toList)).2, 0) := by
          rw [fdT_on h0 (by rw [size_toList]; omega)]
          unfold fedT
          cases (wiR (X.data.toList ++ D.data.toList)).2 <;> rfl
        have hO2 := HO.out
        rw [hfed] at hO2
        have F0 := fun w => r17_Fed X D w hX hD
        obtain ⟨⟨⟨o1, o2⟩, l⟩, hT⟩ : ∃ t, fedT (X.data.toList ++ D.data.toList) = t := ⟨_, rfl⟩
        rw [hT] at F0 hO2
        simp only at F0 hO2
        obtain ⟨OO, hOO⟩ : ∃ Y : ByteArray, ⟨o1.toArray⟩ = Y := ⟨_, rfl⟩
        rw [hOO] at F0
        have HOO := Lib.hid hOO
        have HO2 := Lib.hid hO2
        have FH := Lib.hid F0
        clear h0 hO2 hfed F0 hT hOO
        go_enter Tryz.func22, Tryz.ntmps22
        go_wp2_with fail
        refine (MH.out _).mono ?_
        rintro e w1 ⟨rfl, hb⟩
        have q1 := q0.trans (hb.mono q0.size)
        have A1 := Lib.hid (A0.out.ret' hb)
        have W1 := Lib.hid (W0.out.ret' hb)
        clear hb m m0 m1 m2 m3
        obtain ⟨m, m0, m1, m2, m3⟩ := A1.out
        obtain ⟨x, x0, x1, x2, x3⟩ := W1.out
        go_wp2_with fail
        refine (FH.out _).mono ?_
        rintro e w2 ⟨v, rfl, hv, hb, hf⟩
        have q2 := q1.trans (hb.mono q1.size)
        have al := hb.alloc hb.size (.cells #[.string OO, .bool o2] 44)
        have q3 := q1.trans (al.mono q1.size)
        have hlt := (W1.out.ret' hb).lt
        have hz1 := W1.out.lt
        have HV := Lib.hid hv
        have HF : Hid (∀ k, v.ownBlock = some k → w.heap.size + 1 < k) := Lib.hid fun k hk => by have := hf k hk; omega
        clear m m0 m1 m2 m3 x x0 x1 x2 x3
        obtain ⟨x, x0, x1, x2, x3⟩ := W1.out.ret' hb
        clear hb al hv hf
        go_wp2_with fail
        refine bodyPost_ret (v := .tuple #[.agg #[.string OO, .bool o2], v, .int .i64 0]) (by simp (maxDischargeDepth := 9) [results, Tryz.results22, go_sem, *]) rfl ⟨v, (by rw [← HO2.out]; try simp only [HOO.out]), ?_, ?_⟩
        · rw [← HO2.out]
          exact cames_alloc (cames_set (cames_set HV.out HF.out (.string OO)) HF.out (.bool o2)) _
        · repeat (first | with_reducible exact q2 | with_reducible refine Below.alloc ?_ (by first | omega | (simp <;> omega)) _ | with_reducible refine Below.setCell ?_ (by first | omega | (simp <;> omega)) _)
end Go.Proofs.YthgmgmbjjjnhnaaGreatDoor
