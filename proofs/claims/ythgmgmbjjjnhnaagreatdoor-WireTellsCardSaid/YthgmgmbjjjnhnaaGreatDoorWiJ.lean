/- wire.Feed, of every wire. -/
import Derived.Test.YthgmgmbjjjnhnaaGreatDoorWiH
namespace Go.Proofs.YthgmgmbjjjnhnaaGreatDoor
open Go.RowKit

attribute [local go_sem] Oper.semAt_some

theorem wiCk_vals (b : List UInt8) (off : Bool) : wiCk b off = 0 ∨ wiCk b off = 8 := by
  unfold wiCk
  split
  · exact .inl rfl
  · exact .inr rfl
set_option maxRecDepth 100000 in
set_option maxHeartbeats 16000000 in
theorem wi_Feed_no (X D : ByteArray) (off : Bool) (w : World) (hX : X.size ≤ 100000) (hm : ML w) (hno : wiCk X.data.toList off ≠ 0 ∨ 16384 < D.size ∨ off = true) :
    Calls Tryz.prog 17 #[.agg #[.string X, .bool off], .string D] w (FdIs (fdT X.data.toList off D.data.toList) w) := by
  have hdef : fdT X.data.toList off D.data.toList = if wiCk X.data.toList off ≠ 0 then (([], false), [], wiCk X.data.toList off) else if 16384 < D.size then (([], false), [], 4) else ((X.data.toList, true), [], 0) := by
    unfold fdT
    rw [size_toList]
    by_cases h1 : wiCk X.data.toList off ≠ 0
    · rw [if_pos h1, if_pos h1]
    · rw [if_neg h1, if_neg h1]
      by_cases h2 : 16384 < D.size
      · rw [if_pos h2, if_pos h2]
      · rw [if_neg h2, if_neg h2, if_pos (by rcases hno with h | h | h; exact absurd h h1; exact absurd h h2; exact h)]
  have q0 : Below w.heap.size w ((((w.alloc (.cells #[.string X, .bool off] 44)).alloc (.cells #[.string ⟨#[]⟩, .bool false] 44)).alloc (.cells #[.slice none 0 0] 45)).alloc (.cells #[.int .i64 0] 24)) := ((((Below.refl w.heap.size w).alloc (Nat.le_refl _) _).alloc (by simp) _).alloc (by simp <;> omega) _).alloc (by simp <;> omega) _
  have C0 := fun w hm => wi_Check X off w (by omega) hm
  obtain ⟨K, hK⟩ : ∃ K, wiCk X.data.toList off = K := ⟨_, rfl⟩
  have hKv := wiCk_vals X.data.toList off
  rw [hK] at C0 hdef hKv hno
  obtain ⟨O, hO⟩ : ∃ O, fdT X.data.toList off D.data.toList = O := ⟨_, rfl⟩
  rw [hO] at hdef ⊢
  have CH := Lib.hid C0
  have HM := Lib.hid hm
  have HDEF := Lib.hid hdef
  clear C0 hm hO hK hdef
  refine (callsIn_wide (n := 3)).1 ?_
  refine callsIn_of_wp_marks Tryz.func17 rfl trivial ?_ rfl
  simp only [Tryz.ntmps17, List.size_toArray, List.length_cons, List.length_nil, Nat.reduceAdd, Nat.reduceSub, Array.replicate_succ, Array.replicate_zero, List.push_toArray, List.append_toArray, List.nil_append, List.cons_append]
  gi_wp2_with fail
  refine ⟨trivial, callsIn_wide.2 ((CH.out _ (HM.out.ret q0)).mono ?_)⟩
  rintro e w1 ⟨rfl, hb1⟩
  have al4 : Below (w.heap.size + 1) (w.alloc (.cells #[.string X, .bool off] 44)) ((((w.alloc (.cells #[.string X, .bool off] 44)).alloc (.cells #[.string ⟨#[]⟩, .bool false] 44)).alloc (.cells #[.slice none 0 0] 45)).alloc (.cells #[.int .i64 0] 24)) := (((Below.refl _ _).alloc (by simp) _).alloc (by simp) _).alloc (by simp <;> omega) _
  have hs1 := hb1.size
  simp only [World.size_alloc] at hs1
  have q1 := q0.trans (hb1.mono q0.size)
  obtain ⟨z, z0, z1, z2, z3⟩ := ((WrAt.new w (.string X) (.bool off)).ret2 (Nat.lt_succ_self _) al4).ret' hb1
  have o1 : w1.heap[w.heap.size + 1]? = some (.cells #[.string ⟨#[]⟩, .bool false] 44 (0, 0)) := by
    rw [hb1.block _ (by simp <;> omega), Below.heap_alloc _ _ _ (by simp <;> omega), Below.heap_alloc _ _ _ (by simp)]
    have := World.alloc_heap_new (w.alloc (.cells #[.string X, .bool off] 44)) (.cells #[.string ⟨#[]⟩, .bool false] 44)
    rwa [World.size_alloc] at this
  have r1 : Boxed w1 (w.heap.size + 1 + 1) 45 (.slice none 0 0) := by
    have := (Boxed.new ((w.alloc (.cells #[.string X, .bool off] 44)).alloc (.cells #[.string ⟨#[]⟩, .bool false] 44)) 45 (.slice none 0 0)).alloc (.cells #[.int .i64 0] 24)
    rw [World.size_alloc, World.size_alloc] at this
    exact boxed_below this hb1
  have e1 : Boxed w1 (w.heap.size + 1 + 1 + 1) 24 (.int .i64 0) := by
    have := Boxed.new (((w.alloc (.cells #[.string X, .bool off] 44)).alloc (.cells #[.string ⟨#[]⟩, .bool false] 44)).alloc (.cells #[.slice none 0 0] 45)) 24 (.int .i64 0)
    rw [World.size_alloc, World.size_alloc, World.size_alloc] at this
    exact boxed_below this hb1
  have oc0 : w1.cell? ⟨w.heap.size + 1, 0, none⟩ = some (.string ⟨#[]⟩) := by rw [Lib.cell_of_heap o1]; rfl
  have oc1 : w1.cell? ⟨w.heap.size + 1, 1, none⟩ = some (.bool false) := by rw [Lib.cell_of_heap o1]; rfl
  have of0 : w1.frozen? ⟨w.heap.size + 1, 0, none⟩ = false := Lib.frozen_of_heap o1 0
  have of1 : w1.frozen? ⟨w.heap.size + 1, 1, none⟩ = false := Lib.frozen_of_heap o1 1
  have rc := r1.cell
  have rf := r1.frozen
  have ec := e1.cell
  have ef := e1.frozen
  clear al4 hb1 o1 r1 e1
  by_cases h1 : K = 0
  · subst h1
    have hdef := HDEF.out
    rw [if_neg (by decide)] at hdef
    by_cases h2 : 16384 < D.size
    · rw [if_pos h2] at hdef
      have HOO := Lib.hid hdef
      have g1 : (16384 : Int) < D.size := by omega
      clear hno hKv hdef HDEF
      gi_wp2_with fail
      refine ⟨.tuple #[.agg #[.string ⟨#[]⟩, .bool false], .slice none 0 0, .int .i64 4], (by simp (maxDischargeDepth := 9) [results, Tryz.results17, go_sem, *]), .slice none 0 0, by rw [HOO.out], by rw [HOO.out]; exact IsRow.nil 4 _, ?_⟩
      repeat (first | with_reducible exact q1 | with_reducible refine Below.setCell ?_ (by first | omega | (simp <;> omega)) _)
    · rw [if_neg h2] at hdef
      have HOO := Lib.hid hdef
      have g1 : ¬ (16384 : Int) < D.size := by omega
      obtain rfl : off = true := by
        rcases hno with h | h | h
        · exact absurd rfl h
        · exact absurd h h2
        · exact h
      clear hno hKv hdef HDEF
      gi_wp2_with fail
      refine ⟨.tuple #[.agg #[.string X, .bool true], .slice none 0 0, .int .i64 0], (by simp (maxDischargeDepth := 9) [results, Tryz.results17, go_sem, *]), .slice none 0 0, (by rw [HOO.out]; try simp only [str_mk]), by rw [HOO.out]; exact IsRow.nil 4 _, ?_⟩
      repeat (first | with_reducible exact q1 | with_reducible refine Below.setCell ?_ (by first | omega | (simp <;> omega)) _)
  · have hdef := HDEF.out
    rw [if_pos h1] at hdef
    have HOO := Lib.hid hdef
    obtain rfl : K = 8 := by
      rcases hKv with h | h
      · exact absurd h h1
      · exact h
    clear hno hKv hdef HDEF h1
    gi_wp2_with fail
    refine ⟨.tuple #[.agg #[.string ⟨#[]⟩, .bool false], .slice none 0 0, .int .i64 8], (by simp (maxDischargeDepth := 9) [results, Tryz.results17, go_sem, *]), .slice none 0 0, by rw [HOO.out], by rw [HOO.out]; exact IsRow.nil 4 _, ?_⟩
    repeat (first | with_reducible exact q1 | with_reducible refine Below.setCell ?_ (by first | omega | (simp <;> omega)) _)
theorem wi_Feed (X D : ByteArray) (off : Bool) (w : World) (hX : X.size ≤ 100000) (hm : ML w) :
    Calls Tryz.prog 17 #[.agg #[.string X, .bool off], .string D] w (FdIs (fdT X.data.toList off D.data.toList) w) := by
  by_cases h : wiCk X.data.toList off ≠ 0 ∨ 16384 < D.size ∨ off = true
  · exact wi_Feed_no X D off w hX hm h
  · obtain rfl : off = false := by
      cases off with
      | false => rfl
      | true => exact absurd (.inr (.inr rfl)) h
    refine wi_Feed_go X D w hX (by omega) hm ?_
    rcases wiCk_vals X.data.toList false with h1 | h1
    · exact h1
    · exact absurd (.inl (by rw [h1]; decide)) h
end Go.Proofs.YthgmgmbjjjnhnaaGreatDoor
