/- WireLasts: what was told stays told. PRINTED BY PROGRAM (gen_wil.py). -/
import Derived.Test.YthgmgmbjjjnhnaaDoorWiE
namespace Go.Proofs.YthgmgmbjjjnhnaaDoor
open Go.RowKit

theorem oneV_form (s : List UInt8) : ∃ (a : Cm) (n : Int) (o : Bool), oneV s = .tuple #[cmV a, .int .i64 n, .bool o] := by
  unfold oneV
  cases wiO s with
  | more => exact ⟨(0, [], [], false), 0, true, rfl⟩
  | bad st => exact ⟨(st, [], [], false), s.length, false, rfl⟩
  | done h b k n => exact ⟨(200, h, b, k), n, false, rfl⟩
set_option maxHeartbeats 16000000 in
set_option maxRecDepth 100000 in
theorem lasts17 (s m : ByteArray) (hs : s.size ≤ 9223372036854775807) (hz : m.size ≤ 9223372036854775807) (w : World) (hm : ML w) : Calls Tryd.prog 6 #[.string s, .string m] w (Ret w (.bool true)) := by
  have HM := Lib.hid hm
  clear hm
  by_cases b1 : 9000 < s.size
  · have e1 : decide ((9000 : Int) < s.size) = true := decide_eq_true (by omega)
    clear b1
    go_enter Tryd.func6, Tryd.ntmps6
    go_wp2_with fail
    refine (alive17 _ HM.out).mono ?_
    rintro e w1 ⟨rfl, hb⟩
    have q1 : Below w.heap.size w w1 := hb
    have M1 := Lib.hid (HM.out.ret hb)
    clear hb
    go_wp2_with fail
    go_ret
    exact ⟨rfl, q1⟩
  have e1 : decide ((9000 : Int) < s.size) = false := decide_eq_false (by omega)
  by_cases b2 : 9000 < m.size
  · have e2 : decide ((9000 : Int) < m.size) = true := decide_eq_true (by omega)
    clear b1 b2
    go_enter Tryd.func6, Tryd.ntmps6
    go_wp2_with fail
    refine (alive17 _ HM.out).mono ?_
    rintro e w1 ⟨rfl, hb⟩
    have q1 : Below w.heap.size w w1 := hb
    have M1 := Lib.hid (HM.out.ret hb)
    clear hb
    go_wp2_with fail
    go_ret
    exact ⟨rfl, q1⟩
  have e2 : decide ((9000 : Int) < m.size) = false := decide_eq_false (by omega)
  have zz : (s ++ m).size = s.size + m.size := ByteArray.size_append
  have n1 : ¬ 9223372036854775807 < s.size + m.size := by omega
  have zs : (s ++ m).size ≤ 1000000 := by omega
  have zs1 : s.size ≤ 1000000 := by omega
  have hap : wiO s.data.toList ≠ .more → wiO (s ++ m).data.toList = wiO s.data.toList := fun h => by rw [app_data]; exact wiO_app _ h
  cases ho : wiO s.data.toList with
  | more =>
    have O1 := Lib.hid fun w hm => one_more s w zs1 hm ho
    clear b1 b2 hap ho
    go_enter Tryd.func6, Tryd.ntmps6
    go_wp2_with fail
    refine (alive17 _ HM.out).mono ?_
    rintro e w1 ⟨rfl, hb⟩
    have q1 : Below w.heap.size w w1 := hb
    have M1 := Lib.hid (HM.out.ret hb)
    clear hb
    go_wp2_with fail
    refine (O1.out _ M1.out).mono ?_
    rintro e w2 ⟨rfl, hb⟩
    have q2 := q1.trans (hb.mono q1.size)
    have M2 := Lib.hid (M1.out.ret hb)
    have al := (Below.refl w2.heap.size w2).alloc (Nat.le_refl _) (.cells #[.int .i64 0, .string ⟨#[]⟩, .string ⟨#[]⟩, .bool false] 37)
    have q3 := q2.trans (al.mono q2.size)
    have M3 := Lib.hid (M2.out.ret al)
    have C3 := Lib.hid (CmAt.new w2 (.int .i64 0) (.string ⟨#[]⟩) (.string ⟨#[]⟩) (.bool false))
    have O2 := wi_One (s ++ m) _ zs M3.out
    obtain ⟨a, n, o, hv⟩ : ∃ (a : Cm) (n : Int) (o : Bool), oneV (s ++ m).data.toList = .tuple #[cmV a, .int .i64 n, .bool o] := oneV_form _
    rw [hv] at O2
    have O2 := Lib.hid O2
    obtain ⟨a1, a2, a3, a4⟩ := a
    clear hb al hv
    go_wp2_with fail
    refine O2.out.mono ?_
    rintro e w4 ⟨rfl, hb⟩
    have q4 := q3.trans (hb.mono q3.size)
    obtain ⟨y, y0, y1, y2, y3, y4, y5, y6, y7⟩ := C3.out.ret' hb
    clear hb
    go_wp2_with fail
    go_ret
    exact ⟨rfl, q4.alloc q4.size _⟩
  | bad st =>
    have hne := wiO_bad ho
    have O1 := Lib.hid fun w hm => one_bad s st w zs1 hm ho
    have O2 := fun w hm => one_bad (s ++ m) st w zs hm (by rw [hap (by rw [ho]; intro h; cases h), ho])
    rw [zz] at O2
    have O2 := Lib.hid O2
    have e3 : (st == 200) = false := by rw [beq_eq_false_iff_ne]; exact hne
    have e4 : (st != 200) = true := by rw [bne_iff_ne]; exact hne
    clear b1 b2 hap ho
    go_enter Tryd.func6, Tryd.ntmps6
    go_wp2_with fail
    refine (alive17 _ HM.out).mono ?_
    rintro e w1 ⟨rfl, hb⟩
    have q1 : Below w.heap.size w w1 := hb
    have M1 := Lib.hid (HM.out.ret hb)
    clear hb
    go_wp2_with fail
    refine (O1.out _ M1.out).mono ?_
    rintro e w2 ⟨rfl, hb⟩
    have q2 := q1.trans (hb.mono q1.size)
    have M2 := Lib.hid (M1.out.ret hb)
    have al := (Below.refl w2.heap.size w2).alloc (Nat.le_refl _) (.cells #[.int .i64 st, .string ⟨#[]⟩, .string ⟨#[]⟩, .bool false] 37)
    have q3 := q2.trans (al.mono q2.size)
    have M3 := Lib.hid (M2.out.ret al)
    have C3 := Lib.hid (CmAt.new w2 (.int .i64 st) (.string ⟨#[]⟩) (.string ⟨#[]⟩) (.bool false))
    clear hb al
    go_wp2_with fail
    refine (O2.out _ M3.out).mono ?_
    rintro e w4 ⟨rfl, hb⟩
    have q4 := q3.trans (hb.mono q3.size)
    obtain ⟨y, y0, y1, y2, y3, y4, y5, y6, y7⟩ := C3.out.ret' hb
    have al := (Below.refl w4.heap.size w4).alloc (Nat.le_refl _) (.cells #[.int .i64 st, .string ⟨#[]⟩, .string ⟨#[]⟩, .bool false] 37)
    have q5 := q4.trans (al.mono q4.size)
    clear hb al
    go_wp2_with fail
    go_ret
    exact ⟨rfl, q5⟩
  | done h b k n =>
    have hb := wiO_done ho
    rw [size_toList] at hb
    obtain ⟨H, hH⟩ : ∃ X : ByteArray, ⟨h.toArray⟩ = X := ⟨_, rfl⟩
    obtain ⟨B, hB⟩ : ∃ X : ByteArray, ⟨b.toArray⟩ = X := ⟨_, rfl⟩
    have hHl : H.data.toList = h := by rw [← hH]
    have hBl : B.data.toList = b := by rw [← hB]
    rw [← hHl, ← hBl] at ho
    have O1 := Lib.hid fun w hm => one_done s H B k n w zs1 hm ho
    have O2 := Lib.hid fun w hm => one_done (s ++ m) H B k n w zs hm (by rw [hap (by rw [ho]; intro h; cases h), ho])
    have g1 : (n : Int) ≤ s.size := by omega
    have g2 : (0 : Int) < (n : Int) := by omega
    have g3 : 0 < n := hb.1
    have g4 : n ≤ s.size := hb.2
    clear b1 b2 hap ho hHl hBl hH hB hb
    go_enter Tryd.func6, Tryd.ntmps6
    go_wp2_with fail
    refine (alive17 _ HM.out).mono ?_
    rintro e w1 ⟨rfl, hb⟩
    have q1 : Below w.heap.size w w1 := hb
    have M1 := Lib.hid (HM.out.ret hb)
    clear hb
    go_wp2_with fail
    refine (O1.out _ M1.out).mono ?_
    rintro e w2 ⟨rfl, hb⟩
    have q2 := q1.trans (hb.mono q1.size)
    have M2 := Lib.hid (M1.out.ret hb)
    have al := (Below.refl w2.heap.size w2).alloc (Nat.le_refl _) (.cells #[.int .i64 200, .string H, .string B, .bool k] 37)
    have q3 := q2.trans (al.mono q2.size)
    have M3 := Lib.hid (M2.out.ret al)
    have C3 := Lib.hid (CmAt.new w2 (.int .i64 200) (.string H) (.string B) (.bool k))
    clear hb al
    go_wp2_with fail
    refine (O2.out _ M3.out).mono ?_
    rintro e w4 ⟨rfl, hb⟩
    have q4 := q3.trans (hb.mono q3.size)
    obtain ⟨y, y0, y1, y2, y3, y4, y5, y6, y7⟩ := C3.out.ret' hb
    have al := (Below.refl w4.heap.size w4).alloc (Nat.le_refl _) (.cells #[.int .i64 200, .string H, .string B, .bool k] 37)
    have q5 := q4.trans (al.mono q4.size)
    clear hb al
    go_wp2_with fail
    go_ret
    exact ⟨rfl, q5⟩
end Go.Proofs.YthgmgmbjjjnhnaaDoor
