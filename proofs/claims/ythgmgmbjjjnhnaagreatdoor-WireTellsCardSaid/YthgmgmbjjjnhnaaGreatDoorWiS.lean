/- WireSplit: how the bytes are parted counts for nothing. PRINTED BY PROGRAM (gen_wis.py). -/
import Derived.Test.YthgmgmbjjjnhnaaGreatDoorWiK
import Derived.Test.YthgmgmbjjjnhnaaGreatDoorWiE
namespace Go.Proofs.YthgmgmbjjjnhnaaGreatDoor
open Go.RowKit

theorem feed_at (X D X1 : ByteArray) (off f1 : Bool) (l1 : List Cm) (e1 : Int) (w : World) (hX : X.size ≤ 100000) (hm : ML w) (h : fdT X.data.toList off D.data.toList = ((X1.data.toList, f1), l1, e1)) :
    Calls Tryz.prog 17 #[.agg #[.string X, .bool off], .string D] w (fun e w' => ∃ v, e = .returned (.tuple #[.agg #[.string X1, .bool f1], v, .int .i64 e1]) ∧ IsCames v l1 w' ∧ Below w.heap.size w w') := by
  have := wi_Feed X D off w hX hm
  rw [h] at this
  unfold FdIs at this
  simp only [str_mk] at this
  exact this
theorem cm_new {B : Nat} {w W : World} (K : Nat) (h : Below B w W) (hB : B ≤ w.heap.size) (hK : K = W.heap.size) : (W.alloc (.cells #[] 40)).ownsRow B 40 4 (.slice (some ⟨K, 0, none⟩) 0 0) 0 [] := by
  subst hK
  have := h.size
  refine ⟨rfl, .inr ⟨W.heap.size, 0, #[], rfl, by omega, ?_, Nat.le_refl _, by simp [maxLen], rfl, rfl⟩⟩
  exact World.alloc_heap_new W _
theorem cms_one (l : List Cm) : ∀ u ∈ cmsV l, u.oneCell' = true := by
  intro u hu
  unfold cmsV at hu
  obtain ⟨c, _, h⟩ := List.mem_flatMap.1 hu
  simp only [List.mem_cons, List.not_mem_nil, or_false] at h
  rcases h with rfl | rfl | rfl | rfl <;> rfl
set_option maxHeartbeats 16000000 in
set_option maxRecDepth 100000 in
theorem split17 (X A B : ByteArray) (off : Bool) (w : World) (hX : X.size ≤ 9223372036854775807) (hA : A.size ≤ 9223372036854775807) (hB : B.size ≤ 9223372036854775807) (hm : ML w) :
    Calls Tryz.prog 6 #[.agg #[.string X, .bool off], .string A, .string B] w (Ret w (.bool true)) := by
  obtain ⟨i0, hi, hz0, hz1, hz2⟩ := info_parts vinfo_came
  have q0 := (Below.refl w.heap.size w).alloc (Nat.le_refl _) (.cells #[.string X, .bool off] 44)
  have A0 := Lib.hid (WrAt.new w (.string X) (.bool off))
  have M0 := Lib.hid (hm.ret q0)
  obtain ⟨m, m0, m1, m2, m3⟩ := A0.out
  clear hm
  by_cases b1 : 20000 < X.size
  · have e1 : decide ((20000 : Int) < X.size) = true := decide_eq_true (by omega)
    clear b1
    go_enter Tryz.func6, Tryz.ntmps6
    go_wp2_with fail
    refine (alive17 _ M0.out).mono ?_
    rintro e w1 ⟨rfl, hb⟩
    have q1 := q0.trans (hb.mono q0.size)
    have M1 := Lib.hid (M0.out.ret hb)
    have A1 := Lib.hid (A0.out.ret' hb)
    clear hb m m0 m1 m2 m3
    obtain ⟨m, m0, m1, m2, m3⟩ := A1.out
    go_wp2_with fail
    go_ret
    exact ⟨rfl, q1⟩
  have e1 : decide ((20000 : Int) < X.size) = false := decide_eq_false (by omega)
  by_cases b2 : 8000 < A.size
  · have e2 : decide ((8000 : Int) < A.size) = true := decide_eq_true (by omega)
    clear b1 b2
    go_enter Tryz.func6, Tryz.ntmps6
    go_wp2_with fail
    refine (alive17 _ M0.out).mono ?_
    rintro e w1 ⟨rfl, hb⟩
    have q1 := q0.trans (hb.mono q0.size)
    have M1 := Lib.hid (M0.out.ret hb)
    have A1 := Lib.hid (A0.out.ret' hb)
    clear hb m m0 m1 m2 m3
    obtain ⟨m, m0, m1, m2, m3⟩ := A1.out
    go_wp2_with fail
    go_ret
    exact ⟨rfl, q1⟩
  have e2 : decide ((8000 : Int) < A.size) = false := decide_eq_false (by omega)
  by_cases b3 : 8000 < B.size
  · have e3 : decide ((8000 : Int) < B.size) = true := decide_eq_true (by omega)
    clear b1 b2 b3
    go_enter Tryz.func6, Tryz.ntmps6
    go_wp2_with fail
    refine (alive17 _ M0.out).mono ?_
    rintro e w1 ⟨rfl, hb⟩
    have q1 := q0.trans (hb.mono q0.size)
    have M1 := Lib.hid (M0.out.ret hb)
    have A1 := Lib.hid (A0.out.ret' hb)
    clear hb m m0 m1 m2 m3
    obtain ⟨m, m0, m1, m2, m3⟩ := A1.out
    go_wp2_with fail
    go_ret
    exact ⟨rfl, q1⟩
  have e3 : decide ((8000 : Int) < B.size) = false := decide_eq_false (by omega)
  have zz : (A ++ B).size = A.size + B.size := ByteArray.size_append
  have n1 : ¬ 9223372036854775807 < A.size + B.size := by omega
  have zX : X.size ≤ 100000 := by omega
  by_cases h0 : (fdT X.data.toList off A.data.toList).2.2 = 0
  rotate_left
  · obtain ⟨h1, h2⟩ := fdT_err (by rw [size_toList]; omega) h0
    obtain hck : wiCk X.data.toList off = 8 := by
      rcases wiCk_vals X.data.toList off with h | h
      · exact absurd h h2
      · exact h
    rw [hck] at h1
    have F1 := Lib.hid fun w hm => feed_at X A ⟨#[]⟩ off false [] 8 w zX hm h1
    have C0 := fun w hm => wi_Check X off w (by omega) hm
    rw [hck] at C0
    have CK := Lib.hid C0
    clear C0 hck h1 h2 h0 b1 b2 b3 zz
    go_enter Tryz.func6, Tryz.ntmps6
    go_wp2_with fail
    refine (alive17 _ M0.out).mono ?_
    rintro e w1 ⟨rfl, hb⟩
    have q1 := q0.trans (hb.mono q0.size)
    have M1 := Lib.hid (M0.out.ret hb)
    have A1 := Lib.hid (A0.out.ret' hb)
    clear hb m m0 m1 m2 m3
    obtain ⟨m, m0, m1, m2, m3⟩ := A1.out
    go_wp2_with fail
    refine (F1.out _ M1.out).mono ?_
    rintro e w2 ⟨v1, rfl, hv, hb⟩
    have q2 := q1.trans (hb.mono q1.size)
    have M2 := Lib.hid (M1.out.ret hb)
    have al := (Below.refl w2.heap.size w2).alloc (Nat.le_refl _) (.cells #[.string ⟨#[]⟩, .bool false] 44)
    have bb := hb.trans (al.mono hb.size)
    have q3 := q2.trans (al.mono q2.size)
    have M3 := Lib.hid (M2.out.ret al)
    have A3 := Lib.hid (A1.out.ret' bb)
    have X1 := Lib.hid (WrAt.new w2 (.string ⟨#[]⟩) (.bool false))
    have V1 := Lib.hid (IsCames.ret hv al)
    clear hb hv al bb
    obtain ⟨va, vc, rfl⟩ := V1.out.form
    clear m m0 m1 m2 m3
    obtain ⟨m, m0, m1, m2, m3⟩ := A3.out
    go_wp2_with fail
    refine (CK.out _ M3.out).mono ?_
    rintro e w4 ⟨rfl, hb⟩
    have q4 := q3.trans (hb.mono q3.size)
    obtain ⟨x, x0, x1, x2, x3⟩ := X1.out.ret' hb
    clear hb
    go_wp2_with fail
    go_ret
    exact ⟨rfl, q4⟩
  obtain ⟨s1, s2, s3, s4, s5, s6, s7⟩ := split_plain (B := B.data.toList) (by rw [size_toList]; omega) (by rw [size_toList]; omega) h0
  have l1 := fdT_len (X := X.data.toList) (D := A.data.toList) (off := off)
  have l3 := fdT_len (X := X.data.toList) (D := A.data.toList ++ B.data.toList) (off := off)
  obtain ⟨⟨⟨x1, f1⟩, c1, r1⟩, hT1⟩ : ∃ t, fdT X.data.toList off A.data.toList = t := ⟨_, rfl⟩
  rw [hT1] at h0 s1 s3 s4 s7 l1
  simp only at h0 s1 s3 s4 s7 l1
  have l2 := fdT_len (X := x1) (D := B.data.toList) (off := f1)
  obtain ⟨⟨⟨x2, f2⟩, c2, r2⟩, hT2⟩ : ∃ t, fdT x1 f1 B.data.toList = t := ⟨_, rfl⟩
  obtain ⟨⟨⟨x3, f3⟩, c3, r3⟩, hT3⟩ : ∃ t, fdT X.data.toList off (A.data.toList ++ B.data.toList) = t := ⟨_, rfl⟩
  rw [hT2] at s1 s3 s4 l2
  rw [hT3] at s2 s3 s4 s5 s6 l3
  simp only at s1 s2 s3 s4 s5 s6 l2 l3
  injection s3 with s31 s32
  subst h0 s1 s2 s31 s32 s4
  obtain ⟨X1, rfl⟩ : ∃ Y : ByteArray, Y.data.toList = x1 := ⟨⟨x1.toArray⟩, rfl⟩
  obtain ⟨X2, rfl⟩ : ∃ Y : ByteArray, Y.data.toList = x2 := ⟨⟨x2.toArray⟩, rfl⟩
  rw [size_toList] at s6 s7
  simp only [List.length_append, size_toList] at l1 l2 l3
  rw [← app_data] at hT3
  have F1 := Lib.hid fun w hm => feed_at X A X1 off f1 c1 0 w zX hm hT1
  have F2 := Lib.hid fun w hm => feed_at X1 B X2 f1 f2 c2 0 w (by omega) hm hT2
  have F3 := Lib.hid fun w hm => feed_at X (A ++ B) X2 off f2 (c1 ++ c2) 0 w zX hm hT3
  have C0 := fun w hm => wi_Check X2 f2 w (by omega) hm
  rw [s5] at C0
  have CK := Lib.hid C0
  have g6 : (X2.size : Int) ≤ 16384 := by omega
  obtain ⟨k1, hk1⟩ : ∃ k, c1.length = k := ⟨_, rfl⟩
  obtain ⟨k2, hk2⟩ : ∃ k, c2.length = k := ⟨_, rfl⟩
  have HK1 := Lib.hid hk1
  have HK2 := Lib.hid hk2
  have z1 : k1 ≤ 200000 := by omega
  have z2 : k2 ≤ 200000 := by omega
  clear C0 hT1 hT2 hT3 s5 b1 b2 b3 zz l1 l2 l3 hk1 hk2
  go_enter Tryz.func6, Tryz.ntmps6
  go_wp2_with fail
  refine (alive17 _ M0.out).mono ?_
  rintro e w1 ⟨rfl, hb⟩
  have q1 := q0.trans (hb.mono q0.size)
  have M1 := Lib.hid (M0.out.ret hb)
  have A1 := Lib.hid (A0.out.ret' hb)
  clear hb m m0 m1 m2 m3
  obtain ⟨m, m0, m1, m2, m3⟩ := A1.out
  go_wp2_with fail
  refine (F1.out _ M1.out).mono ?_
  rintro e w2 ⟨v1, rfl, hv, hb⟩
  have q2 := q1.trans (hb.mono q1.size)
  have M2 := Lib.hid (M1.out.ret hb)
  have al := (Below.refl w2.heap.size w2).alloc (Nat.le_refl _) (.cells #[.string X1, .bool f1] 44)
  have bb := hb.trans (al.mono hb.size)
  have q3 := q2.trans (al.mono q2.size)
  have M3 := Lib.hid (M2.out.ret al)
  have A3 := Lib.hid (A1.out.ret' bb)
  have U1 := Lib.hid (WrAt.new w2 (.string X1) (.bool f1))
  have V1 := Lib.hid (IsCames.ret hv al)
  clear hb hv al bb
  clear m m0 m1 m2 m3
  obtain ⟨x, x0, x1, x2, x3⟩ := U1.out
  go_wp2_with fail
  refine (F2.out _ M3.out).mono ?_
  rintro e w4 ⟨v2, rfl, hv, hb⟩
  have q4 := q3.trans (hb.mono q3.size)
  have M4 := Lib.hid (M3.out.ret hb)
  have al := (Below.refl w4.heap.size w4).alloc (Nat.le_refl _) (.cells #[.string X2, .bool f2] 44)
  have bb := hb.trans (al.mono hb.size)
  have q5 := q4.trans (al.mono q4.size)
  have M5 := Lib.hid (M4.out.ret al)
  have A5 := Lib.hid (A3.out.ret' bb)
  have Y2 := Lib.hid (WrAt.new w4 (.string X2) (.bool f2))
  have V2 := Lib.hid (IsCames.ret hv al)
  have V1 := Lib.hid (V1.out.ret bb)
  clear hb hv al bb
  clear x x0 x1 x2 x3
  obtain ⟨m, m0, m1, m2, m3⟩ := A5.out
  go_wp2_with fail
  refine (F3.out _ M5.out).mono ?_
  rintro e w6 ⟨v3, rfl, hv, hb⟩
  have q6 := q5.trans (hb.mono q5.size)
  have M6 := Lib.hid (M5.out.ret hb)
  have al := (Below.refl w6.heap.size w6).alloc (Nat.le_refl _) (.cells #[.string X2, .bool f2] 44)
  have bb := hb.trans (al.mono hb.size)
  have q7 := q6.trans (al.mono q6.size)
  have M7 := Lib.hid (M6.out.ret al)
  have A7 := Lib.hid (A5.out.ret' bb)
  have Z3 := Lib.hid (WrAt.new w6 (.string X2) (.bool f2))
  have V3 := Lib.hid (IsCames.ret hv al)
  have V1 := Lib.hid (V1.out.ret bb)
  have V2 := Lib.hid (V2.out.ret bb)
  have Y2 := Lib.hid (Y2.out.ret' bb)
  clear hb hv al bb
  clear m m0 m1 m2 m3
  obtain ⟨y, y0, y1, y2, y3⟩ := Y2.out
  obtain ⟨z, z0, z1', z2', z3⟩ := Z3.out
  have hz7 : (w6.alloc (.cells #[.string X2, .bool f2] 44)).heap.size = w6.heap.size + 1 := World.size_alloc ..
  have OW := Lib.hid (cm_new (B := w6.heap.size + 1) (w := w6.alloc (.cells #[.string X2, .bool f2] 44)) (W := w6.alloc (.cells #[.string X2, .bool f2] 44)) (w6.heap.size + 1) (Below.refl _ _) (by omega) hz7.symm)
  have RV1 := V1.out.ret ((Below.refl _ _).alloc (Nat.le_refl _) (.cells #[] 40))
  unfold IsCames at RV1
  rw [HK1.out] at RV1
  have HR1 := Lib.hid RV1
  clear RV1
  go_wp2_with (at_builtin; refine Hid.out ?_)
  refine Lib.hid ?_
  refine wpList_app_row_at (by rfl) (.tmp 94) (.tmp 95) _ (by rfl) (w6.heap.size + 1) 40 i0 _ 4 48 Tryz.underlying45 hi hz0 hz1 hz2 rfl (by omega) (.slice (some ⟨w6.heap.size + 1, 0, none⟩) 0 0) 0 [] (by rfl) OW.out v1 (by rfl) k1 (cmsV c1) HR1.out (cms_one c1) (by omega) (by omega) (by simp) ?_
  intro v7 w8 hown hgrow
  have b8 : Below (w6.heap.size + 1) (w6.alloc (.cells #[.string X2, .bool f2] 44)) w8 := ((Below.refl _ _).alloc (by omega) _).grown hgrow (by simp) (fun k hk => (OW.out.lt k hk).1)
  rw [← hz7] at b8
  have RV2 := V2.out.ret b8
  unfold IsCames at RV2
  rw [HK2.out] at RV2
  have HR2 := Lib.hid RV2
  have OW8 := Lib.hid hown
  have B8 := Lib.hid b8
  clear hgrow hown RV2 b8
  go_wp2_with (at_builtin; refine Hid.out ?_)
  refine Lib.hid ?_
  refine wpList_app_row_at (by rfl) (.tmp 96) (.tmp 97) _ (by rfl) (w6.heap.size + 1) 40 i0 _ 4 48 Tryz.underlying45 hi hz0 hz1 hz2 rfl (by omega) v7 (0 + k1) ([] ++ cmsV c1) (by rfl) OW8.out v2 (by rfl) k2 (cmsV c2) HR2.out (cms_one c2) (by omega) (by omega) (by have := B8.out.size; rw [hz7] at this; exact this) ?_
  intro v9 w9 hown hgrow
  have hs8 := B8.out.size
  rw [hz7] at hs8
  have b9 : Below (w6.alloc (.cells #[.string X2, .bool f2] 44)).heap.size (w6.alloc (.cells #[.string X2, .bool f2] 44)) w9 := B8.out.grown hgrow (by rw [hz7]; exact hs8) (fun k hk => by rw [hz7]; exact (OW8.out.lt k hk).1)
  have RS : IsCames v9 (c1 ++ c2) w9 := by
    have h := own_row hown
    unfold IsCames
    rw [List.length_append, HK1.out, HK2.out]
    have e : cmsV (c1 ++ c2) = [] ++ cmsV c1 ++ cmsV c2 := by simp [cmsV]
    rw [e]
    rw [Nat.zero_add] at h
    exact h
  have SM := Lib.hid (r17_Same v9 v3 (c1 ++ c2) w9 RS (V3.out.ret b9) (by rw [List.length_append, HK1.out, HK2.out]; omega))
  have q9 := q7.trans (b9.mono q7.size)
  have M9 := Lib.hid (M7.out.ret b9)
  have Z9 := Lib.hid (Z3.out.ret' b9)
  clear hown hgrow b9 hs8 RS
  go_wp2_with fail
  refine SM.out.mono ?_
  rintro e w10 ⟨rfl, hb⟩
  have q10 := q9.trans (hb.mono q9.size)
  have M10 := Lib.hid (M9.out.ret hb)
  have Z10 := Lib.hid (Z9.out.ret' hb)
  clear hb z z0 z1' z2' z3
  obtain ⟨z, z0, z1', z2', z3⟩ := Z10.out
  go_wp2_with fail
  refine (CK.out _ M10.out).mono ?_
  rintro e w11 ⟨rfl, hb⟩
  have q11 := q10.trans (hb.mono q10.size)
  clear z z0 z1' z2' z3
  obtain ⟨z, z0, z1', z2', z3⟩ := Z10.out.ret' hb
  clear hb
  go_wp2_with fail
  go_ret
  exact ⟨rfl, q11⟩
end Go.Proofs.YthgmgmbjjjnhnaaGreatDoor
