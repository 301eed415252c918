/- The steps of a request under way: counted, parted. PRINTED BY PROGRAM (gen_wib.py). -/
import Derived.Test.YthgmgmbjjjnhnaaGreatDoorWiB
import Derived.IntWalk
namespace Go.Proofs.YthgmgmbjjjnhnaaGreatDoor
open Go.RowKit

theorem wiJ_ok {x host : List UInt8} {kp : Bool} {k n : Int} (h : wiJ x = (200, host, kp, k, n)) : (k = 1 ∨ k = 2) ∧ 0 ≤ n ∧ n ≤ 9007199254740991 := by
  unfold wiJ at h
  split at h
  · rename_i h1
    injection h with h2 _
    exact absurd h2 h1
  · unfold wiF at h
    split at h
    · injection h with h2 _
      omega
    · unfold wiF4 at h
      split at h
      · injection h with h2 _
        omega
      · rename_i h1
        have hk := frm_ok (hdV (lnR x))
        injection h with _ h
        injection h with _ h
        injection h with _ h
        injection h with h2 h3
        rw [h2, h3] at hk
        rw [h2] at h1
        refine ⟨?_, hk.2.2.1, hk.2.2.2⟩
        rcases hk.2.1 with h4 | h4 | h4
        · exact absurd (.inr (.inr (.inr h4))) h1
        · exact .inl h4
        · exact .inr h4
theorem dc_len (l : List UInt8) : (dcOf l).2.1 ≤ l.length := by
  cases h : (dcOf l).2.2.1 with
  | true => exact (dc_again h).2.1
  | false => rw [(dc_not' h).2]; exact Nat.zero_le _
theorem bfacts_drew {w w1 : World} (hb : Below w.drew.heap.size w.drew w1) : Below w.heap.size w w1 := (bfactsD hb (Below.refl _ _)).2.2.2
set_option maxHeartbeats 8000000 in
set_option maxRecDepth 100000 in
theorem wi_counted (L : Nat) (s : ByteArray) (h : ByteArray) (a k n : Int) (host body : ByteArray) (keep : Bool) (used : Int) (w : World) (hs : s.size ≤ 1000000) (hm : ML w) (hg : 1 < L) (hu : UC L s h a k n host body keep used false w) (hw : WIs s.data.toList 3 h a k n host body keep used) :
    Calls Tryz.prog 72 #[.pointer (some ⟨L, 0, none⟩)] w (WStep s L 3 w) := by
  have _ := hs
  have _ := hg
  have _ := hm
  obtain ⟨hn, hj, rfl, rfl, rfl⟩ := hw
  obtain ⟨b1, b2⟩ := wiN_lt hn
  rw [size_toList] at b2
  have ho := wiO_in hn
  rw [hj] at ho
  obtain ⟨hk, hn0, hn1⟩ := wiJ_ok hj
  obtain ⟨A, hA⟩ : ∃ A : Nat, (wiN s.data.toList).toNat + 4 = A := ⟨_, rfl⟩
  have HW : Hid (∀ (body : ByteArray) (used : Int), ((k = 1 ∧ ∃ u : Nat, used = u ∧ wiO s.data.toList = .done host.data.toList body.data.toList keep u) ∨ (k ≠ 1 ∧ body = ⟨#[]⟩ ∧ used = 0)) → WIs s.data.toList 4 h (A : Int) k n host body keep used) := Lib.hid fun body used hx => ⟨hn, hj, by rw [hA], hx⟩
  rw [hA] at b1 b2 ho hu
  have HU := Lib.hid hu
  clear hn hj hA
  obtain ⟨lt, c0, c1, c2, c3, c4, c5, c6, c7, c8, c9, c10, c11, f0, f1, f2, f3, f4, f5, f6, f7, f8, f9, f10, f11⟩ := hu
  rcases hk with rfl | rfl
  rotate_left
  · go_enter Tryz.func72, Tryz.ntmps72
    go_wp2_with fail
    go_ret
    exact ⟨200, _, _, _, _, _, _, _, _, _, rfl, HU.out, Kp.refl _ _, .inr (.inr ⟨rfl, rfl, HW.out _ _ (.inr ⟨by decide, rfl, rfl⟩)⟩)⟩
  by_cases h1 : 8192 < n
  · have hO : wiO s.data.toList = .bad 413 := by
      rw [ho]
      unfold wiH
      rw [if_neg (fun h => h rfl), if_pos rfl, if_pos h1]
    have HO := Lib.hid hO
    clear hO ho
    go_enter Tryz.func72, Tryz.ntmps72
    go_wp2_with fail
    go_ret
    exact ⟨413, _, _, _, _, _, _, _, _, _, rfl, HU.out, Kp.refl _ _, .inr (.inl ⟨rfl, by decide, HO.out⟩)⟩
  obtain ⟨n, rfl⟩ : ∃ m : Nat, n = (m : Int) := ⟨n.toNat, by omega⟩
  have g0 : (A : Int) ≤ s.size := by omega
  by_cases h2 : s.size < A + n
  · have hO : wiO s.data.toList = .more := by
      rw [ho]
      unfold wiH
      rw [if_neg (fun h => h rfl), if_pos rfl, if_neg h1, if_pos (by rw [size_toList]; show s.size < A + ((n : Int)).toNat; omega)]
    have HO := Lib.hid hO
    have g1 : (s.size : Int) - A < n := by omega
    clear hO ho
    go_enter Tryz.func72, Tryz.ntmps72
    go_wp2_with fail
    go_region_held3 (fun w' => w'.cell? ⟨L, 0, none⟩ = some (.string s) ∧ w'.cell? ⟨L, 2, none⟩ = some (.int .i64 A) ∧ w'.cell? ⟨L, 5, none⟩ = some (.int .i64 n)) (first | exact ⟨c0, c2, c5⟩ | (simp (maxDischargeDepth := 9) [go_sem, *])) (fail)
    go_wp2_with fail
    go_ret
    exact ⟨200, _, _, _, _, _, _, _, _, _, rfl, (HU.out.ret' (Below.drew (Below.refl _ _))).p11 _, (Kp.drew (Kp.refl _ _)).set (o := 11) _, .inl ⟨rfl, HO.out⟩⟩
  · have hO : wiO s.data.toList = .done host.data.toList (s.extract A (A + n)).data.toList keep (A + n) := by
      rw [ho]
      unfold wiH
      rw [if_neg (fun h => h rfl), if_pos rfl, if_neg h1, if_neg (by rw [size_toList]; show ¬ s.size < A + ((n : Int)).toNat; omega), ext_data, Nat.add_sub_cancel_left]
      rfl
    have HO := Lib.hid hO
    have g1 : ¬ (s.size : Int) - A < n := by omega
    have g2 : (A : Int) + n ≤ s.size := by omega
    have g3 : A + n ≤ s.size := by omega
    have g4 : (0 : Int) ≤ (A : Int) := by omega
    have g5 : (A : Int) ≤ (A : Int) + n := by omega
    have g6 : (0 : Int) ≤ (A : Int) + n := by omega
    have g7 : ((A : Int) + n).toNat = A + n := by omega
    have g8 : ((A : Int)).toNat = A := by omega
    have gd : (IntKind.i64.wrap ((s.size : Int) - A) < (n : Int)) = False := by
      rw [IntWalk.i64_in _ (by omega)]
      exact eq_false (by omega)
    have gw : IntKind.i64.wrap ((A : Int) + n) = (A : Int) + n := IntWalk.i64_in _ (by omega)
    have HU1 := Lib.hid ((HU.out.p11 (.bool false)).ret' (Below.drew (Below.refl _ _)))
    have q1 := (Kp.refl L w).set (o := 11) (.bool false) |>.drew
    clear hO ho
    go_enter Tryz.func72, Tryz.ntmps72
    go_wp2_with fail
    go_region_held3 (fun w' => w'.cell? ⟨L, 0, none⟩ = some (.string s) ∧ w'.cell? ⟨L, 2, none⟩ = some (.int .i64 A) ∧ w'.cell? ⟨L, 5, none⟩ = some (.int .i64 n)) (first | exact ⟨c0, c2, c5⟩ | (simp (maxDischargeDepth := 9) [go_sem, *])) (fail)
    (try simp only [gd, decide_false])
    have HU2 := Lib.hid ((HU1.out.p10 (.int .i64 ((A : Int) + n))).ret' (Below.drew (Below.refl _ _)))
    have q2 := (q1.set (o := 10) (.int .i64 ((A : Int) + n))).drew
    go_wp2_with fail
    go_region_held3 (fun w' => w'.cell? ⟨L, 2, none⟩ = some (.int .i64 A) ∧ w'.cell? ⟨L, 5, none⟩ = some (.int .i64 n)) (first | exact ⟨c2, c5⟩ | (simp (maxDischargeDepth := 9) [go_sem, *])) (fail)
    (try simp only [gw])
    go_wp2_with fail
    go_region_held3 (fun w' => w'.cell? ⟨L, 0, none⟩ = some (.string s) ∧ w'.cell? ⟨L, 2, none⟩ = some (.int .i64 A) ∧ w'.cell? ⟨L, 10, none⟩ = some (.int .i64 ((A : Int) + n))) (first | exact ⟨c0, c2, c10⟩ | (simp (maxDischargeDepth := 9) [go_sem, *])) (fail)
    go_wp2_with fail
    go_ret
    exact ⟨200, _, _, _, _, _, _, _, _, _, rfl, (HU2.out.ret' (Below.drew (Below.refl _ _))).p8 _, (q2.drew).set (o := 8) _, .inr (.inr ⟨rfl, rfl, HW.out _ _ (.inl ⟨by first | rfl | trivial, A + n, by simp, HO.out⟩)⟩)⟩
set_option maxHeartbeats 8000000 in
set_option maxRecDepth 100000 in
theorem wi_parted (L : Nat) (s : ByteArray) (h : ByteArray) (a k n : Int) (host body : ByteArray) (keep : Bool) (used : Int) (w : World) (hs : s.size ≤ 1000000) (hm : ML w) (hg : 1 < L) (hu : UC L s h a k n host body keep used false w) (hw : WIs s.data.toList 4 h a k n host body keep used) :
    Calls Tryz.prog 73 #[.pointer (some ⟨L, 0, none⟩)] w (WStep s L 4 w) := by
  have _ := hs
  have _ := hg
  have _ := hm
  obtain ⟨hn, hj, rfl, hx⟩ := hw
  obtain ⟨b1, b2⟩ := wiN_lt hn
  rw [size_toList] at b2
  have ho := wiO_in hn
  rw [hj] at ho
  obtain ⟨hk, hn0, hn1⟩ := wiJ_ok hj
  obtain ⟨A, hA⟩ : ∃ A : Nat, (wiN s.data.toList).toNat + 4 = A := ⟨_, rfl⟩
  rw [hA] at b1 b2 ho hu
  have HU := Lib.hid hu
  clear hn hj hA
  obtain ⟨lt, c0, c1, c2, c3, c4, c5, c6, c7, c8, c9, c10, c11, f0, f1, f2, f3, f4, f5, f6, f7, f8, f9, f10, f11⟩ := hu
  rcases hx with ⟨rfl, u, hu1, hu2⟩ | ⟨hk1, rfl, rfl⟩
  · have HO := Lib.hid hu2
    clear ho hu2 hk
    go_enter Tryz.func73, Tryz.ntmps73
    go_wp2_with fail
    go_ret
    exact ⟨200, _, _, _, _, _, _, _, _, _, rfl, HU.out, Kp.refl _ _, .inr (.inr ⟨rfl, rfl, u, hu1, HO.out⟩)⟩
  obtain rfl : k = 2 := by
    rcases hk with h | h
    · exact absurd h hk1
    · exact h
  unfold wiH at ho
  rw [if_neg (fun h => h rfl), if_neg (by show ¬ (2 : Int) = 1; decide)] at ho
  obtain ⟨K, hK⟩ : ∃ K, min s.size 16384 = K := ⟨_, rfl⟩
  have e0 : min (s.size : Int) 16384 = (K : Int) := by omega
  have D0 := fun w => ch_Decode (s.extract A K) w (by rw [ByteArray.size_extract]; omega)
  have hx : (s.extract A K).data.toList = (s.data.toList.take 16384).drop A := by
    rw [ext_data, List.drop_take]
    rcases Nat.le_total s.size 16384 with h | h
    · rw [Nat.min_eq_left h] at hK
      subst hK
      rw [List.take_of_length_le (by rw [List.length_drop, size_toList]; exact Nat.le_refl _), List.take_of_length_le (by rw [List.length_drop, size_toList]; omega)]
    · rw [Nat.min_eq_right h] at hK
      subst hK
      rfl
  rw [hx] at D0
  have hd3 := dc_len ((s.data.toList.take 16384).drop A)
  rw [List.length_drop, List.length_take] at hd3
  have hd1 := fun h => dc_not' (l := (s.data.toList.take 16384).drop A) h
  have hd2 := fun h => dc_true' (l := (s.data.toList.take 16384).drop A) h
  obtain ⟨⟨bd, u, dn, E⟩, hD⟩ : ∃ d, dcOf ((s.data.toList.take 16384).drop A) = d := ⟨_, rfl⟩
  rw [hD] at D0 ho hd1 hd2 hd3
  simp only at D0 hd1 hd2 hd3
  have hd4 : u ≤ 16384 := by omega
  unfold wiC at ho
  simp only at ho
  obtain ⟨B, hB⟩ : ∃ X : ByteArray, ⟨bd.toArray⟩ = X := ⟨_, rfl⟩
  have hBl : B.data.toList = bd := by rw [← hB]
  rw [hB] at D0
  rw [← hBl] at ho
  have DH := Lib.hid D0
  have g0 : (A : Int) ≤ K := by omega
  have g1 : (K : Int) ≤ s.size := by omega
  have g2 : A ≤ K := by omega
  have g3 : K ≤ s.size := by omega
  clear D0 hx hD hB hBl hK hk hk1
  by_cases h4 : E = 4
  · subst h4
    rw [if_pos rfl] at ho
    have HO := Lib.hid ho
    clear ho hd1 hd2
    go_enter Tryz.func73, Tryz.ntmps73
    go_wp2_with fail
    go_region_held3 (fun w' => w'.cell? ⟨L, 0, none⟩ = some (.string s) ∧ w'.cell? ⟨L, 2, none⟩ = some (.int .i64 A)) (first | exact ⟨c0, c2⟩ | exact ⟨k0, k2⟩ | (simp (maxDischargeDepth := 9) [go_sem, *])) (first | (go_at_call 103; refine (DH.out _).mono ?_; rintro e w1 ⟨rfl, hb1⟩; have k0 := ((bcell hb1).1 L 0 lt).trans c0; have k2 := ((bcell hb1).1 L 2 lt).trans c2))
    have kb : Below w.heap.size w w1 := bfacts_drew hb1
    have q1 := below_L kb lt
    have HU1 := Lib.hid (HU.out.ret' kb)
    clear hb1 kb k0 k2 c0 c1 c2 c3 c4 c5 c6 c7 c8 c9 c10 c11 f0 f1 f2 f3 f4 f5 f6 f7 f8 f9 f10 f11
    obtain ⟨lt1, c0, c1, c2, c3, c4, c5, c6, c7, c8, c9, c10, c11, f0, f1, f2, f3, f4, f5, f6, f7, f8, f9, f10, f11⟩ := HU1.out
    go_wp2_with fail
    go_ret
    exact ⟨413, _, _, _, _, _, _, _, _, _, rfl, HU1.out, q1, .inr (.inl ⟨rfl, by decide, HO.out⟩)⟩
  rw [if_neg h4] at ho
  have e4 : (E == 4) = false := by rw [beq_eq_false_iff_ne]; exact h4
  by_cases h0 : E ≠ 0
  · rw [if_pos h0] at ho
    have e1 : (E == 0) = false := by rw [beq_eq_false_iff_ne]; exact h0
    have e2 : (E != 0) = true := by rw [bne_iff_ne]; exact h0
    have HO := Lib.hid ho
    clear ho hd1 hd2
    go_enter Tryz.func73, Tryz.ntmps73
    go_wp2_with fail
    go_region_held3 (fun w' => w'.cell? ⟨L, 0, none⟩ = some (.string s) ∧ w'.cell? ⟨L, 2, none⟩ = some (.int .i64 A)) (first | exact ⟨c0, c2⟩ | exact ⟨k0, k2⟩ | (simp (maxDischargeDepth := 9) [go_sem, *])) (first | (go_at_call 103; refine (DH.out _).mono ?_; rintro e w1 ⟨rfl, hb1⟩; have k0 := ((bcell hb1).1 L 0 lt).trans c0; have k2 := ((bcell hb1).1 L 2 lt).trans c2))
    have kb : Below w.heap.size w w1 := bfacts_drew hb1
    have q1 := below_L kb lt
    have HU1 := Lib.hid (HU.out.ret' kb)
    clear hb1 kb k0 k2 c0 c1 c2 c3 c4 c5 c6 c7 c8 c9 c10 c11 f0 f1 f2 f3 f4 f5 f6 f7 f8 f9 f10 f11
    obtain ⟨lt1, c0, c1, c2, c3, c4, c5, c6, c7, c8, c9, c10, c11, f0, f1, f2, f3, f4, f5, f6, f7, f8, f9, f10, f11⟩ := HU1.out
    go_wp2_with fail
    go_ret
    exact ⟨400, _, _, _, _, _, _, _, _, _, rfl, HU1.out, q1, .inr (.inl ⟨rfl, by decide, HO.out⟩)⟩
  obtain rfl : E = 0 := by omega
  rw [if_neg (by decide)] at ho
  cases dn with
  | true =>
    rw [if_pos rfl] at ho
    have HO := Lib.hid ho
    clear ho hd1 hd2
    go_enter Tryz.func73, Tryz.ntmps73
    go_wp2_with fail
    go_region_held3 (fun w' => w'.cell? ⟨L, 0, none⟩ = some (.string s) ∧ w'.cell? ⟨L, 2, none⟩ = some (.int .i64 A)) (first | exact ⟨c0, c2⟩ | exact ⟨k0, k2⟩ | (simp (maxDischargeDepth := 9) [go_sem, *])) (first | (go_at_call 103; refine (DH.out _).mono ?_; rintro e w1 ⟨rfl, hb1⟩; have k0 := ((bcell hb1).1 L 0 lt).trans c0; have k2 := ((bcell hb1).1 L 2 lt).trans c2))
    have kb : Below w.heap.size w w1 := bfacts_drew hb1
    have q1 := below_L kb lt
    have HU1 := Lib.hid (HU.out.ret' kb)
    clear hb1 kb k0 k2 c0 c1 c2 c3 c4 c5 c6 c7 c8 c9 c10 c11 f0 f1 f2 f3 f4 f5 f6 f7 f8 f9 f10 f11
    obtain ⟨lt1, c0, c1, c2, c3, c4, c5, c6, c7, c8, c9, c10, c11, f0, f1, f2, f3, f4, f5, f6, f7, f8, f9, f10, f11⟩ := HU1.out
    go_wp2_with fail
    go_ret
    exact ⟨200, _, _, _, _, _, _, _, _, _, rfl, ((HU1.out.p8 _).p10 _).p11 _, ((q1.set (o := 8) _).set (o := 10) _).set (o := 11) _, .inr (.inr ⟨rfl, rfl, A + u, by simp, HO.out⟩)⟩
  | false =>
    rw [if_neg (by decide)] at ho
    by_cases h6 : 16384 ≤ s.size
    · rw [if_pos (by rw [size_toList]; exact h6)] at ho
      have HO := Lib.hid ho
      have g6 : (16384 : Int) ≤ s.size := by omega
      clear ho hd1 hd2
      go_enter Tryz.func73, Tryz.ntmps73
      go_wp2_with fail
      go_region_held3 (fun w' => w'.cell? ⟨L, 0, none⟩ = some (.string s) ∧ w'.cell? ⟨L, 2, none⟩ = some (.int .i64 A)) (first | exact ⟨c0, c2⟩ | exact ⟨k0, k2⟩ | (simp (maxDischargeDepth := 9) [go_sem, *])) (first | (go_at_call 103; refine (DH.out _).mono ?_; rintro e w1 ⟨rfl, hb1⟩; have k0 := ((bcell hb1).1 L 0 lt).trans c0; have k2 := ((bcell hb1).1 L 2 lt).trans c2))
      have kb : Below w.heap.size w w1 := bfacts_drew hb1
      have q1 := below_L kb lt
      have HU1 := Lib.hid (HU.out.ret' kb)
      clear hb1 kb k0 k2 c0 c1 c2 c3 c4 c5 c6 c7 c8 c9 c10 c11 f0 f1 f2 f3 f4 f5 f6 f7 f8 f9 f10 f11
      obtain ⟨lt1, c0, c1, c2, c3, c4, c5, c6, c7, c8, c9, c10, c11, f0, f1, f2, f3, f4, f5, f6, f7, f8, f9, f10, f11⟩ := HU1.out
      go_wp2_with fail
      go_ret
      exact ⟨413, _, _, _, _, _, _, _, _, _, rfl, HU1.out, q1, .inr (.inl ⟨rfl, by decide, HO.out⟩)⟩
    · rw [if_neg (by rw [size_toList]; exact h6)] at ho
      have HO := Lib.hid ho
      have g6 : ¬ (16384 : Int) ≤ s.size := by omega
      clear ho hd1 hd2
      go_enter Tryz.func73, Tryz.ntmps73
      go_wp2_with fail
      go_region_held3 (fun w' => w'.cell? ⟨L, 0, none⟩ = some (.string s) ∧ w'.cell? ⟨L, 2, none⟩ = some (.int .i64 A)) (first | exact ⟨c0, c2⟩ | exact ⟨k0, k2⟩ | (simp (maxDischargeDepth := 9) [go_sem, *])) (first | (go_at_call 103; refine (DH.out _).mono ?_; rintro e w1 ⟨rfl, hb1⟩; have k0 := ((bcell hb1).1 L 0 lt).trans c0; have k2 := ((bcell hb1).1 L 2 lt).trans c2))
      have kb : Below w.heap.size w w1 := bfacts_drew hb1
      have q1 := below_L kb lt
      have HU1 := Lib.hid (HU.out.ret' kb)
      clear hb1 kb k0 k2 c0 c1 c2 c3 c4 c5 c6 c7 c8 c9 c10 c11 f0 f1 f2 f3 f4 f5 f6 f7 f8 f9 f10 f11
      obtain ⟨lt1, c0, c1, c2, c3, c4, c5, c6, c7, c8, c9, c10, c11, f0, f1, f2, f3, f4, f5, f6, f7, f8, f9, f10, f11⟩ := HU1.out
      go_wp2_with fail
      go_ret
      exact ⟨200, _, _, _, _, _, _, _, _, _, rfl, ((HU1.out.p8 _).p10 _).p11 _, ((q1.set (o := 8) _).set (o := 10) _).set (o := 11) _, .inl ⟨rfl, HO.out⟩⟩
end Go.Proofs.YthgmgmbjjjnhnaaGreatDoor
