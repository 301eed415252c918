/- num.Level. -/
import Derived.Test.YtgechifpappipaaDoorNumA
import Derived.Test.YtgechifpappipaaDoorNumK
import Derived.Test.YtgechifpappipaaDoorNumL
import Derived.Lib.IndexBytes
namespace Go.Proofs.YtgechifpappipaaDoor
open Go.RowKit

/-- Behind num.Read of the text or its rest: what Level makes of it, where there is no sign. -/
theorem lvOf_plain {l : List UInt8} (h : l.head? ≠ some 45) : lvOf l = if numOk l && decide (valOf 0 l ≤ 127) then some (valOf 0 l : Int) else none := by
  unfold lvOf
  split
  · simp at h
  · rfl
set_option maxHeartbeats 2000000 in
theorem num_Level_plain (s : ByteArray) (w : World) (hs : s.size ≤ 9223372036854775807) (h0 : 0 < s.size) (hh : s[0] ≠ 45) :
    Calls Tryd.prog 17 #[.string s] w (Ret w (.tuple #[.int .i64 (lvN s.data.toList), .int .i64 (lvE s.data.toList)])) := by
  have e0 := isEmpty_of_pos h0
  have e1 := ne_nil_of_pos h0
  have e2 : ((s[0].toNat : Int) == 45) = false := by
    apply beq_eq_false_iff_ne.2
    intro h
    apply hh
    apply UInt8.toNat_inj.1
    have h2 : (45 : UInt8).toNat = 45 := rfl
    omega
  have e3 : ¬ (s[0].toNat : Int) = 45 := by simpa using e2
  have hl := lvOf_plain (l := s.data.toList) (by rw [List.head?_eq_getElem?, getElem_data s 0 h0]; simpa using hh)
  have c := num_Read s
  cases hok : numOk s.data.toList
  · obtain ⟨b1, b2⟩ := rd_bad hok
    rw [hok] at hl
    have A1 : Hid (lvN s.data.toList = 0) := by show _ = _; unfold lvN; rw [hl]; rfl
    have A2 : Hid (lvE s.data.toList = 60) := by show _ = _; unfold lvE; rw [hl]; rfl
    rw [b1, b2] at c
    have C := Lib.hid c
    clear c hl b1 b2 hok
    go_enter Tryd.func17, Tryd.ntmps17
    go_wp2_with fail
    refine (C.out _ hs).mono ?_
    rintro e w1 ⟨rfl, hb⟩
    go_wp2_with fail
    go_ret2
    rw [A1.out, A2.out]
    exact ⟨rfl, hb⟩
  · obtain ⟨b1, b2⟩ := rd_good hok
    have hm := (dec_of_ok hok).2
    rw [hok] at hl
    rw [b1, b2] at c
    generalize valOf 0 s.data.toList = v at c hl hm
    by_cases hv : v ≤ 127
    · rw [decide_eq_true hv] at hl
      have A1 : Hid (lvN s.data.toList = v) := by show _ = _; unfold lvN; rw [hl]; rfl
      have A2 : Hid (lvE s.data.toList = 0) := by show _ = _; unfold lvE; rw [hl]; rfl
      have C := Lib.hid c
      have f1 : (decide ((-128 : Int) ≤ (v : Int)) && decide ((v : Int) ≤ 127)) = true := by simp; omega
      clear c hl b1 b2 hok
      go_enter Tryd.func17, Tryd.ntmps17
      go_wp2_with fail
      refine (C.out _ hs).mono ?_
      rintro e w1 ⟨rfl, hb⟩
      go_wp2_with fail
      refine (num_from _ _ _ _).mono ?_
      rw [f1]
      rintro e w2 ⟨rfl, hb2⟩
      go_wp2_with fail
      go_ret2
      rw [A1.out, A2.out]
      exact ⟨rfl, hb.trans (hb2.mono hb.size)⟩
    · rw [decide_eq_false hv] at hl
      have A1 : Hid (lvN s.data.toList = 0) := by show _ = _; unfold lvN; rw [hl]; rfl
      have A2 : Hid (lvE s.data.toList = 60) := by show _ = _; unfold lvE; rw [hl]; rfl
      have C := Lib.hid c
      have f1 : (decide ((-128 : Int) ≤ (v : Int)) && decide ((v : Int) ≤ 127)) = false := by simp; omega
      clear c hl b1 b2 hok
      go_enter Tryd.func17, Tryd.ntmps17
      go_wp2_with fail
      refine (C.out _ hs).mono ?_
      rintro e w1 ⟨rfl, hb⟩
      go_wp2_with fail
      refine (num_from _ _ _ _).mono ?_
      rw [f1]
      rintro e w2 ⟨rfl, hb2⟩
      go_wp2_with fail
      go_ret2
      rw [A1.out, A2.out]
      exact ⟨rfl, hb.trans (hb2.mono hb.size)⟩
theorem lvOf_neg (r : List UInt8) : lvOf (45 :: r) = if numOk r && decide (valOf 0 r ≤ 128) && !(valOf 0 r == 0) then some (-(valOf 0 r : Int)) else none := rfl
set_option maxHeartbeats 2000000 in
theorem num_Level_neg (s : ByteArray) (w : World) (hs : s.size ≤ 9223372036854775807) (h0 : 0 < s.size) (hh : s[0] = 45) :
    Calls Tryd.prog 17 #[.string s] w (Ret w (.tuple #[.int .i64 (lvN s.data.toList), .int .i64 (lvE s.data.toList)])) := by
  have e0 := isEmpty_of_pos h0
  have e1 := ne_nil_of_pos h0
  have e2 : (s[0].toNat : Int) = 45 := by rw [hh]; rfl
  have e3 : 1 ≤ (s.size : Int) := by omega
  have hr := Lib.extract_to_end s 1
  have hrs : (s.extract 1 s.size).size ≤ 9223372036854775807 := by
    rw [ByteArray.size_extract]
    omega
  have hl : lvOf s.data.toList = lvOf (45 :: (s.extract 1 s.size).data.toList) := by
    rw [hr]
    congr 1
    have := getElem_data s 0 h0
    cases hd : s.data.toList with
    | nil => rw [hd] at this; simp at this
    | cons a l =>
      rw [hd] at this
      have ha : a = s[0] := by simpa using this
      rw [ha, hh]
      rfl
  rw [lvOf_neg] at hl
  have c := num_Read (s.extract 1 s.size)
  generalize hg : s.extract 1 s.size = r at c hl hrs
  have HG := Lib.hid hg
  clear hg hr
  cases hok : numOk r.data.toList
  · obtain ⟨b1, b2⟩ := rd_bad hok
    rw [hok] at hl
    have A1 : Hid (lvN s.data.toList = 0) := by show _ = _; unfold lvN; rw [hl]; rfl
    have A2 : Hid (lvE s.data.toList = 60) := by show _ = _; unfold lvE; rw [hl]; rfl
    rw [b1, b2] at c
    have C := Lib.hid c
    clear c hl b1 b2 hok
    go_enter Tryd.func17, Tryd.ntmps17
    go_wp2_with fail
    go_quiet (fail)
    go_wp2_with fail
    rw [HG.out]
    refine (C.out _ hrs).mono ?_
    rintro e w1 ⟨rfl, hb⟩
    obtain ⟨hc1, hf1, hz1, hB1⟩ := bfacts (w := w) hb (below_drewN (Below.refl _ _) _)
    go_wp2_with fail
    go_ret2
    rw [A1.out, A2.out]
    exact ⟨rfl, hB1⟩
  · obtain ⟨b1, b2⟩ := rd_good hok
    have hm := (dec_of_ok hok).2
    rw [hok] at hl
    rw [b1, b2] at c
    generalize valOf 0 r.data.toList = v at c hl hm
    by_cases hv : 1 ≤ v ∧ v ≤ 128
    · have q1 : (v == 0) = false := by simp; omega
      rw [decide_eq_true hv.2, q1] at hl
      have A1 : Hid (lvN s.data.toList = -(v : Int)) := by show _ = _; unfold lvN; rw [hl]; rfl
      have A2 : Hid (lvE s.data.toList = 0) := by show _ = _; unfold lvE; rw [hl]; rfl
      have C := Lib.hid c
      obtain ⟨hv1, hv2⟩ := hv
      have f2 : ((v : Int) == 0) = false := by simp; omega
      clear c hl b1 b2 hok q1
      go_enter Tryd.func17, Tryd.ntmps17
      go_wp2_with fail
      go_quiet (fail)
      go_wp2_with fail
      rw [HG.out]
      refine (C.out _ hrs).mono ?_
      rintro e w1 ⟨rfl, hb⟩
      obtain ⟨hc1, hf1, hz1, hB1⟩ := bfacts (w := w) hb (below_drewN (Below.refl _ _) _)
      go_wp2_with fail
      refine (num_from_t _ _ _ (by omega) (by omega) _).mono ?_
      rintro e w2 ⟨rfl, hb2⟩
      go_wp2_with fail
      go_ret2
      rw [A1.out, A2.out]
      exact ⟨by simp, hB1.trans (hb2.mono hB1.size)⟩
    · have q1 : (true && decide (v ≤ 128) && !(v == 0)) = false := by
        by_cases h2 : v ≤ 128
        · have : v = 0 := by omega
          subst this
          rfl
        · rw [decide_eq_false h2]; rfl
      rw [q1] at hl
      have A1 : Hid (lvN s.data.toList = 0) := by show _ = _; unfold lvN; rw [hl]; rfl
      have A2 : Hid (lvE s.data.toList = 60) := by show _ = _; unfold lvE; rw [hl]; rfl
      have C := Lib.hid c
      clear c hl b1 b2 hok q1
      by_cases hv0 : v = 0
      · subst hv0
        go_enter Tryd.func17, Tryd.ntmps17
        go_wp2_with fail
        go_quiet (fail)
        go_wp2_with fail
        rw [HG.out]
        refine (C.out _ hrs).mono ?_
        rintro e w1 ⟨rfl, hb⟩
        obtain ⟨hc1, hf1, hz1, hB1⟩ := bfacts (w := w) hb (below_drewN (Below.refl _ _) _)
        go_wp2_with fail
        refine (num_from_t _ _ _ (by omega) (by omega) _).mono ?_
        rintro e w2 ⟨rfl, hb2⟩
        go_wp2_with fail
        go_ret2
        rw [A1.out, A2.out]
        exact ⟨rfl, hB1.trans (hb2.mono hB1.size)⟩
      · have hv1 : 128 < v := by omega
        clear hv
        go_enter Tryd.func17, Tryd.ntmps17
        go_wp2_with fail
        go_quiet (fail)
        go_wp2_with fail
        rw [HG.out]
        refine (C.out _ hrs).mono ?_
        rintro e w1 ⟨rfl, hb⟩
        obtain ⟨hc1, hf1, hz1, hB1⟩ := bfacts (w := w) hb (below_drewN (Below.refl _ _) _)
        go_wp2_with fail
        refine (num_from_f _ _ _ (by omega) _).mono ?_
        rintro e w2 ⟨rfl, hb2⟩
        go_wp2_with fail
        go_ret2
        rw [A1.out, A2.out]
        exact ⟨rfl, hB1.trans (hb2.mono hB1.size)⟩
set_option maxHeartbeats 2000000 in
theorem num_Level_empty (w : World) : Calls Tryd.prog 17 #[.string ⟨#[]⟩] w (Ret w (.tuple #[.int .i64 0, .int .i64 60])) := by
  go_enter Tryd.func17, Tryd.ntmps17
  go_wp2_with fail
  refine (num_Read_empty _).mono ?_
  rintro e w1 ⟨rfl, hb⟩
  go_wp2_with fail
  go_ret2
  exact ⟨rfl, hb⟩
/-- num.Level, of every text. -/
theorem num_Level (s : ByteArray) (w : World) (hs : s.size ≤ 9223372036854775807) :
    Calls Tryd.prog 17 #[.string s] w (Ret w (.tuple #[.int .i64 (lvN s.data.toList), .int .i64 (lvE s.data.toList)])) := by
  by_cases h0 : s.size = 0
  · obtain rfl : s = ByteArray.empty := by simpa using h0
    exact num_Level_empty w
  by_cases hh : s[0] = 45
  · exact num_Level_neg s w hs (by omega) hh
  · exact num_Level_plain s w hs (by omega) hh
end Go.Proofs.YtgechifpappipaaDoor
