/- The statement ChunkLasts: the walk. -/
import Derived.Test.YtcmbmbkglglljaaDoorCh16
import Derived.Test.YtcmbmbkglglljaaDoorInts
import Derived.Laws.AppendOwnNone
namespace Go.Proofs.YtcmbmbkglglljaaDoor
open Go.RowKit

/-- What isn't done tells nothing; what is done has no error. -/
theorem dc_not {l : List UInt8} (h : (dcOf l).2.2.1 = false) : (dcOf l).1 = [] ∧ (dcOf l).2.1 = 0 := by
  rw [dcOf_tell] at h ⊢
  cases hr : CM.zero.run 0 l with
  | err e => exact ⟨rfl, rfl⟩
  | waits m => exact ⟨rfl, rfl⟩
  | whole m n => rw [hr] at h; simp [CR.tell] at h
theorem dc_true {l : List UInt8} (h : (dcOf l).2.2.1 = true) : (dcOf l).2.2.2 = 0 := by
  rw [dcOf_tell] at h ⊢
  cases hr : CM.zero.run 0 l with
  | err e => rw [hr] at h; simp [CR.tell] at h
  | waits m => rw [hr] at h; simp [CR.tell] at h
  | whole m n => rfl
theorem u8i : (Tryd.prog.info? 3).map (fun i => (i.zero, i.size, i.bytes)) = some (some (.int .i64 0), 1, 8) := by kernel_rfl
set_option maxHeartbeats 4000000 in
set_option maxRecDepth 100000 in
theorem lasts16_big (s m : ByteArray) (hs : s.size ≤ 9223372036854775807) (hm : m.size ≤ 9223372036854775807) (w : World) (h : 1000 < s.size ∨ 1000 < m.size) :
    Calls Tryd.prog 6 #[.string s, .string m] w (Ret w (.bool true)) := by
  by_cases h1 : 1000 < s.size
  · have g : (1000 : Int) < s.size := by omega
    clear h
    go_enter Tryd.func6, Tryd.ntmps6
    go_wp2_with fail
    refine (alive16 _).mono ?_
    rintro e w1 ⟨rfl, hb⟩
    go_wp2_with fail
    go_ret
    exact ⟨rfl, hb⟩
  have g1 : ¬ (1000 : Int) < s.size := by omega
  have g3 : (1000 : Int) < m.size := by omega
  clear h
  go_enter Tryd.func6, Tryd.ntmps6
  go_wp2_with fail
  refine (alive16 _).mono ?_
  rintro e w1 ⟨rfl, hb⟩
  go_wp2_with fail
  go_ret
  exact ⟨rfl, hb⟩
set_option maxHeartbeats 8000000 in
set_option maxRecDepth 100000 in
theorem lasts16 (s m : ByteArray) (hs : s.size ≤ 9223372036854775807) (hm : m.size ≤ 9223372036854775807) (w : World) (ht : TabZ w) :
    Calls Tryd.prog 6 #[.string s, .string m] w (Ret w (.bool true)) := by
  by_cases hbig : 1000 < s.size ∨ 1000 < m.size
  · exact lasts16_big s m hs hm w hbig
  have z1 : s.size ≤ 1000 := by omega
  have z3 : m.size ≤ 1000 := by omega
  have g1 : ¬ (1000 : Int) < s.size := by omega
  have g3 : ¬ (1000 : Int) < m.size := by omega
  clear hbig hs hm
  have HT := Lib.hid ht
  clear ht
  have n1 : ¬ 9223372036854775807 < s.size + m.size := by omega
  have hsz : (s ++ m).size ≤ 9223372036854775807 := by rw [ByteArray.size_append]; omega
  obtain ⟨x, n, d, e, he⟩ : ∃ (x : ByteArray) (n : Nat) (d : Bool) (e : Int), dcOf s.data.toList = (x.data.toList, n, d, e) := ⟨⟨(dcOf s.data.toList).1.toArray⟩, _, _, _, rfl⟩
  obtain ⟨y, k, c, f, hf⟩ : ∃ (x : ByteArray) (n : Nat) (d : Bool) (e : Int), dcOf (s ++ m).data.toList = (x.data.toList, n, d, e) := ⟨⟨(dcOf (s ++ m).data.toList).1.toArray⟩, _, _, _, rfl⟩
  have C := Lib.hid fun w => decode_of s x n d e w (by omega) he
  have C2 := Lib.hid fun w => decode_of (s ++ m) y k c f w hsz hf
  have hlast := dc_lasts (l := s.data.toList) (r := m.data.toList)
  rw [← app_data, he, hf] at hlast
  cases d with
  | false =>
    have hno : x.data.toList = [] ∧ n = 0 := by have := dc_not (l := s.data.toList) (by rw [he]); rw [he] at this; exact this
    obtain ⟨hx, rfl⟩ := hno
    obtain rfl : x = ⟨#[]⟩ := str_ext hx
    by_cases h0 : e = 0
    · subst h0
      clear hlast he hf hx hsz
      go_enter Tryd.func6, Tryd.ntmps6
      go_wp2_with fail
      refine (alive16 _).mono ?_
      rintro e w1 ⟨rfl, hb1⟩
      go_wp2_with fail
      refine (C.out _).mono ?_
      rintro e w2 ⟨rfl, hb2⟩
      go_wp2_with fail
      refine (C2.out _).mono ?_
      rintro e w3 ⟨rfl, hb3⟩
      go_wp2_with fail
      go_ret
      exact ⟨rfl, ret_trans (ret_trans hb1 hb2) hb3⟩
    · have hl := hlast (.inr h0)
      simp only [Prod.mk.injEq] at hl
      obtain ⟨l1, rfl, rfl, rfl⟩ := hl
      obtain rfl : y = ⟨#[]⟩ := str_ext l1
      have b1 : (f == 0) = false := by simpa using h0
      have b2 : (f != 0) = true := by simpa using h0
      clear hlast he hf hx hsz l1 h0
      go_enter Tryd.func6, Tryd.ntmps6
      go_wp2_with fail
      refine (alive16 _).mono ?_
      rintro e w1 ⟨rfl, hb1⟩
      go_wp2_with fail
      refine (C.out _).mono ?_
      rintro e w2 ⟨rfl, hb2⟩
      go_wp2_with fail
      refine (C2.out _).mono ?_
      rintro e w3 ⟨rfl, hb3⟩
      go_wp2_with fail
      go_ret
      exact ⟨rfl, ret_trans (ret_trans hb1 hb2) hb3⟩
  | true =>
    have hl := hlast (.inl rfl)
    simp only [Prod.mk.injEq] at hl
    obtain ⟨l1, rfl, rfl, rfl⟩ := hl
    obtain rfl : y = x := str_ext l1
    have hd0 := dc_true (l := s.data.toList) (by rw [he])
    rw [he] at hd0
    obtain rfl : f = 0 := hd0
    have ha := dc_again (l := s.data.toList) (by rw [he])
    rw [he] at ha
    obtain ⟨a1, a2, a3, t, a4, a5⟩ := ha
    simp only at a1 a2 a3 a4 a5
    rw [size_toList] at a1 a2 a3 a4
    obtain ⟨T, rfl⟩ : ∃ T : ByteArray, T.data.toList = t := ⟨⟨t.toArray⟩, rfl⟩
    rw [size_toList] at a5
    have hd := enc_dec a4 []
    rw [List.append_nil, size_toList] at hd
    have I := Lib.hid fun w => is16 T y (T.size : Int) T.size w (by omega) hd rfl
    have b3 : (y.size : Int) + 5 ≤ k := by omega
    have b4 : (k : Int) ≤ s.size := by omega
    have b5 : (T.size : Int) ≤ k := by omega
    have e5 : IntKind.i64.wrap ((y.size : Int) + 5) = (y.size : Int) + 5 := IntWalk.i64_in _ (by omega)
    by_cases h0 : 0 < y.size
    · rw [if_pos h0] at a4
      have E := Lib.hid fun w v ht hi => encode_some y v [(y.size : Int)] T a4 (by simp; omega) (by simp) w ht hi
      have hpos : (0 : Int) < y.size := by omega
      clear hlast he hf hsz l1 a4 hd
      go_enter Tryd.func6, Tryd.ntmps6
      go_wp2_with fail
      refine (alive16 _).mono ?_
      rintro e w1 ⟨rfl, hb1⟩
      go_wp2_with fail
      refine (C.out _).mono ?_
      rintro e w2 ⟨rfl, hb2⟩
      go_wp2_with fail
      refine (C2.out _).mono ?_
      rintro e w3 ⟨rfl, hb3⟩
      have q3 := ret_trans (ret_trans hb1 hb2) hb3
      clear hb1 hb2 hb3
      obtain ⟨i0, hi, hz0, hz1, hz2⟩ := info_parts u8i
      go_wp2_with (at_builtin; refine wpList_append_own _ rfl _ _ 28 rfl w.heap.size 3 i0 (.int .i64 0) 1 8 Tryd.underlying28 hi hz0 hz1 hz2 rfl (by decide) (.slice none 0 0) 0 [] rfl (World.ownsRow_nil _ _ _ _) ⟨w3.heap.size, 0, none⟩ 1 1 [.int .i64 y.size] rfl rfl ?c1 ?c2 ?c3 ?c4 ?c5 ?_)
      case c1 =>
        intro j u hj
        match j, hj with
        | 0, hj => simp at hj; subst hj; simp [Addr.add]
      case c2 => intro u hu; simp at hu; subst hu; rfl
      case c3 => unfold maxLen; omega
      case c4 => omega
      case c5 => have := q3.size; simp; omega
      intro v' w4 hown' hgrow _
      have q4 : Below w.heap.size w w4 := (q3.alloc (by have := q3.size; omega) _).grown hgrow (by have := q3.size; simp; omega) (fun k hk => by cases hk)
      have hI : IsInts v' [(y.size : Int)] w4 := own_ints (n := 0 + 1) (by simpa using hown')
      have HI := Lib.hid hI
      clear hown' hgrow hI hi hz0 hz1 hz2
      go_wp2_with fail
      refine (E.out _ _ (HT.out.ret q4) HI.out).mono ?_
      rintro e w5 ⟨rfl, hb5⟩
      go_wp2_with fail
      refine (I.out _).mono ?_
      rintro e w6 ⟨rfl, hb6⟩
      go_wp2_with fail
      go_ret
      exact ⟨rfl, ret_trans (ret_trans q4 hb5) hb6⟩
    · obtain h00 : y.size = 0 := by omega
      obtain rfl : y = ⟨#[]⟩ := str_ext (List.eq_nil_of_length_eq_zero (by rw [size_toList]; exact h00))
      have E := Lib.hid fun w v ht hi => encode_some ⟨#[]⟩ v [] T a4 (by simp) (by simp) w ht hi
      have b3' : (5 : Int) ≤ k := by have h : (⟨#[]⟩ : ByteArray).size = 0 := rfl; rw [h] at b3; omega
      clear hlast he hf hsz l1 a4 hd h0 h00 b3 e5 a1 a3
      go_enter Tryd.func6, Tryd.ntmps6
      go_wp2_with fail
      refine (alive16 _).mono ?_
      rintro e w1 ⟨rfl, hb1⟩
      go_wp2_with fail
      refine (C.out _).mono ?_
      rintro e w2 ⟨rfl, hb2⟩
      go_wp2_with fail
      refine (C2.out _).mono ?_
      rintro e w3 ⟨rfl, hb3⟩
      have q3 := ret_trans (ret_trans hb1 hb2) hb3
      clear hb1 hb2 hb3
      go_wp2_with fail
      refine (E.out _ _ (HT.out.ret q3) ⟨none, 0, rfl, .inl rfl⟩).mono ?_
      rintro e w5 ⟨rfl, hb5⟩
      go_wp2_with fail
      refine (I.out _).mono ?_
      rintro e w6 ⟨rfl, hb6⟩
      go_wp2_with fail
      go_ret
      exact ⟨rfl, ret_trans (ret_trans q3 hb5) hb6⟩
end Go.Proofs.YtcmbmbkglglljaaDoor
