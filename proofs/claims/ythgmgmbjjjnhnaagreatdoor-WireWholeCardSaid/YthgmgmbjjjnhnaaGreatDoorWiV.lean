/- law17's whole; WireWhole. PRINTED BY PROGRAM (gen_wiv.py). -/
import Derived.Test.YthgmgmbjjjnhnaaGreatDoorWiE
import Derived.Test.YthgmgmbjjjnhnaaGreatDoorEncS
import Derived.Test.YthgmgmbjjjnhnaaGreatDoorGd
namespace Go.Proofs.YthgmgmbjjjnhnaaGreatDoor
open Go.RowKit

theorem oneT_len {b : List UInt8} {k : Bool} (h : b.length ≤ 8192) : (oneT b k).length ≤ 100000 := by
  rw [oneT_W, List.length_append, List.length_cons, List.length_cons, List.length_append, List.length_cons, List.length_cons]
  have h1 := oneF_len b.length k (by omega)
  have h2 := postL_ok.2.2
  omega
theorem twoT_len {p : List UInt8} {k : Bool} (h : p.length ≤ 12000) : (twoT p k).length ≤ 100000 := by
  have := (twoH_ok k).2.1
  rw [twoT_H, List.length_append, List.length_append, List.length_cons, List.length_cons, List.length_nil]
  omega
def lp (d : Value) : Nat := if strLen d = 0 then 1 else 0
theorem lp_le (d : Value) : lp d ≤ 1 := by unfold lp; split <;> omega
theorem lp_pos {t : ByteArray} (h : 0 < t.size) : lp (.string t) = 0 := by
  unfold lp strLen
  rw [if_neg (by show ¬ t.size = 0; omega)]
theorem lp_nil : lp (.string ⟨#[]⟩) = 1 := rfl
theorem lp_app (c : UInt8) (t : ByteArray) : lp (.string (⟨#[c]⟩ ++ t)) = 0 := lp_pos (by rw [ByteArray.size_append]; show 0 < 1 + t.size; omega)
set_option maxHeartbeats 8000000 in
set_option maxRecDepth 100000 in
theorem whole17 (s b : ByteArray) (k : Bool) (i : Int) (w : World) (hs : s.size ≤ 1000000) (hm : ML w) (h1 : wiO s.data.toList = .done [97] b.data.toList k s.size) (h2 : ∀ i, i < s.size → wiO (s.data.toList.take i) = .more) :
    Calls Tryz.prog 25 #[.string s, .string b, .bool k, .int .i64 i] w (Ret w (.bool true)) := by
  have O1 := Lib.hid fun w hm => one_done s ⟨#[97]⟩ b k s.size w hs hm h1
  have HM := Lib.hid hm
  clear hm h1
  by_cases a1 : i < 0
  · have e1 : decide (i < 0) = true := decide_eq_true a1
    go_enter Tryz.func25, Tryz.ntmps25
    go_wp2_with fail
    refine (O1.out _ HM.out).mono ?_
    rintro e w1 ⟨rfl, hb⟩
    have q1 : Below w.heap.size w w1 := hb
    have M1 := Lib.hid (HM.out.ret hb)
    have al := (Below.refl w1.heap.size w1).alloc (Nat.le_refl _) (.cells #[.int .i64 200, .string ⟨#[97]⟩, .string b, .bool k] 40)
    have q2 := q1.trans (al.mono q1.size)
    have M2 := Lib.hid (M1.out.ret al)
    clear hb al
    go_wp2_with fail
    go_ret
    exact ⟨rfl, q2⟩
  have e1 : decide (i < 0) = false := decide_eq_false a1
  by_cases a2 : (s.size : Int) ≤ i
  · have e2 : decide ((s.size : Int) ≤ i) = true := decide_eq_true a2
    go_enter Tryz.func25, Tryz.ntmps25
    go_wp2_with fail
    refine (O1.out _ HM.out).mono ?_
    rintro e w1 ⟨rfl, hb⟩
    have q1 : Below w.heap.size w w1 := hb
    have M1 := Lib.hid (HM.out.ret hb)
    have al := (Below.refl w1.heap.size w1).alloc (Nat.le_refl _) (.cells #[.int .i64 200, .string ⟨#[97]⟩, .string b, .bool k] 40)
    have q2 := q1.trans (al.mono q1.size)
    have M2 := Lib.hid (M1.out.ret al)
    clear hb al
    go_wp2_with fail
    go_ret
    exact ⟨rfl, q2⟩
  have e2 : decide ((s.size : Int) ≤ i) = false := decide_eq_false a2
  obtain ⟨j, rfl⟩ := Int.eq_ofNat_of_zero_le (by omega : 0 ≤ i)
  have hj : j < s.size := by omega
  have O2 := Lib.hid fun w hm => one_more (s.extract 0 j) w (by rw [ByteArray.size_extract]; omega) hm (by rw [ext_data, List.drop_zero, Nat.sub_zero]; exact h2 j hj)
  have g1 : (j : Int) ≤ s.size := by omega
  have g2 : (0 : Int) ≤ (j : Int) := by omega
  have g3 : j ≤ s.size := by omega
  have g4 : ¬ s.size ≤ j := by omega
  clear h2
  go_enter Tryz.func25, Tryz.ntmps25
  go_wp2_with fail
  refine (O1.out _ HM.out).mono ?_
  rintro e w1 ⟨rfl, hb⟩
  have q1 : Below w.heap.size w w1 := hb
  have M1 := Lib.hid (HM.out.ret hb)
  have al := (Below.refl w1.heap.size w1).alloc (Nat.le_refl _) (.cells #[.int .i64 200, .string ⟨#[97]⟩, .string b, .bool k] 40)
  have q2 := q1.trans (al.mono q1.size)
  have M2 := Lib.hid (M1.out.ret al)
  clear hb al
  go_wp2_with fail
  refine (O2.out _ M2.out).mono ?_
  rintro e w3 ⟨rfl, hb⟩
  have q3 := q2.trans (hb.mono q2.size)
  clear hb
  go_wp2_with fail
  go_ret
  exact ⟨rfl, q3.alloc q3.size _⟩
set_option maxHeartbeats 16000000 in
set_option maxRecDepth 100000 in
theorem wholes17 (b : ByteArray) (v : Value) (xs : List Int) (k : Bool) (i : Int) (hx : ∀ x ∈ xs, -9223372036854775808 ≤ x ∧ x ≤ 9223372036854775807) (hb : b.size ≤ 9223372036854775807) (hn : xs.length ≤ 9223372036854775807) (w : World) (hm : ML w) (ht : TabZ w) (hi : IsInts v xs w) :
    Calls Tryz.prog 7 #[.string b, v, .bool k, .int .i64 i] w (Ret w (.bool true)) := by
  have HM := Lib.hid hm
  have HT := Lib.hid ht
  obtain ⟨va, vc, rfl⟩ : ∃ a c, v = .slice a xs.length c := by
    obtain ⟨a, c, h, _⟩ := hi
    exact ⟨a, c, h⟩
  have HI := Lib.hid hi
  clear hm ht hi
  by_cases b1 : 1000 < b.size
  · have e1 : decide ((1000 : Int) < b.size) = true := decide_eq_true (by omega)
    clear b1
    go_enter Tryz.func7, Tryz.ntmps7
    go_wp2_with fail
    refine (alive17 _ HM.out).mono ?_
    rintro e w1 ⟨rfl, hb⟩
    have q1 : Below w.heap.size w w1 := hb
    have M1 := Lib.hid (HM.out.ret hb)
    have T1 := Lib.hid (HT.out.ret hb)
    have I1 := Lib.hid (HI.out.ret hb)
    clear hb
    go_wp2_with fail
    go_ret
    exact ⟨rfl, q1⟩
  have e1 : decide ((1000 : Int) < b.size) = false := decide_eq_false (by omega)
  by_cases b2 : 1000 < xs.length
  · have e2 : decide ((1000 : Int) < xs.length) = true := decide_eq_true (by omega)
    clear b1 b2
    go_enter Tryz.func7, Tryz.ntmps7
    go_wp2_with fail
    refine (alive17 _ HM.out).mono ?_
    rintro e w1 ⟨rfl, hb⟩
    have q1 : Below w.heap.size w w1 := hb
    have M1 := Lib.hid (HM.out.ret hb)
    have T1 := Lib.hid (HT.out.ret hb)
    have I1 := Lib.hid (HI.out.ret hb)
    clear hb
    go_wp2_with fail
    go_ret
    exact ⟨rfl, q1⟩
  have e2 : decide ((1000 : Int) < xs.length) = false := decide_eq_false (by omega)
  cases he : encOf b.data.toList xs with
  | none =>
    have C := Lib.hid fun w ht hi => encode_none b (.slice va xs.length vc) xs he hx (by omega) w ht hi
    clear he hx b1 b2
    go_enter Tryz.func7, Tryz.ntmps7
    go_wp2_with fail
    refine (alive17 _ HM.out).mono ?_
    rintro e w1 ⟨rfl, hb⟩
    have q1 : Below w.heap.size w w1 := hb
    have M1 := Lib.hid (HM.out.ret hb)
    have T1 := Lib.hid (HT.out.ret hb)
    have I1 := Lib.hid (HI.out.ret hb)
    clear hb
    go_wp2_with fail
    refine (C.out _ T1.out I1.out).mono ?_
    rintro e w2 ⟨rfl, hb⟩
    have q2 := q1.trans (hb.mono q1.size)
    clear hb
    go_wp2_with fail
    go_ret
    exact ⟨rfl, q2⟩
  | some t =>
    obtain ⟨T, rfl⟩ : ∃ T : ByteArray, T.data.toList = t := ⟨⟨t.toArray⟩, rfl⟩
    have hT : T.size ≤ 12000 := by
      have he' := he
      unfold encOf at he'
      split at he'
      · cases he'
      · have := encR_size _ _ _ he'
        rw [size_toList, size_toList] at this
        omega
    have C := Lib.hid fun w ht hi => encode_some b (.slice va xs.length vc) xs T he hx (by omega) w ht hi
    have hbz : b.size ≤ 1000 := by omega
    cases k with
    | true =>
      have hm2 : (⟨#[84, 114, 97, 110, 115, 102, 101, 114, 45, 69, 110, 99, 111, 100, 105, 110, 103, 58, 32, 99, 104, 117, 110, 107, 101, 100, 13, 10]⟩ : ByteArray).data.toList = lastL true ++ hdL teP := by decide +kernel
      have R2 := fun w => wi_request (⟨#[84, 114, 97, 110, 115, 102, 101, 114, 45, 69, 110, 99, 111, 100, 105, 110, 103, 58, 32, 99, 104, 117, 110, 107, 101, 100, 13, 10]⟩ : ByteArray) T w (by decide) (by omega)
      rw [hm2] at R2
      obtain ⟨S2, hS2⟩ : ∃ X : ByteArray, ⟨(rqT (lastL true ++ hdL teP) T.data.toList).toArray⟩ = X := ⟨_, rfl⟩
      have hS2l : S2.data.toList = twoT T.data.toList true := by rw [← hS2]; rfl
      rw [hS2] at R2
      obtain ⟨p1, p2⟩ := two_whole true he (by rw [size_toList]; omega)
      rw [← hS2l, size_toList] at p1 p2
      have zS2 : S2.size ≤ 100000 := by rw [← size_toList, hS2l]; exact twoT_len (by rw [size_toList]; omega)
      have W2 := Lib.hid fun w hm => whole17 S2 b true i w (by omega) hm p1 p2
      have R2 := Lib.hid R2
      clear hm2 hS2 hS2l p1 p2
      clear he hx b1 b2
      go_enter Tryz.func7, Tryz.ntmps7
      go_wp2_with fail
      refine (alive17 _ HM.out).mono ?_
      rintro e w1 ⟨rfl, hb⟩
      have q1 : Below w.heap.size w w1 := hb
      have M1 := Lib.hid (HM.out.ret hb)
      have T1 := Lib.hid (HT.out.ret hb)
      have I1 := Lib.hid (HI.out.ret hb)
      clear hb
      go_wp2_with fail
      refine (C.out _ T1.out I1.out).mono ?_
      rintro e w2 ⟨rfl, hb⟩
      have q2 := q1.trans (hb.mono q1.size)
      have M2 := Lib.hid (M1.out.ret hb)
      clear hb
      go_wp2_with fail
      go_loopw [13, 14] (fun d i wr => ∃ (m : Nat) (t : ByteArray), m ≤ b.size ∧ i = .int .i64 m ∧ d = .string t ∧ Lib.decDigits b.size = (if m = 0 ∧ t.size ≠ 0 then [] else Lib.decDigits m) ++ t.data.toList ∧ Below w2.heap.size w2 wr) (fun d i _ => (intOf i).toNat + lp d)
      case atStart => exact ⟨b.size, ⟨#[]⟩, Nat.le_refl _, rfl, rfl, by rw [if_neg (fun h => h.2 rfl)]; simp, Below.refl _ _⟩
      case round =>
        obtain ⟨m, t, hm, rfl, rfl, hd, hBw⟩ := hrel
        have hlen : t.size ≤ 20 := by
          have h1 := congrArg List.length hd
          rw [List.length_append, size_toList, Lib.decDigits_length] at h1
          have := Lib.nDigits_le20 b.size (by omega)
          omega
        have hsz := hBw.size
        have hbb : m ≤ 1000 := by omega
        by_cases h9 : 9 < m
        · rw [if_neg (by omega)] at hd
          have HD := Lib.hid hd
          clear hd
          have gm : (0 : Int) < (m : Int) := by omega
          obtain ⟨c, ec⟩ : ∃ c, UInt8.ofNat (48 + m % 10) = c := ⟨_, rfl⟩
          have hc : 48 + (m : Int) % 10 = (c.toNat : Int) := by rw [← ec]; have := dig_cast (i := m % 10) (by omega); omega
          have hcv := conv_one (P := Tryz.prog) wr 38 9 5 c (48 + (m : Int) % 10) hc Tryz.underlying38 Tryz.underlying5 Tryz.underlying9
          have EC := Lib.hid ec
          clear ec hc
          go_wp2
          go_roundw
          case rel => exact ⟨m / 10, ⟨#[c]⟩ ++ t, by omega, by go_num, rfl, by rw [if_neg (by omega), HD.out, decDigits_big (by omega), EC.out]; simp, by go_grown⟩
          case measure =>
            rw [lp_app]
            simp [intOf]
            omega
        · by_cases h0 : m = 0
          · subst h0
            by_cases ht0 : t.size = 0
            · obtain rfl : t = ⟨#[]⟩ := str_ext (List.eq_nil_of_length_eq_zero (by rw [size_toList]; exact ht0))
              rw [if_neg (fun h => h.2 rfl)] at hd
              have HD := Lib.hid hd
              clear hd
              have hcv := conv_one (P := Tryz.prog) wr 38 9 5 48 48 rfl Tryz.underlying38 Tryz.underlying5 Tryz.underlying9
              go_wp2
              go_roundw
              case rel => exact ⟨0, ⟨#[48]⟩ ++ ⟨#[]⟩, by omega, by go_num, rfl, by rw [if_pos ⟨rfl, by decide⟩, HD.out]; decide +kernel, by go_grown⟩
              case measure =>
                rw [lp_app, lp_nil]
                simp [intOf]
            · have e1 := isEmpty_of_pos (s := t) (by omega)
              have e2 := ne_nil_of_pos (s := t) (by omega)
              rw [if_pos ⟨rfl, ht0⟩, List.nil_append] at hd
              have hm1 : (((⟨#[99, 111, 110, 116, 101, 110, 116, 45, 108, 101, 110, 103, 116, 104, 58, 32]⟩ ++ t) ++ ⟨#[13, 10]⟩) ++ ⟨#[]⟩ : ByteArray).data.toList = hdL (clen b.data.toList.length) ++ lastL true := by
                rw [app_data, app_data, app_data, ← hd, size_toList]
                simp [hdL, clen, lastL, clL]
              have R1 := fun w => wi_request (((⟨#[99, 111, 110, 116, 101, 110, 116, 45, 108, 101, 110, 103, 116, 104, 58, 32]⟩ ++ t) ++ ⟨#[13, 10]⟩) ++ ⟨#[]⟩ : ByteArray) b w (by rw [ByteArray.size_append, ByteArray.size_append, ByteArray.size_append]; show 16 + t.size + 2 + 0 ≤ 1000000; omega) (by omega)
              rw [hm1] at R1
              obtain ⟨S1, hS1⟩ : ∃ X : ByteArray, ⟨(rqT (hdL (clen b.data.toList.length) ++ lastL true) b.data.toList).toArray⟩ = X := ⟨_, rfl⟩
              have hS1l : S1.data.toList = oneT b.data.toList true := by rw [← hS1]; rfl
              rw [hS1] at R1
              obtain ⟨o1, o2⟩ := one_whole b.data.toList true (by rw [size_toList]; omega)
              rw [← hS1l, size_toList] at o1 o2
              have zS1 : S1.size ≤ 100000 := by rw [← size_toList, hS1l]; exact oneT_len (by rw [size_toList]; omega)
              have W1 := Lib.hid fun w hm => whole17 S1 b true i w (by omega) hm o1 o2
              have RH1 := Lib.hid R1
              have qx := q2.trans (hBw.mono q2.size)
              have Mx := Lib.hid (M2.out.ret hBw)
              have n1 : ¬ 9223372036854775807 < 16 + t.size := by omega
              have n2 : ¬ 9223372036854775807 < 16 + t.size + 2 := by omega
              have n3 : ¬ 9223372036854775807 < 16 + t.size + 2 + 0 := by omega
              clear R1 hS1 hS1l o1 o2 hm1 hd
              go_wp2_with fail
              refine (RH1.out _).mono ?_
              rintro e w4 ⟨rfl, rfl⟩
              go_wp2_with fail
              refine (R2.out _).mono ?_
              rintro e w4 ⟨rfl, rfl⟩
              go_wp2_with fail
              refine (W1.out _ Mx.out).mono ?_
              rintro e w5 ⟨rfl, hb5⟩
              have q5 := qx.trans (hb5.mono qx.size)
              have M5 := Lib.hid (Mx.out.ret hb5)
              go_wp2_with fail
              refine (W2.out _ M5.out).mono ?_
              rintro e w6 ⟨rfl, hb6⟩
              have q6 := q5.trans (hb6.mono q5.size)
              go_wp2_with fail
              go_ret
              exact ⟨rfl, q6⟩
          · rw [if_neg (by omega)] at hd
            have HD := Lib.hid hd
            clear hd
            have gm : (0 : Int) < (m : Int) := by omega
            obtain ⟨c, ec⟩ : ∃ c, UInt8.ofNat (48 + m) = c := ⟨_, rfl⟩
            have hc : 48 + (m : Int) % 10 = (c.toNat : Int) := by rw [← ec]; have := dig_cast (i := m) (by omega); omega
            have hcv := conv_one (P := Tryz.prog) wr 38 9 5 c (48 + (m : Int) % 10) hc Tryz.underlying38 Tryz.underlying5 Tryz.underlying9
            have EC := Lib.hid ec
            have g10 : m / 10 = 0 := by omega
            clear ec hc
            go_wp2
            go_roundw
            case rel => exact ⟨0, ⟨#[c]⟩ ++ t, by omega, by first | rfl | (go_num) | (congr 1; omega), rfl, by rw [if_pos ⟨rfl, by rw [ByteArray.size_append]; show 1 + t.size ≠ 0; omega⟩, HD.out, Lib.decDigits_one (by omega), EC.out]; simp, by go_grown⟩
            case measure =>
              rw [lp_app]
              simp [intOf]
              omega
    | false =>
      have hm2 : (⟨#[99, 111, 110, 110, 101, 99, 116, 105, 111, 110, 58, 32, 99, 108, 111, 115, 101, 13, 10]⟩ ++ ⟨#[84, 114, 97, 110, 115, 102, 101, 114, 45, 69, 110, 99, 111, 100, 105, 110, 103, 58, 32, 99, 104, 117, 110, 107, 101, 100, 13, 10]⟩ : ByteArray).data.toList = lastL false ++ hdL teP := by decide +kernel
      have R2 := fun w => wi_request (⟨#[99, 111, 110, 110, 101, 99, 116, 105, 111, 110, 58, 32, 99, 108, 111, 115, 101, 13, 10]⟩ ++ ⟨#[84, 114, 97, 110, 115, 102, 101, 114, 45, 69, 110, 99, 111, 100, 105, 110, 103, 58, 32, 99, 104, 117, 110, 107, 101, 100, 13, 10]⟩ : ByteArray) T w (by decide) (by omega)
      rw [hm2] at R2
      obtain ⟨S2, hS2⟩ : ∃ X : ByteArray, ⟨(rqT (lastL false ++ hdL teP) T.data.toList).toArray⟩ = X := ⟨_, rfl⟩
      have hS2l : S2.data.toList = twoT T.data.toList false := by rw [← hS2]; rfl
      rw [hS2] at R2
      obtain ⟨p1, p2⟩ := two_whole false he (by rw [size_toList]; omega)
      rw [← hS2l, size_toList] at p1 p2
      have zS2 : S2.size ≤ 100000 := by rw [← size_toList, hS2l]; exact twoT_len (by rw [size_toList]; omega)
      have W2 := Lib.hid fun w hm => whole17 S2 b false i w (by omega) hm p1 p2
      have R2 := Lib.hid R2
      clear hm2 hS2 hS2l p1 p2
      clear he hx b1 b2
      go_enter Tryz.func7, Tryz.ntmps7
      go_wp2_with fail
      refine (alive17 _ HM.out).mono ?_
      rintro e w1 ⟨rfl, hb⟩
      have q1 : Below w.heap.size w w1 := hb
      have M1 := Lib.hid (HM.out.ret hb)
      have T1 := Lib.hid (HT.out.ret hb)
      have I1 := Lib.hid (HI.out.ret hb)
      clear hb
      go_wp2_with fail
      refine (C.out _ T1.out I1.out).mono ?_
      rintro e w2 ⟨rfl, hb⟩
      have q2 := q1.trans (hb.mono q1.size)
      have M2 := Lib.hid (M1.out.ret hb)
      clear hb
      go_wp2_with fail
      go_loopw [13, 14] (fun d i wr => ∃ (m : Nat) (t : ByteArray), m ≤ b.size ∧ i = .int .i64 m ∧ d = .string t ∧ Lib.decDigits b.size = (if m = 0 ∧ t.size ≠ 0 then [] else Lib.decDigits m) ++ t.data.toList ∧ Below w2.heap.size w2 wr) (fun d i _ => (intOf i).toNat + lp d)
      case atStart => exact ⟨b.size, ⟨#[]⟩, Nat.le_refl _, rfl, rfl, by rw [if_neg (fun h => h.2 rfl)]; simp, Below.refl _ _⟩
      case round =>
        obtain ⟨m, t, hm, rfl, rfl, hd, hBw⟩ := hrel
        have hlen : t.size ≤ 20 := by
          have h1 := congrArg List.length hd
          rw [List.length_append, size_toList, Lib.decDigits_length] at h1
          have := Lib.nDigits_le20 b.size (by omega)
          omega
        have hsz := hBw.size
        have hbb : m ≤ 1000 := by omega
        by_cases h9 : 9 < m
        · rw [if_neg (by omega)] at hd
          have HD := Lib.hid hd
          clear hd
          have gm : (0 : Int) < (m : Int) := by omega
          obtain ⟨c, ec⟩ : ∃ c, UInt8.ofNat (48 + m % 10) = c := ⟨_, rfl⟩
          have hc : 48 + (m : Int) % 10 = (c.toNat : Int) := by rw [← ec]; have := dig_cast (i := m % 10) (by omega); omega
          have hcv := conv_one (P := Tryz.prog) wr 38 9 5 c (48 + (m : Int) % 10) hc Tryz.underlying38 Tryz.underlying5 Tryz.underlying9
          have EC := Lib.hid ec
          clear ec hc
          go_wp2
          go_roundw
          case rel => exact ⟨m / 10, ⟨#[c]⟩ ++ t, by omega, by go_num, rfl, by rw [if_neg (by omega), HD.out, decDigits_big (by omega), EC.out]; simp, by go_grown⟩
          case measure =>
            rw [lp_app]
            simp [intOf]
            omega
        · by_cases h0 : m = 0
          · subst h0
            by_cases ht0 : t.size = 0
            · obtain rfl : t = ⟨#[]⟩ := str_ext (List.eq_nil_of_length_eq_zero (by rw [size_toList]; exact ht0))
              rw [if_neg (fun h => h.2 rfl)] at hd
              have HD := Lib.hid hd
              clear hd
              have hcv := conv_one (P := Tryz.prog) wr 38 9 5 48 48 rfl Tryz.underlying38 Tryz.underlying5 Tryz.underlying9
              go_wp2
              go_roundw
              case rel => exact ⟨0, ⟨#[48]⟩ ++ ⟨#[]⟩, by omega, by go_num, rfl, by rw [if_pos ⟨rfl, by decide⟩, HD.out]; decide +kernel, by go_grown⟩
              case measure =>
                rw [lp_app, lp_nil]
                simp [intOf]
            · have e1 := isEmpty_of_pos (s := t) (by omega)
              have e2 := ne_nil_of_pos (s := t) (by omega)
              rw [if_pos ⟨rfl, ht0⟩, List.nil_append] at hd
              have hm1 : (((⟨#[99, 111, 110, 116, 101, 110, 116, 45, 108, 101, 110, 103, 116, 104, 58, 32]⟩ ++ t) ++ ⟨#[13, 10]⟩) ++ ⟨#[99, 111, 110, 110, 101, 99, 116, 105, 111, 110, 58, 32, 99, 108, 111, 115, 101, 13, 10]⟩ : ByteArray).data.toList = hdL (clen b.data.toList.length) ++ lastL false := by
                rw [app_data, app_data, app_data, ← hd, size_toList]
                simp [hdL, clen, lastL, clL, cclose, conL, cloL]
              have R1 := fun w => wi_request (((⟨#[99, 111, 110, 116, 101, 110, 116, 45, 108, 101, 110, 103, 116, 104, 58, 32]⟩ ++ t) ++ ⟨#[13, 10]⟩) ++ ⟨#[99, 111, 110, 110, 101, 99, 116, 105, 111, 110, 58, 32, 99, 108, 111, 115, 101, 13, 10]⟩ : ByteArray) b w (by rw [ByteArray.size_append, ByteArray.size_append, ByteArray.size_append]; show 16 + t.size + 2 + 19 ≤ 1000000; omega) (by omega)
              rw [hm1] at R1
              obtain ⟨S1, hS1⟩ : ∃ X : ByteArray, ⟨(rqT (hdL (clen b.data.toList.length) ++ lastL false) b.data.toList).toArray⟩ = X := ⟨_, rfl⟩
              have hS1l : S1.data.toList = oneT b.data.toList false := by rw [← hS1]; rfl
              rw [hS1] at R1
              obtain ⟨o1, o2⟩ := one_whole b.data.toList false (by rw [size_toList]; omega)
              rw [← hS1l, size_toList] at o1 o2
              have zS1 : S1.size ≤ 100000 := by rw [← size_toList, hS1l]; exact oneT_len (by rw [size_toList]; omega)
              have W1 := Lib.hid fun w hm => whole17 S1 b false i w (by omega) hm o1 o2
              have RH1 := Lib.hid R1
              have qx := q2.trans (hBw.mono q2.size)
              have Mx := Lib.hid (M2.out.ret hBw)
              have n1 : ¬ 9223372036854775807 < 16 + t.size := by omega
              have n2 : ¬ 9223372036854775807 < 16 + t.size + 2 := by omega
              have n3 : ¬ 9223372036854775807 < 16 + t.size + 2 + 19 := by omega
              clear R1 hS1 hS1l o1 o2 hm1 hd
              go_wp2_with fail
              refine (RH1.out _).mono ?_
              rintro e w4 ⟨rfl, rfl⟩
              go_wp2_with fail
              refine (R2.out _).mono ?_
              rintro e w4 ⟨rfl, rfl⟩
              go_wp2_with fail
              refine (W1.out _ Mx.out).mono ?_
              rintro e w5 ⟨rfl, hb5⟩
              have q5 := qx.trans (hb5.mono qx.size)
              have M5 := Lib.hid (Mx.out.ret hb5)
              go_wp2_with fail
              refine (W2.out _ M5.out).mono ?_
              rintro e w6 ⟨rfl, hb6⟩
              have q6 := q5.trans (hb6.mono q5.size)
              go_wp2_with fail
              go_ret
              exact ⟨rfl, q6⟩
          · rw [if_neg (by omega)] at hd
            have HD := Lib.hid hd
            clear hd
            have gm : (0 : Int) < (m : Int) := by omega
            obtain ⟨c, ec⟩ : ∃ c, UInt8.ofNat (48 + m) = c := ⟨_, rfl⟩
            have hc : 48 + (m : Int) % 10 = (c.toNat : Int) := by rw [← ec]; have := dig_cast (i := m) (by omega); omega
            have hcv := conv_one (P := Tryz.prog) wr 38 9 5 c (48 + (m : Int) % 10) hc Tryz.underlying38 Tryz.underlying5 Tryz.underlying9
            have EC := Lib.hid ec
            have g10 : m / 10 = 0 := by omega
            clear ec hc
            go_wp2
            go_roundw
            case rel => exact ⟨0, ⟨#[c]⟩ ++ t, by omega, by first | rfl | (go_num) | (congr 1; omega), rfl, by rw [if_pos ⟨rfl, by rw [ByteArray.size_append]; show 1 + t.size ≠ 0; omega⟩, HD.out, Lib.decDigits_one (by omega), EC.out]; simp, by go_grown⟩
            case measure =>
              rw [lp_app]
              simp [intOf]
              omega
end Go.Proofs.YthgmgmbjjjnhnaaGreatDoor
