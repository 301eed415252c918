/- The document's Decode of chunks: it answers what the machine does. -/
import Derived.Test.YtcmbmbkglglljaaDoorChQ
import Derived.Test.YtcmbmbkglglljaaDoorChT
namespace Go.Proofs.YtcmbmbkglglljaaDoor
open Go.RowKit

theorem begins_t (a b : ByteArray) (w : World) (h : a.data.toList <+: b.data.toList) : Calls Tryd.prog 40 #[.string a, .string b] w fun e w' => e = .returned (.bool true) ∧ w' = w := by
  have := r16_begins a b w
  rwa [show pre a.data.toList b.data.toList = true from decide_eq_true h] at this
theorem begins_f (a b : ByteArray) (w : World) (h : ¬ a.data.toList <+: b.data.toList) : Calls Tryd.prog 40 #[.string a, .string b] w fun e w' => e = .returned (.bool false) ∧ w' = w := by
  have := r16_begins a b w
  rwa [show pre a.data.toList b.data.toList = false from decide_eq_false h] at this
/-- What the reference's Decode answers, as one value. -/
abbrev dcV (l : List UInt8) : Value := .tuple #[.string ⟨(dcOf l).1.toArray⟩, .int .i64 (dcOf l).2.1, .bool (dcOf l).2.2.1, .int .i64 (dcOf l).2.2.2]
theorem results_tmp4' {fn : Func} {t u v x : Tmp} (h : fn.results = #[.tmp t, .tmp u, .tmp v, .tmp x]) (tmps : Array Value) (P : Program) (w : World) :
    (results fn tmps).run P w = .ok (.tuple #[tmps.getD t undef, tmps.getD u undef, tmps.getD v undef, tmps.getD x undef]) w := by
  simp [results, h]
set_option maxHeartbeats 8000000 in
set_option maxRecDepth 100000 in
theorem r16_Decode (s : ByteArray) (w : World) (hs : s.size ≤ 1000000) : Calls Tryd.prog 18 #[.string s] w fun e w' => e = .returned (dcV s.data.toList) ∧ w' = w := by
  unfold dcV
  go_enter Tryd.func18, Tryd.ntmps18
  go_wp2_with fail
  go_loop [6, 7] (fun b a => ∃ (body : List UInt8) (k sz mn : Nat), k ≤ s.size ∧ body.length ≤ 8192 ∧ b = .string ⟨body.toArray⟩ ∧ a = .int .i64 k ∧ dcOf s.data.toList = ((CM.at0 sz mn body).run k (s.data.toList.drop k)).tell) (fun _ a => s.size - (intOf a).toNat)
  case atStart => exact ⟨[], 0, 0, 0, by omega, by simp, rfl, rfl, dcOf_tell _⟩
  case round =>
    obtain ⟨body, k, sz, mn, hk, hb, rfl, rfl, hrun⟩ := hrel
    have HR := Lib.hid hrun
    clear hrun
    have e0 : IntKind.i64.wrap ((k : Int) + 5) = (k : Int) + 5 := IntWalk.i64_in _ (by omega)
    go_wp2_with fail
    generalize hr : s.extract k s.size = rest
    have hL : rest.data.toList = s.data.toList.drop k := by
      rw [← hr, ext_data]
      exact List.take_of_length_le (by simp)
    have hsz : rest.size = s.size - k := by
      have := congrArg List.length hL
      simpa using this
    rw [← hL] at HR
    have HL := Lib.hid hL
    have HS := Lib.hid hsz
    have hsz2 : rest.size ≤ s.size := by omega
    have hlen : rest.data.toList.length = rest.size := size_toList rest
    clear hr hL hsz
    obtain ⟨v, hv⟩ : ∃ v, (szOf rest.data.toList).1 = v := ⟨_, rfl⟩
    obtain ⟨n, hn⟩ : ∃ n, (szOf rest.data.toList).2 = n := ⟨_, rfl⟩
    have hle := hexRun_le rest.data.toList 0 0 (by omega)
    have hlt := hexRun_lt rest.data.toList 0 0 (by simp)
    change 0 ≤ (szOf rest.data.toList).2 ∧ (szOf rest.data.toList).2 ≤ 4 ∧ (szOf rest.data.toList).2 ≤ 0 + rest.data.toList.length at hle
    change (szOf rest.data.toList).1 < 16 ^ (szOf rest.data.toList).2 at hlt
    have SZ := r16_size rest
    rw [hv, hn] at SZ hlt
    rw [hn, hlen] at hle
    have hn4 : n ≤ 4 := hle.2.1
    have hnr : n ≤ rest.size := by omega
    have hv4 : v < 65536 := by
      have : 16 ^ n ≤ 16 ^ 4 := Nat.pow_le_pow_right (by omega) hn4
      omega
    have SZH := Lib.hid SZ
    have HV := Lib.hid hv
    have HN := Lib.hid hn
    have HLEN := Lib.hid hlen
    clear SZ hv hn hle hlt hlen
    by_cases c1 : ([48, 13, 10, 13, 10] : List UInt8) <+: rest.data.toList
    · have hd : dcOf s.data.toList = (body, k + 5, true, 0) := HR.out.trans (dc1 c1)
      have HD := Lib.hid hd
      have C1 := Lib.hid c1
      clear c1 hd
      refine (begins_t _ _ _ C1.out).mono ?_
      rintro e w1 ⟨rfl, rfl⟩
      go_wp2_with fail
      refine bodyPost_ret (results_tmp4' rfl _ _ _) rfl ?_
      rw [HD.out]
      exact ⟨rfl, rfl⟩
    have C1 := Lib.hid c1
    clear c1
    refine (begins_f _ _ _ C1.out).mono ?_
    rintro e w1 ⟨rfl, rfl⟩
    go_wp2_with fail
    by_cases c2 : rest.data.toList <+: ([48, 13, 10, 13, 10] : List UInt8)
    · have hd : dcOf s.data.toList = ([], 0, false, 0) := HR.out.trans (dc2 C1.out c2)
      have HD := Lib.hid hd
      have C2 := Lib.hid c2
      clear c2 hd
      refine (begins_t _ _ _ C2.out).mono ?_
      rintro e w1 ⟨rfl, rfl⟩
      go_wp2_with fail
      refine bodyPost_ret (results_tmp4' rfl _ _ _) rfl ?_
      rw [HD.out]
      exact ⟨rfl, rfl⟩
    have C2 := Lib.hid c2
    clear c2
    refine (begins_f _ _ _ C2.out).mono ?_
    rintro e w1 ⟨rfl, rfl⟩
    go_wp2_with fail
    refine (SZH.out _ (by omega)).mono ?_
    rintro e w1 ⟨rfl, rfl⟩
    by_cases c3 : n = 0
    · have hd : dcOf s.data.toList = ([], 0, false, 160) := HR.out.trans (dc3 C1.out C2.out (HN.out.trans c3))
      have HD := Lib.hid hd
      clear hd
      subst c3
      go_wp2_with fail
      refine bodyPost_ret (results_tmp4' rfl _ _ _) rfl ?_
      rw [HD.out]
      exact ⟨rfl, rfl⟩
    have C3 := Lib.hid (show (szOf rest.data.toList).2 ≠ 0 by rw [HN.out]; exact c3)
    have hn0 : ((n : Int) == 0) = false := by apply beq_false_of_ne; omega
    clear c3
    by_cases c4 : n = rest.size
    · have hd : dcOf s.data.toList = ([], 0, false, 0) := HR.out.trans (dc4a C3.out (by rw [HN.out]; exact List.drop_eq_nil_of_le (by rw [HLEN.out]; omega)))
      have HD := Lib.hid hd
      have hb4 : ((n : Int) == (rest.size : Int)) = true := by rw [beq_iff_eq]; omega
      clear hd c4
      go_wp2_with fail
      refine bodyPost_ret (results_tmp4' rfl _ _ _) rfl ?_
      rw [HD.out]
      exact ⟨rfl, rfl⟩
    have hb4 : ((n : Int) == (rest.size : Int)) = false := by apply beq_false_of_ne; omega
    have hnr2 : n < rest.size := by omega
    clear c4
    have hD1 : (rest.extract n rest.size).data.toList = rest.data.toList.drop n := by
      rw [ext_data]
      exact List.take_of_length_le (by simp)
    obtain ⟨r1, hr1⟩ : ∃ r, rest.extract n rest.size = r := ⟨_, rfl⟩
    rw [hr1] at hD1
    by_cases c4 : r1.data.toList = [13]
    · have hd : dcOf s.data.toList = ([], 0, false, 0) := HR.out.trans (dc4b C3.out (by rw [HN.out, ← hD1]; exact c4))
      have HD := Lib.hid hd
      have hb5 : ((rest.extract n rest.size).toList == [13]) = true := by rw [hr1, Lib.toList_data, c4]; rfl
      clear hd c4 hD1 hr1
      go_wp2_with fail
      refine bodyPost_ret (results_tmp4' rfl _ _ _) rfl ?_
      rw [HD.out]
      exact ⟨rfl, rfl⟩
    have hb5 : ((rest.extract n rest.size).toList == [13]) = false := by rw [hr1, Lib.toList_data, eqb_list]; exact decide_eq_false c4
    have C4 := Lib.hid c4
    have HD1 := Lib.hid hD1
    have HR1 := Lib.hid hr1
    clear c4 hD1 hr1
    go_wp2_with fail
    rw [HR1.out]
    by_cases c5 : ([13, 10] : List UInt8) <+: r1.data.toList
    rotate_left
    · have hd : dcOf s.data.toList = ([], 0, false, 160) := HR.out.trans (dc5 C3.out (by rw [HN.out]; intro e; have := congrArg List.length e; rw [List.length_drop, HLEN.out] at this; simp at this; omega) (by rw [HN.out, ← HD1.out]; exact C4.out) (by rw [HN.out, ← HD1.out]; exact c5))
      have HD := Lib.hid hd
      have C5 := Lib.hid c5
      clear hd c5
      refine (begins_f _ _ _ C5.out).mono ?_
      rintro e w1 ⟨rfl, rfl⟩
      go_wp2_with fail
      refine bodyPost_ret (results_tmp4' rfl _ _ _) rfl ?_
      rw [HD.out]
      exact ⟨rfl, rfl⟩
    have C5' := Lib.hid c5
    have C5 := Lib.hid (show ([13, 10] : List UInt8) <+: rest.data.toList.drop (szOf rest.data.toList).2 by rw [HN.out, ← HD1.out]; exact c5)
    have hn2 : n + 2 ≤ rest.size := by
      have := c5.length_le
      rw [HD1.out, List.length_drop, HLEN.out] at this
      simp at this
      omega
    clear c5
    refine (begins_t _ _ _ C5'.out).mono ?_
    rintro e w1 ⟨rfl, rfl⟩
    have e1 : IntKind.i64.wrap ((body.length : Int) + v) = (body.length : Int) + v := IntWalk.i64_in _ (by omega)
    have e2 : IntKind.i64.wrap ((n : Int) + 2) = (n : Int) + 2 := IntWalk.i64_in _ (by omega)
    have e3 : ((n : Int) + 2).toNat = n + 2 := by omega
    by_cases c6 : 8192 < body.length + v
    · have hd : dcOf s.data.toList = ([], 0, false, 4) := HR.out.trans (dc6 C3.out C5.out (by rw [HV.out]; exact c6))
      have HD := Lib.hid hd
      have hb6 : (8192 : Int) < (body.length : Int) + v := by omega
      clear hd c6
      go_wp2_with fail
      refine bodyPost_ret (results_tmp4' rfl _ _ _) rfl ?_
      rw [HD.out]
      exact ⟨rfl, rfl⟩
    have hb6 : ¬ (8192 : Int) < (body.length : Int) + v := by omega
    have C6 := Lib.hid (show ¬ 8192 < body.length + (szOf rest.data.toList).1 by rw [HV.out]; exact c6)
    clear c6
    have hdl : (rest.data.toList.drop (n + 2)).length = rest.size - (n + 2) := by rw [List.length_drop, HLEN.out]
    by_cases c7 : v + (n + 2) < rest.size
    rotate_left
    · have hd : dcOf s.data.toList = ([], 0, false, 0) := HR.out.trans (dc7a C3.out C5.out C6.out (by rw [HV.out, HN.out, hdl]; omega))
      have HD := Lib.hid hd
      clear hd hdl
      go_wp2_with fail
      refine bodyPost_ret (results_tmp4' rfl _ _ _) rfl ?_
      rw [HD.out]
      exact ⟨rfl, rfl⟩
    have C7 := Lib.hid (show ¬ (rest.data.toList.drop ((szOf rest.data.toList).2 + 2)).length ≤ (szOf rest.data.toList).1 by rw [HV.out, HN.out, hdl]; omega)
    have hD2 : ((rest.extract (n + 2) rest.size).extract v (rest.size - (n + 2))).data.toList = (rest.data.toList.drop (n + 2)).drop v := by
      rw [ext_data, ext_data, List.take_of_length_le (i := rest.size - (n + 2)) (by rw [hdl]; exact Nat.le_refl _)]
      exact List.take_of_length_le (by rw [List.length_drop, hdl]; exact Nat.le_refl _)
    have HDL := Lib.hid hdl
    obtain ⟨r2, hr2⟩ : ∃ r, (rest.extract (n + 2) rest.size).extract v (rest.size - (n + 2)) = r := ⟨_, rfl⟩
    rw [hr2] at hD2
    have HR2 := Lib.hid hr2
    have HD2 := Lib.hid hD2
    have hv7 : v ≤ rest.size - (n + 2) := by omega
    have e4 : IntKind.i64.wrap ((v : Int) + 2) = (v : Int) + 2 := IntWalk.i64_in _ (by omega)
    clear hr2 hD2 hdl
    go_wp2_with fail
    rw [HR2.out]
    have hl2 : ((rest.data.toList.drop (n + 2)).drop v).length = rest.size - (n + 2) - v := by rw [List.length_drop, HDL.out]
    by_cases c8 : r2.data.toList <+: ([13, 10] : List UInt8)
    · have C8 := Lib.hid c8
      refine (begins_t _ _ _ C8.out).mono ?_
      rintro e w1 ⟨rfl, rfl⟩
      by_cases c9 : rest.size - (n + 2) < v + 2
      · have hd : dcOf s.data.toList = ([], 0, false, 0) := HR.out.trans (dc7b C3.out C5.out C6.out C7.out (by rw [HV.out, HN.out, ← HD2.out]; exact c8) (by rw [HV.out, HN.out, HDL.out]; exact c9))
        have HD := Lib.hid hd
        clear hd c8 hl2
        go_wp2_with fail
        refine bodyPost_ret (results_tmp4' rfl _ _ _) rfl ?_
        rw [HD.out]
        exact ⟨rfl, rfl⟩
      · have W := Lib.hid (show ¬ (r2.data.toList <+: ([13, 10] : List UInt8) ∧ rest.size - (n + 2) < v + 2) from fun h => c9 h.2)
        clear c8 hl2
        go_wp2_with fail
        rw [HR2.out]
        by_cases c10 : ([13, 10] : List UInt8) <+: r2.data.toList
        rotate_left
        · have hd : dcOf s.data.toList = ([], 0, false, 160) := HR.out.trans (dc8 C3.out C5.out C6.out C7.out (by rw [HV.out, HN.out, ← HD2.out, HDL.out]; exact W.out) (by rw [HV.out, HN.out, ← HD2.out]; exact c10))
          have HD := Lib.hid hd
          have C10 := Lib.hid c10
          clear hd c10
          refine (begins_f _ _ _ C10.out).mono ?_
          rintro e w1 ⟨rfl, rfl⟩
          go_wp2_with fail
          refine bodyPost_ret (results_tmp4' rfl _ _ _) rfl ?_
          rw [HD.out]
          exact ⟨rfl, rfl⟩
        have hrun := HR.out.trans (congrArg CR.tell (dc9 (sz := sz) (mn := mn) (k := k) C3.out C5.out C6.out C7.out (by rw [HV.out, HN.out, ← HD2.out]; exact c10)))
        rw [HV.out, HN.out, List.drop_drop, show rest.data.toList.drop (n + 2 + (v + 2)) = s.data.toList.drop (k + n + 2 + v + 2) by rw [HL.out, List.drop_drop]; congr 1; omega] at hrun
        have hlen2 : v + (n + 2) + 2 ≤ rest.size := by
          have := c10.length_le
          rw [HD2.out, List.length_drop, HDL.out] at this
          simp at this
          omega
        have hks : k + n + 2 + v + 2 ≤ s.size := by have := HS.out; omega
        have hbs : (⟨body.toArray⟩ ++ (rest.extract (n + 2) rest.size).extract 0 v : ByteArray) = ⟨(body ++ (rest.data.toList.drop (n + 2)).take v).toArray⟩ := by
          apply str_ext
          rw [app_data, ext_data, ext_data, List.drop_zero, List.take_of_length_le (i := rest.size - (n + 2)) (by rw [HDL.out]; exact Nat.le_refl _)]
          rfl
        have HBS := Lib.hid hbs
        clear hbs
        have f1 : IntKind.i64.wrap ((k : Int) + n) = (k : Int) + n := IntWalk.i64_in _ (by omega)
        have f2 : IntKind.i64.wrap ((k : Int) + n + 2) = (k : Int) + n + 2 := IntWalk.i64_in _ (by omega)
        have f3 : IntKind.i64.wrap ((k : Int) + n + 2 + v) = (k : Int) + n + 2 + v := IntWalk.i64_in _ (by omega)
        have f4 : IntKind.i64.wrap ((k : Int) + n + 2 + v + 2) = (k : Int) + n + 2 + v + 2 := IntWalk.i64_in _ (by omega)
        have C10 := Lib.hid c10
        have HRUN := Lib.hid hrun
        clear c10 hrun
        refine (begins_t _ _ _ C10.out).mono ?_
        rintro e w1 ⟨rfl, rfl⟩
        go_wp2_with fail
        go_round
        case rel => exact ⟨body ++ (rest.data.toList.drop (n + 2)).take v, k + n + 2 + v + 2, 0, n, hks, (by rw [List.length_append]; have := List.length_take_le v (rest.data.toList.drop (n + 2)); omega), (by rw [HBS.out]), (by go_num), HRUN.out⟩
        case measure => simp [intOf]; omega
    · have W := Lib.hid (show ¬ (r2.data.toList <+: ([13, 10] : List UInt8) ∧ rest.size - (n + 2) < v + 2) from fun h => c8 h.1)
      have C8 := Lib.hid c8
      clear c8 hl2
      refine (begins_f _ _ _ C8.out).mono ?_
      rintro e w1 ⟨rfl, rfl⟩
      go_wp2_with fail
      rw [HR2.out]
      by_cases c10 : ([13, 10] : List UInt8) <+: r2.data.toList
      rotate_left
      · have hd : dcOf s.data.toList = ([], 0, false, 160) := HR.out.trans (dc8 C3.out C5.out C6.out C7.out (by rw [HV.out, HN.out, ← HD2.out, HDL.out]; exact W.out) (by rw [HV.out, HN.out, ← HD2.out]; exact c10))
        have HD := Lib.hid hd
        have C10 := Lib.hid c10
        clear hd c10
        refine (begins_f _ _ _ C10.out).mono ?_
        rintro e w1 ⟨rfl, rfl⟩
        go_wp2_with fail
        refine bodyPost_ret (results_tmp4' rfl _ _ _) rfl ?_
        rw [HD.out]
        exact ⟨rfl, rfl⟩
      have hrun := HR.out.trans (congrArg CR.tell (dc9 (sz := sz) (mn := mn) (k := k) C3.out C5.out C6.out C7.out (by rw [HV.out, HN.out, ← HD2.out]; exact c10)))
      rw [HV.out, HN.out, List.drop_drop, show rest.data.toList.drop (n + 2 + (v + 2)) = s.data.toList.drop (k + n + 2 + v + 2) by rw [HL.out, List.drop_drop]; congr 1; omega] at hrun
      have hlen2 : v + (n + 2) + 2 ≤ rest.size := by
        have := c10.length_le
        rw [HD2.out, List.length_drop, HDL.out] at this
        simp at this
        omega
      have hks : k + n + 2 + v + 2 ≤ s.size := by have := HS.out; omega
      have hbs : (⟨body.toArray⟩ ++ (rest.extract (n + 2) rest.size).extract 0 v : ByteArray) = ⟨(body ++ (rest.data.toList.drop (n + 2)).take v).toArray⟩ := by
        apply str_ext
        rw [app_data, ext_data, ext_data, List.drop_zero, List.take_of_length_le (i := rest.size - (n + 2)) (by rw [HDL.out]; exact Nat.le_refl _)]
        rfl
      have HBS := Lib.hid hbs
      clear hbs
      have f1 : IntKind.i64.wrap ((k : Int) + n) = (k : Int) + n := IntWalk.i64_in _ (by omega)
      have f2 : IntKind.i64.wrap ((k : Int) + n + 2) = (k : Int) + n + 2 := IntWalk.i64_in _ (by omega)
      have f3 : IntKind.i64.wrap ((k : Int) + n + 2 + v) = (k : Int) + n + 2 + v := IntWalk.i64_in _ (by omega)
      have f4 : IntKind.i64.wrap ((k : Int) + n + 2 + v + 2) = (k : Int) + n + 2 + v + 2 := IntWalk.i64_in _ (by omega)
      have C10 := Lib.hid c10
      have HRUN := Lib.hid hrun
      clear c10 hrun
      refine (begins_t _ _ _ C10.out).mono ?_
      rintro e w1 ⟨rfl, rfl⟩
      go_wp2_with fail
      go_round
      case rel => exact ⟨body ++ (rest.data.toList.drop (n + 2)).take v, k + n + 2 + v + 2, 0, n, hks, (by rw [List.length_append]; have := List.length_take_le v (rest.data.toList.drop (n + 2)); omega), (by rw [HBS.out]), (by go_num), HRUN.out⟩
      case measure => simp [intOf]; omega
end Go.Proofs.YtcmbmbkglglljaaDoor
