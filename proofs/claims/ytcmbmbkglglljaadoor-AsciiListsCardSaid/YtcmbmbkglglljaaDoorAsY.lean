/- AsciiLists where both are lists: the walk. -/
import Derived.Test.YtcmbmbkglglljaaDoorAsX
import Derived.Test.YtcmbmbkglglljaaDoorRws
import Derived.Deep.RegionHeld3
namespace Go.Proofs.YtcmbmbkglglljaaDoor
open Go.RowKit

/-- The text that AsciiLists puts together. -/
def joiS (xs : List (List UInt8)) : ByteArray := ⟨([32, 44] ++ joi xs).toArray⟩
theorem joiS_list (xs : List (List UInt8)) : (joiS xs).data.toList = [32, 44] ++ joi xs := rfl
theorem joiS_size (xs : List (List UInt8)) (h : ∀ x ∈ xs, x.length ≤ 1000) (hn : xs.length ≤ 16) : (joiS xs).size ≤ 17000 := by
  have h1 := joi_len xs 1000 h
  have h2 : xs.length * (1000 + 4) ≤ 16 * 1004 := Nat.mul_le_mul_right _ hn
  rw [← size_toList, joiS_list, List.length_append]
  simp only [List.length_cons, List.length_nil]
  omega
theorem joiS_snoc (xs : List (List UInt8)) (X : ByteArray) (x : List UInt8) (hX : X.data.toList = x) : ((joiS xs ++ ⟨#[9]⟩) ++ X) ++ ⟨#[32, 44, 32]⟩ = joiS (xs ++ [x]) := by
  apply str_ext
  rw [app_data, app_data, app_data, joiS_list, joiS_list, joi_snoc, hX]
  simp
set_option maxHeartbeats 16000000 in
set_option maxRecDepth 100000 in
theorem lists07_good (a b : ByteArray) (w : World) (ha : a.size ≤ 1000) (hb : b.size ≤ 1000) (hEa : lstE a.data.toList = 0) (hEb : lstE b.data.toList = 0) : Calls Tryd.prog 7 #[.string a, .string b] w (Ret w (.bool true)) := by
  have AL := Lib.hid alive07
  have g1 : ¬ (1000 : Int) < a.size := by omega
  have g2 : ¬ (1000 : Int) < b.size := by omega
  have g3 : decide ((1000 : Int) < a.size) = false := decide_eq_false (by omega)
  have g4 : decide ((1000 : Int) < b.size) = false := decide_eq_false (by omega)
  obtain ⟨hx16, hxt, hVa⟩ := lst_ok hEa
  obtain ⟨hy16, hyt, hVb⟩ := lst_ok hEb
  have hxb : ∀ x ∈ lstP a.data.toList, x.length ≤ 1000 := fun x hx => by have := lstP_bound hx; rw [size_toList] at this; omega
  have hyb : ∀ x ∈ lstP b.data.toList, x.length ≤ 1000 := fun x hx => by have := lstP_bound hx; rw [size_toList] at this; omega
  have happ := lstP_app a.data.toList b.data.toList
  obtain ⟨xs, hxs⟩ : ∃ x, lstP a.data.toList = x := ⟨_, rfl⟩
  obtain ⟨ys, hys⟩ : ∃ x, lstP b.data.toList = x := ⟨_, rfl⟩
  rw [hxs] at hx16 hxt hVa hxb happ
  rw [hys] at hy16 hyt hVb hyb happ
  have C1 := Lib.hid fun w => list_at a 0 xs w (by omega) hEa hVa
  have C2 := Lib.hid fun w => list_at b 0 ys w (by omega) hEb hVb
  have HXT := Lib.hid hxt
  have HXB := Lib.hid hxb
  have HYT := Lib.hid hyt
  have HYB := Lib.hid hyb
  have HAPP := Lib.hid happ
  obtain ⟨n, hn⟩ : ∃ n, xs.length = n := ⟨_, rfl⟩
  obtain ⟨m, hm⟩ : ∃ m, ys.length = m := ⟨_, rfl⟩
  have HN := Lib.hid hn
  have HM := Lib.hid hm
  rw [hn] at hx16
  rw [hm] at hy16
  clear hEa hEb hVa hVb hxs hys hxt hyt hxb hyb happ ha hb hn hm
  go_enter Tryd.func7, Tryd.ntmps7
  go_wp2_with fail
  refine (AL.out _).mono ?_
  rintro e w1 ⟨rfl, hb1⟩
  go_wp2_with fail
  refine (C1.out _).mono ?_
  rintro e w2 ⟨va, rfl, iva, hb2⟩
  have q2 := ret_thru hb1 hb2
  obtain ⟨pa, ca, rfl, hpa, hca⟩ := iva
  have IA0 : Hid (IsVals (.slice pa n ca) (strV xs) w2) := Lib.hid ⟨pa, ca, by rw [strV_len, HN.out], hpa, hca⟩
  rw [strV_len, HN.out]
  clear hpa hca
  go_wp2_with fail
  refine (C2.out _).mono ?_
  rintro e w3 ⟨vb, rfl, ivb, hb3⟩
  have q3 := ret_thru q2 hb3
  obtain ⟨pb, cb, rfl, hpb, hcb⟩ := ivb
  have IB : Hid (IsVals (.slice pb m cb) (strV ys) w3) := Lib.hid ⟨pb, cb, by rw [strV_len, HM.out], hpb, hcb⟩
  rw [strV_len, HM.out]
  have IA := Lib.hid (IA0.out.ret hb3)
  clear hpb hcb IA0 hb1 hb2 hb3 q2
  go_wp2_with fail
  go_loopw [10, 11] (fun v i wr => ∃ k : Nat, k ≤ n ∧ i = .int .i64 k ∧ v = .string (joiS (xs.take k)) ∧ Below w3.heap.size w3 wr) (fun _ i _ => n - (intOf i).toNat)
  case atStart => exact ⟨0, Nat.zero_le _, rfl, rfl, Below.refl _ _⟩
  case round =>
    obtain ⟨k, hk, rfl, rfl, hBw⟩ := hrel
    by_cases hlt : k < n
    · have hx : k < xs.length := by have := HN.out; omega
      obtain ⟨a1, cap1, hsl, _, hce⟩ := IA.out
      have ha1 : pa = a1 := by injection hsl
      rcases hce with h | ⟨b1, o1, hab, h1⟩
      · have := congrArg List.length h
        rw [strV_len] at this
        simp only [List.length_nil] at this
        omega
      obtain rfl : pa = some ⟨b1, o1, none⟩ := ha1.trans hab
      have hR := h1.ret hBw
      have c1 := hR.2 k (by rw [strV_len]; exact hx)
      have hl1 := hR.1
      obtain ⟨x, hxx⟩ : ∃ x, xs[k] = x := ⟨_, rfl⟩
      obtain ⟨X, hX⟩ : ∃ X : ByteArray, ⟨x.toArray⟩ = X := ⟨_, rfl⟩
      rw [show (strV xs)[k]'(by rw [strV_len]; exact hx) = .string X by rw [← hX, ← hxx]; simp [strV]] at c1
      have hXl : X.data.toList = x := by rw [← hX]
      have hmem : x ∈ xs := by rw [← hxx]; exact List.getElem_mem hx
      obtain ⟨t1, t2⟩ := HXT.out x hmem
      have t3 := HXB.out x hmem
      have hXs : X.size ≤ 1000 := by rw [← size_toList, hXl]; exact t3
      have hz : (joiS (xs.take k)).size ≤ 17000 := joiS_size _ (fun y hy => HXB.out y (List.mem_of_mem_take hy)) (by rw [List.length_take]; omega)
      have hsn := joiS_snoc (xs.take k) X x hXl
      rw [show xs.take k ++ [x] = xs.take (k + 1) by rw [List.take_succ_eq_append_getElem hx, hxx]] at hsn
      have TH := Lib.hid fun w => token_at X true w (by omega) (by rw [hXl]; exact t1)
      have LH := Lib.hid fun w => lower_at X X w (by omega) (by rw [hXl]; exact t2)
      obtain ⟨Z, hZ⟩ : ∃ Z, joiS (xs.take k) = Z := ⟨_, rfl⟩
      rw [hZ] at hz hsn ⊢
      have HSN := Lib.hid hsn
      have HBW := Lib.hid hBw
      clear hsl ha1 hab h1 hR hxx hX hXl hmem t1 t2 t3 hsn hZ hx hBw
      go_wp2_with fail
      go_region_held3 (fun w' => w'.cell? ⟨b1, o1 + k, none⟩ = some (.string X)) (first | exact c1 | exact c5 | exact c6 | (simp (maxDischargeDepth := 9) [go_sem, *]))
        (first
          | (go_at_call 22; refine (TH.out _).mono ?_; rintro e w5 ⟨rfl, hb5⟩; have hl0 : b1 < w5.heap.size := (by have := hb5.size; simp at this; omega); have c5 : w5.cell? ⟨b1, o1 + k, none⟩ = some (.string X) := ((bcell hb5).1 _ _ (by first | exact hl1 | (simp; omega))).trans (by first | exact c1 | (simp [*])))
          | (go_at_call 23; refine (LH.out _).mono ?_; rintro e w6 ⟨rfl, hb6⟩; have c6 : w6.cell? ⟨b1, o1 + k, none⟩ = some (.string X) := ((bcell hb6).1 _ _ (by first | exact hl0 | (simp; omega))).trans (by first | exact c5 | (simp [*]))))
      have hs6 : w5.heap.size ≤ w6.heap.size := hb6.size
      have hB6 : Below w3.heap.size w3 w6 := by
        first
          | exact (HBW.out.trans (hb5.mono HBW.out.size)).trans (hb6.mono (Nat.le_trans HBW.out.size hb5.size))
          | exact (HBW.out.drew.trans (hb5.mono (by simpa using HBW.out.size))).trans (hb6.mono (Nat.le_trans HBW.out.size (by simpa using hb5.size)))
      have HB6 := Lib.hid hB6
      clear hB6 hb5 hb6 c1 c5 HBW
      go_wp2_with fail
      go_roundw
      case rel => exact ⟨k + 1, by omega, by go_num, by rw [← HSN.out], HB6.out⟩
      case measure => simp [intOf]; omega
    · obtain rfl : k = n := by omega
      have hfull : xs.take k = xs := List.take_of_length_le (by have := HN.out; omega)
      rw [hfull]
      have q4 := ret_thru q3 hBw
      have IA2 := Lib.hid (IA.out.ret hBw)
      have IB2 := Lib.hid (IB.out.ret hBw)
      have hz : (joiS xs).size ≤ 17000 := joiS_size xs HXB.out (by have := HN.out; omega)
      obtain ⟨l1, l2⟩ := lst_of (lstP_all xs HXT.out) (by have := HN.out; omega) (fun x hx => (HXT.out x hx).1)
      have L1 := Lib.hid fun v w (hv : IsVals v (strV xs) w) => lists07 (joiS xs) v xs true w (by omega) hv (by rw [joiS_list, l1, l2]; simp)
      have hlist : ((a ++ ⟨#[44]⟩) ++ b).data.toList = a.data.toList ++ 44 :: b.data.toList := by
        rw [app_data, app_data]
        simp
      have hP : lstP ((a ++ ⟨#[44]⟩) ++ b).data.toList = xs ++ ys := by rw [hlist]; exact HAPP.out
      have hsz : ((a ++ ⟨#[44]⟩) ++ b).size ≤ 1000000 := by
        rw [← size_toList, hlist, List.length_append, List.length_cons, size_toList, size_toList]
        omega
      have hnm : (xs ++ ys).length = k + m := by rw [List.length_append, HN.out, HM.out]
      obtain ⟨Z, hZ⟩ : ∃ Z, joiS xs = Z := ⟨_, rfl⟩
      rw [hZ] at L1 hz ⊢
      by_cases h16 : 16 < k + m
      · obtain ⟨f1, f2⟩ := lst_many (l := ((a ++ ⟨#[44]⟩) ++ b).data.toList) (by rw [hP, hnm]; exact h16)
        have C3 := Lib.hid fun w => list_at ((a ++ ⟨#[44]⟩) ++ b) 4 [] w hsz f1 f2
        have g5 : (16 : Int) < (k : Int) + m := by omega
        clear hlist hP hnm l1 l2 f1 f2 hZ hfull hBw hsz
        go_wp2_with fail
        refine (C3.out _).mono ?_
        rintro e w5 ⟨v3, rfl, _, hb5⟩
        have q5 := ret_thru q4 hb5
        have IA3 := Lib.hid (IA2.out.ret hb5)
        go_wp2_with fail
        refine (L1.out _ _ IA3.out).mono ?_
        rintro e w6 ⟨rfl, hb6⟩
        have q6 := ret_thru q5 hb6
        go_wp2_with fail
        go_ret
        exact ⟨ret_b (by first | rfl | simp), q6⟩
      · obtain ⟨f1, f2⟩ := lst_of hP (by rw [hnm]; omega) (fun x hx => by
          rcases List.mem_append.1 hx with h | h
          · exact (HXT.out x h).1
          · exact (HYT.out x h).1)
        have C3 := Lib.hid fun w => list_at ((a ++ ⟨#[44]⟩) ++ b) 0 (xs ++ ys) w hsz f1 f2
        have g5 : ¬ (16 : Int) < (k : Int) + m := by omega
        clear hlist hP l1 l2 f1 f2 hZ hfull hBw hsz
        go_wp2_with fail
        refine (C3.out _).mono ?_
        rintro e w5 ⟨v3, rfl, iv3, hb5⟩
        have q5 := ret_thru q4 hb5
        have IA3 := Lib.hid (IA2.out.ret hb5)
        have IB3 := Lib.hid (IB2.out.ret hb5)
        have I3 := Lib.hid iv3
        clear iv3 q4
        go_wp2_with fail
        refine (L1.out _ _ IA3.out).mono ?_
        rintro e w6 ⟨rfl, hb6⟩
        have q6 := ret_thru q5 hb6
        have IA4 := Lib.hid (IA3.out.ret hb6)
        have IB4 := Lib.hid (IB3.out.ret hb6)
        have I4 := Lib.hid (I3.out.ret hb6)
        clear q5 hb5 hb6 IA3 IB3 I3 IA2 IB2
        obtain ⟨i0, hi, hz0, hz1, hz2⟩ := info_parts vinfo_str
        have hown0 : (w6.alloc (.cells #[] 9)).ownsRow w6.heap.size 9 1 (.slice (some ⟨w6.heap.size, 0, none⟩) 0 0) 0 [] := World.ownsRow_made w6 #[] 0 (Nat.le_refl _) (by unfold maxLen; omega) rfl
        have hone : ∀ zs : List (List UInt8), ∀ u ∈ strV zs, u.oneCell' = true := fun zs u hu => by
          unfold strV at hu
          obtain ⟨y, _, rfl⟩ := List.mem_map.1 hu
          rfl
        have rA : IsRow 1 (.slice pa k ca) k (strV xs) (w6.alloc (.cells #[] 9)) := by
          have := IsRow.of_vals (IA4.out.ret ((Below.refl _ w6).alloc (Nat.le_refl _) (.cells #[] 9)))
          rwa [strV_len, HN.out] at this
        have RA := Lib.hid rA
        have OW := Lib.hid hown0
        have H1 := Lib.hid hone
        have B6 : Below w6.heap.size w6 (w6.alloc (.cells #[] 9)) := (Below.refl _ w6).alloc (Nat.le_refl _) _
        clear rA hown0 hone
        go_wp2_with (at_builtin; refine Hid.out ?_)
        refine Lib.hid ?_
        refine wpList_app_row_at (by rfl) (.tmp 131) (.tmp 132) _ (by rfl) w6.heap.size 9 i0 _ 1 16 Tryd.underlying40 hi hz0 hz1 hz2 rfl (by omega) (.slice (some ⟨w6.heap.size, 0, none⟩) 0 0) 0 [] (by rfl) OW.out (.slice pa k ca) (by rfl) k (strV xs) RA.out (H1.out xs) (by omega) (by omega) (by simp) ?_
        intro v7 w7 hown7 hg7
        have B7 := Lib.hid (B6.grown hg7 (by simp) (by intro r hr; simp [Value.ownBlock] at hr; omega))
        have OW7 := Lib.hid hown7
        clear hown7 hg7
        go_wp2_with (at_builtin; refine Hid.out ?_)
        refine Lib.hid ?_
        refine wpList_app_row_at (by rfl) (.tmp 133) (.tmp 134) _ (by rfl) w6.heap.size 9 i0 _ 1 16 Tryd.underlying40 hi hz0 hz1 hz2 rfl (by omega) v7 (0 + k) ([] ++ strV xs) (by rfl) OW7.out (.slice pb m cb) (by rfl) m (strV ys) (by have h := IsRow.of_vals (IB4.out.ret B7.out); rwa [strV_len, HM.out] at h) (H1.out ys) (by omega) (by omega) B7.out.size ?_
        intro v8 w8 hown8 hg8
        have B8 := B7.out.grown hg8 B7.out.size (fun r hr => (OW7.out.lt r hr).1)
        have I8 : IsVals v8 (strV (xs ++ ys)) w8 := by
          have h := own_vals hown8
          simpa [strV] using h
        have I5 := I4.out.ret B8
        have hnm8 : (xs ++ ys).length ≤ 1000000 := by rw [hnm]; omega
        have C8 := Lib.hid (r4_Same v3 v8 (xs ++ ys) (xs ++ ys) w8 I5 I8 hnm8)
        have q8 := ret_thru q6 B8
        clear hown8 hg8 I8 I5 hnm8
        go_wp2_with fail
        refine C8.out.mono ?_
        rintro e w9 ⟨rfl, hb9⟩
        go_wp2_with fail
        go_ret
        exact ⟨ret_b (by first | rfl | simp), ret_thru q8 hb9⟩
end Go.Proofs.YtcmbmbkglglljaaDoor
