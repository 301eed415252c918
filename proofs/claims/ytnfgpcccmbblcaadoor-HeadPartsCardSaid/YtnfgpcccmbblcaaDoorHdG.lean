/- Find and One, the program's and the document's: walks. PRINTED BY PROGRAM (gen_hdg.py). -/
import Derived.Test.YtnfgpcccmbblcaaDoorHdC
import Derived.Test.YtnfgpcccmbblcaaDoorAsUa
namespace Go.Proofs.YtnfgpcccmbblcaaDoor
open Go.RowKit

/-- The values of a name. -/
def fndV : List Pr → List UInt8 → List (List UInt8)
  | [], _ => []
  | p :: ps, n => if decide (lowL p.1 = lowL n) = true then p.2 :: fndV ps n else fndV ps n
theorem fndV_snoc (ps : List Pr) (p : Pr) (n : List UInt8) : fndV (ps ++ [p]) n = if decide (lowL p.1 = lowL n) = true then fndV ps n ++ [p.2] else fndV ps n := by
  induction ps with
  | nil =>
    simp only [List.nil_append, fndV]
  | cons q ps ih =>
    simp only [List.cons_append, fndV, ih]
    split <;> split <;> rfl
theorem fndV_len (ps : List Pr) (n : List UInt8) : (fndV ps n).length ≤ ps.length := by
  induction ps with
  | nil => exact Nat.le_refl _
  | cons q ps ih =>
    simp only [fndV]
    split
    · simpa using ih
    · simp
      omega
theorem vals_cell' {v : Value} {vs : List Value} {w : World} (h : IsVals v vs w) {k : Nat} (hk : k < vs.length) : ∃ b off cap, v = .slice (some ⟨b, off, none⟩) vs.length cap ∧ b < w.heap.size ∧ ∀ j (hj : j < vs.length), w.cell? ⟨b, off + j, none⟩ = some vs[j] := by
  obtain ⟨a, cap, rfl, _, hc⟩ := h
  rcases hc with rfl | ⟨b, off, rfl, h1, h2⟩
  · simp at hk
  · exact ⟨b, off, cap, rfl, h1, h2⟩
def FndIs (ps : List Pr) (n : List UInt8) (w : World) (e : Ending) (w' : World) : Prop := ∃ v, e = .returned v ∧ IsVals v (strV (fndV ps n)) w' ∧ Below w.heap.size w w'
theorem one_row (w : World) (a : Value) : IsRow 1 (.slice (some ⟨w.heap.size, 0, none⟩) 1 1) 1 [a] (w.alloc (.cells #[a] 9)) := by
  refine ⟨rfl, some ⟨w.heap.size, 0, none⟩, 1, rfl, (fun h => by cases h), .inr ⟨w.heap.size, 0, rfl, by simp, fun j hj => ?_⟩⟩
  rw [Nat.zero_add, World.cell?_alloc_new]
  match j, hj with
  | 0, _ => rfl
set_option maxHeartbeats 8000000 in
set_option maxRecDepth 100000 in
theorem hd_Find (v : Value) (ps : List Pr) (n : ByteArray) (w : World) (hv : IsPairs v ps w) (hl : ps.length ≤ 1000) (hz : ∀ p ∈ ps, p.1.length ≤ 1000000) (hn : n.size ≤ 1000000) : Calls Tryd.prog 29 #[v, .string n] w (FndIs ps n.data.toList w) := by
  obtain ⟨i0, hi, hz0, hz1, hz2⟩ := info_parts vinfo_str
  obtain ⟨a, ca, rfl⟩ := hv.form
  obtain ⟨m, hm⟩ : ∃ m, ps.length = m := ⟨_, rfl⟩
  have HV := Lib.hid hv
  have HN := Lib.hid hm
  have HZ := Lib.hid hz
  rw [hm] at HV hl ⊢
  have HW : Hid (IsPairs (.slice a m ca) ps w) := HV
  clear hv HV hm hz
  go_enter Tryd.func29, Tryd.ntmps29
  go_wp2_with fail
  go_loopw [4, 9] (fun x y wr => ∃ k : Nat, k ≤ m ∧ y = .int .i64 k ∧ wr.ownsRow w.heap.size 9 1 x (fndV (ps.take k) n.data.toList).length (strV (fndV (ps.take k) n.data.toList)) ∧ Below w.heap.size w wr) (fun _ y _ => m - (intOf y).toNat)
  case atStart => exact ⟨0, Nat.zero_le _, rfl, World.ownsRow_nil _ _ _ _, Below.refl _ _⟩
  case round =>
    obtain ⟨k, hk, rfl, hown, hB⟩ := hrel
    by_cases hlt : k < m
    · have hx : k < ps.length := by have := HN.out; omega
      obtain ⟨b1, o1, cap1, hs1, hb0, c1, c2⟩ := (HW.out.ret hB).cell hx
      have ha1 : a = some ⟨b1, o1, none⟩ := by injection hs1
      subst ha1
      have hzk := HZ.out ps[k] (List.getElem_mem hx)
      have htk := fndV_snoc (ps.take k) ps[k] n.data.toList
      rw [← List.take_succ_eq_append_getElem hx] at htk
      have hfl := fndV_len (ps.take k) n.data.toList
      rw [List.length_take] at hfl
      obtain ⟨P, hP⟩ : ∃ P, ps[k] = P := ⟨_, rfl⟩
      rw [hP] at c1 c2 hzk htk
      obtain ⟨p1, p2⟩ := P
      obtain ⟨X, hX⟩ : ∃ X : ByteArray, ⟨p1.toArray⟩ = X := ⟨_, rfl⟩
      obtain ⟨Y, hY⟩ : ∃ X : ByteArray, ⟨p2.toArray⟩ = X := ⟨_, rfl⟩
      have hXl : X.data.toList = p1 := by rw [← hX]
      have hYl : Y.data.toList = p2 := by rw [← hY]
      simp only [hX, hY] at c1 c2
      rw [← hXl] at htk
      have zX : X.size ≤ 1000000 := by rw [← size_toList, hXl]; exact hzk
      have S0 := fun w => as_Same X n w zX hn
      obtain ⟨q, hq⟩ : ∃ q, decide (lowL X.data.toList = lowL n.data.toList) = q := ⟨_, rfl⟩
      rw [hq] at S0 htk
      have SH := Lib.hid S0
      have HB := Lib.hid hB
      obtain ⟨fs, hfs⟩ : ∃ fs, fndV (ps.take k) n.data.toList = fs := ⟨_, rfl⟩
      rw [hfs] at hown htk hfl
      have HO := Lib.hid hown
      have g1 : (k : Int) < m := by omega
      have g2 : (0 : Int) ≤ (k : Int) := by omega
      clear S0 hq hP hX hXl zX hzk hs1 hB hx hfs hown
      cases q with
      | false =>
        rw [if_neg (by decide)] at htk
        have HT := Lib.hid htk
        clear htk hYl hY
        go_wp2_with fail
        refine (SH.out _).mono ?_
        rintro e w2 ⟨rfl, hb2⟩
        have q2 := (HB.out.alloc HB.out.size (.cells #[.string X, .string Y] 52)).trans (hb2.mono ((HB.out.alloc HB.out.size (.cells #[.string X, .string Y] 52)).size))
        have HO2 := Lib.hid (own_below (HO.out.alloc _) hb2)
        go_wp2_with fail
        go_roundw
        case rel => exact ⟨k + 1, by omega, by go_num, by rw [HT.out]; exact HO2.out, q2⟩
        case measure => simp [intOf]; omega
      | true =>
        rw [if_pos rfl] at htk
        have hsv := strV_snoc fs p2
        rw [hY] at hsv
        have HT := Lib.hid htk
        have HSV := Lib.hid hsv
        clear htk hYl hY hsv
        go_wp2_with fail
        refine (SH.out _).mono ?_
        rintro e w2 ⟨rfl, hb2⟩
        have q2 := (HB.out.alloc HB.out.size (.cells #[.string X, .string Y] 52)).trans (hb2.mono ((HB.out.alloc HB.out.size (.cells #[.string X, .string Y] 52)).size))
        have HO2 := Lib.hid (own_below (HO.out.alloc _) hb2)
        have d1 := (bcell hb2).1 wr.heap.size 1 (by simp)
        simp at d1
        clear hb2 c1 c2 SH
        go_wp2_with (at_builtin; refine Hid.out ?_)
        refine Lib.hid ?_
        have hsz := q2.size
        refine wpList_app_row rfl _ _ _ rfl w.heap.size 9 i0 _ 1 16 Tryd.underlying53 hi hz0 hz1 hz2 rfl (by omega) _ fs.length (strV fs) rfl (HO2.out.alloc _) (.slice (some ⟨w2.heap.size, 0, none⟩) 1 1) (by rfl) 1 [.string Y] (one_row w2 _) (by simp [Value.oneCell']) (by omega) (by omega) (by simp; omega) ?_
        intro v' w' hown' hgrow
        have q3 := (q2.alloc q2.size (.cells #[.string Y] 9)).grown hgrow (by simp; omega) (fun r hr => (HO2.out.lt r hr).1)
        have HO3 := Lib.hid hown'
        clear hown' hgrow
        go_wp2_with fail
        go_roundw
        case rel => exact ⟨k + 1, by omega, by go_num, by rw [HT.out, HSV.out, List.length_append]; exact HO3.out, q3⟩
        case measure => simp [intOf]; omega
    · have hfull : ps.take k = ps := List.take_of_length_le (by have := HN.out; omega)
      rw [hfull] at hown
      have HO := Lib.hid hown
      clear hown hfull
      go_wp2_with fail
      go_ret
      exact ⟨_, rfl, own_vals HO.out, hB⟩
set_option maxHeartbeats 8000000 in
set_option maxRecDepth 100000 in
theorem r14_Find (v : Value) (ps : List Pr) (n : ByteArray) (w : World) (hv : IsPairs v ps w) (hl : ps.length ≤ 1000) (hz : ∀ p ∈ ps, p.1.length ≤ 1000000) (hn : n.size ≤ 1000000) : Calls Tryd.prog 48 #[v, .string n] w (FndIs ps n.data.toList w) := by
  obtain ⟨i0, hi, hz0, hz1, hz2⟩ := info_parts vinfo_str
  obtain ⟨a, ca, rfl⟩ := hv.form
  obtain ⟨m, hm⟩ : ∃ m, ps.length = m := ⟨_, rfl⟩
  have HV := Lib.hid hv
  have HN := Lib.hid hm
  have HZ := Lib.hid hz
  rw [hm] at HV hl ⊢
  have HW : Hid (IsPairs (.slice a m ca) ps w) := HV
  clear hv HV hm hz
  go_enter Tryd.func48, Tryd.ntmps48
  go_wp2_with fail
  go_loopw [5, 6] (fun x y wr => ∃ k : Nat, k ≤ m ∧ y = .int .i64 k ∧ wr.ownsRow w.heap.size 9 1 x (fndV (ps.take k) n.data.toList).length (strV (fndV (ps.take k) n.data.toList)) ∧ Below w.heap.size w wr) (fun _ y _ => m - (intOf y).toNat)
  case atStart => exact ⟨0, Nat.zero_le _, rfl, World.ownsRow_nil _ _ _ _, Below.refl _ _⟩
  case round =>
    obtain ⟨k, hk, rfl, hown, hB⟩ := hrel
    by_cases hlt : k < m
    · have hx : k < ps.length := by have := HN.out; omega
      obtain ⟨b1, o1, cap1, hs1, hb0, c1, c2⟩ := (HW.out.ret hB).cell hx
      have ha1 : a = some ⟨b1, o1, none⟩ := by injection hs1
      subst ha1
      have hzk := HZ.out ps[k] (List.getElem_mem hx)
      have htk := fndV_snoc (ps.take k) ps[k] n.data.toList
      rw [← List.take_succ_eq_append_getElem hx] at htk
      have hfl := fndV_len (ps.take k) n.data.toList
      rw [List.length_take] at hfl
      obtain ⟨P, hP⟩ : ∃ P, ps[k] = P := ⟨_, rfl⟩
      rw [hP] at c1 c2 hzk htk
      obtain ⟨p1, p2⟩ := P
      obtain ⟨X, hX⟩ : ∃ X : ByteArray, ⟨p1.toArray⟩ = X := ⟨_, rfl⟩
      obtain ⟨Y, hY⟩ : ∃ X : ByteArray, ⟨p2.toArray⟩ = X := ⟨_, rfl⟩
      have hXl : X.data.toList = p1 := by rw [← hX]
      have hYl : Y.data.toList = p2 := by rw [← hY]
      simp only [hX, hY] at c1 c2
      rw [← hXl] at htk
      have zX : X.size ≤ 1000000 := by rw [← size_toList, hXl]; exact hzk
      have S0 := fun w => r7_Same X n w zX hn
      obtain ⟨q, hq⟩ : ∃ q, decide (lowL X.data.toList = lowL n.data.toList) = q := ⟨_, rfl⟩
      rw [hq] at S0 htk
      have SH := Lib.hid S0
      have HB := Lib.hid hB
      obtain ⟨fs, hfs⟩ : ∃ fs, fndV (ps.take k) n.data.toList = fs := ⟨_, rfl⟩
      rw [hfs] at hown htk hfl
      have HO := Lib.hid hown
      have g1 : (k : Int) < m := by omega
      have g2 : (0 : Int) ≤ (k : Int) := by omega
      clear S0 hq hP hX hXl zX hzk hs1 hB hx hfs hown
      cases q with
      | false =>
        rw [if_neg (by decide)] at htk
        have HT := Lib.hid htk
        clear htk hYl hY
        go_wp2_with fail
        refine (SH.out _).mono ?_
        rintro e w2 ⟨rfl, hb2⟩
        have q2 := HB.out.trans (hb2.mono (HB.out.size))
        have HO2 := Lib.hid (own_below HO.out hb2)
        go_wp2_with fail
        go_roundw
        case rel => exact ⟨k + 1, by omega, by go_num, by rw [HT.out]; exact HO2.out, q2⟩
        case measure => simp [intOf]; omega
      | true =>
        rw [if_pos rfl] at htk
        have hsv := strV_snoc fs p2
        rw [hY] at hsv
        have HT := Lib.hid htk
        have HSV := Lib.hid hsv
        clear htk hYl hY hsv
        go_wp2_with fail
        refine (SH.out _).mono ?_
        rintro e w2 ⟨rfl, hb2⟩
        have q2 := HB.out.trans (hb2.mono (HB.out.size))
        have HO2 := Lib.hid (own_below HO.out hb2)
        have d2 := ((bcell hb2).1 b1 (o1 + k * 2 + 1) hb0).trans c2
        clear hb2 c1 c2 SH
        go_wp2_with (at_builtin; refine Hid.out ?_)
        refine Lib.hid ?_
        have hsz := q2.size
        refine wpList_app_row rfl _ _ _ rfl w.heap.size 9 i0 _ 1 16 Tryd.underlying53 hi hz0 hz1 hz2 rfl (by omega) _ fs.length (strV fs) rfl (HO2.out.alloc _) (.slice (some ⟨w2.heap.size, 0, none⟩) 1 1) (by rfl) 1 [.string Y] (one_row w2 _) (by simp [Value.oneCell']) (by omega) (by omega) (by simp; omega) ?_
        intro v' w' hown' hgrow
        have q3 := (q2.alloc q2.size (.cells #[.string Y] 9)).grown hgrow (by simp; omega) (fun r hr => (HO2.out.lt r hr).1)
        have HO3 := Lib.hid hown'
        clear hown' hgrow
        go_wp2_with fail
        go_roundw
        case rel => exact ⟨k + 1, by omega, by go_num, by rw [HT.out, HSV.out, List.length_append]; exact HO3.out, q3⟩
        case measure => simp [intOf]; omega
    · have hfull : ps.take k = ps := List.take_of_length_le (by have := HN.out; omega)
      rw [hfull] at hown
      have HO := Lib.hid hown
      clear hown hfull
      go_wp2_with fail
      go_ret
      exact ⟨_, rfl, own_vals HO.out, hB⟩
/-- What One answers. -/
def oneX (xs : List (List UInt8)) : List UInt8 × Bool × Int := match xs with | [] => ([], false, 0) | [x] => (x, true, 0) | _ => ([], false, 140)
def OneIs (ps : List Pr) (n : List UInt8) (w : World) : Ending → World → Prop := Ret w (.tuple #[.string ⟨(oneX (fndV ps n)).1.toArray⟩, .bool (oneX (fndV ps n)).2.1, .int .i64 (oneX (fndV ps n)).2.2])
set_option maxHeartbeats 4000000 in
theorem hd_One (v : Value) (ps : List Pr) (n : ByteArray) (w : World) (hv : IsPairs v ps w) (hl : ps.length ≤ 1000) (hz : ∀ p ∈ ps, p.1.length ≤ 1000000) (hn : n.size ≤ 1000000) : Calls Tryd.prog 43 #[v, .string n] w (OneIs ps n.data.toList w) := by
  have FH := Lib.hid (hd_Find v ps n w hv hl hz hn)
  have hfl := fndV_len ps n.data.toList
  unfold OneIs
  obtain ⟨xs, hxs⟩ : ∃ xs, fndV ps n.data.toList = xs := ⟨_, rfl⟩
  unfold FndIs at FH
  rw [hxs] at FH hfl ⊢
  have zx : xs.length ≤ 1000 := by omega
  clear hv hl hz hxs hfl
  match xs, zx with
  | [], _ =>
    go_enter Tryd.func43, Tryd.ntmps43
    go_wp2_with fail
    refine (FH.out).mono ?_
    rintro e w1 ⟨u, rfl, ⟨a, cap, rfl, _, _⟩, hb1⟩
    rw [show (strV []).length = 0 from rfl]
    go_wp2_with fail
    go_ret3
    exact ⟨rfl, hb1⟩
  | [x], _ =>
    obtain ⟨X, hX⟩ : ∃ X : ByteArray, ⟨x.toArray⟩ = X := ⟨_, rfl⟩
    have HX := Lib.hid hX
    go_enter Tryd.func43, Tryd.ntmps43
    go_wp2_with fail
    refine (FH.out).mono ?_
    rintro e w1 ⟨u, rfl, iv, hb1⟩
    obtain ⟨b, off, cap, rfl, _, hc⟩ := vals_cell' iv (k := 0) (by simp [strV])
    have c0 := hc 0 (by simp [strV])
    rw [show (strV [x]).length = 1 from rfl]
    rw [show (strV [x])[0]'(by simp [strV]) = .string X by rw [← hX]; rfl] at c0
    rw [Nat.add_zero] at c0
    clear hX iv hc
    go_wp2_with fail
    go_ret3
    refine ⟨?_, hb1⟩
    show _ = Ending.returned (.tuple #[.string ⟨x.toArray⟩, .bool true, .int .i64 0])
    rw [HX.out]
    rfl
  | x :: y :: r, zx =>
    obtain ⟨m, hm⟩ : ∃ m, r.length + 2 = m := ⟨_, rfl⟩
    have hm2 : (strV (x :: y :: r)).length = m := by rw [strV_len, ← hm]; rfl
    have HM := Lib.hid hm2
    have g1 : (2 : Int) ≤ m := by omega
    have g0 : m ≤ 1000 := by simp at zx; omega
    have e0 : ((m : Int) == 0) = false := by rw [beq_eq_false_iff_ne]; omega
    have e1 : ((m : Int) == 1) = false := by rw [beq_eq_false_iff_ne]; omega
    have e2 : (1 : Int) < m := by omega
    clear hm hm2 zx
    go_enter Tryd.func43, Tryd.ntmps43
    go_wp2_with fail
    refine (FH.out).mono ?_
    rintro e w1 ⟨u, rfl, ⟨a, cap, rfl, _, _⟩, hb1⟩
    rw [HM.out]
    go_wp2_with fail
    go_ret3
    exact ⟨rfl, hb1⟩
set_option maxHeartbeats 4000000 in
theorem r14_One (v : Value) (ps : List Pr) (n : ByteArray) (w : World) (hv : IsPairs v ps w) (hl : ps.length ≤ 1000) (hz : ∀ p ∈ ps, p.1.length ≤ 1000000) (hn : n.size ≤ 1000000) : Calls Tryd.prog 44 #[v, .string n] w (OneIs ps n.data.toList w) := by
  have FH := Lib.hid (r14_Find v ps n w hv hl hz hn)
  have hfl := fndV_len ps n.data.toList
  unfold OneIs
  obtain ⟨xs, hxs⟩ : ∃ xs, fndV ps n.data.toList = xs := ⟨_, rfl⟩
  unfold FndIs at FH
  rw [hxs] at FH hfl ⊢
  have zx : xs.length ≤ 1000 := by omega
  clear hv hl hz hxs hfl
  match xs, zx with
  | [], _ =>
    go_enter Tryd.func44, Tryd.ntmps44
    go_wp2_with fail
    refine (FH.out).mono ?_
    rintro e w1 ⟨u, rfl, ⟨a, cap, rfl, _, _⟩, hb1⟩
    rw [show (strV []).length = 0 from rfl]
    go_wp2_with fail
    go_ret3
    exact ⟨rfl, hb1⟩
  | [x], _ =>
    obtain ⟨X, hX⟩ : ∃ X : ByteArray, ⟨x.toArray⟩ = X := ⟨_, rfl⟩
    have HX := Lib.hid hX
    go_enter Tryd.func44, Tryd.ntmps44
    go_wp2_with fail
    refine (FH.out).mono ?_
    rintro e w1 ⟨u, rfl, iv, hb1⟩
    obtain ⟨b, off, cap, rfl, _, hc⟩ := vals_cell' iv (k := 0) (by simp [strV])
    have c0 := hc 0 (by simp [strV])
    rw [show (strV [x]).length = 1 from rfl]
    rw [show (strV [x])[0]'(by simp [strV]) = .string X by rw [← hX]; rfl] at c0
    rw [Nat.add_zero] at c0
    clear hX iv hc
    go_wp2_with fail
    go_ret3
    refine ⟨?_, hb1⟩
    show _ = Ending.returned (.tuple #[.string ⟨x.toArray⟩, .bool true, .int .i64 0])
    rw [HX.out]
    rfl
  | x :: y :: r, zx =>
    obtain ⟨m, hm⟩ : ∃ m, r.length + 2 = m := ⟨_, rfl⟩
    have hm2 : (strV (x :: y :: r)).length = m := by rw [strV_len, ← hm]; rfl
    have HM := Lib.hid hm2
    have g1 : (2 : Int) ≤ m := by omega
    have g0 : m ≤ 1000 := by simp at zx; omega
    have e0 : ((m : Int) == 0) = false := by rw [beq_eq_false_iff_ne]; omega
    have e1 : ((m : Int) == 1) = false := by rw [beq_eq_false_iff_ne]; omega
    have e2 : (1 : Int) < m := by omega
    clear hm hm2 zx
    go_enter Tryd.func44, Tryd.ntmps44
    go_wp2_with fail
    refine (FH.out).mono ?_
    rintro e w1 ⟨u, rfl, ⟨a, cap, rfl, _, _⟩, hb1⟩
    rw [HM.out]
    go_wp2_with fail
    go_ret3
    exact ⟨rfl, hb1⟩
end Go.Proofs.YtnfgpcccmbblcaaDoor
