/- tidewaiterref04.Same, and the document's List. -/
import Derived.Test.YtnfgpcccmbblcaaDoorAsD
namespace Go.Proofs.YtnfgpcccmbblcaaDoor
open Go.RowKit

theorem below_drewN (w : World) (n : Nat) : Below w.heap.size w (w.drewN n) := ⟨rfl, rfl, rfl, Nat.le_refl _, fun _ _ => rfl⟩
theorem beq_str (X Y : ByteArray) (x y : List UInt8) (hx : X.data.toList = x) (hy : Y.data.toList = y) : (X.toList == Y.toList) = decide (x = y) := by
  rw [Lib.toList_data, Lib.toList_data, hx, hy, eqb_list]
set_option maxHeartbeats 4000000 in
theorem r4_Same (va vb : Value) (xs ys : List (List UInt8)) (w : World) (ha : IsVals va (strV xs) w) (hb : IsVals vb (strV ys) w) (hl : xs.length ≤ 1000000) :
    Calls Tryd.prog 31 #[va, vb] w (Ret w (.bool (decide (xs = ys)))) := by
  obtain ⟨a, ca, rfl, _, ha⟩ := ha
  obtain ⟨b, cb, rfl, _, hb⟩ := hb
  rw [strV_len, strV_len]
  by_cases hlen : xs.length = ys.length
  rotate_left
  · have h1 : ((xs.length : Int) != (ys.length : Int)) = true := by rw [bne_iff_ne]; omega
    have h2 : (xs.length != ys.length) = true := by rw [bne_iff_ne]; exact hlen
    have hne : decide (xs = ys) = false := by rw [decide_eq_false_iff_not]; intro e; exact hlen (by rw [e])
    rw [hne]
    generalize xs.length = n at *
    generalize ys.length = m at *
    clear ha hb hne hlen
    go_enter Tryd.func31, Tryd.ntmps31
    go_wp2_with fail
    go_ret
    exact ⟨rfl, Below.refl _ _⟩
  · have HA := Lib.hid ha
    have HB := Lib.hid hb
    have HL := Lib.hid hlen
    rw [← hlen]
    obtain ⟨n, hn⟩ : ∃ n, xs.length = n := ⟨_, rfl⟩
    have HN := Lib.hid hn
    rw [hn] at hl ⊢
    clear ha hb hlen hn
    go_enter Tryd.func31, Tryd.ntmps31
    go_wp2_with fail
    go_loopw [5] (fun i wr => ∃ k : Nat, k ≤ n ∧ i = .int .i64 k ∧ (∀ j, j < k → xs[j]? = ys[j]?) ∧ Below w.heap.size w wr) (fun i _ => n - (intOf i).toNat)
    case atStart => exact ⟨0, Nat.zero_le _, rfl, (fun j h => by omega), Below.refl _ _⟩
    case round =>
      obtain ⟨k, hk, rfl, heq, hBw⟩ := hrel
      have HE := Lib.hid heq
      clear heq
      by_cases hlt : k < n
      · have hx : k < xs.length := by have := HN.out; omega
        have hy : k < ys.length := by have := HL.out; omega
        rcases HA.out with h | ⟨b1, o1, rfl, h1⟩
        · have := congrArg List.length h
          rw [strV_len] at this
          simp only [List.length_nil] at this
          omega
        rcases HB.out with h | ⟨b2, o2, rfl, h2⟩
        · have := congrArg List.length h
          rw [strV_len] at this
          simp only [List.length_nil] at this
          omega
        have c1 := (h1.ret hBw).2 k (by rw [strV_len]; exact hx)
        have c2 := (h2.ret hBw).2 k (by rw [strV_len]; exact hy)
        obtain ⟨X, hX⟩ : ∃ X : ByteArray, ⟨(xs[k]).toArray⟩ = X := ⟨_, rfl⟩
        obtain ⟨Y, hY⟩ : ∃ Y : ByteArray, ⟨(ys[k]).toArray⟩ = Y := ⟨_, rfl⟩
        rw [show (strV xs)[k]'(by rw [strV_len]; exact hx) = .string X by rw [← hX]; simp [strV]] at c1
        rw [show (strV ys)[k]'(by rw [strV_len]; exact hy) = .string Y by rw [← hY]; simp [strV]] at c2
        have hq := beq_str X Y xs[k] ys[k] (by rw [← hX]) (by rw [← hY])
        by_cases hxy : xs[k] = ys[k]
        · rw [decide_eq_true hxy] at hq
          have hq2 : (X.toList != Y.toList) = false := by unfold bne; rw [hq]; rfl
          have hnew : ∀ j, j < k + 1 → xs[j]? = ys[j]? := by
            intro j hj
            by_cases hjk : j < k
            · exact HE.out j hjk
            · obtain rfl : j = k := by omega
              rw [List.getElem?_eq_getElem hx, List.getElem?_eq_getElem hy, hxy]
          have HNW := Lib.hid hnew
          clear hxy hnew hX hY h1 h2
          go_wp2_with fail
          go_quiet (fail)
          go_wp2_with fail
          go_roundw
          case rel => exact ⟨k + 1, by omega, by go_num, HNW.out, hBw.trans (⟨rfl, rfl, rfl, Nat.le_refl _, fun _ _ => rfl⟩)⟩
          case measure => simp [intOf]; omega
        · rw [decide_eq_false hxy] at hq
          have hq2 : (X.toList != Y.toList) = true := by unfold bne; rw [hq]; rfl
          have hne : decide (xs = ys) = false := by
            rw [decide_eq_false_iff_not]
            intro e
            apply hxy
            simp only [e]
          have HNE := Lib.hid hne
          clear hxy hX hY h1 h2 hne
          go_wp2_with fail
          go_quiet (fail)
          go_wp2_with fail
          go_ret
          rw [HNE.out]
          exact ⟨rfl, hBw.trans (⟨rfl, rfl, rfl, Nat.le_refl _, fun _ _ => rfl⟩)⟩
      · obtain rfl : k = n := by omega
        have he : decide (xs = ys) = true := by
          rw [decide_eq_true_eq]
          apply List.ext_getElem?
          intro j
          by_cases hj : j < k
          · exact HE.out j hj
          · rw [List.getElem?_eq_none (by have := HN.out; omega), List.getElem?_eq_none (by have := HN.out; have := HL.out; omega)]
        have HE2 := Lib.hid he
        clear he
        go_wp2_with fail
        go_ret
        rw [HE2.out]
        exact ⟨rfl, hBw⟩
/-- What becomes of a list's parts. -/
def lstG (ps : List (List UInt8)) : List (List UInt8) := ((ps.map trm).filter fun x => !x.isEmpty).map lowL
theorem lstG_snoc (ps : List (List UInt8)) (p : List UInt8) : lstG (ps ++ [p]) = lstG ps ++ (if (trm p).isEmpty then [] else [lowL (trm p)]) := by
  unfold lstG
  simp only [List.map_append, List.filter_append, List.map_cons, List.map_nil]
  cases h : (trm p).isEmpty <;> simp [h]
theorem lstG_len (ps : List (List UInt8)) : (lstG ps).length ≤ ps.length := by
  unfold lstG
  rw [List.length_map]
  refine Nat.le_trans (List.length_filter_le _ _) ?_
  simp
theorem cutG_bound (b : UInt8) (l : List UInt8) : ∀ cur, ∀ p ∈ cutG b cur l, p.length ≤ cur.length + l.length := by
  induction l with
  | nil => intro cur p hp; simp [cutG] at hp; subst hp; simp
  | cons c l ih =>
    intro cur p hp
    simp only [cutG] at hp
    split at hp
    · rcases List.mem_cons.1 hp with rfl | hp
      · simp
      · have := ih [] p hp
        simp only [List.length_nil, List.length_cons] at this ⊢
        omega
    · have := ih _ p hp
      simp only [List.length_append, List.length_cons, List.length_nil] at this ⊢
      omega
theorem lstP_bound {l x : List UInt8} (h : x ∈ lstP l) : x.length ≤ l.length := by
  unfold lstP at h
  obtain ⟨y, hy, rfl⟩ := List.mem_map.1 h
  obtain ⟨hy2, _⟩ := List.mem_filter.1 hy
  obtain ⟨z, hz, rfl⟩ := List.mem_map.1 hy2
  have := cutG_bound 44 l [] z hz
  rw [lowL_len]
  have h2 := trm_le z
  simp only [List.length_nil, Nat.zero_add] at this
  omega
/-- What List answers. -/
def LstIs (l : List UInt8) (w : World) (e : Ending) (w' : World) : Prop := ∃ v, e = .returned (.tuple #[v, .int .i64 (lstE l)]) ∧ IsVals v (strV (lstV l)) w' ∧ Below w.heap.size w w'
set_option maxHeartbeats 8000000 in
set_option maxRecDepth 100000 in
theorem r7_List (s : ByteArray) (w : World) (hs : s.size ≤ 1000000) : Calls Tryd.prog 83 #[.string s] w (LstIs s.data.toList w) := by
  have CC := Lib.hid fun w => r7_Cut s 44 w hs
  obtain ⟨ps, hps⟩ : ∃ ps, cutG 44 [] s.data.toList = ps := ⟨_, rfl⟩
  have hpl := cutG_len 44 s.data.toList []
  have hpb := cutG_bound 44 s.data.toList []
  rw [hps] at CC hpl hpb
  rw [size_toList] at hpl
  have hP : lstP s.data.toList = lstG ps := by unfold lstP lstG; rw [hps]
  have HP := Lib.hid hP
  have HPB : Hid (∀ p ∈ ps, p.length ≤ s.size) := Lib.hid fun p hp => by have := hpb p hp; rw [size_toList] at this; simpa using this
  clear hps hP hpb
  go_enter Tryd.func83, Tryd.ntmps83
  go_wp2_with fail
  refine (CC.out _).mono ?_
  rintro e w1 ⟨vl, rfl, hown, hb1⟩
  have hV := own_vals hown
  obtain ⟨a, cap, rfl, _, hcells⟩ := hV
  rw [strV_len]
  have HCE := Lib.hid hcells
  obtain ⟨n, hn⟩ : ∃ n, ps.length = n := ⟨_, rfl⟩
  have HN := Lib.hid hn
  rw [hn] at hpl ⊢
  clear hown hcells hn
  go_wp2_with fail
  go_loopw [4, 6] (fun v i wr => ∃ k : Nat, k ≤ n ∧ i = .int .i64 k ∧ OwnS w1.heap.size v (lstG (ps.take k)) wr ∧ Below w1.heap.size w1 wr) (fun _ i _ => n - (intOf i).toNat)
  case atStart => exact ⟨0, Nat.zero_le _, rfl, World.ownsRow_nil _ _ _ _, Below.refl _ _⟩
  case round =>
    obtain ⟨k, hk, rfl, hown, hBw⟩ := hrel
    obtain ⟨i0, hi, hz0, hz1, hz2⟩ := info_parts vinfo_str
    have hsz := hBw.size
    have HO := Lib.hid hown
    clear hown
    by_cases hlt : k < n
    · have hx : k < ps.length := by have := HN.out; omega
      rcases HCE.out with h | ⟨b1, o1, rfl, h1⟩
      · have := congrArg List.length h
        rw [strV_len] at this
        simp only [List.length_nil] at this
        omega
      have c1 := (h1.ret hBw).2 k (by rw [strV_len]; exact hx)
      obtain ⟨X, hX⟩ : ∃ X : ByteArray, ⟨(ps[k]).toArray⟩ = X := ⟨_, rfl⟩
      rw [show (strV ps)[k]'(by rw [strV_len]; exact hx) = .string X by rw [← hX]; simp [strV]] at c1
      have hXl : X.data.toList = ps[k] := by rw [← hX]
      have hXs : X.size ≤ 1000000 := by
        have := HPB.out ps[k] (List.getElem_mem hx)
        rw [← size_toList, hXl]
        omega
      have hsn : lstG (ps.take (k + 1)) = lstG (ps.take k) ++ (if (trm ps[k]).isEmpty then [] else [lowL (trm ps[k])]) := by
        rw [List.take_succ_eq_append_getElem hx, lstG_snoc]
      have T := fun w => r7_Trim X w hXs
      rw [hXl] at T
      obtain ⟨t, ht⟩ : ∃ t, trm ps[k] = t := ⟨_, rfl⟩
      rw [ht] at T hsn
      have htl : t.length ≤ 1000000 := by
        rw [← ht]
        refine Nat.le_trans (trm_le _) ?_
        rw [← hXl, size_toList]
        exact hXs
      obtain ⟨Y, hY⟩ : ∃ Y : ByteArray, ⟨t.toArray⟩ = Y := ⟨_, rfl⟩
      rw [hY] at T
      have hYl : Y.data.toList = t := by rw [← hY]
      have hYs : Y.size ≤ 1000000 := by rw [← size_toList, hYl]; exact htl
      have hlen := lstG_len (ps.take k)
      have hlen2 := List.length_take_le k ps
      have TH := Lib.hid T
      have HS := Lib.hid hsn
      have HYL := Lib.hid hYl
      clear T hsn hX hXl ht hY hYl h1
      by_cases h0 : Y.size = 0
      · obtain rfl : Y = ⟨#[]⟩ := str_ext (List.eq_nil_of_length_eq_zero (by rw [size_toList]; exact h0))
        have hnew : lstG (ps.take (k + 1)) = lstG (ps.take k) := by
          rw [HS.out, ← HYL.out]
          simp
        have HNW := Lib.hid hnew
        clear hnew hi hz0 hz1 hz2 h0
        go_wp2_with fail
        refine (TH.out _).mono ?_
        rintro e w2 ⟨rfl, rfl⟩
        go_wp2_with fail
        go_roundw
        case rel => exact ⟨k + 1, by omega, by go_num, by rw [HNW.out]; exact HO.out, hBw⟩
        case measure => simp [intOf]; omega
      · have e1 := isEmpty_of_pos (s := Y) (by omega)
        have e2 := ne_nil_of_pos (s := Y) (by omega)
        have hnew : lstG (ps.take (k + 1)) = lstG (ps.take k) ++ [lowL t] := by
          rw [HS.out, if_neg]
          intro h
          apply h0
          rw [← size_toList, HYL.out, List.isEmpty_iff.1 h]
          rfl
        have L := fun w => r7_Lower Y w hYs
        rw [HYL.out] at L
        obtain ⟨z, hz⟩ : ∃ z, lowL t = z := ⟨_, rfl⟩
        rw [hz] at L hnew
        have LH := Lib.hid L
        have HNW := Lib.hid hnew
        clear L hnew hz h0
        go_wp2_with fail
        refine (TH.out _).mono ?_
        rintro e w2 ⟨rfl, rfl⟩
        go_wp2_with fail
        refine (LH.out _).mono ?_
        rintro e w3 ⟨rfl, hb3⟩
        have q3 : Below w1.heap.size w1 w3 := hBw.trans (hb3.mono hsz)
        have hsz3 := q3.size
        have hO3 := own_below HO.out hb3
        have HO3 := Lib.hid hO3
        clear hO3
        go_wp2_with (at_builtin; refine wpList_app1 rfl _ _ 53 rfl w1.heap.size 9 i0 (.string ⟨#[]⟩) 16 Tryd.underlying53 hi hz0 hz1 hz2 rfl _ _ _ rfl HO3.out (.string ⟨z.toArray⟩) rfl rfl (by omega) (by omega) (by omega) ?_; intro v' w4 hown' hbel)
        have q4 := hbel _ q3
        have hO4 : OwnS w1.heap.size v' (lstG (ps.take (k + 1))) w4 := by
          unfold OwnS
          rw [HNW.out, strV_snoc, List.length_append]
          exact hown'
        have HO4 := Lib.hid hO4
        clear hown' hbel hO4 hi hz0 hz1 hz2
        go_wp2_with fail
        go_roundw
        case rel => exact ⟨k + 1, by omega, by go_num, HO4.out, q4⟩
        case measure => simp [intOf]; omega
    · obtain rfl : k = n := by omega
      have hfull : ps.take k = ps := List.take_of_length_le (by have := HN.out; omega)
      have q1 : Below w.heap.size w wr := hb1.trans (hBw.mono hb1.size)
      have hOV := own_vals HO.out
      rw [hfull, ← HP.out] at hOV
      have hll := lstG_len ps
      rw [← HP.out, HN.out] at hll
      obtain ⟨a2, c2, rfl, _, hce⟩ := hOV
      rw [strV_len]
      have HIV : Hid (IsVals (.slice a2 (lstP s.data.toList).length c2) (strV (lstP s.data.toList)) wr) := Lib.hid ⟨a2, c2, by rw [strV_len], by assumption, hce⟩
      have HCE2 := Lib.hid hce
      obtain ⟨m, hm⟩ : ∃ m, (lstP s.data.toList).length = m := ⟨_, rfl⟩
      rw [hm] at hll ⊢ HIV
      have HM := Lib.hid hm
      have HO2 := HO
      clear hce HO hm hi hz0 hz1 hz2 hfull
      by_cases h16 : 16 < m
      · have hE : lstE s.data.toList = 4 := by unfold lstE; rw [if_pos (by rw [HM.out]; exact h16)]
        have hVv : lstV s.data.toList = [] := by unfold lstV; rw [if_neg (by rw [hE]; decide)]
        have HE := Lib.hid (And.intro hE hVv)
        clear hE hVv
        have g1 : (16 : Int) < m := by omega
        go_wp2_with fail
        go_ret2
        exact ⟨.slice none 0 0, ret_2 rfl (by rw [HE.out.1]; rfl), by rw [HE.out.2]; exact IsVals.nil _, q1⟩
      · have g1 : ¬ (16 : Int) < m := by omega
        have q1' := q1
        go_wp2_with fail
        go_loop [8] (fun i => ∃ j : Nat, j ≤ m ∧ i = .int .i64 j ∧ ((lstP s.data.toList).take j).all tok = true) (fun i => m - (intOf i).toNat)
        case atStart => exact ⟨0, Nat.zero_le _, rfl, rfl⟩
        case round =>
          obtain ⟨j, hj, rfl, hall⟩ := hrel
          have HA := Lib.hid hall
          clear hall
          by_cases hjm : j < m
          · have hx : j < (lstP s.data.toList).length := by have := HM.out; omega
            rcases HCE2.out with h | ⟨b1, o1, rfl, h1⟩
            · have := congrArg List.length h
              rw [strV_len] at this
              simp only [List.length_nil] at this
              omega
            have c1 := h1.2 j (by rw [strV_len]; exact hx)
            obtain ⟨x, hxx⟩ : ∃ x, (lstP s.data.toList)[j] = x := ⟨_, rfl⟩
            obtain ⟨X, hX⟩ : ∃ X : ByteArray, ⟨x.toArray⟩ = X := ⟨_, rfl⟩
            rw [show (strV (lstP s.data.toList))[j]'(by rw [strV_len]; exact hx) = .string X by rw [← hX, ← hxx]; simp [strV]] at c1
            have hXl : X.data.toList = x := by rw [← hX]
            have hXs : X.size ≤ 1000000 := by
              rw [← size_toList, hXl]
              have hmem : x ∈ lstP s.data.toList := by rw [← hxx]; exact List.getElem_mem hx
              have := lstP_bound hmem
              rw [size_toList] at this
              omega
            have T := fun w => r7_Token X w hXs
            rw [hXl] at T
            cases ht : tok x with
            | true =>
              rw [ht] at T
              have hn : ((lstP s.data.toList).take (j + 1)).all tok = true := by
                rw [List.take_succ_eq_append_getElem hx, List.all_append, HA.out, hxx]
                simp [ht]
              have TH := Lib.hid T
              have HNN := Lib.hid hn
              clear T ht hn hxx hX hXl h1 HA
              go_wp2_with fail
              refine (TH.out _).mono ?_
              rintro e w2 ⟨rfl, rfl⟩
              go_wp2_with fail
              go_round
              case rel => exact ⟨j + 1, by omega, by go_num, HNN.out⟩
              case measure => simp [intOf]; omega
            | false =>
              rw [ht] at T
              have hno : (lstP s.data.toList).all tok = false := by
                rw [List.all_eq_false]
                exact ⟨x, by rw [← hxx]; exact List.getElem_mem hx, by simp [ht]⟩
              have hE : lstE s.data.toList = 8 := by unfold lstE; rw [if_neg (by rw [HM.out]; exact h16), hno]; rfl
              have hVv : lstV s.data.toList = [] := by unfold lstV; rw [if_neg (by rw [hE]; decide)]
              have HE := Lib.hid (And.intro hE hVv)
              have TH := Lib.hid T
              clear T ht hno hxx hX hXl h1 HA hE hVv
              go_wp2_with fail
              refine (TH.out _).mono ?_
              rintro e w2 ⟨rfl, rfl⟩
              go_wp2_with fail
              go_ret2
              exact ⟨.slice none 0 0, ret_2 rfl (by rw [HE.out.1]; rfl), by rw [HE.out.2]; exact IsVals.nil _, q1'⟩
          · have ha := HA.out
            rw [List.take_of_length_le (by have := HM.out; omega)] at ha
            have hE : lstE s.data.toList = 0 := by unfold lstE; rw [if_neg (by rw [HM.out]; exact h16), ha]; rfl
            have hVv : lstV s.data.toList = lstP s.data.toList := by unfold lstV; rw [if_pos hE]
            have HE := Lib.hid (And.intro hE hVv)
            clear ha hE hVv
            go_wp2_with fail
            go_ret2
            exact ⟨.slice a2 m c2, ret_2 rfl (by rw [HE.out.1]; rfl), by rw [HE.out.2]; exact HIV.out, q1'⟩
end Go.Proofs.YtnfgpcccmbblcaaDoor
