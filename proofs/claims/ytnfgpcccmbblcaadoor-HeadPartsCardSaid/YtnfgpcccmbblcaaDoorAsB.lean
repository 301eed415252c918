/- The document's Trim, Token, Plain. -/
import Derived.Test.YtnfgpcccmbblcaaDoorAsA
namespace Go.Proofs.YtnfgpcccmbblcaaDoor
open Go.RowKit

set_option maxHeartbeats 4000000 in
theorem r7_Trim (s : ByteArray) (w : World) (hs : s.size ≤ 1000000) : Calls Tryd.prog 110 #[.string s] w fun e w' => e = .returned (.string ⟨(trm s.data.toList).toArray⟩) ∧ w' = w := by
  go_enter Tryd.func110, Tryd.ntmps110
  go_wp2_with fail
  go_loop [0] (fun t => ∃ r : ByteArray, r.size ≤ s.size ∧ t = .string r ∧ trm s.data.toList = trm r.data.toList) (fun t => strLen t)
  case atStart => exact ⟨s, Nat.le_refl _, rfl, rfl⟩
  case round =>
    obtain ⟨r, hr, rfl, htr⟩ := hrel
    by_cases h0 : r.size = 0
    · obtain rfl : r = ⟨#[]⟩ := str_ext (List.eq_nil_of_length_eq_zero (by rw [size_toList]; exact h0))
      have HT := Lib.hid (htr.trans trm_nil)
      clear htr h0 hr
      go_wp2_with fail
      go_loop [0] (fun t => t = .string ⟨#[]⟩) (fun _ => 0)
      case atStart => rfl
      case round =>
        subst hrel
        go_wp2_with fail
        go_ret
        rw [HT.out]
        exact ⟨rfl, rfl⟩
    · have e1 := isEmpty_of_pos (s := r) (by omega)
      have e2 := ne_nil_of_pos (s := r) (by omega)
      have hpos : 0 < r.size := by omega
      have hd := drop_cons r 0 hpos
      rw [List.drop_zero] at hd
      have HT := Lib.hid htr
      have HD := Lib.hid hd
      have B := fun w => r7_blank r[0] w
      cases hb : blk r[0] with
      | true =>
        rw [hb] at B
        have BH := Lib.hid B
        have HB := Lib.hid hb
        have h1 : (1 : Int) ≤ r.size := by omega
        clear B hb hd htr h0
        go_wp2_with fail
        refine (BH.out _).mono ?_
        rintro e w1 ⟨rfl, rfl⟩
        go_wp2_with fail
        go_round
        case rel => exact ⟨r.extract 1 r.size, by rw [← size_toList, ext_tail, List.length_drop, size_toList]; omega, rfl, by rw [HT.out, HD.out, trm_cons HB.out, ext_tail]⟩
        case measure => simp [strLen]; omega
      | false =>
        rw [hb] at B
        have BH := Lib.hid B
        have hR : trm s.data.toList = trmR r.data.toList := by rw [htr, hd, trm_eq hb]
        have HR := Lib.hid hR
        clear B hb hd htr h0 hR HT
        go_wp2_with fail
        refine (BH.out _).mono ?_
        rintro e w1 ⟨rfl, rfl⟩
        go_wp2_with fail
        clear e1 e2 BH HD
        go_loop [0] (fun t => ∃ q : ByteArray, q.size ≤ s.size ∧ t = .string q ∧ trm s.data.toList = trmR q.data.toList) (fun t => strLen t)
        case atStart => exact ⟨r, hr, rfl, HR.out⟩
        case round =>
          obtain ⟨q, hq, rfl, hR⟩ := hrel
          by_cases h0 : q.size = 0
          · obtain rfl : q = ⟨#[]⟩ := str_ext (List.eq_nil_of_length_eq_zero (by rw [size_toList]; exact h0))
            have HT := Lib.hid (hR.trans trmR_nil)
            clear hR h0 hq
            go_wp2_with fail
            go_ret
            rw [HT.out]
            exact ⟨rfl, rfl⟩
          · have e1 := isEmpty_of_pos (s := q) (by omega)
            have e2 := ne_nil_of_pos (s := q) (by omega)
            obtain ⟨n, hn⟩ : ∃ n, q.size = n + 1 := ⟨q.size - 1, by omega⟩
            have hlt : n < q.size := by omega
            have hsp : q.data.toList = q.data.toList.take n ++ [q[n]] := by
              rw [← take_snoc q n hlt, List.take_of_length_le (by rw [size_toList]; omega)]
            have HR2 := Lib.hid hR
            have HSP := Lib.hid hsp
            have i1 : IntKind.i64.wrap ((q.size : Int) - 1) = (n : Int) := by rw [hn]; exact (IntWalk.i64_in _ (by omega)).trans (by omega)
            have HN := Lib.hid hn
            have hq2 : (q.size : Int) - 1 = (n : Int) := by omega
            have B := fun w => r7_blank q[n] w
            cases hb : blk q[n] with
            | true =>
              rw [hb] at B
              have BH := Lib.hid B
              have HB := Lib.hid hb
              clear B hb hR h0 hn hsp
              have hn1 : (n : Int) ≤ q.size := by omega
              go_wp2_with fail
              refine (BH.out _).mono ?_
              rintro e w1 ⟨rfl, rfl⟩
              go_wp2_with fail
              go_round
              case rel => exact ⟨q.extract 0 n, by rw [← size_toList, ext_data, List.length_take, List.drop_zero, size_toList]; omega, rfl, by rw [HR2.out, HSP.out, trmR_snoc HB.out, ext_data]; rfl⟩
              case measure => simp [strLen]; omega
            | false =>
              rw [hb] at B
              have BH := Lib.hid B
              have HB := Lib.hid hb
              clear B hb hR h0 hn hsp
              go_wp2_with fail
              refine (BH.out _).mono ?_
              rintro e w1 ⟨rfl, rfl⟩
              go_wp2_with fail
              go_ret
              refine ⟨ret_s (str_ext ?_), rfl⟩
              show q.data.toList = trm s.data.toList
              rw [HR2.out]
              have h := trmR_stop (l := q.data.toList.take n) HB.out
              rw [← HSP.out] at h
              exact h.symm
end Go.Proofs.YtnfgpcccmbblcaaDoor
