/- AsA, AsB, AsC, AsD, AsE, AsG, AsH, AsI: put together by mergetpl.py. -/
import Derived.Test.YthgmgmbjjjnhnaaGreatDoorGa
import Derived.Deep.QuietTactic
import Derived.BigQuiet
import Derived.IntWalk
import Derived.Laws.BitsLemmas
import Derived.Deep.WholeRow
import Derived.Laws.ResultCell
import Derived.Laws.RangeString
namespace Go.Proofs.YthgmgmbjjjnhnaaGreatDoor
open Go.RowKit

set_option maxHeartbeats 4000000 in
theorem r7_Lower (s : ByteArray) (w : World) (hs : s.size ≤ 1000000) : Calls Tryz.prog 114 #[.string s] w (Ret w (.string ⟨(lowL s.data.toList).toArray⟩)) := by
  go_enter Tryz.func114, Tryz.ntmps114
  go_wp2_with fail
  go_loopw [3, 4] (fun v i wr => ∃ k : Nat, k ≤ s.size ∧ i = .int .i64 k ∧ wr.ownsRow w.heap.size 5 1 v k ((lowL (s.data.toList.take k)).map fun c => Value.int .u8 c.toNat) ∧ Below w.heap.size w wr) (fun _ i _ => s.size - (intOf i).toNat)
  case atStart => exact ⟨0, Nat.zero_le _, rfl, World.ownsRow_nil _ _ _ _, Below.refl _ _⟩
  case round =>
    obtain ⟨k, hk, rfl, hown, hBw⟩ := hrel
    obtain ⟨i0, hi, hz0, hz1, hz2⟩ := info_parts vinfo_byte
    have hsz := hBw.size
    by_cases hlt : k < s.size
    · have hsn : lowL (s.data.toList.take (k + 1)) = lowL (s.data.toList.take k) ++ [loB s[k]] := by rw [take_snoc s k hlt, lowL_snoc]
      have HS := Lib.hid hsn
      have HO := Lib.hid hown
      have hb : (s[k].toNat : Int) ≤ 255 := by have := s[k].toNat_lt; omega
      clear hsn hown
      by_cases hc : 65 ≤ s[k].toNat ∧ s[k].toNat ≤ 90
      · have hlo := loB_hi hc.1 hc.2
        obtain ⟨d, hd⟩ : ∃ d, loB s[k] = d := ⟨_, rfl⟩
        rw [hd] at hlo HS
        have hdd : (s[k].toNat : Int) + 32 = (d.toNat : Int) := by omega
        have g1 : (65 : Int) ≤ s[k].toNat := by omega
        have g2 : (s[k].toNat : Int) ≤ 90 := by omega
        have HDD := Lib.hid hdd
        clear hc hlo hd hdd
        go_wp2_with (at_builtin; refine wpList_app1 rfl _ _ 38 rfl w.heap.size 5 i0 (.int .u8 0) 1 Tryz.underlying38 hi hz0 hz1 hz2 rfl _ _ _ rfl HO.out (.int .u8 ((s[k].toNat : Int) + 32)) rfl rfl (by omega) (by omega) (by omega) ?_; intro v' w2 hown' hbel)
        have hb2 := hbel _ hBw
        have hown2 : w2.ownsRow w.heap.size 5 1 v' (k + 1) ((lowL (s.data.toList.take (k + 1))).map fun c => Value.int .u8 c.toNat) := by
          rw [HS.out, List.map_append]
          rw [HDD.out] at hown'
          exact hown'
        have HO2 := Lib.hid hown2
        clear hown' hbel hown2 hi hz0 hz1 hz2
        go_wp2_with fail
        go_roundw
        case rel => exact ⟨k + 1, by omega, by go_num, HO2.out, hb2⟩
        case measure => simp [intOf]; omega
      · have hlo := loB_lo hc
        rw [hlo] at HS
        have g1 : (s[k].toNat : Int) < 65 ∨ 90 < (s[k].toNat : Int) := by omega
        clear hc hlo
        rcases g1 with g1 | g1
        · have g2 : ¬ (65 : Int) ≤ s[k].toNat := by omega
          go_wp2_with (at_builtin; refine wpList_app1 rfl _ _ 38 rfl w.heap.size 5 i0 (.int .u8 0) 1 Tryz.underlying38 hi hz0 hz1 hz2 rfl _ _ _ rfl HO.out (.int .u8 s[k].toNat) rfl rfl (by omega) (by omega) (by omega) ?_; intro v' w2 hown' hbel)
          have hb2 := hbel _ hBw
          have hown2 : w2.ownsRow w.heap.size 5 1 v' (k + 1) ((lowL (s.data.toList.take (k + 1))).map fun c => Value.int .u8 c.toNat) := by
            rw [HS.out, List.map_append]
            exact hown'
          have HO2 := Lib.hid hown2
          clear hown' hbel hown2 hi hz0 hz1 hz2
          go_wp2_with fail
          go_roundw
          case rel => exact ⟨k + 1, by omega, by go_num, HO2.out, hb2⟩
          case measure => simp [intOf]; omega
        · have g2 : (65 : Int) ≤ s[k].toNat := by omega
          have g3 : ¬ (s[k].toNat : Int) ≤ 90 := by omega
          go_wp2_with (at_builtin; refine wpList_app1 rfl _ _ 38 rfl w.heap.size 5 i0 (.int .u8 0) 1 Tryz.underlying38 hi hz0 hz1 hz2 rfl _ _ _ rfl HO.out (.int .u8 s[k].toNat) rfl rfl (by omega) (by omega) (by omega) ?_; intro v' w2 hown' hbel)
          have hb2 := hbel _ hBw
          have hown2 : w2.ownsRow w.heap.size 5 1 v' (k + 1) ((lowL (s.data.toList.take (k + 1))).map fun c => Value.int .u8 c.toNat) := by
            rw [HS.out, List.map_append]
            exact hown'
          have HO2 := Lib.hid hown2
          clear hown' hbel hown2 hi hz0 hz1 hz2
          go_wp2_with fail
          go_roundw
          case rel => exact ⟨k + 1, by omega, by go_num, HO2.out, hb2⟩
          case measure => simp [intOf]; omega
    · obtain rfl : k = s.size := by omega
      rw [List.take_of_length_le (by rw [size_toList]; exact Nat.le_refl _)] at hown
      have hcv := conv_own hown
      obtain ⟨l, hl⟩ : ∃ l, lowL s.data.toList = l := ⟨_, rfl⟩
      rw [hl] at hcv
      have HL := Lib.hid hl
      clear hown hl hi hz0 hz1 hz2
      go_wp2_with fail
      go_ret
      rw [HL.out]
      exact ⟨rfl, hBw⟩
theorem r7_Same (a b : ByteArray) (w : World) (ha : a.size ≤ 1000000) (hb : b.size ≤ 1000000) : Calls Tryz.prog 148 #[.string a, .string b] w (Ret w (.bool (decide (lowL a.data.toList = lowL b.data.toList)))) := by
  have C1 := Lib.hid fun w => r7_Lower a w ha
  have C2 := Lib.hid fun w => r7_Lower b w hb
  obtain ⟨x, hx⟩ : ∃ x, lowL a.data.toList = x := ⟨_, rfl⟩
  obtain ⟨y, hy⟩ : ∃ x, lowL b.data.toList = x := ⟨_, rfl⟩
  rw [hx] at C1 ⊢
  rw [hy] at C2 ⊢
  clear hx hy
  go_enter Tryz.func148, Tryz.ntmps148
  go_wp2_with fail
  refine (C1.out _).mono ?_
  rintro e w1 ⟨rfl, hb1⟩
  go_wp2_with fail
  refine (C2.out _).mono ?_
  rintro e w2 ⟨rfl, hb2⟩
  go_wp2_with fail
  go_ret
  exact ⟨ret_b (eqb_list x y), hb1.trans (hb2.mono hb1.size)⟩
theorem r7_blank (c : UInt8) (w : World) : Calls Tryz.prog 178 #[.int .u8 c.toNat] w fun e w' => e = .returned (.bool (blk c)) ∧ w' = w := by
  have h1 := u8_beq c 32
  have h2 := u8_beq c 9
  have e1 : (UInt8.toNat 32 : Int) = 32 := rfl
  have e2 : (UInt8.toNat 9 : Int) = 9 := rfl
  rw [e1] at h1
  rw [e2] at h2
  unfold blk
  cases hb1 : c == 32 with
  | true =>
    rw [hb1] at h1
    clear h2 e1 e2 hb1
    go_enter Tryz.func178, Tryz.ntmps178
    go_wp2_with fail
    go_ret
    exact ⟨rfl, rfl⟩
  | false =>
    rw [hb1] at h1
    obtain ⟨p, hp⟩ : ∃ p, (c == 9) = p := ⟨_, rfl⟩
    rw [hp] at h2 ⊢
    clear e1 e2 hb1 hp
    go_enter Tryz.func178, Tryz.ntmps178
    go_wp2_with fail
    go_ret
    exact ⟨rfl, rfl⟩
set_option maxHeartbeats 2000000 in
theorem r7_in (s : ByteArray) (c : UInt8) (w : World) (hs : s.size ≤ 1000000) : Calls Tryz.prog 151 #[.string s, .int .u8 c.toNat] w fun e w' => e = .returned (.bool (s.data.toList.contains c)) ∧ w' = w := by
  obtain ⟨z, hz⟩ : ∃ z, s.data.toList.contains c = z := ⟨_, rfl⟩
  rw [hz]
  have HZ := Lib.hid hz
  clear hz
  go_enter Tryz.func151, Tryz.ntmps151
  go_wp2_with fail
  go_loop [5] (fun i => ∃ k : Nat, k ≤ s.size ∧ i = .int .i64 k ∧ z = (s.data.toList.drop k).contains c) (fun i => s.size - (intOf i).toNat)
  case atStart => exact ⟨0, Nat.zero_le _, rfl, HZ.out.symm⟩
  case round =>
    obtain ⟨k, hk, rfl, hin⟩ := hrel
    by_cases hlt : k < s.size
    · rw [drop_cons s k hlt, List.contains_cons] at hin
      have hq := u8_beq s[k] c
      rw [beq_comm_u8] at hin
      obtain ⟨p, hp⟩ : ∃ p, (s[k] == c) = p := ⟨_, rfl⟩
      rw [hp] at hq hin
      have HI := Lib.hid hin
      clear hin hp
      cases p with
      | true =>
        go_wp2_with fail
        go_ret
        rw [HI.out]
        exact ⟨rfl, rfl⟩
      | false =>
        go_wp2_with fail
        go_round
        case rel => exact ⟨k + 1, by omega, by go_num, by rw [HI.out, Bool.false_or]⟩
        case measure => simp [intOf]; omega
    · have hd : z = false := by rw [hin, List.drop_eq_nil_of_le (by rw [size_toList]; omega)]; rfl
      have HI := Lib.hid hd
      clear hin hd
      go_wp2_with fail
      go_ret
      rw [HI.out]
      exact ⟨rfl, rfl⟩
end Go.Proofs.YthgmgmbjjjnhnaaGreatDoor
namespace Go.Proofs.YthgmgmbjjjnhnaaGreatDoor
open Go.RowKit

set_option maxHeartbeats 4000000 in
theorem r7_Trim (s : ByteArray) (w : World) (hs : s.size ≤ 1000000) : Calls Tryz.prog 149 #[.string s] w fun e w' => e = .returned (.string ⟨(trm s.data.toList).toArray⟩) ∧ w' = w := by
  go_enter Tryz.func149, Tryz.ntmps149
  go_wp2_with fail
  go_loop [0] (fun t => ∃ r : ByteArray, r.size ≤ s.size ∧ t = .string r ∧ trm s.data.toList = trm r.data.toList) (fun t => strLen t)
  case atStart => exact ⟨s, Nat.le_refl _, rfl, rfl⟩
  case round =>
    obtain ⟨r, hr, rfl, htr⟩ := hrel
    by_cases h0 : r.size = 0
    · obtain rfl : r = ⟨#[]⟩ := str_ext (List.eq_nil_of_length_eq_zero (by rw [size_toList]; exact h0))
      have HT := Lib.hid (htr.trans trm_nil)
      clear htr h0 hr
      go_wp2_with fail
      go_loop [0] (fun t => t = .string ⟨#[]⟩) (fun _ => 0)
      case atStart => rfl
      case round =>
        subst hrel
        go_wp2_with fail
        go_ret
        rw [HT.out]
        exact ⟨rfl, rfl⟩
    · have e1 := isEmpty_of_pos (s := r) (by omega)
      have e2 := ne_nil_of_pos (s := r) (by omega)
      have hpos : 0 < r.size := by omega
      have hd := drop_cons r 0 hpos
      rw [List.drop_zero] at hd
      have HT := Lib.hid htr
      have HD := Lib.hid hd
      have B := fun w => r7_blank r[0] w
      cases hb : blk r[0] with
      | true =>
        rw [hb] at B
        have BH := Lib.hid B
        have HB := Lib.hid hb
        have h1 : (1 : Int) ≤ r.size := by omega
        clear B hb hd htr h0
        go_wp2_with fail
        refine (BH.out _).mono ?_
        rintro e w1 ⟨rfl, rfl⟩
        go_wp2_with fail
        go_round
        case rel => exact ⟨r.extract 1 r.size, by rw [← size_toList, ext_tail, List.length_drop, size_toList]; omega, rfl, by rw [HT.out, HD.out, trm_cons HB.out, ext_tail]⟩
        case measure => simp [strLen]; omega
      | false =>
        rw [hb] at B
        have BH := Lib.hid B
        have hR : trm s.data.toList = trmR r.data.toList := by rw [htr, hd, trm_eq hb]
        have HR := Lib.hid hR
        clear B hb hd htr h0 hR HT
        go_wp2_with fail
        refine (BH.out _).mono ?_
        rintro e w1 ⟨rfl, rfl⟩
        go_wp2_with fail
        clear e1 e2 BH HD
        go_loop [0] (fun t => ∃ q : ByteArray, q.size ≤ s.size ∧ t = .string q ∧ trm s.data.toList = trmR q.data.toList) (fun t => strLen t)
        case atStart => exact ⟨r, hr, rfl, HR.out⟩
        case round =>
          obtain ⟨q, hq, rfl, hR⟩ := hrel
          by_cases h0 : q.size = 0
          · obtain rfl : q = ⟨#[]⟩ := str_ext (List.eq_nil_of_length_eq_zero (by rw [size_toList]; exact h0))
            have HT := Lib.hid (hR.trans trmR_nil)
            clear hR h0 hq
            go_wp2_with fail
            go_ret
            rw [HT.out]
            exact ⟨rfl, rfl⟩
          · have e1 := isEmpty_of_pos (s := q) (by omega)
            have e2 := ne_nil_of_pos (s := q) (by omega)
            obtain ⟨n, hn⟩ : ∃ n, q.size = n + 1 := ⟨q.size - 1, by omega⟩
            have hlt : n < q.size := by omega
            have hsp : q.data.toList = q.data.toList.take n ++ [q[n]] := by
              rw [← take_snoc q n hlt, List.take_of_length_le (by rw [size_toList]; omega)]
            have HR2 := Lib.hid hR
            have HSP := Lib.hid hsp
            have i1 : IntKind.i64.wrap ((q.size : Int) - 1) = (n : Int) := by rw [hn]; exact (IntWalk.i64_in _ (by omega)).trans (by omega)
            have HN := Lib.hid hn
            have hq2 : (q.size : Int) - 1 = (n : Int) := by omega
            have B := fun w => r7_blank q[n] w
            cases hb : blk q[n] with
            | true =>
              rw [hb] at B
              have BH := Lib.hid B
              have HB := Lib.hid hb
              clear B hb hR h0 hn hsp
              have hn1 : (n : Int) ≤ q.size := by omega
              go_wp2_with fail
              refine (BH.out _).mono ?_
              rintro e w1 ⟨rfl, rfl⟩
              go_wp2_with fail
              go_round
              case rel => exact ⟨q.extract 0 n, by rw [← size_toList, ext_data, List.length_take, List.drop_zero, size_toList]; omega, rfl, by rw [HR2.out, HSP.out, trmR_snoc HB.out, ext_data]; rfl⟩
              case measure => simp [strLen]; omega
            | false =>
              rw [hb] at B
              have BH := Lib.hid B
              have HB := Lib.hid hb
              clear B hb hR h0 hn hsp
              go_wp2_with fail
              refine (BH.out _).mono ?_
              rintro e w1 ⟨rfl, rfl⟩
              go_wp2_with fail
              go_ret
              refine ⟨ret_s (str_ext ?_), rfl⟩
              show q.data.toList = trm s.data.toList
              rw [HR2.out]
              have h := trmR_stop (l := q.data.toList.take n) HB.out
              rw [← HSP.out] at h
              exact h.symm
end Go.Proofs.YthgmgmbjjjnhnaaGreatDoor
namespace Go.Proofs.YthgmgmbjjjnhnaaGreatDoor
open Go.RowKit

theorem all_no (s : ByteArray) (k : Nat) (h : k < s.size) {p : UInt8 → Bool} (hp : p s[k] = false) : s.data.toList.all p = false := by
  rw [List.all_eq_false]
  exact ⟨s[k], by rw [List.mem_iff_getElem?]; exact ⟨k, getElem_data s k h⟩, by simp [hp]⟩
theorem tok_iv (c : UInt8) : (ltr c = true ∧ 97 ≤ c.toNat ∧ c.toNat ≤ 122) ∨ (ltr c = true ∧ 65 ≤ c.toNat ∧ c.toNat ≤ 90) ∨ (ltr c = true ∧ 48 ≤ c.toNat ∧ c.toNat ≤ 57) ∨ (ltr c = false ∧ 0 ≤ c.toNat ∧ c.toNat ≤ 47) ∨ (ltr c = false ∧ 58 ≤ c.toNat ∧ c.toNat ≤ 64) ∨ (ltr c = false ∧ 91 ≤ c.toNat ∧ c.toNat ≤ 96) ∨ (ltr c = false ∧ 123 ≤ c.toNat ∧ c.toNat ≤ 255) := by
  have := c.toNat_lt
  cases h : ltr c with
  | true =>
    unfold ltr at h
    simp only [Bool.or_eq_true, Bool.and_eq_true, decide_eq_true_eq] at h
    simp
    omega
  | false =>
    unfold ltr at h
    simp only [Bool.or_eq_false_iff, Bool.and_eq_false_iff, decide_eq_false_iff_not] at h
    simp
    omega
set_option maxHeartbeats 8000000 in
set_option maxRecDepth 100000 in
theorem r7_Token (s : ByteArray) (w : World) (hs : s.size ≤ 1000000) : Calls Tryz.prog 113 #[.string s] w fun e w' => e = .returned (.bool (tok s.data.toList)) ∧ w' = w := by
  have I0 := fun c w => r7_in ⟨#[33, 35, 36, 37, 38, 39, 42, 43, 45, 46, 94, 95, 96, 124, 126]⟩ c w (by decide)
  have IH := Lib.hid I0
  clear I0
  go_enter Tryz.func113, Tryz.ntmps113
  go_wp2_with fail
  go_loop [3] (fun i => ∃ k : Nat, k ≤ s.size ∧ i = .int .i64 k ∧ (s.data.toList.take k).all tokC = true) (fun i => s.size - (intOf i).toNat)
  case atStart => exact ⟨0, Nat.zero_le _, rfl, rfl⟩
  case round =>
    obtain ⟨k, hk, rfl, hall⟩ := hrel
    have HA := Lib.hid hall
    clear hall
    by_cases hlt : k < s.size
    · have I1 := fun w => IH.out s[k] w
      have hcc : ∀ q, ltr s[k] = q → tokC s[k] = (q || tokP.contains s[k]) := by intro q hq; unfold tokC; rw [hq]
      obtain ⟨p, hp⟩ : ∃ p, tokP.contains s[k] = p := ⟨_, rfl⟩
      rw [hp] at hcc
      have I2 : ∀ w, Calls Tryz.prog 151 #[.string ⟨#[33, 35, 36, 37, 38, 39, 42, 43, 45, 46, 94, 95, 96, 124, 126]⟩, .int .u8 s[k].toNat] w fun e w' => e = .returned (.bool p) ∧ w' = w := by
        intro w
        have := I1 w
        rw [show ([33, 35, 36, 37, 38, 39, 42, 43, 45, 46, 94, 95, 96, 124, 126] : List UInt8).contains s[k] = p from hp] at this
        exact this
      have IN := Lib.hid I2
      clear I1 I2 hp
      rcases tok_iv s[k] with ⟨hq, hiv⟩ | ⟨hq, hiv⟩ | ⟨hq, hiv⟩ | ⟨hq, hiv⟩ | ⟨hq, hiv⟩ | ⟨hq, hiv⟩ | ⟨hq, hiv⟩
      all_goals
        have hc := hcc _ hq
        simp only [Bool.true_or, Bool.false_or] at hc
        have HC := Lib.hid hc
        clear hcc hq hc
      · have g0 : (97 : Int) ≤ s[k].toNat := by omega
        have g1 : (s[k].toNat : Int) ≤ 122 := by omega
        have g2 : (65 : Int) ≤ s[k].toNat := by omega
        have g3 : ¬ (s[k].toNat : Int) ≤ 90 := by omega
        have g4 : (48 : Int) ≤ s[k].toNat := by omega
        have g5 : ¬ (s[k].toNat : Int) ≤ 57 := by omega
        clear hiv
        go_wp2_with fail
        go_round
        case rel => exact ⟨k + 1, by omega, by go_num, by rw [take_snoc s k hlt, List.all_append, HA.out, List.all_cons, HC.out]; rfl⟩
        case measure => simp [intOf]; omega
      · have g0 : ¬ (97 : Int) ≤ s[k].toNat := by omega
        have g1 : (s[k].toNat : Int) ≤ 122 := by omega
        have g2 : (65 : Int) ≤ s[k].toNat := by omega
        have g3 : (s[k].toNat : Int) ≤ 90 := by omega
        have g4 : (48 : Int) ≤ s[k].toNat := by omega
        have g5 : ¬ (s[k].toNat : Int) ≤ 57 := by omega
        clear hiv
        go_wp2_with fail
        go_round
        case rel => exact ⟨k + 1, by omega, by go_num, by rw [take_snoc s k hlt, List.all_append, HA.out, List.all_cons, HC.out]; rfl⟩
        case measure => simp [intOf]; omega
      · have g0 : ¬ (97 : Int) ≤ s[k].toNat := by omega
        have g1 : (s[k].toNat : Int) ≤ 122 := by omega
        have g2 : ¬ (65 : Int) ≤ s[k].toNat := by omega
        have g3 : (s[k].toNat : Int) ≤ 90 := by omega
        have g4 : (48 : Int) ≤ s[k].toNat := by omega
        have g5 : (s[k].toNat : Int) ≤ 57 := by omega
        clear hiv
        go_wp2_with fail
        go_round
        case rel => exact ⟨k + 1, by omega, by go_num, by rw [take_snoc s k hlt, List.all_append, HA.out, List.all_cons, HC.out]; rfl⟩
        case measure => simp [intOf]; omega
      · have g0 : ¬ (97 : Int) ≤ s[k].toNat := by omega
        have g1 : (s[k].toNat : Int) ≤ 122 := by omega
        have g2 : ¬ (65 : Int) ≤ s[k].toNat := by omega
        have g3 : (s[k].toNat : Int) ≤ 90 := by omega
        have g4 : ¬ (48 : Int) ≤ s[k].toNat := by omega
        have g5 : (s[k].toNat : Int) ≤ 57 := by omega
        clear hiv
        go_wp2_with fail
        refine (IN.out _).mono ?_
        rintro e w1 ⟨rfl, rfl⟩
        cases p with
        | true =>
          go_wp2_with fail
          go_round
          case rel => exact ⟨k + 1, by omega, by go_num, by rw [take_snoc s k hlt, List.all_append, HA.out, List.all_cons, HC.out]; rfl⟩
          case measure => simp [intOf]; omega
        | false =>
          have hno : tok s.data.toList = false := by
            unfold tok
            rw [all_no s k hlt HC.out, Bool.and_false]
          have HN := Lib.hid hno
          clear hno
          go_wp2_with fail
          go_ret
          rw [HN.out]
          exact ⟨rfl, rfl⟩
      · have g0 : ¬ (97 : Int) ≤ s[k].toNat := by omega
        have g1 : (s[k].toNat : Int) ≤ 122 := by omega
        have g2 : ¬ (65 : Int) ≤ s[k].toNat := by omega
        have g3 : (s[k].toNat : Int) ≤ 90 := by omega
        have g4 : (48 : Int) ≤ s[k].toNat := by omega
        have g5 : ¬ (s[k].toNat : Int) ≤ 57 := by omega
        clear hiv
        go_wp2_with fail
        refine (IN.out _).mono ?_
        rintro e w1 ⟨rfl, rfl⟩
        cases p with
        | true =>
          go_wp2_with fail
          go_round
          case rel => exact ⟨k + 1, by omega, by go_num, by rw [take_snoc s k hlt, List.all_append, HA.out, List.all_cons, HC.out]; rfl⟩
          case measure => simp [intOf]; omega
        | false =>
          have hno : tok s.data.toList = false := by
            unfold tok
            rw [all_no s k hlt HC.out, Bool.and_false]
          have HN := Lib.hid hno
          clear hno
          go_wp2_with fail
          go_ret
          rw [HN.out]
          exact ⟨rfl, rfl⟩
      · have g0 : ¬ (97 : Int) ≤ s[k].toNat := by omega
        have g1 : (s[k].toNat : Int) ≤ 122 := by omega
        have g2 : (65 : Int) ≤ s[k].toNat := by omega
        have g3 : ¬ (s[k].toNat : Int) ≤ 90 := by omega
        have g4 : (48 : Int) ≤ s[k].toNat := by omega
        have g5 : ¬ (s[k].toNat : Int) ≤ 57 := by omega
        clear hiv
        go_wp2_with fail
        refine (IN.out _).mono ?_
        rintro e w1 ⟨rfl, rfl⟩
        cases p with
        | true =>
          go_wp2_with fail
          go_round
          case rel => exact ⟨k + 1, by omega, by go_num, by rw [take_snoc s k hlt, List.all_append, HA.out, List.all_cons, HC.out]; rfl⟩
          case measure => simp [intOf]; omega
        | false =>
          have hno : tok s.data.toList = false := by
            unfold tok
            rw [all_no s k hlt HC.out, Bool.and_false]
          have HN := Lib.hid hno
          clear hno
          go_wp2_with fail
          go_ret
          rw [HN.out]
          exact ⟨rfl, rfl⟩
      · have g0 : (97 : Int) ≤ s[k].toNat := by omega
        have g1 : ¬ (s[k].toNat : Int) ≤ 122 := by omega
        have g2 : (65 : Int) ≤ s[k].toNat := by omega
        have g3 : ¬ (s[k].toNat : Int) ≤ 90 := by omega
        have g4 : (48 : Int) ≤ s[k].toNat := by omega
        have g5 : ¬ (s[k].toNat : Int) ≤ 57 := by omega
        clear hiv
        go_wp2_with fail
        refine (IN.out _).mono ?_
        rintro e w1 ⟨rfl, rfl⟩
        cases p with
        | true =>
          go_wp2_with fail
          go_round
          case rel => exact ⟨k + 1, by omega, by go_num, by rw [take_snoc s k hlt, List.all_append, HA.out, List.all_cons, HC.out]; rfl⟩
          case measure => simp [intOf]; omega
        | false =>
          have hno : tok s.data.toList = false := by
            unfold tok
            rw [all_no s k hlt HC.out, Bool.and_false]
          have HN := Lib.hid hno
          clear hno
          go_wp2_with fail
          go_ret
          rw [HN.out]
          exact ⟨rfl, rfl⟩
    · obtain rfl : k = s.size := by omega
      have ha := HA.out
      rw [List.take_of_length_le (by rw [size_toList]; exact Nat.le_refl _)] at ha
      have hno : tok s.data.toList = !s.data.toList.isEmpty := by
        unfold tok
        rw [ha, Bool.and_true]
      have HN := Lib.hid hno
      clear ha hno
      go_wp2_with fail
      go_ret
      rw [HN.out]
      exact ⟨ret_b (by rw [← Lib.toList_data]), rfl⟩
end Go.Proofs.YthgmgmbjjjnhnaaGreatDoor
namespace Go.Proofs.YthgmgmbjjjnhnaaGreatDoor
open Go.RowKit

set_option maxHeartbeats 4000000 in
set_option maxRecDepth 100000 in
theorem r7_Plain (s : ByteArray) (w : World) (hs : s.size ≤ 1000000) : Calls Tryz.prog 177 #[.string s] w fun e w' => e = .returned (.bool (pln s.data.toList)) ∧ w' = w := by
  go_enter Tryz.func177, Tryz.ntmps177
  go_wp2_with fail
  go_loop [3] (fun i => ∃ k : Nat, k ≤ s.size ∧ i = .int .i64 k ∧ (s.data.toList.take k).all plnC = true) (fun i => s.size - (intOf i).toNat)
  case atStart => exact ⟨0, Nat.zero_le _, rfl, rfl⟩
  case round =>
    obtain ⟨k, hk, rfl, hall⟩ := hrel
    have HA := Lib.hid hall
    clear hall
    by_cases hlt : k < s.size
    · have h9 := u8_beq s[k] 9
      have h127 := u8_beq s[k] 127
      have e1 : (UInt8.toNat 9 : Int) = 9 := rfl
      have e2 : (UInt8.toNat 127 : Int) = 127 := rfl
      rw [e1] at h9
      rw [e2] at h127
      have h9n : ((s[k].toNat : Int) != 9) = !(s[k] == 9) := by unfold bne; rw [h9]
      have hp : plnC s[k] = !((!(s[k] == 9) && decide (s[k].toNat < 32)) || s[k] == 127) := rfl
      obtain ⟨p, hpp⟩ : ∃ p, (s[k] == 9) = p := ⟨_, rfl⟩
      obtain ⟨q, hqq⟩ : ∃ p, (s[k] == 127) = p := ⟨_, rfl⟩
      obtain ⟨r, hrr⟩ : ∃ p, decide (s[k].toNat < 32) = p := ⟨_, rfl⟩
      have h32 : decide ((s[k].toNat : Int) < 32) = r := by rw [← hrr, decide_eq_decide]; omega
      rw [hpp, hqq, hrr] at hp
      rw [hpp] at h9n
      rw [hqq] at h127
      have HC := Lib.hid hp
      clear e1 e2 h9 hp hpp hqq hrr
      cases p <;> cases q <;> cases r
      all_goals (have h32' : (if (s[k].toNat : Int) < 32 then true else false) = decide ((s[k].toNat : Int) < 32) := by simp)
      all_goals clear h32'
      all_goals first | (have g : (s[k].toNat : Int) < 32 := of_decide_eq_true h32) | (have g : ¬ (s[k].toNat : Int) < 32 := of_decide_eq_false h32)
      all_goals go_wp2_with fail
      all_goals first
        | (go_round
           case rel => exact ⟨k + 1, by omega, by go_num, by rw [take_snoc s k hlt, List.all_append, HA.out, List.all_cons, HC.out]; rfl⟩
           case measure => simp [intOf]; omega)
        | (have hno : pln s.data.toList = false := all_no s k hlt HC.out
           have HN := Lib.hid hno
           clear hno
           go_ret
           rw [HN.out]
           exact ⟨rfl, rfl⟩)
    · obtain rfl : k = s.size := by omega
      have ha := HA.out
      rw [List.take_of_length_le (by rw [size_toList]; exact Nat.le_refl _)] at ha
      have HN := Lib.hid (show pln s.data.toList = true from ha)
      clear ha
      go_wp2_with fail
      go_ret
      rw [HN.out]
      exact ⟨rfl, rfl⟩
/-- A list of texts of the call's own. -/
abbrev OwnS (B : Nat) (v : Value) (xs : List (List UInt8)) (w : World) : Prop := w.ownsRow B 9 1 v xs.length (strV xs)
set_option maxHeartbeats 8000000 in
set_option maxRecDepth 100000 in
theorem r7_Cut (s : ByteArray) (c : UInt8) (w : World) (hs : s.size ≤ 1000000) :
    Calls Tryz.prog 104 #[.string s, .int .u8 c.toNat] w fun e w' => ∃ v, e = .returned v ∧ OwnS w.heap.size v (cutG c [] s.data.toList) w' ∧ Below w.heap.size w w' := by
  go_enter Tryz.func104, Tryz.ntmps104
  go_wp2_with fail
  go_loopw [5, 6, 7] (fun v f i wr => ∃ (k m : Nat) (out : List (List UInt8)), k ≤ m ∧ m ≤ s.size ∧ f = .int .i64 k ∧ i = .int .i64 m ∧ out.length ≤ k ∧ cutG c [] s.data.toList = out ++ cutG c ((s.data.toList.drop k).take (m - k)) (s.data.toList.drop m) ∧ OwnS w.heap.size v out wr ∧ Below w.heap.size w wr) (fun _ _ i _ => s.size - (intOf i).toNat)
  case atStart => exact ⟨0, 0, [], Nat.le_refl _, Nat.zero_le _, rfl, rfl, Nat.le_refl _, by simp, World.ownsRow_nil _ _ _ _, Below.refl _ _⟩
  case round =>
    obtain ⟨k, m, out, hk, hm, rfl, rfl, hol, hcut, hown, hBw⟩ := hrel
    obtain ⟨i0, hi, hz0, hz1, hz2⟩ := info_parts vinfo_str
    have hsz := hBw.size
    have HO := Lib.hid hown
    have HCUT := Lib.hid hcut
    clear hown hcut
    by_cases hlt : m < s.size
    · have hq := u8_beq s[m] c
      have hd := drop_cons s m hlt
      have HD := Lib.hid hd
      clear hd
      by_cases hc : s[m] = c
      · rw [show (s[m] == c) = true by rw [hc]; simp] at hq
        have hnew : cutG c [] s.data.toList = (out ++ [(s.data.toList.drop k).take (m - k)]) ++ cutG c ((s.data.toList.drop (m + 1)).take (m + 1 - (m + 1))) (s.data.toList.drop (m + 1)) := by
          rw [HCUT.out, HD.out]
          simp only [cutG]
          rw [if_pos hc]
          simp
        have hstr : s.extract k m = ⟨((s.data.toList.drop k).take (m - k)).toArray⟩ := str_ext (by rw [ext_data])
        have HN := Lib.hid hnew
        have HST := Lib.hid hstr
        have g1 : (k : Int) ≤ m := by omega
        have g2 : (m : Int) ≤ s.size := by omega
        clear hc hnew hstr
        go_wp2_with (at_builtin; refine wpList_app1 rfl _ _ 64 rfl w.heap.size 9 i0 (.string ⟨#[]⟩) 16 Tryz.underlying64 hi hz0 hz1 hz2 rfl _ _ _ rfl HO.out (.string (s.extract k m)) rfl rfl (by omega) (by omega) (by omega) ?_; intro v' w2 hown' hbel)
        have hb2 := hbel _ hBw
        have hown2 : OwnS w.heap.size v' (out ++ [(s.data.toList.drop k).take (m - k)]) w2 := by
          unfold OwnS
          rw [strV_snoc, List.length_append, ← HST.out]
          exact hown'
        have HO2 := Lib.hid hown2
        clear hown' hbel hown2 hi hz0 hz1 hz2
        go_wp2_with fail
        go_roundw
        case rel => exact ⟨m + 1, m + 1, out ++ [(s.data.toList.drop k).take (m - k)], Nat.le_refl _, by omega, by go_num, by go_num, by simp; omega, HN.out, HO2.out, hb2⟩
        case measure => simp [intOf]; omega
      · rw [show (s[m] == c) = false by simpa using hc] at hq
        have hnew : cutG c [] s.data.toList = out ++ cutG c ((s.data.toList.drop k).take (m + 1 - k)) (s.data.toList.drop (m + 1)) := by
          rw [HCUT.out, HD.out]
          simp only [cutG]
          rw [if_neg hc]
          congr 2
          rw [show m + 1 - k = (m - k) + 1 by omega, List.take_succ_eq_append_getElem (by rw [List.length_drop, size_toList]; omega)]
          congr 2
          rw [List.getElem_drop]
          have := getElem_data s m hlt
          rw [List.getElem?_eq_getElem (by rw [size_toList]; exact hlt)] at this
          injection this with this
          rw [← this]
          congr 1
          omega
        have HN := Lib.hid hnew
        clear hc hnew hi hz0 hz1 hz2
        go_wp2_with fail
        go_roundw
        case rel => exact ⟨k, m + 1, out, by omega, by omega, rfl, by go_num, hol, HN.out, HO.out, hBw⟩
        case measure => simp [intOf]; omega
    · obtain rfl : m = s.size := by omega
      have hnew : cutG c [] s.data.toList = out ++ [s.data.toList.drop k] := by
        rw [HCUT.out, List.drop_eq_nil_of_le (i := s.size) (by rw [size_toList]; exact Nat.le_refl _), List.take_of_length_le (by rw [List.length_drop, size_toList]; exact Nat.le_refl _)]
        rfl
      have hstr : s.extract k s.size = ⟨(s.data.toList.drop k).toArray⟩ := str_ext (by rw [ext_tail])
      have HN := Lib.hid hnew
      have HST := Lib.hid hstr
      have g1 : (k : Int) ≤ s.size := by omega
      clear hnew hstr
      go_wp2_with (at_builtin; refine wpList_app1 rfl _ _ 64 rfl w.heap.size 9 i0 (.string ⟨#[]⟩) 16 Tryz.underlying64 hi hz0 hz1 hz2 rfl _ _ _ rfl HO.out (.string (s.extract k s.size)) rfl rfl (by omega) (by omega) (by omega) ?_; intro v' w2 hown' hbel)
      have hb2 := hbel _ hBw
      have hown2 : OwnS w.heap.size v' (cutG c [] s.data.toList) w2 := by
        unfold OwnS
        rw [HN.out, strV_snoc, List.length_append, ← HST.out]
        exact hown'
      have HO2 := Lib.hid hown2
      clear hown' hbel hown2 hi hz0 hz1 hz2
      go_wp2_with fail
      go_ret
      exact ⟨_, rfl, HO2.out, hb2⟩
end Go.Proofs.YthgmgmbjjjnhnaaGreatDoor
namespace Go.Proofs.YthgmgmbjjjnhnaaGreatDoor
open Go.RowKit

theorem below_drewN (w : World) (n : Nat) : Below w.heap.size w (w.drewN n) := ⟨rfl, rfl, rfl, Nat.le_refl _, fun _ _ => rfl⟩
theorem beq_str (X Y : ByteArray) (x y : List UInt8) (hx : X.data.toList = x) (hy : Y.data.toList = y) : (X.toList == Y.toList) = decide (x = y) := by
  rw [Lib.toList_data, Lib.toList_data, hx, hy, eqb_list]
/-- What becomes of a list's parts. -/
def lstG (ps : List (List UInt8)) : List (List UInt8) := ((ps.map trm).filter fun x => !x.isEmpty).map lowL
theorem lstG_snoc (ps : List (List UInt8)) (p : List UInt8) : lstG (ps ++ [p]) = lstG ps ++ (if (trm p).isEmpty then [] else [lowL (trm p)]) := by
  unfold lstG
  simp only [List.map_append, List.filter_append, List.map_cons, List.map_nil]
  cases h : (trm p).isEmpty <;> simp [h]
theorem lstG_len (ps : List (List UInt8)) : (lstG ps).length ≤ ps.length := by
  unfold lstG
  rw [List.length_map]
  refine Nat.le_trans (List.length_filter_le _ _) ?_
  simp
theorem cutG_bound (b : UInt8) (l : List UInt8) : ∀ cur, ∀ p ∈ cutG b cur l, p.length ≤ cur.length + l.length := by
  induction l with
  | nil => intro cur p hp; simp [cutG] at hp; subst hp; simp
  | cons c l ih =>
    intro cur p hp
    simp only [cutG] at hp
    split at hp
    · rcases List.mem_cons.1 hp with rfl | hp
      · simp
      · have := ih [] p hp
        simp only [List.length_nil, List.length_cons] at this ⊢
        omega
    · have := ih _ p hp
      simp only [List.length_append, List.length_cons, List.length_nil] at this ⊢
      omega
theorem lstP_bound {l x : List UInt8} (h : x ∈ lstP l) : x.length ≤ l.length := by
  unfold lstP at h
  obtain ⟨y, hy, rfl⟩ := List.mem_map.1 h
  obtain ⟨hy2, _⟩ := List.mem_filter.1 hy
  obtain ⟨z, hz, rfl⟩ := List.mem_map.1 hy2
  have := cutG_bound 44 l [] z hz
  rw [lowL_len]
  have h2 := trm_le z
  simp only [List.length_nil, Nat.zero_add] at this
  omega
/-- What List answers. -/
def LstIs (l : List UInt8) (w : World) (e : Ending) (w' : World) : Prop := ∃ v, e = .returned (.tuple #[v, .int .i64 (lstE l)]) ∧ IsVals v (strV (lstV l)) w' ∧ Below w.heap.size w w'
set_option maxHeartbeats 8000000 in
set_option maxRecDepth 100000 in
theorem r7_List (s : ByteArray) (w : World) (hs : s.size ≤ 1000000) : Calls Tryz.prog 109 #[.string s] w (LstIs s.data.toList w) := by
  have CC := Lib.hid fun w => r7_Cut s 44 w hs
  obtain ⟨ps, hps⟩ : ∃ ps, cutG 44 [] s.data.toList = ps := ⟨_, rfl⟩
  have hpl := cutG_len 44 s.data.toList []
  have hpb := cutG_bound 44 s.data.toList []
  rw [hps] at CC hpl hpb
  rw [size_toList] at hpl
  have hP : lstP s.data.toList = lstG ps := by unfold lstP lstG; rw [hps]
  have HP := Lib.hid hP
  have HPB : Hid (∀ p ∈ ps, p.length ≤ s.size) := Lib.hid fun p hp => by have := hpb p hp; rw [size_toList] at this; simpa using this
  clear hps hP hpb
  go_enter Tryz.func109, Tryz.ntmps109
  go_wp2_with fail
  refine (CC.out _).mono ?_
  rintro e w1 ⟨vl, rfl, hown, hb1⟩
  have hV := own_vals hown
  obtain ⟨a, cap, rfl, _, hcells⟩ := hV
  rw [strV_len]
  have HCE := Lib.hid hcells
  obtain ⟨n, hn⟩ : ∃ n, ps.length = n := ⟨_, rfl⟩
  have HN := Lib.hid hn
  rw [hn] at hpl ⊢
  clear hown hcells hn
  go_wp2_with fail
  go_loopw [4, 6] (fun v i wr => ∃ k : Nat, k ≤ n ∧ i = .int .i64 k ∧ OwnS w1.heap.size v (lstG (ps.take k)) wr ∧ Below w1.heap.size w1 wr) (fun _ i _ => n - (intOf i).toNat)
  case atStart => exact ⟨0, Nat.zero_le _, rfl, World.ownsRow_nil _ _ _ _, Below.refl _ _⟩
  case round =>
    obtain ⟨k, hk, rfl, hown, hBw⟩ := hrel
    obtain ⟨i0, hi, hz0, hz1, hz2⟩ := info_parts vinfo_str
    have hsz := hBw.size
    have HO := Lib.hid hown
    clear hown
    by_cases hlt : k < n
    · have hx : k < ps.length := by have := HN.out; omega
      rcases HCE.out with h | ⟨b1, o1, rfl, h1⟩
      · have := congrArg List.length h
        rw [strV_len] at this
        simp only [List.length_nil] at this
        omega
      have c1 := (h1.ret hBw).2 k (by rw [strV_len]; exact hx)
      obtain ⟨X, hX⟩ : ∃ X : ByteArray, ⟨(ps[k]).toArray⟩ = X := ⟨_, rfl⟩
      rw [show (strV ps)[k]'(by rw [strV_len]; exact hx) = .string X by rw [← hX]; simp [strV]] at c1
      have hXl : X.data.toList = ps[k] := by rw [← hX]
      have hXs : X.size ≤ 1000000 := by
        have := HPB.out ps[k] (List.getElem_mem hx)
        rw [← size_toList, hXl]
        omega
      have hsn : lstG (ps.take (k + 1)) = lstG (ps.take k) ++ (if (trm ps[k]).isEmpty then [] else [lowL (trm ps[k])]) := by
        rw [List.take_succ_eq_append_getElem hx, lstG_snoc]
      have T := fun w => r7_Trim X w hXs
      rw [hXl] at T
      obtain ⟨t, ht⟩ : ∃ t, trm ps[k] = t := ⟨_, rfl⟩
      rw [ht] at T hsn
      have htl : t.length ≤ 1000000 := by
        rw [← ht]
        refine Nat.le_trans (trm_le _) ?_
        rw [← hXl, size_toList]
        exact hXs
      obtain ⟨Y, hY⟩ : ∃ Y : ByteArray, ⟨t.toArray⟩ = Y := ⟨_, rfl⟩
      rw [hY] at T
      have hYl : Y.data.toList = t := by rw [← hY]
      have hYs : Y.size ≤ 1000000 := by rw [← size_toList, hYl]; exact htl
      have hlen := lstG_len (ps.take k)
      have hlen2 := List.length_take_le k ps
      have TH := Lib.hid T
      have HS := Lib.hid hsn
      have HYL := Lib.hid hYl
      clear T hsn hX hXl ht hY hYl h1
      by_cases h0 : Y.size = 0
      · obtain rfl : Y = ⟨#[]⟩ := str_ext (List.eq_nil_of_length_eq_zero (by rw [size_toList]; exact h0))
        have hnew : lstG (ps.take (k + 1)) = lstG (ps.take k) := by
          rw [HS.out, ← HYL.out]
          simp
        have HNW := Lib.hid hnew
        clear hnew hi hz0 hz1 hz2 h0
        go_wp2_with fail
        refine (TH.out _).mono ?_
        rintro e w2 ⟨rfl, rfl⟩
        go_wp2_with fail
        go_roundw
        case rel => exact ⟨k + 1, by omega, by go_num, by rw [HNW.out]; exact HO.out, hBw⟩
        case measure => simp [intOf]; omega
      · have e1 := isEmpty_of_pos (s := Y) (by omega)
        have e2 := ne_nil_of_pos (s := Y) (by omega)
        have hnew : lstG (ps.take (k + 1)) = lstG (ps.take k) ++ [lowL t] := by
          rw [HS.out, if_neg]
          intro h
          apply h0
          rw [← size_toList, HYL.out, List.isEmpty_iff.1 h]
          rfl
        have L := fun w => r7_Lower Y w hYs
        rw [HYL.out] at L
        obtain ⟨z, hz⟩ : ∃ z, lowL t = z := ⟨_, rfl⟩
        rw [hz] at L hnew
        have LH := Lib.hid L
        have HNW := Lib.hid hnew
        clear L hnew hz h0
        go_wp2_with fail
        refine (TH.out _).mono ?_
        rintro e w2 ⟨rfl, rfl⟩
        go_wp2_with fail
        refine (LH.out _).mono ?_
        rintro e w3 ⟨rfl, hb3⟩
        have q3 : Below w1.heap.size w1 w3 := hBw.trans (hb3.mono hsz)
        have hsz3 := q3.size
        have hO3 := own_below HO.out hb3
        have HO3 := Lib.hid hO3
        clear hO3
        go_wp2_with (at_builtin; refine wpList_app1 rfl _ _ 64 rfl w1.heap.size 9 i0 (.string ⟨#[]⟩) 16 Tryz.underlying64 hi hz0 hz1 hz2 rfl _ _ _ rfl HO3.out (.string ⟨z.toArray⟩) rfl rfl (by omega) (by omega) (by omega) ?_; intro v' w4 hown' hbel)
        have q4 := hbel _ q3
        have hO4 : OwnS w1.heap.size v' (lstG (ps.take (k + 1))) w4 := by
          unfold OwnS
          rw [HNW.out, strV_snoc, List.length_append]
          exact hown'
        have HO4 := Lib.hid hO4
        clear hown' hbel hO4 hi hz0 hz1 hz2
        go_wp2_with fail
        go_roundw
        case rel => exact ⟨k + 1, by omega, by go_num, HO4.out, q4⟩
        case measure => simp [intOf]; omega
    · obtain rfl : k = n := by omega
      have hfull : ps.take k = ps := List.take_of_length_le (by have := HN.out; omega)
      have q1 : Below w.heap.size w wr := hb1.trans (hBw.mono hb1.size)
      have hOV := own_vals HO.out
      rw [hfull, ← HP.out] at hOV
      have hll := lstG_len ps
      rw [← HP.out, HN.out] at hll
      obtain ⟨a2, c2, rfl, _, hce⟩ := hOV
      rw [strV_len]
      have HIV : Hid (IsVals (.slice a2 (lstP s.data.toList).length c2) (strV (lstP s.data.toList)) wr) := Lib.hid ⟨a2, c2, by rw [strV_len], by assumption, hce⟩
      have HCE2 := Lib.hid hce
      obtain ⟨m, hm⟩ : ∃ m, (lstP s.data.toList).length = m := ⟨_, rfl⟩
      rw [hm] at hll ⊢ HIV
      have HM := Lib.hid hm
      have HO2 := HO
      clear hce HO hm hi hz0 hz1 hz2 hfull
      by_cases h16 : 16 < m
      · have hE : lstE s.data.toList = 4 := by unfold lstE; rw [if_pos (by rw [HM.out]; exact h16)]
        have hVv : lstV s.data.toList = [] := by unfold lstV; rw [if_neg (by rw [hE]; decide)]
        have HE := Lib.hid (And.intro hE hVv)
        clear hE hVv
        have g1 : (16 : Int) < m := by omega
        go_wp2_with fail
        go_ret2
        exact ⟨.slice none 0 0, ret_2 rfl (by rw [HE.out.1]; rfl), by rw [HE.out.2]; exact IsVals.nil _, q1⟩
      · have g1 : ¬ (16 : Int) < m := by omega
        have q1' := q1
        go_wp2_with fail
        go_loop [8] (fun i => ∃ j : Nat, j ≤ m ∧ i = .int .i64 j ∧ ((lstP s.data.toList).take j).all tok = true) (fun i => m - (intOf i).toNat)
        case atStart => exact ⟨0, Nat.zero_le _, rfl, rfl⟩
        case round =>
          obtain ⟨j, hj, rfl, hall⟩ := hrel
          have HA := Lib.hid hall
          clear hall
          by_cases hjm : j < m
          · have hx : j < (lstP s.data.toList).length := by have := HM.out; omega
            rcases HCE2.out with h | ⟨b1, o1, rfl, h1⟩
            · have := congrArg List.length h
              rw [strV_len] at this
              simp only [List.length_nil] at this
              omega
            have c1 := h1.2 j (by rw [strV_len]; exact hx)
            obtain ⟨x, hxx⟩ : ∃ x, (lstP s.data.toList)[j] = x := ⟨_, rfl⟩
            obtain ⟨X, hX⟩ : ∃ X : ByteArray, ⟨x.toArray⟩ = X := ⟨_, rfl⟩
            rw [show (strV (lstP s.data.toList))[j]'(by rw [strV_len]; exact hx) = .string X by rw [← hX, ← hxx]; simp [strV]] at c1
            have hXl : X.data.toList = x := by rw [← hX]
            have hXs : X.size ≤ 1000000 := by
              rw [← size_toList, hXl]
              have hmem : x ∈ lstP s.data.toList := by rw [← hxx]; exact List.getElem_mem hx
              have := lstP_bound hmem
              rw [size_toList] at this
              omega
            have T := fun w => r7_Token X w hXs
            rw [hXl] at T
            cases ht : tok x with
            | true =>
              rw [ht] at T
              have hn : ((lstP s.data.toList).take (j + 1)).all tok = true := by
                rw [List.take_succ_eq_append_getElem hx, List.all_append, HA.out, hxx]
                simp [ht]
              have TH := Lib.hid T
              have HNN := Lib.hid hn
              clear T ht hn hxx hX hXl h1 HA
              go_wp2_with fail
              refine (TH.out _).mono ?_
              rintro e w2 ⟨rfl, rfl⟩
              go_wp2_with fail
              go_round
              case rel => exact ⟨j + 1, by omega, by go_num, HNN.out⟩
              case measure => simp [intOf]; omega
            | false =>
              rw [ht] at T
              have hno : (lstP s.data.toList).all tok = false := by
                rw [List.all_eq_false]
                exact ⟨x, by rw [← hxx]; exact List.getElem_mem hx, by simp [ht]⟩
              have hE : lstE s.data.toList = 8 := by unfold lstE; rw [if_neg (by rw [HM.out]; exact h16), hno]; rfl
              have hVv : lstV s.data.toList = [] := by unfold lstV; rw [if_neg (by rw [hE]; decide)]
              have HE := Lib.hid (And.intro hE hVv)
              have TH := Lib.hid T
              clear T ht hno hxx hX hXl h1 HA hE hVv
              go_wp2_with fail
              refine (TH.out _).mono ?_
              rintro e w2 ⟨rfl, rfl⟩
              go_wp2_with fail
              go_ret2
              exact ⟨.slice none 0 0, ret_2 rfl (by rw [HE.out.1]; rfl), by rw [HE.out.2]; exact IsVals.nil _, q1'⟩
          · have ha := HA.out
            rw [List.take_of_length_le (by have := HM.out; omega)] at ha
            have hE : lstE s.data.toList = 0 := by unfold lstE; rw [if_neg (by rw [HM.out]; exact h16), ha]; rfl
            have hVv : lstV s.data.toList = lstP s.data.toList := by unfold lstV; rw [if_pos hE]
            have HE := Lib.hid (And.intro hE hVv)
            clear ha hE hVv
            go_wp2_with fail
            go_ret2
            exact ⟨.slice a2 m c2, ret_2 rfl (by rw [HE.out.1]; rfl), by rw [HE.out.2]; exact HIV.out, q1'⟩
end Go.Proofs.YthgmgmbjjjnhnaaGreatDoor
namespace Go.Proofs.YthgmgmbjjjnhnaaGreatDoor
open Go.RowKit

theorem or32' : ∀ n : Fin 256, 65 ≤ n.val → n.val ≤ 90 → bits .or .u8 (n.val : Int) 32 = ((loB (UInt8.ofNat n.val)).toNat : Int) := by decide +kernel
theorem or32 (c : UInt8) (h : 65 ≤ c.toNat) (h' : c.toNat ≤ 90) : bits .or .u8 (c.toNat : Int) 32 = ((loB c).toNat : Int) := by
  have := or32' ⟨c.toNat, c.toNat_lt⟩ h h'
  simpa using this
theorem mark_frozen (w : World) (D : Array Value) (t : TypeId) (n : Nat) (j : Nat) (h : j < n) : (w.alloc (.cells D t (n, n + 1))).frozen? ⟨w.heap.size, j, none⟩ = false := by
  unfold World.frozen? World.alloc
  simp
  omega
theorem mark_set (w : World) (D : Array Value) (t : TypeId) (fr : Nat × Nat) (j : Nat) (v : Value) : (w.alloc (.cells D t fr)).setCell ⟨w.heap.size, j, none⟩ v = w.alloc (.cells (D.setIfInBounds j v) t fr) := by
  simp only [World.setCell, World.alloc]
  congr 1
  apply Array.ext_getElem?
  intro i
  rw [Array.getElem?_modify]
  by_cases h : w.heap.size = i
  · subst h
    simp
  · have h' : ¬ i = w.heap.size := fun e => h e.symm
    simp [h, h', Array.getElem?_push]
set_option maxHeartbeats 4000000 in
theorem as_Lower (s : ByteArray) (w : World) (hs : s.size ≤ 1000000) : Calls Tryz.prog 50 #[.string s] w (Ret w (.string ⟨(lowL s.data.toList).toArray⟩)) := by
  obtain ⟨cap, C, hC, hCs, hcv⟩ := str_bytes (P := Tryz.prog) w 9 38 5 s Tryz.underlying9 Tryz.underlying38 Tryz.underlying5
  have HC := Lib.hid hC
  obtain ⟨N, hN⟩ : ∃ N, C.size = N := ⟨_, rfl⟩
  have HNN := Lib.hid hN
  rw [hN] at hcv hCs
  clear hC hN
  go_enter Tryz.func50, Tryz.ntmps50
  go_wp2_with fail
  go_loopw [10] (fun i wr => ∃ (k : Nat) (D : Array Value), k ≤ s.size ∧ i = .int .i64 k ∧ D.size = N ∧ (∀ j (h : j < s.size), D[j]? = some (.int .u8 ((if j < k then loB s[j] else s[j]).toNat : Int))) ∧ wr = (w.alloc (.cells D 5 (N, N + 1))).drew) (fun i _ => s.size - (intOf i).toNat)
  case atStart => exact ⟨0, C, Nat.zero_le _, rfl, HNN.out, fun j h => by rw [HC.out j h]; rfl, rfl⟩
  case round =>
    obtain ⟨k, D, hk, rfl, hDs, hD, rfl⟩ := hrel
    by_cases hlt : k < s.size
    · have hDk := hD k hlt
      rw [if_neg (Nat.lt_irrefl k)] at hDk
      have hcell : ((w.alloc (.cells D 5 (N, N + 1))).drew).cell? ⟨w.heap.size, k, none⟩ = some (.int .u8 (s[k].toNat : Int)) := (World.cell?_alloc_mark w D _ _ k).trans hDk
      have hfr : ((w.alloc (.cells D 5 (N, N + 1))).drew).frozen? ⟨w.heap.size, k, none⟩ = false := mark_frozen w D _ N k (by omega)
      have hb : (s[k].toNat : Int) ≤ 255 := by have := s[k].toNat_lt; omega
      have HD := Lib.hid hD
      have HDS := Lib.hid hDs
      clear hD hDk hDs
      by_cases hc : 65 ≤ s[k].toNat ∧ s[k].toNat ≤ 90
      · have hor := or32 s[k] hc.1 hc.2
        have g1 : (65 : Int) ≤ s[k].toNat := by omega
        have g2 : (s[k].toNat : Int) ≤ 90 := by omega
        clear hc
        go_wp2_with fail
        go_roundw
        case rel =>
          refine ⟨k + 1, D.setIfInBounds k (.int .u8 ((loB s[k]).toNat : Int)), by omega, by go_num, by rw [Array.size_setIfInBounds, HDS.out], fun j h => ?_, ?_⟩
          · rw [Array.getElem?_setIfInBounds]
            by_cases hj : k = j
            · subst hj
              rw [if_pos rfl, if_pos (by rw [HDS.out]; omega), if_pos (by omega)]
            · rw [if_neg hj, HD.out j h]
              by_cases hjk : j < k
              · rw [if_pos hjk, if_pos (by omega)]
              · rw [if_neg hjk, if_neg (by omega)]
          · rw [mark_set]
        case measure => simp [intOf]; omega
      · have hlo := loB_lo hc
        have HLO := Lib.hid hlo
        have g1 : (s[k].toNat : Int) < 65 ∨ 90 < (s[k].toNat : Int) := by omega
        clear hc hlo
        rcases g1 with g1 | g1
        · have g2 : ¬ (65 : Int) ≤ s[k].toNat := by omega
          go_wp2_with fail
          go_roundw
          case rel =>
            refine ⟨k + 1, D, by omega, by go_num, HDS.out, fun j h => ?_, rfl⟩
            rw [HD.out j h]
            by_cases hjk : j < k
            · rw [if_pos hjk, if_pos (by omega)]
            · by_cases hj : j = k
              · subst hj
                rw [if_neg hjk, if_pos (by omega), HLO.out]
              · rw [if_neg hjk, if_neg (by omega)]
          case measure => simp [intOf]; omega
        · have g2 : (65 : Int) ≤ s[k].toNat := by omega
          have g3 : ¬ (s[k].toNat : Int) ≤ 90 := by omega
          go_wp2_with fail
          go_roundw
          case rel =>
            refine ⟨k + 1, D, by omega, by go_num, HDS.out, fun j h => ?_, rfl⟩
            rw [HD.out j h]
            by_cases hjk : j < k
            · rw [if_pos hjk, if_pos (by omega)]
            · by_cases hj : j = k
              · subst hj
                rw [if_neg hjk, if_pos (by omega), HLO.out]
              · rw [if_neg hjk, if_neg (by omega)]
          case measure => simp [intOf]; omega
    · obtain rfl : k = s.size := by omega
      have hconv : (convert 38 9 (.slice (some ⟨w.heap.size, 0, none⟩) s.size cap)).run Tryz.prog ((w.alloc (.cells D 5 (N, N + 1))).drew) = .ok (.string ⟨(lowL s.data.toList).toArray⟩) ((w.alloc (.cells D 5 (N, N + 1))).drew) := by
        have h := run_convert_bytes_back (P := Tryz.prog) ((w.alloc (.cells D 5 (N, N + 1))).drew) 38 9 5 ⟨w.heap.size, 0, none⟩ cap (lowL s.data.toList) Tryz.underlying38 Tryz.underlying5 Tryz.underlying9 (fun j hj => by
          rw [lowL_len, size_toList] at hj
          rw [add_zero_plain]
          refine ((World.cell?_alloc_mark w D _ _ j).trans (hD j hj)).trans ?_
          rw [if_pos hj]
          simp [lowL]
          rfl)
        rw [lowL_len, size_toList] at h
        exact h
      obtain ⟨l, hl⟩ : ∃ l, lowL s.data.toList = l := ⟨_, rfl⟩
      rw [hl] at hconv
      have HL := Lib.hid hl
      clear hD hDs hl
      go_wp2_with fail
      go_ret
      rw [HL.out]
      exact ⟨rfl, by go_grown⟩
set_option maxHeartbeats 1000000 in
theorem as_Same (a b : ByteArray) (w : World) (ha : a.size ≤ 1000000) (hb : b.size ≤ 1000000) : Calls Tryz.prog 132 #[.string a, .string b] w (Ret w (.bool (decide (lowL a.data.toList = lowL b.data.toList)))) := by
  by_cases hl : a.size = b.size
  rotate_left
  · have hne : decide (lowL a.data.toList = lowL b.data.toList) = false := by
      rw [decide_eq_false_iff_not]
      intro e
      have := congrArg List.length e
      rw [lowL_len, lowL_len, size_toList, size_toList] at this
      exact hl this
    have g1 : ((a.size : Int) == (b.size : Int)) = false := by apply beq_false_of_ne; omega
    rw [hne]
    clear hne
    go_enter Tryz.func132, Tryz.ntmps132
    go_wp2_with fail
    go_ret
    exact ⟨rfl, Below.refl _ _⟩
  have g1 : ((a.size : Int) == (b.size : Int)) = true := by rw [beq_iff_eq]; omega
  have C1 := Lib.hid fun w => as_Lower a w ha
  have C2 := Lib.hid fun w => as_Lower b w hb
  obtain ⟨x, hx⟩ : ∃ x, lowL a.data.toList = x := ⟨_, rfl⟩
  obtain ⟨y, hy⟩ : ∃ x, lowL b.data.toList = x := ⟨_, rfl⟩
  rw [hx] at C1 ⊢
  rw [hy] at C2 ⊢
  clear hx hy hl
  go_enter Tryz.func132, Tryz.ntmps132
  go_wp2_with fail
  refine (C1.out _).mono ?_
  rintro e w1 ⟨rfl, hb1⟩
  go_wp2_with fail
  refine (C2.out _).mono ?_
  rintro e w2 ⟨rfl, hb2⟩
  go_wp2_with fail
  go_ret
  exact ⟨ret_b (eqb_list x y), hb1.trans (hb2.mono hb1.size)⟩
set_option maxHeartbeats 1000000 in
/-- Plain's predicate: a byte that may not be seen. -/
theorem as_plainP (c : UInt8) (w : World) : Calls Tryz.prog 89 #[.int .u8 c.toNat] w fun e w' => e = .returned (.bool (!plnC c)) ∧ w' = w := by
  have h9 := u8_beq c 9
  have h127 := u8_beq c 127
  have e1 : (UInt8.toNat 9 : Int) = 9 := rfl
  have e2 : (UInt8.toNat 127 : Int) = 127 := rfl
  rw [e1] at h9
  rw [e2] at h127
  have h9n : ((c.toNat : Int) != 9) = !(c == 9) := by unfold bne; rw [h9]
  have hp : (!plnC c) = ((!(c == 9) && decide (c.toNat < 32)) || c == 127) := by unfold plnC; rw [Bool.not_not]
  rw [hp]
  obtain ⟨p, hpp⟩ : ∃ p, (c == 9) = p := ⟨_, rfl⟩
  obtain ⟨q, hqq⟩ : ∃ p, (c == 127) = p := ⟨_, rfl⟩
  obtain ⟨r, hrr⟩ : ∃ p, decide (c.toNat < 32) = p := ⟨_, rfl⟩
  have h32 : decide ((c.toNat : Int) < 32) = r := by rw [← hrr, decide_eq_decide]; omega
  rw [hpp, hqq, hrr]
  rw [hpp] at h9n
  rw [hqq] at h127
  clear e1 e2 h9 hp hpp hqq hrr
  cases p <;> cases q <;> cases r
  all_goals first | (have g : (c.toNat : Int) < 32 := of_decide_eq_true h32) | (have g : ¬ (c.toNat : Int) < 32 := of_decide_eq_false h32)
  all_goals
    go_enter Tryz.func89, Tryz.ntmps89
    go_wp2_with fail
    go_ret
    exact ⟨rfl, rfl⟩
set_option maxRecDepth 100000 in
/-- Token's predicate: a byte that a token may not have; kinds' array lies in block B. -/
theorem as_tokenP (c : UInt8) (B : Nat) (w : World) (h : c.toNat < 128 → w.cell? ⟨B, c.toNat, none⟩ = some (.bool (tokC c))) : Calls Tryz.prog 88 #[.int .u8 c.toNat, .pointer (some ⟨B, 0, none⟩)] w fun e w' => e = .returned (.bool (!tokC c)) ∧ w' = w := by
  have hb : (c.toNat : Int) ≤ 255 := by have := c.toNat_lt; omega
  by_cases h128 : 128 ≤ c.toNat
  · have hn : tokC c = false := by
      unfold tokC ltr
      rw [Bool.or_eq_false_iff]
      refine ⟨by simp; omega, ?_⟩
      rw [List.contains_eq_mem, decide_eq_false_iff_not]
      intro hm
      simp only [tokP, List.mem_cons, List.not_mem_nil, or_false] at hm
      rcases hm with rfl | rfl | rfl | rfl | rfl | rfl | rfl | rfl | rfl | rfl | rfl | rfl | rfl | rfl | rfl <;> simp at h128
    rw [hn]
    have g : (128 : Int) ≤ c.toNat := by omega
    clear h hn
    go_enter Tryz.func88, Tryz.ntmps88
    go_wp2_with fail
    go_ret
    exact ⟨rfl, rfl⟩
  · have hc := h (by omega)
    obtain ⟨p, hp⟩ : ∃ p, tokC c = p := ⟨_, rfl⟩
    rw [hp] at hc ⊢
    have g : ¬ (128 : Int) ≤ c.toNat := by omega
    have g2 : (c.toNat : Int) < 128 := by omega
    clear h hp
    go_enter Tryz.func88, Tryz.ntmps88
    go_wp2_with fail
    go_ret
    exact ⟨rfl, rfl⟩
end Go.Proofs.YthgmgmbjjjnhnaaGreatDoor
namespace Go.Proofs.YthgmgmbjjjnhnaaGreatDoor
open Go.RowKit

def kindS : ByteArray := ⟨#[33, 35, 36, 37, 38, 39, 42, 43, 45, 46, 94, 95, 96, 124, 126, 48, 49, 50, 51, 52, 53, 54, 55, 56, 57, 97, 98, 99, 100, 101, 102, 103, 104, 105, 106, 107, 108, 109, 110, 111, 112, 113, 114, 115, 116, 117, 118, 119, 120, 121, 122, 65, 66, 67, 68, 69, 70, 71, 72, 73, 74, 75, 76, 77, 78, 79, 80, 81, 82, 83, 84, 85, 86, 87, 88, 89, 90]⟩
theorem kindS_size : kindS.size = 77 := rfl
theorem kindS_tok' : ∀ n : Fin 256, kindS.data.toList.contains (UInt8.ofNat n.val) = tokC (UInt8.ofNat n.val) := by decide +kernel
theorem kindS_tok (c : UInt8) : kindS.data.toList.contains c = tokC c := by
  have := kindS_tok' ⟨c.toNat, c.toNat_lt⟩
  simpa using this
theorem kindS_lt : ∀ c ∈ kindS.data.toList, c.toNat < 128 := by decide +kernel
/-- The array behind these bytes. -/
def kndA (l : List UInt8) : Array Value := l.foldl (fun a c => a.setIfInBounds c.toNat (.bool true)) (Array.replicate 128 (.bool false))
theorem kndA_snoc (l : List UInt8) (c : UInt8) : kndA (l ++ [c]) = (kndA l).setIfInBounds c.toNat (.bool true) := by simp [kndA, List.foldl_append]
theorem knd_fold (l : List UInt8) : ∀ a : Array Value, (l.foldl (fun a c => a.setIfInBounds c.toNat (Value.bool true)) a).size = a.size := by
  induction l with
  | nil => intro a; rfl
  | cons c l ih => intro a; rw [List.foldl_cons, ih]; simp
theorem kndA_size (l : List UInt8) : (kndA l).size = 128 := by
  unfold kndA
  rw [knd_fold]
  simp
theorem knd_at (l : List UInt8) : ∀ (a : Array Value) (c : UInt8), c.toNat < a.size → (l.foldl (fun a c => a.setIfInBounds c.toNat (Value.bool true)) a)[c.toNat]? = if l.contains c then some (.bool true) else a[c.toNat]? := by
  induction l with
  | nil => intro a c _; simp
  | cons d l ih =>
    intro a c h
    rw [List.foldl_cons, ih _ _ (by simpa using h), List.contains_cons]
    by_cases hc : l.contains c = true
    · rw [if_pos hc, if_pos (by rw [hc, Bool.or_true])]
    · rw [if_neg hc]
      by_cases hd : c = d
      · subst hd
        rw [if_pos (by simp), Array.getElem?_setIfInBounds, if_pos rfl, if_pos h]
      · rw [if_neg (by simp only [Bool.or_eq_true, beq_iff_eq]; rintro (h | h); exact hd h; exact hc h), Array.getElem?_setIfInBounds, if_neg (fun e => hd (UInt8.toNat_inj.1 e.symm))]
theorem kndA_at (l : List UInt8) (c : UInt8) (h : c.toNat < 128) : (kndA l)[c.toNat]? = some (.bool (l.contains c)) := by
  unfold kndA
  rw [knd_at l _ c (by simpa using h)]
  by_cases hc : l.contains c = true
  · rw [if_pos hc, hc]
  · rw [if_neg hc, Array.getElem?_replicate, if_pos h]
    simp only [Bool.not_eq_true] at hc
    rw [hc]
theorem knd_one (l : List UInt8) : ∀ a : Array Value, a.all (·.oneCell') = true → (l.foldl (fun a c => a.setIfInBounds c.toNat (Value.bool true)) a).all (·.oneCell') = true := by
  induction l with
  | nil => intro a h; exact h
  | cons c l ih =>
    intro a h
    rw [List.foldl_cons]
    apply ih
    rw [Array.all_eq_true_iff_forall_mem] at h ⊢
    intro x hx
    rcases Array.mem_or_eq_of_mem_setIfInBounds hx with hx | rfl
    · exact h x hx
    · rfl
theorem kndA_one (l : List UInt8) : (kndA l).all (·.oneCell') = true := by
  unfold kndA
  apply knd_one
  rw [Array.all_eq_true_iff_forall_mem]
  intro x hx
  rw [(Array.mem_replicate.1 hx).2]
  rfl
theorem knd_zero : Tryz.zeroCells144 = kndA [] := by kernel_rfl
theorem knd_info : (Tryz.prog.info? 144).map (·.size) = some 128 := by kernel_rfl
theorem iter_cell (w : World) (D : Array Value) (t : TypeId) (s : ByteArray) (pos j : Nat) : ((w.alloc (.cells D t)).iter s pos).cell? ⟨w.heap.size, j, none⟩ = D[j]? := by
  unfold World.iter
  rw [World.cell?_alloc_lt _ _ _ (by simp), World.cell?_alloc_new]
theorem iter_frozen (w : World) (D : Array Value) (t : TypeId) (s : ByteArray) (pos j : Nat) : ((w.alloc (.cells D t)).iter s pos).frozen? ⟨w.heap.size, j, none⟩ = false := by
  unfold World.iter World.frozen? World.alloc
  simp [Array.getElem?_push]
theorem iter_set (w : World) (D : Array Value) (t : TypeId) (s : ByteArray) (pos j : Nat) (v : Value) : ((w.alloc (.cells D t)).iter s pos).setCell ⟨w.heap.size, j, none⟩ v = (w.alloc (.cells (D.setIfInBounds j v) t)).iter s pos := by
  simp only [World.setCell, World.alloc, World.iter]
  congr 1
  apply Array.ext_getElem?
  intro i
  rw [Array.getElem?_modify]
  by_cases h : w.heap.size = i
  · subst h
    simp [Array.getElem?_push]
  · have h' : ¬ i = w.heap.size := fun e => h e.symm
    simp [h, h', Array.getElem?_push]
theorem knd_iter (w : World) (D : Array Value) (t : TypeId) (s : ByteArray) (pos : Nat) : ((w.alloc (.cells D t)).iter s pos).iterPos (w.heap.size + 1) = pos := by
  have := World.iterPos_iter (w.alloc (.cells D t)) s pos
  simpa using this
theorem row_same {w : World} {g : Nat} {D : Array Value} {t : TypeId} {fr : Nat × Nat} (hg : w.heap[g]? = some (.cells D t fr)) : w.setRow g D = w := by
  simp only [World.setRow]
  have : w.heap.modify g (fun o => match o with | .cells _ t fr => .cells D t fr | o => o) = w.heap := by
    apply Array.ext_getElem?
    intro i
    rw [Array.getElem?_modify]
    by_cases h : g = i
    · subst h
      rw [if_pos rfl, hg]
      rfl
    · rw [if_neg h]
  cases w
  simp only at this ⊢
  congr 1
set_option maxHeartbeats 4000000 in
set_option maxRecDepth 100000 in
theorem as_kinds (w : World) : Calls Tryz.prog 86 #[] w (Ret w (.agg (kndA kindS.data.toList))) := by
  go_enter Tryz.func86, Tryz.ntmps86
  go_wp2_with fail
  go_loopw [] (fun wr => ∃ pos : Nat, pos ≤ 77 ∧ wr = (w.alloc (.cells (kndA (kindS.data.toList.take pos)) 144)).iter kindS pos) (fun wr => 77 - wr.iterPos (w.heap.size + 1))
  case atStart => exact ⟨0, Nat.zero_le _, by rw [knd_zero]; rfl⟩
  case round =>
    obtain ⟨pos, hpos, rfl⟩ := hrel
    by_cases hlt : pos < 77
    · have hlt' : pos < kindS.size := hlt
      have hmem : kindS[pos]'hlt' ∈ kindS.data.toList := by rw [List.mem_iff_getElem?]; exact ⟨pos, getElem_data kindS pos hlt'⟩
      have h128 := kindS_lt _ hmem
      have hnx : ∀ ty, (Instr.next (.pointer (some ⟨w.heap.size + 1, 0, none⟩)) true ty).run Tryz.prog ((w.alloc (.cells (kndA (kindS.data.toList.take pos)) 144)).iter kindS pos) = .ok (.tuple #[.bool true, .int .i64 pos, .int .i32 (kindS[pos]'hlt').toNat]) ((w.alloc (.cells (kndA (kindS.data.toList.take pos)) 144)).iter kindS (pos + 1)) := fun ty => by
        have := run_next_ascii (P := Tryz.prog) (w.alloc (.cells (kndA (kindS.data.toList.take pos)) 144)) kindS pos ty hlt' h128
        simpa using this
      obtain ⟨c, hc⟩ : ∃ c, kindS[pos]'hlt' = c := ⟨_, rfl⟩
      have hsn : kindS.data.toList.take (pos + 1) = kindS.data.toList.take pos ++ [c] := by rw [take_snoc kindS pos hlt', hc]
      rw [hc] at hnx h128
      obtain ⟨D, hD⟩ : ∃ D, kndA (kindS.data.toList.take pos) = D := ⟨_, rfl⟩
      have hset : kndA (kindS.data.toList.take (pos + 1)) = D.setIfInBounds c.toNat (.bool true) := by rw [hsn, kndA_snoc, hD]
      have hDc : D[c.toNat]? = some (.bool ((kindS.data.toList.take pos).contains c)) := by rw [← hD]; exact kndA_at _ c h128
      rw [hD] at hnx ⊢
      have hcell := (iter_cell w D 144 kindS (pos + 1) c.toNat).trans hDc
      have hfr := iter_frozen w D 144 kindS (pos + 1) c.toNat
      have hst := iter_set w D 144 kindS (pos + 1) c.toNat (.bool true)
      have HSET := Lib.hid hset
      have g1 : (c.toNat : Int) < 128 := by omega
      clear hset hsn hD hDc hmem hc
      go_wp2_with fail
      refine ⟨⟨pos + 1, by omega, by rw [HSET.out]⟩, ?_⟩
      rw [knd_iter, knd_iter]
      omega
    · obtain rfl : pos = 77 := by omega
      have hnx : ∀ ty, (Instr.next (.pointer (some ⟨w.heap.size + 1, 0, none⟩)) true ty).run Tryz.prog ((w.alloc (.cells (kndA (kindS.data.toList.take 77)) 144)).iter kindS 77) = .ok (.tuple #[.bool false]) ((w.alloc (.cells (kndA (kindS.data.toList.take 77)) 144)).iter kindS 77) := fun ty => by
        have := run_next_end (P := Tryz.prog) (w.alloc (.cells (kndA (kindS.data.toList.take 77)) 144)) kindS 77 ty (by decide)
        simpa using this
      have hfull : kindS.data.toList.take 77 = kindS.data.toList := rfl
      rw [hfull] at hnx ⊢
      have hDs := kndA_size kindS.data.toList
      have hDo := kndA_one kindS.data.toList
      obtain ⟨D, hD⟩ : ∃ D, kndA kindS.data.toList = D := ⟨_, rfl⟩
      rw [hD] at hnx hDs hDo ⊢
      have hinfo : (Tryz.prog.info? 144).map (·.size) = some D.size := by rw [hDs]; exact knd_info
      have hg : ((w.alloc (.cells D 144)).iter kindS 77).heap[w.heap.size]? = some (.cells D 144 (0, 0)) := by
        unfold World.iter
        exact heap_alloc2_old w _ _
      have hrow : ((w.alloc (.cells D 144)).iter kindS 77).setRow w.heap.size D = (w.alloc (.cells D 144)).iter kindS 77 := row_same hg
      have HD := Lib.hid hD
      have HI := Lib.hid hinfo
      have HG := Lib.hid hg
      have HO := Lib.hid hDo
      clear hfull hD hinfo hDs hg hDo
      go_wp2_with (first | (with_reducible refine wpList_load_row rfl _ (.tmp 0) rfl w.heap.size rfl _ D (0, 0) _ HG.out Tryz.underlying144 rfl HI.out ?_) | (with_reducible refine wpList_store_row rfl _ (.tmp 0) (.tmp 9) rfl w.heap.size D rfl rfl _ D HG.out HI.out rfl HO.out ?_))
      rw [hrow]
      refine bodyPost_ret (v := .agg D) (results_cell_row rfl _ _ w.heap.size _ D (0, 0) _ rfl HG.out Tryz.underlying144 rfl HI.out) rfl ⟨by rw [HD.out], ?_⟩
      unfold World.iter
      go_grown
end Go.Proofs.YthgmgmbjjjnhnaaGreatDoor
namespace Go.Proofs.YthgmgmbjjjnhnaaGreatDoor
open Go.RowKit

set_option maxHeartbeats 4000000 in
theorem idx_plain (B n cap : Nat) (l : List UInt8) (hn : l.length = n) (hn2 : n ≤ 1000000) (w : World) (hc : ∀ j (h : j < l.length), w.cell? ⟨B, j, none⟩ = some (.int .u8 l[j].toNat)) :
    Calls Tryz.prog 122 #[.slice (some ⟨B, 0, none⟩) n cap, .func (.func 89) #[] #[]] w fun e w' => ∃ m : Int, e = .returned (.int .i64 m) ∧ decide (0 ≤ m) = l.any (fun c => !plnC c) ∧ w' = w := by
  have HC := Lib.hid hc
  have HN := Lib.hid hn
  clear hc hn
  go_enter Tryz.func122, Tryz.ntmps122
  go_wp2_with fail
  go_loop [8] (fun i => ∃ k : Nat, k ≤ n ∧ i = .int .i64 k ∧ (l.take k).any (fun c => !plnC c) = false) (fun i => n - (intOf i).toNat)
  case atStart => exact ⟨0, Nat.zero_le _, rfl, rfl⟩
  case round =>
    obtain ⟨k, hk, rfl, hno⟩ := hrel
    have HNO := Lib.hid hno
    clear hno
    by_cases hlt : k < n
    · have hx : k < l.length := by have := HN.out; omega
      have hcell := HC.out k hx
      have P := fun w => as_plainP l[k] w
      obtain ⟨c, hcc⟩ : ∃ c, l[k] = c := ⟨_, rfl⟩
      rw [hcc] at hcell
      simp only [hcc] at P
      have hsn : (l.take (k + 1)).any (fun c => !plnC c) = !plnC c := by
        rw [List.take_succ_eq_append_getElem hx, List.any_append, HNO.out, hcc]
        simp
      cases hp : plnC c with
      | true =>
        rw [hp] at hsn
        simp only [hp] at P
        have PH := Lib.hid P
        have HS := Lib.hid hsn
        clear P hsn hp hcc
        go_wp2_with fail
        refine (PH.out _).mono ?_
        rintro e w1 ⟨rfl, rfl⟩
        go_wp2_with fail
        go_round
        case rel => exact ⟨k + 1, by omega, by go_num, HS.out⟩
        case measure => simp [intOf]; omega
      | false =>
        simp only [hp] at P
        have PH := Lib.hid P
        have hany : l.any (fun c => !plnC c) = true := by
          rw [List.any_eq_true]
          exact ⟨c, by rw [← hcc]; exact List.getElem_mem hx, by simp [hp]⟩
        have HA := Lib.hid hany
        clear P hsn hp hcc hany
        go_wp2_with fail
        refine (PH.out _).mono ?_
        rintro e w1 ⟨rfl, rfl⟩
        go_wp2_with fail
        go_ret
        exact ⟨(k : Int), rfl, by rw [HA.out]; simp, rfl⟩
    · have hno := HNO.out
      rw [List.take_of_length_le (by have := HN.out; omega)] at hno
      have HNO2 := Lib.hid hno
      clear hno
      go_wp2_with fail
      go_ret
      exact ⟨-1, rfl, by rw [HNO2.out]; rfl, rfl⟩
theorem has_plain (B n cap : Nat) (l : List UInt8) (hn : l.length = n) (hn2 : n ≤ 1000000) (w : World) (hc : ∀ j (h : j < l.length), w.cell? ⟨B, j, none⟩ = some (.int .u8 l[j].toNat)) :
    Calls Tryz.prog 87 #[.slice (some ⟨B, 0, none⟩) n cap, .func (.func 89) #[] #[]] w fun e w' => e = .returned (.bool (l.any (fun c => !plnC c))) ∧ w' = w := by
  have C := Lib.hid (idx_plain B n cap l hn hn2 w hc)
  obtain ⟨p, hp⟩ : ∃ p, l.any (fun c => !plnC c) = p := ⟨_, rfl⟩
  rw [hp] at C ⊢
  clear hc hn hp
  go_enter Tryz.func87, Tryz.ntmps87
  go_wp2_with fail
  refine (C.out).mono ?_
  rintro e w1 ⟨m, rfl, hm, rfl⟩
  cases p with
  | true =>
    have g : (0 : Int) ≤ m := of_decide_eq_true hm
    clear hm
    go_wp2_with fail
    go_ret
    exact ⟨ret_b (by first | rfl | simp [g]), rfl⟩
  | false =>
    have g : ¬ (0 : Int) ≤ m := of_decide_eq_false hm
    clear hm
    go_wp2_with fail
    go_ret
    exact ⟨ret_b (by first | rfl | simp [g]), rfl⟩

set_option maxHeartbeats 4000000 in
theorem idx_token (B n cap K : Nat) (l : List UInt8) (hn : l.length = n) (hn2 : n ≤ 1000000) (w : World) (hc : ∀ j (h : j < l.length), w.cell? ⟨B, j, none⟩ = some (.int .u8 l[j].toNat)) (hA : ∀ c : UInt8, c.toNat < 128 → w.cell? ⟨K, c.toNat, none⟩ = some (.bool (tokC c))) :
    Calls Tryz.prog 122 #[.slice (some ⟨B, 0, none⟩) n cap, .func (.func 88) #[] #[.pointer (some ⟨K, 0, none⟩)]] w fun e w' => ∃ m : Int, e = .returned (.int .i64 m) ∧ decide (0 ≤ m) = l.any (fun c => !tokC c) ∧ w' = w := by
  have HC := Lib.hid hc
  have HN := Lib.hid hn
  have HAH := Lib.hid hA
  clear hc hn hA
  go_enter Tryz.func122, Tryz.ntmps122
  go_wp2_with fail
  go_loop [8] (fun i => ∃ k : Nat, k ≤ n ∧ i = .int .i64 k ∧ (l.take k).any (fun c => !tokC c) = false) (fun i => n - (intOf i).toNat)
  case atStart => exact ⟨0, Nat.zero_le _, rfl, rfl⟩
  case round =>
    obtain ⟨k, hk, rfl, hno⟩ := hrel
    have HNO := Lib.hid hno
    clear hno
    by_cases hlt : k < n
    · have hx : k < l.length := by have := HN.out; omega
      have hcell := HC.out k hx
      have P := fun w => fun (hw : l[k].toNat < 128 → w.cell? ⟨K, l[k].toNat, none⟩ = some (.bool (tokC l[k]))) => as_tokenP l[k] K w hw
      obtain ⟨c, hcc⟩ : ∃ c, l[k] = c := ⟨_, rfl⟩
      rw [hcc] at hcell
      simp only [hcc] at P
      have hsn : (l.take (k + 1)).any (fun c => !tokC c) = !tokC c := by
        rw [List.take_succ_eq_append_getElem hx, List.any_append, HNO.out, hcc]
        simp
      cases hp : tokC c with
      | true =>
        rw [hp] at hsn
        simp only [hp] at P
        have PH := Lib.hid P
        have HPP := Lib.hid hp
        have HS := Lib.hid hsn
        clear P hsn hp hcc
        go_wp2_with fail
        refine (PH.out _ (fun h => by rw [← HPP.out]; exact HAH.out c h)).mono ?_
        rintro e w1 ⟨rfl, rfl⟩
        go_wp2_with fail
        go_round
        case rel => exact ⟨k + 1, by omega, by go_num, HS.out⟩
        case measure => simp [intOf]; omega
      | false =>
        simp only [hp] at P
        have PH := Lib.hid P
        have HPP := Lib.hid hp
        have hany : l.any (fun c => !tokC c) = true := by
          rw [List.any_eq_true]
          exact ⟨c, by rw [← hcc]; exact List.getElem_mem hx, by simp [hp]⟩
        have HA := Lib.hid hany
        clear P hsn hp hcc hany
        go_wp2_with fail
        refine (PH.out _ (fun h => by rw [← HPP.out]; exact HAH.out c h)).mono ?_
        rintro e w1 ⟨rfl, rfl⟩
        go_wp2_with fail
        go_ret
        exact ⟨(k : Int), rfl, by rw [HA.out]; simp, rfl⟩
    · have hno := HNO.out
      rw [List.take_of_length_le (by have := HN.out; omega)] at hno
      have HNO2 := Lib.hid hno
      clear hno
      go_wp2_with fail
      go_ret
      exact ⟨-1, rfl, by rw [HNO2.out]; rfl, rfl⟩
theorem has_token (B n cap K : Nat) (l : List UInt8) (hn : l.length = n) (hn2 : n ≤ 1000000) (w : World) (hc : ∀ j (h : j < l.length), w.cell? ⟨B, j, none⟩ = some (.int .u8 l[j].toNat)) (hA : ∀ c : UInt8, c.toNat < 128 → w.cell? ⟨K, c.toNat, none⟩ = some (.bool (tokC c))) :
    Calls Tryz.prog 87 #[.slice (some ⟨B, 0, none⟩) n cap, .func (.func 88) #[] #[.pointer (some ⟨K, 0, none⟩)]] w fun e w' => e = .returned (.bool (l.any (fun c => !tokC c))) ∧ w' = w := by
  have C := Lib.hid (idx_token B n cap K l hn hn2 w hc hA)
  obtain ⟨p, hp⟩ : ∃ p, l.any (fun c => !tokC c) = p := ⟨_, rfl⟩
  rw [hp] at C ⊢
  clear hc hn hp hA
  go_enter Tryz.func87, Tryz.ntmps87
  go_wp2_with fail
  refine (C.out).mono ?_
  rintro e w1 ⟨m, rfl, hm, rfl⟩
  cases p with
  | true =>
    have g : (0 : Int) ≤ m := of_decide_eq_true hm
    clear hm
    go_wp2_with fail
    go_ret
    exact ⟨ret_b (by first | rfl | simp [g]), rfl⟩
  | false =>
    have g : ¬ (0 : Int) ≤ m := of_decide_eq_false hm
    clear hm
    go_wp2_with fail
    go_ret
    exact ⟨ret_b (by first | rfl | simp [g]), rfl⟩

theorem any_all_not (l : List UInt8) (p : UInt8 → Bool) : (!l.any fun c => !p c) = l.all p := by
  induction l with
  | nil => rfl
  | cons c l ih => rw [List.any_cons, List.all_cons, Bool.not_or, Bool.not_not, ih]
set_option maxHeartbeats 2000000 in
theorem as_Plain (s : ByteArray) (w : World) (hs : s.size ≤ 1000000) : Calls Tryz.prog 51 #[.string s] w (Ret w (.bool (pln s.data.toList))) := by
  obtain ⟨cap, C, hC, hCs, hcv⟩ := str_bytes (P := Tryz.prog) w 9 38 5 s Tryz.underlying9 Tryz.underlying38 Tryz.underlying5
  have H := Lib.hid (has_plain w.heap.size s.size cap s.data.toList (size_toList s) hs ((w.alloc (.cells C 5 (C.size, C.size + 1))).drew) (fun j h => by
    rw [size_toList] at h
    exact (World.cell?_alloc_mark w C _ _ j).trans (hC j h)))
  have hq : (!s.data.toList.any fun c => !plnC c) = pln s.data.toList := by unfold pln; exact any_all_not _ _
  obtain ⟨p, hp⟩ : ∃ p, (s.data.toList.any fun c => !plnC c) = p := ⟨_, rfl⟩
  rw [hp] at H hq
  have HQ := Lib.hid hq
  clear hC hp hq
  go_enter Tryz.func51, Tryz.ntmps51
  go_wp2_with fail
  refine (H.out).mono ?_
  rintro e w1 ⟨rfl, rfl⟩
  go_wp2_with fail
  go_ret
  rw [← HQ.out]
  exact ⟨rfl, by go_grown⟩
set_option maxHeartbeats 4000000 in
set_option maxRecDepth 100000 in
theorem as_Token (s : ByteArray) (w : World) (hs : s.size ≤ 1000000) : Calls Tryz.prog 49 #[.string s] w (Ret w (.bool (tok s.data.toList))) := by
  have K := Lib.hid (as_kinds w)
  have hDs := kndA_size kindS.data.toList
  have hDo := kndA_one kindS.data.toList
  have hDa : ∀ c : UInt8, c.toNat < 128 → (kndA kindS.data.toList)[c.toNat]? = some (.bool (tokC c)) := fun c h => by rw [kndA_at _ c h, kindS_tok]
  obtain ⟨D, hD⟩ : ∃ D, kndA kindS.data.toList = D := ⟨_, rfl⟩
  rw [hD] at K hDs hDo hDa
  have hinfo : (Tryz.prog.info? 144).map (·.size) = some D.size := by rw [hDs]; exact knd_info
  have hz : (Tryz.zeroCells144).size = D.size := by rw [hDs, knd_zero, kndA_size]
  have HDA := Lib.hid hDa
  have HI := Lib.hid hinfo
  have HO := Lib.hid hDo
  have HZ := Lib.hid hz
  clear hD hDs hDo hDa hinfo hz
  by_cases h0 : s.size = 0
  · obtain rfl : s = ⟨#[]⟩ := str_ext (List.eq_nil_of_length_eq_zero (by rw [size_toList]; exact h0))
    go_enter Tryz.func49, Tryz.ntmps49
    go_wp2_with fail
    refine (K.out).mono ?_
    rintro e w1 ⟨rfl, hb1⟩
    have hrow := World.setRow_alloc_new w1 Tryz.zeroCells144 D 144
    have hs1 := hb1.size
    go_wp2_with (with_reducible refine wpList_store_row rfl _ (.tmp 3) (.tmp 4) rfl w1.heap.size D rfl rfl _ _ (heap_alloc_new w1 _) HI.out HZ.out HO.out ?_)
    go_ret
    exact ⟨rfl, hb1.alloc hs1 _⟩
  have e1 := isEmpty_of_pos (s := s) (by omega)
  have e2 := ne_nil_of_pos (s := s) (by omega)
  have hq : (!s.data.toList.any fun c => !tokC c) = tok s.data.toList := by
    unfold tok
    rw [any_all_not]
    rw [Lib.toList_data] at e1
    rw [e1]
    rfl
  obtain ⟨p, hp⟩ : ∃ p, (s.data.toList.any fun c => !tokC c) = p := ⟨_, rfl⟩
  rw [hp] at hq
  have HQ := Lib.hid hq
  have HP := Lib.hid hp
  clear hq hp h0
  go_enter Tryz.func49, Tryz.ntmps49
  go_wp2_with fail
  refine (K.out).mono ?_
  rintro e w1 ⟨rfl, hb1⟩
  have hrow := World.setRow_alloc_new w1 Tryz.zeroCells144 D 144
  have hs1 := hb1.size
  obtain ⟨cap, C, hC, hCs, hcv⟩ := str_bytes (P := Tryz.prog) (w1.alloc (.cells D 144)) 9 38 5 s Tryz.underlying9 Tryz.underlying38 Tryz.underlying5
  have H0 := has_token (w1.heap.size + 1) s.size cap w1.heap.size s.data.toList (size_toList s) hs (((w1.alloc (.cells D 144)).alloc (.cells C 5 (C.size, C.size + 1))).drew) (fun j h => by
    rw [size_toList] at h
    have hz1 : (w1.alloc (.cells D 144)).heap.size = w1.heap.size + 1 := by simp
    rw [← hz1]
    exact (World.cell?_alloc_mark (w1.alloc (.cells D 144)) C 5 (C.size, C.size + 1) j).trans (hC j h)) (fun c h => by
    rw [World.cell?_drew, World.cell?_alloc_lt _ _ _ (by simp), World.cell?_alloc_new]
    exact HDA.out c h)
  rw [HP.out] at H0
  have H := Lib.hid H0
  have hcv2 : (convert 9 38 (.string s)).run Tryz.prog (w1.alloc (.cells D 144)) = .ok (.slice (some ⟨w1.heap.size + 1, 0, none⟩) s.size cap) (((w1.alloc (.cells D 144)).alloc (.cells C 5 (C.size, C.size + 1))).drew) := by simpa using hcv
  clear H0 hC hcv
  go_wp2_with (with_reducible refine wpList_store_row rfl _ (.tmp 3) (.tmp 4) rfl w1.heap.size D rfl rfl _ _ (heap_alloc_new w1 _) HI.out HZ.out HO.out ?_)
  refine (H.out).mono ?_
  rintro e w2 ⟨rfl, rfl⟩
  go_wp2_with fail
  go_ret
  rw [← HQ.out]
  exact ⟨rfl, (((hb1.alloc hs1 _).alloc (by simp; omega) _).drew)⟩
end Go.Proofs.YthgmgmbjjjnhnaaGreatDoor
