/- The document's Plain, Cut and List; tidewaiterref04.Same. -/
import Derived.Test.YtnfgpcccmbblcaaDoorAsB
import Derived.Test.YtnfgpcccmbblcaaDoorAsC
namespace Go.Proofs.YtnfgpcccmbblcaaDoor
open Go.RowKit

set_option maxHeartbeats 4000000 in
set_option maxRecDepth 100000 in
theorem r7_Plain (s : ByteArray) (w : World) (hs : s.size ≤ 1000000) : Calls Tryd.prog 109 #[.string s] w fun e w' => e = .returned (.bool (pln s.data.toList)) ∧ w' = w := by
  go_enter Tryd.func109, Tryd.ntmps109
  go_wp2_with fail
  go_loop [3] (fun i => ∃ k : Nat, k ≤ s.size ∧ i = .int .i64 k ∧ (s.data.toList.take k).all plnC = true) (fun i => s.size - (intOf i).toNat)
  case atStart => exact ⟨0, Nat.zero_le _, rfl, rfl⟩
  case round =>
    obtain ⟨k, hk, rfl, hall⟩ := hrel
    have HA := Lib.hid hall
    clear hall
    by_cases hlt : k < s.size
    · have h9 := u8_beq s[k] 9
      have h127 := u8_beq s[k] 127
      have e1 : (UInt8.toNat 9 : Int) = 9 := rfl
      have e2 : (UInt8.toNat 127 : Int) = 127 := rfl
      rw [e1] at h9
      rw [e2] at h127
      have h9n : ((s[k].toNat : Int) != 9) = !(s[k] == 9) := by unfold bne; rw [h9]
      have hp : plnC s[k] = !((!(s[k] == 9) && decide (s[k].toNat < 32)) || s[k] == 127) := rfl
      obtain ⟨p, hpp⟩ : ∃ p, (s[k] == 9) = p := ⟨_, rfl⟩
      obtain ⟨q, hqq⟩ : ∃ p, (s[k] == 127) = p := ⟨_, rfl⟩
      obtain ⟨r, hrr⟩ : ∃ p, decide (s[k].toNat < 32) = p := ⟨_, rfl⟩
      have h32 : decide ((s[k].toNat : Int) < 32) = r := by rw [← hrr, decide_eq_decide]; omega
      rw [hpp, hqq, hrr] at hp
      rw [hpp] at h9n
      rw [hqq] at h127
      have HC := Lib.hid hp
      clear e1 e2 h9 hp hpp hqq hrr
      cases p <;> cases q <;> cases r
      all_goals (have h32' : (if (s[k].toNat : Int) < 32 then true else false) = decide ((s[k].toNat : Int) < 32) := by simp)
      all_goals clear h32'
      all_goals first | (have g : (s[k].toNat : Int) < 32 := of_decide_eq_true h32) | (have g : ¬ (s[k].toNat : Int) < 32 := of_decide_eq_false h32)
      all_goals go_wp2_with fail
      all_goals first
        | (go_round
           case rel => exact ⟨k + 1, by omega, by go_num, by rw [take_snoc s k hlt, List.all_append, HA.out, List.all_cons, HC.out]; rfl⟩
           case measure => simp [intOf]; omega)
        | (have hno : pln s.data.toList = false := all_no s k hlt HC.out
           have HN := Lib.hid hno
           clear hno
           go_ret
           rw [HN.out]
           exact ⟨rfl, rfl⟩)
    · obtain rfl : k = s.size := by omega
      have ha := HA.out
      rw [List.take_of_length_le (by rw [size_toList]; exact Nat.le_refl _)] at ha
      have HN := Lib.hid (show pln s.data.toList = true from ha)
      clear ha
      go_wp2_with fail
      go_ret
      rw [HN.out]
      exact ⟨rfl, rfl⟩
/-- A list of texts of the call's own. -/
abbrev OwnS (B : Nat) (v : Value) (xs : List (List UInt8)) (w : World) : Prop := w.ownsRow B 9 1 v xs.length (strV xs)
set_option maxHeartbeats 8000000 in
set_option maxRecDepth 100000 in
theorem r7_Cut (s : ByteArray) (c : UInt8) (w : World) (hs : s.size ≤ 1000000) :
    Calls Tryd.prog 63 #[.string s, .int .u8 c.toNat] w fun e w' => ∃ v, e = .returned v ∧ OwnS w.heap.size v (cutG c [] s.data.toList) w' ∧ Below w.heap.size w w' := by
  go_enter Tryd.func63, Tryd.ntmps63
  go_wp2_with fail
  go_loopw [5, 6, 7] (fun v f i wr => ∃ (k m : Nat) (out : List (List UInt8)), k ≤ m ∧ m ≤ s.size ∧ f = .int .i64 k ∧ i = .int .i64 m ∧ out.length ≤ k ∧ cutG c [] s.data.toList = out ++ cutG c ((s.data.toList.drop k).take (m - k)) (s.data.toList.drop m) ∧ OwnS w.heap.size v out wr ∧ Below w.heap.size w wr) (fun _ _ i _ => s.size - (intOf i).toNat)
  case atStart => exact ⟨0, 0, [], Nat.le_refl _, Nat.zero_le _, rfl, rfl, Nat.le_refl _, by simp, World.ownsRow_nil _ _ _ _, Below.refl _ _⟩
  case round =>
    obtain ⟨k, m, out, hk, hm, rfl, rfl, hol, hcut, hown, hBw⟩ := hrel
    obtain ⟨i0, hi, hz0, hz1, hz2⟩ := info_parts vinfo_str
    have hsz := hBw.size
    have HO := Lib.hid hown
    have HCUT := Lib.hid hcut
    clear hown hcut
    by_cases hlt : m < s.size
    · have hq := u8_beq s[m] c
      have hd := drop_cons s m hlt
      have HD := Lib.hid hd
      clear hd
      by_cases hc : s[m] = c
      · rw [show (s[m] == c) = true by rw [hc]; simp] at hq
        have hnew : cutG c [] s.data.toList = (out ++ [(s.data.toList.drop k).take (m - k)]) ++ cutG c ((s.data.toList.drop (m + 1)).take (m + 1 - (m + 1))) (s.data.toList.drop (m + 1)) := by
          rw [HCUT.out, HD.out]
          simp only [cutG]
          rw [if_pos hc]
          simp
        have hstr : s.extract k m = ⟨((s.data.toList.drop k).take (m - k)).toArray⟩ := str_ext (by rw [ext_data])
        have HN := Lib.hid hnew
        have HST := Lib.hid hstr
        have g1 : (k : Int) ≤ m := by omega
        have g2 : (m : Int) ≤ s.size := by omega
        clear hc hnew hstr
        go_wp2_with (at_builtin; refine wpList_app1 rfl _ _ 53 rfl w.heap.size 9 i0 (.string ⟨#[]⟩) 16 Tryd.underlying53 hi hz0 hz1 hz2 rfl _ _ _ rfl HO.out (.string (s.extract k m)) rfl rfl (by omega) (by omega) (by omega) ?_; intro v' w2 hown' hbel)
        have hb2 := hbel _ hBw
        have hown2 : OwnS w.heap.size v' (out ++ [(s.data.toList.drop k).take (m - k)]) w2 := by
          unfold OwnS
          rw [strV_snoc, List.length_append, ← HST.out]
          exact hown'
        have HO2 := Lib.hid hown2
        clear hown' hbel hown2 hi hz0 hz1 hz2
        go_wp2_with fail
        go_roundw
        case rel => exact ⟨m + 1, m + 1, out ++ [(s.data.toList.drop k).take (m - k)], Nat.le_refl _, by omega, by go_num, by go_num, by simp; omega, HN.out, HO2.out, hb2⟩
        case measure => simp [intOf]; omega
      · rw [show (s[m] == c) = false by simpa using hc] at hq
        have hnew : cutG c [] s.data.toList = out ++ cutG c ((s.data.toList.drop k).take (m + 1 - k)) (s.data.toList.drop (m + 1)) := by
          rw [HCUT.out, HD.out]
          simp only [cutG]
          rw [if_neg hc]
          congr 2
          rw [show m + 1 - k = (m - k) + 1 by omega, List.take_succ_eq_append_getElem (by rw [List.length_drop, size_toList]; omega)]
          congr 2
          rw [List.getElem_drop]
          have := getElem_data s m hlt
          rw [List.getElem?_eq_getElem (by rw [size_toList]; exact hlt)] at this
          injection this with this
          rw [← this]
          congr 1
          omega
        have HN := Lib.hid hnew
        clear hc hnew hi hz0 hz1 hz2
        go_wp2_with fail
        go_roundw
        case rel => exact ⟨k, m + 1, out, by omega, by omega, rfl, by go_num, hol, HN.out, HO.out, hBw⟩
        case measure => simp [intOf]; omega
    · obtain rfl : m = s.size := by omega
      have hnew : cutG c [] s.data.toList = out ++ [s.data.toList.drop k] := by
        rw [HCUT.out, List.drop_eq_nil_of_le (i := s.size) (by rw [size_toList]; exact Nat.le_refl _), List.take_of_length_le (by rw [List.length_drop, size_toList]; exact Nat.le_refl _)]
        rfl
      have hstr : s.extract k s.size = ⟨(s.data.toList.drop k).toArray⟩ := str_ext (by rw [ext_tail])
      have HN := Lib.hid hnew
      have HST := Lib.hid hstr
      have g1 : (k : Int) ≤ s.size := by omega
      clear hnew hstr
      go_wp2_with (at_builtin; refine wpList_app1 rfl _ _ 53 rfl w.heap.size 9 i0 (.string ⟨#[]⟩) 16 Tryd.underlying53 hi hz0 hz1 hz2 rfl _ _ _ rfl HO.out (.string (s.extract k s.size)) rfl rfl (by omega) (by omega) (by omega) ?_; intro v' w2 hown' hbel)
      have hb2 := hbel _ hBw
      have hown2 : OwnS w.heap.size v' (cutG c [] s.data.toList) w2 := by
        unfold OwnS
        rw [HN.out, strV_snoc, List.length_append, ← HST.out]
        exact hown'
      have HO2 := Lib.hid hown2
      clear hown' hbel hown2 hi hz0 hz1 hz2
      go_wp2_with fail
      go_ret
      exact ⟨_, rfl, HO2.out, hb2⟩
end Go.Proofs.YtnfgpcccmbblcaaDoor
