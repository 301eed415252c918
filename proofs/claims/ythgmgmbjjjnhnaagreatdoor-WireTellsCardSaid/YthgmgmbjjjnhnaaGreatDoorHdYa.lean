/- The document's May, Lines and Write for header fields. PRINTED BY PROGRAM (gen_hdya.py). -/
import Derived.Test.YthgmgmbjjjnhnaaGreatDoorGh
import Derived.Test.YthgmgmbjjjnhnaaGreatDoorGe
import Derived.Test.YthgmgmbjjjnhnaaGreatDoorGh
namespace Go.Proofs.YthgmgmbjjjnhnaaGreatDoor
open Go.RowKit

theorem ret_still {f : FuncId} {args : Array Value} {w : World} {v : Value} (h : Calls Tryz.prog f args w fun e w' => e = .returned v ∧ w' = w) : Calls Tryz.prog f args w (Ret w v) := by
  refine h.mono ?_
  rintro e w' ⟨rfl, rfl⟩
  exact ⟨rfl, Below.refl _ _⟩
theorem ln_line (Z X Y : ByteArray) : (Z ++ (((X ++ ⟨#[58, 32]⟩) ++ Y) ++ ⟨#[13, 10]⟩) : ByteArray) = ⟨(Z.data.toList ++ hdL (X.data.toList, Y.data.toList)).toArray⟩ := by
  apply str_ext
  rw [app_data, app_data, app_data, app_data]
  simp [hdL]
set_option maxHeartbeats 4000000 in
theorem r14_Lines (v : Value) (ps : List Pr) (w : World) (hv : IsPairs v ps w) (hl : ps.length ≤ 1000) (hz : ∀ p ∈ ps, p.1.length ≤ 100000 ∧ p.2.length ≤ 100000) : Calls Tryz.prog 57 #[v] w (Ret w (.string ⟨(hdW ps).toArray⟩)) := by
  obtain ⟨a, ca, rfl⟩ := hv.form
  obtain ⟨m, hm⟩ : ∃ m, ps.length = m := ⟨_, rfl⟩
  have HV := Lib.hid hv
  have HN := Lib.hid hm
  have HZ := Lib.hid hz
  rw [hm] at HV hl ⊢
  have HW : Hid (IsPairs (.slice a m ca) ps w) := HV
  clear hv HV hm hz
  go_enter Tryz.func57, Tryz.ntmps57
  go_wp2_with fail
  go_loopw [3, 4] (fun s i wr => ∃ k j : Nat, ∃ Z : ByteArray, k ≤ m ∧ s = .string Z ∧ Z.data.toList = hdW (ps.take k) ∧ Z.size ≤ 300000 * k ∧ i = .int .i64 k ∧ wr = w.drewN j) (fun _ i _ => m - (intOf i).toNat)
  case atStart => exact ⟨0, 0, ⟨#[]⟩, Nat.zero_le _, rfl, rfl, by decide, rfl, rfl⟩
  case round =>
    obtain ⟨k, j, Z, hk, rfl, hZ, hzs, rfl, rfl⟩ := hrel
    by_cases hlt : k < m
    · have hx : k < ps.length := by have := HN.out; omega
      obtain ⟨b1, o1, cap1, hs1, hb0, c1, c2⟩ := HW.out.cell hx
      have ha1 : a = some ⟨b1, o1, none⟩ := by injection hs1
      subst ha1
      have hzk := HZ.out ps[k] (List.getElem_mem hx)
      have htk : hdW (ps.take (k + 1)) = hdW (ps.take k) ++ hdL ps[k] := by rw [List.take_succ_eq_append_getElem hx, hdW_snoc]
      obtain ⟨P, hP⟩ : ∃ P, ps[k] = P := ⟨_, rfl⟩
      rw [hP] at c1 c2 hzk htk
      obtain ⟨p1, p2⟩ := P
      obtain ⟨X, hX⟩ : ∃ X : ByteArray, ⟨p1.toArray⟩ = X := ⟨_, rfl⟩
      obtain ⟨Y, hY⟩ : ∃ X : ByteArray, ⟨p2.toArray⟩ = X := ⟨_, rfl⟩
      have hXl : X.data.toList = p1 := by rw [← hX]
      have hYl : Y.data.toList = p2 := by rw [← hY]
      simp only [hX, hY] at c1 c2
      have zX : X.size ≤ 100000 := by rw [← size_toList, hXl]; exact hzk.1
      have zY : Y.size ≤ 100000 := by rw [← size_toList, hYl]; exact hzk.2
      have hline := ln_line Z X Y
      rw [hXl, hYl, hZ, ← htk] at hline
      have hz2 : (Z ++ (((X ++ ⟨#[58, 32]⟩) ++ Y) ++ ⟨#[13, 10]⟩) : ByteArray).size ≤ 300000 * (k + 1) := by
        rw [← size_toList, app_data, app_data, app_data, app_data]
        simp only [List.length_append, size_toList, List.length_cons, List.length_nil]
        omega
      have HL : Hid ((Z ++ (((X ++ ⟨#[58, 32]⟩) ++ Y) ++ ⟨#[13, 10]⟩) : ByteArray).data.toList = hdW (ps.take (k + 1))) := Lib.hid (by rw [hline])
      have HZ2 := Lib.hid hz2
      have g2 : (k : Int) < m := by omega
      have g3 : (0 : Int) ≤ (k : Int) := by omega
      have g4 : Z.size ≤ 300000000 := by omega
      clear hline hz2 hP hX hY hXl hYl hzk htk hs1 hx hZ hzs
      go_wp2_with fail
      go_quiet (fail)
      go_wp2_with fail
      go_roundw
      case rel => exact ⟨k + 1, _, _, by omega, rfl, HL.out, HZ2.out, by go_num, rfl⟩
      case measure => simp [intOf]; omega
    · have hfull : ps.take k = ps := List.take_of_length_le (by have := HN.out; omega)
      rw [hfull] at hZ
      have HZL := Lib.hid hZ
      clear hZ hfull
      go_wp2_with fail
      go_ret
      refine ⟨?_, below_drewN _ _⟩
      rw [← HZL.out]
      rfl
end Go.Proofs.YthgmgmbjjjnhnaaGreatDoor
