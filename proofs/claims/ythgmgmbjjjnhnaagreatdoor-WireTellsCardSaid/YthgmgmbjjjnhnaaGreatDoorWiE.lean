/- law17's request, alive; WireLasts. -/
import Derived.Test.YthgmgmbjjjnhnaaGreatDoorWiD
import Derived.Test.YthgmgmbjjjnhnaaGreatDoorWiW
import Derived.Laws.StructEq
namespace Go.Proofs.YthgmgmbjjjnhnaaGreatDoor
open Go.RowKit

theorem one_more (s : ByteArray) (w : World) (hs : s.size ≤ 1000000) (hm : ML w) (h : wiO s.data.toList = .more) : Calls Tryz.prog 16 #[.string s] w (Ret w (.tuple #[cm0, .int .i64 0, .bool true])) := by
  have := wi_One s w hs hm
  unfold oneV at this
  rw [h] at this
  exact this
theorem one_bad (s : ByteArray) (st : Int) (w : World) (hs : s.size ≤ 1000000) (hm : ML w) (h : wiO s.data.toList = .bad st) : Calls Tryz.prog 16 #[.string s] w (Ret w (.tuple #[.agg #[.int .i64 st, .string ⟨#[]⟩, .string ⟨#[]⟩, .bool false], .int .i64 s.size, .bool false])) := by
  have := wi_One s w hs hm
  unfold oneV at this
  rw [h] at this
  simp only [size_toList] at this
  exact this
theorem one_done (s H B : ByteArray) (k : Bool) (n : Nat) (w : World) (hs : s.size ≤ 1000000) (hm : ML w) (h : wiO s.data.toList = .done H.data.toList B.data.toList k n) : Calls Tryz.prog 16 #[.string s] w (Ret w (.tuple #[.agg #[.int .i64 200, .string H, .string B, .bool k], .int .i64 n, .bool false])) := by
  have := wi_One s w hs hm
  unfold oneV at this
  rw [h] at this
  simp only [str_mk] at this
  exact this
theorem wi_request (m b : ByteArray) (w : World) (hm : m.size ≤ 1000000) (hb : b.size ≤ 1000000) : Calls Tryz.prog 15 #[.string m, .string b] w fun e w' => e = .returned (.string ⟨(rqT m.data.toList b.data.toList).toArray⟩) ∧ w' = w := by
  have h : ((⟨#[80, 79, 83, 84, 32, 47, 104, 116, 116, 112, 45, 98, 105, 110, 100, 32, 72, 84, 84, 80, 47, 49, 46, 49, 13, 10, 104, 111, 115, 116, 58, 32, 97, 13, 10]⟩ ++ m) ++ ⟨#[13, 10]⟩) ++ b = (⟨(rqT m.data.toList b.data.toList).toArray⟩ : ByteArray) := by
    apply str_ext
    rw [app_data, app_data, app_data]
    unfold rqT
    have : postL ++ 13 :: 10 :: hdL hostP = [80, 79, 83, 84, 32, 47, 104, 116, 116, 112, 45, 98, 105, 110, 100, 32, 72, 84, 84, 80, 47, 49, 46, 49, 13, 10, 104, 111, 115, 116, 58, 32, 97, 13, 10] := by decide +kernel
    have e : postL ++ 13 :: 10 :: (hdL hostP ++ (m.data.toList ++ 13 :: 10 :: b.data.toList)) = (postL ++ 13 :: 10 :: hdL hostP) ++ (m.data.toList ++ 13 :: 10 :: b.data.toList) := by simp
    rw [e, this]
    simp
  obtain ⟨X, hX⟩ : ∃ X : ByteArray, ⟨(rqT m.data.toList b.data.toList).toArray⟩ = X := ⟨_, rfl⟩
  rw [hX] at h ⊢
  have H := Lib.hid h
  have n1 : ¬ 9223372036854775807 < 35 + m.size := by omega
  have n2 : ¬ 9223372036854775807 < 35 + m.size + 2 := by omega
  have n3 : ¬ 9223372036854775807 < 35 + m.size + 2 + b.size := by omega
  clear h hX
  go_enter Tryz.func15, Tryz.ntmps15
  go_wp2_with fail
  go_ret
  exact ⟨ret_s H.out, rfl⟩
def aliveS : List UInt8 := rqT [99, 111, 110, 116, 101, 110, 116, 45, 108, 101, 110, 103, 116, 104, 58, 32, 50, 13, 10] [97, 98]
theorem aliveS_len : aliveS.length = 58 := by decide +kernel
theorem aliveS_one : wiO (aliveS ++ [120]) = .done [97] [97, 98] true 58 := by
  have h : oneT [97, 98] true = aliveS := by decide +kernel
  have := (one_whole [97, 98] true (by decide)).1
  rw [h, aliveS_len] at this
  have hne : wiO aliveS ≠ .more := by rw [this]; intro h; cases h
  rw [wiO_app [120] hne, this]
set_option maxHeartbeats 4000000 in
theorem alive17 (w : World) (hm : ML w) : Calls Tryz.prog 19 #[] w (Ret w (.bool true)) := by
  have R0 := fun w => wi_request ⟨#[99, 111, 110, 116, 101, 110, 116, 45, 108, 101, 110, 103, 116, 104, 58, 32, 50, 13, 10]⟩ ⟨#[97, 98]⟩ w (by decide) (by decide)
  obtain ⟨X, hX⟩ : ∃ X : ByteArray, ⟨(rqT (⟨#[99, 111, 110, 116, 101, 110, 116, 45, 108, 101, 110, 103, 116, 104, 58, 32, 50, 13, 10]⟩ : ByteArray).data.toList (⟨#[97, 98]⟩ : ByteArray).data.toList).toArray⟩ = X := ⟨_, rfl⟩
  have hXl : X.data.toList = aliveS := by rw [← hX]; rfl
  have zX : X.size = 58 := by rw [← size_toList, hXl]; exact aliveS_len
  rw [hX] at R0
  have hd : wiO (X ++ ⟨#[120]⟩).data.toList = .done (⟨#[97]⟩ : ByteArray).data.toList (⟨#[97, 98]⟩ : ByteArray).data.toList true 58 := by
    rw [app_data, hXl]
    exact aliveS_one
  have O0 := fun w hm => one_done (X ++ ⟨#[120]⟩) ⟨#[97]⟩ ⟨#[97, 98]⟩ true 58 w (by rw [ByteArray.size_append, zX]; decide) hm hd
  have RH := Lib.hid R0
  have OH := Lib.hid O0
  have HM := Lib.hid hm
  have n1 : ¬ 9223372036854775807 < X.size + 1 := by omega
  clear R0 O0 hX hXl hm hd
  go_enter Tryz.func19, Tryz.ntmps19
  go_wp2_with fail
  refine (RH.out _).mono ?_
  rintro e w1 ⟨rfl, rfl⟩
  go_wp2_with fail
  refine (OH.out _ HM.out).mono ?_
  rintro e w2 ⟨rfl, hb⟩
  go_wp2_with fail
  go_ret
  exact ⟨rfl, hb.alloc hb.size _⟩
end Go.Proofs.YthgmgmbjjjnhnaaGreatDoor
