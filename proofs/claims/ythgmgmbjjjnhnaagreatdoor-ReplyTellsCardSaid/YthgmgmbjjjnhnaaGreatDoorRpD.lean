/- reply.statuses, guess's closure, and IndexFunc at it. -/
import Derived.Test.YthgmgmbjjjnhnaaGreatDoorRpC
namespace Go.Proofs.YthgmgmbjjjnhnaaGreatDoor
open Go.RowKit

abbrev cdV : Array Value := #[.int .i64 200, .int .i64 400, .int .i64 403, .int .i64 404, .int .i64 405, .int .i64 413, .int .i64 505]
theorem rp_statuses (w : World) : Calls Tryz.prog 60 #[] w fun e w' => e = .returned (.slice (some ⟨w.heap.size, 0, none⟩) 7 7) ∧ w' = w.alloc (.cells cdV 3) := by
  go_enter Tryz.func60, Tryz.ntmps60
  go_wp2_with fail
  go_ret
  exact ⟨rfl, rfl⟩
def isCode (x : List UInt8) (c : Int) : Bool := decide (stT c = x ++ [13, 10])
theorem stN_code {c : Int} (h : c ∈ codes) : stN c ≠ [] := by
  unfold codes at h
  simp only [List.mem_cons, List.not_mem_nil, or_false] at h
  rcases h with rfl | rfl | rfl | rfl | rfl | rfl | rfl <;> decide
theorem stT_code {c : Int} (h : c ∈ codes) : (stT c).length ≤ 50 := by
  unfold codes at h
  simp only [List.mem_cons, List.not_mem_nil, or_false] at h
  rcases h with rfl | rfl | rfl | rfl | rfl | rfl | rfl <;> decide +kernel
set_option maxHeartbeats 4000000 in
theorem gs_1 (c : Int) (hc : c ∈ codes) (G : Nat) (X : ByteArray) (w : World) (ht : Tab w) (hG : w.cell? ⟨G, 0, none⟩ = some (.string X)) (hlt : G < w.heap.size) (zX : X.size ≤ 1000000) :
    Calls Tryz.prog 61 #[.int .i64 c, .pointer (some ⟨G, 0, none⟩)] w (Ret w (.bool (isCode X.data.toList c))) := by
  have S0 := ln_Status c w ht
  unfold stV at S0
  rw [if_neg (stN_code hc)] at S0
  obtain ⟨F, hF⟩ : ∃ F : ByteArray, ⟨(stT c).toArray⟩ = F := ⟨_, rfl⟩
  rw [hF] at S0
  have hFl : F.data.toList = stT c := by rw [← hF]
  unfold isCode
  rw [← hFl]
  have hb : (F.toList == (X ++ ⟨#[13, 10]⟩).toList) = decide (F.data.toList = X.data.toList ++ [13, 10]) := by
    rw [beq_str F (X ++ ⟨#[13, 10]⟩) F.data.toList (X.data.toList ++ [13, 10]) rfl (by rw [app_data])]
  obtain ⟨r, hr⟩ : ∃ r, decide (F.data.toList = X.data.toList ++ [13, 10]) = r := ⟨_, rfl⟩
  rw [hr] at hb ⊢
  have S := Lib.hid S0
  clear S0 hF hFl hr ht hc
  go_enter Tryz.func61, Tryz.ntmps61
  go_wp2_with fail
  refine S.out.mono ?_
  rintro e w1 ⟨rfl, hb1⟩
  have c1 := ((bcell hb1).1 _ 0 hlt).trans hG
  go_wp2_with fail
  go_ret
  exact ⟨rfl, hb1⟩
/-- What IndexFunc answers. -/
def IdxIs (x : List UInt8) (m : Int) : Prop := (m = -1 ∧ codes.find? (isCode x) = none) ∨ ∃ (i : Nat) (c : Int), m = i ∧ i < 7 ∧ codes[i]? = some c ∧ codes.find? (isCode x) = some c
theorem find_at {x : List UInt8} {i : Nat} {c : Int} (hi : codes[i]? = some c) (hno : (codes.take i).all (fun c => !isCode x c) = true) (hy : isCode x c = true) : codes.find? (isCode x) = some c := by
  have h := List.getElem?_eq_some_iff.1 hi
  obtain ⟨hlt, he⟩ := h
  have e : codes = codes.take i ++ c :: codes.drop (i + 1) := by
    rw [← he, ← List.drop_eq_getElem_cons hlt, List.take_append_drop]
  rw [e, List.find?_append]
  have hn : (codes.take i).find? (isCode x) = none := by
    rw [List.find?_eq_none]
    intro d hd
    have := List.all_eq_true.1 hno d hd
    simpa using this
  rw [hn]
  simp [hy]
set_option maxHeartbeats 4000000 in
theorem idx_cd (B G : Nat) (X : ByteArray) (w : World) (ht : Tab w) (hG : w.cell? ⟨G, 0, none⟩ = some (.string X)) (hlt : G < w.heap.size) (zX : X.size ≤ 1000000) (hB : B < w.heap.size) (hC : ∀ j (h : j < codes.length), w.cell? ⟨B, j, none⟩ = some (.int .i64 codes[j])) :
    Calls Tryz.prog 59 #[.slice (some ⟨B, 0, none⟩) 7 7, .func (.func 61) #[] #[.pointer (some ⟨G, 0, none⟩)]] w fun e w' => ∃ m : Int, e = .returned (.int .i64 m) ∧ IdxIs X.data.toList m ∧ Below w.heap.size w w' := by
  have HC := Lib.hid hC
  have HT := Lib.hid ht
  have hlen : codes.length = 7 := rfl
  clear hC ht
  go_enter Tryz.func59, Tryz.ntmps59
  go_wp2_with fail
  go_loopw [8] (fun i wr => ∃ k : Nat, k ≤ 7 ∧ i = .int .i64 k ∧ (codes.take k).all (fun c => !isCode X.data.toList c) = true ∧ Below w.heap.size w wr) (fun i _ => 7 - (intOf i).toNat)
  case atStart => exact ⟨0, Nat.zero_le _, rfl, rfl, Below.refl _ _⟩
  case round =>
    obtain ⟨k, hk, rfl, hall, hBw⟩ := hrel
    have HA := Lib.hid hall
    clear hall
    by_cases hlt7 : k < 7
    · have hx : k < codes.length := by rw [hlen]; exact hlt7
      have c1 := ((bcell hBw).1 B k hB).trans (HC.out k hx)
      have T := gs_1 codes[k] (List.getElem_mem hx) G X wr (HT.out.ret hBw) (((bcell hBw).1 G 0 hlt).trans hG) (Nat.lt_of_lt_of_le hlt hBw.size) zX
      have hsn : (codes.take (k + 1)).all (fun c => !isCode X.data.toList c) = !isCode X.data.toList codes[k] := by
        rw [List.take_succ_eq_append_getElem hx, List.all_append, HA.out]
        simp
      have hgk : codes[k]? = some codes[k] := List.getElem?_eq_getElem hx
      obtain ⟨c, hc⟩ : ∃ c, codes[k] = c := ⟨_, rfl⟩
      rw [hc] at c1 T hsn hgk
      obtain ⟨r, hr⟩ : ∃ r, isCode X.data.toList c = r := ⟨_, rfl⟩
      rw [hr] at T hsn
      have TH := Lib.hid T
      have HGK := Lib.hid hgk
      have HR := Lib.hid hr
      have HSN := Lib.hid hsn
      have HB := Lib.hid hBw
      have hsz := hBw.size
      have g1 : (k : Int) < 7 := by omega
      clear T hgk hr hsn hc hx hBw
      cases r with
      | true =>
        go_wp2_with fail
        refine (TH.out).mono ?_
        rintro e w2 ⟨rfl, hb2⟩
        have q2 := HB.out.trans (hb2.mono hsz)
        clear hb2
        go_wp2_with fail
        go_ret
        exact ⟨(k : Int), rfl, .inr ⟨k, c, rfl, hlt7, HGK.out, find_at HGK.out HA.out HR.out⟩, q2⟩
      | false =>
        go_wp2_with fail
        refine (TH.out).mono ?_
        rintro e w2 ⟨rfl, hb2⟩
        have q2 := HB.out.trans (hb2.mono hsz)
        clear hb2
        go_wp2_with fail
        go_roundw
        case rel => exact ⟨k + 1, by omega, by go_num, by rw [HSN.out]; rfl, q2⟩
        case measure => simp [intOf]; omega
    · obtain rfl : k = 7 := by omega
      have ha := HA.out
      rw [List.take_of_length_le (by rw [hlen]; exact Nat.le_refl _)] at ha
      have hno : codes.find? (isCode X.data.toList) = none := by
        rw [List.find?_eq_none]
        intro d hd
        have := List.all_eq_true.1 ha d hd
        simpa using this
      have HNO := Lib.hid hno
      clear ha hno HA
      go_wp2_with fail
      go_ret
      exact ⟨-1, rfl, .inl ⟨rfl, HNO.out⟩, hBw⟩
end Go.Proofs.YthgmgmbjjjnhnaaGreatDoor
